import Derived.Test.YteddcbknadbbgaaGreatModels
import Derived.Test.YteddcbknadbbgaaGreatModels2
import Derived.Test.YteddcbknadbbgaaGreatAl2
set_option linter.unusedVariables false
set_option linter.unusedSimpArgs false
set_option maxRecDepth 100000
open List renaming append_assoc → YAA, append_nil → YAB, drop_append_of_le_length → YAC, drop_drop → YAD, drop_eq_getElem_cons → YAE, drop_eq_nil_of_le → YAF, drop_left' → YAG, drop_take → YAH, flatMap_append → YAI, flatMap_cons → YAJ, flatMap_nil → YAK, getD_eq_getElem?_getD → YAL, getElem?_eq_getElem → YAM, getElem?_map → YAN, getElem_mem → YAO, length_append → YAP, length_cons → YAQ, length_drop → YAR, length_nil → YAS, length_take → YAT, map_append → YAU, map_cons → YAV, map_nil → YAW, nil_append → YAX, not_mem_nil → YAY, range_succ → YAZ, replicate_succ → YAa, replicate_zero → YAb, set_append_right → YAc, set_cons_zero → YAd, sum_append → YAe, sum_cons → YAf, sum_nil → YAg, take_append_drop → YAh, take_append_of_le_length → YAi, take_left' → YAj, take_of_length_le → YAk, take_succ_eq_append_getElem → YAl
open Int renaming emod_eq_of_lt → YAm, natCast_mul → YAn, natCast_nonneg → YAo, tdiv_eq_ediv_of_nonneg → YAp, tmod_eq_emod_of_nonneg → YAq, toNat_natCast → YAr
open Nat renaming add_sub_cancel_left → YAs, le_refl → YAt, mul_le_mul_right → YAu, pow_le_pow_right → YAv, pow_succ → YAw, sub_self → YAx, sub_zero → YAy, zero_add → YAz, zero_le → YA0
open Bool renaming and_eq_true → YA1, false_eq_true → YA2, not_true → YA3
open Option renaming getD_some → YA4
open UInt8 renaming toNat_ofNat' → YA5
open Vector renaming getElem_setIfInBounds → YA6, toList_setIfInBounds → YA7
namespace Go.Proofs.Tryz
open Go Go.Al
theorem ZCf.s {n:Int} {h:Heap} {K:Bool→Heap→Prop} (hK:K (decide (n=1∨n=2∨n=4)) h):ZCf.C n h K:=by
 apply ZCf.c;unfold ZCf.m;refine jn_at (decide (n=1∨n=2∨n=4),()) h ?_ hK;by_cases h1:n=1
 ·simp[h1]
 ·by_cases h2:n=2
  ·simp[h2]
  ·simp[h1,h2]
theorem be_get {x n i:Nat} (h:i<n):(be x n)[i]? = some (UInt8.ofNat (x/256^(n-1-i))):=by simp[be,h]
theorem be_size {x n:Nat}:(⟨(be x n).toArray⟩:ByteArray).size=n:=by simp[ByteArray.size,be_len]
theorem fits_iff {x n:Nat} (hn:n≤8):shrI (x:Int) (w64 (8*(n:Int)))=0↔x<256^n:=by
 rw[w64_id (by omega) (by omega),show (8*(n:Int))=((8*n:Nat):Int) by omega,shrI_nat _ _ (by omega),Nat.pow_mul];have:(2:Nat)^8=256:=by decide
 rw[this];have hp:0<(256:Nat)^n:=Nat.pow_pos (by decide)
 constructor
 ·intro e;have e:x/256^n=0:=by omega
  exact (Nat.div_eq_zero_iff_lt hp).1 e
 ·intro e;rw[(Nat.div_eq_zero_iff_lt hp).2 e];rfl
theorem ZCi.s {x n:Nat} {h:Heap} {K:ByteArray→Bool→Heap→Prop} (hn:n=1∨n=2∨n=4) (hx:x<256^n) (hK:∀h',Keep [] h h'→K ⟨(be x n).toArray⟩ true h'):ZCi.C x n h K:=by
 apply ZCi.c;unfold ZCi.m;refine jn_at (false,()) h ?_ ?_
 ·refine ZCf.s ?_;have hs:((n:Int)=1∨(n:Int)=2∨(n:Int)=4):=by omega
  have h0:¬(x:Int)<0:=by omega
  simp only [hs,decide_true,YA3,YA2,if_false,h0,decide_false];refine ⟨by rw[w64_id (by omega) (by omega)];omega,?_,by first | rfl | trivial⟩;have:=(fits_iff (x:=x) (n:=n) (by omega)).2 hx;simp[this]
 simp only [YA2,if_false];refine ⟨by omega,by omega,by omega,by omega,?_⟩;refine lp_go (fun (y:Int×Unit) (h1:Heap)=>0≤y.1∧y.1≤n∧Keep [] h h1∧Row h1 t_uint8 .u8 ⟨some ⟨h.size,0⟩,n,n⟩ ((be x n).take y.1.toNat++List.replicate (n-y.1.toNat) 0)) (fun (y:Int×Unit) _=>n-y.1.toNat) ?_ ?_
 ·refine ⟨by simp,by simp,keep_push,?_⟩;refine Row.of_new (zs:=[]) (b:=h.size) ?_ rfl (by simp) (by simp);rw[YAB];exact get_push
 ·rintro ⟨(i:Int),_⟩ h1 ⟨i0,i1,hk,r⟩;simp only at *;have hbl:(be x n).length=n:=be_len;split
  ·rename_i hlt
   have hlt:i<n:=by simpa using hlt
   obtain ⟨t,rfl⟩:∃t:Nat,i=t:=⟨i.toNat,by omega⟩;have hw:w64 ((t:Int)+1)=(t:Int)+1:=w64_id (by omega) (by omega);have hw1:w64 ((n:Int)-1)=(n:Int)-1:=w64_id (by omega) (by omega);have hw2:w64 ((n:Int)-1-(t:Int))=((n-1-t:Nat):Int):=w6 (by omega);have hw3:w64 (8*((n-1-t:Nat):Int))=((8*(n-1-t):Nat):Int):=w6 (by omega);rw[hw,hw1,hw2,hw3];refine ⟨by omega,?_⟩;rw[shrI_nat _ _ (by omega),u8I_nat,Nat.pow_mul,show (2:Nat)^8=256 by decide];refine ix_st r i0 (by simp;omega) rfl fun h2 k2 r2 =>?_;refine ⟨⟨by omega,by omega,hk.new k2 (by simp[own]),?_⟩,by omega⟩;rw[show ((t:Int)+1).toNat=t+1 by omega];simp only [YAr] at r2;rw[YAc _ _ (by simp;omega)] at r2;have e0:t-((be x n).take t).length=0:=by simp;omega
   rw[e0,show n-t=(n-(t+1))+1 by omega,YAa,YAd] at r2;rw[List.take_add_one,be_get (by omega)];simpa using r2
  ·rename_i hge
   have hge:¬i<n:=by simpa using hge
   obtain rfl:i=n:=by omega
   simp only [YAr,YAx,YAb,YAB] at r;rw[YAk (by omega)] at r;exact b2s_seg r.seg fun q=>hK h1 hk
theorem ZAA.s {x n:Nat} {h:Heap} {K:ByteArray→Heap→Prop} (hn:1≤n) (hn':n≤8) (hx:x<9223372036854775808) (hK:∀h',Keep [] h h'→K ⟨(be x n).toArray⟩ h'):ZAA.C x n h K:=by
 apply ZAA.c;unfold ZAA.m;refine ⟨by omega,by omega,by omega,by omega,?_⟩;have hbl:(be x n).length=n:=be_len;refine lp_go (fun (y:Int×Int×Unit) (h1:Heap) => -1≤y.2.1∧y.2.1<n∧y.1=((x/256^(n-(y.2.1+1).toNat):Nat):Int)∧Keep [] h h1∧Row h1 t_uint8 .u8 ⟨some ⟨h.size,0⟩,n,n⟩ (List.replicate (y.2.1+1).toNat 0++(be x n).drop (y.2.1+1).toNat)) (fun (y:Int×Int×Unit) _=>(y.2.1+1).toNat) ?_ ?_
 ·have hw:w64 ((n:Int)-1)=(n:Int)-1:=w64_id (by omega) (by omega);rw[hw];have e:((n:Int)-1+1).toNat=n:=by omega
  refine ⟨by simp only;omega,by simp only;omega,?_,keep_push,?_⟩
  ·simp only [e];simp
  ·simp only [e];refine Row.of_new (zs:=[]) (b:=h.size) ?_ rfl (by simp;omega) (by simp;omega);rw[YAB,YAF (by omega),YAB];exact get_push
 ·rintro ⟨(p:Int),(i:Int),_⟩ h1 ⟨i0,i1,hp,hk,r⟩;simp only at *;split
  ·rename_i hge
   have hge:i≥0:=by simpa using hge
   obtain ⟨t,rfl⟩:∃t:Nat,i=t:=⟨i.toNat,by omega⟩;have e1:((t:Int)+1).toNat=t+1:=by omega
   rw[e1] at hp r;have hw:w64 ((t:Int)-1)=(t:Int)-1:=w64_id (by omega) (by omega);have e8:(((8:UInt64).toNat:Int))=((8:Nat):Int):=by decide
   rw[hw,e8,hp,shrI_nat _ _ (by decide)];have hm:=andI_mask ((x/256^(n-(t+1)):Nat):Int) (k:=8) (by decide);have e255:((2^8-1:Nat):Int)=255:=by decide
   rw[e255] at hm
   have eb:u8I (andI ((x/256^(n-(t+1)):Nat):Int) 255)=UInt8.ofNat (x/256^(n-1-t)):=by
    rw[hm,←Int.natCast_emod,u8I_nat];apply UInt8.toNat_inj.1;rw[YA5,YA5,show n-(t+1)=n-1-t by omega];simp
   rw[eb];refine ix_st r (by omega) (by simp;omega) rfl fun h2 k2 r2 =>?_;refine ⟨by decide,⟨by omega,by omega,?_,hk.new k2 (by simp[own]),?_⟩,by omega⟩
   ·have e2:((t:Int)-1+1).toNat=t:=by omega
    rw[e2,Nat.div_div_eq_div_mul,show (2:Nat)^8=256 by decide,←YAw,show (n-(t+1)).succ=n-t by omega]
   ·have e2:((t:Int)-1+1).toNat=t:=by omega
    rw[e2];simp only [YAr] at r2;rw[List.set_append_left _ _ (by simp),List.replicate_succ',YAc _ _ (by simp)] at r2;have e0:t-(List.replicate t (0:UInt8)).length=0:=by simp
    rw[e0,YAd] at r2;have ht:t<(be x n).length:=by omega
    rw[YAE ht]
    have hg:(be x n)[t]=UInt8.ofNat (x/256^(n-1-t)):=by
     have:=be_get (x:=x) (n:=n) (i:=t) (by omega);rw[YAM ht] at this;exact Option.some.inj this
    rw[hg];simpa using r2
  ·rename_i hge
   have hge:¬i≥0:=by simpa using hge
   obtain rfl:i = -1:=by omega
   have e1:((-1:Int)+1).toNat=0:=by decide
   rw[e1] at r;simp only [YAb,YAX,List.drop_zero] at r;exact b2s_seg r.seg fun q=>hK h1 hk
abbrev WK:Kd := .ag (.pr .sl .un)
structure IsW (h:Heap) (w:Nat) (s:Slc) (bs:List UInt8):Prop where
 o:h[w]? = some (vobj t_wire_Writer WK (s,()))
 r:Row h t_uint8 .u8 s bs
 nd:w∉own s
theorem IsW.keep {h h':Heap} {w:Nat} {s:Slc} {bs:List UInt8} {S:List Nat} (i:IsW h w s bs) (k:Keep S h h') (h1:w∉S) (h2:∀b∈own s,b∉S):IsW h' w s bs:=⟨k.get i.o h1,i.r.keep k h2,i.nd⟩
theorem IsW.f {h:Heap} {w:Nat} {s:Slc} {bs:List UInt8} (i:IsW h w s bs):sm .sl ((Pl.mk w 0).fld 0) s h:=sm_fld i.o rfl (by decide)
theorem ZBs.s {h:Heap} {K:Option Pl→Heap→Prop} (hK:∀h',Keep [] h h'→IsW h' h.size ⟨none,0,0⟩ []→K (some ⟨h.size,0⟩) h'):ZBs.C h K:=by
 apply ZBs.c;unfold ZBs.m;refine new_go (hK _ keep_push ⟨get_push,Row.nil,by simp[own]⟩)
theorem ZAJ.s {h:Heap} {w:Nat} {s:Slc} {bs:List UInt8} {K:ByteArray→Heap→Prop} (i:IsW h w s bs) (hK:K ⟨bs.toArray⟩ h):ZAJ.C (some ⟨w,0⟩) h K:=by
 apply ZAJ.c;unfold ZAJ.m;simp only [reduceCtorEq,decide_false,YA2,if_false];refine ⟨_,rfl,_,i.f,?_⟩;exact b2s_seg i.r.seg fun q=>hK
def lens (ps:List ByteArray):Nat:=(ps.map ByteArray.size).sum
def cat (ps:List ByteArray):List UInt8:=ps.flatMap fun p=>p.data.toList
theorem lens_take {ps:List ByteArray} {t:Nat} (h:t<ps.length):lens (ps.take (t+1))=lens (ps.take t)+ps[t].size:=by
 unfold lens;rw[YAl h];simp only [YAU,YAe,YAV,YAW,YAf,YAg,Nat.add_zero]
theorem cat_take {ps:List ByteArray} {t:Nat} (h:t<ps.length):cat (ps.take (t+1))=cat (ps.take t)++ps[t].data.toList:=by
 unfold cat;rw[YAl h];simp only [YAI,YAJ,YAK,YAB]
theorem lens_mono {ps:List ByteArray} (t:Nat):lens (ps.take t)≤lens ps:=by
 have:lens ps=lens (ps.take t)+lens (ps.drop t):=by
  unfold lens;rw[←YAe,←YAU,YAh]
 omega
theorem cat_len (ps:List ByteArray):(cat ps).length=lens ps:=by
 unfold cat lens
 induction ps with
 | nil=>rfl
 | cons p r ih=>simp only [YAJ,YAP,ih,YAV,YAf];rfl
theorem ZAZ.s {h:Heap} {w T:Nat} {s ps:Slc} {bs:List UInt8} {parts:List ByteArray} {K:Int→Heap→Prop} (i:IsW h w s bs) (r:Row h T .s ps parts) (hw:∀b∈own ps,b≠w) (hs:∀b∈own ps,b∉own s) (hb:bs.length≤65536)
 (hp:∀p∈parts,p.size≤1099511627776) (hn:parts.length≤1048576) (hbad:65536<bs.length+lens parts→K 302 h)
 (hK:bs.length+lens parts≤65536→∀h' s',Keep (w::own s) h h'→IsW h' w s' (bs++cat parts)→(∀b∈own s',b∈own s∨h.size≤b)→K 0 h'):ZAZ.C (some ⟨w,0⟩) ps h K:=by
 apply ZAZ.c;unfold ZAZ.m;refine ⟨_,rfl,_,i.f,?_⟩;have hlen:=i.r.len;have hpl:=r.len;refine lp_go (fun (y:Int×Int×Unit) (h1:Heap)=>h1=h∧0≤y.2.1∧y.2.1≤parts.length∧y.1=((bs.length+lens (parts.take y.2.1.toNat):Nat):Int)∧bs.length+lens (parts.take y.2.1.toNat)≤65536) (fun (y:Int×Int×Unit) _=>parts.length-y.2.1.toNat) ?_ ?_
 ·exact ⟨rfl,by simp,by simp,by simp[lens,hlen],by simpa[lens] using hb⟩
 ·rintro ⟨(p:Int),(q:Int),_⟩ h1 ⟨rfl,q0,q1,hpq,hle⟩;simp only at *;split
  ·rename_i hlt
   have hlt:q<ps.len:=by simpa using hlt
   obtain ⟨t,rfl⟩:∃t:Nat,q=t:=⟨q.toNat,by omega⟩;have ht:t<parts.length:=by omega
   have hsz:=hp parts[t] (YAO ht);refine ix_ld (x:=parts[t]) r q0 (by simp[ht]) rfl ?_;simp only [YAr] at hpq hle;have hlt':=lens_take ht;have hw1:w64 ((t:Int)+1)=(t:Int)+1:=w64_id (by omega) (by omega);have hw2:w64 (p+(parts[t].size:Int))=((bs.length+lens (parts.take (t+1)):Nat):Int):=w6 (by omega);rw[hw1,hw2];split
   ·rename_i hgt
    have hgt:((bs.length+lens (parts.take (t+1)):Nat):Int)>65536:=by simpa using hgt
    have:=lens_mono (ps:=parts) (t+1);exact hbad (by omega)
   ·rename_i hgt
    have hgt:¬((bs.length+lens (parts.take (t+1)):Nat):Int)>65536:=by simpa using hgt
    have e:((t:Int)+1).toNat=t+1:=by omega
    refine ⟨⟨by first | rfl | trivial,by omega,by omega,?_,?_⟩,by omega⟩
    ·rw[e]
    ·rw[e];omega
  ·rename_i hge
   have hge:¬q<ps.len:=by simpa using hge
   obtain rfl:q=parts.length:=by omega
   simp only [YAr] at hpq hle;rw[YAk (YAt _)] at hpq hle;refine lp_go (fun (y:Int×Unit) (h2:Heap)=>0≤y.1∧y.1≤parts.length∧∃s',Keep (w::own s) h1 h2∧IsW h2 w s' (bs++cat (parts.take y.1.toNat))∧∀b∈own s',b∈own s∨h1.size≤b) (fun (y:Int×Unit) _=>parts.length-y.1.toNat) ?_ ?_
   ·exact ⟨by simp,by simp,s,Keep.rfl,by simpa[cat] using i,fun b hb => .inl hb⟩
   ·rintro ⟨(j:Int),_⟩ h2 ⟨j0,j1,s',k2,i2,o2⟩;simp only at *
    have rp2:Row h2 T .s ps parts:=r.keep k2 (fun b hb hm=>by
     rcases List.mem_cons.1 hm with e | e
     ·exact hw b hb e
     ·exact hs b hb e)
    split
    ·rename_i hlt
     have hlt:j<ps.len:=by simpa using hlt
     obtain ⟨t,rfl⟩:∃t:Nat,j=t:=⟨j.toNat,by omega⟩;have ht:t<parts.length:=by omega
     have hw1:w64 ((t:Int)+1)=(t:Int)+1:=w64_id (by omega) (by omega);rw[hw1];refine ix_ld (x:=parts[t]) rp2 j0 (by simp[ht]) rfl ?_;simp only [YAr] at i2;refine ⟨_,rfl,_,i2.f,?_⟩;have hsz:=hp parts[t] (YAO ht);have hl1:=lens_mono (ps:=parts) t;have hcl:=cat_len (parts.take t);refine ap_row (k := .u8) (ys:=parts[t].data.toList) i2.r rfl rfl (by simp only [YAP,hcl];omega) fun s3 h3 r3 k3 o3 =>?_;have ho3:=own_of o3;refine ⟨_,rfl,?_⟩
     have hw3:w∉own s3:=fun hm=>by
      rcases ho3 w hm with e | e
      ·exact i2.nd e
      ·have:=lt_of_some i2.o;omega
     refine st_fld (x':=(s3,())) (k3.get i2.o i2.nd) (by decide) rfl ?_;have k4:Keep [w] h3 (h3.setIfInBounds w (vobj t_wire_Writer WK (s3,()))):=keep_set;have e:((t:Int)+1).toNat=t+1:=by omega
     refine ⟨⟨by omega,by omega,s3,?_,⟨get_set (k3.get i2.o i2.nd),?_,hw3⟩,?_⟩,by omega⟩
     ·refine (k2.then (U:=w::own s) k3 (fun x hx _=>hx) (fun x hx hl =>?_)).then k4 (fun x hx _=>hx) (fun x hx hl=>by simp at hx;subst hx;exact List.mem_cons_self);rcases o2 x hx with e | e
      ·exact List.mem_cons_of_mem _ e
      ·omega
     ·rw[e,cat_take ht,←YAA];exact r3.keep k4 (fun b hb hm=>by simp at hm;subst hm;exact hw3 hb)
     ·intro b hb;rcases ho3 b hb with e | e
      ·exact o2 b e
      ·have:=k2.1;omega
    ·rename_i hge
     have hge:¬j<ps.len:=by simpa using hge
     obtain rfl:j=parts.length:=by omega
     simp only [YAr] at i2;rw[YAk (YAt _)] at i2;exact hK hle h2 s' k2 i2 o2
theorem ZAC.s {h:Heap} {w x n:Nat} {s:Slc} {bs:List UInt8} {K:Int→Heap→Prop} (i:IsW h w s bs) (hn:n=1∨n=2∨n=4) (hx:x<256^n) (hb:bs.length+n≤65536)
 (hK:∀h' s',Keep (w::own s) h h'→IsW h' w s' (bs++be x n)→(∀b∈own s',b∈own s∨h.size≤b)→K 0 h'):ZAC.C (some ⟨w,0⟩) x n h K:=by
 apply ZAC.c;unfold ZAC.m;simp only [reduceCtorEq,decide_false,YA2,if_false];refine ZCi.s hn hx fun h1 k1 =>?_;simp only [YA3,YA2,if_false];show ZAZ.C _ _ (h1.push (robj t_string .s [⟨(be x n).toArray⟩])) _;have hl1:lens [(⟨(be x n).toArray⟩:ByteArray)]=n:=by simp[lens,ByteArray.size,be_len]
 have i1:=i.keep k1 (by simp) (by simp);have i2:=i1.keep (keep_push (o:=robj t_string .s [⟨(be x n).toArray⟩])) (by simp) (by simp);have lw:=lt_of_some i1.o;have ls:=i1.r.lt;refine ZAZ.s (T:=t_string) i2 (parts:=[⟨(be x n).toArray⟩]) (Row.of_new (zs:=[]) (b:=h1.size) (by rw[YAB];exact get_push) rfl rfl rfl) ?_ ?_ (by omega) ?_ (by simp only [YAQ,YAS];omega) (fun hgt=>by rw[hl1] at hgt;omega) fun _ h' s' k' i' o' =>?_
 ·intro b hb;simp[own] at hb;omega
 ·intro b hb hm;simp[own] at hb;have:=ls b hm;omega
 ·intro p hp;simp only [List.mem_cons,YAY,or_false] at hp;subst hp;rw[be_size];omega
 ·have e:cat [(⟨(be x n).toArray⟩:ByteArray)]=be x n:=by simp[cat]
  rw[e] at i';refine hK h' s' ((k1.then (U:=w::own s) (keep_push (o:=robj t_string .s [⟨(be x n).toArray⟩])) (by simp) (by simp)).then k' (fun x hx _=>hx) (fun x hx _=>hx)) i' fun b hb =>?_;rcases o' b hb with e | e
  ·exact .inl e
  ·right;have:=k1.1;simp at e;omega
theorem ZAv.s {h:Heap} {w n:Nat} {s:Slc} {bs:List UInt8} {x:ByteArray} {K:Int→Heap→Prop} (i:IsW h w s bs) (hn:n=1∨n=2∨n=4) (hx:x.size<256^n) (hb:bs.length+n+x.size≤65536)
 (hK:∀h' s',Keep (w::own s) h h'→IsW h' w s' (bs++(be x.size n++x.data.toList))→(∀b∈own s',b∈own s∨h.size≤b)→K 0 h'):ZAv.C (some ⟨w,0⟩) x n h K:=by
 apply ZAv.c;unfold ZAv.m;simp only [reduceCtorEq,decide_false,YA2,if_false];refine ZCi.s hn hx fun h1 k1 =>?_;simp only [YA3,YA2,if_false];show ZAZ.C _ _ (h1.push (robj t_string .s [⟨(be x.size n).toArray⟩,x])) _
 have hl1:lens [(⟨(be x.size n).toArray⟩:ByteArray),x]=n+x.size:=by
  have:(⟨(be x.size n).toArray⟩:ByteArray).size=n:=be_size;simp only [lens,YAV,YAW,YAf,YAg,this];omega
 have i1:=i.keep k1 (by simp) (by simp);have i2:=i1.keep (keep_push (o:=robj t_string .s [⟨(be x.size n).toArray⟩,x])) (by simp) (by simp);have lw:=lt_of_some i1.o;have ls:=i1.r.lt;refine ZAZ.s (T:=t_string) i2 (parts:=[⟨(be x.size n).toArray⟩,x]) (Row.of_new (zs:=[]) (b:=h1.size) (by rw[YAB];exact get_push) rfl rfl rfl) ?_ ?_ (by omega) ?_ (by simp only [YAQ,YAS];omega) (fun hgt=>by rw[hl1] at hgt;omega) fun _ h' s' k' i' o' =>?_
 ·intro b hb;simp[own] at hb;omega
 ·intro b hb hm;simp[own] at hb;have:=ls b hm;omega
 ·intro p hp;rcases List.mem_cons.1 hp with e | e
  ·subst e;rw[be_size];omega
  ·simp only [List.mem_cons,YAY,or_false] at e;subst e;omega
 ·have e:cat [(⟨(be x.size n).toArray⟩:ByteArray),x]=be x.size n++x.data.toList:=by simp[cat]
  rw[e] at i';refine hK h' s' ((k1.then (U:=w::own s) (keep_push (o:=robj t_string .s [⟨(be x.size n).toArray⟩,x])) (by simp) (by simp)).then k' (fun x hx _=>hx) (fun x hx _=>hx)) i' fun b hb =>?_;rcases o' b hb with e | e
  ·exact .inl e
  ·right;have:=k1.1;simp at e;omega
structure NW (h0 h:Heap) (w:Nat) (s:Slc) (bs:List UInt8):Prop where
 k:Keep [] h0 h
 i:IsW h w s bs
 lw:h0.size≤w
 ls:∀b∈own s,h0.size≤b
theorem NW.step {h0 h h':Heap} {w:Nat} {s s':Slc} {bs bs':List UInt8} (q:NW h0 h w s bs) (k:Keep (w::own s) h h') (i:IsW h' w s' bs') (o:∀b∈own s',b∈own s∨h.size≤b):NW h0 h' w s' bs':=by
 refine ⟨q.k.new k fun b hb =>?_,i,q.lw,fun b hb =>?_⟩
 ·rcases List.mem_cons.1 hb with e | e
  ·rw[e];exact q.lw
  ·exact q.ls b e
 ·rcases o b hb with e | e
  ·exact q.ls b e
  ·exact Nat.le_trans q.k.1 e
theorem NW.keep {h0 h h':Heap} {w:Nat} {s:Slc} {bs:List UInt8} {S:List Nat} (q:NW h0 h w s bs) (k:Keep S h h') (hs:∀b∈S,h.size≤b):NW h0 h' w s bs:=
 ⟨q.k.new k fun b hb=>Nat.le_trans q.k.1 (hs b hb),q.i.keep k (fun hm=>by have:=hs w hm;have:=lt_of_some q.i.o;omega) (fun b hb hm=>by have:=hs b hm;have:=q.i.r.lt b hb;omega),q.lw,q.ls⟩
theorem NW.out {h0 h:Heap} {w:Nat} {s:Slc} {bs:List UInt8} (q:NW h0 h w s bs) {b:Nat} (hb:b<h0.size∨b≠w∧b∉own s):b∉w::own s:=by
 intro hm;rcases List.mem_cons.1 hm with e | e
 ·rcases hb with h1 | h1
  ·have:=q.lw;omega
  ·exact h1.1 e
 ·rcases hb with h1 | h1
  ·have:=q.ls b e;omega
  ·exact h1.2 e
theorem out_step {h:Heap} {w:Nat} {s s':Slc} (o:∀b∈own s',b∈own s∨h.size≤b):∀b,b<h.size→b∉w::own s→b∉w::own s':=by
 intro b hb hn hm;rcases List.mem_cons.1 hm with e | e
 ·exact hn (e ▸ List.mem_cons_self)
 ·rcases o b e with e | e
  ·exact hn (List.mem_cons_of_mem _ e)
  ·omega
theorem NW.num {h0 h:Heap} {w x n:Nat} {s:Slc} {bs:List UInt8} {K:Int→Heap→Prop} (q:NW h0 h w s bs) (hn:n=1∨n=2∨n=4) (hx:x<256^n) (hb:bs.length+n≤65536)
 (hK:∀h' s',NW h0 h' w s' (bs++be x n)→Keep (w::own s) h h'→(∀b,b<h.size→b∉w::own s→b∉w::own s')→K 0 h'):ZAC.C (some ⟨w,0⟩) x n h K:=
 ZAC.s q.i hn hx hb fun h' s' k' i' o'=>hK h' s' (q.step k' i' o') k' (out_step o')
theorem NW.text {h0 h:Heap} {w n:Nat} {s:Slc} {bs:List UInt8} {x:ByteArray} {K:Int→Heap→Prop} (q:NW h0 h w s bs) (hn:n=1∨n=2∨n=4) (hx:x.size<256^n) (hb:bs.length+n+x.size≤65536)
 (hK:∀h' s',NW h0 h' w s' (bs++(be x.size n++x.data.toList))→Keep (w::own s) h h'→(∀b,b<h.size→b∉w::own s→b∉w::own s')→K 0 h'):ZAv.C (some ⟨w,0⟩) x n h K:=
 ZAv.s q.i hn hx hb fun h' s' k' i' o'=>hK h' s' (q.step k' i' o') k' (out_step o')
def rr (x:UInt32) (k:Nat):UInt32:=shU32 .shl x ((32-k:Nat):Int)|||shU32 .shr x (k:Int)
theorem rot7 {x:UInt32} {h:Heap} {K:UInt32→Heap→Prop} (k:Nat) (hk:1≤k∧k≤31) (he:((u64I (-(k:Int)))&&&31).toNat=32-k∧((32-((u64I (-(k:Int)))&&&31)).toNat)=k) (hK:K (rr x k) h):ZAM.C x (-(k:Int)) h K:=by
 apply ZAM.c;unfold ZAM.m;refine ⟨by omega,by omega,?_⟩;rw[he.1,he.2];exact hK
def wordB (l:List UInt8) (n:Nat):UInt32:=
 (((shU32 .shl (UInt32.ofNat (l.getD (4*n) 0).toNat) 24)|||(shU32 .shl (UInt32.ofNat (l.getD (4*n+1) 0).toNat) 16))|||(shU32 .shl (UInt32.ofNat (l.getD (4*n+2) 0).toNat) 8))|||(UInt32.ofNat (l.getD (4*n+3) 0).toNat)
def wordN (w:List UInt32) (n:Nat):UInt32:=
 ((w.getD (n-16) 0+w.getD (n-7) 0)+((rr (w.getD (n-15) 0) 7^^^rr (w.getD (n-15) 0) 18)^^^shU32 .shr (w.getD (n-15) 0) 3))+((rr (w.getD (n-2) 0) 17^^^rr (w.getD (n-2) 0) 19)^^^shU32 .shr (w.getD (n-2) 0) 10)
def sch (l:List UInt8):Nat→List UInt32
 | 0=>[]
 | n+1=>sch l n++[if n<16 then wordB l n else wordN (sch l n) n]
theorem sch_len (l:List UInt8):∀n,(sch l n).length=n
 | 0=>rfl
 | n+1=>by simp[sch,sch_len l n]
theorem sch_step {l:List UInt8} {z:Vector UInt32 64} {t:Nat} (ht:t<64) (hz:z.toList=sch l t++List.replicate (64-t) 0) {y:UInt32} (hy:y=if t<16 then wordB l t else wordN (sch l t) t) :
 (z.setIfInBounds t y).toList=sch l (t+1)++List.replicate (64-(t+1)) 0:=by
 rw[YA7,hz,YAc _ _ (by rw[sch_len];exact YAt _),sch_len,YAx];have:64-t=(64-(t+1))+1:=by omega
 rw[this,YAa,YAd,sch,hy];simp
theorem sch_get {l:List UInt8} {z:Vector UInt32 64} {t j:Nat} (hz:z.toList=sch l t++List.replicate (64-t) 0) (hj:j<t) (hj':j<64):z[j]=(sch l t).getD j 0:=by
 have h1:z[j]=z.toList[j]'(by simpa using hj'):=by simp
 rw[h1];have h2:z.toList[j]? = (sch l t)[j]? := by rw[hz,List.getElem?_append_left (by rw[sch_len];exact hj)]
 rw[YAM (by simpa using hj')] at h2;rw[YAL,←h2]
 rfl
theorem ZCU.s {s:Slc} {l:List UInt8} {h:Heap} {K:Kd.Ty (.ar 64 .u32)→Heap→Prop} (g:Seg .u8 s l h) (hl:l.length=64)
 (hK:∀(w:Vector UInt32 64) h',Keep [] h h'→w.toList=sch l 64→K w h'):ZCU.C s h K:=by
 apply ZCU.c;unfold ZCU.m;refine new_go (new_go ?_);have hlen:=g.len;have k0:Keep [] h ((h.push (vobj t_64_uint32 (.ar 64 .u32) (Vector.replicate 64 (0:UInt32)))).push (vobj t_64_uint32 (.ar 64 .u32) (Vector.replicate 64 (0:UInt32)))):=keep_push.trans keep_push;have e2:((h.push (vobj t_64_uint32 (.ar 64 .u32) (Vector.replicate 64 (0:UInt32)))).push (vobj t_64_uint32 (.ar 64 .u32) (Vector.replicate 64 (0:UInt32))))[(h.push (vobj t_64_uint32 (.ar 64 .u32) (Vector.replicate 64 (0:UInt32)))).size]? = some (vobj t_64_uint32 (.ar 64 .u32) (Vector.replicate 64 (0:UInt32))):=get_push;have e1:((h.push (vobj t_64_uint32 (.ar 64 .u32) (Vector.replicate 64 (0:UInt32)))).push (vobj t_64_uint32 (.ar 64 .u32) (Vector.replicate 64 (0:UInt32))))[h.size]? = some (vobj t_64_uint32 (.ar 64 .u32) (Vector.replicate 64 (0:UInt32))):=get_push_old get_push;have hb:(h.push (vobj t_64_uint32 (.ar 64 .u32) (Vector.replicate 64 (0:UInt32)))).size=h.size+1:=by simp
 show lp _ _ _ ((h.push (vobj t_64_uint32 (.ar 64 .u32) (Vector.replicate 64 (0:UInt32)))).push (vobj t_64_uint32 (.ar 64 .u32) (Vector.replicate 64 (0:UInt32))));generalize (h.push (vobj t_64_uint32 (.ar 64 .u32) (Vector.replicate 64 (0:UInt32)))).size=b2 at e2 hb ⊢;generalize ((h.push (vobj t_64_uint32 (.ar 64 .u32) (Vector.replicate 64 (0:UInt32)))).push (vobj t_64_uint32 (.ar 64 .u32) (Vector.replicate 64 (0:UInt32))))=h0 at k0 e1 e2 ⊢;have e24:(((24:UInt64).toNat:Int))=24:=by decide
 have e16:(((16:UInt64).toNat:Int))=16:=by decide
 have e8:(((8:UInt64).toNat:Int))=8:=by decide
 have e3:(((3:UInt64).toNat:Int))=3:=by decide
 have e10:(((10:UInt64).toNat:Int))=10:=by decide
 rw[e24,e16,e8,e3,e10];refine lp_go (fun (y:Int×Unit) (h3:Heap)=>0≤y.1∧y.1≤64∧Keep [b2] h0 h3∧∃z:Vector UInt32 64,h3[b2]? = some (vobj t_64_uint32 (.ar 64 .u32) z)∧z.toList=sch l y.1.toNat++List.replicate (64-y.1.toNat) 0) (fun (y:Int×Unit) _=>64-y.1.toNat) ?_ ?_
 ·exact ⟨by simp,by simp,Keep.rfl,_,e2,by simp[sch]⟩
 ·rintro ⟨(i:Int),_⟩ h3 ⟨i0,i1,k3,z,hz,hzl⟩;dsimp only at *;obtain ⟨t,rfl⟩:∃t:Nat,i=t:=⟨i.toNat,by omega⟩;simp only [YAr] at hzl;have kk3:Keep [] h h3:=k0.new k3 (by simp;omega);split
  ·rename_i hlt0
   have hlt:t<64:=by
    have:(t:Int)<64:=by simpa using hlt0
    omega
   have hw:w64 ((t:Int)+1)=(t:Int)+1:=w64_id (by omega) (by omega);rw[hw];have ht1:((t:Int)+1).toNat=t+1:=by omega
   refine jn_is () (fun h4=>Keep [b2] h0 h4∧∃z:Vector UInt32 64,h4[b2]? = some (vobj t_64_uint32 (.ar 64 .u32) z)∧z.toList=sch l (t+1)++List.replicate (64-(t+1)) 0) ?_ ?_
   ·by_cases h16:t<16
    ·rw[if_pos (dT (show (t:Int)<16 by omega))];have w0:w64 (4*(t:Int))=((4*t:Nat):Int):=w6 (by omega);have w1:w64 (((4*t:Nat):Int)+1)=((4*t+1:Nat):Int):=w6 (by omega);have w2:w64 (((4*t:Nat):Int)+2)=((4*t+2:Nat):Int):=w6 (by omega);have w3:w64 (((4*t:Nat):Int)+3)=((4*t+3:Nat):Int):=w6 (by omega);rw[w0,w1,w2,w3]
     have gd:∀j:Nat,(hj:j<64)→l[(j:Int).toNat]? = some (l.getD j 0):=fun j hj=>by
      rw[YAr,YAM (by omega),YAL,YAM (by omega)];rfl
     have gg:=g.keep (by decide) kk3;refine seg_ix gg (by omega) (gd (4*t) (by omega)) rfl ⟨by decide,?_⟩;refine seg_ix gg (by omega) (gd (4*t+1) (by omega)) rfl ⟨by decide,?_⟩;refine seg_ix gg (by omega) (gd (4*t+2) (by omega)) rfl ⟨by decide,?_⟩;refine seg_ix gg (by omega) (gd (4*t+3) (by omega)) rfl ⟨by omega,by omega,?_⟩;refine ar_st (i:=t) hz hlt ⟨rfl,k3.then keep_set (fun x hx _=>hx) (fun x hx _=>hx),_,get_set hz,?_⟩;exact sch_step hlt hzl (by rw[if_pos h16];rfl)
    ·rw[if_neg (by simp;omega)];have w15:w64 ((t:Int)-15)=((t-15:Nat):Int):=w6 (by omega);have w2:w64 ((t:Int)-2)=((t-2:Nat):Int):=w6 (by omega);have w16:w64 ((t:Int)-16)=((t-16:Nat):Int):=w6 (by omega);have w7:w64 ((t:Int)-7)=((t-7:Nat):Int):=w6 (by omega);rw[w15,w2,w16,w7]
     have at_:∀j,(hj:j<t)→sm .u32 ⟨b2,0+((j:Nat):Int).toNat*1⟩ ((sch l t).getD j 0) h3:=fun j hj=>by
      rw[←sch_get hzl hj (by omega),YAr];exact ar_sm (i:=j) hz (by omega)
     have s15:=at_ (t-15) (by omega);have s2:=at_ (t-2) (by omega);have s16:=at_ (t-16) (by omega);have s7:=at_ (t-7) (by omega);refine ⟨by omega,by omega,_,s15,by omega,by omega,_,s2,by omega,by omega,_,s16,by omega,by omega,_,s7,by decide,by decide,?_⟩;refine rot7 7 (by decide) (by decide) ⟨s7,s16,?_⟩;refine rot7 18 (by decide) (by decide) ⟨s7,s16,?_⟩;refine rot7 17 (by decide) (by decide) ⟨s7,s16,?_⟩;refine rot7 19 (by decide) (by decide) ⟨s7,s16,?_⟩;refine ⟨by omega,by omega,?_⟩;refine ar_st (i:=t) hz hlt ⟨rfl,k3.then keep_set (fun x hx _=>hx) (fun x hx _=>hx),_,get_set hz,?_⟩;exact sch_step hlt hzl (by rw[if_neg h16];rfl)
   ·rintro h4 ⟨k4,z4,hz4,hzl4⟩;exact ⟨⟨by omega,by omega,k4,z4,hz4,by rw[ht1];exact hzl4⟩,by omega⟩
  ·rename_i hge
   have hge:¬t<64:=fun hh=>hge (dT (show (t:Int)<64 by omega));have ht:t=64:=by omega
   subst ht;refine ⟨z,sm_all hz,?_⟩;have e13:=k3.get e1 (by simp;omega);refine st_all e13 ?_;refine ⟨z,sm_all (get_set e13),?_⟩;refine hK z _ (kk3.new keep_set (by simp)) ?_;simpa using hzl
def kk:Vector UInt32 64 := #v[1116352408,1899447441,3049323471,3921009573,961987163,1508970993,2453635748,2870763221,3624381080,310598401,607225278,1426881987,1925078388,2162078206,2614888103,3248222580,3835390401,4022224774,264347078,604807628,770255983,1249150122,1555081692,1996064986,2554220882,2821834349,2952996808,3210313671,3336571891,3584528711,113926993,338241895,666307205,773529912,1294757372,1396182291,1695183700,1986661051,2177026350,2456956037,2730485921,2820302411,3259730800,3345764771,3516065817,3600352804,4094571909,275423344,430227734,506948616,659060556,883997877,958139571,1322822218,1537002063,1747873779,1955562222,2024104815,2227730452,2361852424,2428436474,2756734187,3204031479,3329325298]
theorem ZB9.s {h:Heap} {K:Kd.Ty (.ar 64 .u32)→Heap→Prop} (hK:∀h',Keep [] h h'→K kk h'):ZB9.C h K:=by
 apply ZB9.c;unfold ZB9.m;refine new_go ?_;refine st_all (k := .ar 64 .u32) (x':=kk) get_push ?_;refine ⟨kk,sm_all (get_set get_push),?_⟩;exact hK _ (keep_push.new keep_set (by simp))
def rnd (k w:UInt32) (s:Vector UInt32 8):Vector UInt32 8:=
 let t:=(((s[7]+((rr s[4] 6^^^rr s[4] 11)^^^rr s[4] 25))+((s[4]&&&s[5])^^^((~~~s[4])&&&s[6])))+k)+w
 let u:=(((rr s[0] 2^^^rr s[0] 13)^^^rr s[0] 22)+(((s[0]&&&s[1])^^^(s[0]&&&s[2]))^^^(s[1]&&&s[2])))
 #v[t+u,s[0],s[1],s[2],s[3]+t,s[4],s[5],s[6]]
def rnds (w:List UInt32) (z:Vector UInt32 8):Nat→Vector UInt32 8
 | 0=>z
 | n+1=>rnd (kk.toList.getD n 0) (w.getD n 0) (rnds w z n)
def turnV (l:List UInt8) (z:Vector UInt32 8):Vector UInt32 8:=Vector.zipWith (· + ·) z (rnds (sch l 64) z 64)
abbrev DGK:Kd := .ag (.pr (.ar 8 .u32) (.pr .sl (.pr .i .un)))
abbrev DGR:Kd := .pr .sl (.pr .i .un)
theorem u32_cells (l:List UInt32):l.flatMap Kd.u32.cells=l.map fun x=>Value.int .u32 x.toNat:=by
 induction l with
 | nil=>rfl
 | cons x r ih=>rw[YAJ,ih];rfl
theorem dg_cells {z:Vector UInt32 8} {r:DGR.Ty}:DGK.cells (z,r)=(z.toList.map fun x=>Value.int .u32 x.toNat)++DGR.cells r:=by
 rw[←u32_cells];rfl
theorem dg_sm {h:Heap} {d T i:Nat} {z:Vector UInt32 8} {r:DGR.Ty} (e:h[d]? = some (vobj T DGK (z,r))) (hi:i<8):sm .u32 ⟨d,0+0+i*1⟩ z[i] h:=by
 have:=sm_fld (n:=i) (k' := .u32) (y:=z[i]) e (by
  rw[dg_cells,YAC (by simp;omega),YAi (by simp[Kd.size];omega)];show _=[Value.int .u32 z[i].toNat];rw[←List.map_drop,←List.map_take];have hl:i<z.toList.length:=by simpa using hi
  rw[YAE hl];simp[Kd.size]) (by show i+1≤10;omega)
 have e2:(Pl.mk d 0).fld i=⟨d,0+0+i*1⟩:=by simp[Pl.fld]
 rw[←e2];exact this
theorem dg_st {h:Heap} {d T i:Nat} {z:Vector UInt32 8} {r:DGR.Ty} {y:UInt32} {K:Heap→Prop} (e:h[d]? = some (vobj T DGK (z,r))) (hi:i<8) (hK:K (h.setIfInBounds d (vobj T DGK (z.setIfInBounds i y,r)))):st .u32 ⟨d,0+0+i*1⟩ y h K:=by
 have e2:(Pl.mk d 0).fld i=⟨d,0+0+i*1⟩:=by simp[Pl.fld]
 rw[←e2];refine st_fld (x':=(z.setIfInBounds i y,r)) e (by show i+1≤10;omega) ?_ hK;rw[dg_cells,dg_cells,YA7,List.set_eq_take_append_cons_drop,if_pos (by simpa using hi)];unfold wrL;have hc:Kd.u32.cells y=[Value.int .u32 y.toNat]:=rfl;rw[hc,YAi (by simp;omega),YAC (by simp;omega)];simp
theorem kk_at {i:Nat} (hi:i<64):kk[i]=kk.toList.getD i 0:=by
 rw[YAL,YAM (by simpa using hi)];simp
theorem w_at {w:Vector UInt32 64} {l:List UInt32} (hw:w.toList=l) {i:Nat} (hi:i<64):w[i]=l.getD i 0:=by
 subst hw;rw[YAL,YAM (by simpa using hi)];simp
theorem sha_turn.s {d:Nat} {z:Vector UInt32 8} {r:DGR.Ty} {s:Slc} {l:List UInt8} {h:Heap} {K:Heap→Prop} (e:h[d]? = some (vobj t_sha_Digest DGK (z,r))) (g:Seg .u8 s l h) (hl:l.length=64)
 (hK:∀h',Keep [d] h h'→h'[d]? = some (vobj t_sha_Digest DGK (turnV l z,r))→K h'):ZCS.C (some ⟨d,0⟩) s h K:=by
 apply ZCS.c;unfold ZCS.m;refine ZB9.s fun h1 k1 =>?_;refine ZCU.s (g.keep (by decide) k1) hl fun w h2 k2 hw =>?_;have k2:=k1.n k2;refine new_go (new_go ?_);have k4:Keep [] h2 ((h2.push (vobj t_64_uint32 (.ar 64 .u32) (Vector.replicate 64 (0:UInt32)))).push (vobj t_64_uint32 (.ar 64 .u32) (Vector.replicate 64 (0:UInt32)))):=keep_push.trans keep_push;have e2:((h2.push (vobj t_64_uint32 (.ar 64 .u32) (Vector.replicate 64 (0:UInt32)))).push (vobj t_64_uint32 (.ar 64 .u32) (Vector.replicate 64 (0:UInt32))))[(h2.push (vobj t_64_uint32 (.ar 64 .u32) (Vector.replicate 64 (0:UInt32)))).size]? = some (vobj t_64_uint32 (.ar 64 .u32) (Vector.replicate 64 (0:UInt32))):=get_push;have e1:((h2.push (vobj t_64_uint32 (.ar 64 .u32) (Vector.replicate 64 (0:UInt32)))).push (vobj t_64_uint32 (.ar 64 .u32) (Vector.replicate 64 (0:UInt32))))[h2.size]? = some (vobj t_64_uint32 (.ar 64 .u32) (Vector.replicate 64 (0:UInt32))):=get_push_old get_push;have hb:(h2.push (vobj t_64_uint32 (.ar 64 .u32) (Vector.replicate 64 (0:UInt32)))).size=h2.size+1:=by simp
 show st _ _ _ ((h2.push (vobj t_64_uint32 (.ar 64 .u32) (Vector.replicate 64 (0:UInt32)))).push (vobj t_64_uint32 (.ar 64 .u32) (Vector.replicate 64 (0:UInt32)))) _;generalize (h2.push (vobj t_64_uint32 (.ar 64 .u32) (Vector.replicate 64 (0:UInt32)))).size=b2 at e2 hb ⊢;have hd2:=lt_of_some (k2.g e);generalize hb1:h2.size=b1 at *;generalize ((h2.push (vobj t_64_uint32 (.ar 64 .u32) (Vector.replicate 64 (0:UInt32)))).push (vobj t_64_uint32 (.ar 64 .u32) (Vector.replicate 64 (0:UInt32))))=h4 at k4 e1 e2 ⊢;have hne:b1≠b2:=by omega
 refine st_all (k := .ar 64 .u32) (x':=kk) e1 ?_;refine st_all (k := .ar 64 .u32) (x':=w) (get_set_ne e2 hne) ?_;have k6:Keep [b1,b2] h4 ((h4.setIfInBounds b1 (vobj t_64_uint32 (.ar 64 .u32) kk)).setIfInBounds b2 (vobj t_64_uint32 (.ar 64 .u32) w)):=(keep_set (b:=b1)).then (keep_set (b:=b2)) (by simp) (by simp);have c1:((h4.setIfInBounds b1 (vobj t_64_uint32 (.ar 64 .u32) kk)).setIfInBounds b2 (vobj t_64_uint32 (.ar 64 .u32) w))[b1]? = some (vobj t_64_uint32 (.ar 64 .u32) kk):=get_set_ne (get_set e1) hne.symm;have c2:((h4.setIfInBounds b1 (vobj t_64_uint32 (.ar 64 .u32) kk)).setIfInBounds b2 (vobj t_64_uint32 (.ar 64 .u32) w))[b2]? = some (vobj t_64_uint32 (.ar 64 .u32) w):=get_set (get_set_ne e2 hne);generalize ((h4.setIfInBounds b1 (vobj t_64_uint32 (.ar 64 .u32) kk)).setIfInBounds b2 (vobj t_64_uint32 (.ar 64 .u32) w))=h6 at k6 c1 c2 ⊢;have kk6:Keep [] h h6:=(k2.n k4).new k6 (by have:=k2.1;simp;omega);have e6:=kk6.g e;refine ⟨_,rfl,z,sm_fld e6 (by rw[dg_cells];show _=z.toList.flatMap Kd.u32.cells;rw[u32_cells];exact YAj (by simp[Kd.size])) (by decide),?_⟩;refine new_go (st_all (k := .ar 8 .u32) (x':=z) get_push ?_);have k8:Keep [] h6 ((h6.push (vobj t_8_uint32 (.ar 8 .u32) (Vector.replicate 8 (0:UInt32)))).setIfInBounds h6.size (vobj t_8_uint32 (.ar 8 .u32) z)):=keep_push.new keep_set (by simp);have c3:((h6.push (vobj t_8_uint32 (.ar 8 .u32) (Vector.replicate 8 (0:UInt32)))).setIfInBounds h6.size (vobj t_8_uint32 (.ar 8 .u32) z))[h6.size]? = some (vobj t_8_uint32 (.ar 8 .u32) z):=get_set get_push;show lp _ _ _ ((h6.push (vobj t_8_uint32 (.ar 8 .u32) (Vector.replicate 8 (0:UInt32)))).setIfInBounds h6.size (vobj t_8_uint32 (.ar 8 .u32) z));have hb3:=kk6.1;have l1:=lt_of_some c1;have l2:=lt_of_some c2;have ld6:=lt_of_some e6;generalize hb3e:h6.size=b3 at *;generalize ((h6.push (vobj t_8_uint32 (.ar 8 .u32) (Vector.replicate 8 (0:UInt32)))).setIfInBounds b3 (vobj t_8_uint32 (.ar 8 .u32) z))=h8 at k8 c3 ⊢;have c1:=k8.g c1;have c2:=k8.g c2;have e8:=k8.g e6;refine lp_go (fun (y:Int×Unit) (h9:Heap)=>0≤y.1∧y.1≤64∧Keep [b3] h8 h9∧h9[b3]? = some (vobj t_8_uint32 (.ar 8 .u32) (rnds (sch l 64) z y.1.toNat))) (fun (y:Int×Unit) _=>64-y.1.toNat) ?_ ?_
 ·exact ⟨by simp,by simp,Keep.rfl,c3⟩
 ·rintro ⟨(i:Int),_⟩ h9 ⟨i0,i1,k9,hz⟩;dsimp only at *;obtain ⟨t,rfl⟩:∃t:Nat,i=t:=⟨i.toNat,by omega⟩;simp only [YAr] at hz;split
  ·rename_i hlt0
   have hlt:t<64:=by
    have:(t:Int)<64:=by simpa using hlt0
    omega
   have hw1:w64 ((t:Int)+1)=(t:Int)+1:=w64_id (by omega) (by omega);rw[hw1];have ht1:((t:Int)+1).toNat=t+1:=by omega
   have d1:=k9.get c1 (by simp;omega);have d2:=k9.get c2 (by simp;omega);have hr:rnds (sch l 64) z (t+1)=rnd (kk.toList.getD t 0) ((sch l 64).getD t 0) (rnds (sch l 64) z t):=rfl;generalize rnds (sch l 64) z t=v at hz hr;have a:∀j,(hj:j<8)→sm .u32 ⟨b3,0+j*1⟩ v[j] h9:=fun j hj=>ar_sm (k := .u32) (i:=j) hz hj;have s0:=a 0 (by decide);have s1:=a 1 (by decide);have s2:=a 2 (by decide);have s3:=a 3 (by decide);have s4:=a 4 (by decide);have s5:=a 5 (by decide);have s6:=a 6 (by decide);have s7:=a 7 (by decide)
   have sk:sm .u32 ⟨b1,0+((t:Nat):Int).toNat*1⟩ (kk.toList.getD t 0) h9:=by
    rw[←kk_at hlt,YAr];exact ar_sm (k := .u32) (i:=t) d1 hlt
   have sw:sm .u32 ⟨b2,0+((t:Nat):Int).toNat*1⟩ ((sch l 64).getD t 0) h9:=by
    rw[←w_at hw hlt,YAr];exact ar_sm (k := .u32) (i:=t) d2 hlt
   refine ⟨by decide,by decide,_,s4,by decide,by decide,_,s0,by decide,by decide,_,s7,by decide,by decide,_,s5,by decide,by decide,_,s6,by omega,by omega,_,sk,by omega,by omega,_,sw,?_⟩;refine rot7 6 (by decide) (by decide) ⟨sw,sk,s6,s5,s7,?_⟩;refine rot7 11 (by decide) (by decide) ⟨sw,sk,s6,s5,s7,?_⟩;refine rot7 25 (by decide) (by decide) ⟨sw,sk,s6,s5,s7,?_⟩;refine ⟨by decide,by decide,_,s1,by decide,by decide,_,s2,by decide,by decide,_,s1,by decide,by decide,_,s2,?_⟩;refine rot7 2 (by decide) (by decide) ⟨s2,s1,s2,s1,?_⟩;refine rot7 13 (by decide) (by decide) ⟨s2,s1,s2,s1,?_⟩;refine rot7 22 (by decide) (by decide) ⟨s2,s1,s2,s1,?_⟩;refine ⟨by decide,by decide,_,s0,by decide,by decide,_,s1,by decide,by decide,_,s2,by decide,by decide,_,s3,by decide,by decide,_,s4,by decide,by decide,_,s5,by decide,by decide,_,s6,?_⟩;refine st_all (k := .ar 8 .u32) (x':=rnd (kk.toList.getD t 0) ((sch l 64).getD t 0) v) hz ?_;refine ⟨⟨by omega,by omega,k9.then keep_set (fun x hx _=>hx) (fun x hx _=>hx),?_⟩,by omega⟩;rw[ht1,hr];exact get_set hz
  ·rename_i hge
   have hge:¬t<64:=fun hh=>hge (dT (show (t:Int)<64 by omega));have ht:t=64:=by omega
   subst ht;have k89:Keep [] h h9:=(kk6.n k8).new k9 (by simp;omega);have e9:=k89.g e;have hturn:turnV l z=Vector.zipWith (· + ·) z (rnds (sch l 64) z 64):=rfl;generalize rnds (sch l 64) z 64=v at hz hturn;have hdb:d≠b3:=by omega
   refine lp_go (fun (y:Int×Unit) (h17:Heap)=>0≤y.1∧y.1≤8∧Keep [d] h9 h17∧∃z':Vector UInt32 8,h17[d]? = some (vobj t_sha_Digest DGK (z',r))∧∀j:Nat,(hj:j<8)→z'[j]=if (j:Int)<y.1 then z[j]+v[j] else z[j]) (fun (y:Int×Unit) _=>8-y.1.toNat) ?_ ?_
   ·exact ⟨by simp,by simp,Keep.rfl,z,e9,fun j hj=>by rw[if_neg (by dsimp only;omega)]⟩
   ·rintro ⟨(i:Int),_⟩ h17 ⟨i0,i1,k17,z',hz',hall⟩;dsimp only at *;obtain ⟨t,rfl⟩:∃t:Nat,i=t:=⟨i.toNat,by omega⟩;split
    ·rename_i hlt0
     have hlt:t<8:=by
      have:(t:Int)<8:=by simpa using hlt0
      omega
     have hw1:w64 ((t:Int)+1)=(t:Int)+1:=w64_id (by omega) (by omega);rw[hw1];have hz17:=k17.get hz (by simpa using hdb.symm)
     have q1:sm .u32 ⟨d,0+0+((t:Nat):Int).toNat*1⟩ z[t] h17:=by
      have:=dg_sm (i:=t) hz' hlt;rw[hall t hlt,if_neg (by omega)] at this;rw[YAr];exact this
     have q2:sm .u32 ⟨b3,0+((t:Nat):Int).toNat*1⟩ v[t] h17:=by
      rw[YAr];exact ar_sm (k := .u32) (i:=t) hz17 hlt
     refine ⟨_,rfl,by omega,by omega,_,q1,by omega,by omega,_,q2,_,rfl,by omega,by omega,?_⟩;refine dg_st (i:=t) (y:=z[t]+v[t]) hz' hlt ?_;refine ⟨⟨by omega,by omega,k17.then keep_set (fun x hx _=>hx) (fun x hx _=>hx),_,get_set hz',fun j hj =>?_⟩,by omega⟩;rw[YA6 hj];split
     ·rename_i e3;subst e3;rw[if_pos (by omega)]
     ·rename_i e3
      rw[hall j hj];by_cases h5:(j:Int)<t
      ·rw[if_pos h5,if_pos (by omega)]
      ·rw[if_neg h5,if_neg (by omega)]
    ·rename_i hge
     have hge:¬t<8:=fun hh=>hge (dT (show (t:Int)<8 by omega))
     have hz8:z'=turnV l z:=by
      rw[hturn];apply Vector.ext;intro j hj;rw[hall j hj,if_pos (by omega)];simp
     rw[hz8] at hz';refine hK h17 ?_ hz';exact k89.then k17 (by simp) (fun x hx _=>hx)
def blks:Nat→List UInt8→Vector UInt32 8→Vector UInt32 8
 | 0,_,z=>z
 | n+1,l,z=>blks n (l.drop 64) (turnV (l.take 64) z)
theorem blks_succ:∀(n:Nat) (l:List UInt8) (z:Vector UInt32 8),blks (n+1) l z=turnV ((l.drop (64*n)).take 64) (blks n l z)
 | 0,l,z=>by simp[blks]
 | n + 1, l, z => by
   rw[blks,blks_succ n,blks,YAD,show 64+64*n=64*(n+1) by omega]
theorem blks_add:∀(m n:Nat) (l:List UInt8) (z:Vector UInt32 8),blks (m+n) l z=blks n (l.drop (64*m)) (blks m l z)
 | 0,n,l,z=>by simp[blks]
 | m + 1, n, l, z => by
   rw[show m+1+n=(m+n)+1 by omega,blks,blks_add m n,blks,YAD,show 64+64*m=64*(m+1) by omega]
theorem blks_app:∀(n:Nat) (l r:List UInt8) (z:Vector UInt32 8),64*n≤l.length→blks n (l++r) z=blks n l z
 | 0,_,_,_,_=>rfl
 | n + 1, l, r, z, h => by
   rw[blks,blks,YAC (by omega),YAi (by omega)];exact blks_app n _ r _ (by simp;omega)
def absZ (z:Vector UInt32 8) (l:List UInt8):Vector UInt32 8:=blks (l.length/64) l z
def absR (l:List UInt8):List UInt8:=l.drop (64*(l.length/64))
theorem absR_len (l:List UInt8):(absR l).length=l.length%64:=by
 unfold absR;rw[YAR];omega
theorem abs_key (a b:List UInt8):(a++b).length/64=a.length/64+(absR a++b).length/64∧(a++b).drop (64*(a.length/64))=absR a++b:=by
 constructor
 ·rw[YAP,YAP,absR_len];omega
 ·unfold absR;rw[YAC (by omega)]
theorem absZ_app (z:Vector UInt32 8) (a b:List UInt8):absZ (absZ z a) (absR a++b)=absZ z (a++b):=by
 obtain ⟨h1,h2⟩:=abs_key a b;unfold absZ;rw[h1,blks_add,h2,blks_app _ a b _ (by omega)]
theorem absR_app (a b:List UInt8):absR (absR a++b)=absR (a++b):=by
 obtain ⟨h1,h2⟩:=abs_key a b;have e1:absR (a++b)=(a++b).drop (64*((a++b).length/64)):=rfl;have e2:absR (absR a++b)=(absR a++b).drop (64*((absR a++b).length/64)):=rfl;rw[e1,h1,Nat.mul_add,←YAD,h2,e2]
structure IsDg (h:Heap) (d:Nat) (z:Vector UInt32 8) (s:Slc) (bs:List UInt8) (n:Nat):Prop where
 o:h[d]? = some (vobj t_sha_Digest DGK (z,(s,((n:Int),()))))
 r:Row h t_uint8 .u8 s bs
 nd:d∉own s
theorem IsDg.keep {h h':Heap} {d:Nat} {z:Vector UInt32 8} {s:Slc} {bs:List UInt8} {n:Nat} {S:List Nat} (i:IsDg h d z s bs n) (k:Keep S h h') (h1:d∉S) (h2:∀b∈own s,b∉S):IsDg h' d z s bs n:=⟨k.get i.o h1,i.r.keep k h2,i.nd⟩
theorem dg_len {z:Vector UInt32 8}:(z.toList.map fun x=>Value.int .u32 x.toNat).length=8:=by simp
theorem dg_fld {h:Heap} {d T j:Nat} {z:Vector UInt32 8} {r:DGR.Ty} {k':Kd} {y:k'.Ty} (e:h[d]? = some (vobj T DGK (z,r))) (hy:((DGR.cells r).drop j).take k'.size=k'.cells y) (hj:j+k'.size≤2):sm k' ((Pl.mk d 0).fld (8+j)) y h:=by
 refine sm_fld e ?_ (by show 8+j+_≤10;omega);rw[dg_cells,List.drop_append,YAF (by rw[dg_len];omega),YAX,dg_len,YAs];exact hy
theorem dg_stf {h:Heap} {d T j:Nat} {z:Vector UInt32 8} {r r':DGR.Ty} {k':Kd} {y:k'.Ty} {K:Heap→Prop} (e:h[d]? = some (vobj T DGK (z,r))) (hy:wrL (DGR.cells r) j (k'.cells y)=DGR.cells r') (hj:j+k'.size≤2)
 (hK:K (h.setIfInBounds d (vobj T DGK (z,r')))):st k' ((Pl.mk d 0).fld (8+j)) y h K:=by
 refine st_fld (x':=(z,r')) e (by show 8+j+_≤10;omega) ?_ hK;rw[dg_cells,dg_cells];have hl:(DGR.cells r).length=2:=by rw[Kd.cells_length];rfl
 have:=wrL_mid (A:=z.toList.map fun x=>Value.int .u32 x.toNat) (C:=DGR.cells r) (B:=[]) (ys:=k'.cells y) (n:=j) (by rw[Kd.cells_length,hl];exact hj);rw[dg_len,YAB,YAB] at this;rw[this,hy]
theorem dg_z {h:Heap} {d T:Nat} {z:Vector UInt32 8} {r:DGR.Ty} (e:h[d]? = some (vobj T DGK (z,r))):sm (.ar 8 .u32) ((Pl.mk d 0).fld 0) z h:=
 sm_fld e (by rw[dg_cells];show _=z.toList.flatMap Kd.u32.cells;rw[u32_cells];exact YAj (by simp[Kd.size])) (by decide)
def z0:Vector UInt32 8 := #v[1779033703,3144134277,1013904242,2773480762,1359893119,2600822924,528734635,1541459225]
theorem ZDR.s {h:Heap} {K:Option Pl→Heap→Prop} (hK:∀h',Keep [] h h'→IsDg h' h.size z0 ⟨none,0,0⟩ [] 0→K (some ⟨h.size,0⟩) h'):ZDR.C h K:=by
 apply ZDR.c;unfold ZDR.m;exact new_go (hK _ keep_push ⟨get_push,Row.nil,by simp[own]⟩)
theorem sha_Write.s {d n:Nat} {z:Vector UInt32 8} {s:Slc} {bs:List UInt8} {x:ByteArray} {h:Heap} {K:Heap→Prop} (i:IsDg h d z s bs n) (hb:bs.length+x.size≤1000000) (hn:n+x.size≤1000000000000)
 (hK:∀h' s',Keep (d::own s) h h'→IsDg h' d (absZ z (bs++x.data.toList)) s' (absR (bs++x.data.toList)) (n+x.size)→(∀b∈own s',b∈own s∨h.size≤b)→K h'):ZBL.C (some ⟨d,0⟩) x h K:=by
 apply ZBL.c;unfold ZBL.m;obtain ⟨o,r,nd⟩:=i;have hxl:x.data.toList.length=x.size:=rfl;rw[if_neg (by simp)];refine ⟨_,rfl,(n:Int),dg_fld (j:=1) o rfl (by decide),_,rfl,?_⟩;dsimp only;have hw:w64 ((n:Int)+(x.size:Int))=((n+x.size:Nat):Int):=w6 (by omega);rw[hw];refine dg_stf (j:=1) (r':=(s,(((n+x.size:Nat):Int),()))) o rfl (by decide) ?_;have o1:=get_set o (o':=vobj t_sha_Digest DGK (z,(s,(((n+x.size:Nat):Int),()))));have k1:Keep [d] h (h.setIfInBounds d (vobj t_sha_Digest DGK (z,(s,(((n+x.size:Nat):Int),()))))):=keep_set;generalize h.setIfInBounds d (vobj t_sha_Digest DGK (z,(s,(((n+x.size:Nat):Int),()))))=h1 at o1 k1 ⊢;have r1:=r.keep k1 (fun b hb hm=>by simp at hm;exact nd (hm ▸ hb));refine ⟨_,rfl,s,dg_fld (j:=0) o1 rfl (by decide),?_⟩;refine ap_row (k := .u8) (ys:=x.data.toList) r1 hxl.symm rfl (by omega) fun s2 h2 r2 k2 o2 =>?_;have own2:=own_of o2;have hlt1:=lt_of_some o1
 have nd2:d∉own s2:=fun hm=>by
  rcases own2 d hm with e | e
  ·exact nd e
  ·omega
 have o2':=k2.get o1 nd;have hs1:=k1.1;have k02:Keep (d::own s) h h2:=k1.then k2 (fun q hq _=>by simp at hq;simp[hq]) (fun q hq _=>by simp[hq]);refine ⟨_,rfl,?_⟩;refine dg_stf (j:=0) (r':=(s2,(((n+x.size:Nat):Int),()))) o2' rfl (by decide) ?_;have o3:=get_set o2' (o':=vobj t_sha_Digest DGK (z,(s2,(((n+x.size:Nat):Int),()))));have k3:Keep [d] h2 (h2.setIfInBounds d (vobj t_sha_Digest DGK (z,(s2,(((n+x.size:Nat):Int),()))))):=keep_set;generalize h2.setIfInBounds d (vobj t_sha_Digest DGK (z,(s2,(((n+x.size:Nat):Int),()))))=h3 at o3 k3 ⊢;have r3:=r2.keep k3 (fun b hb hm=>by simp at hm;exact nd2 (hm ▸ hb));have k03:Keep (d::own s) h h3:=k02.then k3 (fun q hq _=>hq) (fun q hq _=>by simp at hq;simp[hq]);generalize hL:bs++x.data.toList=L at r2 r3 hK ⊢;have hLl:L.length≤1000000:=by rw[←hL,YAP];omega
 have hlen:=r3.len;refine lp_go (fun (y:Int×Unit) (h4:Heap)=>∃j:Nat,y.1=((64*j:Nat):Int)∧j≤L.length/64∧Keep [d] h3 h4∧h4[d]? = some (vobj t_sha_Digest DGK (blks j L z,(s2,(((n+x.size:Nat):Int),()))))) (fun (y:Int×Unit) _=>L.length-y.1.toNat) ?_ ?_
 ·exact ⟨0,rfl,by omega,Keep.rfl,o3⟩
 ·rintro ⟨(at_:Int),_⟩ h4 ⟨j,e,hj,k4,o4⟩;dsimp only at *;subst e;have r4:=r3.keep k4 (fun b hb hm=>by simp at hm;exact nd2 (hm ▸ hb));refine ⟨_,rfl,s2,dg_fld (j:=0) o4 rfl (by decide),?_⟩;have hw2:w64 ((s2.len:Int)-((64*j:Nat):Int))=((L.length-64*j:Nat):Int):=w6 (by omega);dsimp only;rw[hw2];by_cases hc:64≤L.length-64*j
  ·rw[if_pos (dT (show ((L.length-64*j:Nat):Int)≥64 by omega))];refine ⟨_,rfl,s2,dg_fld (j:=0) o4 rfl (by decide),?_⟩;have hw3:w64 (((64*j:Nat):Int)+64)=((64*j+64:Nat):Int):=w6 (by omega);rw[hw3];rcases id r4 with ⟨_,e⟩ | ⟨b,zs,ha,e1,e2,e3⟩
   ·rw[e] at hc;simp at hc
   have hcap:=r4.cap;refine slx_go ha (by omega) (by omega) (YAt _) fun l hlb hl1 _ =>?_;have hl1:=hl1 (by omega);subst hl1;refine sha_turn.s o4 (row_sub r4 ha (lo:=64*j) (hi:=64*j+64) (by omega) (by omega)) (by simp;omega) fun h5 k5 o5 =>?_;refine ⟨⟨j+1,by omega,by omega,k4.then k5 (fun q hq _=>hq) (fun q hq _=>hq),?_⟩,by omega⟩;rw[blks_succ];have:(L.take (64*j+64)).drop (64*j)=(L.drop (64*j)).take 64:=by rw[YAH,YAs]
   rw[←this];exact o5
  ·rw[if_neg (fun hh=>by have hh:=of_decide_eq_true hh;omega)];have hjn:j=L.length/64:=by omega
   refine ⟨_,rfl,s2,dg_fld (j:=0) o4 rfl (by decide),?_⟩;have hrest:absR L=L.drop (64*j):=by unfold absR;rw[←hjn]
   have hz:absZ z L=blks j L z:=by unfold absZ;rw[←hjn]
   have fin:∀s3:Slc,s3.len=(L.drop (64*j)).length→Seg .u8 s3 (L.drop (64*j)) h4→slCells s3 (s3.len*1) h4 fun cs1=>
    ap 5 .u8 1 (⟨none,0,0⟩:Slc) s3.len cs1 h4 fun s4 h6=>nck (some (Pl.mk d 0)) fun l8=>st .sl (l8.fld 8) s4 h6 fun h7=>K h7:=by
    intro s3 hs3 g3;refine slCells_seg g3 (by rw[hs3];rfl) ?_;refine ap_row (T:=t_uint8) (k := .u8) (ys:=L.drop (64*j)) (xs:=[]) Row.nil hs3 rfl (by have hdl:(L.drop (64*j)).length=L.length-64*j:=YAR;rw[hs3,hdl];simp only [YAS];omega) fun s4 h6 r6 k6 o6 =>?_;have k6:Keep [] h4 h6:=by simpa[own] using k6
    have r6:Row h6 t_uint8 .u8 s4 (L.drop (64*j)):=by simpa using r6
    have hlt4:=lt_of_some o4
    have ho4:∀q∈own s4,h4.size≤q:=fun q hq=>by
     rcases own_of o6 q hq with e | e
     ·simp[own] at e
     ·omega
    have o6':=k6.g o4;refine ⟨_,rfl,?_⟩;refine dg_stf (j:=0) (r':=(s4,(((n+x.size:Nat):Int),()))) o6' rfl (by decide) ?_;have nd4:d∉own s4:=fun hm=>by have:=ho4 d hm;omega
    have k3s:=k03.1;have k4s:=k4.1;refine hK _ s4 ?_ ⟨?_,?_,nd4⟩ fun q hq => .inr (by have:=ho4 q hq;omega)
    ·refine (k03.then (U:=d::own s) k4 (fun q hq _=>hq) (fun q hq _=>by simp at hq;simp[hq])).then (k6.then (U:=[d]) keep_set (by simp) (fun q hq _=>hq)) (fun q hq _=>hq) (fun q hq _=>by simp at hq;simp[hq])
    ·rw[hz];exact get_set o6'
    ·rw[hrest];exact r6.keep keep_set (fun b hb hm=>by simp at hm;exact nd4 (hm ▸ hb))
   have hcap:=r4.cap;rcases id r4 with ⟨es,e⟩ | ⟨b,zs,ha,e1,e2,e3⟩
   ·subst e;rw[es];have hj0:j=0:=by simp at hj;exact hj
    subst hj0;refine ⟨by simp,by simp,by simp,by simp,?_⟩;refine fin _ (by simp) ⟨by simp,by simp,by simp⟩
   ·refine slx_go' ha (by omega) (by omega) (YAt _) fun l hlb hl1 hl2 =>?_;refine fin _ (by simp;omega) ?_;by_cases hcp:64*j<s2.cap
    ·have hl1:=hl1 hcp;subst hl1;have:=row_sub r4 ha (lo:=64*j) (hi:=s2.len) (c:=s2.cap-64*j) (by omega) (by omega);rw[YAk (by omega)] at this;exact this
    ·have hl2:=hl2 (by omega);subst hl2;have hnil:L.drop (64*j)=[]:=YAF (by omega);rw[hnil];refine ⟨by simp;omega,by simp,fun l hl =>?_⟩
     cases hl
     exact ⟨_,_,_,e3,YA0 _⟩
theorem shr64 {x:UInt64} {k:Nat} (hk:k≤64):(shU64 .shr x (k:Int)).toNat=x.toNat/2^k:=by
 unfold shU64;dsimp only;have h0:min ((k:Int)).toNat 64=k:=by rw[YAr];omega
 have h3:((x.toNat:Int)).fdiv (2^(min ((k:Int)).toNat 64))=((x.toNat/2^k:Nat):Int):=by
  rw[h0,Int.fdiv_eq_ediv_of_nonneg _ (by exact_mod_cast YA0 _)]
  norm_cast
 rw[h3];have h5:x.toNat/2^k≤x.toNat:=Nat.div_le_self _ _;generalize x.toNat/2^k=m at h5 ⊢;have h4:=wrap_u64n (m:Int);rw[IntKind.wrap_u64] at h4;have:=x.toNat_lt;omega
theorem u64_nat {n:Nat} (h:n<18446744073709551616):(u64I (n:Int)).toNat=n:=by
 have:=wrap_u64n (n:Int);rw[IntKind.wrap_u64] at this;omega
def padL (n:Nat):List UInt8:=128::(List.replicate ((119-n%64)%64) 0++be (n*8) 8)
def outB (z:Vector UInt32 8) (i:Nat):UInt8:=u8I ((shU32 .shr (z.toList.getD (i/4) 0) ((24-8*(i%4):Nat):Int)).toNat:Int)
def outV (z:Vector UInt32 8):Vector UInt8 32:=Vector.ofFn fun i=>outB z i
def shaL (l:List UInt8):Vector UInt8 32:=outV (absZ z0 (l++padL l.length))
theorem pad_step {x t q:Nat} (ht:t<8):(128::(List.replicate (q+(8-t)) 0++(be x 8).drop (8-t)):List UInt8).set (q+8-t) (UInt8.ofNat (x/256^t))=128::(List.replicate (q+(8-(t+1))) 0++(be x 8).drop (8-(t+1))):=by
 have e1:q+8-t=(q+(8-(t+1)))+1:=by omega
 have e2:q+(8-t)=(q+(8-(t+1)))+1:=by omega
 rw[e1,List.set_cons_succ,e2,List.replicate_succ',YAA,YAc _ _ (by simp),List.length_replicate,YAx]
 have hd:(be x 8).drop (8-(t+1))=UInt8.ofNat (x/256^t)::(be x 8).drop (8-t):=by
  have hl:8-(t+1)<(be x 8).length:=by rw[be_len];omega
  rw[YAE hl,show 8-(t+1)+1=8-t by omega]
  congr 1
  have:=be_get (x:=x) (n:=8) (i:=8-(t+1)) (by omega);rw[YAM hl] at this;have e3:8-1-(8-(t+1))=t:=by omega
  rw[e3] at this;exact Option.some.inj this
 rw[hd]
 rfl
theorem ZBM.s {d n:Nat} {z:Vector UInt32 8} {s:Slc} {bs:List UInt8} {h:Heap} {K:Kd.Ty (.ar 32 .u8)→Heap→Prop} (i:IsDg h d z s bs n) (hb:bs.length=n%64) (hn:n≤100000000000)
 (hK:∀h',Keep [] h h'→K (outV (absZ z (bs++padL n))) h'):ZCJ.C (some ⟨d,0⟩) h K:=by
 apply ZCJ.c;unfold ZCJ.m;refine new_go ?_;have k1:Keep [] h (h.push (vobj t_api_Hash (.ar 32 .u8) (Vector.replicate 32 (0:UInt8)))):=keep_push;have e1:(h.push (vobj t_api_Hash (.ar 32 .u8) (Vector.replicate 32 (0:UInt8))))[h.size]? = some (vobj t_api_Hash (.ar 32 .u8) (Vector.replicate 32 (0:UInt8))):=get_push;rw[if_neg (by simp)];show nck _ fun l1=>ld (.ar 8 .u32) (l1.fld 0) (h.push (vobj t_api_Hash (.ar 32 .u8) (Vector.replicate 32 (0:UInt8)))) _;generalize hb1:h.size=b1 at e1 ⊢;generalize h.push (vobj t_api_Hash (.ar 32 .u8) (Vector.replicate 32 (0:UInt8)))=h1 at k1 e1 ⊢;have i1:=i.keep k1 (by simp) (by simp);refine ⟨_,rfl,z,dg_z i1.o,_,rfl,s,dg_fld (j:=0) i1.o rfl (by decide),?_⟩;have hsl:=i1.r.len;refine slCells_seg i1.r.seg (by rw[hsl];rfl) ?_;refine ap_row (T:=t_uint8) (k := .u8) (ys:=bs) (xs:=[]) Row.nil hsl rfl (by rw[hsl];simp only [YAS];omega) fun s3 h3 r3 k3 o3 =>?_;have k3:Keep [] h1 h3:=by simpa[own] using k3
 have r3:Row h3 t_uint8 .u8 s3 bs:=by simpa using r3
 have ho3:∀q∈own s3,h1.size≤q:=fun q hq=>by
  rcases own_of o3 q hq with e | e
  ·simp[own] at e
  ·omega
 have i3:=i1.keep k3 (by simp) (by simp);refine ⟨dg_z i3.o,?_⟩;refine new_go ?_;have k4:Keep [] h3 (h3.push (vobj t_sha_Digest DGK (z,(s3,(0,()))))):=keep_push;have hlt3:=r3.lt;have i4:IsDg (h3.push (vobj t_sha_Digest DGK (z,(s3,(0,()))))) h3.size z s3 bs 0:=⟨get_push,r3.keep k4 (by simp),fun hm=>by have:=hlt3 _ hm;omega⟩;show nck _ fun l3=>ld .sl (l3.fld 8) (h3.push (vobj t_sha_Digest DGK (z,(s3,(0,()))))) _;have hs13:=k3.1;generalize hd2:h3.size=d2 at i4 ⊢;generalize h3.push (vobj t_sha_Digest DGK (z,(s3,(0,()))))=h4 at k4 i4 ⊢;have kk4:Keep [] h1 h4:=k3.n k4;refine ⟨_,rfl,s3,dg_fld (j:=0) i4.o rfl (by decide),by decide,?_⟩;have hl3:=r3.len
 have hL:w64 ((w64 (1+((w64 (119-(s3.len:Int))).tmod 64)))+8)=(((119-n%64)%64+9:Nat):Int):=by
  have a1:w64 (119-(s3.len:Int))=((119-n%64:Nat):Int):=w6 (by omega);rw[a1];have a2:(((119-n%64:Nat):Int)).tmod 64=(((119-n%64)%64:Nat):Int):=by rw[YAq (by omega)];omega
  rw[a2,w64_id (n:=1+(((119-n%64)%64:Nat):Int)) (by omega) (by omega),w64_id (by omega) (by omega)];omega
 rw[hL];generalize hq:(119-n%64)%64=q;have hq64:q<64:=by omega
 refine ⟨by omega,by omega,by omega,by omega,?_⟩;simp only [YAr];have r5:Row (h4.push (robj t_uint8 .u8 (List.replicate (q+9) Kd.u8.zero))) t_uint8 .u8 ⟨some ⟨h4.size,0⟩,q+9,q+9⟩ (List.replicate (q+9) (0:UInt8)):=Row.of_new (zs:=[]) (b:=h4.size) (by rw[YAB];exact get_push) rfl (by simp) (by simp);have k5:Keep [] h4 (h4.push (robj t_uint8 .u8 (List.replicate (q+9) Kd.u8.zero))):=keep_push;show ix _ 0 1 fun l4=>st .u8 l4 128 (h4.push (robj t_uint8 .u8 (List.replicate (q+9) Kd.u8.zero))) _;generalize hs2:(⟨some ⟨h4.size,0⟩,q+9,q+9⟩:Slc)=s2 at r5 ⊢;have ho2:own s2=[h4.size]:=by rw[←hs2];rfl
 have hs2l:s2.len=q+9:=by rw[←hs2]
 generalize h4.push (robj t_uint8 .u8 (List.replicate (q+9) Kd.u8.zero))=h5 at k5 r5 ⊢;refine ix_st (k := .u8) r5 (by omega) (by simp;omega) rfl fun h6 k6 r6 =>?_;have k46:Keep [] h4 h6:=k5.new k6 (by rw[ho2];simp)
 have r6:Row h6 t_uint8 .u8 s2 (128::(List.replicate (q+8) 0++(be (n*8) 8).drop 8)):=by
  have e:(List.replicate (q+9) (0:UInt8)).set (0:Int).toNat 128=128::(List.replicate (q+8) 0++(be (n*8) 8).drop 8):=by
   rw[YAF (by rw[be_len];exact YAt _),YAB];rfl
  rw[←e];exact r6
 have hown4:∀q∈own s2,h4.size≤q:=by rw[ho2];simp
 refine lp_go (fun (y:Int×Unit) (h7:Heap)=>0≤y.1∧y.1≤8∧Keep [] h4 h7∧Row h7 t_uint8 .u8 s2 (128::(List.replicate (q+(8-y.1.toNat)) 0++(be (n*8) 8).drop (8-y.1.toNat)))) (fun (y:Int×Unit) _=>8-y.1.toNat) ?_ ?_
 ·exact ⟨by simp,by simp,k46,r6⟩
 ·rintro ⟨(i':Int),_⟩ h7 ⟨i0,i2,k7,r7⟩;dsimp only at *;obtain ⟨t,rfl⟩:∃t:Nat,i'=t:=⟨i'.toNat,by omega⟩;simp only [YAr] at r7;have k17:Keep [] h1 h7:=kk4.n k7;split
  ·rename_i hlt0
   have hlt:t<8:=by
    have:(t:Int)<8:=by simpa using hlt0
    omega
   have hw1:w64 ((t:Int)+1)=(t:Int)+1:=w64_id (by omega) (by omega);rw[hw1];have ht1:((t:Int)+1).toNat=t+1:=by omega
   have i7:=i1.keep k17 (by simp) (by simp);refine ⟨_,rfl,(n:Int),dg_fld (j:=1) i7.o rfl (by decide),?_⟩;have w8:w64 (8*(t:Int))=((8*t:Nat):Int):=w6 (by omega)
   have wl:w64 ((w64 (((q+9:Nat):Int)-1))-(t:Int))=((q+8-t:Nat):Int):=by
    rw[w64_id (n:=((q+9:Nat):Int)-1) (by omega) (by omega),w64_id (by omega) (by omega)];omega
   dsimp only;rw[w8,wl];refine ⟨by omega,?_⟩
   have hb:u8I ((shU64 .shr ((u64I (n:Int))*8) ((8*t:Nat):Int)).toNat:Int)=UInt8.ofNat (n*8/256^t):=by
    rw[shr64 (by omega),u8I_nat]
    have e1:((u64I (n:Int))*8).toNat=n*8:=by
     rw[UInt64.toNat_mul,u64_nat (by omega)];have:(8:UInt64).toNat=8:=by decide
     rw[this];omega
    rw[e1,Nat.pow_mul]
   rw[hb];refine ix_st (k := .u8) r7 (by omega) (by simp[be_len];omega) rfl fun h8 k8 r8 =>?_;refine ⟨⟨by omega,by omega,k7.new k8 hown4,?_⟩,by omega⟩;rw[ht1,←pad_step hlt];rw[YAr] at r8;exact r8
  ·rename_i hge
   have hge:¬t<8:=fun hh=>hge (dT (show (t:Int)<8 by omega));have ht:t=8:=by omega
   subst ht
   have hpad:(128::(List.replicate (q+(8-8)) 0++(be (n*8) 8).drop (8-8)):List UInt8)=padL n:=by
    unfold padL;rw[hq];rfl
   rw[hpad] at r7;refine b2s_seg r7.seg fun q1 =>?_;have i47:=i4.keep k7 (by simp) (by simp);have hpl:(padL n).length=q+9:=by unfold padL;rw[hq];simp[be_len]
   have hps:(⟨(padL n).toArray⟩:ByteArray).size=q+9:=by rw[ba_size,hpl]
   refine sha_Write.s i47 (by rw[hps];omega) (by rw[hps];omega) fun h9 s9 k9 i9 o9 =>?_;have hz9:(⟨(padL n).toArray⟩:ByteArray).data.toList=padL n:=rfl;rw[hz9] at i9;have hd2s:h1.size≤d2:=by omega
   have k19:Keep [] h1 h9:=k17.new k9 (fun x hx=>by
    rcases List.mem_cons.1 hx with e | e
    ·omega
    ·exact ho3 x e)
   refine new_go ?_;have k10:Keep [] h9 (h9.push (vobj t_api_Hash (.ar 32 .u8) (Vector.replicate 32 (0:UInt8)))):=keep_push;have e10:(h9.push (vobj t_api_Hash (.ar 32 .u8) (Vector.replicate 32 (0:UInt8))))[h9.size]? = some (vobj t_api_Hash (.ar 32 .u8) (Vector.replicate 32 (0:UInt8))):=get_push;have i10:=i9.o;have i10:=k10.g i10;show lp _ _ _ (h9.push (vobj t_api_Hash (.ar 32 .u8) (Vector.replicate 32 (0:UInt8))));have hd9:=lt_of_some i9.o;generalize hb3:h9.size=b3 at e10 ⊢;generalize h9.push (vobj t_api_Hash (.ar 32 .u8) (Vector.replicate 32 (0:UInt8)))=h10 at k10 e10 i10 ⊢;have k110:=k19.n k10;generalize hzz:absZ z (bs++padL n)=zz at i9 i10 hK;refine lp_go (fun (y:Int×Unit) (h11:Heap)=>0≤y.1∧y.1≤32∧Keep [b3] h10 h11∧∃v:Vector UInt8 32,h11[b3]? = some (vobj t_api_Hash (.ar 32 .u8) v)∧∀j:Nat,(hj:j<32)→v[j]=if (j:Int)<y.1 then outB zz j else 0) (fun (y:Int×Unit) _=>32-y.1.toNat) ?_ ?_
   ·exact ⟨by simp,by simp,Keep.rfl,_,e10,fun j hj=>by rw[if_neg (by dsimp only;omega)];simp⟩
   ·rintro ⟨(i':Int),_⟩ h11 ⟨i0',i1',k11,v,hv,hall⟩;dsimp only at *;obtain ⟨t,rfl⟩:∃t:Nat,i'=t:=⟨i'.toNat,by omega⟩;split
    ·rename_i hlt0
     have hlt:t<32:=by
      have:(t:Int)<32:=by simpa using hlt0
      omega
     have hw1:w64 ((t:Int)+1)=(t:Int)+1:=w64_id (by omega) (by omega);rw[hw1];have o11:=k11.get i10 (by simp;omega)
     have hdv:w64 ((t:Int).tdiv 4)=((t/4:Nat):Int):=by
      rw[show (t:Int).tdiv 4=((t/4:Nat):Int) by rw[YAp (by omega)];omega,w64_id (by omega) (by omega)]
     have hmd:w64 (24-(w64 (8*((t:Int).tmod 4))))=((24-8*(t%4):Nat):Int):=by
      rw[show (t:Int).tmod 4=((t%4:Nat):Int) by rw[YAq (by omega)];omega,w64_id (n:=8*((t%4:Nat):Int)) (by omega) (by omega),w64_id (by omega) (by omega)];omega
     rw[hdv,hmd]
     have q1:sm .u32 ⟨d2,0+0+((t/4:Nat):Int).toNat*1⟩ (zz.toList.getD (t/4) 0) h11:=by
      have:=dg_sm (i:=t/4) o11 (by omega);rw[YAr]
      have e:zz[t/4]'(by omega)=zz.toList.getD (t/4) 0:=by
       rw[YAL,YAM (by simp;omega)];simp
      rw[←e];exact this
     refine ⟨by decide,_,rfl,by omega,by omega,_,q1,by decide,by omega,by omega,by omega,?_⟩;rw[show (⟨b3,0+(t:Int).toNat*1⟩:Pl)=⟨b3,0+t*Kd.u8.size⟩ by rw[YAr];rfl];refine ar_st (k := .u8) (y:=outB zz t) hv hlt ?_;refine ⟨⟨by omega,by omega,k11.then keep_set (fun x hx _=>hx) (fun x hx _=>hx),_,get_set hv,fun j hj =>?_⟩,by omega⟩;rw[YA6 hj];split
     ·rename_i e3;subst e3;rw[if_pos (by omega)]
     ·rename_i e3
      rw[hall j hj];by_cases h5:(j:Int)<t
      ·rw[if_pos h5,if_pos (by omega)]
      ·rw[if_neg h5,if_neg (by omega)]
    ·rename_i hge
     have hge:¬t<32:=fun hh=>hge (dT (show (t:Int)<32 by omega))
     have hvo:v=outV zz:=by
      apply Vector.ext;intro j hj;rw[hall j hj,if_pos (by omega)];unfold outV;simp
     have hl1:=lt_of_some e1;have k1s:=k19.1;have e11:=k11.get (k10.g (k19.g e1)) (by simp;omega);refine ⟨v,sm_all hv,?_⟩;refine st_all (k := .ar 32 .u8) (x':=v) e11 ?_;refine ⟨v,sm_all (k := .ar 32 .u8) (get_set e11),?_⟩;rw[hvo];refine hK _ ?_;have ka:Keep [] h1 h11:=k110.new k11 (by simp;omega);exact (k1.n ka).new keep_set (by simp;omega)
def pieceL (p:ByteArray):List UInt8:=be p.size 4++p.data.toList
def tagL (tag:Nat) (ps:List ByteArray):List UInt8:=UInt8.ofNat tag::ps.flatMap pieceL
theorem be4 {n:Nat}:[u8I (shrI (n:Int) ((24:UInt64).toNat:Int)),u8I (shrI (n:Int) ((16:UInt64).toNat:Int)),u8I (shrI (n:Int) ((8:UInt64).toNat:Int)),u8I (n:Int)]=be n 4:=by
 have e24:(((24:UInt64).toNat:Int))=((24:Nat):Int):=by decide
 have e16:(((16:UInt64).toNat:Int))=((16:Nat):Int):=by decide
 have e8:(((8:UInt64).toNat:Int))=((8:Nat):Int):=by decide
 rw[e24,e16,e8,shrI_nat _ _ (by decide),shrI_nat _ _ (by decide),shrI_nat _ _ (by decide),u8I_nat,u8I_nat,u8I_nat,u8I_nat];simp[be,YAZ]
theorem take_flatMap {α : Type} {f : α → List UInt8} {xs:List α} {t:Nat} (h:t<xs.length):(xs.take (t+1)).flatMap f=(xs.take t).flatMap f++f xs[t]:=by
 rw[YAl h,YAI];simp
theorem pieces_len:∀ps:List ByteArray,ps.length≤(ps.flatMap pieceL).length
 | []=>by simp
 | p :: r => by
   have ih:=pieces_len r;rw[YAJ,YAP,YAQ];have:(pieceL p).length=4+p.size:=by unfold pieceL;rw[YAP,be_len];rfl
   omega
theorem own_row {h:Heap} {T:Nat} {k:Kd} {xs:List k.Ty}:Row (h.push (robj T k xs)) T k ⟨some ⟨h.size,0⟩,xs.length,xs.length⟩ xs:=Row.of_new (zs:=[]) (b:=h.size) (by rw[YAB];exact get_push) rfl rfl rfl
theorem ZA3.s {yl:Value} {c0 c1 tag:Nat} {ps:List ByteArray} {sp:Slc} {h:Heap} {K:Heap→Prop} (I:List UInt8→Heap→Prop) (hlen:(tagL tag ps).length≤1000000)
 (h0:∀ {acc h},I acc h→h[c0]? = some (vobj t_int .i (tag:Int))∧h[c1]? = some (vobj t_s_string .sl sp)∧Seg .s sp ps h)
 (hst:∀ {acc h h'},I acc h→Keep [] h h'→I acc h')
 (hy:∀ {acc h} {p:ByteArray} {K:Bool→Heap→Prop},I acc h→acc.length+p.size≤1000000→(∀h',I (acc++p.data.toList) h'→K true h')→callV Tryz.prog yl [Kd.s.val p] .b h K)
 (hI:I [] h) (hK:∀h',I (tagL tag ps) h'→K h'):ZA3.C yl ⟨c0,0⟩ ⟨c1,0⟩ h K:=by
 apply ZA3.c;unfold ZA3.m;refine ⟨(tag:Int),sm_all (h0 hI).1,?_⟩;refine bs_go ?_;refine b2s_seg own_row.seg fun q1 =>?_;have htl:(tagL tag ps).length=1+(ps.flatMap pieceL).length:=by unfold tagL;rw[YAQ];omega
 refine hy (hst hI keep_push) (by show 0+1≤_;omega) fun h2 i2 =>?_
 have i2:I [UInt8.ofNat tag] h2:=by
  have:([]:List UInt8)++(⟨[u8I (tag:Int)].toArray⟩:ByteArray).data.toList=[UInt8.ofNat tag]:=by rw[←u8I_nat];rfl
  rw[←this];exact i2
 rw[if_neg (by simp)];refine ⟨sp,sm_all (h0 i2).2.1,?_⟩;have hsl:=(h0 i2).2.2.len;refine lp_go (fun (y:Int×Unit) (h3:Heap)=>∃t:Nat,y.1=t∧t≤ps.length∧I (UInt8.ofNat tag::(ps.take t).flatMap pieceL) h3) (fun (y:Int×Unit) _=>ps.length-y.1.toNat) ?_ ?_
 ·exact ⟨0,rfl,by omega,by simpa using i2⟩
 ·rintro ⟨(i:Int),_⟩ h3 ⟨t,e,ht,i3⟩;dsimp only at *;subst e;rw[hsl];split
  ·rename_i hlt0
   have hlt:t<ps.length:=by
    have:(t:Int)<ps.length:=by simpa using hlt0
    omega
   have hbnd:(ps.take (t+1)).flatMap pieceL=(ps.take t).flatMap pieceL++pieceL ps[t]:=take_flatMap hlt
   have hle:((ps.take (t+1)).flatMap pieceL).length≤(ps.flatMap pieceL).length:=by
    conv=>rhs;rw[←YAh (t+1) ps,YAI,YAP]
    omega
   rw[hbnd,YAP] at hle;have hpl:(pieceL ps[t]).length=4+ps[t].size:=by unfold pieceL;rw[YAP,be_len];rfl
   have hlen3:t<9223372036854775806:=by
    have hmin:=pieces_len ps;omega
   have hw:w64 ((t:Int)+1)=(t:Int)+1:=w64_id (by omega) (by omega);rw[hw];refine jn_go ?_;refine seg_ix (x:=ps[t]) (h0 i3).2.2 (by omega) (by simp[hlt]) rfl ?_;generalize hp:ps[t]=p at *;refine ⟨fun y h5=>y.1=false∧I (UInt8.ofNat tag::(ps.take (t+1)).flatMap pieceL) h5,?_,?_⟩
   ·refine ⟨by decide,by decide,by decide,?_⟩;rw[be4];refine bs_go ?_;refine b2s_seg own_row.seg fun q2 =>?_;refine hy (hst i3 keep_push) (by rw[be_size,YAQ];omega) fun h7 i7 =>?_;rw[if_neg (by simp)];refine hy i7 (by simp only [YAP,YAQ,be_len];omega) fun h8 i8 =>?_;refine ⟨rfl,?_⟩
    have:UInt8.ofNat tag::(ps.take t).flatMap pieceL++(⟨(be p.size 4).toArray⟩:ByteArray).data.toList++p.data.toList=UInt8.ofNat tag::(ps.take (t+1)).flatMap pieceL:=by
     rw[hbnd];unfold pieceL;simp only [List.cons_append,YAA]
    rw[←this];exact i8
   ·rintro ⟨(b:Bool),_⟩ h5 ⟨e,i5⟩;dsimp only at e ⊢;subst e;rw[if_neg (by simp)];exact ⟨⟨t+1,by omega,by omega,i5⟩,by omega⟩
  ·rename_i hge
   have hge:¬t<ps.length:=fun hh=>hge (dT (show (t:Int)<(ps.length:Int) by omega));have ht:t=ps.length:=by omega
   subst ht;rw[YAk (YAt _)] at i3;exact hK h3 i3
theorem ZDS.s {tag:Nat} {ps:List ByteArray} {sp:Slc} {h:Heap} {K:Kd.Ty (.ar 32 .u8)→Int→Heap→Prop} (g:Seg .s sp ps h) (ht:tag≤4) (hs:lens ps≤65536) (hlen:(tagL tag ps).length≤1000000)
 (hK:∀h',Keep [] h h'→K (shaL (tagL tag ps)) 0 h'):ZDS.C tag sp h K:=by
 apply ZDS.c;unfold ZDS.m;refine new_go ?_;have k1:Keep [] h (h.push (vobj t_api_Hash (.ar 32 .u8) (Vector.replicate 32 (0:UInt8)))):=keep_push;have e1:(h.push (vobj t_api_Hash (.ar 32 .u8) (Vector.replicate 32 (0:UInt8))))[h.size]? = some (vobj t_api_Hash (.ar 32 .u8) (Vector.replicate 32 (0:UInt8))):=get_push;generalize h.push (vobj t_api_Hash (.ar 32 .u8) (Vector.replicate 32 (0:UInt8)))=h1 at k1 e1 ⊢;generalize hb1:h.size=b1 at e1 ⊢;refine jn_at (false,()) h1 ?_ ?_
 ·rw[if_neg (by simp)];exact ⟨by simp;omega,by first | rfl | trivial⟩
 ·rw[if_neg (by simp)];have g1:=g.keep (by decide) k1;have hsl:=g1.len
  have hpl:ps.length≤1000000:=by
   have hmin:=pieces_len ps;unfold tagL at hlen;rw[YAQ] at hlen;omega
  refine lp_go (fun (y:Int×Int×Int×Unit) (h4:Heap)=>h4=h1∧∃t:Nat,y.2.2.1=t∧t≤ps.length∧y.1=(lens (ps.take t):Nat)) (fun (y:Int×Int×Int×Unit) _=>ps.length-y.2.2.1.toNat) ?_ ?_
  ·exact ⟨rfl,0,rfl,by omega,by simp[lens]⟩
  ·rintro ⟨(al:Int),(er:Int),(i:Int),_⟩ h4 ⟨rfl,t,e,htl,hal⟩;dsimp only at *;subst e;subst hal;rw[hsl];split
   ·rename_i hlt0
    have hlt:t<ps.length:=by
     have:(t:Int)<ps.length:=by simpa using hlt0
     omega
    have hw:w64 ((t:Int)+1)=(t:Int)+1:=w64_id (by omega) (by omega);rw[hw];refine seg_ix (x:=ps[t]) g1 (by omega) (by simp[hlt]) rfl ?_;have h1:=lens_take hlt;have h2:=lens_mono (ps:=ps) (t+1);have hw2:w64 ((lens (ps.take t):Int)+(ps[t].size:Int))=((lens (ps.take (t+1)):Nat):Int):=w6 (by omega);rw[hw2,if_neg (by simp;omega)];exact ⟨⟨by first | rfl | trivial,t+1,by omega,by omega,by first | rfl | trivial⟩,by omega⟩
   ·rename_i hge
    have hge:¬t<ps.length:=fun hh=>hge (dT (show (t:Int)<(ps.length:Int) by omega));refine ZDR.s fun h6 k6 i6 =>?_;have hl1:=lt_of_some e1;have hs16:=k6.1;have l6:=lt_of_some i6.o;generalize hdd:h4.size=dd at i6 l6;refine new_go (st_all get_push ?_);have k8:Keep [] h6 ((h6.push (vobj t_p_sha_Digest .p none)).setIfInBounds h6.size (vobj t_p_sha_Digest .p (some ⟨dd,0⟩))):=keep_push.new keep_set (by simp);have e8:((h6.push (vobj t_p_sha_Digest .p none)).setIfInBounds h6.size (vobj t_p_sha_Digest .p (some ⟨dd,0⟩)))[h6.size]? = some (vobj t_p_sha_Digest .p (some ⟨dd,0⟩)):=get_set get_push;show ZDW.C _ _ ((h6.push (vobj t_p_sha_Digest .p none)).setIfInBounds h6.size (vobj t_p_sha_Digest .p (some ⟨dd,0⟩))) _;generalize hb2:h6.size=b2 at k8 e8 ⊢;generalize ((h6.push (vobj t_p_sha_Digest .p none)).setIfInBounds b2 (vobj t_p_sha_Digest .p (some ⟨dd,0⟩)))=h8 at k8 e8 ⊢;have i8:=i6.keep k8 (by simp) (by simp);apply ZDW.c;unfold ZDW.m;refine new_go (new_go ?_);have k9:Keep [] h8 ((h8.push (vobj t_int .i (tag:Int))).push (vobj t_s_string .sl sp)):=keep_push.trans keep_push;have c0e:((h8.push (vobj t_int .i (tag:Int))).push (vobj t_s_string .sl sp))[h8.size]? = some (vobj t_int .i (tag:Int)):=get_push_old get_push;have c1e:((h8.push (vobj t_int .i (tag:Int))).push (vobj t_s_string .sl sp))[(h8.push (vobj t_int .i (tag:Int))).size]? = some (vobj t_s_string .sl sp):=get_push;have l8:=lt_of_some e8;have l8d:=lt_of_some i8.o;generalize hc0:h8.size=c0 at c0e ⊢;generalize hc1:(h8.push (vobj t_int .i (tag:Int))).size=c1 at c1e ⊢;have hc1':c1=c0+1:=by rw[←hc1,←hc0];simp
    show rf _ _ _ _ ((h8.push (vobj t_int .i (tag:Int))).push (vobj t_s_string .sl sp)) _ _ _;generalize ((h8.push (vobj t_int .i (tag:Int))).push (vobj t_s_string .sl sp))=h9 at k9 c0e c1e ⊢;have i9:=i8.keep k9 (by simp) (by simp);have e9:=k9.g e8;have lc1:=lt_of_some c1e;have k09:Keep [] h4 h9:=(k6.n k8).n k9;refine ⟨⟨ZA3.n,ZA3.fn,_,_,rfl,by kernel_rfl,by kernel_rfl,by kernel_rfl⟩,fun o hyd =>?_⟩;generalize hl:h9.size+1=l at hyd ⊢;have kH:Keep [] h9 ((h9.push (.deferred (some []))).push (o .ready)):=keep_push.trans keep_push;have hsz9:(h9.push (.deferred (some []))).size=h9.size+1:=by simp
    have eL:((h9.push (.deferred (some []))).push (o .ready))[l]? = some (o .ready):=by rw[←hl,←hsz9];exact get_push
    have eN:((h9.push (.deferred (some []))).push (o .ready))[h9.size]? = some (.deferred (some [])):=get_push_old get_push;have szH:((h9.push (.deferred (some []))).push (o .ready)).size=h9.size+2:=by simp
    generalize ((h9.push (.deferred (some []))).push (o .ready))=H at kH eL eN szH ⊢;have iH:=i9.keep kH (by simp) (by simp);have hld:l≠dd:=by omega
    refine callV_go (aa:=[yv l,Kd.p.val (some ⟨c0,0⟩),Kd.p.val (some ⟨c1,0⟩)]) (by rfl) ?_;show ZA3.C (yv l) ⟨c0,0⟩ ⟨c1,0⟩ H _;refine ZA3.s (sp:=sp) (ps:=ps) (tag:=tag) (fun acc hh=>Keep [dd,l] H hh∧hh[l]? = some (o .ready)∧∃s,IsDg hh dd (absZ z0 acc) s (absR acc) acc.length∧∀q∈own s,H.size≤q) hlen ?_ ?_ ?_ ?_ ?_
    ·rintro acc hh ⟨kk,_,_⟩;refine ⟨kk.get (kH.g c0e) (by simp;omega),kk.get (kH.g c1e) (by simp;omega),?_⟩;exact g1.keep (by decide) ((k09.n kH).new kk (by simp;omega))
    ·rintro acc hh hh' ⟨kk,e,s,i,ho⟩ k';exact ⟨kk.then k' (fun q hq _=>hq) (by simp),k'.g e,s,i.keep k' (by simp) (by simp),ho⟩
    ·rintro acc hh p K' ⟨kk,e,s,i,ho⟩ hbound hK';have hle:=kk.1;refine hyd (p,()) hh K' e ?_;refine ⟨e,?_⟩;have ks:Keep [l] hh (hh.setIfInBounds l (o .busy)):=keep_set;have es:=get_set (o':=o .busy) e;generalize hh.setIfInBounds l (o .busy)=h11 at ks es ⊢;have hlo:l∉own s:=fun hm=>by have:=ho l hm;omega
     have i11:=i.keep ks (by simpa using hld.symm) (fun q hq hm=>by simp at hm;exact hlo (hm ▸ hq));refine ⟨some ⟨dd,0⟩,sm_all (ks.get (kk.get (kH.g e9) (by simp;omega)) (by simp;omega)),?_⟩;have har:=absR_len acc;refine sha_Write.s (x:=p) i11 (by omega) (by omega) fun h14 s14 k14 i14 o14 =>?_
     have hls:l∉dd::own s:=by
      intro hm;rcases List.mem_cons.1 hm with e | e
      ·exact hld e
      ·exact hlo e
     have e14:=k14.get es hls;refine ⟨e14,?_⟩;have hk11:=ks.1;refine hK' _ ⟨?_,get_set e14,s14,?_,fun q hq =>?_⟩
     ·refine ((kk.then (U:=[dd,l]) ks (fun q hq _=>hq) (fun q hq _=>by simp at hq;simp[hq])).then k14 (fun q hq _=>hq) (fun q hq hlt =>?_)).then keep_set (fun q hq _=>hq) (fun q hq _=>by simp at hq;simp[hq]);rcases List.mem_cons.1 hq with e | e
      ·simp[e]
      ·have:=ho q e;omega
     ·have:=i14.keep (keep_set (b:=l) (o:=o .ready)) (by simpa using hld.symm) (fun q hq hm=>by
       simp at hm;rcases o14 q hq with e | e
       ·exact hlo (hm ▸ e)
       ·have:=lt_of_some es;omega)
      rw[absZ_app,absR_app] at this;simpa using this
     ·rcases o14 q hq with e | e
      ·exact ho q e
      ·omega
    ·exact ⟨Keep.rfl,eL,_,iH,by simp[own]⟩
    ·rintro h' ⟨kk,e,s,i,ho⟩;refine .inl ⟨e,?_⟩;have ks:Keep [l] h' (h'.setIfInBounds l (o (.over false))):=keep_set;have hle:=kk.1;generalize h'.setIfInBounds l (o (.over false))=h12 at ks ⊢;have kk12:Keep [dd,l] H h12:=kk.then ks (fun q hq _=>hq) (fun q hq _=>by simp at hq;simp[hq]);have i12:=i.keep ks (by simpa using hld.symm) (fun q hq hm=>by simp at hm;have:=ho q hq;omega);refine ⟨some ⟨dd,0⟩,sm_all (kk12.get (kH.g e9) (by simp;omega)),?_⟩;refine ZBM.s i12 (absR_len _) (by omega) fun h15 k15 =>?_;rw[absZ_app];have k015:Keep [dd,l] H h15:=kk12.then k15 (fun q hq _=>hq) (by simp);have e15:=k015.get (kH.g (k09.g e1)) (by simp;omega);refine st_all (k := .ar 32 .u8) (x':=shaL (tagL tag ps)) e15 ?_;have hN15:=k015.get eN (by simp;omega);refine ⟨get_set_ne hN15 (by omega),?_⟩;have e16:=get_set_ne (c:=h9.size) (o' := .deferred none) (get_set e15 (o':=vobj t_api_Hash (.ar 32 .u8) (shaL (tagL tag ps)))) (by omega);refine ⟨shaL (tagL tag ps),sm_all (k := .ar 32 .u8) e16,?_⟩;refine hK _ ?_;have kA:Keep [] h4 h15:=(k09.n kH).new k015 (by simp;omega);exact ((k1.n kA).new (keep_set (b:=b1)) (by simp;omega)).new (keep_set (b:=h9.size)) (by have:=k09.1;simp;omega)
abbrev By:=List UInt8
abbrev HVec:=Vector UInt8 32
def Hl (l:By):By:=(shaL l).toList
theorem Hl_len {l:By}:(Hl l).length=32:=by simp[Hl]
def steps (hd:By) (i:Nat):Nat→Nat→By→By
 | _,0,x=>x
 | a,n+1,x=>steps hd i (a+1) n (Hl (hd++be i 2++[UInt8.ofNat a]++x))
theorem steps_add {hd:By} {i:Nat}:∀ {n a m:Nat} {x:By},steps hd i a (n+m) x=steps hd i (a+n) m (steps hd i a n x)
 | 0,a,m,x=>by simp[steps]
 | n + 1, a, m, x => by
   rw[show n+1+m=(n+m)+1 by omega];show steps hd i (a+1) (n+m) _=steps hd i (a+(n+1)) m (steps hd i (a+1) n _);rw[steps_add,show a+1+n=a+(n+1) by omega]
theorem steps_succ {hd:By} {i n a:Nat} {x:By}:steps hd i a (n+1) x=Hl (hd++be i 2++[UInt8.ofNat (a+n)]++steps hd i a n x):=by
 rw[steps_add];rfl
theorem steps_len {hd:By} {i:Nat}:∀ {n a:Nat} {x:By},x.length=32→(steps hd i a n x).length=32
 | 0,a,x,h=>h
 | n + 1, a, x, h => by
   rw[show steps hd i a (n+1) x=steps hd i (a+1) n (Hl (hd++be i 2++[UInt8.ofNat a]++x)) from Eq.refl _];exact steps_len (x:=Hl (hd++be i 2++[UInt8.ofNat a]++x)) Hl_len
def otsP (k:Int):Option (Nat×Nat×Nat):=if k=3 then some (4,67,4) else if k=4 then some (8,34,0) else none
def headO (id:By) (q:Nat):By:=id++be q 4
def privO (hd:By) (i:Nat) (seed:By):By:=Hl (hd++be i 2++[255]++seed)
theorem priv_len {hd seed:By} {i:Nat}:(privO hd i seed).length=32:=Hl_len
def digitAt (s:By) (i w:Nat):Nat:=(s.getD (i*w/8) 0).toNat/2^(8-w-i*w%8)%2^w
def digitsA (w:Nat) (q:By):List Nat:=(List.range (256/w)).map fun i=>digitAt q i w
def sumO (w:Nat) (ds:List Nat):Nat:=(ds.map fun d=>2^w-1-d).sum
def digitsO (w p ls:Nat) (q:By):List Nat:=digitsA w q++(List.range (p-256/w)).map fun i=>digitAt (be (sumO w (digitsA w q)*2^ls) 2) i w
theorem digitsO_len {w p ls:Nat} {q:By} (h:256/w≤p):(digitsO w p ls q).length=p:=by
 unfold digitsO digitsA;simp;omega
theorem digitAt_lt {s:By} {i w:Nat}:digitAt s i w<2^w:=Nat.mod_lt _ (Nat.two_pow_pos w)
theorem digitsO_lt {w p ls:Nat} {q:By} {d:Nat} (h:d∈digitsO w p ls q):d<2^w:=by
 unfold digitsO digitsA at h;rcases List.mem_append.1 h with h | h
 ·obtain ⟨i,_,rfl⟩:=List.mem_map.1 h;exact digitAt_lt
 ·obtain ⟨i,_,rfl⟩:=List.mem_map.1 h;exact digitAt_lt
def partsO (hd seed:By) (ds:List Nat):By:=(List.range ds.length).flatMap fun i=>steps hd i 0 (ds.getD i 0) (privO hd i seed)
def candO (w:Nat) (hd:By) (ds:List Nat) (y:By):By:=Hl (hd++[128,128]++(List.range ds.length).flatMap fun i=>steps hd i (ds.getD i 0) (2^w-1-ds.getD i 0) ((y.drop (32*i)).take 32))
def pubO (w p:Nat) (hd seed:By):By:=Hl (hd++[128,128]++(List.range p).flatMap fun i=>steps hd i 0 (2^w-1) (privO hd i seed))
theorem flat_part {f:Nat→By} (hf:∀i,(f i).length=32):∀(n j:Nat),j<n→(((List.range n).flatMap f).drop (32*j)).take 32=f j:=by
 have hl:∀n,((List.range n).flatMap f).length=32*n:=by
  intro n
  induction n with
  | zero=>rfl
  | succ n ih =>
    rw[YAZ,YAI,YAP,ih];simp[hf];omega
 intro n
 induction n with
 | zero=>intro j h;omega
 | succ n ih =>
   intro j h;rw[YAZ,YAI];simp only [YAJ,YAK,YAB];by_cases e:j<n
   ·rw[YAC (by rw[hl];omega),YAi (by rw[YAR,hl];omega),ih j e]
   ·obtain rfl:j=n:=by omega
    rw[YAG (hl j),YAk (by rw[hf];exact YAt _)]
theorem cand_parts {w p:Nat} {hd seed:By} {ds:List Nat} (hl:ds.length=p) (hb:∀d∈ds,d<2^w):candO w hd ds (partsO hd seed ds)=pubO w p hd seed:=by
 unfold candO pubO partsO
 congr 2
 rw[hl]
 have:∀ {l:List Nat} {f g:Nat→By},(∀i∈l,f i=g i)→l.flatMap f=l.flatMap g:=by
  intro l f g h
  induction l with
  | nil=>rfl
  | cons a r ih=>rw[YAJ,YAJ,h a (by simp),ih fun i hi=>h i (by simp[hi])]
 apply this;intro i hi;have hi:i<p:=List.mem_range.1 hi;have hfp:=flat_part (f:=fun i=>steps hd i 0 (ds.getD i 0) (privO hd i seed)) (fun i=>steps_len priv_len) p i hi;rw[hfp]
 have hd':ds.getD i 0<2^w:=by
  rw[YAL,YAM (by omega)];exact hb _ (YAO _)
 have hs:2^w-1=ds.getD i 0+(2^w-1-ds.getD i 0):=by omega
 conv=>rhs;rw[hs]
 rw[steps_add,YAz]
def joinL (id:By) (r:Nat) (a b:By):By:=Hl (id++be r 4++[131,131]++a++b)
def tipL (id:By) (r:Nat) (y:By):By:=Hl (id++be r 4++[130,130]++y)
structure LKey where
 ots:Int
 height:Int
 id:By
 seed:By
 next:Int
 deriving DecidableEq
def otsMay (id:By) (q:Int):Bool:=decide (id.length=16)&&decide (0≤q)&&decide (q≤4294967295)
def lmsMay (k:LKey):Bool:=(otsP k.ots).isSome&&decide (1≤k.height)&&decide (k.height≤5)&&decide (k.id.length=16)&&decide (k.seed.length=32)&&decide (0≤k.next)&&decide (k.next≤2^k.height.toNat)
def nodeL (w p:Nat) (id seed:By) (m:Nat):Nat→Nat→By
 | 0,r=>tipL id r (pubO w p (headO id (r-m)) seed)
 | l+1,r=>joinL id r (nodeL w p id seed m l (2*r)) (nodeL w p id seed m l (2*r+1))
def kindOf (h:Nat):Nat:=if h=5 then 5 else 4026531840+h
def climbL (id:By):Nat→Nat→By→By→By
 | 0,_,x,_=>x
 | n+1,r,x,path=>climbL id n (r/2) (if r%2=0 then joinL id (r/2) x (path.take 32) else joinL id (r/2) (path.take 32) x) (path.drop 32)
abbrev RDK:Kd := .ag (.pr .s .un)
def bx (l:List UInt8):ByteArray:=⟨l.toArray⟩
theorem bx_size {l:List UInt8}:(bx l).size=l.length:=by simp[bx,ByteArray.size]
theorem bx_list {s:ByteArray}:bx s.data.toList=s:=by
 apply ByteArray.ext;simp[bx]
theorem bx_ext {l:List UInt8} {a b:Nat}:(bx l).extract a b=bx ((l.take b).drop a):=by
 apply ByteArray.ext;rw[ByteArray.data_extract];apply Array.toList_inj.1;simp[bx,YAH]
structure IsRd (h:Heap) (r:Nat) (l:List UInt8):Prop where
 o:h[r]? = some (vobj t_wire_Reader RDK (bx l,()))
theorem IsRd.f {h:Heap} {r:Nat} {l:List UInt8} (i:IsRd h r l):sm .s ((Pl.mk r 0).fld 0) (bx l) h:=sm_fld i.o rfl (by decide)
theorem ZCM.s {s:ByteArray} {h:Heap} {K:Option Pl→Heap→Prop} (hK:∀h',Keep [] h h'→IsRd h' h.size s.data.toList→K (some ⟨h.size,0⟩) h'):ZCM.C s h K:=by
 apply ZCM.c;unfold ZCM.m;refine new_go (hK _ keep_push ⟨?_⟩);rw[bx_list];exact get_push
theorem ZBY.s {r n:Nat} {l:List UInt8} {h:Heap} {K:ByteArray→Bool→Heap→Prop} (i:IsRd h r l) (hbad:l.length<n→K ⟨#[]⟩ false h)
 (hok:n≤l.length→∀h',Keep [r] h h'→IsRd h' r (l.drop n)→K (bx (l.take n)) true h'):ZBY.C (some ⟨r,0⟩) n h K:=by
 apply ZBY.c;unfold ZBY.m;refine ⟨_,rfl,_,i.f,?_⟩;dsimp only;by_cases hn:l.length<n
 ·rw[if_pos (by rw[bx_size];simp;omega)];exact hbad hn
 ·rw[if_neg (by rw[bx_size];simp;omega)];refine ⟨_,rfl,_,i.f,by omega,by omega,by rw[bx_size];omega,?_⟩;refine ⟨_,rfl,_,i.f,by omega,by rw[bx_size];omega,by omega,?_⟩;refine ⟨_,rfl,?_⟩;rw[bx_size,bx_ext,bx_ext];simp only [YAr];refine st_fld (x':=(bx ((l.take l.length).drop n),())) i.o (by decide) rfl ?_;have e1:(l.take l.length).drop n=l.drop n:=by rw[YAk (YAt _)]
  have e2:(l.take n).drop (Int.toNat 0)=l.take n:=by simp
  rw[e1,e2];exact hok (by omega) _ keep_set ⟨get_set i.o⟩
def beVal (l:List UInt8):Nat:=l.foldl (fun a b=>a*256+b.toNat) 0
theorem beVal_snoc (l:List UInt8) (b:UInt8):beVal (l++[b])=beVal l*256+b.toNat:=by simp[beVal]
theorem fold_lt:∀(l:List UInt8) (a:Nat),l.foldl (fun a b=>a*256+b.toNat) a<(a+1)*256^l.length
 | [],a=>by simp
 | b :: r, a => by
   rw[List.foldl_cons,YAQ,YAw];have h1:=fold_lt r (a*256+b.toNat);have h2:=b.toNat_lt;have h3:(a*256+b.toNat+1)*256^r.length≤(a+1)*256*256^r.length:=YAu _ (by omega);have h4:(a+1)*256*256^r.length=(a+1)*(256^r.length*256):=by rw[Nat.mul_assoc,Nat.mul_comm 256]
   omega
theorem beVal_lt (l:List UInt8):beVal l<256^l.length:=by
 have:=fold_lt l 0;simpa[beVal] using this
theorem orI_bytes {v:Nat} {b:UInt8} (hv:v<281474976710656):orI (shlI (v:Int) (((8:UInt64).toNat:Int))) (b.toNat:Int)=((v*256+b.toNat:Nat):Int):=by
 have e8:(((8:UInt64).toNat:Int))=8:=by decide
 rw[e8]
 have h1:shlI (v:Int) 8=((v*256:Nat):Int):=by
  unfold shlI;rw[show min (8:Int).toNat 64=8 by decide,IntKind.wrap_i64];have:(v:Int)*2^8=((v*256:Nat):Int):=by omega
  rw[this];omega
 rw[h1];unfold orI;have hb:=b.toNat_lt
 have h2:(BitVec.ofInt 64 ((v*256:Nat):Int)|||BitVec.ofInt 64 (b.toNat:Int)).toNat=v*256+b.toNat:=by
  rw[BitVec.toNat_or,BitVec.toNat_ofInt,BitVec.toNat_ofInt]
  have h3:(((v*256:Nat):Int)%((2^64:Nat):Int)).toNat=v*256:=by
   rw[YAm (by omega) (by omega)];omega
  have h4:(((b.toNat:Nat):Int)%((2^64:Nat):Int)).toNat=b.toNat:=by
   rw[YAm (by omega) (by omega)];omega
  rw[h3,h4];have h5:=Nat.shiftLeft_add_eq_or_of_lt (a:=v) (b:=b.toNat) (i:=8) (by omega);rw[Nat.shiftLeft_eq] at h5;have:v*2^8=v*256:=by omega
  rw[this] at h5;exact h5.symm
 rw[h2,IntKind.wrap_i64];omega
theorem ixs_bx {l:List UInt8} {i:Nat} {K:UInt8→Prop} (h:i<l.length) (hK:K l[i]):ixs (bx l) (i:Int) K:=by
 have:(bx l).data.toList=l:=by simp[bx]
 refine ixs_go (by rw[this];exact h) ?_;simpa[bx] using hK
theorem beVal_take {l:List UInt8} {t:Nat} (h:t<l.length):beVal (l.take (t+1))=beVal (l.take t)*256+l[t].toNat:=by
 rw[YAl h,beVal_snoc]
theorem ZAa.s {r n:Nat} {l:List UInt8} {h:Heap} {K:Int→Int→Heap→Prop} (i:IsRd h r l) (hn:n=1∨n=2∨n=4) (hbad:l.length<n→K 0 300 h)
 (hok:n≤l.length→∀h',Keep [r] h h'→IsRd h' r (l.drop n)→K (beVal (l.take n)) 0 h'):ZAa.C (some ⟨r,0⟩) n h K:=by
 apply ZAa.c;unfold ZAa.m;simp only [reduceCtorEq,decide_false,YA2,if_false];refine ZCf.s ?_;have hs:((n:Int)=1∨(n:Int)=2∨(n:Int)=4):=by omega
 simp only [hs,decide_true,YA3,YA2,if_false];refine ZBY.s i (fun hlt =>?_) (fun hle h1 k1 i1 =>?_)
 ·rw[if_pos (by rfl)];exact hbad hlt
 ·rw[if_neg (by simp)];have htl:(l.take n).length=n:=by simp;omega
  refine lp_go (fun (y:Int×Int×Unit) (h2:Heap)=>h2=h1∧0≤y.2.1∧y.2.1≤n∧y.1=(beVal ((l.take n).take y.2.1.toNat):Nat)) (fun (y:Int×Int×Unit) _=>n-y.2.1.toNat) ?_ ?_
  ·exact ⟨rfl,by simp,by simp,by simp[beVal]⟩
  ·rintro ⟨(p:Int),(q:Int),_⟩ h2 ⟨rfl,q0,q1,hp⟩;dsimp only at *;rw[bx_size,htl];split
   ·rename_i hlt
    have hlt:q<n:=by simpa using hlt
    obtain ⟨t,rfl⟩:∃t:Nat,q=t:=⟨q.toNat,by omega⟩;have ht:t<(l.take n).length:=by omega
    have hw:w64 ((t:Int)+1)=(t:Int)+1:=w64_id (by omega) (by omega);rw[hw];refine ⟨by decide,ixs_bx ht ?_⟩;simp only [YAr] at hp;have hv:=beVal_lt ((l.take n).take t);have hv2:((l.take n).take t).length≤3:=by simp;omega
    have hv3:(256:Nat)^((l.take n).take t).length≤256^3:=YAv (by decide) hv2;have hv4:(256:Nat)^3=16777216:=by decide
    rw[hp,orI_bytes (by omega),←beVal_take ht];refine ⟨⟨by first | rfl | trivial,by omega,by omega,?_⟩,by omega⟩;rw[show ((t:Int)+1).toNat=t+1 by omega]
   ·rename_i hge
    have hge:¬q<n:=by simpa using hge
    obtain rfl:q=n:=by omega
    simp only [YAr] at hp;rw[YAk (by omega)] at hp;rw[hp];exact hok hle _ k1 i1
def otsC (hd seed:By):By:=Hl (hd++[255,253,255]++seed)
def msgD (w p ls:Nat) (hd c msg:By):List Nat:=digitsO w p ls (Hl (hd++[129,129]++c++msg))
def otsSig (kind w p ls:Nat) (id:By) (q:Nat) (seed msg:By):By:=be kind 4++otsC (headO id q) seed++partsO (headO id q) seed (msgD w p ls (headO id q) (otsC (headO id q) seed) msg)
def candOf (w p ls:Nat) (id:By) (q:Nat) (msg sig:By):By:=candO w (headO id q) (msgD w p ls (headO id q) ((sig.drop 4).take 32) msg) (sig.drop 36)
def pathS (w p:Nat) (id seed:By) (m:Nat):Nat→Nat→Nat→By
 | 0,_,_=>[]
 | n+1,l,r=>nodeL w p id seed m l (if r%2=0 then r+1 else r-1)++pathS w p id seed m n (l+1) (r/2)
theorem nodeL_len {w p:Nat} {id seed:By} {m l r:Nat}:(nodeL w p id seed m l r).length=32:=by
 cases l with
 | zero=>exact Hl_len
 | succ l=>exact Hl_len
theorem pathS_len {w p:Nat} {id seed:By} {m:Nat}:∀ {n l r:Nat},(pathS w p id seed m n l r).length=32*n
 | 0,_,_=>rfl
 | n + 1, l, r => by
   unfold pathS;rw[YAP,nodeL_len,pathS_len];omega
theorem climb_path {w p:Nat} {id seed:By} {m:Nat}:∀ {n l r:Nat} {rest:By},climbL id n r (nodeL w p id seed m l r) (pathS w p id seed m n l r++rest)=nodeL w p id seed m (l+n) (r/2^n)
 | 0,l,r,rest=>by simp[climbL]
 | n + 1, l, r, rest => by
   unfold climbL pathS;rw[YAA,YAj nodeL_len,YAG nodeL_len]
   have e:(if r%2=0 then joinL id (r/2) (nodeL w p id seed m l r) (nodeL w p id seed m l (if r%2=0 then r+1 else r-1)) else joinL id (r/2) (nodeL w p id seed m l (if r%2=0 then r+1 else r-1)) (nodeL w p id seed m l r))=nodeL w p id seed m (l+1) (r/2):=by
    by_cases h:r%2=0
    ·rw[if_pos h,if_pos h];have h1:2*(r/2)=r:=by omega
     show _=joinL id (r/2) (nodeL w p id seed m l (2*(r/2))) (nodeL w p id seed m l (2*(r/2)+1));rw[h1]
    ·rw[if_neg h,if_neg h];have h1:2*(r/2)=r-1:=by omega
     have h2:2*(r/2)+1=r:=by omega
     show _=joinL id (r/2) (nodeL w p id seed m l (2*(r/2))) (nodeL w p id seed m l (2*(r/2)+1));rw[h2,h1]
   rw[e,climb_path,Nat.div_div_eq_div_mul,show l+1+n=l+(n+1) by omega,show 2^(n+1)=2*2^n by rw[YAw,Nat.mul_comm]]
structure PKey where
 h:Nat
 kind:Nat
 w:Nat
 p:Nat
 ls:Nat
 id:By
 root:By
def heightOf (t:Nat):Option Nat:=[1,2,3,4,5].find? fun h=>decide (kindOf h=t)
def apartL (pub:By):Option PKey:=
 if pub.length=56 then
  match heightOf (beVal (pub.take 4)),otsP (beVal ((pub.drop 4).take 4):Int) with
  | some h,some x=>some ⟨h,beVal ((pub.drop 4).take 4),x.1,x.2.1,x.2.2,(pub.drop 8).take 16,pub.drop 24⟩
  | _,_=>none
 else none
def PKey.oSize (k:PKey):Nat:=36+32*k.p
def PKey.size (k:PKey):Nat:=8+k.oSize+32*k.h
def PKey.fits (k:PKey) (sig:By):Bool:=decide (sig.length=k.size)&&decide (beVal ((sig.drop 4).take 4)=k.kind)&&decide (beVal ((sig.drop (4+k.oSize)).take 4)=kindOf k.h)&&decide (beVal (sig.take 4)<2^k.h)
def PKey.top (k:PKey) (msg sig:By):By:=
 climbL k.id k.h (2^k.h+beVal (sig.take 4)) (tipL k.id (2^k.h+beVal (sig.take 4)) (candOf k.w k.p k.ls k.id (beVal (sig.take 4)) msg ((sig.drop 4).take k.oSize))) (sig.drop (8+k.oSize))
def lmsV (pub msg sig:By):Int:=
 match apartL pub with
 | none=>500
 | some k=>if k.fits sig=true∧msg.length≤65536 then (if k.top msg sig=k.root then 0 else 502) else 500
def hssV (pub msg sig:By):Int:=
 if pub.length=60∧pub.take 4=be 2 4∧sig.take 4=be 1 4∧4≤sig.length then
  match apartL (pub.drop 4) with
  | none=>600
  | some k =>
    if sig.length<4+k.size+56 then 600 else
    let low:=(sig.drop (4+k.size)).take 56
    let a:=lmsV (pub.drop 4) low ((sig.drop 4).take k.size)
    let b:=lmsV low msg (sig.drop (60+k.size))
    if a=500∨b=500 then 600 else if a=0∧b=0 then 0 else 602
 else 600
def LKey.w (k:LKey):Nat:=((otsP k.ots).getD (0,0,0)).1
def LKey.p (k:LKey):Nat:=((otsP k.ots).getD (0,0,0)).2.1
def LKey.ls (k:LKey):Nat:=((otsP k.ots).getD (0,0,0)).2.2
def LKey.m (k:LKey):Nat:=2^k.height.toNat
def lmsPub (k:LKey):By:=be (kindOf k.height.toNat) 4++be k.ots.toNat 4++k.id++nodeL k.w k.p k.id k.seed k.m k.height.toNat 1
def lmsSig (k:LKey) (msg:By):By:=be k.next.toNat 4++otsSig k.ots.toNat k.w k.p k.ls k.id k.next.toNat k.seed msg++be (kindOf k.height.toNat) 4++pathS k.w k.p k.id k.seed k.m k.height.toNat 0 (k.m+k.next.toNat)
theorem be4_val {x:Nat} (h:x<4294967296):beVal (be x 4)=x:=by
 have:be x 4=[UInt8.ofNat (x/16777216),UInt8.ofNat (x/65536),UInt8.ofNat (x/256),UInt8.ofNat x]:=by simp[be,YAZ]
 rw[this];simp only [beVal,List.foldl_cons,List.foldl_nil,YA5];omega
theorem kind_val {h:Nat} (h1:1≤h) (h5:h≤5):heightOf (kindOf h)=some h∧kindOf h<4294967296:=by
 match h,h1,h5 with
 | 1,_,_=>decide
 | 2,_,_=>decide
 | 3,_,_=>decide
 | 4,_,_=>decide
 | 5,_,_=>decide
theorem otsP_cases {k:Int} {x:Nat×Nat×Nat} (h:otsP k=some x):(k=3∧x=(4,67,4))∨(k=4∧x=(8,34,0)):=by
 unfold otsP at h;split at h
 ·left;exact ⟨by assumption,(Option.some.inj h).symm⟩
 ·split at h
  ·right;exact ⟨by assumption,(Option.some.inj h).symm⟩
  ·simp at h
theorem flatR_len {f:Nat→By} {c:Nat} (hf:∀i,(f i).length=c):∀n,((List.range n).flatMap f).length=c*n:=by
 intro n
 induction n with
 | zero=>simp
 | succ n ih =>
   rw[YAZ,YAI,YAP,ih];simp[hf,Nat.mul_add]
theorem partsO_len {hd seed:By} {ds:List Nat}:(partsO hd seed ds).length=32*ds.length:=flatR_len (f:=fun i=>steps hd i 0 (ds.getD i 0) (privO hd i seed)) (fun i=>steps_len priv_len) _
theorem may_kind {k:LKey} (h:lmsMay k=true):∃x,otsP k.ots=some x∧k.w=x.1∧k.p=x.2.1∧k.ls=x.2.2∧256/k.w≤k.p∧1≤k.height.toNat∧k.height.toNat≤5∧k.id.length=16∧k.seed.length=32∧(k.ots.toNat:Int)=k.ots∧k.ots.toNat<5∧k.p≤67:=by
 unfold lmsMay at h;simp only [YA1,decide_eq_true_eq] at h;obtain ⟨⟨⟨⟨⟨⟨h1,h2⟩,h3⟩,h4⟩,h5⟩,h6⟩,h7⟩:=h;obtain ⟨x,hx⟩:=Option.isSome_iff_exists.1 h1;refine ⟨x,hx,by unfold LKey.w;rw[hx];rfl,by unfold LKey.p;rw[hx];rfl,by unfold LKey.ls;rw[hx];rfl,?_,by omega,by omega,h4,h5,?_⟩
 ·unfold LKey.w LKey.p;rw[hx];rcases otsP_cases hx with ⟨_,rfl⟩ | ⟨_,rfl⟩ <;> decide
 ·unfold LKey.p;rw[hx];rcases otsP_cases hx with ⟨e,rfl⟩ | ⟨e,rfl⟩ <;> rw[e] <;> decide
theorem lmsPub_len {k:LKey} (h:lmsMay k=true):(lmsPub k).length=56:=by
 obtain ⟨x,_,_,_,_,_,_,_,h4,_⟩:=may_kind h;unfold lmsPub;simp only [YAP,be_len,nodeL_len,h4]
theorem otsSig_len {kind w p ls:Nat} {id:By} {q:Nat} {seed msg:By} (h:256/w≤p):(otsSig kind w p ls id q seed msg).length=36+32*p:=by
 unfold otsSig otsC msgD;simp only [YAP,be_len,Hl_len,partsO_len,digitsO_len h]
theorem lms_apart {k:LKey} (h:lmsMay k=true):apartL (lmsPub k)=some ⟨k.height.toNat,k.ots.toNat,k.w,k.p,k.ls,k.id,nodeL k.w k.p k.id k.seed k.m k.height.toNat 1⟩:=by
 obtain ⟨x,hx,e1,e2,e3,_,h1,h5,h16,h32,ho,ho5,_⟩:=may_kind h;obtain ⟨kv1,kv2⟩:=kind_val h1 h5;unfold apartL;rw[if_pos (lmsPub_len h)]
 have a1:(lmsPub k).take 4=be (kindOf k.height.toNat) 4:=by
  unfold lmsPub;rw[YAA,YAA];exact YAj be_len
 have a2:(lmsPub k).drop 4=be k.ots.toNat 4++(k.id++nodeL k.w k.p k.id k.seed k.m k.height.toNat 1):=by
  unfold lmsPub;rw[YAA,YAA];exact YAG be_len
 have a3:((lmsPub k).drop 4).take 4=be k.ots.toNat 4:=by rw[a2];exact YAj be_len
 have a4:(lmsPub k).drop 8=k.id++nodeL k.w k.p k.id k.seed k.m k.height.toNat 1:=by
  have:(lmsPub k).drop 8=((lmsPub k).drop 4).drop 4:=by rw[YAD]
  rw[this,a2];exact YAG be_len
 have a5:((lmsPub k).drop 8).take 16=k.id:=by rw[a4];exact YAj h16
 have a6:(lmsPub k).drop 24=nodeL k.w k.p k.id k.seed k.m k.height.toNat 1:=by
  have:(lmsPub k).drop 24=((lmsPub k).drop 8).drop 16:=by rw[YAD]
  rw[this,a4];exact YAG h16
 rw[a1,a3,a5,a6,be4_val kv2,be4_val (by omega),kv1,ho,hx];rw[e1,e2,e3]
theorem lms_ok {k:LKey} {msg:By} (h:lmsMay k=true) (hn:k.next<2^k.height.toNat) (hm:msg.length≤65536):lmsV (lmsPub k) msg (lmsSig k msg)=0∧(lmsSig k msg).length=8+(36+32*k.p)+32*k.height.toNat:=by
 obtain ⟨x,hx,e1,e2,e3,hp,h1,h5,h16,h32,ho,ho5,_⟩:=may_kind h;obtain ⟨kv1,kv2⟩:=kind_val h1 h5
 have hn0:0≤k.next:=by
  unfold lmsMay at h;simp only [YA1,decide_eq_true_eq] at h;exact h.1.2
 obtain ⟨q,hq⟩:∃q:Nat,k.next=q:=⟨k.next.toNat,by omega⟩
 have hq2:q<2^k.height.toNat:=by
  have:((q:Nat):Int)<((2^k.height.toNat:Nat):Int):=by rw[←hq];push_cast;exact hn
  omega
 have hq32:2^k.height.toNat≤32:=by
  calc 2^k.height.toNat≤2^5:=YAv (by decide) h5
   _=32:=by decide
 have hnt:k.next.toNat=q:=by omega
 have os:=otsSig_len (kind:=k.ots.toNat) (ls:=k.ls) (id:=k.id) (q:=q) (seed:=k.seed) (msg:=msg) hp
 have hlen:(lmsSig k msg).length=8+(36+32*k.p)+32*k.height.toNat:=by
  unfold lmsSig;rw[hnt];simp only [YAP,be_len,os,pathS_len];omega
 refine ⟨?_,hlen⟩
 have s0:lmsSig k msg=be q 4++(otsSig k.ots.toNat k.w k.p k.ls k.id q k.seed msg++(be (kindOf k.height.toNat) 4++(pathS k.w k.p k.id k.seed k.m k.height.toNat 0 (k.m+q)++[]))):=by
  unfold lmsSig;rw[hnt];simp only [YAA,YAB]
 have t4:(lmsSig k msg).take 4=be q 4:=by rw[s0];exact YAj be_len
 have d4:(lmsSig k msg).drop 4=otsSig k.ots.toNat k.w k.p k.ls k.id q k.seed msg++(be (kindOf k.height.toNat) 4++(pathS k.w k.p k.id k.seed k.m k.height.toNat 0 (k.m+q)++[])):=by rw[s0];exact YAG be_len
 have so:((lmsSig k msg).drop 4).take (36+32*k.p)=otsSig k.ots.toNat k.w k.p k.ls k.id q k.seed msg:=by rw[d4];exact YAj os
 have d40:(lmsSig k msg).drop (4+(36+32*k.p))=be (kindOf k.height.toNat) 4++(pathS k.w k.p k.id k.seed k.m k.height.toNat 0 (k.m+q)++[]):=by
  rw[←YAD,d4];exact YAG os
 have d44:(lmsSig k msg).drop (8+(36+32*k.p))=pathS k.w k.p k.id k.seed k.m k.height.toNat 0 (k.m+q)++[]:=by
  rw[show 8+(36+32*k.p)=4+(36+32*k.p)+4 by omega,←YAD,d40];exact YAG be_len
 have okind:((lmsSig k msg).drop 4).take 4=be k.ots.toNat 4:=by
  rw[d4];unfold otsSig;rw[YAA,YAA];exact YAj be_len
 unfold lmsV;rw[lms_apart h];dsimp only
 have hfit:PKey.fits ⟨k.height.toNat,k.ots.toNat,k.w,k.p,k.ls,k.id,nodeL k.w k.p k.id k.seed k.m k.height.toNat 1⟩ (lmsSig k msg)=true:=by
  unfold PKey.fits PKey.size PKey.oSize;simp only [YA1,decide_eq_true_eq];refine ⟨⟨⟨hlen,?_⟩,?_⟩,?_⟩
  ·rw[okind,be4_val (by omega)]
  ·rw[d40,YAj be_len,be4_val kv2]
  ·rw[t4,be4_val (by omega)];exact hq2
 rw[if_pos ⟨hfit,hm⟩,if_pos];unfold PKey.top PKey.oSize;dsimp only;rw[t4,be4_val (by omega),so,d44]
 have hc:candOf k.w k.p k.ls k.id q msg (otsSig k.ots.toNat k.w k.p k.ls k.id q k.seed msg)=pubO k.w k.p (headO k.id q) k.seed:=by
  unfold candOf otsSig
  have c1:((be k.ots.toNat 4++otsC (headO k.id q) k.seed++partsO (headO k.id q) k.seed (msgD k.w k.p k.ls (headO k.id q) (otsC (headO k.id q) k.seed) msg)).drop 4).take 32=otsC (headO k.id q) k.seed:=by
   rw[YAA,YAG be_len];exact YAj Hl_len
  have c2:(be k.ots.toNat 4++otsC (headO k.id q) k.seed++partsO (headO k.id q) k.seed (msgD k.w k.p k.ls (headO k.id q) (otsC (headO k.id q) k.seed) msg)).drop 36=partsO (headO k.id q) k.seed (msgD k.w k.p k.ls (headO k.id q) (otsC (headO k.id q) k.seed) msg):=
   YAG (by rw[YAP,be_len];unfold otsC;rw[Hl_len])
  rw[c1,c2];exact cand_parts (digitsO_len hp) (fun d hd=>digitsO_lt hd)
 rw[hc]
 have hleaf:tipL k.id (2^k.height.toNat+q) (pubO k.w k.p (headO k.id q) k.seed)=nodeL k.w k.p k.id k.seed k.m 0 (k.m+q):=by
  unfold nodeL LKey.m;rw[YAs]
 rw[hleaf];have hm':(2^k.height.toNat+q)=k.m+q:=rfl;rw[hm',climb_path,YAz]
 have:(k.m+q)/2^k.height.toNat=1:=by
  unfold LKey.m;rw[Nat.add_div_left _ (Nat.two_pow_pos _),Nat.div_eq_of_lt hq2]
 rw[this]
structure HKey where
 ots:Int
 height:Int
 id:By
 seed:By
 next:Int
 deriving DecidableEq
def bxl (l:By):ByteArray:=⟨l.toArray⟩
def ofT (tag:Nat) (a b c:By):By:=Hl (tagL tag [bxl a,bxl b,bxl c])
def HKey.up (k:HKey):LKey:=⟨k.ots,k.height,k.id,k.seed,k.next/2^k.height.toNat⟩
def HKey.low (k:HKey):LKey:=⟨k.ots,k.height,(ofT 2 k.id k.seed (be (k.next/2^k.height.toNat).toNat 4)).take 16,ofT 3 k.id k.seed (be (k.next/2^k.height.toNat).toNat 4),k.next%2^k.height.toNat⟩
def hssMay (k:HKey):Bool:=lmsMay ⟨k.ots,k.height,k.id,k.seed,0⟩&&decide (0≤k.next)&&decide (k.next≤2^(2*k.height.toNat))
def hssPub (k:HKey):By:=be 2 4++lmsPub k.up
def hssSig (k:HKey) (msg:By):By:=be 1 4++lmsSig k.up (lmsPub k.low)++lmsPub k.low++lmsSig k.low msg
theorem up_pub {k:HKey}:lmsPub k.up=lmsPub ⟨k.ots,k.height,k.id,k.seed,0⟩:=rfl
theorem hss_parts {k:HKey} (h:hssMay k=true) (hn:k.next<2^(2*k.height.toNat)):lmsMay k.up=true∧k.up.next<2^k.height.toNat∧lmsMay k.low=true∧k.low.next<2^k.height.toNat:=by
 unfold hssMay at h;simp only [YA1,decide_eq_true_eq] at h;obtain ⟨⟨h1,h2⟩,h3⟩:=h
 have hp:(0:Int)<2^k.height.toNat:=by
  have:=Nat.two_pow_pos k.height.toNat;have e:((2^k.height.toNat:Nat):Int)=2^k.height.toNat:=by push_cast;rfl
  omega
 have hsq:(2:Int)^(2*k.height.toNat)=2^k.height.toNat*2^k.height.toNat:=by rw[←Int.pow_add];congr 1;omega
 have hu0:0≤k.next/2^k.height.toNat:=Int.ediv_nonneg h2 (by omega)
 have hu1:k.next/2^k.height.toNat<2^k.height.toNat:=by
  rw[hsq] at hn;exact Int.ediv_lt_of_lt_mul hp hn
 have hl0:0≤k.next%2^k.height.toNat:=Int.emod_nonneg _ (by omega);have hl1:k.next%2^k.height.toNat<2^k.height.toNat:=Int.emod_lt_of_pos _ hp;unfold lmsMay at h1;simp only [YA1,decide_eq_true_eq] at h1;obtain ⟨⟨⟨⟨⟨⟨a1,a2⟩,a3⟩,a4⟩,a5⟩,_⟩,_⟩:=h1;refine ⟨?_,hu1,?_,hl1⟩
 ·unfold lmsMay HKey.up;simp only [YA1,decide_eq_true_eq];exact ⟨⟨⟨⟨⟨⟨a1,a2⟩,a3⟩,a4⟩,a5⟩,hu0⟩,by omega⟩
 ·unfold lmsMay HKey.low;simp only [YA1,decide_eq_true_eq];refine ⟨⟨⟨⟨⟨⟨a1,a2⟩,a3⟩,?_⟩,Hl_len⟩,hl0⟩,by omega⟩;rw[YAT];unfold ofT;rw[Hl_len];rfl
theorem hss_ok {k:HKey} {msg:By} (h:hssMay k=true) (hn:k.next<2^(2*k.height.toNat)) (hm:msg.length≤65536):hssV (hssPub k) msg (hssSig k msg)=0:=by
 obtain ⟨u1,u2,l1,l2⟩:=hss_parts h hn;have pl:=lmsPub_len l1;have pu:=lmsPub_len u1;obtain ⟨v1,n1⟩:=lms_ok (msg:=lmsPub k.low) u1 u2 (by rw[pl];decide);obtain ⟨v2,n2⟩:=lms_ok (msg:=msg) l1 l2 hm;have hpub4:(hssPub k).drop 4=lmsPub k.up:=by unfold hssPub;exact YAG be_len
 have hp1:(hssPub k).take 4=be 2 4:=by unfold hssPub;exact YAj be_len
 have hpl:(hssPub k).length=60:=by unfold hssPub;rw[YAP,be_len,pu]
 have s0:hssSig k msg=be 1 4++(lmsSig k.up (lmsPub k.low)++(lmsPub k.low++lmsSig k.low msg)):=by unfold hssSig;simp only [YAA]
 have t4:(hssSig k msg).take 4=be 1 4:=by rw[s0];exact YAj be_len
 have d4:(hssSig k msg).drop 4=lmsSig k.up (lmsPub k.low)++(lmsPub k.low++lmsSig k.low msg):=by rw[s0];exact YAG be_len
 have ap:=lms_apart u1;generalize hPK:PKey.mk k.up.height.toNat k.up.ots.toNat k.up.w k.up.p k.up.ls k.up.id (nodeL k.up.w k.up.p k.up.id k.up.seed k.up.m k.up.height.toNat 1)=pk at ap
 have hsz:pk.size=(lmsSig k.up (lmsPub k.low)).length:=by
  rw[←hPK,n1];rfl
 have dS:(hssSig k msg).drop (4+pk.size)=lmsPub k.low++lmsSig k.low msg:=by
  rw[hsz,←YAD,d4];exact YAG rfl
 have dL:(hssSig k msg).drop (60+pk.size)=lmsSig k.low msg:=by
  rw[show 60+pk.size=4+pk.size+56 by omega,←YAD,dS];exact YAG pl
 have len:(hssSig k msg).length=4+(pk.size+(56+(lmsSig k.low msg).length)):=by
  rw[s0,YAP,YAP,YAP,be_len,pl,hsz]
 unfold hssV;rw[if_pos ⟨hpl,hp1,t4,by omega⟩,hpub4,ap];dsimp only;rw[if_neg (by omega),dS,dL,YAj pl,d4,hsz,YAj rfl,v1,v2]
 decide
theorem ZBM.t {d:ByteArray} {h:Heap} {K:Kd.Ty (.ar 32 .u8)→Heap→Prop} (hd:d.size≤1000000) (hK:∀h',Keep [] h h'→K (shaL d.data.toList) h'):ZBM.C d h K:=by
 apply ZBM.c;unfold ZBM.m;refine new_gen fun b1 h1 hb1 k1 e1 hs1 =>?_;refine ZDR.s fun h2 k2 i2 =>?_;have z1:=k1.1;have z2:=k2.1;refine sha_Write.s i2 (by simp;omega) (by omega) fun h3 s3 k3 i3 o3 =>?_;simp only [YAX,YAz] at i3;refine ZBM.s i3 (absR_len _) (by omega) fun h4 k4 =>?_;rw[absZ_app];have k13:Keep [] h1 h3:=k2.new k3 (by simp[own]);refine st_to ((k13.n k4).g e1) fun h5 k5 e5 hs5=>ld_go (sm_all e5) ?_;exact hK h5 ((k1.n (k13.n k4)).new k5 (by simp;omega))
theorem bx_dl {l:By}:(bx l).data.toList=l:=by simp[bx]
theorem sadd_b {a b:By} {K:ByteArray→Prop} (h:a.length+b.length≤9223372036854775807) (hK:K (bx (a++b))):sadd (bx a) (bx b) K:=by
 refine sadd_go (by rw[bx_size,bx_size];exact h) ?_;have:(⟨((bx a).data.toList++(bx b).data.toList).toArray⟩:ByteArray)=bx (a++b):=by simp[bx]
 rw[this];exact hK
theorem ZDG.s {x n:Nat} {h:Heap} {K:ByteArray→Heap→Prop} (hn:1≤n) (hn':n≤8) (hx:x<9223372036854775808) (hK:∀h',Keep [] h h'→K (bx (be x n)) h'):ZDG.C (x:Int) (n:Int) h K:=by
 apply ZDG.c;unfold ZDG.m;refine mk_gen (by omega) (by omega) fun b h1 hb k1 r1 hs1 =>?_;refine lp_go (fun (y:Int×Unit) (h2:Heap)=>∃i:Nat,y.1=i∧i≤n∧Keep [] h h2∧Row h2 t_uint8 .u8 ⟨some ⟨b,0⟩,n,n⟩ ((be x n).take i++List.replicate (n-i) (0:UInt8))) (fun (y:Int×Unit) _=>n-y.1.toNat) ?_ ?_
 ·exact ⟨0,rfl,YA0 _,k1,by rw[List.take_zero,YAX,YAy];exact r1⟩
 rintro ⟨(ii:Int),_⟩ h2 ⟨i,e,hi,k2,r2⟩;dsimp only at e ⊢;subst e;have bl:(be x n).length=n:=be_len;by_cases hlt:i<n
 ·rw[if_pos (show decide ((i:Int)<(n:Int))=true from dT (by omega))];have hw:w64 ((i:Int)+1)=((i+1:Nat):Int):=w6 (by omega)
  have hw2:w64 (8*w64 (w64 ((n:Int)-1)-(i:Int)))=((8*(n-1-i):Nat):Int):=by
   rw[w64_id (n:=(n:Int)-1) (by omega) (by omega),w64_id (n:=(n:Int)-1-(i:Int)) (by omega) (by omega),w64_id (by omega) (by omega)];omega
  rw[hw,hw2];refine ⟨by omega,?_⟩;rw[shrI_nat _ _ (by omega),u8I_nat];refine ix_st (k := .u8) (x:=UInt8.ofNat (x/2^(8*(n-1-i)))) r2 (by omega) (by simp[bl];omega) rfl fun h3 k3 r3 =>?_;refine ⟨⟨i+1,rfl,by omega,k2.new k3 (by simp[own];omega),?_⟩,by simp;omega⟩
  have e1:((be x n).take i++List.replicate (n-i) (0:UInt8)).set (i:Int).toNat (UInt8.ofNat (x/2^(8*(n-1-i))))=(be x n).take (i+1)++List.replicate (n-(i+1)) 0:=by
   rw[YAr,YAl (by omega)]
   have hg:(be x n)[i]'(by omega)=UInt8.ofNat (x/2^(8*(n-1-i))):=by
    simp only [be,List.getElem_map,List.getElem_range];rw[Nat.pow_mul]
   rw[hg,show n-i=(n-(i+1))+1 by omega,YAa];have hl:((be x n).take i).length=i:=by rw[YAT,bl];omega
   rw[YAc _ _ (by omega),hl,YAx];simp
  rw[e1] at r3;exact r3
 ·rw[if_neg (show ¬decide ((i:Int)<(n:Int))=true from dn (by omega))];obtain rfl:i=n:=by omega
  rw[YAx,YAb,YAB,YAk (by omega)] at r2;exact b2s_segq r2.seg fun q _=>hK h2 k2
theorem ZCq.s {id:By} {q:Nat} {h:Heap} {K:ByteArray→Bool→Heap→Prop} (hl:id.length≤1000000) (hq:q<9223372036854775808) (hK:∀h',Keep [] h h'→K (bx (headO id q)) (otsMay id q) h'):ZCq.C (bx id) (q:Int) h K:=by
 apply ZCq.c;unfold ZCq.m;refine jn_in (fun y h'=>y=(bx (headO id q),otsMay id q,())∧Keep [] h h') ?_ (fun y h' hy=>by rw[hy.1];exact hK h' hy.2);refine ZDG.s (n:=4) (by decide) (by decide) hq fun h2 k2 =>?_;refine sadd_b (by rw[be_len];omega) ?_;unfold otsMay;by_cases h16:id.length=16
 ·rw[if_pos (show decide (((bx id).size:Int)=16)=true from dT (by rw[bx_size];omega))];rw[if_pos (show decide ((q:Int)≥0)=true from dT (by omega))];exact ⟨by simp[h16,headO],k2⟩
 ·rw[if_neg (show ¬decide (((bx id).size:Int)=16)=true from fun h=>h16 (by have:=of_decide_eq_true h;rw[bx_size] at this;omega))];exact ⟨by simp[h16,headO],k2⟩
theorem ZAt.s {p rest:By} {what:Nat} {h:Heap} {K:ByteArray→Heap→Prop} (hp:p.length+rest.length≤900000) (hw:what<65536) (hK:∀h',Keep [] h h'→K (bx (Hl (p++be what 2++rest))) h'):ZAt.C (bx p) (what:Int) (bx rest) h K:=by
 apply ZAt.c;unfold ZAt.m;refine ZDG.s (n:=2) (by decide) (by decide) (by omega) fun h1 k1 =>?_;refine sadd_b (by rw[be_len];omega) ?_;refine sadd_b (by rw[YAP,be_len];omega) ?_;refine ZBM.t (by rw[bx_size];simp only [YAP,be_len];omega) fun h2 k2 =>?_;rw[bx_dl];refine new_st_gen fun b h4 hb k4 e4 hs4 =>?_;refine ⟨by decide,by decide,by decide,?_⟩;have g4:Seg .u8 ⟨some ⟨b,0⟩,32,32⟩ (shaL (p++be what 2++rest)).toList h4:=ar_seg e4;exact b2s_segq g4 fun q _=>hK h4 ((k1.n k2).n k4)
theorem ZBi.s {p s:By} {i fr to:Nat} {h:Heap} {K:ByteArray→Heap→Prop} (hp:p.length≤1000) (hs:s.length≤1000) (hi:i<65536) (hf:fr≤to) (ht:to≤1000) (hK:∀h',Keep [] h h'→K (bx (steps p i fr (to-fr) s)) h'):ZBi.C (bx p) (i:Int) (fr:Int) (to:Int) (bx s) h K:=by
 apply ZBi.c;unfold ZBi.m;refine lp_go (fun (y:ByteArray×Int×Unit) (h1:Heap)=>∃n:Nat,y.2.1=((fr+n:Nat):Int)∧fr+n≤to∧Keep [] h h1∧y.1=bx (steps p i fr n s)∧(steps p i fr n s).length≤1000) (fun (y:ByteArray×Int×Unit) _=>to-y.2.1.toNat) ?_ ?_
 ·exact ⟨0,rfl,hf,Keep.rfl,rfl,hs⟩
 rintro ⟨(a:ByteArray),(jj:Int),_⟩ h1 ⟨n,e,hn,k1,ea,hl⟩;dsimp only at e ea ⊢;subst e;subst ea;by_cases hlt:fr+n<to
 ·rw[if_pos (show decide (((fr+n:Nat):Int)<(to:Int))=true from dT (by omega))];have hw:w64 (((fr+n:Nat):Int)+1)=((fr+(n+1):Nat):Int):=w6 (by omega);rw[hw,u8I_nat];refine bs_gen fun b h2 hb k2 r2 hs2 =>?_;refine b2s_segq r2.seg fun q _ =>?_;show sadd (bx [UInt8.ofNat (fr+n)]) (bx (steps p i fr n s)) _;refine sadd_b (by simp;omega) ?_;refine ZAt.s (by simp only [YAP,YAQ,YAS];omega) hi fun h3 k3 =>?_
  have e3:Hl (p++be i 2++([UInt8.ofNat (fr+n)]++steps p i fr n s))=steps p i fr (n+1) s:=by
   rw[steps_succ,←YAA]
  rw[e3];refine ⟨⟨n+1,rfl,by omega,(k1.n k2).n k3,rfl,by rw[steps_succ,Hl_len];decide⟩,by simp;omega⟩
 ·rw[if_neg (show ¬decide (((fr+n:Nat):Int)<(to:Int))=true from dn (by omega))];have:n=to-fr:=by omega
  rw[this];exact hK h1 k1
abbrev KoK:Kd := .ag (.pr .i (.pr .i (.pr .i .un)))
def koV (x:Nat×Nat×Nat):KoK.Ty:=((x.1:Int),((x.2.1:Int),((x.2.2:Int),())))
theorem ZCh.s {k:Int} {h:Heap} {K:KoK.Ty→Bool→Heap→Prop} (hK:∀h',Keep [] h h'→K (koV ((otsP k).getD (0,0,0))) (otsP k).isSome h'):ZCh.C k h K:=by
 apply ZCh.c;unfold ZCh.m;refine new_gen fun b h1 hb k1 e1 hs1 =>?_;unfold otsP at hK;by_cases h3:k=3
 ·rw[if_pos (by simpa using h3)];rw[if_pos h3] at hK;exact st_to e1 fun h2 k2 e2 hs2=>ld_go (sm_all e2) (hK h2 (k1.new k2 (by simp;omega)))
 rw[if_neg (by simpa using h3)];rw[if_neg h3] at hK;by_cases h4:k=4
 ·rw[if_pos (by simpa using h4)];rw[if_pos h4] at hK;exact st_to e1 fun h2 k2 e2 hs2=>ld_go (sm_all e2) (hK h2 (k1.new k2 (by simp;omega)))
 rw[if_neg (by simpa using h4)];rw[if_neg h4] at hK;exact st_to e1 fun h2 k2 e2 hs2=>ld_go (sm_all e2) (hK h2 (k1.new k2 (by simp;omega)))
def oSize (k:Int):Nat:=36+32*((otsP k).getD (0,0,0)).2.1
theorem otsP_p {k:Int}:((otsP k).getD (0,0,0)).2.1≤67:=by
 unfold otsP;split
 ·decide
 ·split <;> decide
theorem ZB2.s {k:Int} {h:Heap} {K:Int→Bool→Heap→Prop} (hK:∀h',Keep [] h h'→K (oSize k) (otsP k).isSome h'):ZB2.C k h K:=by
 apply ZB2.c;unfold ZB2.m;refine ZCh.s fun h1 k1 =>?_;refine new_st_gen fun b h3 hb k3 e3 hs3 =>?_;have hp:=otsP_p (k:=k);refine ld_go (sm_fld (n:=1) (k' := .i) (y:=((((otsP k).getD (0,0,0)).2.1:Nat):Int)) e3 rfl (by decide)) ?_
 have hw:w64 (4+w64 (32*w64 (1+((((otsP k).getD (0,0,0)).2.1:Nat):Int))))=((oSize k:Nat):Int):=by
  unfold oSize;generalize ((otsP k).getD (0,0,0)).2.1=p at hp;rw[w64_id (n:=1+(p:Int)) (by omega) (by omega),w64_id (n:=32*(1+(p:Int))) (by omega) (by omega),w64_id (by omega) (by omega)];omega
 rw[hw];exact hK h3 (k1.n k3)
structure Dg (h:Heap) (b1 b2 b3 b4:Nat) (w p ls sum:Nat) (s:Slc) (L:List Nat):Prop where
 e1:h[b1]? = some (vobj t_ots_kind KoK (koV (w,p,ls)))
 e2:h[b2]? = some (vobj t_int .i (((2^w-1:Nat):Int):Int))
 e3:h[b3]? = some (vobj t_s_int .sl s)
 e4:h[b4]? = some (vobj t_int .i ((sum:Nat):Int))
 r:Row h t_int .i s (L.map fun d=>((d:Nat):Int))
 n2:b2∉own s
 n4:b4∉own s
 n24:b2≠b4
theorem rowT {T T' b:Nat} {k:Kd} {s:Slc} {L:List k.Ty} {h:Heap} {c:Array Value} {f:Nat×Nat} (r:Row h T k s L) (e:h[b]? = some (.cells c T' f)) (hT:T'≠T):b∉own s:=fun hm=>by
 rcases r with ⟨rfl,_⟩ | ⟨b',zs,ea,_,_,eh⟩
 ·simp[own] at hm
 ·have:b=b':=by unfold own at hm;rw[ea] at hm;simpa using hm
  subst this;rw[e] at eh;simp only [Option.some.injEq,robj,Obj.cells.injEq] at eh;exact hT eh.2.1
theorem vobjN {h:Heap} {b b' T T':Nat} {k k':Kd} {x:k.Ty} {y:k'.Ty} (e:h[b]? = some (vobj T k x)) (e':h[b']? = some (vobj T' k' y)) (hT:T≠T'):b≠b':=fun hb=>by
 subst hb;have:=Option.some.inj (e.symm.trans e');unfold vobj at this
 injection this with _ h2 _
 exact hT h2
theorem Dg.keep0 {h h':Heap} {b1 b2 b3 b4 w p ls sum:Nat} {s:Slc} {L:List Nat} (i:Dg h b1 b2 b3 b4 w p ls sum s L) (k:Keep [] h h'):Dg h' b1 b2 b3 b4 w p ls sum s L:=
 ⟨k.g i.e1,k.g i.e2,k.g i.e3,k.g i.e4,i.r.keep k (by simp),i.n2,i.n4,i.n24⟩
theorem digit_word {b w r:Nat} (hb:b<256) (hw:w=4∨w=8) (hr:r≤8):andI (shrI (b:Int) (r:Int)) ((2^w-1:Nat):Int)=((b/2^r%2^w:Nat):Int):=by
 rw[shrI_nat _ _ (by omega),andI_mask _ (by omega)];omega
theorem ots_digits_c1.s {h:Heap} {b1 b2 b3 b4 w p ls sum many:Nat} {s:Slc} {L:List Nat} {q:By} {K:Heap→Prop} (i:Dg h b1 b2 b3 b4 w p ls sum s L) (hw:w=4∨w=8) (hm:many*w≤8*q.length) (hm':many≤100) (hs:sum≤100000) (hL:L.length≤1000)
 (hK:∀h' s',Dg h' b1 b2 b3 b4 w p ls (sum+sumO w ((List.range many).map fun j=>digitAt q j w)) s' (L++(List.range many).map fun j=>digitAt q j w)→Keep ([b3,b4]++own s) h h'→(∀x∈own s',x∈own s∨h.size≤x)→K h'):ZBD.C (bx q) (many:Int) ⟨b1,0⟩ ⟨b2,0⟩ ⟨b4,0⟩ ⟨b3,0⟩ h K:=by
 apply ZBD.c;unfold ZBD.m;have lt2:=lt_of_some i.e2;have lt4:=lt_of_some i.e4;refine lp_go (fun (y:Int×Unit) (h1:Heap)=>∃(n:Nat) (s1:Slc),y.1=n∧n≤many∧Dg h1 b1 b2 b3 b4 w p ls (sum+sumO w ((List.range n).map fun j=>digitAt q j w)) s1 (L++(List.range n).map fun j=>digitAt q j w)∧Keep ([b3,b4]++own s) h h1∧(∀x∈own s1,x∈own s∨h.size≤x)∧sumO w ((List.range n).map fun j=>digitAt q j w)≤255*n) (fun (y:Int×Unit) _=>many-y.1.toNat) ?_ ?_
 ·exact ⟨0,s,rfl,YA0 _,by simpa[sumO] using i,Keep.rfl,fun x hx => .inl hx,by simp[sumO]⟩
 rintro ⟨(jj:Int),_⟩ h1 ⟨n,s1,e,hn,i1,k1,o1,hb1⟩;dsimp only at e ⊢;subst e;by_cases hlt:n<many
 ·rw[if_pos (show decide ((n:Int)<(many:Int))=true from dT (by omega))];have hw1:w64 ((n:Int)+1)=((n+1:Nat):Int):=w6 (by omega)
  have hnw:n*w+w≤many*w:=by
   have:(n+1)*w≤many*w:=YAu _ hlt;rw[Nat.add_mul,Nat.one_mul] at this;exact this
  have hmw:many*w≤800:=by rcases hw with rfl | rfl <;> omega
  have hat:w64 ((n:Int)*(w:Int))=((n*w:Nat):Int):=by rw[w64_id (by rw[←YAn];omega) (by rw[←YAn];omega)];exact (YAn n w).symm
  have hdv:w64 (((n*w:Nat):Int).tdiv 8)=((n*w/8:Nat):Int):=by
   rw[YAp (by omega),w64_id (by omega) (by omega)];omega
  have hmd:(((n*w:Nat):Int)).tmod 8=((n*w%8:Nat):Int):=by
   rw[YAq (by omega)];omega
  have hr8:n*w%8+w≤8:=by rcases hw with rfl | rfl <;> omega
  have hsh:w64 (w64 (8-(w:Int))-((n*w%8:Nat):Int))=((8-w-n*w%8:Nat):Int):=by
   rw[w64_id (n:=8-(w:Int)) (by omega) (by omega),w64_id (by omega) (by omega)];omega
  have f1:sm .i ((Pl.mk b1 0).fld 0) (w:Int) h1:=sm_fld (n:=0) (k' := .i) i1.e1 rfl (by decide);rw[hw1];refine ld_go f1 ?_;rw[hat,hdv];refine ⟨by decide,?_⟩;have hqi:n*w/8<(bx q).data.toList.length:=by rw[bx_dl];omega
  refine ixs_go hqi ?_;refine ld_go f1 ⟨by decide,?_⟩;rw[hmd,hsh];refine ⟨by omega,?_⟩;refine ld_go (sm_all i1.e2) (ld_go (sm_all i1.e4) (ld_go (sm_all i1.e2) ?_))
  have hby:(bx q).data.toList[n*w/8]=q.getD (n*w/8) 0:=by
   simp only [bx_dl];rw[YAL,YAM (by omega)];rfl
  rw[hby];have hbl:=(q.getD (n*w/8) 0).toNat_lt;rw[digit_word hbl hw (by omega)];have hdg:(q.getD (n*w/8) 0).toNat/2^(8-w-n*w%8)%2^w=digitAt q n w:=rfl;rw[hdg];have hdl:=digitAt_lt (s:=q) (i:=n) (w:=w);have h2w:2^w≤256:=by rcases hw with rfl | rfl <;> decide
  have hrs:(List.range (n+1)).map (fun j=>digitAt q j w)=(List.range n).map (fun j=>digitAt q j w)++[digitAt q n w]:=by rw[YAZ,YAU];rfl
  have hsO:sumO w ((List.range (n+1)).map fun j=>digitAt q j w)=sumO w ((List.range n).map fun j=>digitAt q j w)+(2^w-1-digitAt q n w):=by
   rw[hrs];unfold sumO;simp
  have hLl:((L++(List.range n).map fun j=>digitAt q j w).map fun d=>((d:Nat):Int)).length=L.length+n:=by simp
  have hrm:(L++(List.range (n+1)).map fun j=>digitAt q j w).map (fun d=>((d:Nat):Int))=(L++(List.range n).map fun j=>digitAt q j w).map (fun d=>((d:Nat):Int))++[((digitAt q n w:Nat):Int)]:=by
   rw[hrs];simp
  generalize digitAt q n w=dg at hdl hsO hrm ⊢;generalize hS:sumO w ((List.range n).map fun j=>digitAt q j w)=S at *;generalize hM:(L++(List.range n).map fun j=>digitAt q j w)=M at *
  have hws:w64 (((sum+S:Nat):Int)+w64 (((2^w-1:Nat):Int)-((dg:Nat):Int)))=((sum+(S+(2^w-1-dg)):Nat):Int):=by
   generalize 2^w=W at hdl h2w;rw[w64_id (n:=((W-1:Nat):Int)-(dg:Int)) (by omega) (by omega),w64_id (by omega) (by omega)];omega
  rw[hws];refine st_to i1.e4 fun h2 k2 e2 hs2 =>?_;have n34:b3≠b4:=vobjN i1.e3 i1.e4 (by decide);have n14:b1≠b4:=vobjN i1.e1 i1.e4 (by decide);have n32:b3≠b2:=vobjN i1.e3 i1.e2 (by decide);have n13:b1≠b3:=vobjN i1.e1 i1.e3 (by decide);have e32:=k2.get i1.e3 (by simpa using n34);have r2:=i1.r.keep k2 (fun x hx hm=>by simp at hm;subst hm;exact i1.n4 hx);refine ld_go (sm_all e32) ?_;refine app2 (by_:=8) (x:=((dg:Nat):Int)) r2 rfl (by rw[hLl];omega) fun s4 h4 k4 r4 o4 =>?_;have e34:=k4.get e32 (rowT r2 e32 (by decide));have e24:=k4.get (k2.get i1.e2 (by simpa using i1.n24)) i1.n2;have e44:=k4.get e2 i1.n4;have e14:=k4.get (k2.get i1.e1 (by simpa using n14)) (rowT r2 (k2.get i1.e1 (by simpa using n14)) (by decide));refine st_to e34 fun h5 k5 e5 hs5 =>?_;have lt1':b4<h2.size:=lt_of_some e2;have lt2':b2<h2.size:=lt_of_some (k2.get i1.e2 (by simpa using i1.n24));have z1:=k1.1;refine ⟨⟨n+1,s4,rfl,by omega,⟨k5.get e14 (by simpa using n13),k5.get e24 (by simpa using n32.symm),e5,?_,?_,fun hm =>?_,fun hm =>?_,i1.n24⟩,?_,fun x hx =>?_,by rw[hsO];generalize 2^w=W at hdl h2w;omega⟩,by simp;omega⟩
  ·have:=k5.get e44 (by simpa using n34.symm);rw[hsO];exact this
  ·rw[hrm];exact r4.keep k5 (fun x hx hm=>by simp at hm;subst hm;exact rowT r4 e34 (by decide) hx)
  ·rcases o4 _ hm with h | h
   ·exact i1.n2 h
   ·omega
  ·rcases o4 _ hm with h | h
   ·exact i1.n4 h
   ·omega
  ·exact ((k1.then k2 (fun q hq _=>hq) (fun q hq _=>by simp at hq;simp[hq])).then k4 (fun q hq _=>hq) (fun q hq hl=>by
    rcases o1 q hq with h | h
    ·simp[h]
    ·omega)).then k5 (fun q hq _=>hq) (fun q hq _=>by simp at hq;simp[hq])
  ·rcases o4 x hx with h | h
   ·exact o1 x h
   ·right;omega
 ·rw[if_neg (show ¬decide ((n:Int)<(many:Int))=true from dn (by omega))];obtain rfl:n=many:=by omega
  exact hK h1 s1 i1 k1 o1
theorem ots_digits.s {w p ls:Nat} {q:By} {h:Heap} {K:Slc→Heap→Prop} (hc:(w,p,ls)=(4,67,4)∨(w,p,ls)=(8,34,0)) (hq:q.length=32)
 (hK:∀h' s,Keep [] h h'→Row h' t_int .i s ((digitsO w p ls q).map fun d=>((d:Nat):Int))→K s h'):ZCP.C (koV (w,p,ls)) (bx q) h K:=by
 have hw:w=4∨w=8:=by rcases hc with h | h <;> cases h <;> simp
 have hp:256/w≤p∧(p-256/w)*w≤16∧p≤67∧ls≤4:=by rcases hc with h | h <;> cases h <;> decide
 have hw48:4≤w∧w≤8:=by rcases hw with rfl | rfl <;> decide
 have h64:256/w≤64∧p-256/w≤3:=by rcases hc with h | h <;> cases h <;> decide
 have h256:256/w*w=256:=by rcases hw with rfl | rfl <;> decide
 have h2w:2^w≤256∧1≤2^w:=by rcases hw with rfl | rfl <;> decide
 apply ZCP.c;unfold ZCP.m;refine new_gen fun b1 h1 hb1 k1 e1 hs1 =>?_;have e1:h1[b1]? = some (vobj t_ots_kind KoK (koV (w,p,ls))):=e1;have f0:∀ {hh:Heap},hh[b1]? = some (vobj t_ots_kind KoK (koV (w,p,ls)))→sm .i ((Pl.mk b1 0).fld 0) (w:Int) hh:=fun e=>sm_fld (n:=0) (k' := .i) e rfl (by decide);have f1:∀ {hh:Heap},hh[b1]? = some (vobj t_ots_kind KoK (koV (w,p,ls)))→sm .i ((Pl.mk b1 0).fld 1) (p:Int) hh:=fun e=>sm_fld (n:=1) (k' := .i) e rfl (by decide);have f2:∀ {hh:Heap},hh[b1]? = some (vobj t_ots_kind KoK (koV (w,p,ls)))→sm .i ((Pl.mk b1 0).fld 2) (ls:Int) hh:=fun e=>sm_fld (n:=2) (k' := .i) e rfl (by decide);refine ld_go (f0 e1) ⟨YAo w,?_⟩;have hmost:w64 (shlI 1 (w:Int)-1)=((2^w-1:Nat):Int):=by rcases hw with rfl | rfl <;> decide
 rw[hmost];refine new_st_gen fun b2 h3 hb2 k3 e3 hs3 =>?_;refine new_gen fun b3 h4 hb3 k4 e4 hs4 =>?_;refine new_st_gen fun b4 h6 hb4 k6 e6 hs6 =>?_;have k46:=k4.n k6;have k36:=k3.n k46;have e16:=k36.g e1;refine ld_go (f0 e16) ⟨show (w:Int)≠0 from by omega,?_⟩;have hdv:w64 ((256:Int).tdiv (w:Int))=((256/w:Nat):Int):=by rcases hw with rfl | rfl <;> decide
 rw[hdv];have D6:Dg h6 b1 b2 b3 b4 w p ls 0 ⟨none,0,0⟩ []:=⟨e16,k46.g e3,k6.g e4,e6,Row.nil,by simp[own],by simp[own],by omega⟩;refine callV_go (aa:=[Kd.s.val (bx q),Kd.i.val ((256/w:Nat):Int),Kd.p.val (some (Pl.mk b1 0)),Kd.p.val (some (Pl.mk b2 0)),Kd.p.val (some (Pl.mk b4 0)),Kd.p.val (some (Pl.mk b3 0))]) (by rfl) ?_;show ZBD.C (bx q) ((256/w:Nat):Int) ⟨b1,0⟩ ⟨b2,0⟩ ⟨b4,0⟩ ⟨b3,0⟩ h6 _;refine ots_digits_c1.s D6 hw (by rw[h256];omega) (by omega) (by omega) (by simp) fun h7 s7 D7 k7 o7 =>?_;rw[YAz,YAX] at D7;have hA:(List.range (256/w)).map (fun j=>digitAt q j w)=digitsA w q:=rfl;rw[hA] at D7
 have hsA:sumO w (digitsA w q)≤255*64:=by
  unfold sumO digitsA
  have:∀n:Nat,(((List.range n).map fun i=>digitAt q i w).map fun d=>2^w-1-d).sum≤255*n:=by
   intro n
   induction n with
   | zero=>simp
   | succ n ih =>
     rw[YAZ,YAU,YAU,YAe];simp only [YAV,YAW,YAf,YAg];omega
  have h1:=this (256/w);have h2:256/w≤64:=by rcases hw with rfl | rfl <;> decide
  omega
 refine ld_go (sm_all D7.e4) (ld_go (f2 D7.e1) ⟨YAo ls,ld_go (f1 D7.e1) ?_⟩)
 have hshl:shlI ((sumO w (digitsA w q):Nat):Int) (ls:Int)=((sumO w (digitsA w q)*2^ls:Nat):Int):=by
  generalize sumO w (digitsA w q)=S at hsA;rcases hc with h | h <;> cases h
  ·unfold shlI;rw[wrap_i64];simp;omega
  ·unfold shlI;rw[wrap_i64];simp;omega
 have hSb:sumO w (digitsA w q)*2^ls<9223372036854775808:=by
  have:2^ls≤2^4:=YAv (by decide) hp.2.2.2;have h1:sumO w (digitsA w q)*2^ls≤255*64*2^4:=Nat.mul_le_mul hsA this;omega
 rw[hshl];refine ZDG.s (n:=2) (by decide) (by decide) hSb fun h8 k8 =>?_;have D8:=D7.keep0 k8;refine ⟨f1 D8.e1,?_⟩;have hmany:w64 ((p:Int)-((256/w:Nat):Int))=((p-256/w:Nat):Int):=w6 (by omega);rw[hmany];refine callV_go (aa:=[Kd.s.val (bx (be (sumO w (digitsA w q)*2^ls) 2)),Kd.i.val ((p-256/w:Nat):Int),Kd.p.val (some (Pl.mk b1 0)),Kd.p.val (some (Pl.mk b2 0)),Kd.p.val (some (Pl.mk b4 0)),Kd.p.val (some (Pl.mk b3 0))]) (by rfl) ?_;show ZBD.C (bx (be (sumO w (digitsA w q)*2^ls) 2)) ((p-256/w:Nat):Int) ⟨b1,0⟩ ⟨b2,0⟩ ⟨b4,0⟩ ⟨b3,0⟩ h8 _;refine ots_digits_c1.s (q:=be (sumO w (digitsA w q)*2^ls) 2) (many:=p-256/w) D8 hw (by rw[be_len];omega) (by omega) (by omega) (by unfold digitsA;rw[List.length_map,List.length_range];omega) fun h9 s9 D9 k9 o9 =>?_;refine ld_go (sm_all D9.e3) ?_;have z1:=k1.1;have z36:=k36.1;have k17:Keep [] h1 h7:=k36.new k7 (by simp[own];omega);refine hK h9 s9 ((k1.n k17).new (k8.then k9 (by simp) (fun x hx _=>hx)) (fun x hx =>?_)) D9.r;simp only [List.mem_append,List.mem_cons,YAY,or_false] at hx;rcases hx with (rfl | rfl) | h
 ·omega
 ·omega
 ·rcases o7 x h with h | h
  ·simp[own] at h
  ·omega
theorem sls_by {l:By} {lo hi:Nat} {K:ByteArray→Prop} (h1:lo≤hi) (h2:hi≤l.length) (hK:K (bx ((l.take hi).drop lo))):sls (bx l) (lo:Int) (hi:Int) K:=by
 refine ⟨by omega,by omega,by rw[bx_size];omega,?_⟩;rw[YAr,YAr,bx_ext];exact hK
theorem sls_from {l:By} {lo:Nat} {K:ByteArray→Prop} (h1:lo≤l.length) (hK:K (bx (l.drop lo))):sls (bx l) (lo:Int) ((bx l).size:Int) K:=by
 rw[bx_size];refine sls_by h1 (YAt _) ?_;rw[YAk (YAt _)];exact hK
theorem u8c_len (l:By):(l.flatMap Kd.u8.cells).length=l.length:=by
 induction l with
 | nil=>rfl
 | cons a r ih=>rw[YAJ,YAP,ih];simp[Kd.cells];omega
theorem s2a_go {T:Nat} {l:By} {h:Heap} {K:Vector UInt8 32→Heap→Prop} (hl:l.length=32) (hK:∀v h',Vector.toList v=l→Keep [] h h'→K v h'):s2b T (bx l) h fun s h'=>32≤s.len∧nck s.a fun p=>ld (.ar 32 .u8) p h' fun x=>K x h':=by
 intro c hc _;dsimp only;refine ⟨by rw[bx_size];omega,⟨⟨h.size,0⟩,rfl,⟨⟨l.toArray,by simpa using hl⟩,?_,hK _ _ (by simp) keep_push⟩⟩⟩;show rdCells _ _ 32=some (l.flatMap Kd.u8.cells);unfold rdCells;rw[get_push];have hcl:=u8c_len l;simp only [bx_dl];rw[if_pos (by simp only [List.size_toArray,YAP];omega)];simp only [List.drop_zero];rw[YAi (by omega),YAk (by omega)]
theorem shlI_nat {a k:Nat} (hk:k≤63) (h:a*2^k<9223372036854775808):shlI (a:Int) (k:Int)=((a*2^k:Nat):Int):=by
 unfold shlI;rw[YAr,Nat.min_eq_left (by omega),IntKind.wrap_i64];have:(a:Int)*2^k=((a*2^k:Nat):Int):=by simp
 rw[this];generalize a*2^k=c at *;omega
theorem orI_add {a b k:Nat} (hb:b<2^k) (h:a*2^k+b<9223372036854775808):orI ((a*2^k:Nat):Int) (b:Int)=((a*2^k+b:Nat):Int):=by
 unfold orI
 have h2:(BitVec.ofInt 64 ((a*2^k:Nat):Int)|||BitVec.ofInt 64 (b:Int)).toNat=a*2^k+b:=by
  have h5:=Nat.shiftLeft_add_eq_or_of_lt (a:=a) (b:=b) (i:=k) hb;rw[Nat.shiftLeft_eq] at h5;rw[BitVec.toNat_or,BitVec.toNat_ofInt,BitVec.toNat_ofInt];generalize a*2^k=c at *
  have h3:((c:Int)%((2^64:Nat):Int)).toNat=c:=by
   rw[YAm (by omega) (by omega)];omega
  have h4:((b:Int)%((2^64:Nat):Int)).toNat=b:=by
   rw[YAm (by omega) (by omega)];omega
  rw[h3,h4];exact h5.symm
 rw[h2,IntKind.wrap_i64];generalize a*2^k=c at *;omega
theorem kind4 {a b c d:UInt8}:orI (orI (orI (shlI (a.toNat:Int) ((24:UInt64).toNat:Int)) (shlI (b.toNat:Int) ((16:UInt64).toNat:Int))) (shlI (c.toNat:Int) ((8:UInt64).toNat:Int))) (d.toNat:Int)=((beVal [a,b,c,d]:Nat):Int):=by
 have ha:=a.toNat_lt;have hb:=b.toNat_lt;have hc:=c.toNat_lt;have hd:=d.toNat_lt;have e:beVal [a,b,c,d]=((a.toNat*256+b.toNat)*256+c.toNat)*256+d.toNat:=by simp[beVal]
 rw[e];have e24:(((24:UInt64).toNat:Nat):Int)=((24:Nat):Int):=rfl;have e16:(((16:UInt64).toNat:Nat):Int)=((16:Nat):Int):=rfl;have e8:(((8:UInt64).toNat:Nat):Int)=((8:Nat):Int):=rfl;rw[e24,e16,e8,shlI_nat (by omega) (by omega),shlI_nat (by omega) (by omega),shlI_nat (by omega) (by omega)];rw[orI_add (a:=a.toNat) (k:=24) (b:=b.toNat*2^16) (by omega) (by omega)];rw[show a.toNat*2^24+b.toNat*2^16=(a.toNat*256+b.toNat)*2^16 by omega];rw[orI_add (k:=16) (by omega) (by omega)];rw[show (a.toNat*256+b.toNat)*2^16+c.toNat*2^8=((a.toNat*256+b.toNat)*256+c.toNat)*2^8 by omega];rw[orI_add (k:=8) (by omega) (by omega)]
theorem ZDJ.s {s:By} {h:Heap} {K:Int→Bool→Heap→Prop} (hbad:s.length<4→K 0 false h)
 (hK:4≤s.length→∀h',Keep [] h h'→K ((beVal (s.take 4):Nat):Int) ((otsP ((beVal (s.take 4):Nat):Int)).isSome&&decide (oSize ((beVal (s.take 4):Nat):Int)=s.length)) h'):ZDJ.C (bx s) h K:=by
 apply ZDJ.c;unfold ZDJ.m;by_cases h4:s.length<4
 ·rw[if_pos (show decide (((bx s).size:Int)<4)=true from dT (by rw[bx_size];omega))];exact hbad h4
 rw[if_neg (show ¬decide (((bx s).size:Int)<4)=true from fun h=>by have:=of_decide_eq_true h;rw[bx_size] at this;omega)];replace hK:=hK (by omega);rcases s with _ | ⟨a,_ | ⟨b,_ | ⟨c,_ | ⟨d,r⟩⟩⟩⟩
 ·exact absurd (by simp) h4
 ·exact absurd (by simp) h4
 ·exact absurd (by simp) h4
 ·exact absurd (by simp) h4
 ·refine ixs_bx (i:=0) (by simp) ⟨by decide,ixs_bx (i:=1) (by simp) ⟨by decide,ixs_bx (i:=2) (by simp) ⟨by decide,ixs_bx (i:=3) (by simp) ?_⟩⟩⟩;show ZB2.C (orI (orI (orI (shlI (a.toNat:Int) ((24:UInt64).toNat:Int)) (shlI (b.toNat:Int) ((16:UInt64).toNat:Int))) (shlI (c.toNat:Int) ((8:UInt64).toNat:Int))) (d.toNat:Int)) h _;have e4:(a::b::c::d::r).take 4=[a,b,c,d]:=rfl;rw[e4] at hK;simp only [List.getElem_cons_zero,List.getElem_cons_succ];rw[kind4];generalize beVal [a,b,c,d]=v at *;refine ZB2.s fun h1 k1 =>?_;refine jn_at ((v:Int),(otsP (v:Int)).isSome&&decide (oSize (v:Int)=(a::b::c::d::r).length),()) h1 ?_ (hK h1 k1)
  cases hs:(otsP (v:Int)).isSome with
  | true =>
    rw[if_pos rfl];refine ⟨?_,rfl⟩;rw[bx_size]
    have:decide (((oSize (v:Int):Nat):Int)=(((a::b::c::d::r).length:Nat):Int))=decide (oSize (v:Int)=(a::b::c::d::r).length):=by
     apply decide_eq_decide.2;omega
    rw[this];rfl
  | false =>
    rw[if_neg (by simp)];exact ⟨rfl,rfl⟩
theorem ZCD.s {id msg sig:By} {q w p ls:Nat} {h:Heap} {K:Kd.Ty (.ar 32 .u8)→Int→Heap→Prop} (hid:id.length=16) (hq:q≤4294967295) (hm:msg.length≤65536)
 (hk:otsP ((beVal (sig.take 4):Nat):Int)=some (w,p,ls)) (hs:sig.length=36+32*p)
 (hK:∀v h',Vector.toList v=candOf w p ls id q msg sig→Keep [] h h'→K v 0 h'):ZCD.C (bx id) (q:Int) (bx msg) (bx sig) h K:=by
 have hc:(w,p,ls)=(4,67,4)∨(w,p,ls)=(8,34,0):=by
  rcases otsP_cases hk with ⟨_,h⟩ | ⟨_,h⟩
  ·exact .inl h
  ·exact .inr h
 have hw48:4≤w∧w≤8∧p≤67:=by rcases hc with h | h <;> cases h <;> decide
 have h2w:2^w≤256∧1≤2^w:=by rcases hc with h | h <;> cases h <;> decide
 have hpl:256/w≤p:=by rcases hc with h | h <;> cases h <;> decide
 have hmost:w64 (shlI 1 (w:Int)-1)=((2^w-1:Nat):Int):=by rcases hc with h | h <;> cases h <;> decide
 have hoz:oSize ((beVal (sig.take 4):Nat):Int)=sig.length:=by unfold oSize;rw[hk,hs];rfl
 apply ZCD.c;unfold ZCD.m;refine new_gen fun b1 h1 hb1 k1 e1 hs1 =>?_;refine ZDJ.s (fun h=>by omega) fun _ h2 k2 =>?_;rw[hk,hoz];simp only [Option.isSome_some,Bool.true_and,decide_true];refine ZCq.s (by omega) (by omega) fun h3 k3 =>?_
 have hmay:otsMay id (q:Int)=true:=by
  unfold otsMay;simp[hid];omega
 rw[hmay];refine jn_at (decide (((bx msg).size:Int)>65536),()) h3 ?_ ?_
 ·rw[if_neg (by simp),if_neg (by simp)];exact ⟨rfl,rfl⟩
 rw[if_neg (show ¬decide (((bx msg).size:Int)>65536)=true from fun h=>by have:=of_decide_eq_true h;rw[bx_size] at this;omega)];refine ZCh.s fun h4 k4 =>?_;rw[hk];refine new_st_gen fun b2 h6 hb2 k6 e6 hs6 =>?_;have e6:h6[b2]? = some (vobj t_ots_kind KoK (koV (w,p,ls))):=e6;refine sls_by (lo:=4) (hi:=36) (by omega) (by omega) ?_;refine sls_from (lo:=36) (by omega) ?_;refine ld_go (sm_all e6) ?_;rw[show (sig.take 36).drop 4=(sig.drop 4).take 32 by rw[YAH]];have hcl:((sig.drop 4).take 32).length=32:=by rw[YAT,YAR];omega
 refine sadd_b (by omega) ?_;have hhl:(headO id q).length=20:=by unfold headO;rw[YAP,be_len,hid]
 refine ZAt.s (p:=headO id q) (what:=33153) (rest:=(sig.drop 4).take 32++msg) (by rw[YAP];omega) (by decide) fun h7 k7 =>?_;have e7:=k7.g e6;refine ⟨sm_all e7,?_⟩;refine ots_digits.s hc Hl_len fun h8 sd k8 r8 =>?_
 have hms:digitsO w p ls (Hl (headO id q++be 33153 2++((sig.drop 4).take 32++msg)))=msgD w p ls (headO id q) ((sig.drop 4).take 32) msg:=by
  unfold msgD;rw[show be 33153 2=[129,129] from by decide];rw[←YAA (headO id q++[129,129])]
 rw[hms] at r8;have hdl:(msgD w p ls (headO id q) ((sig.drop 4).take 32) msg).length=p:=digitsO_len hpl;have hdb:∀d∈msgD w p ls (headO id q) ((sig.drop 4).take 32) msg,d<2^w:=fun d hd=>digitsO_lt hd;have hKc:∀v h',Vector.toList v=candO w (headO id q) (msgD w p ls (headO id q) ((sig.drop 4).take 32) msg) (sig.drop 36)→Keep [] h h'→K v 0 h':=hK;generalize msgD w p ls (headO id q) ((sig.drop 4).take 32) msg=ds at *;have e8:=k8.g e7;have k18:Keep [] h1 h8:=((((k2.n k3).n k4).n k6).n k7).n k8;have hyl:(sig.drop 36).length=32*p:=by rw[YAR];omega
 generalize hy:sig.drop 36=y at *;have hsl:sd.len=p:=by rw[r8.len,List.length_map,hdl]
 have fl:∀n,((List.range n).flatMap fun i=>steps (headO id q) i (ds.getD i 0) (2^w-1-ds.getD i 0) ((y.drop (32*i)).take 32)).length≤32*n∨n>p:=fun n=>by
  induction n with
  | zero=>left;simp
  | succ n ih =>
    rcases ih with ih | ih
    ·by_cases hn:n+1>p
     ·exact .inr hn
     left
     rw[YAZ,YAI,YAP];simp only [YAJ,YAK,YAB];rw[steps_len (by rw[YAT,YAR];omega)];omega
    ·right;omega
 refine lp_go (fun (z:ByteArray×Int×Unit) (h9:Heap)=>∃n:Nat,z.2.1=n∧n≤p∧Keep [] h8 h9∧z.1=bx ((List.range n).flatMap fun i=>steps (headO id q) i (ds.getD i 0) (2^w-1-ds.getD i 0) ((y.drop (32*i)).take 32))) (fun (z:ByteArray×Int×Unit) _=>p-z.2.1.toNat) ?_ ?_
 ·exact ⟨0,rfl,YA0 _,Keep.rfl,rfl⟩
 rintro ⟨(all:ByteArray),(jj:Int),_⟩ h9 ⟨n,e,hn,k9,ea⟩;dsimp only at e ea ⊢;subst e;subst ea;rw[hsl];have hfl:=fl n;by_cases hlt:n<p
 ·rw[if_pos (show decide ((n:Int)<(p:Int))=true from dT (by omega))];have hw1:w64 ((n:Int)+1)=((n+1:Nat):Int):=w6 (by omega);rw[hw1];have r9:=r8.keep k9 (by simp)
  have hg:(ds.map fun d=>((d:Nat):Int))[((n:Int)).toNat]? = some ((ds.getD n 0:Nat):Int):=by
   rw[YAr,YAN,YAL,YAM (by omega)];rfl
  refine ix_ld r9 (by omega) hg rfl ?_;refine ld_go (sm_fld (n:=0) (k' := .i) (y:=((w:Nat):Int)) (k9.g e8) rfl (by decide)) ⟨YAo w,?_⟩;rw[hmost];have ha:w64 ((n:Int)*32)=((32*n:Nat):Int):=w6 (by omega);have hb:w64 (((n+1:Nat):Int)*32)=((32*n+32:Nat):Int):=w6 (by omega);rw[ha,hb];refine sls_by (by omega) (by omega) ?_
  have hdn:ds.getD n 0<2^w:=by
   rw[YAL,YAM (by omega)];exact hdb _ (YAO _)
  rw[show (y.take (32*n+32)).drop (32*n)=(y.drop (32*n)).take 32 by rw[YAH];congr 1;omega];have hyn:((y.drop (32*n)).take 32).length=32:=by rw[YAT,YAR];omega
  refine ZBi.s (by omega) (by omega) (by omega) (by omega) (by omega) fun h10 k10 =>?_;refine sadd_b (by rw[steps_len hyn];omega) ?_;refine ⟨⟨n+1,rfl,by omega,k9.n k10,?_⟩,by simp;omega⟩;rw[YAZ,YAI];simp only [YAJ,YAK,YAB]
 ·rw[if_neg (show ¬decide ((n:Int)<(p:Int))=true from dn (by omega))];obtain rfl:n=p:=by omega
  refine ZAt.s (what:=32896) (by omega) (by decide) fun h10 k10 =>?_;rw[show be 32896 2=[128,128] from by decide];refine s2a_go Hl_len fun v h11 hv k11 =>?_;have k19:Keep [] h1 h11:=((k18.n k9).n k10).n k11;refine st_to (k19.g e1) fun h12 k12 e12 hs12=>ld_go (sm_all e12) ?_;refine hKc v h12 ?_ ((k1.n k19).new k12 (by simp;omega));rw[hv];unfold candO;rw[hdl]
theorem ZAn.s {x:UInt32} {k:Nat} {h:Heap} {K:UInt32→Heap→Prop} (hk:k≤32) (hK:K (rr x k) h):ZAn.C x k h K:=by
 apply ZAn.c;unfold ZAn.m;have hw:w64 (32-(k:Int))=((32-k:Nat):Int):=w6 (by omega);rw[hw];refine ⟨by omega,by omega,?_⟩;rw[UInt32.or_comm];exact hK
theorem add_swap (a b c d:UInt32):((a+b)+c)+d=((a+c)+b)+d:=by rw[UInt32.add_assoc a b c,UInt32.add_comm b c,←UInt32.add_assoc]
theorem ZBR.s {z:Vector UInt32 8} {l:List UInt8} {h:Heap} {K:Kd.Ty (.ar 8 .u32)→Heap→Prop} (hl:l.length=64) (hK:∀h',Keep [] h h'→K (turnV l z) h'):ZBR.C z (bx l) h K:=by
 apply ZBR.c;unfold ZBR.m;refine new_gen fun b1 h1 hb1 k1 e1 hs1 =>?_;refine new_gen fun b2 h2 hb2 k2 e2 hs2 =>?_;refine new_st_gen fun b3 h4 hb3 k4 e4 hs4 =>?_;have e4:h4[b3]? = some (vobj t_64_uint32 (.ar 64 .u32) kk):=e4;refine new_gen fun b4 h5 hb4 k5 e5 hs5 =>?_;have c1:h5[b1]? = some (vobj t_8_uint32 (.ar 8 .u32) z):=k5.g (k4.g (k2.g e1));have c2:h5[b2]? = some (vobj t_8_uint32 (.ar 8 .u32) (Vector.replicate 8 (0:UInt32))):=k5.g (k4.g e2);have c3:=k5.g e4;have e5:h5[b4]? = some (vobj t_64_uint32 (.ar 64 .u32) (Vector.replicate 64 (0:UInt32))):=e5;have k05:Keep [] h h5:=((k1.n k2).n k4).n k5;have e24:(((24:UInt64).toNat:Int))=24:=by decide
 have e16:(((16:UInt64).toNat:Int))=16:=by decide
 have e8:(((8:UInt64).toNat:Int))=8:=by decide
 have e3:(((3:UInt64).toNat:Int))=3:=by decide
 have e10:(((10:UInt64).toNat:Int))=10:=by decide
 rw[e24,e16,e8,e3,e10]
 clear e24 e16 e8 e3 e10
 refine lp_go (fun (y:Int×Unit) (h3:Heap)=>∃t:Nat,y.1=t∧t≤16∧Keep [b4] h5 h3∧∃w:Vector UInt32 64,h3[b4]? = some (vobj t_64_uint32 (.ar 64 .u32) w)∧w.toList=sch l t++List.replicate (64-t) 0) (fun (y:Int×Unit) _=>16-y.1.toNat) ?_ ?_
 ·exact ⟨0,rfl,by decide,Keep.rfl,_,e5,by simp[sch]⟩
 ·rintro ⟨(i:Int),_⟩ h6 ⟨t,e,ht,k6,w,hw,hwl⟩;dsimp only at e ⊢;subst e;by_cases hlt:t<16
  ·rw[if_pos (show decide ((t:Int)<16)=true from dT (by omega))];have w0:w64 (4*(t:Int))=((4*t:Nat):Int):=w6 (by omega);have w1:w64 (((4*t:Nat):Int)+1)=((4*t+1:Nat):Int):=w6 (by omega);have w2:w64 (((4*t:Nat):Int)+2)=((4*t+2:Nat):Int):=w6 (by omega);have w3:w64 (((4*t:Nat):Int)+3)=((4*t+3:Nat):Int):=w6 (by omega);have w4:w64 ((t:Int)+1)=((t+1:Nat):Int):=w6 (by omega);rw[w0,w1,w2,w3,w4];refine ixs_bx (by omega) ⟨by decide,?_⟩;refine ixs_bx (by omega) ⟨by decide,?_⟩;refine ixs_bx (by omega) ⟨by decide,?_⟩;refine ixs_bx (by omega) ⟨by omega,by omega,?_⟩;rw[show (⟨b4,0+(t:Int).toNat*1⟩:Pl)=⟨b4,0+t*Kd.u32.size⟩ by rw[YAr];rfl];refine ar_st (i:=t) hw (by omega) ⟨⟨t+1,rfl,by omega,k6.then keep_set (fun x hx _=>hx) (fun x hx _=>hx),_,get_set hw,?_⟩,by simp;omega⟩;refine sch_step (by omega) hwl ?_;rw[if_pos hlt];unfold wordB;simp only [YAL,YAM (show 4*t<l.length by omega),YAM (show 4*t+1<l.length by omega),YAM (show 4*t+2<l.length by omega),YAM (show 4*t+3<l.length by omega),YA4]
  ·rw[if_neg (show ¬decide ((t:Int)<16)=true by simp;omega)];have ht16:t=16:=by omega
   subst ht16;refine lp_go (fun (y:Int×Unit) (h3:Heap)=>∃t:Nat,y.1=t∧16≤t∧t≤64∧Keep [b4] h5 h3∧∃w:Vector UInt32 64,h3[b4]? = some (vobj t_64_uint32 (.ar 64 .u32) w)∧w.toList=sch l t++List.replicate (64-t) 0) (fun (y:Int×Unit) _=>64-y.1.toNat) ?_ ?_
   ·exact ⟨16,rfl,by decide,by decide,k6,w,hw,hwl⟩
   ·clear hw hwl k6 w hlt ht h6
    rintro ⟨(i:Int),_⟩ h8 ⟨t,e,ht1,ht,k6,w,hw,hwl⟩;dsimp only at e ⊢;subst e;by_cases hlt:t<64
    ·rw[if_pos (show decide ((t:Int)<64)=true from dT (by omega))];have w15:w64 ((t:Int)-15)=((t-15:Nat):Int):=w6 (by omega);have w2:w64 ((t:Int)-2)=((t-2:Nat):Int):=w6 (by omega);have w16:w64 ((t:Int)-16)=((t-16:Nat):Int):=w6 (by omega);have w7:w64 ((t:Int)-7)=((t-7:Nat):Int):=w6 (by omega);have w4:w64 ((t:Int)+1)=((t+1:Nat):Int):=w6 (by omega);rw[w15,w2,w16,w7,w4]
     have at_:∀j,(hj:j<t)→sm .u32 ⟨b4,0+((j:Nat):Int).toNat*1⟩ ((sch l t).getD j 0) h8:=fun j hj=>by
      rw[←sch_get hwl hj (by omega),YAr];exact ar_sm (i:=j) hw (by omega)
     have s15:=at_ (t-15) (by omega);have s2:=at_ (t-2) (by omega);have s16:=at_ (t-16) (by omega);have s7:=at_ (t-7) (by omega);refine ⟨by omega,by omega,_,s15,by omega,by omega,_,s15,by omega,by omega,_,s15,by decide,?_⟩;refine ZAn.s (k:=7) (by decide) ⟨s15,s15,?_⟩;refine ZAn.s (k:=18) (by decide) ⟨s15,?_⟩;refine ⟨by omega,by omega,_,s2,by omega,by omega,_,s2,by omega,by omega,_,s2,by decide,?_⟩;refine ZAn.s (k:=17) (by decide) ⟨s2,s2,?_⟩;refine ZAn.s (k:=19) (by decide) ⟨s2,?_⟩;refine ⟨by omega,by omega,_,s16,by omega,by omega,_,s7,by omega,by omega,?_⟩;rw[show (⟨b4,0+(t:Int).toNat*1⟩:Pl)=⟨b4,0+t*Kd.u32.size⟩ by rw[YAr];rfl];refine ar_st (i:=t) hw (by omega) ⟨⟨t+1,rfl,by omega,by omega,k6.then keep_set (fun x hx _=>hx) (fun x hx _=>hx),_,get_set hw,?_⟩,by simp;omega⟩;exact sch_step hlt hwl (by rw[if_neg (by omega),add_swap];rfl)
    ·rw[if_neg (show ¬decide ((t:Int)<64)=true by simp;omega)];have ht64:t=64:=by omega
     subst ht64;have hwl:w.toList=sch l 64:=by simpa using hwl
     have d1:=k6.get c1 (by simp;omega);have d2:=k6.get c2 (by simp;omega);have d3:=k6.get c3 (by simp;omega);have k08:Keep [] h h8:=k05.new k6 (by have:=k05.1;simp;omega);have l8:=k6.1;refine ⟨z,sm_all (k := .ar 8 .u32) d1,?_⟩;refine new_st_gen fun b5 h15 hb5 k15 e15 hs15 =>?_;have e15:h15[b5]? = some (vobj t_8_uint32 (.ar 8 .u32) z):=e15;have f1:=k15.g d1;have f2:=k15.g d2;have f3:=k15.g d3;have f4:=k15.g hw;refine lp_go (fun (y:Int×Unit) (h9:Heap)=>∃t:Nat,y.1=t∧t≤64∧Keep [b5] h15 h9∧h9[b5]? = some (vobj t_8_uint32 (.ar 8 .u32) (rnds (sch l 64) z t))) (fun (y:Int×Unit) _=>64-y.1.toNat) ?_ ?_
     ·exact ⟨0,rfl,by decide,Keep.rfl,e15⟩
     ·rintro ⟨(i:Int),_⟩ h16 ⟨t,e,ht',k16,hz⟩;dsimp only at e ⊢;subst e;have g1:=k16.get f1 (by simp;omega);have g2:=k16.get f2 (by simp;omega);have g3:=k16.get f3 (by simp;omega);have g4:=k16.get f4 (by simp;omega);by_cases hlt2:t<64
      ·rw[if_pos (show decide ((t:Int)<64)=true from dT (by omega))];have w4:w64 ((t:Int)+1)=((t+1:Nat):Int):=w6 (by omega);rw[w4];have hr:rnds (sch l 64) z (t+1)=rnd (kk.toList.getD t 0) ((sch l 64).getD t 0) (rnds (sch l 64) z t):=rfl;generalize rnds (sch l 64) z t=v at hz hr;have a:∀j,(hj:j<8)→sm .u32 ⟨b5,0+j*1⟩ v[j] h16:=fun j hj=>ar_sm (k := .u32) (i:=j) hz hj;have s0:=a 0 (by decide);have s1:=a 1 (by decide);have s2:=a 2 (by decide);have s3:=a 3 (by decide);have s4:=a 4 (by decide);have s5:=a 5 (by decide);have s6:=a 6 (by decide);have s7:=a 7 (by decide)
       have sk:sm .u32 ⟨b3,0+((t:Nat):Int).toNat*1⟩ (kk.toList.getD t 0) h16:=by
        rw[←kk_at hlt2,YAr];exact ar_sm (k := .u32) (i:=t) g3 hlt2
       have sw:sm .u32 ⟨b4,0+((t:Nat):Int).toNat*1⟩ ((sch l 64).getD t 0) h16:=by
        rw[←w_at hwl hlt2,YAr];exact ar_sm (k := .u32) (i:=t) g4 hlt2
       refine ⟨by decide,by decide,_,s4,by decide,by decide,_,s4,by decide,by decide,_,s4,?_⟩;refine ZAn.s (k:=6) (by decide) ⟨s4,s4,?_⟩;refine ZAn.s (k:=11) (by decide) ⟨s4,?_⟩;refine ZAn.s (k:=25) (by decide) ?_;refine ⟨by decide,by decide,_,s7,by decide,by decide,_,s4,by decide,by decide,_,s5,by decide,by decide,_,s4,by decide,by decide,_,s6,by omega,by omega,_,sk,by omega,by omega,_,sw,by decide,by decide,_,s0,by decide,by decide,_,s0,by decide,by decide,_,s0,?_⟩;refine ZAn.s (k:=2) (by decide) ⟨s0,s0,?_⟩;refine ZAn.s (k:=13) (by decide) ⟨s0,?_⟩;refine ZAn.s (k:=22) (by decide) ?_;refine ⟨by decide,by decide,_,s0,by decide,by decide,_,s1,by decide,by decide,_,s0,by decide,by decide,_,s2,by decide,by decide,_,s1,by decide,by decide,_,s2,by decide,by decide,_,s0,by decide,by decide,_,s1,by decide,by decide,_,s2,by decide,by decide,_,s3,by decide,by decide,_,s4,by decide,by decide,_,s5,by decide,by decide,_,s6,?_⟩;refine st_all (k := .ar 8 .u32) (x':=rnd (kk.toList.getD t 0) ((sch l 64).getD t 0) v) hz ?_;refine ⟨⟨t+1,rfl,by omega,k16.then keep_set (fun x hx _=>hx) (fun x hx _=>hx),?_⟩,by simp;omega⟩;rw[hr];exact get_set hz
      ·rw[if_neg (show ¬decide ((t:Int)<64)=true by simp;omega)];have ht64:t=64:=by omega
       subst ht64;have hturn:turnV l z=Vector.zipWith (· + ·) z (rnds (sch l 64) z 64):=rfl;generalize rnds (sch l 64) z 64=v at hz hturn;have k016:Keep [] h h16:=(k08.n k15).new k16 (by have:=k08.1;simp;omega);refine lp_go (fun (y:Int×Unit) (h17:Heap)=>∃t:Nat,y.1=t∧t≤8∧Keep [b1] h16 h17∧∃z':Vector UInt32 8,h17[b1]? = some (vobj t_8_uint32 (.ar 8 .u32) z')∧∀j:Nat,(hj:j<8)→z'[j]=if j<t then z[j]+v[j] else z[j]) (fun (y:Int×Unit) _=>8-y.1.toNat) ?_ ?_
       ·exact ⟨0,rfl,by decide,Keep.rfl,z,g1,fun j hj=>by rw[if_neg (by omega)]⟩
       ·rintro ⟨(i:Int),_⟩ h24 ⟨t,e,ht8,k24,z',hz',hall⟩;dsimp only at e ⊢;subst e;by_cases hlt3:t<8
        ·rw[if_pos (show decide ((t:Int)<8)=true from dT (by omega))];have w4:w64 ((t:Int)+1)=((t+1:Nat):Int):=w6 (by omega);rw[w4];have hz24:=k24.get hz (by simp;omega)
         have q1:sm .u32 ⟨b1,0+((t:Nat):Int).toNat*1⟩ z[t] h24:=by
          have:=ar_sm (k := .u32) (i:=t) hz' hlt3;rw[hall t hlt3,if_neg (by omega)] at this;rw[YAr];exact this
         have q2:sm .u32 ⟨b5,0+((t:Nat):Int).toNat*1⟩ v[t] h24:=by
          rw[YAr];exact ar_sm (k := .u32) (i:=t) hz24 hlt3
         refine ⟨by omega,by omega,_,q1,by omega,by omega,_,q2,by omega,by omega,?_⟩;rw[show (⟨b1,0+(t:Int).toNat*1⟩:Pl)=⟨b1,0+t*Kd.u32.size⟩ by rw[YAr];rfl];refine ar_st (k := .u32) (i:=t) (y:=z[t]+v[t]) hz' hlt3 ?_;refine ⟨⟨t+1,rfl,by omega,k24.then keep_set (fun x hx _=>hx) (fun x hx _=>hx),_,get_set hz',fun j hj =>?_⟩,by simp;omega⟩;rw[YA6 hj];split
         ·rename_i e3;subst e3;rw[if_pos (by omega)]
         ·rename_i e3
          rw[hall j hj];by_cases h5:j<t
          ·rw[if_pos h5,if_pos (by omega)]
          ·rw[if_neg h5,if_neg (by omega)]
        ·rw[if_neg (show ¬decide ((t:Int)<8)=true by simp;omega)]
         have hz8:z'=turnV l z:=by
          rw[hturn];apply Vector.ext;intro j hj;rw[hall j hj,if_pos (by omega)];simp
         rw[hz8] at hz';refine ⟨_,sm_all (k := .ar 8 .u32) hz',?_⟩;refine st_all (k := .ar 8 .u32) (x':=turnV l z) (k24.get g2 (by simp;omega)) ?_;refine ⟨_,sm_all (k := .ar 8 .u32) (get_set (k24.get g2 (by simp;omega))),?_⟩;refine hK _ ((k016.new k24 (by simp;omega)).new keep_set (by simp;omega))
theorem ZAW.s {z:Vector UInt8 32} {h:Heap} {K:ByteArray→Heap→Prop} (hK:∀h',Keep [] h h'→K (bx z.toList) h'):ZAW.C z h K:=by
 apply ZAW.c;unfold ZAW.m;refine new_gen fun b h1 hb k1 e1 hs1 =>?_;have e1:h1[b]? = some (vobj t_api_Hash (.ar 32 .u8) z):=e1;refine ⟨by decide,by decide,by decide,?_⟩;have g:Seg .u8 ⟨some ⟨b,0⟩,32,32⟩ z.toList h1:=ar_seg e1;exact b2s_segq g fun q _=>hK h1 k1
theorem bx_data2 (l:List UInt8):(bx l).data.toList=l:=by simp[bx]
theorem sha_fold (l:List UInt8):blks ((absR l++padL l.length).length/64) (absR l++padL l.length) (blks (l.length/64) l z0)=absZ z0 (l++padL l.length):=by
 unfold absZ;obtain ⟨h1,h2⟩:=abs_key l (padL l.length);rw[h1,blks_add,h2,blks_app (l.length/64) l (padL l.length) z0 (by omega)]
theorem padL_len (n:Nat):(padL n).length=(119-n%64)%64+9:=by unfold padL;simp[be_len]
theorem ZA4.s {l:List UInt8} {h:Heap} {K:Kd.Ty (.ar 32 .u8)→Heap→Prop} (hl:l.length≤1000000000) (hK:∀h',Keep [] h h'→K (shaL l) h'):ZA4.C (bx l) h K:=by
 apply ZA4.c;unfold ZA4.m;refine new_gen fun b1 h1 hb1 k1 e1 hs1 =>?_;have e1:h1[b1]? = some (vobj t_api_Hash (.ar 32 .u8) (Vector.replicate 32 (0:UInt8))):=e1;refine new_st_gen fun b2 h3 hb2 k3 e3 hs3 =>?_;have e3:h3[b2]? = some (vobj t_8_uint32 (.ar 8 .u32) z0):=e3;have k03:Keep [] h h3:=k1.n k3;have c1:=k3.g e1;refine ⟨by decide,?_⟩;rw[bx_size]
 have hq0:w64 ((w64 ((l.length:Int).tdiv 64))*64)=((64*(l.length/64):Nat):Int):=by
  rw[YAp (by omega),w64_id (n:=(l.length:Int)/64) (by omega) (by omega),w64_id (by omega) (by omega)];omega
 rw[hq0];refine lp_go (fun (y:Int×Unit) (h4:Heap)=>∃t:Nat,y.1=((64*t:Nat):Int)∧t≤l.length/64∧Keep [b2] h3 h4∧h4[b2]? = some (vobj t_8_uint32 (.ar 8 .u32) (blks t l z0))) (fun (y:Int×Unit) _=>l.length-y.1.toNat) ?_ ?_
 ·exact ⟨0,rfl,by omega,Keep.rfl,e3⟩
 ·rintro ⟨(i:Int),_⟩ h4 ⟨t,e,ht,k4,hz⟩;dsimp only at e ⊢;subst e;have k04:Keep [] h h4:=k03.new k4 (by have:=k1.1;simp;omega);by_cases hlt:t<l.length/64
  ·rw[if_pos (show decide (((64*t:Nat):Int)<((64*(l.length/64):Nat):Int))=true from dT (by omega))];have hw:w64 (((64*t:Nat):Int)+64)=((64*(t+1):Nat):Int):=w6 (by omega);rw[hw];refine ⟨_,sm_all (k := .ar 8 .u32) hz,?_⟩;refine ⟨by omega,by omega,by rw[bx_size];omega,?_⟩;rw[YAr,YAr,bx_ext]
   have hc:(l.take (64*(t+1))).drop (64*t)=(l.drop (64*t)).take 64:=by
    rw[YAH];congr 1;omega
   rw[hc];refine ZBR.s (by rw[YAT,YAR];omega) fun h5 k5 =>?_;rw[←blks_succ];have hz5:=k5.g hz;refine st_all (k := .ar 8 .u32) (x':=blks (t+1) l z0) hz5 ?_;exact ⟨⟨t+1,rfl,by omega,(k4.then k5 (fun q hq _=>hq) (by simp)).then keep_set (fun q hq _=>hq) (fun q hq _=>hq),get_set hz5⟩,by omega⟩
  ·rw[if_neg (show ¬decide (((64*t:Nat):Int)<((64*(l.length/64):Nat):Int))=true by simp;omega)];have htq:t=l.length/64:=by omega
   subst htq;refine ⟨by omega,by omega,by rw[bx_size];omega,?_⟩;rw[YAr,YAr,bx_ext,YAk (YAt _)];have hr:l.drop (64*(l.length/64))=absR l:=rfl;rw[hr];have hrl:=absR_len l;refine sadd_go (by rw[bx_size];show _+1≤_;omega) ?_;have h3e:(⟨((bx (absR l)).data.toList++(⟨#[128]⟩:ByteArray).data.toList).toArray⟩:ByteArray)=bx (absR l++[128]):=by rw[bx_data2];rfl
   rw[h3e]
   have hpd:(w64 (120-(((bx (absR l++[128])).size:Int).tmod 64))).tmod 64=(((119-l.length%64)%64:Nat):Int):=by
    rw[bx_size,YAP,List.length_singleton,hrl];have a1:((l.length%64+1:Nat):Int).tmod 64=(((l.length%64+1)%64:Nat):Int):=by rw[YAq (by omega)];omega
    rw[a1,w64_id (by omega) (by omega),YAq (by omega)];omega
   rw[hpd];have hbe:w64 ((l.length:Int)*8)=((l.length*8:Nat):Int):=w6 (by omega);rw[hbe];have hpad:padL l.length=[128]++(List.replicate ((119-l.length%64)%64) 0++be (l.length*8) 8):=rfl;have hpl:=padL_len l.length;generalize hq:(119-l.length%64)%64=q at hpad hpl;have hq64:q<64:=by omega
   refine ⟨fun y h7=>y.1=bx (absR l++padL l.length)∧Keep [] h4 h7,?_,?_⟩
   ·refine ⟨by decide,by decide,?_,?_⟩
    ·refine mk_gen (n:=q) (by omega) (by omega) fun b8 h8 hb8 k8 r8 hs8 =>?_;refine b2s_segq (xs:=List.replicate q (0:UInt8)) r8.seg fun q1 hq1 =>?_;refine sadd_go (by rw[bx_size];simp[ByteArray.size];omega) ?_;refine ZAA.s (by decide) (by decide) (by omega) fun h9 k9 =>?_;refine hq1 [] h9 k9 (by simp) _ ?_;refine sadd_go (by simp[ByteArray.size,bx,be_len];omega) ?_;refine ⟨?_,k8.n k9⟩;show _=bx (absR l++padL l.length);rw[hpad];simp[bx]
    ·refine ZAA.s (by decide) (by decide) (by omega) fun h10 k10 =>?_;refine mk_gen (n:=q) (by omega) (by omega) fun b8 h11 hb8 k11 r11 hs11 =>?_;refine b2s_seg (xs:=List.replicate q (0:UInt8)) r11.seg fun q2 =>?_;refine sadd_go (by rw[bx_size];simp[ByteArray.size];omega) ?_;refine sadd_go (by simp[ByteArray.size,bx,be_len];omega) ?_;refine ⟨?_,k10.n k11⟩;show _=bx (absR l++padL l.length);rw[hpad];simp[bx]
   ·rintro ⟨(tx:ByteArray),_⟩ h7 ⟨ex,k7⟩;dsimp only at ex ⊢;subst ex
    have hTl:(absR l++padL l.length).length=64*((absR l++padL l.length).length/64):=by
     rw[YAP,hrl,hpl];omega
    have hfold:=sha_fold l;rw[bx_size];generalize hT:absR l++padL l.length=T at hTl hfold ⊢;have hTb:T.length≤200:=by rw[←hT,YAP,hrl,hpl];omega
    generalize blks (l.length/64) l z0=zq at hz hfold;have k07:Keep [] h h7:=k04.n k7;refine lp_go (fun (y:Int×Unit) (h8:Heap)=>∃t:Nat,y.1=((64*t:Nat):Int)∧t≤T.length/64∧Keep [b2] h7 h8∧h8[b2]? = some (vobj t_8_uint32 (.ar 8 .u32) (blks t T zq))) (fun (y:Int×Unit) _=>T.length-y.1.toNat) ?_ ?_
    ·exact ⟨0,rfl,by omega,Keep.rfl,k7.g hz⟩
    ·rintro ⟨(i:Int),_⟩ h12 ⟨t,e,ht2,k12,hz12⟩;dsimp only at e ⊢;subst e;by_cases hlt2:t<T.length/64
     ·rw[if_pos (show decide (((64*t:Nat):Int)<(T.length:Int))=true from dT (by omega))];have hw:w64 (((64*t:Nat):Int)+64)=((64*(t+1):Nat):Int):=w6 (by omega);rw[hw];refine ⟨_,sm_all (k := .ar 8 .u32) hz12,?_⟩;refine ⟨by omega,by omega,by rw[bx_size];omega,?_⟩;rw[YAr,YAr,bx_ext]
      have hc:(T.take (64*(t+1))).drop (64*t)=(T.drop (64*t)).take 64:=by
       rw[YAH];congr 1;omega
      rw[hc];refine ZBR.s (by rw[YAT,YAR];omega) fun h13 k13 =>?_;rw[←blks_succ];have hz13:=k13.g hz12;refine st_all (k := .ar 8 .u32) (x':=blks (t+1) T zq) hz13 ?_;exact ⟨⟨t+1,rfl,by omega,(k12.then k13 (fun q hq _=>hq) (by simp)).then keep_set (fun q hq _=>hq) (fun q hq _=>hq),get_set hz13⟩,by omega⟩
     ·rw[if_neg (show ¬decide (((64*t:Nat):Int)<(T.length:Int))=true by simp;omega)];have htq:t=T.length/64:=by omega
      subst htq;rw[hfold] at hz12;have hsha:shaL l=outV (absZ z0 (l++padL l.length)):=rfl;generalize absZ z0 (l++padL l.length)=zz at hz12 hsha;have s1:=k1.1;have k012:Keep [] h h12:=k07.new k12 (by simp;omega);refine new_gen fun b3 h15 hb3 k15 e15 hs15 =>?_;have e15:h15[b3]? = some (vobj t_api_Hash (.ar 32 .u8) (Vector.replicate 32 (0:UInt8))):=e15;have hz15:=k15.g hz12;have k115:Keep [] h h15:=k012.n k15;have l12:=lt_of_some hz12;have c12:=k12.get (k7.g (k4.get c1 (by simp;omega))) (by simp;omega);have l1:=lt_of_some c12;refine lp_go (fun (y:Int×Unit) (h16:Heap)=>∃t:Nat,y.1=t∧t≤32∧Keep [b3] h15 h16∧∃v:Vector UInt8 32,h16[b3]? = some (vobj t_api_Hash (.ar 32 .u8) v)∧∀j:Nat,(hj:j<32)→v[j]=if j<t then outB zz j else 0) (fun (y:Int×Unit) _=>32-y.1.toNat) ?_ ?_
      ·exact ⟨0,rfl,by decide,Keep.rfl,_,e15,fun j hj=>by rw[if_neg (by omega)];simp⟩
      ·rintro ⟨(i:Int),_⟩ h16 ⟨t,e,ht32,k16,v,hv,hall⟩;dsimp only at e ⊢;subst e;by_cases hlt3:t<32
       ·rw[if_pos (show decide ((t:Int)<32)=true from dT (by omega))];have o16:=k16.get hz15 (by simp;omega);have hw1:w64 ((t:Int)+1)=((t+1:Nat):Int):=w6 (by omega)
        have hdv:w64 ((t:Int).tdiv 4)=((t/4:Nat):Int):=by
         rw[show (t:Int).tdiv 4=((t/4:Nat):Int) by rw[YAp (by omega)];omega,w64_id (by omega) (by omega)]
        have hmd:w64 (24-(w64 (8*((t:Int).tmod 4))))=((24-8*(t%4):Nat):Int):=by
         rw[show (t:Int).tmod 4=((t%4:Nat):Int) by rw[YAq (by omega)];omega,w64_id (n:=8*((t%4:Nat):Int)) (by omega) (by omega),w64_id (by omega) (by omega)];omega
        rw[hw1,hdv,hmd]
        have q1:sm .u32 ⟨b2,0+((t/4:Nat):Int).toNat*1⟩ (zz.toList.getD (t/4) 0) h16:=by
         have:=ar_sm (k := .u32) (i:=t/4) o16 (by omega);rw[YAr]
         have e:zz[t/4]'(by omega)=zz.toList.getD (t/4) 0:=by
          rw[YAL,YAM (by simp;omega)];simp
         rw[←e];exact this
        refine ⟨by decide,by omega,by omega,_,q1,by decide,by omega,by omega,by omega,?_⟩;rw[show (⟨b3,0+(t:Int).toNat*1⟩:Pl)=⟨b3,0+t*Kd.u8.size⟩ by rw[YAr];rfl];refine ar_st (k := .u8) (y:=outB zz t) hv hlt3 ?_;refine ⟨⟨t+1,rfl,by omega,k16.then keep_set (fun x hx _=>hx) (fun x hx _=>hx),_,get_set hv,fun j hj =>?_⟩,by simp;omega⟩;rw[YA6 hj];split
        ·rename_i e3;subst e3;rw[if_pos (by omega)]
        ·rename_i e3
         rw[hall j hj];by_cases h5:j<t
         ·rw[if_pos h5,if_pos (by omega)]
         ·rw[if_neg h5,if_neg (by omega)]
       ·rw[if_neg (show ¬decide ((t:Int)<32)=true by simp;omega)]
        have hvo:v=shaL l:=by
         rw[hsha];apply Vector.ext;intro j hj;rw[hall j hj,if_pos (by omega)];unfold outV;simp
        refine ⟨v,sm_all (k := .ar 32 .u8) hv,?_⟩;have c16:=k16.get (k15.g c12) (by simp;omega);refine st_all (k := .ar 32 .u8) (x':=v) c16 ?_;refine ⟨v,sm_all (k := .ar 32 .u8) (get_set c16),?_⟩;rw[hvo];exact hK _ ((k115.new k16 (by simp;have:=k012.1;omega)).new keep_set (by simp;omega))
theorem ZBt.s {tag:Nat} {ps:List ByteArray} {sp:Slc} {h:Heap} {K:Kd.Ty (.ar 32 .u8)→Int→Heap→Prop} (g:Seg .s sp ps h) (ht:tag≤4) (hs:lens ps≤65536) (hlen:(tagL tag ps).length≤1000000)
 (hK:∀h',Keep [] h h'→K (shaL (tagL tag ps)) 0 h'):ZBt.C tag sp h K:=by
 apply ZBt.c;unfold ZBt.m;refine new_gen fun b1 h1 hb1 k1 e1 hs1 =>?_;have e1:h1[b1]? = some (vobj t_api_Hash (.ar 32 .u8) (Vector.replicate 32 (0:UInt8))):=e1;refine jn_at (false,()) h1 ?_ ?_
 ·rw[if_neg (by simp)];exact ⟨by simp;omega,by first | rfl | trivial⟩
 rw[if_neg (by simp)];refine bs_gen fun b2 h4 hb2 k4 r4 hs4 =>?_;have gl:=g.len;have hpn:=pieces_len ps;have htl:(tagL tag ps).length=1+(ps.flatMap pieceL).length:=by unfold tagL;rw[YAQ];omega
 refine lp_go (fun (y:Int×Slc×Int×Unit) (h5:Heap)=>∃t:Nat,y.2.2.1=t∧t≤ps.length∧y.1=((lens (ps.take t):Nat):Int)∧Keep [] h1 h5∧Row h5 t_uint8 .u8 y.2.1 (UInt8.ofNat tag::(ps.take t).flatMap pieceL)∧∀q∈own y.2.1,h1.size≤q) (fun (y:Int×Slc×Int×Unit) _=>ps.length-y.2.2.1.toNat) ?_ ?_
 ·refine ⟨0,rfl,YA0 _,rfl,k4,?_,by simp[own];omega⟩;have:u8I (tag:Int)=UInt8.ofNat tag:=u8I_nat tag;simp only [List.take_zero,YAK];rw[←this];exact r4
 ·rintro ⟨(tot:Int),(sl:Slc),(i:Int),_⟩ h5 ⟨t,e,htl',et,k5,r5,o5⟩;dsimp only at e et r5 o5 ⊢;subst e;subst et;have g5:=(g.keep (by decide) k1).keep (by decide) k5;by_cases hlt:t<ps.length
  ·rw[if_pos (show decide ((t:Int)<(sp.len:Int))=true from dT (by omega))];have hle:lens (ps.take (t+1))≤lens ps:=lens_mono (t+1);have hst:=lens_take hlt;have hgx:ps[(t:Int).toNat]? = some ps[t]:=by simp[hlt]
   refine seg_ix g5 (by omega) hgx rfl ?_;rw[w64_id (n:=65536-((lens (ps.take t):Nat):Int)) (by omega) (by omega)];rw[if_neg (by simp;omega)];refine seg_ix g5 (by omega) hgx rfl ?_;refine seg_ix g5 (by omega) hgx rfl ?_;refine ZAA.s (n:=4) (by decide) (by decide) (by omega) fun h7 k7 =>?_;have r7:=r5.keep k7 (by simp)
   have hfl:((ps.take (t+1)).flatMap pieceL).length≤(ps.flatMap pieceL).length:=by
    conv=>rhs;rw[←YAh (t+1) ps,YAI,YAP]
    omega
   rw[take_flatMap hlt,YAP] at hfl;have hpl:(pieceL ps[t]).length=4+ps[t].size:=by unfold pieceL;rw[YAP,be_len];rfl
   refine ap_row (k := .u8) (ys:=be ps[t].size 4) r7 (by rw[ba_size]) rfl (by rw[ba_size,be_len,YAQ];omega) fun s8 h8 r8 k8 o8 =>?_;have k58:Keep [] h1 h8:=(k5.n k7).new k8 o5;refine seg_ix ((g.keep (by decide) k1).keep (by decide) k58) (by omega) hgx rfl ?_;refine ap_row (k := .u8) (ys:=ps[t].data.toList) r8 rfl rfl (by rw[YAP,YAQ,be_len];omega) fun s9 h9 r9 k9 o9 =>?_
   have own8:∀q∈own s8,h1.size≤q:=fun q hq=>by
    have:=k5.1;have:=k7.1;rcases own_of o8 q hq with e | e
    ·exact o5 q e
    ·omega
   have hw1:w64 (((lens (ps.take t):Nat):Int)+(ps[t].size:Int))=((lens (ps.take (t+1)):Nat):Int):=w6 (by omega);have hw2:w64 ((t:Int)+1)=((t+1:Nat):Int):=w6 (by omega);rw[hw1,hw2];refine ⟨⟨t+1,rfl,by omega,rfl,k58.new k9 own8,?_,fun q hq =>?_⟩,by simp;omega⟩
   ·have e9:UInt8.ofNat tag::(ps.take (t+1)).flatMap pieceL=UInt8.ofNat tag::(ps.take t).flatMap pieceL++be ps[t].size 4++ps[t].data.toList:=by
     rw[take_flatMap hlt];unfold pieceL;simp only [List.cons_append,YAA]
    rw[e9];exact r9
   ·have:=k58.1;rcases own_of o9 q hq with e | e
    ·exact own8 q e
    ·omega
  ·rw[if_neg (show ¬decide ((t:Int)<(sp.len:Int))=true by simp;omega)];have htp:t=ps.length:=by omega
   subst htp;rw[YAk (YAt _)] at r5;refine b2s_seg r5.seg fun q =>?_;refine ZA4.s (l:=UInt8.ofNat tag::ps.flatMap pieceL) (by show (tagL tag ps).length≤_;omega) fun h10 k10 =>?_;have e10:=k10.g (k5.g e1);refine st_all (k := .ar 32 .u8) (x':=shaL (tagL tag ps)) e10 ?_;refine ⟨_,sm_all (k := .ar 32 .u8) (get_set e10),?_⟩;exact hK _ (((k1.n k5).n k10).new keep_set (by simp;omega))
theorem ZAc.s {k:Int} {h:Heap} {K:Int→Int→Int→Heap→Prop} (hK:K ((((otsP k).getD (0,0,0)).1:Nat):Int) ((((otsP k).getD (0,0,0)).2.1:Nat):Int) ((((otsP k).getD (0,0,0)).2.2:Nat):Int) h):ZAc.C k h K:=by
 apply ZAc.c;unfold ZAc.m;unfold otsP at hK;by_cases h3:k=3
 ·rw[if_pos (by simpa using h3)];rw[if_pos h3] at hK;exact hK
 rw[if_neg (by simpa using h3)];rw[if_neg h3] at hK;by_cases h4:k=4
 ·rw[if_pos (by simpa using h4)];rw[if_pos h4] at hK;exact hK
 rw[if_neg (by simpa using h4)];rw[if_neg h4] at hK;exact hK
theorem ZBU.s {id:By} {q:Int} {h:Heap} {K:Bool→Heap→Prop} (hK:K (otsMay id q) h):ZBU.C (bx id) q h K:=by
 apply ZBU.c;unfold ZBU.m;unfold otsMay at hK;refine jn_at (decide (id.length=16)&&decide (0≤q)&&decide (q≤4294967295),()) h ?_ hK;by_cases h16:id.length=16
 ·rw[if_pos (show decide (((bx id).size:Int)=16)=true from dT (by rw[bx_size];omega)),dT h16];by_cases h0:0≤q
  ·rw[if_pos (show decide (q≥0)=true from dT h0),dT h0];exact ⟨rfl,rfl⟩
  ·rw[if_neg (show ¬decide (q≥0)=true from fun h=>h0 (of_decide_eq_true h)),dF h0];exact ⟨rfl,rfl⟩
 ·rw[if_neg (show ¬decide (((bx id).size:Int)=16)=true from fun h=>h16 (by have:=of_decide_eq_true h;rw[bx_size] at this;omega)),dF h16];exact ⟨rfl,rfl⟩
theorem ZBN.s {l:By} {h:Heap} {K:ByteArray→Heap→Prop} (hl:l.length≤1000000) (hK:∀h',Keep [] h h'→K (bx (Hl l)) h'):ZBN.C (bx l) h K:=by
 apply ZBN.c;unfold ZBN.m;refine ZA4.s (by omega) fun h1 k1 =>?_;unfold Hl at hK;generalize shaL l=v at *;exact ZAW.s fun h2 k2=>hK h2 (k1.n k2)
theorem ZBe.s {hd seed:By} {i:Nat} {h:Heap} {K:ByteArray→Heap→Prop} (hl:hd.length+seed.length≤900000) (hi:i<65536) (hK:∀h',Keep [] h h'→K (bx (privO hd i seed)) h'):ZBe.C (bx hd) (i:Int) (bx seed) h K:=by
 apply ZBe.c;unfold ZBe.m;refine ZAA.s (n:=2) (by decide) (by decide) (by omega) fun h1 k1 =>?_;show sadd (bx hd) (bx (be i 2)) _;refine sadd_b (by rw[be_len];omega) ?_;show sadd _ (bx [255]) _;refine sadd_b (by rw[YAP,be_len];simp;omega) ?_;refine sadd_b (by rw[YAP,YAP,be_len];simp;omega) ?_;refine ZBN.s (by simp only [YAP,be_len,YAQ,YAS];omega) fun h2 k2 =>?_;exact hK h2 (k1.n k2)
theorem ZBx.s {p s:By} {i fr to:Nat} {h:Heap} {K:ByteArray→Heap→Prop} (hp:p.length≤1000) (hs:s.length≤1000) (hi:i<65536) (hf:fr≤to) (ht:to≤256) (hK:∀h',Keep [] h h'→K (bx (steps p i fr (to-fr) s)) h'):ZBx.C (bx p) (i:Int) (fr:Int) (to:Int) (bx s) h K:=by
 apply ZBx.c;unfold ZBx.m;refine lp_go (fun (y:ByteArray×Int×Unit) (h1:Heap)=>∃n:Nat,y.2.1=((fr+n:Nat):Int)∧fr+n≤to∧Keep [] h h1∧y.1=bx (steps p i fr n s)∧(steps p i fr n s).length≤1000) (fun (y:ByteArray×Int×Unit) _=>to-y.2.1.toNat) ?_ ?_
 ·exact ⟨0,rfl,hf,Keep.rfl,rfl,hs⟩
 rintro ⟨(a:ByteArray),(jj:Int),_⟩ h1 ⟨n,e,hn,k1,ea,hl⟩;dsimp only at e ea ⊢;subst e;subst ea;by_cases hlt:fr+n<to
 ·rw[if_pos (show decide (((fr+n:Nat):Int)<(to:Int))=true from dT (by omega))];have hw:w64 (((fr+n:Nat):Int)+1)=((fr+(n+1):Nat):Int):=w6 (by omega);rw[hw];refine ZAA.s (n:=2) (by decide) (by decide) (by omega) fun h2 k2 =>?_;show sadd (bx p) (bx (be i 2)) _;refine sadd_b (by rw[be_len];omega) ?_;refine ZAA.s (n:=1) (by decide) (by decide) (by omega) fun h3 k3 =>?_;show sadd _ (bx (be (fr+n) 1)) _;refine sadd_b (by rw[YAP,be_len,be_len];omega) ?_;refine sadd_b (by rw[YAP,YAP,be_len,be_len];omega) ?_;refine ZBN.s (by simp only [YAP,be_len];omega) fun h4 k4 =>?_
  have e3:Hl (p++be i 2++be (fr+n) 1++steps p i fr n s)=steps p i fr (n+1) s:=by
   rw[steps_succ,show be (fr+n) 1=[UInt8.ofNat (fr+n)] by simp[be]]
  rw[e3];refine ⟨⟨n+1,rfl,by omega,((k1.n k2).n k3).n k4,rfl,by rw[steps_succ,Hl_len];decide⟩,by simp;omega⟩
 ·rw[if_neg (show ¬decide (((fr+n:Nat):Int)<(to:Int))=true from dn (by omega))];have:n=to-fr:=by omega
  rw[this];exact hK h1 k1
def RowS (h:Heap) (T:Nat) (s:Slc) (l:By):Prop:=
 Row h T .u8 s l∨∃b zs,s.a=some ⟨b,0⟩∧s.len=l.length∧s.cap=l.length+zs.length∧h[b]? = some (.cells ((l++zs).flatMap Kd.u8.cells).toArray T (s.cap,s.cap+1))
theorem RowS.len {h:Heap} {T:Nat} {s:Slc} {l:By} (r:RowS h T s l):s.len=l.length:=by
 rcases r with r | ⟨b,zs,_,e,_⟩
 ·exact r.len
 ·exact e
theorem RowS.keep {h h':Heap} {T:Nat} {s:Slc} {l:By} {S:List Nat} (r:RowS h T s l) (k:Keep S h h') (hn:∀b∈own s,b∉S):RowS h' T s l:=by
 rcases r with r | ⟨b,zs,e,e1,e2,e3⟩
 ·exact .inl (r.keep k hn)
 ·exact .inr ⟨b,zs,e,e1,e2,k.get e3 (hn b (by unfold own;rw[e];simp))⟩
theorem s2b_rowS {T:Nat} {l:By} {h:Heap} {K:Slc→Heap→Prop} (hK:∀s h',Keep [] h h'→RowS h' T s l→own s=[h.size]→K s h'):s2b T (bx l) h K:=by
 intro c hc _;rw[bx_size] at hc;refine hK _ _ keep_push (.inr ⟨h.size,List.replicate (c-l.length) 0,rfl,bx_size,by simp;omega,?_⟩) rfl;rw[get_push,YAI,bx_dl,bx_size]
 rfl
theorem RowS.seg {h:Heap} {T:Nat} {s:Slc} {l:By} (r:RowS h T s l):Seg .u8 s l h:=by
 rcases r with r | ⟨b,zs,e,e1,e2,e3⟩
 ·exact r.seg
 ·refine ⟨e1,fun i x hx=>⟨⟨b,0⟩,e,?_⟩,fun p hp =>?_⟩
  ·have hi:i<l.length:=by
    rcases Nat.lt_or_ge i l.length with h | h
    ·exact h
    ·rw[List.getElem?_eq_none h] at hx;simp at hx
   have e2:(h.push (robj T .u8 (l++zs)))[h.size]? = some (robj T .u8 (l++zs)):=get_push;have rr:Row (h.push (robj T .u8 (l++zs))) T .u8 ⟨some ⟨h.size,0⟩,l.length,l.length+zs.length⟩ l:=Row.of_new e2 rfl rfl (by simp);obtain ⟨p,hp,hs⟩:=rr.seg.el i x hx
   cases hp
   unfold sm rdCells at hs ⊢;rw[e2] at hs;rw[e3];exact hs
  ·rw[e] at hp
   cases hp
   exact ⟨_,_,_,e3,YA0 _⟩
theorem apS {T by_ n:Nat} {h:Heap} {s:Slc} {xs ys:By} {cs:List Value} {K:Slc→Heap→Prop} (r:RowS h T s xs) (hn:n=ys.length) (hc:cs=ys.flatMap Kd.u8.cells) (hb:(xs.length+n)*by_≤140737488355328)
 (hK:∀s' h',RowS h' T s' (xs++ys)→Keep (own s) h h'→(s'.a=s.a∨s'.a=some ⟨h.size,0⟩)→K s' h'):ap T .u8 by_ s n cs h K:=by
 rcases r with r | ⟨b,zs,e,e1,e2,e3⟩
 ·exact ap_row r hn hc hb fun s' h' r k o=>hK s' h' (.inl r) k o
 subst hn;subst hc;unfold ap;have lx:=u8c_len xs;have ly:=u8c_len ys;have lz:=u8c_len zs;by_cases hle:s.len+ys.length≤s.cap
 ·rw[if_pos hle];simp only [e];refine ⟨_,T,s.cap,s.cap+1,e3,?_,.inr (.inl ?_),?_⟩
  ·simp only [List.size_toArray,YAI,YAP,Kd.size];omega
  ·simp only [Kd.size];omega
  ·refine hK _ _ (.inr ⟨b,zs.drop ys.length,rfl,by simp[e1],by simp;omega,?_⟩) (by unfold own;rw[e];exact keep_set) (.inl e.symm);rw[get_set e3]
   congr 2
   unfold wrCells
   congr 1
   simp only [Kd.size,YAz,Nat.mul_one];rw[YAI,YAI,YAI,e1,ly];rw[YAj lx]
   congr 1
   rw[List.drop_append,YAF (by omega),YAX,lx,YAs]
   have:∀(n:Nat) (l:By),(l.flatMap Kd.u8.cells).drop n=(l.drop n).flatMap Kd.u8.cells:=by
    intro n
    induction n with
    | zero=>intro l;rfl
    | succ n ih =>
      intro l
      cases l with
      | nil=>rfl
      | cons a r=>exact ih r
   exact this _ _
 ·rw[if_neg hle];refine ⟨growslice_fits (by omega) (by rw[e1];exact hb),?_⟩;refine slCells_seg (RowS.seg (.inr ⟨b,zs,e,e1,e2,e3⟩)) (by rw[e1]) ?_;intro c hc _;refine hK _ _ (.inl (.inr ⟨h.size,List.replicate (c-(s.len+ys.length)) 0,rfl,by simp[e1],by simp;omega,?_⟩)) (keep_push.weak (by simp)) (.inr rfl);rw[get_push]
  congr 2
  rw[YAI,YAI]
  rfl
theorem otsP_c {k:Int} {w p ls:Nat} (h:otsP k=some (w,p,ls)):((w,p,ls)=(4,67,4)∨(w,p,ls)=(8,34,0))∧4≤w∧w≤8∧34≤p∧p≤67∧2^w≤256∧1≤2^w∧256/w≤p∧w64 (shlI 1 (w:Int)-1)=((2^w-1:Nat):Int):=by
 have hc:(w,p,ls)=(4,67,4)∨(w,p,ls)=(8,34,0):=by
  rcases otsP_cases h with ⟨_,h⟩ | ⟨_,h⟩
  ·exact .inl h
  ·exact .inr h
 refine ⟨hc,?_⟩;rcases hc with h | h <;> cases h <;> decide
theorem bx_cells {l:By}:(bx l).data.toList.flatMap Kd.u8.cells=l.flatMap Kd.u8.cells:=by rw[bx_dl]
theorem flatR_le {f:Nat→By} (hf:∀i,(f i).length=32) (n:Nat):((List.range n).flatMap f).length=32*n:=flatR_len hf n
theorem ZBp.s {kind:Int} {id seed:By} {q w p ls:Nat} {h:Heap} {K:Kd.Ty (.ar 32 .u8)→Int→Heap→Prop} (hk:otsP kind=some (w,p,ls)) (hid:id.length=16) (hq:q≤4294967295) (hs:seed.length=32)
 (hK:∀v h',Vector.toList v=pubO w p (headO id q) seed→Keep [] h h'→K v 0 h'):ZBp.C kind (bx id) (q:Int) (bx seed) h K:=by
 obtain ⟨hc,w4,w8,p34,p67,h2a,h2b,hpl,hmost⟩:=otsP_c hk;apply ZBp.c;unfold ZBp.m;refine new_gen fun b1 h1 hb1 k1 e1 hs1 =>?_;refine ZAc.s ?_;rw[hk];simp only [YA4];have hmay:otsMay id (q:Int)=true:=by unfold otsMay;simp[hid];omega
 refine jn_at (false,()) h1 ?_ ?_
 ·rw[if_neg (show ¬decide ((w:Int)=0)=true from dn (by omega))];refine ZBU.s ?_;rw[hmay,if_neg (by simp)];refine ⟨?_,rfl⟩;rw[bx_size,hs];rfl
 rw[if_neg (by simp)];refine ZAA.s (n:=4) (by decide) (by decide) (by omega) fun h6 k6 =>?_;show sadd (bx id) (bx (be q 4)) _;refine sadd_b (by rw[be_len];omega) ?_;have hhl:(headO id q).length=20:=by unfold headO;rw[YAP,be_len,hid]
 rw[show id++be q 4=headO id q from rfl];show sadd (bx (headO id q)) (bx [128,128]) _;refine sadd_b (by rw[hhl];decide) ?_;refine s2b_rowS fun s3 h7 k7 r7 o7 =>?_;have k17:Keep [] h1 h7:=k6.n k7;have sl:∀i,(steps (headO id q) i 0 (2^w-1) (privO (headO id q) i seed)).length=32:=fun i=>steps_len priv_len;have z7:=k7.1;have o7':∀x∈own s3,h6.size≤x:=fun x hx=>by rw[o7] at hx;simp at hx;omega
 have z6:=k6.1;have lt1:=lt_of_some e1;refine lp_go (fun (y:Slc×Int×Unit) (h8:Heap)=>∃n:Nat,y.2.1=n∧n≤p∧Keep [] h1 h8∧RowS h8 t_uint8 y.1 (headO id q++[128,128]++(List.range n).flatMap fun i=>steps (headO id q) i 0 (2^w-1) (privO (headO id q) i seed))∧∀x∈own y.1,h1.size≤x) (fun (y:Slc×Int×Unit) _=>p-y.2.1.toNat) ?_ ?_
 ·exact ⟨0,rfl,YA0 _,k17,by simpa using r7,fun x hx=>by have:=o7' x hx;omega⟩
 rintro ⟨(s8:Slc),(jj:Int),_⟩ h8 ⟨n,e,hn,k8,r8,o8⟩;dsimp only at e r8 o8 ⊢;subst e;by_cases hlt:n<p
 ·rw[if_pos (show decide ((n:Int)<(p:Int))=true from dT (by omega))];refine ⟨YAo w,?_⟩;refine ZBe.s (by omega) (by omega) fun h9 k9 =>?_;rw[hmost];have pl:=priv_len (hd:=headO id q) (seed:=seed) (i:=n);refine ZBx.s (fr:=0) (by omega) (by omega) (by omega) (by omega) (by omega) fun h10 k10 =>?_;rw[YAy,bx_cells,bx_size];have k810:Keep [] h8 h10:=k9.n k10;refine apS (r8.keep k810 (by simp)) rfl rfl (by rw[YAP,YAP,hhl,flatR_le sl,sl];simp;omega) fun s11 h11 r11 k11 o11 =>?_;have hw:w64 ((n:Int)+1)=((n+1:Nat):Int):=w6 (by omega);rw[hw];have z810:=k810.1;have z18:=k8.1;refine ⟨⟨n+1,rfl,by omega,(k8.n k810).new k11 o8,?_,fun x hx =>?_⟩,by simp;omega⟩
  ·rw[YAZ,YAI,←YAA];simpa using r11
  ·rcases own_of o11 x hx with h | h
   ·exact o8 x h
   ·omega
 ·rw[if_neg (show ¬decide ((n:Int)<(p:Int))=true from dn (by omega))];obtain rfl:n=p:=by omega
  refine b2s_segq r8.seg fun q' _ =>?_
  have hlen:(headO id q++[128,128]++(List.range n).flatMap fun i=>steps (headO id q) i 0 (2^w-1) (privO (headO id q) i seed)).length≤3000:=by
   rw[YAP,YAP,hhl,flatR_le sl];simp;omega
  refine ZA4.s (l:=headO id q++[128,128]++(List.range n).flatMap fun i=>steps (headO id q) i 0 (2^w-1) (privO (headO id q) i seed)) (by omega) fun h12 k12 =>?_;unfold pubO Hl at hK;generalize shaL (headO id q++[128,128]++(List.range n).flatMap fun i=>steps (headO id q) i 0 (2^w-1) (privO (headO id q) i seed))=V at *;have k112:Keep [] h1 h12:=k8.n k12;refine st_to (k112.g e1) fun h13 k13 e13 hs13=>ld_go (sm_all e13) ?_;exact hK V h13 rfl ((k1.n k112).new k13 (by simp;omega))
theorem ZCK.s {s:By} {i w:Nat} {h:Heap} {K:Int→Heap→Prop} (hw:w=4∨w=8) (hi:i≤100) (hl:i*w+w≤8*s.length) (hK:K ((digitAt s i w:Nat):Int) h):ZCK.C (bx s) (i:Int) (w:Int) h K:=by
 apply ZCK.c;unfold ZCK.m;have hmost:w64 (shlI 1 (w:Int)-1)=((2^w-1:Nat):Int):=by rcases hw with rfl | rfl <;> decide
 have hnw:i*w≤800:=by rcases hw with rfl | rfl <;> omega
 have hat:w64 ((i:Int)*(w:Int))=((i*w:Nat):Int):=by rw[w64_id (by rw[←YAn];omega) (by rw[←YAn];omega)];exact (YAn i w).symm
 have hdv:w64 (((i*w:Nat):Int).tdiv 8)=((i*w/8:Nat):Int):=by
  rw[YAp (by omega),w64_id (by omega) (by omega)];omega
 have hmd:(((i*w:Nat):Int)).tmod 8=((i*w%8:Nat):Int):=by
  rw[YAq (by omega)];omega
 have hr8:i*w%8+w≤8:=by rcases hw with rfl | rfl <;> omega
 have hw48:4≤w∧w≤8:=by rcases hw with rfl | rfl <;> decide
 have hsh:w64 (w64 (8-(w:Int))-((i*w%8:Nat):Int))=((8-w-i*w%8:Nat):Int):=by
  rw[w64_id (n:=8-(w:Int)) (by omega) (by omega),w64_id (by omega) (by omega)];omega
 rw[hat,hdv];refine ⟨by decide,?_⟩;have hqi:i*w/8<s.length:=by omega
 refine ixs_bx hqi ⟨by decide,?_⟩;rw[hmd,hsh,hmost];refine ⟨YAo _,YAo _,?_⟩
 have hby:s[i*w/8]=s.getD (i*w/8) 0:=by
  rw[YAL,YAM hqi];rfl
 rw[hby];have hbl:=(s.getD (i*w/8) 0).toNat_lt;rw[digit_word hbl hw (by omega)];exact hK
theorem sumO_le {w n:Nat} {q:By} (h2:2^w≤256):sumO w ((List.range n).map fun i=>digitAt q i w)≤255*n:=by
 unfold sumO
 induction n with
 | zero=>simp
 | succ n ih =>
   rw[YAZ,YAU,YAU,YAe];simp only [YAV,YAW,YAf,YAg];omega
theorem ZCB.s {kind:Int} {hd c msg:By} {w p ls:Nat} {h:Heap} {K:Slc→Heap→Prop} (hk:otsP kind=some (w,p,ls)) (hl:hd.length+c.length+msg.length≤900000)
 (hK:∀h' s,Keep [] h h'→Row h' t_int .i s ((msgD w p ls hd c msg).map fun d=>((d:Nat):Int))→K s h'):ZCB.C kind (bx hd) (bx c) (bx msg) h K:=by
 obtain ⟨hc,w4,w8,p34,p67,h2a,h2b,hpl,hmost⟩:=otsP_c hk;have hw:w=4∨w=8:=by rcases hc with h | h <;> cases h <;> simp
 have h256:256/w*w=256:=by rcases hw with rfl | rfl <;> decide
 have h64:256/w≤64∧p-256/w≤3∧(p-256/w)*w≤16∧ls≤4:=by rcases hc with h | h <;> cases h <;> decide
 apply ZCB.c;unfold ZCB.m;refine ZAc.s ?_;rw[hk];simp only [YA4];show sadd (bx hd) (bx [129,129]) _;refine sadd_b (by simp;omega) ?_;refine sadd_b (by simp;omega) ?_;refine sadd_b (by simp;omega) ?_;refine ZBN.s (by simp;omega) fun h2 k2 =>?_;unfold msgD digitsO digitsA at hK;have hql:(Hl (hd++[129,129]++c++msg)).length=32:=Hl_len;generalize Hl (hd++[129,129]++c++msg)=q at *;have hdv:w64 ((256:Int).tdiv (w:Int))=((256/w:Nat):Int):=by rcases hw with rfl | rfl <;> decide
 have hsl1:shlI 1 (w:Int)=((2^w:Nat):Int):=by rcases hw with rfl | rfl <;> decide
 refine lp_go (fun (y:Int×Slc×Int×Unit) (h3:Heap)=>∃n:Nat,y.2.2.1=n∧n≤256/w∧y.1=((sumO w ((List.range n).map fun i=>digitAt q i w):Nat):Int)∧Keep [] h h3∧Row h3 t_int .i y.2.1 (((List.range n).map fun i=>digitAt q i w).map fun d=>((d:Nat):Int))∧∀x∈own y.2.1,h.size≤x) (fun (y:Int×Slc×Int×Unit) _=>256/w-y.2.2.1.toNat) ?_ ?_
 ·exact ⟨0,rfl,YA0 _,rfl,k2,.inl ⟨rfl,rfl⟩,by simp[own]⟩
 rintro ⟨(sm:Int),(s3:Slc),(jj:Int),_⟩ h3 ⟨n,e,hn,es,k3,r3,o3⟩;dsimp only at e es r3 o3 ⊢;subst e;subst es;have hsb:=sumO_le (w:=w) (n:=n) (q:=q) h2a;refine ⟨show (w:Int)≠0 by omega,?_⟩;by_cases hlt:n<256/w
 ·rw[if_pos (show decide ((n:Int)<w64 ((256:Int).tdiv (w:Int)))=true from dT (by rw[hdv];omega))]
  have hnw:n*w+w≤256:=by
   have:(n+1)*w≤256/w*w:=YAu _ hlt;rw[Nat.add_mul,Nat.one_mul,h256] at this;exact this
  refine ZCK.s hw (by omega) (by omega) ?_;refine ⟨YAo w,?_⟩;refine bs_gen fun b5 h5 hb5 k5 r5 hs5 =>?_;refine slCells_seg r5.seg (by simp[Kd.size]) ?_;refine ap_row (T:=t_int) (k := .i) (ys:=[((digitAt q n w:Nat):Int)]) (r3.keep k5 (by simp)) rfl rfl (by simp;omega) fun s6 h6 r6 k6 o6 =>?_;have hdl:=digitAt_lt (s:=q) (i:=n) (w:=w);have hrs:(List.range (n+1)).map (fun j=>digitAt q j w)=(List.range n).map (fun j=>digitAt q j w)++[digitAt q n w]:=by rw[YAZ,YAU];rfl
  have hsO:sumO w ((List.range (n+1)).map fun j=>digitAt q j w)=sumO w ((List.range n).map fun j=>digitAt q j w)+(2^w-1-digitAt q n w):=by
   rw[hrs];unfold sumO;simp
  have hw1:w64 ((n:Int)+1)=((n+1:Nat):Int):=w6 (by omega);rw[hw1,hsl1];have z3:=k3.1;have z5:=k5.1;refine ⟨⟨n+1,rfl,by omega,?_,(k3.n k5).new k6 o3,?_,fun x hx =>?_⟩,by simp;omega⟩
  ·rw[hsO];generalize sumO w ((List.range n).map fun j=>digitAt q j w)=S at *;generalize digitAt q n w=d at *;generalize 2^w=W at *;rw[w64_id (n:=(S:Int)+(W:Int)) (by omega) (by omega),w64_id (n:=(S:Int)+(W:Int)-1) (by omega) (by omega),w64_id (by omega) (by omega)];omega
  ·rw[hrs,YAU];exact r6
  ·rcases own_of o6 x hx with h | h
   ·exact o3 x h
   ·omega
 ·rw[if_neg (show ¬decide ((n:Int)<w64 ((256:Int).tdiv (w:Int)))=true from fun h=>by have:=of_decide_eq_true h;rw[hdv] at this;omega)];obtain rfl:n=256/w:=by omega
  refine ⟨YAo ls,?_⟩;generalize hA:(List.range (256/w)).map (fun i=>digitAt q i w)=A at *;have hAl:A.length=256/w:=by rw[←hA];simp
  generalize hS:sumO w A=S at *
  have hSb:S*2^ls≤261120:=by
   have h1:2^ls≤2^4:=YAv (by decide) h64.2.2.2;have h2:S≤16320:=by omega
   have h3:S*2^ls≤16320*2^4:=Nat.mul_le_mul h2 h1;omega
  rw[shlI_nat (by omega) (by omega)];refine ZAA.s (n:=2) (by decide) (by decide) (by omega) fun h7 k7 =>?_;have k07:Keep [] h h7:=k3.n k7;generalize hT:be (S*2^ls) 2=T at *;have hTl:T.length=2:=by rw[←hT,be_len]
  refine lp_go (fun (y:Slc×Int×Unit) (h8:Heap)=>∃n:Nat,y.2.1=n∧n≤p-256/w∧Keep [] h h8∧Row h8 t_int .i y.1 ((A++(List.range n).map fun i=>digitAt T i w).map fun d=>((d:Nat):Int))∧∀x∈own y.1,h.size≤x) (fun (y:Slc×Int×Unit) _=>p-256/w-y.2.1.toNat) ?_ ?_
  ·exact ⟨0,rfl,YA0 _,k07,by simpa using r3.keep k7 (by simp),o3⟩
  rintro ⟨(s8:Slc),(jj:Int),_⟩ h8 ⟨n,e,hn2,k8,r8,o8⟩;dsimp only at e r8 o8 ⊢;subst e;have hl8:s8.len=256/w+n:=by rw[r8.len];simp[hAl]
  by_cases hlt2:n<p-256/w
  ·rw[if_pos (show decide ((s8.len:Int)<(p:Int))=true from dT (by omega))]
   have hnw:n*w+w≤16:=by
    have:(n+1)*w≤(p-256/w)*w:=YAu _ hlt2;rw[Nat.add_mul,Nat.one_mul] at this;omega
   show ZCK.C (bx T) (n:Int) (w:Int) h8 _;refine ZCK.s hw (by omega) (by omega) ?_;refine bs_gen fun b5 h5 hb5 k5 r5 hs5 =>?_;refine slCells_seg r5.seg (by simp[Kd.size]) ?_;refine ap_row (T:=t_int) (k := .i) (ys:=[((digitAt T n w:Nat):Int)]) (r8.keep k5 (by simp)) rfl rfl (by simp[hAl];omega) fun s6 h6 r6 k6 o6 =>?_;have hw1:w64 ((n:Int)+1)=((n+1:Nat):Int):=w6 (by omega);rw[hw1];have z3:=k8.1;have z5:=k5.1;refine ⟨⟨n+1,rfl,by omega,(k8.n k5).new k6 o8,?_,fun x hx =>?_⟩,by simp;omega⟩
   ·rw[YAZ];simpa using r6
   ·rcases own_of o6 x hx with h | h
    ·exact o8 x h
    ·omega
  ·rw[if_neg (show ¬decide ((s8.len:Int)<(p:Int))=true from dn (by omega))];obtain rfl:n=p-256/w:=by omega
   exact hK h8 s8 k8 r8
theorem otsP_kind {k:Int} {x:Nat×Nat×Nat} (h:otsP k=some x):((k.toNat:Nat):Int)=k∧k.toNat<5:=by
 rcases otsP_cases h with ⟨e,_⟩ | ⟨e,_⟩ <;> rw[e] <;> decide
theorem ZB3.s {kind:Int} {id seed msg:By} {q w p ls:Nat} {h:Heap} {K:ByteArray→Int→Heap→Prop} (hk:otsP kind=some (w,p,ls)) (hid:id.length=16) (hq:q≤4294967295) (hs:seed.length=32) (hm:msg.length≤65536)
 (hK:∀h',Keep [] h h'→K (bx (otsSig kind.toNat w p ls id q seed msg)) 0 h'):ZB3.C kind (bx id) (q:Int) (bx seed) (bx msg) h K:=by
 obtain ⟨hc,w4,w8,p34,p67,h2a,h2b,hpl,hmost⟩:=otsP_c hk;obtain ⟨hkn,hk5⟩:=otsP_kind hk;apply ZB3.c;unfold ZB3.m;refine ZAc.s ?_;rw[hk];simp only [YA4];have hmay:otsMay id (q:Int)=true:=by unfold otsMay;simp[hid];omega
 refine jn_at (false,()) h ?_ ?_
 ·rw[if_neg (show ¬decide ((w:Int)=0)=true from dn (by omega))];refine ZBU.s ?_;rw[hmay,if_neg (by simp),if_neg (by rw[bx_size,hs];decide)];refine ⟨?_,rfl⟩;rw[dF (show ¬((bx msg).size:Int)>65536 by rw[bx_size];omega)]
 rw[if_neg (by simp)];refine ZAA.s (n:=4) (by decide) (by decide) (by omega) fun h6 k6 =>?_;show sadd (bx id) (bx (be q 4)) _;refine sadd_b (by rw[be_len];omega) ?_;have hhl:(headO id q).length=20:=by unfold headO;rw[YAP,be_len,hid]
 rw[show id++be q 4=headO id q from rfl];show sadd (bx (headO id q)) (bx [255,253,255]) _;refine sadd_b (by rw[hhl];decide) ?_;refine sadd_b (by rw[YAP,hhl,hs];decide) ?_;refine ZBN.s (by rw[YAP,YAP,hhl,hs];decide) fun h7 k7 =>?_;unfold otsSig at hK;have hC:Hl (headO id q++[255,253,255]++seed)=otsC (headO id q) seed:=rfl;rw[hC];have hCl:(otsC (headO id q) seed).length=32:=Hl_len;generalize otsC (headO id q) seed=C at *;refine ZCB.s hk (by omega) fun h8 s8 k8 r8 =>?_;have hdl:(msgD w p ls (headO id q) C msg).length=p:=digitsO_len hpl;have hdb:∀d∈msgD w p ls (headO id q) C msg,d<2^w:=fun d hd=>digitsO_lt hd;unfold partsO at hK;generalize msgD w p ls (headO id q) C msg=ds at *;rw[←hkn];refine ZAA.s (n:=4) (by decide) (by decide) (by omega) fun h9 k9 =>?_;show sadd (bx (be kind.toNat 4)) (bx C) _;refine sadd_b (by rw[be_len];omega) ?_;refine s2b_rowS fun s10 h10 k10 r10 o10 =>?_;have k010:Keep [] h h10:=(((k6.n k7).n k8).n k9).n k10;have k810:Keep [] h8 h10:=k9.n k10;have sl:∀i,(steps (headO id q) i 0 (ds.getD i 0) (privO (headO id q) i seed)).length=32:=fun i=>steps_len priv_len;have sl8:s8.len=p:=by rw[r8.len,List.length_map,hdl]
 have z09:=(((k6.n k7).n k8).n k9).1;rw[hdl] at hK;refine lp_go (fun (y:Slc×Int×Unit) (h11:Heap)=>∃n:Nat,y.2.1=n∧n≤p∧Keep [] h8 h11∧Keep [] h h11∧RowS h11 t_uint8 y.1 (be kind.toNat 4++C++(List.range n).flatMap fun i=>steps (headO id q) i 0 (ds.getD i 0) (privO (headO id q) i seed))∧∀x∈own y.1,h8.size≤x) (fun (y:Slc×Int×Unit) _=>p-y.2.1.toNat) ?_ ?_
 ·exact ⟨0,rfl,YA0 _,k810,k010,by simpa using r10,fun x hx=>by rw[o10] at hx;have:=k9.1;simp at hx;omega⟩
 rintro ⟨(s11:Slc),(jj:Int),_⟩ h11 ⟨n,e,hn,k11,k011,r11,o11⟩;dsimp only at e r11 o11 ⊢;subst e;have z8:=((k6.n k7).n k8).1;by_cases hlt:n<p
 ·rw[if_pos (show decide ((n:Int)<(s8.len:Int))=true from dT (by omega))]
  have hg:(ds.map fun d=>((d:Nat):Int))[((n:Int)).toNat]? = some ((ds.getD n 0:Nat):Int):=by
   rw[YAr,YAN,YAL,YAM (by omega)];rfl
  have hdn:ds.getD n 0<2^w:=by
   rw[YAL,YAM (by omega)];exact hdb _ (YAO _)
  refine seg_ixl (r8.keep k11 (by simp)).seg (by omega) hg rfl fun l1 hl1=>ld_go hl1 ?_;refine ZBe.s (by omega) (by omega) fun h12 k12 =>?_;refine ⟨sm_keep (by decide) hl1 k12,?_⟩;have pl:=priv_len (hd:=headO id q) (seed:=seed) (i:=n);refine ZBx.s (fr:=0) (by omega) (by omega) (by omega) (by omega) (by omega) fun h13 k13 =>?_;rw[YAy,bx_cells,bx_size];have k1113:Keep [] h11 h13:=k12.n k13;refine apS (r11.keep k1113 (by simp)) rfl rfl (by rw[YAP,YAP,be_len,hCl,flatR_le sl,sl];omega) fun s14 h14 r14 k14 o14 =>?_;have hw:w64 ((n:Int)+1)=((n+1:Nat):Int):=w6 (by omega);rw[hw];have z11:=k11.1;have z1113:=k1113.1;refine ⟨⟨n+1,rfl,by omega,(k11.n k1113).new k14 o11,(k011.n k1113).new k14 (fun x hx=>by have:=o11 x hx;omega),?_,fun x hx =>?_⟩,by simp;omega⟩
  ·rw[YAZ,YAI,←YAA];simpa using r14
  ·rcases own_of o14 x hx with h | h
   ·exact o11 x h
   ·omega
 ·rw[if_neg (show ¬decide ((n:Int)<(s8.len:Int))=true from dn (by omega))];obtain rfl:n=p:=by omega
  refine b2s_segq r11.seg fun q' _ =>?_;exact hK h11 k011
def NodesP (w p:Nat) (id seed:By) (h:Nat) (L:List By) (r:Nat):Prop:=
 L.length=2*2^h∧∀l,l≤h→∀j,2^(h-l)≤j→j<2*2^(h-l)→r≤j→L.getD j []=nodeL w p id seed (2^h) l j
theorem gets_map {L:List By} {i:Nat} (h:i<L.length):(L.map bx)[((i:Nat):Int).toNat]? = some (bx (L.getD i [])):=by
 rw[YAr,YAN,YAL,YAM h];rfl
theorem getD_set_ne {L:List By} {r j:Nat} {x:By} (h:r≠j):(L.set r x).getD j []=L.getD j []:=by
 rw[YAL,YAL,List.getElem?_set_ne h]
theorem getD_set_eq {L:List By} {r:Nat} {x:By} (h:r<L.length):(L.set r x).getD r []=x:=by
 rw[YAL,List.getElem?_set_self h];rfl
theorem NodesP.leaf {w p:Nat} {id seed:By} {h:Nat} {L:List By} {r:Nat} (n:NodesP w p id seed h L (r+1)) (h1:2^h≤r) (h2:r<2*2^h):NodesP w p id seed h (L.set r (tipL id r (pubO w p (headO id (r-2^h)) seed))) r:=by
 obtain ⟨e,n⟩:=n;refine ⟨by rw[List.length_set];exact e,fun l hl j a b c =>?_⟩;by_cases hj:r=j
 ·subst hj;rw[getD_set_eq (by omega)]
  have:l=0:=by
   cases l with
   | zero=>rfl
   | succ l =>
     have e1:2^(h-(l+1))*2=2^(h-(l+1)+1):=(YAw ..).symm;have e2:2^(h-(l+1)+1)≤2^h:=YAv (by decide) (by omega);omega
  subst this
  rfl
 ·rw[getD_set_ne hj];exact n l hl j a b (by omega)
theorem NodesP.inner {w p:Nat} {id seed:By} {h:Nat} {L:List By} {r:Nat} (n:NodesP w p id seed h L (r+1)) (h1:1≤r) (h2:r<2^h):NodesP w p id seed h (L.set r (joinL id r (L.getD (2*r) []) (L.getD (2*r+1) []))) r:=by
 obtain ⟨e,n⟩:=n;refine ⟨by rw[List.length_set];exact e,fun l hl j a b c =>?_⟩;by_cases hj:r=j
 ·subst hj;rw[getD_set_eq (by omega)]
  cases l with
  | zero=>rw[YAy] at a;omega
  | succ l =>
    have e1:2^(h-l)=2^(h-(l+1))*2:=by rw[←YAw];congr 1;omega
    rw[n l (by omega) (2*r) (by omega) (by omega) (by omega),n l (by omega) (2*r+1) (by omega) (by omega) (by omega)]
    rfl
 ·rw[getD_set_ne hj];exact n l hl j a b (by omega)
theorem NodesP.start {w p:Nat} {id seed:By} {h:Nat}:NodesP w p id seed h (List.replicate (2*2^h) []) (2*2^h):=by
 refine ⟨List.length_replicate,fun l hl j a b c =>?_⟩;have:2^(h-l)≤2^h:=YAv (by decide) (by omega);omega
theorem NodesP.root {w p:Nat} {id seed:By} {h:Nat} {L:List By} (n:NodesP w p id seed h L 1):L.getD 1 []=nodeL w p id seed (2^h) h 1:=n.2 h (YAt _) 1 (by rw[YAx];decide) (by rw[YAx];decide) (YAt _)
abbrev LkK:Kd := .ag (.pr .i (.pr .i (.pr .s (.pr .s (.pr .i .un)))))
def lkV (k:LKey):LkK.Ty:=(k.ots,(k.height,(bx k.id,(bx k.seed,(k.next,())))))
def hkV (k:HKey):LkK.Ty:=(k.ots,(k.height,(bx k.id,(bx k.seed,(k.next,())))))
end Go.Proofs.Tryz
