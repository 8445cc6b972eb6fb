import Derived.Test.YtpfgaleonhihhaaGreatModels
import Derived.Test.YtpfgaleonhihhaaGreatModels2
import Derived.Test.YtpfgaleonhihhaaGreatAl2
import Derived.Shelf.Strings.Search3
import Derived.Lib.Overlaps
set_option linter.unusedVariables false
set_option linter.unusedSimpArgs false
set_option maxRecDepth 100000
open List renaming append_assoc → YAA, append_nil → YAB, cons_append → YAC, drop_append_of_le_length → YAD, drop_drop → YAE, drop_eq_getElem_cons → YAF, drop_eq_nil_of_le → YAG, drop_take → YAH, flatMap_append → YAI, flatMap_cons → YAJ, flatMap_nil → YAK, getD_eq_getElem?_getD → YAL, getElem?_eq_getElem → YAM, getElem_mem → YAN, getElem_of_mem → YAO, length_append → YAP, length_cons → YAQ, length_drop → YAR, length_nil → YAS, length_take → YAT, map_cons → YAU, mem_append → YAV, mem_cons → YAW, nil_append → YAX, not_mem_nil → YAY, set_append_right → YAZ, set_cons_zero → YAa, sum_cons → YAb, take_append_drop → YAc, take_append_of_le_length → YAd, take_of_length_le → YAe, take_succ_eq_append_getElem → YAf
open Int renaming tdiv_eq_ediv_of_nonneg → YAg, tmod_eq_emod_of_nonneg → YAh, toNat_natCast → YAi
open Nat renaming add_sub_cancel_left → YAj, le_refl → YAk
open Bool renaming and_eq_true → YAl, false_eq_true → YAm, not_true → YAn, true_and → YAo
open UInt8 renaming toNat_ofNat' → YAp
open Vector renaming getElem_setIfInBounds → YAq, toList_setIfInBounds → YAr
namespace Go.Proofs.Tryz
open Go Go.Al
theorem ZB3.s {n:Int} {h:Heap} {K:Bool→Heap→Prop} (hK:K (decide (n=1∨n=2∨n=4)) h):ZB3.C n h K:=by
 apply ZB3.c;unfold ZB3.m;refine jn_at (decide (n=1∨n=2∨n=4),()) h ?_ hK;by_cases h1:n=1
 ·simp[h1]
 ·by_cases h2:n=2
  ·simp[h2]
  ·simp[h1,h2]
theorem be_get {x n i:Nat} (h:i<n):(be x n)[i]? = some (UInt8.ofNat (x/256^(n-1-i))):=by simp[be,h]
theorem be_size {x n:Nat}:(⟨(be x n).toArray⟩:ByteArray).size=n:=by simp[ByteArray.size,be_len]
theorem fits_iff {x n:Nat} (hn:n≤8):shrI (x:Int) (w64 (8*(n:Int)))=0↔x<256^n:=by
 rw[w64_id (by omega) (by omega),show (8*(n:Int))=((8*n:Nat):Int) by omega,shrI_nat _ _ (by omega),Nat.pow_mul];have:(2:Nat)^8=256:=by decide
 rw[this];have hp:0<(256:Nat)^n:=Nat.pow_pos (by decide)
 constructor
 ·intro e;have e:x/256^n=0:=by omega
  exact (Nat.div_eq_zero_iff_lt hp).1 e
 ·intro e;rw[(Nat.div_eq_zero_iff_lt hp).2 e];rfl
theorem ZAq.bad {x:Int} {n:Nat} {h:Heap} {K:ByteArray→Bool→Heap→Prop} (hn:n=1∨n=2∨n=4) (hx:¬(0≤x∧x<((256^n:Nat):Int))) (hK:K ⟨#[]⟩ false h):ZAq.C x n h K:=by
 apply ZAq.c;unfold ZAq.m;refine jn_at (true,()) h ?_ (by simpa using hK);refine ZB3.s ?_;have hs:((n:Int)=1∨(n:Int)=2∨(n:Int)=4):=by omega
 simp only [hs,decide_true,YAn,YAm,if_false];by_cases h0:x<0
 ·simp[h0]
 ·obtain ⟨m,rfl⟩:∃m:Nat,x=m:=⟨x.toNat,by omega⟩;simp only [h0,decide_false,YAm,if_false];refine ⟨by rw[w64_id (by omega) (by omega)];omega,?_,by first | rfl | trivial⟩
  have:¬(shrI (m:Int) (w64 (8*(n:Int)))=0):=fun e=>by
   have:=(fits_iff (by omega)).1 e;apply hx;omega
  simp[this]
theorem ZAq.s {x n:Nat} {h:Heap} {K:ByteArray→Bool→Heap→Prop} (hn:n=1∨n=2∨n=4) (hx:x<256^n) (hK:∀h',Keep [] h h'→K ⟨(be x n).toArray⟩ true h'):ZAq.C x n h K:=by
 apply ZAq.c;unfold ZAq.m;refine jn_at (false,()) h ?_ ?_
 ·refine ZB3.s ?_;have hs:((n:Int)=1∨(n:Int)=2∨(n:Int)=4):=by omega
  have h0:¬(x:Int)<0:=by omega
  simp only [hs,decide_true,YAn,YAm,if_false,h0,decide_false];refine ⟨by rw[w64_id (by omega) (by omega)];omega,?_,by first | rfl | trivial⟩;have:=(fits_iff (x:=x) (n:=n) (by omega)).2 hx;simp[this]
 simp only [YAm,if_false];refine ⟨by omega,by omega,by omega,by omega,?_⟩;refine lp_go (fun (y:Int×Unit) (h1:Heap)=>0≤y.1∧y.1≤n∧Keep [] h h1∧Row h1 t_uint8 .u8 ⟨some ⟨h.size,0⟩,n,n⟩ ((be x n).take y.1.toNat++List.replicate (n-y.1.toNat) 0)) (fun (y:Int×Unit) _=>n-y.1.toNat) ?_ ?_
 ·refine ⟨by simp,by simp,keep_push,?_⟩;refine Row.of_new (zs:=[]) (b:=h.size) ?_ rfl (by simp) (by simp);rw[YAB];exact get_push
 ·rintro ⟨(i:Int),_⟩ h1 ⟨i0,i1,hk,r⟩;simp only at *;have hbl:(be x n).length=n:=be_len;split
  ·rename_i hlt
   have hlt:i<n:=by simpa using hlt
   obtain ⟨t,rfl⟩:∃t:Nat,i=t:=⟨i.toNat,by omega⟩;have hw:w64 ((t:Int)+1)=(t:Int)+1:=w64_id (by omega) (by omega);have hw1:w64 ((n:Int)-1)=(n:Int)-1:=w64_id (by omega) (by omega);have hw2:w64 ((n:Int)-1-(t:Int))=((n-1-t:Nat):Int):=w6 (by omega);have hw3:w64 (8*((n-1-t:Nat):Int))=((8*(n-1-t):Nat):Int):=w6 (by omega);rw[hw,hw1,hw2,hw3];refine ⟨by omega,?_⟩;rw[shrI_nat _ _ (by omega),u8I_nat,Nat.pow_mul,show (2:Nat)^8=256 by decide];refine ix_st r i0 (by simp;omega) rfl fun h2 k2 r2 =>?_;refine ⟨⟨by omega,by omega,hk.new k2 (by simp[own]),?_⟩,by omega⟩;rw[show ((t:Int)+1).toNat=t+1 by omega];simp only [YAi] at r2;rw[YAZ _ _ (by simp;omega)] at r2;have e0:t-((be x n).take t).length=0:=by simp;omega
   rw[e0,show n-t=(n-(t+1))+1 by omega,List.replicate_succ,YAa] at r2;rw[List.take_add_one,be_get (by omega)];simpa using r2
  ·rename_i hge
   have hge:¬i<n:=by simpa using hge
   obtain rfl:i=n:=by omega
   simp only [YAi,Nat.sub_self,List.replicate_zero,YAB] at r;rw[YAe (by omega)] at r;exact b2s_seg r.seg fun q=>hK h1 hk
theorem ZAB.s {x n:Nat} {h:Heap} {K:ByteArray→Heap→Prop} (hn:1≤n) (hn':n≤8) (hx:x<9223372036854775808) (hK:∀h',Keep [] h h'→K ⟨(be x n).toArray⟩ h'):ZAB.C x n h K:=by
 apply ZAB.c;unfold ZAB.m;refine ⟨by omega,by omega,by omega,by omega,?_⟩;have hbl:(be x n).length=n:=be_len;refine lp_go (fun (y:Int×Int×Unit) (h1:Heap) => -1≤y.2.1∧y.2.1<n∧y.1=((x/256^(n-(y.2.1+1).toNat):Nat):Int)∧Keep [] h h1∧Row h1 t_uint8 .u8 ⟨some ⟨h.size,0⟩,n,n⟩ (List.replicate (y.2.1+1).toNat 0++(be x n).drop (y.2.1+1).toNat)) (fun (y:Int×Int×Unit) _=>(y.2.1+1).toNat) ?_ ?_
 ·have hw:w64 ((n:Int)-1)=(n:Int)-1:=w64_id (by omega) (by omega);rw[hw];have e:((n:Int)-1+1).toNat=n:=by omega
  refine ⟨by simp only;omega,by simp only;omega,?_,keep_push,?_⟩
  ·simp only [e];simp
  ·simp only [e];refine Row.of_new (zs:=[]) (b:=h.size) ?_ rfl (by simp;omega) (by simp;omega);rw[YAB,YAG (by omega),YAB];exact get_push
 ·rintro ⟨(p:Int),(i:Int),_⟩ h1 ⟨i0,i1,hp,hk,r⟩;simp only at *;split
  ·rename_i hge
   have hge:i≥0:=by simpa using hge
   obtain ⟨t,rfl⟩:∃t:Nat,i=t:=⟨i.toNat,by omega⟩;have e1:((t:Int)+1).toNat=t+1:=by omega
   rw[e1] at hp r;have hw:w64 ((t:Int)-1)=(t:Int)-1:=w64_id (by omega) (by omega);have e8:(((8:UInt64).toNat:Int))=((8:Nat):Int):=by decide
   rw[hw,e8,hp,shrI_nat _ _ (by decide)];have hm:=andI_mask ((x/256^(n-(t+1)):Nat):Int) (k:=8) (by decide);have e255:((2^8-1:Nat):Int)=255:=by decide
   rw[e255] at hm
   have eb:u8I (andI ((x/256^(n-(t+1)):Nat):Int) 255)=UInt8.ofNat (x/256^(n-1-t)):=by
    rw[hm,←Int.natCast_emod,u8I_nat];apply UInt8.toNat_inj.1;rw[YAp,YAp,show n-(t+1)=n-1-t by omega];simp
   rw[eb];refine ix_st r (by omega) (by simp;omega) rfl fun h2 k2 r2 =>?_;refine ⟨by decide,⟨by omega,by omega,?_,hk.new k2 (by simp[own]),?_⟩,by omega⟩
   ·have e2:((t:Int)-1+1).toNat=t:=by omega
    rw[e2,Nat.div_div_eq_div_mul,show (2:Nat)^8=256 by decide,←Nat.pow_succ,show (n-(t+1)).succ=n-t by omega]
   ·have e2:((t:Int)-1+1).toNat=t:=by omega
    rw[e2];simp only [YAi] at r2;rw[List.set_append_left _ _ (by simp),List.replicate_succ',YAZ _ _ (by simp)] at r2;have e0:t-(List.replicate t (0:UInt8)).length=0:=by simp
    rw[e0,YAa] at r2;have ht:t<(be x n).length:=by omega
    rw[YAF ht]
    have hg:(be x n)[t]=UInt8.ofNat (x/256^(n-1-t)):=by
     have:=be_get (x:=x) (n:=n) (i:=t) (by omega);rw[YAM ht] at this;exact Option.some.inj this
    rw[hg];simpa using r2
  ·rename_i hge
   have hge:¬i≥0:=by simpa using hge
   obtain rfl:i = -1:=by omega
   have e1:((-1:Int)+1).toNat=0:=by decide
   rw[e1] at r;simp only [List.replicate_zero,YAX,List.drop_zero] at r;exact b2s_seg r.seg fun q=>hK h1 hk
abbrev WK:Kd := .ag (.pr .sl .un)
structure IsW (h:Heap) (w:Nat) (s:Slc) (bs:List UInt8):Prop where
 o:h[w]? = some (vobj t_wire_Writer WK (s,()))
 r:Row h t_uint8 .u8 s bs
 nd:w∉own s
theorem IsW.keep {h h':Heap} {w:Nat} {s:Slc} {bs:List UInt8} {S:List Nat} (i:IsW h w s bs) (k:Keep S h h') (h1:w∉S) (h2:∀b∈own s,b∉S):IsW h' w s bs:=⟨k.get i.o h1,i.r.keep k h2,i.nd⟩
theorem IsW.f {h:Heap} {w:Nat} {s:Slc} {bs:List UInt8} (i:IsW h w s bs):sm .sl ((Pl.mk w 0).fld 0) s h:=sm_fld i.o rfl (by decide)
theorem ZB4.s {h:Heap} {K:Option Pl→Heap→Prop} (hK:∀h',Keep [] h h'→IsW h' h.size ⟨none,0,0⟩ []→K (some ⟨h.size,0⟩) h'):ZB4.C h K:=by
 apply ZB4.c;unfold ZB4.m;refine new_go (hK _ keep_push ⟨get_push,Row.nil,by simp[own]⟩)
theorem ZAV.s {h:Heap} {w:Nat} {s:Slc} {bs:List UInt8} {K:ByteArray→Heap→Prop} (i:IsW h w s bs) (hK:K ⟨bs.toArray⟩ h):ZAV.C (some ⟨w,0⟩) h K:=by
 apply ZAV.c;unfold ZAV.m;simp only [reduceCtorEq,decide_false,YAm,if_false];refine ⟨_,rfl,_,i.f,?_⟩;exact b2s_seg i.r.seg fun q=>hK
def lens (ps:List ByteArray):Nat:=(ps.map ByteArray.size).sum
def cat (ps:List ByteArray):List UInt8:=ps.flatMap fun p=>p.data.toList
theorem lens_take {ps:List ByteArray} {t:Nat} (h:t<ps.length):lens (ps.take (t+1))=lens (ps.take t)+ps[t].size:=by
 unfold lens;rw[YAf h];simp only [List.map_append,List.sum_append,YAU,List.map_nil,YAb,List.sum_nil,Nat.add_zero]
theorem cat_take {ps:List ByteArray} {t:Nat} (h:t<ps.length):cat (ps.take (t+1))=cat (ps.take t)++ps[t].data.toList:=by
 unfold cat;rw[YAf h];simp only [YAI,YAJ,YAK,YAB]
theorem lens_mono {ps:List ByteArray} (t:Nat):lens (ps.take t)≤lens ps:=by
 have:lens ps=lens (ps.take t)+lens (ps.drop t):=by
  unfold lens;rw[←List.sum_append,←List.map_append,YAc]
 omega
theorem cat_len (ps:List ByteArray):(cat ps).length=lens ps:=by
 unfold cat lens
 induction ps with
 | nil=>rfl
 | cons p r ih=>simp only [YAJ,YAP,ih,YAU,YAb];rfl
theorem ZAM.s {h:Heap} {w T:Nat} {s ps:Slc} {bs:List UInt8} {parts:List ByteArray} {K:Int→Heap→Prop} (i:IsW h w s bs) (r:Row h T .s ps parts) (hw:∀b∈own ps,b≠w) (hs:∀b∈own ps,b∉own s) (hb:bs.length≤65536)
 (hp:∀p∈parts,p.size≤1099511627776) (hn:parts.length≤1048576) (hbad:65536<bs.length+lens parts→K 302 h)
 (hK:bs.length+lens parts≤65536→∀h' s',Keep (w::own s) h h'→IsW h' w s' (bs++cat parts)→(∀b∈own s',b∈own s∨h.size≤b)→K 0 h'):ZAM.C (some ⟨w,0⟩) ps h K:=by
 apply ZAM.c;unfold ZAM.m;refine ⟨_,rfl,_,i.f,?_⟩;have hlen:=i.r.len;have hpl:=r.len;refine lp_go (fun (y:Int×Int×Unit) (h1:Heap)=>h1=h∧0≤y.2.1∧y.2.1≤parts.length∧y.1=((bs.length+lens (parts.take y.2.1.toNat):Nat):Int)∧bs.length+lens (parts.take y.2.1.toNat)≤65536) (fun (y:Int×Int×Unit) _=>parts.length-y.2.1.toNat) ?_ ?_
 ·exact ⟨rfl,by simp,by simp,by simp[lens,hlen],by simpa[lens] using hb⟩
 ·rintro ⟨(p:Int),(q:Int),_⟩ h1 ⟨rfl,q0,q1,hpq,hle⟩;simp only at *;split
  ·rename_i hlt
   have hlt:q<ps.len:=by simpa using hlt
   obtain ⟨t,rfl⟩:∃t:Nat,q=t:=⟨q.toNat,by omega⟩;have ht:t<parts.length:=by omega
   have hsz:=hp parts[t] (YAN ht);refine ix_ld (x:=parts[t]) r q0 (by simp[ht]) rfl ?_;simp only [YAi] at hpq hle;have hlt':=lens_take ht;have hw1:w64 ((t:Int)+1)=(t:Int)+1:=w64_id (by omega) (by omega);have hw2:w64 (p+(parts[t].size:Int))=((bs.length+lens (parts.take (t+1)):Nat):Int):=w6 (by omega);rw[hw1,hw2];split
   ·rename_i hgt
    have hgt:((bs.length+lens (parts.take (t+1)):Nat):Int)>65536:=by simpa using hgt
    have:=lens_mono (ps:=parts) (t+1);exact hbad (by omega)
   ·rename_i hgt
    have hgt:¬((bs.length+lens (parts.take (t+1)):Nat):Int)>65536:=by simpa using hgt
    have e:((t:Int)+1).toNat=t+1:=by omega
    refine ⟨⟨by first | rfl | trivial,by omega,by omega,?_,?_⟩,by omega⟩
    ·rw[e]
    ·rw[e];omega
  ·rename_i hge
   have hge:¬q<ps.len:=by simpa using hge
   obtain rfl:q=parts.length:=by omega
   simp only [YAi] at hpq hle;rw[YAe (YAk _)] at hpq hle;refine lp_go (fun (y:Int×Unit) (h2:Heap)=>0≤y.1∧y.1≤parts.length∧∃s',Keep (w::own s) h1 h2∧IsW h2 w s' (bs++cat (parts.take y.1.toNat))∧∀b∈own s',b∈own s∨h1.size≤b) (fun (y:Int×Unit) _=>parts.length-y.1.toNat) ?_ ?_
   ·exact ⟨by simp,by simp,s,Keep.rfl,by simpa[cat] using i,fun b hb => .inl hb⟩
   ·rintro ⟨(j:Int),_⟩ h2 ⟨j0,j1,s',k2,i2,o2⟩;simp only at *
    have rp2:Row h2 T .s ps parts:=r.keep k2 (fun b hb hm=>by
     rcases List.mem_cons.1 hm with e | e
     ·exact hw b hb e
     ·exact hs b hb e)
    split
    ·rename_i hlt
     have hlt:j<ps.len:=by simpa using hlt
     obtain ⟨t,rfl⟩:∃t:Nat,j=t:=⟨j.toNat,by omega⟩;have ht:t<parts.length:=by omega
     have hw1:w64 ((t:Int)+1)=(t:Int)+1:=w64_id (by omega) (by omega);rw[hw1];refine ix_ld (x:=parts[t]) rp2 j0 (by simp[ht]) rfl ?_;simp only [YAi] at i2;refine ⟨_,rfl,_,i2.f,?_⟩;have hsz:=hp parts[t] (YAN ht);have hl1:=lens_mono (ps:=parts) t;have hcl:=cat_len (parts.take t);refine ap_row (k := .u8) (ys:=parts[t].data.toList) i2.r rfl rfl (by simp only [YAP,hcl];omega) fun s3 h3 r3 k3 o3 =>?_;have ho3:=own_of o3;refine ⟨_,rfl,?_⟩
     have hw3:w∉own s3:=fun hm=>by
      rcases ho3 w hm with e | e
      ·exact i2.nd e
      ·have:=lt_of_some i2.o;omega
     refine st_fld (x':=(s3,())) (k3.get i2.o i2.nd) (by decide) rfl ?_;have k4:Keep [w] h3 (h3.setIfInBounds w (vobj t_wire_Writer WK (s3,()))):=keep_set;have e:((t:Int)+1).toNat=t+1:=by omega
     refine ⟨⟨by omega,by omega,s3,?_,⟨get_set (k3.get i2.o i2.nd),?_,hw3⟩,?_⟩,by omega⟩
     ·refine (k2.then (U:=w::own s) k3 (fun x hx _=>hx) (fun x hx hl =>?_)).then k4 (fun x hx _=>hx) (fun x hx hl=>by simp at hx;subst hx;exact List.mem_cons_self);rcases o2 x hx with e | e
      ·exact List.mem_cons_of_mem _ e
      ·omega
     ·rw[e,cat_take ht,←YAA];exact r3.keep k4 (fun b hb hm=>by simp at hm;subst hm;exact hw3 hb)
     ·intro b hb;rcases ho3 b hb with e | e
      ·exact o2 b e
      ·have:=k2.1;omega
    ·rename_i hge
     have hge:¬j<ps.len:=by simpa using hge
     obtain rfl:j=parts.length:=by omega
     simp only [YAi] at i2;rw[YAe (YAk _)] at i2;exact hK hle h2 s' k2 i2 o2
theorem ZAA.s {h:Heap} {w x n:Nat} {s:Slc} {bs:List UInt8} {K:Int→Heap→Prop} (i:IsW h w s bs) (hn:n=1∨n=2∨n=4) (hx:x<256^n) (hb:bs.length+n≤65536)
 (hK:∀h' s',Keep (w::own s) h h'→IsW h' w s' (bs++be x n)→(∀b∈own s',b∈own s∨h.size≤b)→K 0 h'):ZAA.C (some ⟨w,0⟩) x n h K:=by
 apply ZAA.c;unfold ZAA.m;simp only [reduceCtorEq,decide_false,YAm,if_false];refine ZAq.s hn hx fun h1 k1 =>?_;simp only [YAn,YAm,if_false];show ZAM.C _ _ (h1.push (robj t_string .s [⟨(be x n).toArray⟩])) _;have hl1:lens [(⟨(be x n).toArray⟩:ByteArray)]=n:=by simp[lens,ByteArray.size,be_len]
 have i1:=i.keep k1 (by simp) (by simp);have i2:=i1.keep (keep_push (o:=robj t_string .s [⟨(be x n).toArray⟩])) (by simp) (by simp);have lw:=lt_of_some i1.o;have ls:=i1.r.lt;refine ZAM.s (T:=t_string) i2 (parts:=[⟨(be x n).toArray⟩]) (Row.of_new (zs:=[]) (b:=h1.size) (by rw[YAB];exact get_push) rfl rfl rfl) ?_ ?_ (by omega) ?_ (by simp only [YAQ,YAS];omega) (fun hgt=>by rw[hl1] at hgt;omega) fun _ h' s' k' i' o' =>?_
 ·intro b hb;simp[own] at hb;omega
 ·intro b hb hm;simp[own] at hb;have:=ls b hm;omega
 ·intro p hp;simp only [YAW,YAY,or_false] at hp;subst hp;rw[be_size];omega
 ·have e:cat [(⟨(be x n).toArray⟩:ByteArray)]=be x n:=by simp[cat]
  rw[e] at i';refine hK h' s' ((k1.then (U:=w::own s) (keep_push (o:=robj t_string .s [⟨(be x n).toArray⟩])) (by simp) (by simp)).then k' (fun x hx _=>hx) (fun x hx _=>hx)) i' fun b hb =>?_;rcases o' b hb with e | e
  ·exact .inl e
  ·right;have:=k1.1;simp at e;omega
theorem ZAF.s {h:Heap} {w n:Nat} {s:Slc} {bs:List UInt8} {x:ByteArray} {K:Int→Heap→Prop} (i:IsW h w s bs) (hn:n=1∨n=2∨n=4) (hx:x.size<256^n) (hb:bs.length+n+x.size≤65536)
 (hK:∀h' s',Keep (w::own s) h h'→IsW h' w s' (bs++(be x.size n++x.data.toList))→(∀b∈own s',b∈own s∨h.size≤b)→K 0 h'):ZAF.C (some ⟨w,0⟩) x n h K:=by
 apply ZAF.c;unfold ZAF.m;simp only [reduceCtorEq,decide_false,YAm,if_false];refine ZAq.s hn hx fun h1 k1 =>?_;simp only [YAn,YAm,if_false];show ZAM.C _ _ (h1.push (robj t_string .s [⟨(be x.size n).toArray⟩,x])) _
 have hl1:lens [(⟨(be x.size n).toArray⟩:ByteArray),x]=n+x.size:=by
  have:(⟨(be x.size n).toArray⟩:ByteArray).size=n:=be_size;simp only [lens,YAU,List.map_nil,YAb,List.sum_nil,this];omega
 have i1:=i.keep k1 (by simp) (by simp);have i2:=i1.keep (keep_push (o:=robj t_string .s [⟨(be x.size n).toArray⟩,x])) (by simp) (by simp);have lw:=lt_of_some i1.o;have ls:=i1.r.lt;refine ZAM.s (T:=t_string) i2 (parts:=[⟨(be x.size n).toArray⟩,x]) (Row.of_new (zs:=[]) (b:=h1.size) (by rw[YAB];exact get_push) rfl rfl rfl) ?_ ?_ (by omega) ?_ (by simp only [YAQ,YAS];omega) (fun hgt=>by rw[hl1] at hgt;omega) fun _ h' s' k' i' o' =>?_
 ·intro b hb;simp[own] at hb;omega
 ·intro b hb hm;simp[own] at hb;have:=ls b hm;omega
 ·intro p hp;rcases List.mem_cons.1 hp with e | e
  ·subst e;rw[be_size];omega
  ·simp only [YAW,YAY,or_false] at e;subst e;omega
 ·have e:cat [(⟨(be x.size n).toArray⟩:ByteArray),x]=be x.size n++x.data.toList:=by simp[cat]
  rw[e] at i';refine hK h' s' ((k1.then (U:=w::own s) (keep_push (o:=robj t_string .s [⟨(be x.size n).toArray⟩,x])) (by simp) (by simp)).then k' (fun x hx _=>hx) (fun x hx _=>hx)) i' fun b hb =>?_;rcases o' b hb with e | e
  ·exact .inl e
  ·right;have:=k1.1;simp at e;omega
structure NW (h0 h:Heap) (w:Nat) (s:Slc) (bs:List UInt8):Prop where
 k:Keep [] h0 h
 i:IsW h w s bs
 lw:h0.size≤w
 ls:∀b∈own s,h0.size≤b
theorem NW.step {h0 h h':Heap} {w:Nat} {s s':Slc} {bs bs':List UInt8} (q:NW h0 h w s bs) (k:Keep (w::own s) h h') (i:IsW h' w s' bs') (o:∀b∈own s',b∈own s∨h.size≤b):NW h0 h' w s' bs':=by
 refine ⟨q.k.new k fun b hb =>?_,i,q.lw,fun b hb =>?_⟩
 ·rcases List.mem_cons.1 hb with e | e
  ·rw[e];exact q.lw
  ·exact q.ls b e
 ·rcases o b hb with e | e
  ·exact q.ls b e
  ·exact Nat.le_trans q.k.1 e
theorem NW.keep {h0 h h':Heap} {w:Nat} {s:Slc} {bs:List UInt8} {S:List Nat} (q:NW h0 h w s bs) (k:Keep S h h') (hs:∀b∈S,h.size≤b):NW h0 h' w s bs:=
 ⟨q.k.new k fun b hb=>Nat.le_trans q.k.1 (hs b hb),q.i.keep k (fun hm=>by have:=hs w hm;have:=lt_of_some q.i.o;omega) (fun b hb hm=>by have:=hs b hm;have:=q.i.r.lt b hb;omega),q.lw,q.ls⟩
theorem NW.out {h0 h:Heap} {w:Nat} {s:Slc} {bs:List UInt8} (q:NW h0 h w s bs) {b:Nat} (hb:b<h0.size∨b≠w∧b∉own s):b∉w::own s:=by
 intro hm;rcases List.mem_cons.1 hm with e | e
 ·rcases hb with h1 | h1
  ·have:=q.lw;omega
  ·exact h1.1 e
 ·rcases hb with h1 | h1
  ·have:=q.ls b e;omega
  ·exact h1.2 e
theorem out_step {h:Heap} {w:Nat} {s s':Slc} (o:∀b∈own s',b∈own s∨h.size≤b):∀b,b<h.size→b∉w::own s→b∉w::own s':=by
 intro b hb hn hm;rcases List.mem_cons.1 hm with e | e
 ·exact hn (e ▸ List.mem_cons_self)
 ·rcases o b e with e | e
  ·exact hn (List.mem_cons_of_mem _ e)
  ·omega
theorem NW.num {h0 h:Heap} {w x n:Nat} {s:Slc} {bs:List UInt8} {K:Int→Heap→Prop} (q:NW h0 h w s bs) (hn:n=1∨n=2∨n=4) (hx:x<256^n) (hb:bs.length+n≤65536)
 (hK:∀h' s',NW h0 h' w s' (bs++be x n)→Keep (w::own s) h h'→(∀b,b<h.size→b∉w::own s→b∉w::own s')→K 0 h'):ZAA.C (some ⟨w,0⟩) x n h K:=
 ZAA.s q.i hn hx hb fun h' s' k' i' o'=>hK h' s' (q.step k' i' o') k' (out_step o')
theorem NW.text {h0 h:Heap} {w n:Nat} {s:Slc} {bs:List UInt8} {x:ByteArray} {K:Int→Heap→Prop} (q:NW h0 h w s bs) (hn:n=1∨n=2∨n=4) (hx:x.size<256^n) (hb:bs.length+n+x.size≤65536)
 (hK:∀h' s',NW h0 h' w s' (bs++(be x.size n++x.data.toList))→Keep (w::own s) h h'→(∀b,b<h.size→b∉w::own s→b∉w::own s')→K 0 h'):ZAF.C (some ⟨w,0⟩) x n h K:=
 ZAF.s q.i hn hx hb fun h' s' k' i' o'=>hK h' s' (q.step k' i' o') k' (out_step o')
def rr (x:UInt32) (k:Nat):UInt32:=shU32 .shl x ((32-k:Nat):Int)|||shU32 .shr x (k:Int)
theorem rot7 {x:UInt32} {h:Heap} {K:UInt32→Heap→Prop} (k:Nat) (hk:1≤k∧k≤31) (he:((u64I (-(k:Int)))&&&31).toNat=32-k∧((32-((u64I (-(k:Int)))&&&31)).toNat)=k) (hK:K (rr x k) h):ZAO.C x (-(k:Int)) h K:=by
 apply ZAO.c;unfold ZAO.m;refine ⟨by omega,by omega,?_⟩;rw[he.1,he.2];exact hK
def wordB (l:List UInt8) (n:Nat):UInt32:=
 (((shU32 .shl (UInt32.ofNat (l.getD (4*n) 0).toNat) 24)|||(shU32 .shl (UInt32.ofNat (l.getD (4*n+1) 0).toNat) 16))|||(shU32 .shl (UInt32.ofNat (l.getD (4*n+2) 0).toNat) 8))|||(UInt32.ofNat (l.getD (4*n+3) 0).toNat)
def wordN (w:List UInt32) (n:Nat):UInt32:=
 ((w.getD (n-16) 0+w.getD (n-7) 0)+((rr (w.getD (n-15) 0) 7^^^rr (w.getD (n-15) 0) 18)^^^shU32 .shr (w.getD (n-15) 0) 3))+((rr (w.getD (n-2) 0) 17^^^rr (w.getD (n-2) 0) 19)^^^shU32 .shr (w.getD (n-2) 0) 10)
def sch (l:List UInt8):Nat→List UInt32
 | 0=>[]
 | n+1=>sch l n++[if n<16 then wordB l n else wordN (sch l n) n]
theorem sch_len (l:List UInt8):∀n,(sch l n).length=n
 | 0=>rfl
 | n+1=>by simp[sch,sch_len l n]
theorem sch_step {l:List UInt8} {z:Vector UInt32 64} {t:Nat} (ht:t<64) (hz:z.toList=sch l t++List.replicate (64-t) 0) {y:UInt32} (hy:y=if t<16 then wordB l t else wordN (sch l t) t) :
 (z.setIfInBounds t y).toList=sch l (t+1)++List.replicate (64-(t+1)) 0:=by
 rw[YAr,hz,YAZ _ _ (by rw[sch_len];exact YAk _),sch_len,Nat.sub_self];have:64-t=(64-(t+1))+1:=by omega
 rw[this,List.replicate_succ,YAa,sch,hy];simp
theorem sch_get {l:List UInt8} {z:Vector UInt32 64} {t j:Nat} (hz:z.toList=sch l t++List.replicate (64-t) 0) (hj:j<t) (hj':j<64):z[j]=(sch l t).getD j 0:=by
 have h1:z[j]=z.toList[j]'(by simpa using hj'):=by simp
 rw[h1];have h2:z.toList[j]? = (sch l t)[j]? := by rw[hz,List.getElem?_append_left (by rw[sch_len];exact hj)]
 rw[YAM (by simpa using hj')] at h2;rw[YAL,←h2]
 rfl
theorem ZCA.s {s:Slc} {l:List UInt8} {h:Heap} {K:Kd.Ty (.ar 64 .u32)→Heap→Prop} (g:Seg .u8 s l h) (hl:l.length=64)
 (hK:∀(w:Vector UInt32 64) h',Keep [] h h'→w.toList=sch l 64→K w h'):ZCA.C s h K:=by
 apply ZCA.c;unfold ZCA.m;refine new_go (new_go ?_);have hlen:=g.len;have k0:Keep [] h ((h.push (vobj t_64_uint32 (.ar 64 .u32) (Vector.replicate 64 (0:UInt32)))).push (vobj t_64_uint32 (.ar 64 .u32) (Vector.replicate 64 (0:UInt32)))):=keep_push.trans keep_push;have e2:((h.push (vobj t_64_uint32 (.ar 64 .u32) (Vector.replicate 64 (0:UInt32)))).push (vobj t_64_uint32 (.ar 64 .u32) (Vector.replicate 64 (0:UInt32))))[(h.push (vobj t_64_uint32 (.ar 64 .u32) (Vector.replicate 64 (0:UInt32)))).size]? = some (vobj t_64_uint32 (.ar 64 .u32) (Vector.replicate 64 (0:UInt32))):=get_push;have e1:((h.push (vobj t_64_uint32 (.ar 64 .u32) (Vector.replicate 64 (0:UInt32)))).push (vobj t_64_uint32 (.ar 64 .u32) (Vector.replicate 64 (0:UInt32))))[h.size]? = some (vobj t_64_uint32 (.ar 64 .u32) (Vector.replicate 64 (0:UInt32))):=get_push_old get_push;have hb:(h.push (vobj t_64_uint32 (.ar 64 .u32) (Vector.replicate 64 (0:UInt32)))).size=h.size+1:=by simp
 show lp _ _ _ ((h.push (vobj t_64_uint32 (.ar 64 .u32) (Vector.replicate 64 (0:UInt32)))).push (vobj t_64_uint32 (.ar 64 .u32) (Vector.replicate 64 (0:UInt32))));generalize (h.push (vobj t_64_uint32 (.ar 64 .u32) (Vector.replicate 64 (0:UInt32)))).size=b2 at e2 hb ⊢;generalize ((h.push (vobj t_64_uint32 (.ar 64 .u32) (Vector.replicate 64 (0:UInt32)))).push (vobj t_64_uint32 (.ar 64 .u32) (Vector.replicate 64 (0:UInt32))))=h0 at k0 e1 e2 ⊢;have e24:(((24:UInt64).toNat:Int))=24:=by decide
 have e16:(((16:UInt64).toNat:Int))=16:=by decide
 have e8:(((8:UInt64).toNat:Int))=8:=by decide
 have e3:(((3:UInt64).toNat:Int))=3:=by decide
 have e10:(((10:UInt64).toNat:Int))=10:=by decide
 rw[e24,e16,e8,e3,e10];refine lp_go (fun (y:Int×Unit) (h3:Heap)=>0≤y.1∧y.1≤64∧Keep [b2] h0 h3∧∃z:Vector UInt32 64,h3[b2]? = some (vobj t_64_uint32 (.ar 64 .u32) z)∧z.toList=sch l y.1.toNat++List.replicate (64-y.1.toNat) 0) (fun (y:Int×Unit) _=>64-y.1.toNat) ?_ ?_
 ·exact ⟨by simp,by simp,Keep.rfl,_,e2,by simp[sch]⟩
 ·rintro ⟨(i:Int),_⟩ h3 ⟨i0,i1,k3,z,hz,hzl⟩;dsimp only at *;obtain ⟨t,rfl⟩:∃t:Nat,i=t:=⟨i.toNat,by omega⟩;simp only [YAi] at hzl;have kk3:Keep [] h h3:=k0.new k3 (by simp;omega);split
  ·rename_i hlt0
   have hlt:t<64:=by
    have:(t:Int)<64:=by simpa using hlt0
    omega
   have hw:w64 ((t:Int)+1)=(t:Int)+1:=w64_id (by omega) (by omega);rw[hw];have ht1:((t:Int)+1).toNat=t+1:=by omega
   refine jn_is () (fun h4=>Keep [b2] h0 h4∧∃z:Vector UInt32 64,h4[b2]? = some (vobj t_64_uint32 (.ar 64 .u32) z)∧z.toList=sch l (t+1)++List.replicate (64-(t+1)) 0) ?_ ?_
   ·by_cases h16:t<16
    ·rw[if_pos (dT (show (t:Int)<16 by omega))];have w0:w64 (4*(t:Int))=((4*t:Nat):Int):=w6 (by omega);have w1:w64 (((4*t:Nat):Int)+1)=((4*t+1:Nat):Int):=w6 (by omega);have w2:w64 (((4*t:Nat):Int)+2)=((4*t+2:Nat):Int):=w6 (by omega);have w3:w64 (((4*t:Nat):Int)+3)=((4*t+3:Nat):Int):=w6 (by omega);rw[w0,w1,w2,w3]
     have gd:∀j:Nat,(hj:j<64)→l[(j:Int).toNat]? = some (l.getD j 0):=fun j hj=>by
      rw[YAi,YAM (by omega),YAL,YAM (by omega)];rfl
     have gg:=g.keep (by decide) kk3;refine seg_ix gg (by omega) (gd (4*t) (by omega)) rfl ⟨by decide,?_⟩;refine seg_ix gg (by omega) (gd (4*t+1) (by omega)) rfl ⟨by decide,?_⟩;refine seg_ix gg (by omega) (gd (4*t+2) (by omega)) rfl ⟨by decide,?_⟩;refine seg_ix gg (by omega) (gd (4*t+3) (by omega)) rfl ⟨by omega,by omega,?_⟩;refine ar_st (i:=t) hz hlt ⟨rfl,k3.then keep_set (fun x hx _=>hx) (fun x hx _=>hx),_,get_set hz,?_⟩;exact sch_step hlt hzl (by rw[if_pos h16];rfl)
    ·rw[if_neg (by simp;omega)];have w15:w64 ((t:Int)-15)=((t-15:Nat):Int):=w6 (by omega);have w2:w64 ((t:Int)-2)=((t-2:Nat):Int):=w6 (by omega);have w16:w64 ((t:Int)-16)=((t-16:Nat):Int):=w6 (by omega);have w7:w64 ((t:Int)-7)=((t-7:Nat):Int):=w6 (by omega);rw[w15,w2,w16,w7]
     have at_:∀j,(hj:j<t)→sm .u32 ⟨b2,0+((j:Nat):Int).toNat*1⟩ ((sch l t).getD j 0) h3:=fun j hj=>by
      rw[←sch_get hzl hj (by omega),YAi];exact ar_sm (i:=j) hz (by omega)
     have s15:=at_ (t-15) (by omega);have s2:=at_ (t-2) (by omega);have s16:=at_ (t-16) (by omega);have s7:=at_ (t-7) (by omega);refine ⟨by omega,by omega,_,s15,by omega,by omega,_,s2,by omega,by omega,_,s16,by omega,by omega,_,s7,by decide,by decide,?_⟩;refine rot7 7 (by decide) (by decide) ⟨s7,s16,?_⟩;refine rot7 18 (by decide) (by decide) ⟨s7,s16,?_⟩;refine rot7 17 (by decide) (by decide) ⟨s7,s16,?_⟩;refine rot7 19 (by decide) (by decide) ⟨s7,s16,?_⟩;refine ⟨by omega,by omega,?_⟩;refine ar_st (i:=t) hz hlt ⟨rfl,k3.then keep_set (fun x hx _=>hx) (fun x hx _=>hx),_,get_set hz,?_⟩;exact sch_step hlt hzl (by rw[if_neg h16];rfl)
   ·rintro h4 ⟨k4,z4,hz4,hzl4⟩;exact ⟨⟨by omega,by omega,k4,z4,hz4,by rw[ht1];exact hzl4⟩,by omega⟩
  ·rename_i hge
   have hge:¬t<64:=fun hh=>hge (dT (show (t:Int)<64 by omega));have ht:t=64:=by omega
   subst ht;refine ⟨z,sm_all hz,?_⟩;have e13:=k3.get e1 (by simp;omega);refine st_all e13 ?_;refine ⟨z,sm_all (get_set e13),?_⟩;refine hK z _ (kk3.new keep_set (by simp)) ?_;simpa using hzl
def kk:Vector UInt32 64 := #v[1116352408,1899447441,3049323471,3921009573,961987163,1508970993,2453635748,2870763221,3624381080,310598401,607225278,1426881987,1925078388,2162078206,2614888103,3248222580,3835390401,4022224774,264347078,604807628,770255983,1249150122,1555081692,1996064986,2554220882,2821834349,2952996808,3210313671,3336571891,3584528711,113926993,338241895,666307205,773529912,1294757372,1396182291,1695183700,1986661051,2177026350,2456956037,2730485921,2820302411,3259730800,3345764771,3516065817,3600352804,4094571909,275423344,430227734,506948616,659060556,883997877,958139571,1322822218,1537002063,1747873779,1955562222,2024104815,2227730452,2361852424,2428436474,2756734187,3204031479,3329325298]
theorem ZBp.s {h:Heap} {K:Kd.Ty (.ar 64 .u32)→Heap→Prop} (hK:∀h',Keep [] h h'→K kk h'):ZBp.C h K:=by
 apply ZBp.c;unfold ZBp.m;refine new_go ?_;refine st_all (k := .ar 64 .u32) (x':=kk) get_push ?_;refine ⟨kk,sm_all (get_set get_push),?_⟩;exact hK _ (keep_push.new keep_set (by simp))
def rnd (k w:UInt32) (s:Vector UInt32 8):Vector UInt32 8:=
 let t:=(((s[7]+((rr s[4] 6^^^rr s[4] 11)^^^rr s[4] 25))+((s[4]&&&s[5])^^^((~~~s[4])&&&s[6])))+k)+w
 let u:=(((rr s[0] 2^^^rr s[0] 13)^^^rr s[0] 22)+(((s[0]&&&s[1])^^^(s[0]&&&s[2]))^^^(s[1]&&&s[2])))
 #v[t+u,s[0],s[1],s[2],s[3]+t,s[4],s[5],s[6]]
def rnds (w:List UInt32) (z:Vector UInt32 8):Nat→Vector UInt32 8
 | 0=>z
 | n+1=>rnd (kk.toList.getD n 0) (w.getD n 0) (rnds w z n)
def turnV (l:List UInt8) (z:Vector UInt32 8):Vector UInt32 8:=Vector.zipWith (· + ·) z (rnds (sch l 64) z 64)
abbrev DGK:Kd := .ag (.pr (.ar 8 .u32) (.pr .sl (.pr .i .un)))
abbrev DGR:Kd := .pr .sl (.pr .i .un)
theorem u32_cells (l:List UInt32):l.flatMap Kd.u32.cells=l.map fun x=>Value.int .u32 x.toNat:=by
 induction l with
 | nil=>rfl
 | cons x r ih=>rw[YAJ,ih];rfl
theorem dg_cells {z:Vector UInt32 8} {r:DGR.Ty}:DGK.cells (z,r)=(z.toList.map fun x=>Value.int .u32 x.toNat)++DGR.cells r:=by
 rw[←u32_cells];rfl
theorem dg_sm {h:Heap} {d T i:Nat} {z:Vector UInt32 8} {r:DGR.Ty} (e:h[d]? = some (vobj T DGK (z,r))) (hi:i<8):sm .u32 ⟨d,0+0+i*1⟩ z[i] h:=by
 have:=sm_fld (n:=i) (k' := .u32) (y:=z[i]) e (by
  rw[dg_cells,YAD (by simp;omega),YAd (by simp[Kd.size];omega)];show _=[Value.int .u32 z[i].toNat];rw[←List.map_drop,←List.map_take];have hl:i<z.toList.length:=by simpa using hi
  rw[YAF hl];simp[Kd.size]) (by show i+1≤10;omega)
 have e2:(Pl.mk d 0).fld i=⟨d,0+0+i*1⟩:=by simp[Pl.fld]
 rw[←e2];exact this
theorem dg_st {h:Heap} {d T i:Nat} {z:Vector UInt32 8} {r:DGR.Ty} {y:UInt32} {K:Heap→Prop} (e:h[d]? = some (vobj T DGK (z,r))) (hi:i<8) (hK:K (h.setIfInBounds d (vobj T DGK (z.setIfInBounds i y,r)))):st .u32 ⟨d,0+0+i*1⟩ y h K:=by
 have e2:(Pl.mk d 0).fld i=⟨d,0+0+i*1⟩:=by simp[Pl.fld]
 rw[←e2];refine st_fld (x':=(z.setIfInBounds i y,r)) e (by show i+1≤10;omega) ?_ hK;rw[dg_cells,dg_cells,YAr,List.set_eq_take_append_cons_drop,if_pos (by simpa using hi)];unfold wrL;have hc:Kd.u32.cells y=[Value.int .u32 y.toNat]:=rfl;rw[hc,YAd (by simp;omega),YAD (by simp;omega)];simp
theorem kk_at {i:Nat} (hi:i<64):kk[i]=kk.toList.getD i 0:=by
 rw[YAL,YAM (by simpa using hi)];simp
theorem w_at {w:Vector UInt32 64} {l:List UInt32} (hw:w.toList=l) {i:Nat} (hi:i<64):w[i]=l.getD i 0:=by
 subst hw;rw[YAL,YAM (by simpa using hi)];simp
theorem sha_turn.s {d:Nat} {z:Vector UInt32 8} {r:DGR.Ty} {s:Slc} {l:List UInt8} {h:Heap} {K:Heap→Prop} (e:h[d]? = some (vobj t_sha_Digest DGK (z,r))) (g:Seg .u8 s l h) (hl:l.length=64)
 (hK:∀h',Keep [d] h h'→h'[d]? = some (vobj t_sha_Digest DGK (turnV l z,r))→K h'):ZB6.C (some ⟨d,0⟩) s h K:=by
 apply ZB6.c;unfold ZB6.m;refine ZBp.s fun h1 k1 =>?_;refine ZCA.s (g.keep (by decide) k1) hl fun w h2 k2 hw =>?_;have k2:=k1.n k2;refine new_go (new_go ?_);have k4:Keep [] h2 ((h2.push (vobj t_64_uint32 (.ar 64 .u32) (Vector.replicate 64 (0:UInt32)))).push (vobj t_64_uint32 (.ar 64 .u32) (Vector.replicate 64 (0:UInt32)))):=keep_push.trans keep_push;have e2:((h2.push (vobj t_64_uint32 (.ar 64 .u32) (Vector.replicate 64 (0:UInt32)))).push (vobj t_64_uint32 (.ar 64 .u32) (Vector.replicate 64 (0:UInt32))))[(h2.push (vobj t_64_uint32 (.ar 64 .u32) (Vector.replicate 64 (0:UInt32)))).size]? = some (vobj t_64_uint32 (.ar 64 .u32) (Vector.replicate 64 (0:UInt32))):=get_push;have e1:((h2.push (vobj t_64_uint32 (.ar 64 .u32) (Vector.replicate 64 (0:UInt32)))).push (vobj t_64_uint32 (.ar 64 .u32) (Vector.replicate 64 (0:UInt32))))[h2.size]? = some (vobj t_64_uint32 (.ar 64 .u32) (Vector.replicate 64 (0:UInt32))):=get_push_old get_push;have hb:(h2.push (vobj t_64_uint32 (.ar 64 .u32) (Vector.replicate 64 (0:UInt32)))).size=h2.size+1:=by simp
 show st _ _ _ ((h2.push (vobj t_64_uint32 (.ar 64 .u32) (Vector.replicate 64 (0:UInt32)))).push (vobj t_64_uint32 (.ar 64 .u32) (Vector.replicate 64 (0:UInt32)))) _;generalize (h2.push (vobj t_64_uint32 (.ar 64 .u32) (Vector.replicate 64 (0:UInt32)))).size=b2 at e2 hb ⊢;have hd2:=lt_of_some (k2.g e);generalize hb1:h2.size=b1 at *;generalize ((h2.push (vobj t_64_uint32 (.ar 64 .u32) (Vector.replicate 64 (0:UInt32)))).push (vobj t_64_uint32 (.ar 64 .u32) (Vector.replicate 64 (0:UInt32))))=h4 at k4 e1 e2 ⊢;have hne:b1≠b2:=by omega
 refine st_all (k := .ar 64 .u32) (x':=kk) e1 ?_;refine st_all (k := .ar 64 .u32) (x':=w) (get_set_ne e2 hne) ?_;have k6:Keep [b1,b2] h4 ((h4.setIfInBounds b1 (vobj t_64_uint32 (.ar 64 .u32) kk)).setIfInBounds b2 (vobj t_64_uint32 (.ar 64 .u32) w)):=(keep_set (b:=b1)).then (keep_set (b:=b2)) (by simp) (by simp);have c1:((h4.setIfInBounds b1 (vobj t_64_uint32 (.ar 64 .u32) kk)).setIfInBounds b2 (vobj t_64_uint32 (.ar 64 .u32) w))[b1]? = some (vobj t_64_uint32 (.ar 64 .u32) kk):=get_set_ne (get_set e1) hne.symm;have c2:((h4.setIfInBounds b1 (vobj t_64_uint32 (.ar 64 .u32) kk)).setIfInBounds b2 (vobj t_64_uint32 (.ar 64 .u32) w))[b2]? = some (vobj t_64_uint32 (.ar 64 .u32) w):=get_set (get_set_ne e2 hne);generalize ((h4.setIfInBounds b1 (vobj t_64_uint32 (.ar 64 .u32) kk)).setIfInBounds b2 (vobj t_64_uint32 (.ar 64 .u32) w))=h6 at k6 c1 c2 ⊢;have kk6:Keep [] h h6:=(k2.n k4).new k6 (by have:=k2.1;simp;omega);have e6:=kk6.g e;refine ⟨_,rfl,z,sm_fld e6 (by rw[dg_cells];show _=z.toList.flatMap Kd.u32.cells;rw[u32_cells];exact List.take_left' (by simp[Kd.size])) (by decide),?_⟩;refine new_go (st_all (k := .ar 8 .u32) (x':=z) get_push ?_);have k8:Keep [] h6 ((h6.push (vobj t_8_uint32 (.ar 8 .u32) (Vector.replicate 8 (0:UInt32)))).setIfInBounds h6.size (vobj t_8_uint32 (.ar 8 .u32) z)):=keep_push.new keep_set (by simp);have c3:((h6.push (vobj t_8_uint32 (.ar 8 .u32) (Vector.replicate 8 (0:UInt32)))).setIfInBounds h6.size (vobj t_8_uint32 (.ar 8 .u32) z))[h6.size]? = some (vobj t_8_uint32 (.ar 8 .u32) z):=get_set get_push;show lp _ _ _ ((h6.push (vobj t_8_uint32 (.ar 8 .u32) (Vector.replicate 8 (0:UInt32)))).setIfInBounds h6.size (vobj t_8_uint32 (.ar 8 .u32) z));have hb3:=kk6.1;have l1:=lt_of_some c1;have l2:=lt_of_some c2;have ld6:=lt_of_some e6;generalize hb3e:h6.size=b3 at *;generalize ((h6.push (vobj t_8_uint32 (.ar 8 .u32) (Vector.replicate 8 (0:UInt32)))).setIfInBounds b3 (vobj t_8_uint32 (.ar 8 .u32) z))=h8 at k8 c3 ⊢;have c1:=k8.g c1;have c2:=k8.g c2;have e8:=k8.g e6;refine lp_go (fun (y:Int×Unit) (h9:Heap)=>0≤y.1∧y.1≤64∧Keep [b3] h8 h9∧h9[b3]? = some (vobj t_8_uint32 (.ar 8 .u32) (rnds (sch l 64) z y.1.toNat))) (fun (y:Int×Unit) _=>64-y.1.toNat) ?_ ?_
 ·exact ⟨by simp,by simp,Keep.rfl,c3⟩
 ·rintro ⟨(i:Int),_⟩ h9 ⟨i0,i1,k9,hz⟩;dsimp only at *;obtain ⟨t,rfl⟩:∃t:Nat,i=t:=⟨i.toNat,by omega⟩;simp only [YAi] at hz;split
  ·rename_i hlt0
   have hlt:t<64:=by
    have:(t:Int)<64:=by simpa using hlt0
    omega
   have hw1:w64 ((t:Int)+1)=(t:Int)+1:=w64_id (by omega) (by omega);rw[hw1];have ht1:((t:Int)+1).toNat=t+1:=by omega
   have d1:=k9.get c1 (by simp;omega);have d2:=k9.get c2 (by simp;omega);have hr:rnds (sch l 64) z (t+1)=rnd (kk.toList.getD t 0) ((sch l 64).getD t 0) (rnds (sch l 64) z t):=rfl;generalize rnds (sch l 64) z t=v at hz hr;have a:∀j,(hj:j<8)→sm .u32 ⟨b3,0+j*1⟩ v[j] h9:=fun j hj=>ar_sm (k := .u32) (i:=j) hz hj;have s0:=a 0 (by decide);have s1:=a 1 (by decide);have s2:=a 2 (by decide);have s3:=a 3 (by decide);have s4:=a 4 (by decide);have s5:=a 5 (by decide);have s6:=a 6 (by decide);have s7:=a 7 (by decide)
   have sk:sm .u32 ⟨b1,0+((t:Nat):Int).toNat*1⟩ (kk.toList.getD t 0) h9:=by
    rw[←kk_at hlt,YAi];exact ar_sm (k := .u32) (i:=t) d1 hlt
   have sw:sm .u32 ⟨b2,0+((t:Nat):Int).toNat*1⟩ ((sch l 64).getD t 0) h9:=by
    rw[←w_at hw hlt,YAi];exact ar_sm (k := .u32) (i:=t) d2 hlt
   refine ⟨by decide,by decide,_,s4,by decide,by decide,_,s0,by decide,by decide,_,s7,by decide,by decide,_,s5,by decide,by decide,_,s6,by omega,by omega,_,sk,by omega,by omega,_,sw,?_⟩;refine rot7 6 (by decide) (by decide) ⟨sw,sk,s6,s5,s7,?_⟩;refine rot7 11 (by decide) (by decide) ⟨sw,sk,s6,s5,s7,?_⟩;refine rot7 25 (by decide) (by decide) ⟨sw,sk,s6,s5,s7,?_⟩;refine ⟨by decide,by decide,_,s1,by decide,by decide,_,s2,by decide,by decide,_,s1,by decide,by decide,_,s2,?_⟩;refine rot7 2 (by decide) (by decide) ⟨s2,s1,s2,s1,?_⟩;refine rot7 13 (by decide) (by decide) ⟨s2,s1,s2,s1,?_⟩;refine rot7 22 (by decide) (by decide) ⟨s2,s1,s2,s1,?_⟩;refine ⟨by decide,by decide,_,s0,by decide,by decide,_,s1,by decide,by decide,_,s2,by decide,by decide,_,s3,by decide,by decide,_,s4,by decide,by decide,_,s5,by decide,by decide,_,s6,?_⟩;refine st_all (k := .ar 8 .u32) (x':=rnd (kk.toList.getD t 0) ((sch l 64).getD t 0) v) hz ?_;refine ⟨⟨by omega,by omega,k9.then keep_set (fun x hx _=>hx) (fun x hx _=>hx),?_⟩,by omega⟩;rw[ht1,hr];exact get_set hz
  ·rename_i hge
   have hge:¬t<64:=fun hh=>hge (dT (show (t:Int)<64 by omega));have ht:t=64:=by omega
   subst ht;have k89:Keep [] h h9:=(kk6.n k8).new k9 (by simp;omega);have e9:=k89.g e;have hturn:turnV l z=Vector.zipWith (· + ·) z (rnds (sch l 64) z 64):=rfl;generalize rnds (sch l 64) z 64=v at hz hturn;have hdb:d≠b3:=by omega
   refine lp_go (fun (y:Int×Unit) (h17:Heap)=>0≤y.1∧y.1≤8∧Keep [d] h9 h17∧∃z':Vector UInt32 8,h17[d]? = some (vobj t_sha_Digest DGK (z',r))∧∀j:Nat,(hj:j<8)→z'[j]=if (j:Int)<y.1 then z[j]+v[j] else z[j]) (fun (y:Int×Unit) _=>8-y.1.toNat) ?_ ?_
   ·exact ⟨by simp,by simp,Keep.rfl,z,e9,fun j hj=>by rw[if_neg (by dsimp only;omega)]⟩
   ·rintro ⟨(i:Int),_⟩ h17 ⟨i0,i1,k17,z',hz',hall⟩;dsimp only at *;obtain ⟨t,rfl⟩:∃t:Nat,i=t:=⟨i.toNat,by omega⟩;split
    ·rename_i hlt0
     have hlt:t<8:=by
      have:(t:Int)<8:=by simpa using hlt0
      omega
     have hw1:w64 ((t:Int)+1)=(t:Int)+1:=w64_id (by omega) (by omega);rw[hw1];have hz17:=k17.get hz (by simpa using hdb.symm)
     have q1:sm .u32 ⟨d,0+0+((t:Nat):Int).toNat*1⟩ z[t] h17:=by
      have:=dg_sm (i:=t) hz' hlt;rw[hall t hlt,if_neg (by omega)] at this;rw[YAi];exact this
     have q2:sm .u32 ⟨b3,0+((t:Nat):Int).toNat*1⟩ v[t] h17:=by
      rw[YAi];exact ar_sm (k := .u32) (i:=t) hz17 hlt
     refine ⟨_,rfl,by omega,by omega,_,q1,by omega,by omega,_,q2,_,rfl,by omega,by omega,?_⟩;refine dg_st (i:=t) (y:=z[t]+v[t]) hz' hlt ?_;refine ⟨⟨by omega,by omega,k17.then keep_set (fun x hx _=>hx) (fun x hx _=>hx),_,get_set hz',fun j hj =>?_⟩,by omega⟩;rw[YAq hj];split
     ·rename_i e3;subst e3;rw[if_pos (by omega)]
     ·rename_i e3
      rw[hall j hj];by_cases h5:(j:Int)<t
      ·rw[if_pos h5,if_pos (by omega)]
      ·rw[if_neg h5,if_neg (by omega)]
    ·rename_i hge
     have hge:¬t<8:=fun hh=>hge (dT (show (t:Int)<8 by omega))
     have hz8:z'=turnV l z:=by
      rw[hturn];apply Vector.ext;intro j hj;rw[hall j hj,if_pos (by omega)];simp
     rw[hz8] at hz';refine hK h17 ?_ hz';exact k89.then k17 (by simp) (fun x hx _=>hx)
def blks:Nat→List UInt8→Vector UInt32 8→Vector UInt32 8
 | 0,_,z=>z
 | n+1,l,z=>blks n (l.drop 64) (turnV (l.take 64) z)
theorem blks_succ:∀(n:Nat) (l:List UInt8) (z:Vector UInt32 8),blks (n+1) l z=turnV ((l.drop (64*n)).take 64) (blks n l z)
 | 0,l,z=>by simp[blks]
 | n + 1, l, z => by
   rw[blks,blks_succ n,blks,YAE,show 64+64*n=64*(n+1) by omega]
theorem blks_add:∀(m n:Nat) (l:List UInt8) (z:Vector UInt32 8),blks (m+n) l z=blks n (l.drop (64*m)) (blks m l z)
 | 0,n,l,z=>by simp[blks]
 | m + 1, n, l, z => by
   rw[show m+1+n=(m+n)+1 by omega,blks,blks_add m n,blks,YAE,show 64+64*m=64*(m+1) by omega]
theorem blks_app:∀(n:Nat) (l r:List UInt8) (z:Vector UInt32 8),64*n≤l.length→blks n (l++r) z=blks n l z
 | 0,_,_,_,_=>rfl
 | n + 1, l, r, z, h => by
   rw[blks,blks,YAD (by omega),YAd (by omega)];exact blks_app n _ r _ (by simp;omega)
def absZ (z:Vector UInt32 8) (l:List UInt8):Vector UInt32 8:=blks (l.length/64) l z
def absR (l:List UInt8):List UInt8:=l.drop (64*(l.length/64))
theorem absR_len (l:List UInt8):(absR l).length=l.length%64:=by
 unfold absR;rw[YAR];omega
theorem abs_key (a b:List UInt8):(a++b).length/64=a.length/64+(absR a++b).length/64∧(a++b).drop (64*(a.length/64))=absR a++b:=by
 constructor
 ·rw[YAP,YAP,absR_len];omega
 ·unfold absR;rw[YAD (by omega)]
theorem absZ_app (z:Vector UInt32 8) (a b:List UInt8):absZ (absZ z a) (absR a++b)=absZ z (a++b):=by
 obtain ⟨h1,h2⟩:=abs_key a b;unfold absZ;rw[h1,blks_add,h2,blks_app _ a b _ (by omega)]
theorem absR_app (a b:List UInt8):absR (absR a++b)=absR (a++b):=by
 obtain ⟨h1,h2⟩:=abs_key a b;have e1:absR (a++b)=(a++b).drop (64*((a++b).length/64)):=rfl;have e2:absR (absR a++b)=(absR a++b).drop (64*((absR a++b).length/64)):=rfl;rw[e1,h1,Nat.mul_add,←YAE,h2,e2]
structure IsDg (h:Heap) (d:Nat) (z:Vector UInt32 8) (s:Slc) (bs:List UInt8) (n:Nat):Prop where
 o:h[d]? = some (vobj t_sha_Digest DGK (z,(s,((n:Int),()))))
 r:Row h t_uint8 .u8 s bs
 nd:d∉own s
theorem IsDg.keep {h h':Heap} {d:Nat} {z:Vector UInt32 8} {s:Slc} {bs:List UInt8} {n:Nat} {S:List Nat} (i:IsDg h d z s bs n) (k:Keep S h h') (h1:d∉S) (h2:∀b∈own s,b∉S):IsDg h' d z s bs n:=⟨k.get i.o h1,i.r.keep k h2,i.nd⟩
theorem dg_len {z:Vector UInt32 8}:(z.toList.map fun x=>Value.int .u32 x.toNat).length=8:=by simp
theorem dg_fld {h:Heap} {d T j:Nat} {z:Vector UInt32 8} {r:DGR.Ty} {k':Kd} {y:k'.Ty} (e:h[d]? = some (vobj T DGK (z,r))) (hy:((DGR.cells r).drop j).take k'.size=k'.cells y) (hj:j+k'.size≤2):sm k' ((Pl.mk d 0).fld (8+j)) y h:=by
 refine sm_fld e ?_ (by show 8+j+_≤10;omega);rw[dg_cells,List.drop_append,YAG (by rw[dg_len];omega),YAX,dg_len,YAj];exact hy
theorem dg_stf {h:Heap} {d T j:Nat} {z:Vector UInt32 8} {r r':DGR.Ty} {k':Kd} {y:k'.Ty} {K:Heap→Prop} (e:h[d]? = some (vobj T DGK (z,r))) (hy:wrL (DGR.cells r) j (k'.cells y)=DGR.cells r') (hj:j+k'.size≤2)
 (hK:K (h.setIfInBounds d (vobj T DGK (z,r')))):st k' ((Pl.mk d 0).fld (8+j)) y h K:=by
 refine st_fld (x':=(z,r')) e (by show 8+j+_≤10;omega) ?_ hK;rw[dg_cells,dg_cells];have hl:(DGR.cells r).length=2:=by rw[Kd.cells_length];rfl
 have:=wrL_mid (A:=z.toList.map fun x=>Value.int .u32 x.toNat) (C:=DGR.cells r) (B:=[]) (ys:=k'.cells y) (n:=j) (by rw[Kd.cells_length,hl];exact hj);rw[dg_len,YAB,YAB] at this;rw[this,hy]
theorem dg_z {h:Heap} {d T:Nat} {z:Vector UInt32 8} {r:DGR.Ty} (e:h[d]? = some (vobj T DGK (z,r))):sm (.ar 8 .u32) ((Pl.mk d 0).fld 0) z h:=
 sm_fld e (by rw[dg_cells];show _=z.toList.flatMap Kd.u32.cells;rw[u32_cells];exact List.take_left' (by simp[Kd.size])) (by decide)
def z0:Vector UInt32 8 := #v[1779033703,3144134277,1013904242,2773480762,1359893119,2600822924,528734635,1541459225]
theorem ZC4.s {h:Heap} {K:Option Pl→Heap→Prop} (hK:∀h',Keep [] h h'→IsDg h' h.size z0 ⟨none,0,0⟩ [] 0→K (some ⟨h.size,0⟩) h'):ZC4.C h K:=by
 apply ZC4.c;unfold ZC4.m;exact new_go (hK _ keep_push ⟨get_push,Row.nil,by simp[own]⟩)
theorem sha_Write.s {d n:Nat} {z:Vector UInt32 8} {s:Slc} {bs:List UInt8} {x:ByteArray} {h:Heap} {K:Heap→Prop} (i:IsDg h d z s bs n) (hb:bs.length+x.size≤1000000) (hn:n+x.size≤1000000000000)
 (hK:∀h' s',Keep (d::own s) h h'→IsDg h' d (absZ z (bs++x.data.toList)) s' (absR (bs++x.data.toList)) (n+x.size)→(∀b∈own s',b∈own s∨h.size≤b)→K h'):ZBH.C (some ⟨d,0⟩) x h K:=by
 apply ZBH.c;unfold ZBH.m;obtain ⟨o,r,nd⟩:=i;have hxl:x.data.toList.length=x.size:=rfl;rw[if_neg (by simp)];refine ⟨_,rfl,(n:Int),dg_fld (j:=1) o rfl (by decide),_,rfl,?_⟩;dsimp only;have hw:w64 ((n:Int)+(x.size:Int))=((n+x.size:Nat):Int):=w6 (by omega);rw[hw];refine dg_stf (j:=1) (r':=(s,(((n+x.size:Nat):Int),()))) o rfl (by decide) ?_;have o1:=get_set o (o':=vobj t_sha_Digest DGK (z,(s,(((n+x.size:Nat):Int),()))));have k1:Keep [d] h (h.setIfInBounds d (vobj t_sha_Digest DGK (z,(s,(((n+x.size:Nat):Int),()))))):=keep_set;generalize h.setIfInBounds d (vobj t_sha_Digest DGK (z,(s,(((n+x.size:Nat):Int),()))))=h1 at o1 k1 ⊢;have r1:=r.keep k1 (fun b hb hm=>by simp at hm;exact nd (hm ▸ hb));refine ⟨_,rfl,s,dg_fld (j:=0) o1 rfl (by decide),?_⟩;refine ap_row (k := .u8) (ys:=x.data.toList) r1 hxl.symm rfl (by omega) fun s2 h2 r2 k2 o2 =>?_;have own2:=own_of o2;have hlt1:=lt_of_some o1
 have nd2:d∉own s2:=fun hm=>by
  rcases own2 d hm with e | e
  ·exact nd e
  ·omega
 have o2':=k2.get o1 nd;have hs1:=k1.1;have k02:Keep (d::own s) h h2:=k1.then k2 (fun q hq _=>by simp at hq;simp[hq]) (fun q hq _=>by simp[hq]);refine ⟨_,rfl,?_⟩;refine dg_stf (j:=0) (r':=(s2,(((n+x.size:Nat):Int),()))) o2' rfl (by decide) ?_;have o3:=get_set o2' (o':=vobj t_sha_Digest DGK (z,(s2,(((n+x.size:Nat):Int),()))));have k3:Keep [d] h2 (h2.setIfInBounds d (vobj t_sha_Digest DGK (z,(s2,(((n+x.size:Nat):Int),()))))):=keep_set;generalize h2.setIfInBounds d (vobj t_sha_Digest DGK (z,(s2,(((n+x.size:Nat):Int),()))))=h3 at o3 k3 ⊢;have r3:=r2.keep k3 (fun b hb hm=>by simp at hm;exact nd2 (hm ▸ hb));have k03:Keep (d::own s) h h3:=k02.then k3 (fun q hq _=>hq) (fun q hq _=>by simp at hq;simp[hq]);generalize hL:bs++x.data.toList=L at r2 r3 hK ⊢;have hLl:L.length≤1000000:=by rw[←hL,YAP];omega
 have hlen:=r3.len;refine lp_go (fun (y:Int×Unit) (h4:Heap)=>∃j:Nat,y.1=((64*j:Nat):Int)∧j≤L.length/64∧Keep [d] h3 h4∧h4[d]? = some (vobj t_sha_Digest DGK (blks j L z,(s2,(((n+x.size:Nat):Int),()))))) (fun (y:Int×Unit) _=>L.length-y.1.toNat) ?_ ?_
 ·exact ⟨0,rfl,by omega,Keep.rfl,o3⟩
 ·rintro ⟨(at_:Int),_⟩ h4 ⟨j,e,hj,k4,o4⟩;dsimp only at *;subst e;have r4:=r3.keep k4 (fun b hb hm=>by simp at hm;exact nd2 (hm ▸ hb));refine ⟨_,rfl,s2,dg_fld (j:=0) o4 rfl (by decide),?_⟩;have hw2:w64 ((s2.len:Int)-((64*j:Nat):Int))=((L.length-64*j:Nat):Int):=w6 (by omega);dsimp only;rw[hw2];by_cases hc:64≤L.length-64*j
  ·rw[if_pos (dT (show ((L.length-64*j:Nat):Int)≥64 by omega))];refine ⟨_,rfl,s2,dg_fld (j:=0) o4 rfl (by decide),?_⟩;have hw3:w64 (((64*j:Nat):Int)+64)=((64*j+64:Nat):Int):=w6 (by omega);rw[hw3];rcases id r4 with ⟨_,e⟩ | ⟨b,zs,ha,e1,e2,e3⟩
   ·rw[e] at hc;simp at hc
   have hcap:=r4.cap;refine slx_go ha (by omega) (by omega) (YAk _) fun l hlb hl1 _ =>?_;have hl1:=hl1 (by omega);subst hl1;refine sha_turn.s o4 (row_sub r4 ha (lo:=64*j) (hi:=64*j+64) (by omega) (by omega)) (by simp;omega) fun h5 k5 o5 =>?_;refine ⟨⟨j+1,by omega,by omega,k4.then k5 (fun q hq _=>hq) (fun q hq _=>hq),?_⟩,by omega⟩;rw[blks_succ];have:(L.take (64*j+64)).drop (64*j)=(L.drop (64*j)).take 64:=by rw[YAH,YAj]
   rw[←this];exact o5
  ·rw[if_neg (fun hh=>by have hh:=of_decide_eq_true hh;omega)];have hjn:j=L.length/64:=by omega
   refine ⟨_,rfl,s2,dg_fld (j:=0) o4 rfl (by decide),?_⟩;have hrest:absR L=L.drop (64*j):=by unfold absR;rw[←hjn]
   have hz:absZ z L=blks j L z:=by unfold absZ;rw[←hjn]
   have fin:∀s3:Slc,s3.len=(L.drop (64*j)).length→Seg .u8 s3 (L.drop (64*j)) h4→slCells s3 (s3.len*1) h4 fun cs1=>
    ap 5 .u8 1 (⟨none,0,0⟩:Slc) s3.len cs1 h4 fun s4 h6=>nck (some (Pl.mk d 0)) fun l8=>st .sl (l8.fld 8) s4 h6 fun h7=>K h7:=by
    intro s3 hs3 g3;refine slCells_seg g3 (by rw[hs3];rfl) ?_;refine ap_row (T:=t_uint8) (k := .u8) (ys:=L.drop (64*j)) (xs:=[]) Row.nil hs3 rfl (by have hdl:(L.drop (64*j)).length=L.length-64*j:=YAR;rw[hs3,hdl];simp only [YAS];omega) fun s4 h6 r6 k6 o6 =>?_;have k6:Keep [] h4 h6:=by simpa[own] using k6
    have r6:Row h6 t_uint8 .u8 s4 (L.drop (64*j)):=by simpa using r6
    have hlt4:=lt_of_some o4
    have ho4:∀q∈own s4,h4.size≤q:=fun q hq=>by
     rcases own_of o6 q hq with e | e
     ·simp[own] at e
     ·omega
    have o6':=k6.g o4;refine ⟨_,rfl,?_⟩;refine dg_stf (j:=0) (r':=(s4,(((n+x.size:Nat):Int),()))) o6' rfl (by decide) ?_;have nd4:d∉own s4:=fun hm=>by have:=ho4 d hm;omega
    have k3s:=k03.1;have k4s:=k4.1;refine hK _ s4 ?_ ⟨?_,?_,nd4⟩ fun q hq => .inr (by have:=ho4 q hq;omega)
    ·refine (k03.then (U:=d::own s) k4 (fun q hq _=>hq) (fun q hq _=>by simp at hq;simp[hq])).then (k6.then (U:=[d]) keep_set (by simp) (fun q hq _=>hq)) (fun q hq _=>hq) (fun q hq _=>by simp at hq;simp[hq])
    ·rw[hz];exact get_set o6'
    ·rw[hrest];exact r6.keep keep_set (fun b hb hm=>by simp at hm;exact nd4 (hm ▸ hb))
   have hcap:=r4.cap;rcases id r4 with ⟨es,e⟩ | ⟨b,zs,ha,e1,e2,e3⟩
   ·subst e;rw[es];have hj0:j=0:=by simp at hj;exact hj
    subst hj0;refine ⟨by simp,by simp,by simp,by simp,?_⟩;refine fin _ (by simp) ⟨by simp,by simp,by simp⟩
   ·refine slx_go' ha (by omega) (by omega) (YAk _) fun l hlb hl1 hl2 =>?_;refine fin _ (by simp;omega) ?_;by_cases hcp:64*j<s2.cap
    ·have hl1:=hl1 hcp;subst hl1;have:=row_sub r4 ha (lo:=64*j) (hi:=s2.len) (c:=s2.cap-64*j) (by omega) (by omega);rw[YAe (by omega)] at this;exact this
    ·have hl2:=hl2 (by omega);subst hl2;have hnil:L.drop (64*j)=[]:=YAG (by omega);rw[hnil];refine ⟨by simp;omega,by simp,fun l hl =>?_⟩
     cases hl
     exact ⟨_,_,_,e3,Nat.zero_le _⟩
theorem shr64 {x:UInt64} {k:Nat} (hk:k≤64):(shU64 .shr x (k:Int)).toNat=x.toNat/2^k:=by
 unfold shU64;dsimp only;have h0:min ((k:Int)).toNat 64=k:=by rw[YAi];omega
 have h3:((x.toNat:Int)).fdiv (2^(min ((k:Int)).toNat 64))=((x.toNat/2^k:Nat):Int):=by
  rw[h0,Int.fdiv_eq_ediv_of_nonneg _ (by exact_mod_cast Nat.zero_le _)]
  norm_cast
 rw[h3];have h5:x.toNat/2^k≤x.toNat:=Nat.div_le_self _ _;generalize x.toNat/2^k=m at h5 ⊢;have h4:=wrap_u64n (m:Int);rw[IntKind.wrap_u64] at h4;have:=x.toNat_lt;omega
theorem u64_nat {n:Nat} (h:n<18446744073709551616):(u64I (n:Int)).toNat=n:=by
 have:=wrap_u64n (n:Int);rw[IntKind.wrap_u64] at this;omega
def padL (n:Nat):List UInt8:=128::(List.replicate ((119-n%64)%64) 0++be (n*8) 8)
def outB (z:Vector UInt32 8) (i:Nat):UInt8:=u8I ((shU32 .shr (z.toList.getD (i/4) 0) ((24-8*(i%4):Nat):Int)).toNat:Int)
def outV (z:Vector UInt32 8):Vector UInt8 32:=Vector.ofFn fun i=>outB z i
def shaL (l:List UInt8):Vector UInt8 32:=outV (absZ z0 (l++padL l.length))
theorem pad_step {x t q:Nat} (ht:t<8):(128::(List.replicate (q+(8-t)) 0++(be x 8).drop (8-t)):List UInt8).set (q+8-t) (UInt8.ofNat (x/256^t))=128::(List.replicate (q+(8-(t+1))) 0++(be x 8).drop (8-(t+1))):=by
 have e1:q+8-t=(q+(8-(t+1)))+1:=by omega
 have e2:q+(8-t)=(q+(8-(t+1)))+1:=by omega
 rw[e1,List.set_cons_succ,e2,List.replicate_succ',YAA,YAZ _ _ (by simp),List.length_replicate,Nat.sub_self]
 have hd:(be x 8).drop (8-(t+1))=UInt8.ofNat (x/256^t)::(be x 8).drop (8-t):=by
  have hl:8-(t+1)<(be x 8).length:=by rw[be_len];omega
  rw[YAF hl,show 8-(t+1)+1=8-t by omega]
  congr 1
  have:=be_get (x:=x) (n:=8) (i:=8-(t+1)) (by omega);rw[YAM hl] at this;have e3:8-1-(8-(t+1))=t:=by omega
  rw[e3] at this;exact Option.some.inj this
 rw[hd]
 rfl
theorem ZCb.s {d n:Nat} {z:Vector UInt32 8} {s:Slc} {bs:List UInt8} {h:Heap} {K:Kd.Ty (.ar 32 .u8)→Heap→Prop} (i:IsDg h d z s bs n) (hb:bs.length=n%64) (hn:n≤100000000000)
 (hK:∀h',Keep [] h h'→K (outV (absZ z (bs++padL n))) h'):ZB0.C (some ⟨d,0⟩) h K:=by
 apply ZB0.c;unfold ZB0.m;refine new_go ?_;have k1:Keep [] h (h.push (vobj t_api_Hash (.ar 32 .u8) (Vector.replicate 32 (0:UInt8)))):=keep_push;have e1:(h.push (vobj t_api_Hash (.ar 32 .u8) (Vector.replicate 32 (0:UInt8))))[h.size]? = some (vobj t_api_Hash (.ar 32 .u8) (Vector.replicate 32 (0:UInt8))):=get_push;rw[if_neg (by simp)];show nck _ fun l1=>ld (.ar 8 .u32) (l1.fld 0) (h.push (vobj t_api_Hash (.ar 32 .u8) (Vector.replicate 32 (0:UInt8)))) _;generalize hb1:h.size=b1 at e1 ⊢;generalize h.push (vobj t_api_Hash (.ar 32 .u8) (Vector.replicate 32 (0:UInt8)))=h1 at k1 e1 ⊢;have i1:=i.keep k1 (by simp) (by simp);refine ⟨_,rfl,z,dg_z i1.o,_,rfl,s,dg_fld (j:=0) i1.o rfl (by decide),?_⟩;have hsl:=i1.r.len;refine slCells_seg i1.r.seg (by rw[hsl];rfl) ?_;refine ap_row (T:=t_uint8) (k := .u8) (ys:=bs) (xs:=[]) Row.nil hsl rfl (by rw[hsl];simp only [YAS];omega) fun s3 h3 r3 k3 o3 =>?_;have k3:Keep [] h1 h3:=by simpa[own] using k3
 have r3:Row h3 t_uint8 .u8 s3 bs:=by simpa using r3
 have ho3:∀q∈own s3,h1.size≤q:=fun q hq=>by
  rcases own_of o3 q hq with e | e
  ·simp[own] at e
  ·omega
 have i3:=i1.keep k3 (by simp) (by simp);refine ⟨dg_z i3.o,?_⟩;refine new_go ?_;have k4:Keep [] h3 (h3.push (vobj t_sha_Digest DGK (z,(s3,(0,()))))):=keep_push;have hlt3:=r3.lt;have i4:IsDg (h3.push (vobj t_sha_Digest DGK (z,(s3,(0,()))))) h3.size z s3 bs 0:=⟨get_push,r3.keep k4 (by simp),fun hm=>by have:=hlt3 _ hm;omega⟩;show nck _ fun l3=>ld .sl (l3.fld 8) (h3.push (vobj t_sha_Digest DGK (z,(s3,(0,()))))) _;have hs13:=k3.1;generalize hd2:h3.size=d2 at i4 ⊢;generalize h3.push (vobj t_sha_Digest DGK (z,(s3,(0,()))))=h4 at k4 i4 ⊢;have kk4:Keep [] h1 h4:=k3.n k4;refine ⟨_,rfl,s3,dg_fld (j:=0) i4.o rfl (by decide),by decide,?_⟩;have hl3:=r3.len
 have hL:w64 ((w64 (1+((w64 (119-(s3.len:Int))).tmod 64)))+8)=(((119-n%64)%64+9:Nat):Int):=by
  have a1:w64 (119-(s3.len:Int))=((119-n%64:Nat):Int):=w6 (by omega);rw[a1];have a2:(((119-n%64:Nat):Int)).tmod 64=(((119-n%64)%64:Nat):Int):=by rw[YAh (by omega)];omega
  rw[a2,w64_id (n:=1+(((119-n%64)%64:Nat):Int)) (by omega) (by omega),w64_id (by omega) (by omega)];omega
 rw[hL];generalize hq:(119-n%64)%64=q;have hq64:q<64:=by omega
 refine ⟨by omega,by omega,by omega,by omega,?_⟩;simp only [YAi];have r5:Row (h4.push (robj t_uint8 .u8 (List.replicate (q+9) Kd.u8.zero))) t_uint8 .u8 ⟨some ⟨h4.size,0⟩,q+9,q+9⟩ (List.replicate (q+9) (0:UInt8)):=Row.of_new (zs:=[]) (b:=h4.size) (by rw[YAB];exact get_push) rfl (by simp) (by simp);have k5:Keep [] h4 (h4.push (robj t_uint8 .u8 (List.replicate (q+9) Kd.u8.zero))):=keep_push;show ix _ 0 1 fun l4=>st .u8 l4 128 (h4.push (robj t_uint8 .u8 (List.replicate (q+9) Kd.u8.zero))) _;generalize hs2:(⟨some ⟨h4.size,0⟩,q+9,q+9⟩:Slc)=s2 at r5 ⊢;have ho2:own s2=[h4.size]:=by rw[←hs2];rfl
 have hs2l:s2.len=q+9:=by rw[←hs2]
 generalize h4.push (robj t_uint8 .u8 (List.replicate (q+9) Kd.u8.zero))=h5 at k5 r5 ⊢;refine ix_st (k := .u8) r5 (by omega) (by simp;omega) rfl fun h6 k6 r6 =>?_;have k46:Keep [] h4 h6:=k5.new k6 (by rw[ho2];simp)
 have r6:Row h6 t_uint8 .u8 s2 (128::(List.replicate (q+8) 0++(be (n*8) 8).drop 8)):=by
  have e:(List.replicate (q+9) (0:UInt8)).set (0:Int).toNat 128=128::(List.replicate (q+8) 0++(be (n*8) 8).drop 8):=by
   rw[YAG (by rw[be_len];exact YAk _),YAB];rfl
  rw[←e];exact r6
 have hown4:∀q∈own s2,h4.size≤q:=by rw[ho2];simp
 refine lp_go (fun (y:Int×Unit) (h7:Heap)=>0≤y.1∧y.1≤8∧Keep [] h4 h7∧Row h7 t_uint8 .u8 s2 (128::(List.replicate (q+(8-y.1.toNat)) 0++(be (n*8) 8).drop (8-y.1.toNat)))) (fun (y:Int×Unit) _=>8-y.1.toNat) ?_ ?_
 ·exact ⟨by simp,by simp,k46,r6⟩
 ·rintro ⟨(i':Int),_⟩ h7 ⟨i0,i2,k7,r7⟩;dsimp only at *;obtain ⟨t,rfl⟩:∃t:Nat,i'=t:=⟨i'.toNat,by omega⟩;simp only [YAi] at r7;have k17:Keep [] h1 h7:=kk4.n k7;split
  ·rename_i hlt0
   have hlt:t<8:=by
    have:(t:Int)<8:=by simpa using hlt0
    omega
   have hw1:w64 ((t:Int)+1)=(t:Int)+1:=w64_id (by omega) (by omega);rw[hw1];have ht1:((t:Int)+1).toNat=t+1:=by omega
   have i7:=i1.keep k17 (by simp) (by simp);refine ⟨_,rfl,(n:Int),dg_fld (j:=1) i7.o rfl (by decide),?_⟩;have w8:w64 (8*(t:Int))=((8*t:Nat):Int):=w6 (by omega)
   have wl:w64 ((w64 (((q+9:Nat):Int)-1))-(t:Int))=((q+8-t:Nat):Int):=by
    rw[w64_id (n:=((q+9:Nat):Int)-1) (by omega) (by omega),w64_id (by omega) (by omega)];omega
   dsimp only;rw[w8,wl];refine ⟨by omega,?_⟩
   have hb:u8I ((shU64 .shr ((u64I (n:Int))*8) ((8*t:Nat):Int)).toNat:Int)=UInt8.ofNat (n*8/256^t):=by
    rw[shr64 (by omega),u8I_nat]
    have e1:((u64I (n:Int))*8).toNat=n*8:=by
     rw[UInt64.toNat_mul,u64_nat (by omega)];have:(8:UInt64).toNat=8:=by decide
     rw[this];omega
    rw[e1,Nat.pow_mul]
   rw[hb];refine ix_st (k := .u8) r7 (by omega) (by simp[be_len];omega) rfl fun h8 k8 r8 =>?_;refine ⟨⟨by omega,by omega,k7.new k8 hown4,?_⟩,by omega⟩;rw[ht1,←pad_step hlt];rw[YAi] at r8;exact r8
  ·rename_i hge
   have hge:¬t<8:=fun hh=>hge (dT (show (t:Int)<8 by omega));have ht:t=8:=by omega
   subst ht
   have hpad:(128::(List.replicate (q+(8-8)) 0++(be (n*8) 8).drop (8-8)):List UInt8)=padL n:=by
    unfold padL;rw[hq];rfl
   rw[hpad] at r7;refine b2s_seg r7.seg fun q1 =>?_;have i47:=i4.keep k7 (by simp) (by simp);have hpl:(padL n).length=q+9:=by unfold padL;rw[hq];simp[be_len]
   have hps:(⟨(padL n).toArray⟩:ByteArray).size=q+9:=by rw[ba_size,hpl]
   refine sha_Write.s i47 (by rw[hps];omega) (by rw[hps];omega) fun h9 s9 k9 i9 o9 =>?_;have hz9:(⟨(padL n).toArray⟩:ByteArray).data.toList=padL n:=rfl;rw[hz9] at i9;have hd2s:h1.size≤d2:=by omega
   have k19:Keep [] h1 h9:=k17.new k9 (fun x hx=>by
    rcases List.mem_cons.1 hx with e | e
    ·omega
    ·exact ho3 x e)
   refine new_go ?_;have k10:Keep [] h9 (h9.push (vobj t_api_Hash (.ar 32 .u8) (Vector.replicate 32 (0:UInt8)))):=keep_push;have e10:(h9.push (vobj t_api_Hash (.ar 32 .u8) (Vector.replicate 32 (0:UInt8))))[h9.size]? = some (vobj t_api_Hash (.ar 32 .u8) (Vector.replicate 32 (0:UInt8))):=get_push;have i10:=i9.o;have i10:=k10.g i10;show lp _ _ _ (h9.push (vobj t_api_Hash (.ar 32 .u8) (Vector.replicate 32 (0:UInt8))));have hd9:=lt_of_some i9.o;generalize hb3:h9.size=b3 at e10 ⊢;generalize h9.push (vobj t_api_Hash (.ar 32 .u8) (Vector.replicate 32 (0:UInt8)))=h10 at k10 e10 i10 ⊢;have k110:=k19.n k10;generalize hzz:absZ z (bs++padL n)=zz at i9 i10 hK;refine lp_go (fun (y:Int×Unit) (h11:Heap)=>0≤y.1∧y.1≤32∧Keep [b3] h10 h11∧∃v:Vector UInt8 32,h11[b3]? = some (vobj t_api_Hash (.ar 32 .u8) v)∧∀j:Nat,(hj:j<32)→v[j]=if (j:Int)<y.1 then outB zz j else 0) (fun (y:Int×Unit) _=>32-y.1.toNat) ?_ ?_
   ·exact ⟨by simp,by simp,Keep.rfl,_,e10,fun j hj=>by rw[if_neg (by dsimp only;omega)];simp⟩
   ·rintro ⟨(i':Int),_⟩ h11 ⟨i0',i1',k11,v,hv,hall⟩;dsimp only at *;obtain ⟨t,rfl⟩:∃t:Nat,i'=t:=⟨i'.toNat,by omega⟩;split
    ·rename_i hlt0
     have hlt:t<32:=by
      have:(t:Int)<32:=by simpa using hlt0
      omega
     have hw1:w64 ((t:Int)+1)=(t:Int)+1:=w64_id (by omega) (by omega);rw[hw1];have o11:=k11.get i10 (by simp;omega)
     have hdv:w64 ((t:Int).tdiv 4)=((t/4:Nat):Int):=by
      rw[show (t:Int).tdiv 4=((t/4:Nat):Int) by rw[YAg (by omega)];omega,w64_id (by omega) (by omega)]
     have hmd:w64 (24-(w64 (8*((t:Int).tmod 4))))=((24-8*(t%4):Nat):Int):=by
      rw[show (t:Int).tmod 4=((t%4:Nat):Int) by rw[YAh (by omega)];omega,w64_id (n:=8*((t%4:Nat):Int)) (by omega) (by omega),w64_id (by omega) (by omega)];omega
     rw[hdv,hmd]
     have q1:sm .u32 ⟨d2,0+0+((t/4:Nat):Int).toNat*1⟩ (zz.toList.getD (t/4) 0) h11:=by
      have:=dg_sm (i:=t/4) o11 (by omega);rw[YAi]
      have e:zz[t/4]'(by omega)=zz.toList.getD (t/4) 0:=by
       rw[YAL,YAM (by simp;omega)];simp
      rw[←e];exact this
     refine ⟨by decide,_,rfl,by omega,by omega,_,q1,by decide,by omega,by omega,by omega,?_⟩;rw[show (⟨b3,0+(t:Int).toNat*1⟩:Pl)=⟨b3,0+t*Kd.u8.size⟩ by rw[YAi];rfl];refine ar_st (k := .u8) (y:=outB zz t) hv hlt ?_;refine ⟨⟨by omega,by omega,k11.then keep_set (fun x hx _=>hx) (fun x hx _=>hx),_,get_set hv,fun j hj =>?_⟩,by omega⟩;rw[YAq hj];split
     ·rename_i e3;subst e3;rw[if_pos (by omega)]
     ·rename_i e3
      rw[hall j hj];by_cases h5:(j:Int)<t
      ·rw[if_pos h5,if_pos (by omega)]
      ·rw[if_neg h5,if_neg (by omega)]
    ·rename_i hge
     have hge:¬t<32:=fun hh=>hge (dT (show (t:Int)<32 by omega))
     have hvo:v=outV zz:=by
      apply Vector.ext;intro j hj;rw[hall j hj,if_pos (by omega)];unfold outV;simp
     have hl1:=lt_of_some e1;have k1s:=k19.1;have e11:=k11.get (k10.g (k19.g e1)) (by simp;omega);refine ⟨v,sm_all hv,?_⟩;refine st_all (k := .ar 32 .u8) (x':=v) e11 ?_;refine ⟨v,sm_all (k := .ar 32 .u8) (get_set e11),?_⟩;rw[hvo];refine hK _ ?_;have ka:Keep [] h1 h11:=k110.new k11 (by simp;omega);exact (k1.n ka).new keep_set (by simp;omega)
def pieceL (p:ByteArray):List UInt8:=be p.size 4++p.data.toList
def tagL (tag:Nat) (ps:List ByteArray):List UInt8:=UInt8.ofNat tag::ps.flatMap pieceL
theorem be4 {n:Nat}:[u8I (shrI (n:Int) ((24:UInt64).toNat:Int)),u8I (shrI (n:Int) ((16:UInt64).toNat:Int)),u8I (shrI (n:Int) ((8:UInt64).toNat:Int)),u8I (n:Int)]=be n 4:=by
 have e24:(((24:UInt64).toNat:Int))=((24:Nat):Int):=by decide
 have e16:(((16:UInt64).toNat:Int))=((16:Nat):Int):=by decide
 have e8:(((8:UInt64).toNat:Int))=((8:Nat):Int):=by decide
 rw[e24,e16,e8,shrI_nat _ _ (by decide),shrI_nat _ _ (by decide),shrI_nat _ _ (by decide),u8I_nat,u8I_nat,u8I_nat,u8I_nat];simp[be,List.range_succ]
theorem take_flatMap {α : Type} {f : α → List UInt8} {xs:List α} {t:Nat} (h:t<xs.length):(xs.take (t+1)).flatMap f=(xs.take t).flatMap f++f xs[t]:=by
 rw[YAf h,YAI];simp
theorem pieces_len:∀ps:List ByteArray,ps.length≤(ps.flatMap pieceL).length
 | []=>by simp
 | p :: r => by
   have ih:=pieces_len r;rw[YAJ,YAP,YAQ];have:(pieceL p).length=4+p.size:=by unfold pieceL;rw[YAP,be_len];rfl
   omega
theorem own_row {h:Heap} {T:Nat} {k:Kd} {xs:List k.Ty}:Row (h.push (robj T k xs)) T k ⟨some ⟨h.size,0⟩,xs.length,xs.length⟩ xs:=Row.of_new (zs:=[]) (b:=h.size) (by rw[YAB];exact get_push) rfl rfl rfl
theorem ZA2.s {yl:Value} {c0 c1 tag:Nat} {ps:List ByteArray} {sp:Slc} {h:Heap} {K:Heap→Prop} (I:List UInt8→Heap→Prop) (hlen:(tagL tag ps).length≤1000000)
 (h0:∀ {acc h},I acc h→h[c0]? = some (vobj t_int .i (tag:Int))∧h[c1]? = some (vobj t_s_string .sl sp)∧Seg .s sp ps h)
 (hst:∀ {acc h h'},I acc h→Keep [] h h'→I acc h')
 (hy:∀ {acc h} {p:ByteArray} {K:Bool→Heap→Prop},I acc h→acc.length+p.size≤1000000→(∀h',I (acc++p.data.toList) h'→K true h')→callV Tryz.prog yl [Kd.s.val p] .b h K)
 (hI:I [] h) (hK:∀h',I (tagL tag ps) h'→K h'):ZA2.C yl ⟨c0,0⟩ ⟨c1,0⟩ h K:=by
 apply ZA2.c;unfold ZA2.m;refine ⟨(tag:Int),sm_all (h0 hI).1,?_⟩;refine bs_go ?_;refine b2s_seg own_row.seg fun q1 =>?_;have htl:(tagL tag ps).length=1+(ps.flatMap pieceL).length:=by unfold tagL;rw[YAQ];omega
 refine hy (hst hI keep_push) (by show 0+1≤_;omega) fun h2 i2 =>?_
 have i2:I [UInt8.ofNat tag] h2:=by
  have:([]:List UInt8)++(⟨[u8I (tag:Int)].toArray⟩:ByteArray).data.toList=[UInt8.ofNat tag]:=by rw[←u8I_nat];rfl
  rw[←this];exact i2
 rw[if_neg (by simp)];refine ⟨sp,sm_all (h0 i2).2.1,?_⟩;have hsl:=(h0 i2).2.2.len;refine lp_go (fun (y:Int×Unit) (h3:Heap)=>∃t:Nat,y.1=t∧t≤ps.length∧I (UInt8.ofNat tag::(ps.take t).flatMap pieceL) h3) (fun (y:Int×Unit) _=>ps.length-y.1.toNat) ?_ ?_
 ·exact ⟨0,rfl,by omega,by simpa using i2⟩
 ·rintro ⟨(i:Int),_⟩ h3 ⟨t,e,ht,i3⟩;dsimp only at *;subst e;rw[hsl];split
  ·rename_i hlt0
   have hlt:t<ps.length:=by
    have:(t:Int)<ps.length:=by simpa using hlt0
    omega
   have hbnd:(ps.take (t+1)).flatMap pieceL=(ps.take t).flatMap pieceL++pieceL ps[t]:=take_flatMap hlt
   have hle:((ps.take (t+1)).flatMap pieceL).length≤(ps.flatMap pieceL).length:=by
    conv=>rhs;rw[←YAc (t+1) ps,YAI,YAP]
    omega
   rw[hbnd,YAP] at hle;have hpl:(pieceL ps[t]).length=4+ps[t].size:=by unfold pieceL;rw[YAP,be_len];rfl
   have hlen3:t<9223372036854775806:=by
    have hmin:=pieces_len ps;omega
   have hw:w64 ((t:Int)+1)=(t:Int)+1:=w64_id (by omega) (by omega);rw[hw];refine jn_go ?_;refine seg_ix (x:=ps[t]) (h0 i3).2.2 (by omega) (by simp[hlt]) rfl ?_;generalize hp:ps[t]=p at *;refine ⟨fun y h5=>y.1=false∧I (UInt8.ofNat tag::(ps.take (t+1)).flatMap pieceL) h5,?_,?_⟩
   ·refine ⟨by decide,by decide,by decide,?_⟩;rw[be4];refine bs_go ?_;refine b2s_seg own_row.seg fun q2 =>?_;refine hy (hst i3 keep_push) (by rw[be_size,YAQ];omega) fun h7 i7 =>?_;rw[if_neg (by simp)];refine hy i7 (by simp only [YAP,YAQ,be_len];omega) fun h8 i8 =>?_;refine ⟨rfl,?_⟩
    have:UInt8.ofNat tag::(ps.take t).flatMap pieceL++(⟨(be p.size 4).toArray⟩:ByteArray).data.toList++p.data.toList=UInt8.ofNat tag::(ps.take (t+1)).flatMap pieceL:=by
     rw[hbnd];unfold pieceL;simp only [YAC,YAA]
    rw[←this];exact i8
   ·rintro ⟨(b:Bool),_⟩ h5 ⟨e,i5⟩;dsimp only at e ⊢;subst e;rw[if_neg (by simp)];exact ⟨⟨t+1,by omega,by omega,i5⟩,by omega⟩
  ·rename_i hge
   have hge:¬t<ps.length:=fun hh=>hge (dT (show (t:Int)<(ps.length:Int) by omega));have ht:t=ps.length:=by omega
   subst ht;rw[YAe (YAk _)] at i3;exact hK h3 i3
theorem ZDG.s {tag:Nat} {ps:List ByteArray} {sp:Slc} {h:Heap} {K:Kd.Ty (.ar 32 .u8)→Int→Heap→Prop} (g:Seg .s sp ps h) (ht:tag≤4) (hs:lens ps≤65536) (hlen:(tagL tag ps).length≤1000000)
 (hK:∀h',Keep [] h h'→K (shaL (tagL tag ps)) 0 h'):ZDG.C tag sp h K:=by
 apply ZDG.c;unfold ZDG.m;refine new_go ?_;have k1:Keep [] h (h.push (vobj t_api_Hash (.ar 32 .u8) (Vector.replicate 32 (0:UInt8)))):=keep_push;have e1:(h.push (vobj t_api_Hash (.ar 32 .u8) (Vector.replicate 32 (0:UInt8))))[h.size]? = some (vobj t_api_Hash (.ar 32 .u8) (Vector.replicate 32 (0:UInt8))):=get_push;generalize h.push (vobj t_api_Hash (.ar 32 .u8) (Vector.replicate 32 (0:UInt8)))=h1 at k1 e1 ⊢;generalize hb1:h.size=b1 at e1 ⊢;refine jn_at (false,()) h1 ?_ ?_
 ·rw[if_neg (by simp)];exact ⟨by simp;omega,by first | rfl | trivial⟩
 ·rw[if_neg (by simp)];have g1:=g.keep (by decide) k1;have hsl:=g1.len
  have hpl:ps.length≤1000000:=by
   have hmin:=pieces_len ps;unfold tagL at hlen;rw[YAQ] at hlen;omega
  refine lp_go (fun (y:Int×Int×Int×Unit) (h4:Heap)=>h4=h1∧∃t:Nat,y.2.2.1=t∧t≤ps.length∧y.1=(lens (ps.take t):Nat)) (fun (y:Int×Int×Int×Unit) _=>ps.length-y.2.2.1.toNat) ?_ ?_
  ·exact ⟨rfl,0,rfl,by omega,by simp[lens]⟩
  ·rintro ⟨(al:Int),(er:Int),(i:Int),_⟩ h4 ⟨rfl,t,e,htl,hal⟩;dsimp only at *;subst e;subst hal;rw[hsl];split
   ·rename_i hlt0
    have hlt:t<ps.length:=by
     have:(t:Int)<ps.length:=by simpa using hlt0
     omega
    have hw:w64 ((t:Int)+1)=(t:Int)+1:=w64_id (by omega) (by omega);rw[hw];refine seg_ix (x:=ps[t]) g1 (by omega) (by simp[hlt]) rfl ?_;have h1:=lens_take hlt;have h2:=lens_mono (ps:=ps) (t+1);have hw2:w64 ((lens (ps.take t):Int)+(ps[t].size:Int))=((lens (ps.take (t+1)):Nat):Int):=w6 (by omega);rw[hw2,if_neg (by simp;omega)];exact ⟨⟨by first | rfl | trivial,t+1,by omega,by omega,by first | rfl | trivial⟩,by omega⟩
   ·rename_i hge
    have hge:¬t<ps.length:=fun hh=>hge (dT (show (t:Int)<(ps.length:Int) by omega));refine ZC4.s fun h6 k6 i6 =>?_;have hl1:=lt_of_some e1;have hs16:=k6.1;have l6:=lt_of_some i6.o;generalize hdd:h4.size=dd at i6 l6;refine new_go (st_all get_push ?_);have k8:Keep [] h6 ((h6.push (vobj t_p_sha_Digest .p none)).setIfInBounds h6.size (vobj t_p_sha_Digest .p (some ⟨dd,0⟩))):=keep_push.new keep_set (by simp);have e8:((h6.push (vobj t_p_sha_Digest .p none)).setIfInBounds h6.size (vobj t_p_sha_Digest .p (some ⟨dd,0⟩)))[h6.size]? = some (vobj t_p_sha_Digest .p (some ⟨dd,0⟩)):=get_set get_push;show ZC6.C _ _ ((h6.push (vobj t_p_sha_Digest .p none)).setIfInBounds h6.size (vobj t_p_sha_Digest .p (some ⟨dd,0⟩))) _;generalize hb2:h6.size=b2 at k8 e8 ⊢;generalize ((h6.push (vobj t_p_sha_Digest .p none)).setIfInBounds b2 (vobj t_p_sha_Digest .p (some ⟨dd,0⟩)))=h8 at k8 e8 ⊢;have i8:=i6.keep k8 (by simp) (by simp);apply ZC6.c;unfold ZC6.m;refine new_go (new_go ?_);have k9:Keep [] h8 ((h8.push (vobj t_int .i (tag:Int))).push (vobj t_s_string .sl sp)):=keep_push.trans keep_push;have c0e:((h8.push (vobj t_int .i (tag:Int))).push (vobj t_s_string .sl sp))[h8.size]? = some (vobj t_int .i (tag:Int)):=get_push_old get_push;have c1e:((h8.push (vobj t_int .i (tag:Int))).push (vobj t_s_string .sl sp))[(h8.push (vobj t_int .i (tag:Int))).size]? = some (vobj t_s_string .sl sp):=get_push;have l8:=lt_of_some e8;have l8d:=lt_of_some i8.o;generalize hc0:h8.size=c0 at c0e ⊢;generalize hc1:(h8.push (vobj t_int .i (tag:Int))).size=c1 at c1e ⊢;have hc1':c1=c0+1:=by rw[←hc1,←hc0];simp
    show rf _ _ _ _ ((h8.push (vobj t_int .i (tag:Int))).push (vobj t_s_string .sl sp)) _ _ _;generalize ((h8.push (vobj t_int .i (tag:Int))).push (vobj t_s_string .sl sp))=h9 at k9 c0e c1e ⊢;have i9:=i8.keep k9 (by simp) (by simp);have e9:=k9.g e8;have lc1:=lt_of_some c1e;have k09:Keep [] h4 h9:=(k6.n k8).n k9;refine ⟨⟨ZA2.n,ZA2.fn,_,_,rfl,by kernel_rfl,by kernel_rfl,by kernel_rfl⟩,fun o hyd =>?_⟩;generalize hl:h9.size+1=l at hyd ⊢;have kH:Keep [] h9 ((h9.push (.deferred (some []))).push (o .ready)):=keep_push.trans keep_push;have hsz9:(h9.push (.deferred (some []))).size=h9.size+1:=by simp
    have eL:((h9.push (.deferred (some []))).push (o .ready))[l]? = some (o .ready):=by rw[←hl,←hsz9];exact get_push
    have eN:((h9.push (.deferred (some []))).push (o .ready))[h9.size]? = some (.deferred (some [])):=get_push_old get_push;have szH:((h9.push (.deferred (some []))).push (o .ready)).size=h9.size+2:=by simp
    generalize ((h9.push (.deferred (some []))).push (o .ready))=H at kH eL eN szH ⊢;have iH:=i9.keep kH (by simp) (by simp);have hld:l≠dd:=by omega
    refine callV_go (aa:=[yv l,Kd.p.val (some ⟨c0,0⟩),Kd.p.val (some ⟨c1,0⟩)]) (by rfl) ?_;show ZA2.C (yv l) ⟨c0,0⟩ ⟨c1,0⟩ H _;refine ZA2.s (sp:=sp) (ps:=ps) (tag:=tag) (fun acc hh=>Keep [dd,l] H hh∧hh[l]? = some (o .ready)∧∃s,IsDg hh dd (absZ z0 acc) s (absR acc) acc.length∧∀q∈own s,H.size≤q) hlen ?_ ?_ ?_ ?_ ?_
    ·rintro acc hh ⟨kk,_,_⟩;refine ⟨kk.get (kH.g c0e) (by simp;omega),kk.get (kH.g c1e) (by simp;omega),?_⟩;exact g1.keep (by decide) ((k09.n kH).new kk (by simp;omega))
    ·rintro acc hh hh' ⟨kk,e,s,i,ho⟩ k';exact ⟨kk.then k' (fun q hq _=>hq) (by simp),k'.g e,s,i.keep k' (by simp) (by simp),ho⟩
    ·rintro acc hh p K' ⟨kk,e,s,i,ho⟩ hbound hK';have hle:=kk.1;refine hyd (p,()) hh K' e ?_;refine ⟨e,?_⟩;have ks:Keep [l] hh (hh.setIfInBounds l (o .busy)):=keep_set;have es:=get_set (o':=o .busy) e;generalize hh.setIfInBounds l (o .busy)=h11 at ks es ⊢;have hlo:l∉own s:=fun hm=>by have:=ho l hm;omega
     have i11:=i.keep ks (by simpa using hld.symm) (fun q hq hm=>by simp at hm;exact hlo (hm ▸ hq));refine ⟨some ⟨dd,0⟩,sm_all (ks.get (kk.get (kH.g e9) (by simp;omega)) (by simp;omega)),?_⟩;have har:=absR_len acc;refine sha_Write.s (x:=p) i11 (by omega) (by omega) fun h14 s14 k14 i14 o14 =>?_
     have hls:l∉dd::own s:=by
      intro hm;rcases List.mem_cons.1 hm with e | e
      ·exact hld e
      ·exact hlo e
     have e14:=k14.get es hls;refine ⟨e14,?_⟩;have hk11:=ks.1;refine hK' _ ⟨?_,get_set e14,s14,?_,fun q hq =>?_⟩
     ·refine ((kk.then (U:=[dd,l]) ks (fun q hq _=>hq) (fun q hq _=>by simp at hq;simp[hq])).then k14 (fun q hq _=>hq) (fun q hq hlt =>?_)).then keep_set (fun q hq _=>hq) (fun q hq _=>by simp at hq;simp[hq]);rcases List.mem_cons.1 hq with e | e
      ·simp[e]
      ·have:=ho q e;omega
     ·have:=i14.keep (keep_set (b:=l) (o:=o .ready)) (by simpa using hld.symm) (fun q hq hm=>by
       simp at hm;rcases o14 q hq with e | e
       ·exact hlo (hm ▸ e)
       ·have:=lt_of_some es;omega)
      rw[absZ_app,absR_app] at this;simpa using this
     ·rcases o14 q hq with e | e
      ·exact ho q e
      ·omega
    ·exact ⟨Keep.rfl,eL,_,iH,by simp[own]⟩
    ·rintro h' ⟨kk,e,s,i,ho⟩;refine .inl ⟨e,?_⟩;have ks:Keep [l] h' (h'.setIfInBounds l (o (.over false))):=keep_set;have hle:=kk.1;generalize h'.setIfInBounds l (o (.over false))=h12 at ks ⊢;have kk12:Keep [dd,l] H h12:=kk.then ks (fun q hq _=>hq) (fun q hq _=>by simp at hq;simp[hq]);have i12:=i.keep ks (by simpa using hld.symm) (fun q hq hm=>by simp at hm;have:=ho q hq;omega);refine ⟨some ⟨dd,0⟩,sm_all (kk12.get (kH.g e9) (by simp;omega)),?_⟩;refine ZCb.s i12 (absR_len _) (by omega) fun h15 k15 =>?_;rw[absZ_app];have k015:Keep [dd,l] H h15:=kk12.then k15 (fun q hq _=>hq) (by simp);have e15:=k015.get (kH.g (k09.g e1)) (by simp;omega);refine st_all (k := .ar 32 .u8) (x':=shaL (tagL tag ps)) e15 ?_;have hN15:=k015.get eN (by simp;omega);refine ⟨get_set_ne hN15 (by omega),?_⟩;have e16:=get_set_ne (c:=h9.size) (o' := .deferred none) (get_set e15 (o':=vobj t_api_Hash (.ar 32 .u8) (shaL (tagL tag ps)))) (by omega);refine ⟨shaL (tagL tag ps),sm_all (k := .ar 32 .u8) e16,?_⟩;refine hK _ ?_;have kA:Keep [] h4 h15:=(k09.n kH).new k015 (by simp;omega);exact ((k1.n kA).new (keep_set (b:=b1)) (by simp;omega)).new (keep_set (b:=h9.size)) (by have:=k09.1;simp;omega)
abbrev By:=List UInt8
abbrev HVec:=Vector UInt8 32
def Hl (l:By):By:=(shaL l).toList
theorem Hl_len {l:By}:(Hl l).length=32:=by simp[Hl]
def steps (hd:By) (i:Nat):Nat→Nat→By→By
 | _,0,x=>x
 | a,n+1,x=>steps hd i (a+1) n (Hl (hd++be i 2++[UInt8.ofNat a]++x))
theorem steps_add {hd:By} {i:Nat}:∀ {n a m:Nat} {x:By},steps hd i a (n+m) x=steps hd i (a+n) m (steps hd i a n x)
 | 0,a,m,x=>by simp[steps]
 | n + 1, a, m, x => by
   rw[show n+1+m=(n+m)+1 by omega];show steps hd i (a+1) (n+m) _=steps hd i (a+(n+1)) m (steps hd i (a+1) n _);rw[steps_add,show a+1+n=a+(n+1) by omega]
theorem steps_succ {hd:By} {i n a:Nat} {x:By}:steps hd i a (n+1) x=Hl (hd++be i 2++[UInt8.ofNat (a+n)]++steps hd i a n x):=by
 rw[steps_add];rfl
theorem steps_len {hd:By} {i:Nat}:∀ {n a:Nat} {x:By},x.length=32→(steps hd i a n x).length=32
 | 0,a,x,h=>h
 | n + 1, a, x, h => by
   rw[show steps hd i a (n+1) x=steps hd i (a+1) n (Hl (hd++be i 2++[UInt8.ofNat a]++x)) from Eq.refl _];exact steps_len (x:=Hl (hd++be i 2++[UInt8.ofNat a]++x)) Hl_len
def otsP (k:Int):Option (Nat×Nat×Nat):=if k=3 then some (4,67,4) else if k=4 then some (8,34,0) else none
def headO (id:By) (q:Nat):By:=id++be q 4
def privO (hd:By) (i:Nat) (seed:By):By:=Hl (hd++be i 2++[255]++seed)
theorem priv_len {hd seed:By} {i:Nat}:(privO hd i seed).length=32:=Hl_len
def digitAt (s:By) (i w:Nat):Nat:=(s.getD (i*w/8) 0).toNat/2^(8-w-i*w%8)%2^w
def digitsA (w:Nat) (q:By):List Nat:=(List.range (256/w)).map fun i=>digitAt q i w
def sumO (w:Nat) (ds:List Nat):Nat:=(ds.map fun d=>2^w-1-d).sum
def digitsO (w p ls:Nat) (q:By):List Nat:=digitsA w q++(List.range (p-256/w)).map fun i=>digitAt (be (sumO w (digitsA w q)*2^ls) 2) i w
def candO (w:Nat) (hd:By) (ds:List Nat) (y:By):By:=Hl (hd++[128,128]++(List.range ds.length).flatMap fun i=>steps hd i (ds.getD i 0) (2^w-1-ds.getD i 0) ((y.drop (32*i)).take 32))
def pubO (w p:Nat) (hd seed:By):By:=Hl (hd++[128,128]++(List.range p).flatMap fun i=>steps hd i 0 (2^w-1) (privO hd i seed))
def joinL (id:By) (r:Nat) (a b:By):By:=Hl (id++be r 4++[131,131]++a++b)
def tipL (id:By) (r:Nat) (y:By):By:=Hl (id++be r 4++[130,130]++y)
structure LKey where
 ots:Int
 height:Int
 id:By
 seed:By
 next:Int
 deriving DecidableEq
def otsMay (id:By) (q:Int):Bool:=decide (id.length=16)&&decide (0≤q)&&decide (q≤4294967295)
def lmsMay (k:LKey):Bool:=(otsP k.ots).isSome&&decide (1≤k.height)&&decide (k.height≤5)&&decide (k.id.length=16)&&decide (k.seed.length=32)&&decide (0≤k.next)&&decide (k.next≤2^k.height.toNat)
def nodeL (w p:Nat) (id seed:By) (m:Nat):Nat→Nat→By
 | 0,r=>tipL id r (pubO w p (headO id (r-m)) seed)
 | l+1,r=>joinL id r (nodeL w p id seed m l (2*r)) (nodeL w p id seed m l (2*r+1))
def kindOf (h:Nat):Nat:=if h=5 then 5 else 4026531840+h
def climbL (id:By):Nat→Nat→By→By→By
 | 0,_,x,_=>x
 | n+1,r,x,path=>climbL id n (r/2) (if r%2=0 then joinL id (r/2) x (path.take 32) else joinL id (r/2) (path.take 32) x) (path.drop 32)
abbrev RDK:Kd := .ag (.pr .s .un)
def bx (l:List UInt8):ByteArray:=⟨l.toArray⟩
theorem bx_size {l:List UInt8}:(bx l).size=l.length:=by simp[bx,ByteArray.size]
theorem bx_list {s:ByteArray}:bx s.data.toList=s:=by
 apply ByteArray.ext;simp[bx]
theorem bx_ext {l:List UInt8} {a b:Nat}:(bx l).extract a b=bx ((l.take b).drop a):=by
 apply ByteArray.ext;rw[ByteArray.data_extract];apply Array.toList_inj.1;simp[bx,YAH]
structure IsRd (h:Heap) (r:Nat) (l:List UInt8):Prop where
 o:h[r]? = some (vobj t_wire_Reader RDK (bx l,()))
theorem IsRd.keep {h h':Heap} {r:Nat} {l:List UInt8} {S:List Nat} (i:IsRd h r l) (k:Keep S h h') (hn:r∉S):IsRd h' r l:=⟨k.get i.o hn⟩
theorem IsRd.f {h:Heap} {r:Nat} {l:List UInt8} (i:IsRd h r l):sm .s ((Pl.mk r 0).fld 0) (bx l) h:=sm_fld i.o rfl (by decide)
theorem ZCg.s {s:ByteArray} {h:Heap} {K:Option Pl→Heap→Prop} (hK:∀h',Keep [] h h'→IsRd h' h.size s.data.toList→K (some ⟨h.size,0⟩) h'):ZCg.C s h K:=by
 apply ZCg.c;unfold ZCg.m;refine new_go (hK _ keep_push ⟨?_⟩);rw[bx_list];exact get_push
theorem ZAi.s {r n:Nat} {l:List UInt8} {h:Heap} {K:ByteArray→Bool→Heap→Prop} (i:IsRd h r l) (hbad:l.length<n→K ⟨#[]⟩ false h)
 (hok:n≤l.length→∀h',Keep [r] h h'→IsRd h' r (l.drop n)→K (bx (l.take n)) true h'):ZAi.C (some ⟨r,0⟩) n h K:=by
 apply ZAi.c;unfold ZAi.m;refine ⟨_,rfl,_,i.f,?_⟩;dsimp only;by_cases hn:l.length<n
 ·rw[if_pos (by rw[bx_size];simp;omega)];exact hbad hn
 ·rw[if_neg (by rw[bx_size];simp;omega)];refine ⟨_,rfl,_,i.f,by omega,by omega,by rw[bx_size];omega,?_⟩;refine ⟨_,rfl,_,i.f,by omega,by rw[bx_size];omega,by omega,?_⟩;refine ⟨_,rfl,?_⟩;rw[bx_size,bx_ext,bx_ext];simp only [YAi];refine st_fld (x':=(bx ((l.take l.length).drop n),())) i.o (by decide) rfl ?_;have e1:(l.take l.length).drop n=l.drop n:=by rw[YAe (YAk _)]
  have e2:(l.take n).drop (Int.toNat 0)=l.take n:=by simp
  rw[e1,e2];exact hok (by omega) _ keep_set ⟨get_set i.o⟩
def beVal (l:List UInt8):Nat:=l.foldl (fun a b=>a*256+b.toNat) 0
theorem beVal_snoc (l:List UInt8) (b:UInt8):beVal (l++[b])=beVal l*256+b.toNat:=by simp[beVal]
theorem fold_lt:∀(l:List UInt8) (a:Nat),l.foldl (fun a b=>a*256+b.toNat) a<(a+1)*256^l.length
 | [],a=>by simp
 | b :: r, a => by
   rw[List.foldl_cons,YAQ,Nat.pow_succ];have h1:=fold_lt r (a*256+b.toNat);have h2:=b.toNat_lt;have h3:(a*256+b.toNat+1)*256^r.length≤(a+1)*256*256^r.length:=Nat.mul_le_mul_right _ (by omega);have h4:(a+1)*256*256^r.length=(a+1)*(256^r.length*256):=by rw[Nat.mul_assoc,Nat.mul_comm 256]
   omega
theorem beVal_lt (l:List UInt8):beVal l<256^l.length:=by
 have:=fold_lt l 0;simpa[beVal] using this
theorem orI_bytes {v:Nat} {b:UInt8} (hv:v<281474976710656):orI (shlI (v:Int) (((8:UInt64).toNat:Int))) (b.toNat:Int)=((v*256+b.toNat:Nat):Int):=by
 have e8:(((8:UInt64).toNat:Int))=8:=by decide
 rw[e8]
 have h1:shlI (v:Int) 8=((v*256:Nat):Int):=by
  unfold shlI;rw[show min (8:Int).toNat 64=8 by decide,IntKind.wrap_i64];have:(v:Int)*2^8=((v*256:Nat):Int):=by omega
  rw[this];omega
 rw[h1];unfold orI;have hb:=b.toNat_lt
 have h2:(BitVec.ofInt 64 ((v*256:Nat):Int)|||BitVec.ofInt 64 (b.toNat:Int)).toNat=v*256+b.toNat:=by
  rw[BitVec.toNat_or,BitVec.toNat_ofInt,BitVec.toNat_ofInt]
  have h3:(((v*256:Nat):Int)%((2^64:Nat):Int)).toNat=v*256:=by
   rw[Int.emod_eq_of_lt (by omega) (by omega)];omega
  have h4:(((b.toNat:Nat):Int)%((2^64:Nat):Int)).toNat=b.toNat:=by
   rw[Int.emod_eq_of_lt (by omega) (by omega)];omega
  rw[h3,h4];have h5:=Nat.shiftLeft_add_eq_or_of_lt (a:=v) (b:=b.toNat) (i:=8) (by omega);rw[Nat.shiftLeft_eq] at h5;have:v*2^8=v*256:=by omega
  rw[this] at h5;exact h5.symm
 rw[h2,IntKind.wrap_i64];omega
theorem ixs_bx {l:List UInt8} {i:Nat} {K:UInt8→Prop} (h:i<l.length) (hK:K l[i]):ixs (bx l) (i:Int) K:=by
 have:(bx l).data.toList=l:=by simp[bx]
 refine ixs_go (by rw[this];exact h) ?_;simpa[bx] using hK
theorem beVal_take {l:List UInt8} {t:Nat} (h:t<l.length):beVal (l.take (t+1))=beVal (l.take t)*256+l[t].toNat:=by
 rw[YAf h,beVal_snoc]
theorem ZAE.s {r n:Nat} {l:List UInt8} {h:Heap} {K:Int→Int→Heap→Prop} (i:IsRd h r l) (hn:n=1∨n=2∨n=4) (hbad:l.length<n→K 0 300 h)
 (hok:n≤l.length→∀h',Keep [r] h h'→IsRd h' r (l.drop n)→K (beVal (l.take n)) 0 h'):ZAE.C (some ⟨r,0⟩) n h K:=by
 apply ZAE.c;unfold ZAE.m;simp only [reduceCtorEq,decide_false,YAm,if_false];refine ZB3.s ?_;have hs:((n:Int)=1∨(n:Int)=2∨(n:Int)=4):=by omega
 simp only [hs,decide_true,YAn,YAm,if_false];refine ZAi.s i (fun hlt =>?_) (fun hle h1 k1 i1 =>?_)
 ·rw[if_pos (by rfl)];exact hbad hlt
 ·rw[if_neg (by simp)];have htl:(l.take n).length=n:=by simp;omega
  refine lp_go (fun (y:Int×Int×Unit) (h2:Heap)=>h2=h1∧0≤y.2.1∧y.2.1≤n∧y.1=(beVal ((l.take n).take y.2.1.toNat):Nat)) (fun (y:Int×Int×Unit) _=>n-y.2.1.toNat) ?_ ?_
  ·exact ⟨rfl,by simp,by simp,by simp[beVal]⟩
  ·rintro ⟨(p:Int),(q:Int),_⟩ h2 ⟨rfl,q0,q1,hp⟩;dsimp only at *;rw[bx_size,htl];split
   ·rename_i hlt
    have hlt:q<n:=by simpa using hlt
    obtain ⟨t,rfl⟩:∃t:Nat,q=t:=⟨q.toNat,by omega⟩;have ht:t<(l.take n).length:=by omega
    have hw:w64 ((t:Int)+1)=(t:Int)+1:=w64_id (by omega) (by omega);rw[hw];refine ⟨by decide,ixs_bx ht ?_⟩;simp only [YAi] at hp;have hv:=beVal_lt ((l.take n).take t);have hv2:((l.take n).take t).length≤3:=by simp;omega
    have hv3:(256:Nat)^((l.take n).take t).length≤256^3:=Nat.pow_le_pow_right (by decide) hv2;have hv4:(256:Nat)^3=16777216:=by decide
    rw[hp,orI_bytes (by omega),←beVal_take ht];refine ⟨⟨by first | rfl | trivial,by omega,by omega,?_⟩,by omega⟩;rw[show ((t:Int)+1).toNat=t+1 by omega]
   ·rename_i hge
    have hge:¬q<n:=by simpa using hge
    obtain rfl:q=n:=by omega
    simp only [YAi] at hp;rw[YAe (by omega)] at hp;rw[hp];exact hok hle _ k1 i1
def msgD (w p ls:Nat) (hd c msg:By):List Nat:=digitsO w p ls (Hl (hd++[129,129]++c++msg))
def candOf (w p ls:Nat) (id:By) (q:Nat) (msg sig:By):By:=candO w (headO id q) (msgD w p ls (headO id q) ((sig.drop 4).take 32) msg) (sig.drop 36)
theorem nodeL_len {w p:Nat} {id seed:By} {m l r:Nat}:(nodeL w p id seed m l r).length=32:=by
 cases l with
 | zero=>exact Hl_len
 | succ l=>exact Hl_len
structure PKey where
 h:Nat
 kind:Nat
 w:Nat
 p:Nat
 ls:Nat
 id:By
 root:By
def heightOf (t:Nat):Option Nat:=[1,2,3,4,5].find? fun h=>decide (kindOf h=t)
def apartL (pub:By):Option PKey:=
 if pub.length=56 then
  match heightOf (beVal (pub.take 4)),otsP (beVal ((pub.drop 4).take 4):Int) with
  | some h,some x=>some ⟨h,beVal ((pub.drop 4).take 4),x.1,x.2.1,x.2.2,(pub.drop 8).take 16,pub.drop 24⟩
  | _,_=>none
 else none
def PKey.oSize (k:PKey):Nat:=36+32*k.p
def PKey.size (k:PKey):Nat:=8+k.oSize+32*k.h
def PKey.fits (k:PKey) (sig:By):Bool:=decide (sig.length=k.size)&&decide (beVal ((sig.drop 4).take 4)=k.kind)&&decide (beVal ((sig.drop (4+k.oSize)).take 4)=kindOf k.h)&&decide (beVal (sig.take 4)<2^k.h)
def PKey.top (k:PKey) (msg sig:By):By:=
 climbL k.id k.h (2^k.h+beVal (sig.take 4)) (tipL k.id (2^k.h+beVal (sig.take 4)) (candOf k.w k.p k.ls k.id (beVal (sig.take 4)) msg ((sig.drop 4).take k.oSize))) (sig.drop (8+k.oSize))
def lmsV (pub msg sig:By):Int:=
 match apartL pub with
 | none=>500
 | some k=>if k.fits sig=true∧msg.length≤65536 then (if k.top msg sig=k.root then 0 else 502) else 500
def hssV (pub msg sig:By):Int:=
 if pub.length=60∧pub.take 4=be 2 4∧sig.take 4=be 1 4∧4≤sig.length then
  match apartL (pub.drop 4) with
  | none=>600
  | some k =>
    if sig.length<4+k.size+56 then 600 else
    let low:=(sig.drop (4+k.size)).take 56
    let a:=lmsV (pub.drop 4) low ((sig.drop 4).take k.size)
    let b:=lmsV low msg (sig.drop (60+k.size))
    if a=500∨b=500 then 600 else if a=0∧b=0 then 0 else 602
 else 600
def LKey.w (k:LKey):Nat:=((otsP k.ots).getD (0,0,0)).1
def LKey.p (k:LKey):Nat:=((otsP k.ots).getD (0,0,0)).2.1
def LKey.ls (k:LKey):Nat:=((otsP k.ots).getD (0,0,0)).2.2
def LKey.m (k:LKey):Nat:=2^k.height.toNat
def lmsPub (k:LKey):By:=be (kindOf k.height.toNat) 4++be k.ots.toNat 4++k.id++nodeL k.w k.p k.id k.seed k.m k.height.toNat 1
theorem kind_val {h:Nat} (h1:1≤h) (h5:h≤5):heightOf (kindOf h)=some h∧kindOf h<4294967296:=by
 match h,h1,h5 with
 | 1,_,_=>decide
 | 2,_,_=>decide
 | 3,_,_=>decide
 | 4,_,_=>decide
 | 5,_,_=>decide
theorem otsP_cases {k:Int} {x:Nat×Nat×Nat} (h:otsP k=some x):(k=3∧x=(4,67,4))∨(k=4∧x=(8,34,0)):=by
 unfold otsP at h;split at h
 ·left;exact ⟨by assumption,(Option.some.inj h).symm⟩
 ·split at h
  ·right;exact ⟨by assumption,(Option.some.inj h).symm⟩
  ·simp at h
theorem flatR_len {f:Nat→By} {c:Nat} (hf:∀i,(f i).length=c):∀n,((List.range n).flatMap f).length=c*n:=by
 intro n
 induction n with
 | zero=>simp
 | succ n ih =>
   rw[List.range_succ,YAI,YAP,ih];simp[hf,Nat.mul_add]
theorem may_kind {k:LKey} (h:lmsMay k=true):∃x,otsP k.ots=some x∧k.w=x.1∧k.p=x.2.1∧k.ls=x.2.2∧256/k.w≤k.p∧1≤k.height.toNat∧k.height.toNat≤5∧k.id.length=16∧k.seed.length=32∧(k.ots.toNat:Int)=k.ots∧k.ots.toNat<5∧k.p≤67:=by
 unfold lmsMay at h;simp only [YAl,decide_eq_true_eq] at h;obtain ⟨⟨⟨⟨⟨⟨h1,h2⟩,h3⟩,h4⟩,h5⟩,h6⟩,h7⟩:=h;obtain ⟨x,hx⟩:=Option.isSome_iff_exists.1 h1;refine ⟨x,hx,by unfold LKey.w;rw[hx];rfl,by unfold LKey.p;rw[hx];rfl,by unfold LKey.ls;rw[hx];rfl,?_,by omega,by omega,h4,h5,?_⟩
 ·unfold LKey.w LKey.p;rw[hx];rcases otsP_cases hx with ⟨_,rfl⟩ | ⟨_,rfl⟩ <;> decide
 ·unfold LKey.p;rw[hx];rcases otsP_cases hx with ⟨e,rfl⟩ | ⟨e,rfl⟩ <;> rw[e] <;> decide
theorem lmsPub_len {k:LKey} (h:lmsMay k=true):(lmsPub k).length=56:=by
 obtain ⟨x,_,_,_,_,_,_,_,h4,_⟩:=may_kind h;unfold lmsPub;simp only [YAP,be_len,nodeL_len,h4]
structure HKey where
 ots:Int
 height:Int
 id:By
 seed:By
 next:Int
 deriving DecidableEq
def bxl (l:By):ByteArray:=⟨l.toArray⟩
def ofT (tag:Nat) (a b c:By):By:=Hl (tagL tag [bxl a,bxl b,bxl c])
def HKey.up (k:HKey):LKey:=⟨k.ots,k.height,k.id,k.seed,k.next/2^k.height.toNat⟩
def HKey.low (k:HKey):LKey:=⟨k.ots,k.height,(ofT 2 k.id k.seed (be (k.next/2^k.height.toNat).toNat 4)).take 16,ofT 3 k.id k.seed (be (k.next/2^k.height.toNat).toNat 4),k.next%2^k.height.toNat⟩
def hssMay (k:HKey):Bool:=lmsMay ⟨k.ots,k.height,k.id,k.seed,0⟩&&decide (0≤k.next)&&decide (k.next≤2^(2*k.height.toNat))
def hssPub (k:HKey):By:=be 2 4++lmsPub k.up
theorem hss_parts {k:HKey} (h:hssMay k=true) (hn:k.next<2^(2*k.height.toNat)):lmsMay k.up=true∧k.up.next<2^k.height.toNat∧lmsMay k.low=true∧k.low.next<2^k.height.toNat:=by
 unfold hssMay at h;simp only [YAl,decide_eq_true_eq] at h;obtain ⟨⟨h1,h2⟩,h3⟩:=h
 have hp:(0:Int)<2^k.height.toNat:=by
  have:=Nat.two_pow_pos k.height.toNat;have e:((2^k.height.toNat:Nat):Int)=2^k.height.toNat:=by push_cast;rfl
  omega
 have hsq:(2:Int)^(2*k.height.toNat)=2^k.height.toNat*2^k.height.toNat:=by rw[←Int.pow_add];congr 1;omega
 have hu0:0≤k.next/2^k.height.toNat:=Int.ediv_nonneg h2 (by omega)
 have hu1:k.next/2^k.height.toNat<2^k.height.toNat:=by
  rw[hsq] at hn;exact Int.ediv_lt_of_lt_mul hp hn
 have hl0:0≤k.next%2^k.height.toNat:=Int.emod_nonneg _ (by omega);have hl1:k.next%2^k.height.toNat<2^k.height.toNat:=Int.emod_lt_of_pos _ hp;unfold lmsMay at h1;simp only [YAl,decide_eq_true_eq] at h1;obtain ⟨⟨⟨⟨⟨⟨a1,a2⟩,a3⟩,a4⟩,a5⟩,_⟩,_⟩:=h1;refine ⟨?_,hu1,?_,hl1⟩
 ·unfold lmsMay HKey.up;simp only [YAl,decide_eq_true_eq];exact ⟨⟨⟨⟨⟨⟨a1,a2⟩,a3⟩,a4⟩,a5⟩,hu0⟩,by omega⟩
 ·unfold lmsMay HKey.low;simp only [YAl,decide_eq_true_eq];refine ⟨⟨⟨⟨⟨⟨a1,a2⟩,a3⟩,?_⟩,Hl_len⟩,hl0⟩,by omega⟩;rw[YAT];unfold ofT;rw[Hl_len];rfl
theorem ZCb.t {d:ByteArray} {h:Heap} {K:Kd.Ty (.ar 32 .u8)→Heap→Prop} (hd:d.size≤1000000) (hK:∀h',Keep [] h h'→K (shaL d.data.toList) h'):ZCb.C d h K:=by
 apply ZCb.c;unfold ZCb.m;refine new_gen fun b1 h1 hb1 k1 e1 hs1 =>?_;refine ZC4.s fun h2 k2 i2 =>?_;have z1:=k1.1;have z2:=k2.1;refine sha_Write.s i2 (by simp;omega) (by omega) fun h3 s3 k3 i3 o3 =>?_;simp only [YAX,Nat.zero_add] at i3;refine ZCb.s i3 (absR_len _) (by omega) fun h4 k4 =>?_;rw[absZ_app];have k13:Keep [] h1 h3:=k2.new k3 (by simp[own]);refine st_to ((k13.n k4).g e1) fun h5 k5 e5 hs5=>ld_go (sm_all e5) ?_;exact hK h5 ((k1.n (k13.n k4)).new k5 (by simp;omega))
theorem bx_dl {l:By}:(bx l).data.toList=l:=by simp[bx]
theorem sadd_b {a b:By} {K:ByteArray→Prop} (h:a.length+b.length≤9223372036854775807) (hK:K (bx (a++b))):sadd (bx a) (bx b) K:=by
 refine sadd_go (by rw[bx_size,bx_size];exact h) ?_;have:(⟨((bx a).data.toList++(bx b).data.toList).toArray⟩:ByteArray)=bx (a++b):=by simp[bx]
 rw[this];exact hK
def oSize (k:Int):Nat:=36+32*((otsP k).getD (0,0,0)).2.1
theorem rowT {T T' b:Nat} {k:Kd} {s:Slc} {L:List k.Ty} {h:Heap} {c:Array Value} {f:Nat×Nat} (r:Row h T k s L) (e:h[b]? = some (.cells c T' f)) (hT:T'≠T):b∉own s:=fun hm=>by
 rcases r with ⟨rfl,_⟩ | ⟨b',zs,ea,_,_,eh⟩
 ·simp[own] at hm
 ·have:b=b':=by unfold own at hm;rw[ea] at hm;simpa using hm
  subst this;rw[e] at eh;simp only [Option.some.injEq,robj,Obj.cells.injEq] at eh;exact hT eh.2.1
theorem vobjN {h:Heap} {b b' T T':Nat} {k k':Kd} {x:k.Ty} {y:k'.Ty} (e:h[b]? = some (vobj T k x)) (e':h[b']? = some (vobj T' k' y)) (hT:T≠T'):b≠b':=fun hb=>by
 subst hb;have:=Option.some.inj (e.symm.trans e');unfold vobj at this
 injection this with _ h2 _
 exact hT h2
theorem ZAd.s {r n:Nat} {l:List UInt8} {h:Heap} {K:ByteArray→Int→Heap→Prop} (i:IsRd h r l) (hn:n=1∨n=2∨n=4)
 (hbad:∀h',Keep [r] h h'→IsRd h' r l→(n≤l.length→(l.drop n).length<beVal (l.take n))→K ⟨#[]⟩ 300 h')
 (hok:n≤l.length→beVal (l.take n)≤(l.drop n).length→∀h',Keep [r] h h'→IsRd h' r ((l.drop n).drop (beVal (l.take n)))→K (bx ((l.drop n).take (beVal (l.take n)))) 0 h'):ZAd.C (some ⟨r,0⟩) n h K:=by
 apply ZAd.c;unfold ZAd.m;simp only [reduceCtorEq,decide_false,YAm,if_false];refine ⟨_,rfl,_,sm_all i.o,?_⟩;refine new_go (st_all get_push ?_);have kb:Keep [] h ((h.push (vobj t_wire_Reader RDK (⟨#[]⟩,()))).setIfInBounds h.size (vobj t_wire_Reader RDK (bx l,()))):=keep_push.new keep_set (by simp);have hb:((h.push (vobj t_wire_Reader RDK (⟨#[]⟩,()))).setIfInBounds h.size (vobj t_wire_Reader RDK (bx l,())))[h.size]? = some (vobj t_wire_Reader RDK (bx l,())):=get_set get_push;have hlt:=lt_of_some i.o;generalize hbs:h.size=b at hb hlt kb ⊢;generalize ((h.push (vobj t_wire_Reader RDK (⟨#[]⟩,()))).setIfInBounds b (vobj t_wire_Reader RDK (bx l,())))=h1 at kb hb ⊢;have i1:=i.keep kb (by simp);have hne:b≠r:=by omega
 refine ZAE.s i1 hn (fun hl =>?_) (fun hl h2 k2 i2 =>?_)
 ·rw[if_pos (by rfl)];exact hbad _ (kb.weak (by simp)) i1 (fun hh=>by omega)
 ·rw[if_neg (by simp)];have hb2:=k2.get hb (by simpa using hne);have kk2:Keep [r] h h2:=kb.then k2 (by simp) (fun x hx _=>hx);refine ZAi.s i2 (fun hc =>?_) (fun hc h3 k3 i3 =>?_)
  ·rw[if_pos (by rfl)];refine ⟨_,sm_all hb2,_,rfl,?_⟩;refine st_all i2.o ?_;exact hbad _ (kk2.then keep_set (fun x hx _=>hx) (fun x hx _=>hx)) ⟨get_set i2.o⟩ (fun _=>hc)
  ·rw[if_neg (by simp)];exact hok hl hc _ (kk2.then k3 (fun x hx _=>hx) (fun x hx _=>hx)) i3
theorem sls_by {l:By} {lo hi:Nat} {K:ByteArray→Prop} (h1:lo≤hi) (h2:hi≤l.length) (hK:K (bx ((l.take hi).drop lo))):sls (bx l) (lo:Int) (hi:Int) K:=by
 refine ⟨by omega,by omega,by rw[bx_size];omega,?_⟩;rw[YAi,YAi,bx_ext];exact hK
theorem u8c_len (l:By):(l.flatMap Kd.u8.cells).length=l.length:=by
 induction l with
 | nil=>rfl
 | cons a r ih=>rw[YAJ,YAP,ih];simp[Kd.cells];omega
theorem shlI_nat {a k:Nat} (hk:k≤63) (h:a*2^k<9223372036854775808):shlI (a:Int) (k:Int)=((a*2^k:Nat):Int):=by
 unfold shlI;rw[YAi,Nat.min_eq_left (by omega),IntKind.wrap_i64];have:(a:Int)*2^k=((a*2^k:Nat):Int):=by simp
 rw[this];generalize a*2^k=c at *;omega
def hashS (d:ByteArray):Vector UInt8 32:=shaL (tagL 0 [d])
theorem ZAR.s {d:ByteArray} {h:Heap} {K:Kd.Ty (.ar 32 .u8)→Bool→Heap→Prop} (hd:d.size≤65536) (hK:∀h',Keep [] h h'→K (hashS d) true h'):ZAR.C d h K:=by
 apply ZAR.c;unfold ZAR.m;refine new_gen fun b1 h1 hb1 k1 e1 hs1 =>?_;refine bs_gen fun bq h2 hbq k2 r2 hs2 =>?_
 have hl:(tagL 0 [d]).length≤1000000:=by
  unfold tagL pieceL;simp[be_len];omega
 refine ZDG.s (tag:=0) r2.seg (by decide) (by simp only [lens,YAU,List.map_nil,YAb,List.sum_nil];omega) hl fun h3 k3 =>?_;refine new_st_gen fun b2 h5 hb2 k5 e5 hs5 =>?_;refine ld_go (sm_all e5) ?_;have k15:Keep [] h1 h5:=(k2.n k3).n k5;refine st_to (k15.g e1) fun h6 k6 e6 hs6 =>?_;refine ld_go (sm_all e6) ?_;have:=k1.1;exact hK h6 ((k1.n k15).new k6 (by simp;omega))
theorem mfind_put {k e:Kd} (hk:k.pk=true) {i key:k.Ty} {v:e.Ty} {c:Nat}:∀ {ca:List (k.Ty×e.Ty×Nat)},mfind k e i (mput k e key v c ca)=if k.beq i key=true then some v else mfind k e i ca
 | [] => by
   unfold mput;simp only [mfind]
 | x :: r => by
   unfold mput;by_cases h1:k.beq key x.1=true
   ·rw[if_pos h1];have e1:=(beq_eq hk).1 h1;unfold mfind;dsimp only;by_cases h:k.beq i key=true
    ·rw[if_pos h,if_pos h]
    ·rw[if_neg h,if_neg h,if_neg (by rw[←e1];exact h)]
   ·rw[if_neg h1];have ih:=mfind_put hk (i:=i) (key:=key) (v:=v) (c:=c) (ca:=r);unfold mfind;by_cases h:k.beq i x.1=true
    ·have e2:=(beq_eq hk).1 h;have h3:¬k.beq i key=true:=fun q=>h1 ((beq_eq hk).2 (((beq_eq hk).1 q).symm.trans e2));rw[if_pos h,if_neg h3,if_pos h]
    ·rw[if_neg h,ih,if_neg h]
end Go.Proofs.Tryz
namespace Go.Proofs
open Go.Shelf
def Tryz.lays144_ren:Go.Shelf.Ren:=⟨fun | 144=>303 | 143=>327 | 219=>353 | 217=>366 | 225=>367 | 224=>368 | 267=>369 | 266=>372 | 314=>373 | n=>n,fun | 9=>9 | 4=>4 | 3=>3 | 5=>5 | 46=>66 | 146=>517 | 51=>331 | n=>n,fun | 1=>0 | n=>n⟩
theorem Tryz.lays144:Go.Proofs.Lays.n144 Tryz.prog Tryz.lays144_ren:={
 mixed:=by kernel_rfl
 f143:=Tryz.func327.trans (congrArg some (by kernel_rfl))
 f144:=Tryz.func303.trans (congrArg some (by kernel_rfl))
 f217:=Tryz.func366.trans (congrArg some (by kernel_rfl))
 f219:=Tryz.func353.trans (congrArg some (by kernel_rfl))
 f224:=Tryz.func368.trans (congrArg some (by kernel_rfl))
 f225:=Tryz.func367.trans (congrArg some (by kernel_rfl))
 f266:=Tryz.func372.trans (congrArg some (by kernel_rfl))
 f267:=Tryz.func369.trans (congrArg some (by kernel_rfl))
 f314:=Tryz.func373.trans (congrArg some (by kernel_rfl))
 t3:=Tryz.underlying3
 a3:=Tryz.isAgg3
 z3:=Tryz.sizeOf3
 v3:=Tryz.zeroValue3
 t4:=Tryz.underlying4
 a4:=Tryz.isAgg4
 z4:=Tryz.sizeOf4
 v4:=Tryz.zeroValue4
 t5:=Tryz.underlying5
 a5:=Tryz.isAgg5
 z5:=Tryz.sizeOf5
 v5:=Tryz.zeroValue5
 t9:=Tryz.underlying9
 a9:=Tryz.isAgg9
 z9:=Tryz.sizeOf9
 v9:=Tryz.zeroValue9
 t46:=Tryz.underlying66
 a46:=Tryz.isAgg66
 z46:=Tryz.sizeOf66
 v46:=Tryz.zeroValue66
 t51:=Tryz.underlying331
 a51:=Tryz.isAgg331
 z51:=Tryz.sizeOf331
 v51:=Tryz.zeroValue331
 t146:=Tryz.underlying517
 a146:=Tryz.isAgg517
 z146:=Tryz.sizeOf517
 v146:=Tryz.zeroValue517
 g1:=by kernel_rfl }
end Go.Proofs
namespace Go.Proofs.Tryz
open Go Go.Al
abbrev RF:Kd := .ag (.pr .i (.pr .i .un))
abbrev DE:Kd := .ag (.pr .s (.pr RF .un))
abbrev Ent:=DE.Ty
def nameMay (s:ByteArray):Bool:=decide (1≤s.size)&&decide (s.size≤24) && !decide (s=⟨#[46]⟩) && !decide (s=⟨#[46,46]⟩) && !s.data.toList.contains 47 && !s.data.toList.contains 0
def refMay (r:RF.Ty):Bool:=decide (0≤r.1)&&decide (r.1<24)&&decide (1≤r.2.1)&&decide (r.2.1≤32)
def entMay (e:Ent):Bool:=nameMay e.1&&refMay e.2.1
def rises:List Ent→Bool
 | a::b::r=>strLt a.1 b.1&&rises (b::r)
 | _=>true
def dirMay (es:List Ent):Bool:=decide (es.length≤32)&&rises es&&es.all entMay
theorem rises_iff:∀es:List Ent,rises es=true↔∀j,(h:j+1<es.length)→strLt (es[j]).1 (es[j+1]).1=true
 | []=>by simp[rises]
 | [a]=>by simp[rises]
 | a :: b :: r => by
   unfold rises;rw[YAl,rises_iff (b::r)]
   constructor
   ·rintro ⟨h1,h2⟩ j hj
    cases j with
    | zero=>exact h1
    | succ j=>exact h2 j (by simpa using hj)
   ·intro h;exact ⟨h 0 (by simp),fun j hj=>h (j+1) (by simpa using hj)⟩
theorem index_iff (c:UInt8):∀l:List UInt8,(-1≤Lib.indexByte l c)∧(0≤Lib.indexByte l c↔c∈l)
 | []=>by simp[Lib.indexByte]
 | b :: r => by
   have ih:=index_iff c r;unfold Lib.indexByte;by_cases hb:b=c
   ·simp[hb]
   ·have hb':¬(b == c)=true:=by simpa using hb
    have hc:¬c=b:=fun e=>hb e.symm;rw[if_neg hb'];by_cases hm:Lib.indexByte r c = -1
    ·have hnm:¬c∈r:=fun e=>by have:=ih.2.2 e;omega
     simp[hm,hc,hnm]
    ·have hm':¬(Lib.indexByte r c == -1)=true:=by simpa using hm
     rw[if_neg hm'];have hmem:c∈r:=ih.2.1 (by omega);have:=ih.2.2 hmem;refine ⟨by omega,⟨fun _=>by simp[hmem],fun _=>by omega⟩⟩
theorem ZBG.one {s:ByteArray} {c:UInt8} {h:Heap} {K:Bool→Heap→Prop} (hK:K (s.data.toList.contains c) h):ZBG.C s ⟨#[c]⟩ h K:=by
 refine callF_of (P:=Tryz.prog) (f:=ZBG.n) (fn:=ZBG.fn) (by kernel_rfl) (by kernel_rfl) (by kernel_rfl) fun w hw =>?_;subst hw;refine (Any.strings_Contains_one Tryz.lays144 s c w).mono ?_;rintro e w' ⟨rfl,rfl⟩;refine ⟨s.data.toList.contains c,?_,rfl,rfl,hK⟩
 have:decide (0≤Lib.indexByte s.data.toList c)=s.data.toList.contains c:=by
  have:=(index_iff c s.data.toList).2
  cases hc:s.data.toList.contains c with
  | true=>simp only [List.contains_iff_mem] at hc;simp[this,hc]
  | false =>
    have:¬c∈s.data.toList:=fun e=>by rw[List.contains_iff_mem.2 e] at hc;simp at hc
    simp_all
 rw[this]
 rfl
theorem ZCY.s {s:ByteArray} {h:Heap} {K:Bool→Heap→Prop} (hK:K (nameMay s) h):ZCY.C s h K:=by
 apply ZCY.c;unfold ZCY.m;refine jn_at (nameMay s,()) h ?_ hK;unfold nameMay;by_cases h1:(s.size:Int)≥1
 ·have h1':1≤s.size:=by omega
  by_cases h2:(s.size:Int)≤24
  ·have h2':s.size≤24:=by omega
   by_cases h3:s=⟨#[46]⟩
   ·subst h3;simp
   ·by_cases h4:s=⟨#[46,46]⟩
    ·subst h4;simp
    ·simp only [h1,h2,h3,h4,h1',h2',decide_true,decide_false,Bool.not_false,if_true,YAo];refine ZBG.one ?_
     cases h5:s.data.toList.contains 47 with
     | true=>simp
     | false =>
       simp only [Bool.not_false,if_true,YAo];refine ZBG.one ?_;simp
  ·have h2':¬s.size≤24:=by omega
   simp[h1,h2,h1',h2']
 ·have h1':¬1≤s.size:=by omega
  simp[h1,h1']
theorem ZB9.s {s:ByteArray} {h:Heap} {K:Bool→Heap→Prop} (hK:K (nameMay s) h):ZB9.C s h K:=by
 apply ZB9.c;unfold ZB9.m;by_cases hb:¬(1≤s.size∧s.size≤24∧s≠⟨#[46]⟩∧s≠⟨#[46,46]⟩)
 ·have hn:nameMay s=false:=by
   unfold nameMay;by_cases h1:1≤s.size
   ·by_cases h2:s.size≤24
    ·by_cases h3:s=⟨#[46]⟩
     ·simp[h3]
     ·by_cases h4:s=⟨#[46,46]⟩
      ·simp[h4]
      ·exact absurd ⟨h1,h2,h3,h4⟩ hb
    ·simp[h2]
   ·simp[h1]
  rw[hn] at hK;refine jn_at (true,()) h ?_ (by simpa using hK);by_cases h1:(s.size:Int)<1
  ·simp[h1]
  ·by_cases h2:(s.size:Int)>24
   ·simp[h1,h2]
   ·by_cases h3:s=⟨#[46]⟩
    ·subst h3;simp
    ·have h4:s=⟨#[46,46]⟩:=by
      by_cases h4:s=⟨#[46,46]⟩
      ·exact h4
      ·exact absurd ⟨by omega,by omega,h3,h4⟩ hb
     simp only [h1,h2,h3,decide_false,YAm,if_false,h4,decide_true];exact ⟨by first | rfl | trivial,by first | rfl | trivial⟩
 ·have hb:1≤s.size∧s.size≤24∧s≠⟨#[46]⟩∧s≠⟨#[46,46]⟩:=by
   by_cases h:1≤s.size∧s.size≤24∧s≠⟨#[46]⟩∧s≠⟨#[46,46]⟩
   ·exact h
   ·exact absurd h hb
  obtain ⟨h1,h2,h3,h4⟩:=hb
  have hn:nameMay s=(!s.data.toList.contains 47 && !s.data.toList.contains 0):=by
   unfold nameMay;simp[h1,h2,h3,h4]
  refine jn_at (false,()) h ?_ ?_
  ·have a:¬(s.size:Int)<1:=by omega
   have b:¬(s.size:Int)>24:=by omega
   simp[a,b,h3,h4]
  ·simp only [YAm,if_false];have hsz:s.size=s.data.toList.length:=rfl;refine lp_go (fun (y:Int×Unit) (h1:Heap)=>h1=h∧0≤y.1∧y.1≤s.size∧∀j,(hj:j<s.data.toList.length)→(j:Int)<y.1→s.data.toList[j]≠47∧s.data.toList[j]≠0) (fun (y:Int×Unit) _=>s.size-y.1.toNat) ?_ ?_
   ·exact ⟨rfl,by simp,by simp,fun j hj hlt=>by simp only at hlt;omega⟩
   ·rintro ⟨(i:Int),_⟩ h1 ⟨rfl,i0,i1,hall⟩;dsimp only at *;split
    ·rename_i hlt
     have hlt:i<s.size:=by simpa using hlt
     obtain ⟨t,rfl⟩:∃t:Nat,i=t:=⟨i.toNat,by omega⟩;have ht:t<s.data.toList.length:=by omega
     have hw:w64 ((t:Int)+1)=(t:Int)+1:=w64_id (by omega) (by omega);rw[hw];have e47:(((47:UInt8).toNat:Int))=47:=by decide
     have e0:(((0:UInt8).toNat:Int))=0:=by decide
     rw[e47,e0];by_cases hbad:s.data.toList[t]=47∨s.data.toList[t]=0
     ·have hf:nameMay s=false:=by
       rw[hn];rcases hbad with e | e
       ·have:s.data.toList.contains 47=true:=List.contains_iff_mem.2 (e ▸ YAN ht);rw[this];rfl
       ·have:s.data.toList.contains 0=true:=List.contains_iff_mem.2 (e ▸ YAN ht);rw[this];exact Bool.and_false _
      rw[hf] at hK;refine ⟨fun _ _=>False,?_,fun _ _ e=>e.elim⟩;refine jn_at (true,()) h1 ?_ ?_
      ·refine ixs_go ht ⟨by first | rfl | trivial,?_⟩;rcases hbad with e | e
       ·rw[e];rw[if_pos (by decide)];exact ⟨by first | rfl | trivial,by first | rfl | trivial⟩
       ·rw[e];rw[if_neg (by decide)];refine ixs_go ht ⟨by first | rfl | trivial,?_⟩;rw[e];exact ⟨by first | decide | trivial,by first | rfl | trivial⟩
      ·rw[if_pos rfl];exact hK
     ·have hbad:s.data.toList[t]≠47∧s.data.toList[t]≠0:=⟨fun e=>hbad (.inl e),fun e=>hbad (.inr e)⟩;refine jn_at () h1 ?_ ?_
      ·refine jn_at (false,()) h1 ?_ ?_
       ·refine ixs_go ht ⟨by first | rfl | trivial,?_⟩;have q1:¬((s.data.toList[t].toNat:Int)=47):=fun e=>hbad.1 (UInt8.toNat_inj.1 (by have:(47:UInt8).toNat=47:=(by decide);omega));have q2:¬((s.data.toList[t].toNat:Int)=0):=fun e=>hbad.2 (UInt8.toNat_inj.1 (by have:(0:UInt8).toNat=0:=(by decide);omega));simp only [q1,decide_false,YAm,if_false];refine ixs_go ht ⟨by first | rfl | trivial,?_⟩;refine ⟨?_,by first | rfl | trivial⟩;simp only [q2,decide_false]
       ·rw[if_neg (by simp)];exact ⟨by first | rfl | trivial,by first | rfl | trivial⟩
      ·refine ⟨⟨by first | rfl | trivial,by omega,by omega,fun j hj hlt =>?_⟩,by omega⟩;by_cases e:j=t
       ·subst e;exact hbad
       ·exact hall j hj (by omega)
    ·rename_i hge
     have hge:¬i<s.size:=by simpa using hge
     have ht:nameMay s=true:=by
      rw[hn]
      have c1:s.data.toList.contains 47=false:=by
       cases hc:s.data.toList.contains 47 with
       | false=>rfl
       | true =>
         obtain ⟨j,hj,e⟩:=YAO (List.contains_iff_mem.1 hc);exact absurd e (hall j hj (by omega)).1
      have c2:s.data.toList.contains 0=false:=by
       cases hc:s.data.toList.contains 0 with
       | false=>rfl
       | true =>
         obtain ⟨j,hj,e⟩:=YAO (List.contains_iff_mem.1 hc);exact absurd e (hall j hj (by omega)).2
      rw[c1,c2];rfl
     rw[ht] at hK;exact hK
theorem refMay_walk {r:RF.Ty} {h1:Heap} {b:Nat} {K:Bool→Heap→Prop} (hb:h1[b]? = some (vobj t_api_Ref RF r)) (hK:K (refMay r) h1):jn (.pr .b .un) (fun J1=>
 ld .i ((Pl.mk b 0).fld 0) h1 fun x1=>
 if (decide (x1≥0))=true then (ld .i ((Pl.mk b 0).fld 0) h1 fun x2=>
 if (decide (x2<24))=true then (ld .i ((Pl.mk b 0).fld 1) h1 fun x3=>
 if (decide (x3≥1))=true then (ld .i ((Pl.mk b 0).fld 1) h1 fun x4=>
 J1 (decide (x4≤32),()) h1)
 else J1 (false,()) h1)
 else J1 (false,()) h1)
 else J1 (false,()) h1) fun y1 h2=>K y1.1 h2:=by
 obtain ⟨(a:Int),(c:Int),_⟩:=r;have f0:sm .i ((Pl.mk b 0).fld 0) a h1:=sm_fld hb rfl (by decide);have f1:sm .i ((Pl.mk b 0).fld 1) c h1:=sm_fld hb rfl (by decide);refine jn_at (refMay (a,c,()),()) h1 ?_ hK;refine ⟨a,f0,?_⟩;unfold refMay;by_cases h1:a≥0
 ·have h1':0≤a:=h1;simp only [h1,h1',decide_true,if_true,YAo];refine ⟨a,f0,?_⟩;by_cases h2:a<24
  ·simp only [h2,decide_true,if_true,YAo];refine ⟨c,f1,?_⟩;by_cases h3:c≥1
   ·have h3':1≤c:=h3;simp only [h3,h3',decide_true,if_true,YAo];exact ⟨c,f1,by first | rfl | trivial,by first | rfl | trivial⟩
   ·have h3':¬1≤c:=h3;simp[h3,h3']
  ·simp[h2]
 ·have h1':¬0≤a:=h1;simp[h1,h1']
theorem ZCs.s {r:RF.Ty} {h:Heap} {K:Bool→Heap→Prop} (hK:∀h',Keep [] h h'→K (refMay r) h'):ZCs.C r h K:=by
 apply ZCs.c;unfold ZCs.m;exact new_go (refMay_walk get_push (hK _ keep_push))
theorem ZCM.s {r:RF.Ty} {h:Heap} {K:Bool→Heap→Prop} (hK:∀h',Keep [] h h'→K (refMay r) h'):ZCM.C r h K:=by
 apply ZCM.c;unfold ZCM.m;exact new_go (refMay_walk get_push (hK _ keep_push))
theorem ZBk.s {e:Ent} {h:Heap} {K:ByteArray→Heap→Prop} (hK:∀h',Keep [] h h'→K e.1 h'):ZBk.C e h K:=by
 apply ZBk.c;unfold ZBk.m;obtain ⟨(a:ByteArray),r,_⟩:=e;refine new_go ⟨a,sm_fld get_push rfl (by decide),hK _ keep_push⟩
theorem ZCy.s {e:Ent} {h:Heap} {K:Bool→Heap→Prop} (hK:∀h',Keep [] h h'→K (!entMay e) h'):ZCy.C e h K:=by
 apply ZCy.c;unfold ZCy.m;obtain ⟨(a:ByteArray),(r:RF.Ty),_⟩:=e;refine new_go ?_;have hb:(h.push (vobj t_api_Dirent DE (a,(r,()))))[h.size]? = some (vobj t_api_Dirent DE (a,(r,()))):=get_push;have f0:sm .s ((Pl.mk h.size 0).fld 0) a (h.push (vobj t_api_Dirent DE (a,(r,())))):=sm_fld hb rfl (by decide);have f1:sm RF ((Pl.mk h.size 0).fld 1) r (h.push (vobj t_api_Dirent DE (a,(r,())))):=sm_fld hb rfl (by decide);refine jn_is (!entMay (a,(r,())),()) (fun h'=>Keep [] h h') ?_ fun h' hk=>hK h' hk;refine ⟨a,f0,?_⟩;refine ZCY.s ?_;unfold entMay
 cases hn:nameMay a with
 | false =>
   rw[if_pos (by rfl)];exact ⟨by simp,keep_push⟩
 | true =>
   rw[if_neg (by simp)];refine ⟨r,f1,?_⟩;refine ZCs.s fun h' k' =>?_;exact ⟨by simp,keep_push.n k'⟩
theorem index_func {es:Slc} {xs:List Ent} {fv:Value} {p:Ent→Bool} {h:Heap} {K:Int→Heap→Prop} (g:Seg DE es xs h) (hl:xs.length≤4611686018427387904)
 (hf:∀(x:Ent) (h:Heap) (K:Bool→Heap→Prop),(∀h',Keep [] h h'→K (p x) h')→callV Tryz.prog fv [DE.val x] .b h K)
 (hK:∀i h',Keep [] h h'→(i≥0↔xs.any p=true)→K i h'):ZAH.C es fv h K:=by
 apply ZAH.c;unfold ZAH.m;refine lp_go (fun (y:Int×Unit) (h1:Heap)=>0≤y.1∧y.1≤xs.length∧Keep [] h h1∧∀j,(hj:j<xs.length)→(j:Int)<y.1→p xs[j]=false) (fun (y:Int×Unit) _=>xs.length-y.1.toNat) ?_ ?_
 ·exact ⟨by simp,by simp,Keep.rfl,fun j hj hlt=>by simp only at hlt;omega⟩
 ·rintro ⟨(i:Int),_⟩ h1 ⟨i0,i1,k1,hall⟩;dsimp only at *;have hlen:=g.len;split
  ·rename_i hlt
   have hlt:i<es.len:=by simpa using hlt
   obtain ⟨t,rfl⟩:∃t:Nat,i=t:=⟨i.toNat,by omega⟩;have ht:t<xs.length:=by omega
   have hw:w64 ((t:Int)+1)=(t:Int)+1:=w64_id (by omega) (by omega);rw[hw];refine seg_ix (x:=xs[t]) (g.keep (by decide) k1) i0 (by simp[ht]) rfl ?_;refine hf _ _ _ fun h2 k2 =>?_
   cases hp:p xs[t] with
   | true =>
     rw[if_pos rfl];refine hK _ _ (k1.n k2) ⟨fun _=>List.any_eq_true.2 ⟨_,YAN ht,hp⟩,fun _=>by omega⟩
   | false =>
     rw[if_neg (by simp)];refine ⟨⟨by omega,by omega,k1.n k2,fun j hj hlt =>?_⟩,by omega⟩;by_cases e:j=t
     ·subst e;exact hp
     ·exact hall j hj (by omega)
  ·rename_i hge
   have hge:¬i<es.len:=by simpa using hge
   refine hK _ _ k1 ⟨fun e=>absurd e (by decide),fun e =>?_⟩;obtain ⟨x,hx,hp⟩:=List.any_eq_true.1 e;obtain ⟨j,hj,e⟩:=YAO hx;rw[←e,hall j hj (by omega)] at hp;exact absurd hp (by simp)
theorem dir_Rising.s {es:Slc} {xs:List Ent} {h:Heap} {K:Bool→Heap→Prop} (g:Seg DE es xs h) (hl:xs.length≤4611686018427387904)
 (hK:∀h',Keep [] h h'→K (rises xs) h'):ZAX.C es (.func (.func ZBk.n) #[] #[]) h K:=by
 apply ZAX.c;unfold ZAX.m;refine lp_go (fun (y:Int×Unit) (h1:Heap)=>1≤y.1∧(y.1≤xs.length∨y.1=1)∧Keep [] h h1∧∀j,(hj:j+1<xs.length)→(j:Int)+1<y.1→strLt xs[j].1 xs[j+1].1=true) (fun (y:Int×Unit) _=>xs.length-y.1.toNat) ?_ ?_
 ·exact ⟨by simp,by simp,Keep.rfl,fun j hj hlt=>by simp only at hlt;omega⟩
 ·rintro ⟨(i:Int),_⟩ h1 ⟨i0,i1,k1,hall⟩;dsimp only at *;have hlen:=g.len;split
  ·rename_i hlt
   have hlt:i<es.len:=by simpa using hlt
   obtain ⟨t,rfl⟩:∃t:Nat,i=(t:Int)+1:=⟨(i-1).toNat,by omega⟩;have ht:t+1<xs.length:=by omega
   have hw:w64 ((t:Int)+1+1)=(t:Int)+1+1:=w64_id (by omega) (by omega);have hw1:w64 ((t:Int)+1-1)=(t:Int):=w6 (by omega);rw[hw,hw1];have g1:=g.keep (by decide) k1;obtain ⟨l,hl0,hx0⟩:=seg_at g1 (i:=t) (by omega);obtain ⟨l',hl1,hx1⟩:=seg_at g1 (i:=t+1) ht;refine ⟨l,hl0,by omega,by omega,xs[t],hx0,l',hl1,by omega,by omega,xs[t+1],?_,?_⟩
   ·rw[show ((t:Int)+1).toNat=t+1 by omega];exact hx1
   show ZBk.C xs[t] h1 _;refine ZBk.s fun h2 k2 =>?_;refine ⟨?_,?_⟩
   ·rw[show ((t:Int)+1).toNat=t+1 by omega];exact sm_keep' hx1 k2 (by simp)
   show ZBk.C xs[t+1] h2 _;refine ZBk.s fun h3 k3 =>?_;have k13:=(k1.n k2).n k3
   cases hs:strLt xs[t].1 xs[t+1].1 with
   | false =>
     rw[if_pos (by rfl)]
     have:rises xs=false:=by
      cases hr:rises xs with
      | false=>rfl
      | true=>rw[(rises_iff xs).1 hr t ht] at hs;simp at hs
     rw[←this];exact hK _ k13
   | true =>
     rw[if_neg (by simp)];refine ⟨⟨by omega,by omega,k13,fun j hj hlt =>?_⟩,by omega⟩;by_cases e:j=t
     ·subst e;exact hs
     ·exact hall j hj (by omega)
  ·rename_i hge
   have hge:¬i<es.len:=by simpa using hge
   have:rises xs=true:=(rises_iff xs).2 fun j hj=>hall j hj (by omega);rw[←this];exact hK _ k1
theorem ZC5.s {es:Slc} {xs:List Ent} {h:Heap} {K:Bool→Heap→Prop} (g:Seg DE es xs h) (hK:∀h',Keep [] h h'→K (dirMay xs) h'):ZC5.C es h K:=by
 apply ZC5.c;unfold ZC5.m;have hlen:=g.len;by_cases hl:xs.length≤32
 ·refine jn_is (!rises xs,()) (fun h'=>Keep [] h h') ?_ fun h1 k1 =>?_
  ·have:¬(es.len:Int)>32:=by omega
   simp only [this,decide_false,YAm,if_false];exact dir_Rising.s g (by omega) fun h' k'=>⟨rfl,k'⟩
  ·cases hr:rises xs with
   | false =>
     rw[if_pos (by rfl)];have:dirMay xs=false:=by simp[dirMay,hr]
     rw[←this];exact hK _ k1
   | true =>
     rw[if_neg (by simp)];apply ZAJ.c;unfold ZAJ.m;refine index_func (p:=fun e => !entMay e) (g.keep (by decide) k1) (by omega) (fun x h K hf=>ZCy.s hf) fun i h2 k2 hi =>?_
     have:(!decide (i≥0))=dirMay xs:=by
      unfold dirMay;simp only [hl,hr,decide_true,YAo]
      cases ha:xs.all entMay with
      | true =>
        have:¬xs.any (fun e => !entMay e)=true:=by
         intro e;obtain ⟨x,hx,hp⟩:=List.any_eq_true.1 e;rw[List.all_eq_true.1 ha x hx] at hp;simp at hp
        have:¬i≥0:=fun e=>this (hi.1 e);simp[this]
      | false =>
        have:xs.any (fun e => !entMay e)=true:=by
         rw[List.any_eq_true];obtain ⟨x,hx,hp⟩:=List.all_eq_false.1 ha;exact ⟨x,hx,by simpa using hp⟩
        have:=hi.2 this;simp[this]
     show K (!decide (i≥0)) h2;rw[this];exact hK _ (k1.n k2)
 ·refine jn_at (true,()) h ?_ ?_
  ·have:(es.len:Int)>32:=by omega
   simp[this]
  ·rw[if_pos rfl];have:dirMay xs=false:=by simp[dirMay,hl]
   rw[←this];exact hK _ Keep.rfl
theorem de_name {l:Pl} {x:Ent} {h:Heap} (e:sm DE l x h):sm .s (l.fld 0) x.1 h:=sm_sub e (by decide) rfl
theorem de_ref {l:Pl} {x:Ent} {h:Heap} (e:sm DE l x h):sm RF (l.fld 1) x.2.1 h:=sm_sub e (by decide) rfl
theorem de_own {l:Pl} {x:Ent} {h:Heap} (e:sm DE l x h):sm .i ((l.fld 1).fld 0) x.2.1.1 h:=sm_sub (de_ref e) (by decide) rfl
theorem de_num {l:Pl} {x:Ent} {h:Heap} (e:sm DE l x h):sm .i ((l.fld 1).fld 1) x.2.1.2.1 h:=sm_sub (de_ref e) (by decide) rfl
theorem ZBo.s {es:Slc} {xs:List Ent} {h:Heap} {K:Bool→Heap→Prop} (g:Seg DE es xs h) (hl:xs.length≤9223372036854775807) (hK:∀h',Keep [] h h'→K (dirMay xs) h'):ZBo.C es h K:=by
 apply ZBo.c;unfold ZBo.m;have hlen:=g.len;refine lp_go (fun (y:Int×Unit) (h1:Heap)=>0≤y.1∧y.1≤xs.length∧Keep [] h h1∧∀j,(hj:j<xs.length)→(j:Int)<y.1→entMay xs[j]=true∧∀i,(hi:i+1=j)→strLt (xs[i]'(by omega)).1 xs[j].1=true) (fun (y:Int×Unit) _=>xs.length-y.1.toNat) ?_ ?_
 ·exact ⟨by simp,by simp,Keep.rfl,fun j hj hlt=>by simp only at hlt;omega⟩
 ·rintro ⟨(i:Int),_⟩ h1 ⟨i0,i1,k1,hall⟩;dsimp only at *;split
  ·rename_i hlt
   have hlt:i<es.len:=by simpa using hlt
   obtain ⟨t,rfl⟩:∃t:Nat,i=t:=⟨i.toNat,by omega⟩;have ht:t<xs.length:=by omega
   have hw:w64 ((t:Int)+1)=(t:Int)+1:=w64_id (by omega) (by omega);rw[hw];have g1:=g.keep (by decide) k1;obtain ⟨l,hl0,hx0⟩:=seg_at g1 (i:=t) ht
   let bad:Bool := !entMay xs[t]||(decide (0<t) && !strLt (xs[t-1]'(by omega)).1 xs[t].1)
   have hbad:∀h',Keep [] h h'→bad=true→K false h':=by
    intro h' k' hb
    have:dirMay xs=false:=by
     cases hd:dirMay xs with
     | false=>rfl
     | true =>
       exfalso
       unfold dirMay at hd;simp only [YAl] at hd;obtain ⟨⟨_,h2⟩,h3⟩:=hd;have e1:=List.all_eq_true.1 h3 xs[t] (YAN ht);simp only [bad,e1,YAn,Bool.false_or,YAl,decide_eq_true_eq] at hb;have e2:=(rises_iff xs).1 h2 (t-1) (by omega);have e3:xs[t-1+1]'(by omega)=xs[t]:=by congr 1;omega
       rw[e3] at e2;rw[e2] at hb;simp at hb
    rw[←this];exact hK _ k'
   refine ⟨fun _ h6=>(0≤(t:Int)+1∧(t:Int)+1≤xs.length∧Keep [] h h6∧∀j,(hj:j<xs.length)→(j:Int)<(t:Int)+1→entMay xs[j]=true∧∀i,(hi:i+1=j)→strLt (xs[i]'(by omega)).1 xs[j].1=true)∧xs.length-((t:Int)+1).toNat<xs.length-(t:Int).toNat,?_,fun _ h6 hh=>hh⟩;refine jn_is (bad,()) (fun h'=>Keep [] h h') ?_ ?_
   ·refine ⟨l,hl0,i0,by omega,xs[t].1,de_name hx0,?_⟩;refine ZB9.s ?_
    cases hn:nameMay xs[t].1 with
    | false =>
      rw[if_pos (by rfl)];refine ⟨?_,k1⟩;simp[bad,entMay,hn]
    | true =>
      rw[if_neg (by simp)];refine ⟨l,hl0,i0,by omega,xs[t].2.1,de_ref hx0,?_⟩;refine ZCM.s fun h2 k2 =>?_;have k12:=k1.n k2
      cases hr:refMay xs[t].2.1 with
      | false =>
        rw[if_pos (by rfl)];refine ⟨?_,k12⟩;simp[bad,entMay,hr]
      | true =>
        rw[if_neg (by simp)];by_cases h0:t=0
        ·subst h0;rw[if_neg (by simp)];refine ⟨?_,k12⟩;simp[bad,entMay,hn,hr]
        ·have hpos:(t:Int)>0:=by omega
         rw[if_pos (by simpa using hpos)];have hw1:w64 ((t:Int)-1)=((t-1:Nat):Int):=w6 (by omega);rw[hw1];have g2:=g.keep (by decide) k12;obtain ⟨l2,hl2,hx2⟩:=seg_at g2 (i:=t-1) (by omega);obtain ⟨l3,hl3,hx3⟩:=seg_at g2 (i:=t) ht;refine ⟨l2,hl2,by omega,by omega,(xs[t-1]'(by omega)).1,de_name hx2,l3,hl3,by omega,by omega,xs[t].1,de_name hx3,?_,k12⟩;have:decide (0<t)=true:=by simp;omega
         simp[bad,entMay,hn,hr,this]
   ·intro h2 k2
    cases hb:bad with
    | true=>rw[if_pos rfl];exact hbad _ k2 hb
    | false =>
      rw[if_neg (by simp)];simp only [bad,Bool.or_eq_false_iff,Bool.not_eq_false'] at hb;refine ⟨⟨by omega,by omega,k2,fun j hj hlt =>?_⟩,by omega⟩;by_cases e:j=t
      ·subst e;refine ⟨hb.1,fun i hi =>?_⟩;have hd:decide (0<j)=true:=by simp;omega
       have h2:=hb.2;rw[hd,YAo,Bool.not_eq_false'] at h2;have:i=j-1:=by omega
       subst this;exact h2
      ·exact hall j hj (by omega)
  ·rename_i hge
   have hge:¬i<es.len:=by simpa using hge
   have e1:rises xs=true:=(rises_iff xs).2 fun j hj=>(hall (j+1) hj (by omega)).2 j rfl
   have e2:xs.all entMay=true:=List.all_eq_true.2 fun x hx=>by
    obtain ⟨j,hj,e⟩:=YAO hx;rw[←e];exact (hall j hj (by omega)).1
   have:decide ((es.len:Int)≤32)=dirMay xs:=by
    unfold dirMay;rw[e1,e2,hlen];simp only [Bool.and_true];by_cases h:xs.length≤32
    ·have:(xs.length:Int)≤32:=by omega
     simp[h,this]
    ·have:¬(xs.length:Int)≤32:=by omega
     simp[h,this]
   rw[this];exact hK _ k1
def eOwn (e:Ent):Int:=e.2.1.1
def eNum (e:Ent):Int:=e.2.1.2.1
def entBytes (e:Ent):List UInt8:=be e.1.size 1++e.1.data.toList++be (eOwn e).toNat 1++be (eNum e).toNat 1
def putBytes (es:List Ent):List UInt8:=be 68 1++be es.length 1++es.flatMap entBytes
theorem ent_ok {e:Ent} (h:entMay e=true):1≤e.1.size∧e.1.size≤24∧0≤eOwn e∧eOwn e<24∧1≤eNum e∧eNum e≤32:=by
 unfold entMay nameMay refMay at h;simp only [YAl,decide_eq_true_eq] at h;obtain ⟨⟨⟨⟨⟨⟨a,b⟩,_⟩,_⟩,_⟩,_⟩,⟨⟨c,d⟩,e⟩,f⟩:=h;exact ⟨a,b,c,d,e,f⟩
theorem dir_ok {xs:List Ent} (h:dirMay xs=true):xs.length≤32∧rises xs=true∧∀e∈xs,entMay e=true:=by
 unfold dirMay at h;simp only [YAl,decide_eq_true_eq] at h;exact ⟨h.1.1,h.1.2,List.all_eq_true.1 h.2⟩
theorem entBytes_len {e:Ent}:(entBytes e).length=e.1.size+3:=by
 have:e.1.data.toList.length=e.1.size:=rfl;simp only [entBytes,YAP,be_len,this];omega
theorem flat_le:∀ {xs:List Ent},(∀e∈xs,entMay e=true)→(xs.flatMap entBytes).length≤27*xs.length
 | [],_=>by simp
 | x :: r, h => by
   have h1:=flat_le (xs:=r) fun e he=>h e (by simp[he]);have h2:=ent_ok (h x (by simp));rw[YAJ,YAP,entBytes_len,YAQ];omega
theorem take_flat {xs:List Ent} {t:Nat} (h:t<xs.length):(xs.take (t+1)).flatMap entBytes=(xs.take t).flatMap entBytes++entBytes xs[t]:=by
 rw[YAf h];simp only [YAI,YAJ,YAK,YAB]
theorem ZDE.s {es:Slc} {xs:List Ent} {h:Heap} {K:ByteArray→Int→Heap→Prop} (g:Seg DE es xs h)
 (hK:∀h',Keep [] h h'→K (if dirMay xs=true then ⟨(putBytes xs).toArray⟩ else ⟨#[]⟩) (if dirMay xs=true then 0 else 1300) h'):ZDE.C es h K:=by
 apply ZDE.c;unfold ZDE.m;have hlen:=g.len;refine ZC5.s g fun h1 k1 =>?_
 cases hm:dirMay xs with
 | false =>
   rw[if_pos (by rfl)];rw[hm] at hK;exact hK _ k1
 | true =>
   rw[if_neg (by simp)];rw[hm] at hK;simp only [if_true] at hK;obtain ⟨hl,_,hall⟩:=dir_ok hm;refine ZB4.s fun h2 k2 w2 =>?_;have q2:NW h h2 h1.size ⟨none,0,0⟩ []:=⟨k1.n k2,w2,k1.1,by simp[own]⟩;generalize h1.size=w at q2 ⊢;refine q2.num (x:=68) (n:=1) (.inl rfl) (by decide) (by simp) fun h3 s3 q3 k3 _ =>?_;rw[hlen];refine q3.num (x:=xs.length) (n:=1) (.inl rfl) (by omega) (by simp[be_len]) fun h4 s4 q4 k4 _ =>?_;refine lp_go (fun (y:Int×Unit) (h5:Heap)=>0≤y.1∧y.1≤xs.length∧∃s5,NW h h5 w s5 (be 68 1++be xs.length 1++(xs.take y.1.toNat).flatMap entBytes)) (fun (y:Int×Unit) _=>xs.length-y.1.toNat) ?_ ?_
   ·exact ⟨by simp,by simp,s4,by simpa using q4⟩
   ·rintro ⟨(i:Int),_⟩ h5 ⟨i0,i1,s5,q5⟩;dsimp only at *;split
    ·rename_i hlt
     have hlt:i<xs.length:=by simpa using hlt
     obtain ⟨t,rfl⟩:∃t:Nat,i=t:=⟨i.toNat,by omega⟩;have ht:t<xs.length:=by omega
     have hw:w64 ((t:Int)+1)=(t:Int)+1:=w64_id (by omega) (by omega);rw[hw];simp only [YAi] at q5;have hent:=ent_ok (hall xs[t] (YAN ht));have hfl:=flat_le (xs:=xs.take t) (fun e he=>hall e (List.take_subset _ _ he));have hfl2:(xs.take t).length≤32:=by simp;omega
     have htl:((xs.take t).flatMap entBytes).length≤864:=by omega
     refine seg_ix (x:=xs[t]) (g.keep (by decide) q5.k) i0 (by simp[ht]) rfl ?_;refine new_go (st_all get_push ?_);have kb:Keep [] h5 ((h5.push (vobj t_api_Dirent DE (⟨#[]⟩,((0,(0,())),())))).setIfInBounds h5.size (vobj t_api_Dirent DE xs[t])):=keep_push.new keep_set (by simp);have hb:((h5.push (vobj t_api_Dirent DE (⟨#[]⟩,((0,(0,())),())))).setIfInBounds h5.size (vobj t_api_Dirent DE xs[t]))[h5.size]? = some (vobj t_api_Dirent DE xs[t]):=get_set get_push;have q6:=q5.keep kb (by simp);have nb:h5.size∉w::own s5:=q5.out (.inr ⟨by have:=lt_of_some q5.i.o;omega,fun hm=>by have:=q5.i.r.lt _ hm;omega⟩);have hbs:=lt_of_some hb;have hle5:=q5.k.1;generalize h5.size=b at *;generalize ((h5.push (vobj t_api_Dirent DE (⟨#[]⟩,((0,(0,())),())))).setIfInBounds b (vobj t_api_Dirent DE xs[t]))=h6 at *;have hfe:=take_flat ht;generalize xs[t]=e at *;refine ⟨e.1,de_name (sm_all hb),?_⟩;refine q6.text (n:=1) (.inl rfl) (by omega) (by simp only [YAP,be_len];omega) fun h7 s7 q7 k7 o7 =>?_;have hb7:=k7.get hb nb;have nb7:b∉w::own s7:=o7 b hbs nb;refine ⟨eOwn e,de_own (sm_all hb7),?_⟩;obtain ⟨o,ho⟩:∃o:Nat,eOwn e=o:=⟨(eOwn e).toNat,by omega⟩;rw[ho];refine q7.num (x:=o) (n:=1) (.inl rfl) (by omega) (by simp only [YAP,be_len];have:e.1.data.toList.length=e.1.size:=rfl;omega) fun h8 s8 q8 k8 _ =>?_;have hb8:=k8.get hb7 nb7;refine ⟨eNum e,de_num (sm_all hb8),?_⟩;obtain ⟨m,hm'⟩:∃m:Nat,eNum e=m:=⟨(eNum e).toNat,by omega⟩;rw[hm'];refine q8.num (x:=m) (n:=1) (.inl rfl) (by omega) (by simp only [YAP,be_len];have:e.1.data.toList.length=e.1.size:=rfl;omega) fun h9 s9 q9 k9 _ =>?_;refine ⟨⟨by omega,by omega,s9,?_⟩,by omega⟩;rw[show ((t:Int)+1).toNat=t+1 by omega,hfe]
     have he:entBytes e=be e.1.size 1++e.1.data.toList++be o 1++be m 1:=by
      unfold entBytes;rw[ho,hm'];simp only [YAi]
     rw[he];simpa only [YAA] using q9
    ·rename_i hge
     have hge:¬i<xs.length:=by simpa using hge
     obtain rfl:i=xs.length:=by omega
     simp only [YAi] at q5;rw[YAe (YAk _)] at q5;refine ZAV.s q5.i ?_;exact hK _ q5.k
theorem ZCV.s {es:Slc} {xs:List Ent} {h:Heap} {K:ByteArray→Int→Heap→Prop} (g:Seg DE es xs h) (hl0:xs.length≤9223372036854775807)
 (hK:∀h',Keep [] h h'→K (if dirMay xs=true then ⟨(putBytes xs).toArray⟩ else ⟨#[]⟩) (if dirMay xs=true then 0 else 1300) h'):ZCV.C es h K:=by
 apply ZCV.c;unfold ZCV.m;have hlen:=g.len;refine ZBo.s g hl0 fun h1 k1 =>?_
 cases hm:dirMay xs with
 | false =>
   rw[if_pos (by rfl)];rw[hm] at hK;exact hK _ k1
 | true =>
   rw[if_neg (by simp)];rw[hm] at hK;simp only [if_true] at hK;obtain ⟨hl,_,hall⟩:=dir_ok hm;rw[hlen];refine ZAB.s (x:=xs.length) (n:=1) (by decide) (by decide) (by omega) fun h2 k2 =>?_;refine sadd_go (by rw[be_size];decide) ?_
   have e68:((⟨#[68]⟩:ByteArray).data.toList++(⟨(be xs.length 1).toArray⟩:ByteArray).data.toList)=be 68 1++be xs.length 1:=by
    simp only [List.toList_toArray]
    rfl
   rw[e68];have kk2:=k1.n k2;refine lp_go (fun (y:ByteArray×Int×Unit) (h3:Heap)=>0≤y.2.1∧y.2.1≤xs.length∧Keep [] h h3∧y.1=⟨(be 68 1++be xs.length 1++(xs.take y.2.1.toNat).flatMap entBytes).toArray⟩) (fun (y:ByteArray×Int×Unit) _=>xs.length-y.2.1.toNat) ?_ ?_
   ·exact ⟨by simp,by simp,kk2,by simp⟩
   ·rintro ⟨(s:ByteArray),(i:Int),_⟩ h3 ⟨i0,i1,k3,hs⟩;dsimp only at *;split
    ·rename_i hlt
     have hlt:i<xs.length:=by simpa using hlt
     obtain ⟨t,rfl⟩:∃t:Nat,i=t:=⟨i.toNat,by omega⟩;have ht:t<xs.length:=by omega
     have hw:w64 ((t:Int)+1)=(t:Int)+1:=w64_id (by omega) (by omega);rw[hw];simp only [YAi] at hs;have hent:=ent_ok (hall xs[t] (YAN ht));have hfl:=flat_le (xs:=xs.take t) (fun e he=>hall e (List.take_subset _ _ he));have hfl2:(xs.take t).length≤32:=by simp;omega
     have htl:((xs.take t).flatMap entBytes).length≤864:=by omega
     have hfe:=take_flat ht;obtain ⟨l,hl1,hx⟩:=seg_at (g.keep (by decide) k3) ht;have hx:sm DE ⟨l.b,l.o+(t:Int).toNat*3⟩ xs[t] h3:=hx;have hes:(t:Int)<es.len:=by omega
     generalize xs[t]=e at *;obtain ⟨o,ho⟩:∃o:Nat,eOwn e=o:=⟨(eOwn e).toNat,by omega⟩;obtain ⟨m,hm'⟩:∃m:Nat,eNum e=m:=⟨(eNum e).toNat,by omega⟩;refine ⟨l,hl1,i0,hes,e.1,de_name hx,l,hl1,i0,hes,e.1,de_name hx,l,hl1,i0,hes,eOwn e,de_own hx,l,hl1,i0,hes,eNum e,de_num hx,?_⟩;refine ZAB.s (x:=e.1.size) (n:=1) (by decide) (by decide) (by omega) fun h4 k4 =>?_;have hx4:=sm_keep' hx k4 (by simp);have hel:e.1.data.toList.length=e.1.size:=rfl;refine ⟨de_num hx4,de_own hx4,de_name hx4,?_⟩;have hsl:s.data.toList=be 68 1++be xs.length 1++(xs.take t).flatMap entBytes:=by rw[hs]
     have hss:s.size=2+((xs.take t).flatMap entBytes).length:=by rw[hs,ba_size];simp only [YAP,be_len]
     refine sadd_go (by rw[be_size];omega) ?_;refine sadd_go (by rw[ba_size];simp only [YAP,hsl,be_len];omega) ?_;rw[ho];refine ZAB.s (x:=o) (n:=1) (by decide) (by decide) (by omega) fun h5 k5 =>?_;have hx5:=sm_keep' hx4 k5 (by simp);refine ⟨de_num hx5,de_name hx5,?_⟩;refine sadd_go (by rw[ba_size,be_size];simp only [YAP,hsl,be_len];omega) ?_;rw[hm'];refine ZAB.s (x:=m) (n:=1) (by decide) (by decide) (by omega) fun h6 k6 =>?_;have hx6:=sm_keep' hx5 k6 (by simp);refine ⟨de_name hx6,?_⟩;refine sadd_go (by rw[ba_size,be_size];simp only [YAP,hsl,be_len];omega) ?_;refine ⟨⟨by omega,by omega,((k3.n k4).n k5).n k6,?_⟩,by omega⟩;rw[show ((t:Int)+1).toNat=t+1 by omega,hfe]
     have he:entBytes e=be e.1.size 1++e.1.data.toList++be o 1++be m 1:=by
      unfold entBytes;rw[ho,hm'];simp only [YAi]
     rw[he,hsl];simp only [YAA]
    ·rename_i hge
     have hge:¬i<xs.length:=by simpa using hge
     obtain rfl:i=xs.length:=by omega
     simp only [YAi] at hs;rw[YAe (YAk _)] at hs;rw[hs];exact hK _ k3
theorem bl_trans:∀ {x y z:List UInt8},Op.bytesLess x y=true→Op.bytesLess y z=true→Op.bytesLess x z=true
 | x,y,[],_,h=>by cases y <;> simp[Op.bytesLess] at h
 | x,[],c::z,h,_=>by cases x <;> simp[Op.bytesLess] at h
 | [],b::y,c::z,_,_=>rfl
 | a :: x, b :: y, c :: z, h1, h2 => by
   unfold Op.bytesLess at *;simp only [Bool.or_eq_true,decide_eq_true_eq,YAl,beq_iff_eq] at *;rcases h1 with h1 | ⟨rfl,h1⟩ <;> rcases h2 with h2 | ⟨rfl,h2⟩
   ·exact .inl (UInt8.lt_trans h1 h2)
   ·exact .inl h1
   ·exact .inl h2
   ·exact .inr ⟨rfl,bl_trans h1 h2⟩
theorem lt_trans {x y z:ByteArray} (h1:strLt x y=true) (h2:strLt y z=true):strLt x z=true:=bl_trans h1 h2
theorem mid_eq {i j:Nat} (h:i+j<9223372036854775808):w64 ((shU64 .shr (u64I (w64 ((i:Int)+(j:Int)))) ((1:UInt64).toNat:Int)).toNat:Int)=(((i+j)/2:Nat):Int):=by
 have h1:w64 ((i:Int)+(j:Int))=((i+j:Nat):Int):=w6 (by omega)
 have h2:(u64I ((i+j:Nat):Int)).toNat=i+j:=by
  have:=wrap_u64n ((i+j:Nat):Int);rw[IntKind.wrap_u64] at this;omega
 have e1:(((1:UInt64).toNat:Int))=1:=by decide
 rw[h1,e1];unfold shU64;simp only [h2]
 have h3:(((i+j:Nat):Int)).fdiv (2^(min (1:Int).toNat 64))=(((i+j)/2:Nat):Int):=by
  rw[show min (1:Int).toNat 64=1 by decide,Int.fdiv_eq_ediv_of_nonneg _ (by decide)];omega
 rw[h3]
 have h4:(u64I (((i+j)/2:Nat):Int)).toNat=(i+j)/2:=by
  have:=wrap_u64n (((i+j)/2:Nat):Int);rw[IntKind.wrap_u64] at this;omega
 rw[h4,w64_id (by omega) (by omega)]
def rdN:List UInt8→Int×Int×List UInt8
 | []=>(0,300,[])
 | b::r=>((b.toNat:Int),0,r)
def rdT:List UInt8→List UInt8×Int×List UInt8
 | []=>([],300,[])
 | b::r=>if b.toNat≤r.length then (r.take b.toNat,0,r.drop b.toNat) else ([],300,b::r)
def rdE (l:List UInt8):Ent×Int×List UInt8:=
 ((bx (rdT l).1,(((rdN (rdT l).2.2).1,((rdN (rdN (rdT l).2.2).2.2).1,())),())),(rdN (rdN (rdT l).2.2).2.2).2.1,(rdN (rdN (rdT l).2.2).2.2).2.2)
def rdM:Nat→List UInt8→List Ent→List Ent×Int
 | 0,_,acc=>(acc,0)
 | n+1,l,acc=>if (rdE l).2.1≠0 then ([],(rdE l).2.1) else rdM n (rdE l).2.2 (acc++[(rdE l).1])
theorem be1 {x:Nat}:be x 1=[UInt8.ofNat x]:=by simp[be]
theorem rdN_be {x:Nat} {r:List UInt8} (h:x<256):rdN (be x 1++r)=((x:Int),0,r):=by
 rw[be1];simp only [List.singleton_append,rdN];have:(UInt8.ofNat x).toNat=x:=by rw[YAp];omega
 rw[this]
theorem rdE_ent {e:Ent} {r:List UInt8} (h:entMay e=true):rdE (entBytes e++r)=(e,0,r):=by
 have hb:=ent_ok h;have hl:e.1.data.toList.length=e.1.size:=rfl
 have ht:rdT (entBytes e++r)=(e.1.data.toList,0,be (eOwn e).toNat 1++(be (eNum e).toNat 1++r)):=by
  unfold entBytes;rw[be1 (x:=e.1.size)];simp only [YAA,List.singleton_append,YAC,YAX,rdT];have hs:(UInt8.ofNat e.1.size).toNat=e.1.size:=by rw[YAp];omega
  rw[hs,if_pos (by rw[YAP,hl];omega)];rw[List.take_left' hl,List.drop_left' hl]
 unfold rdE;rw[ht];simp only;rw[rdN_be (by omega)];simp only;rw[rdN_be (by omega)];simp only;rw[bx_list];obtain ⟨(n:ByteArray),⟨(a:Int),(c:Int),_⟩,_⟩:=e;simp only [eOwn,eNum] at hb ⊢;rw[Int.toNat_of_nonneg hb.2.2.1,Int.toNat_of_nonneg (by have:=hb.2.2.2.2.1;omega)]
theorem rdM_all:∀(es:List Ent) (r:List UInt8) (acc:List Ent),(∀e∈es,entMay e=true)→rdM es.length (es.flatMap entBytes++r) acc=(acc++es,0)
 | [],r,acc,_=>by simp[rdM]
 | e :: t, r, acc, h => by
   have he:=rdE_ent (r:=t.flatMap entBytes++r) (h e (by simp));rw[YAJ,YAA,YAQ];simp only [rdM];rw[he];simp only [ne_eq,not_true_eq_false,if_false];rw[rdM_all t r (acc++[e]) (fun x hx=>h x (by simp[hx]))];simp
theorem ZBi.s {e:Int} {h:Heap} {K:Int→Heap→Prop} (hK:K e h):ZBi.C e h K:=ZBi.c e hK
theorem put_inj {xs ys:List Ent} (hx:dirMay xs=true) (hy:dirMay ys=true) (e:bx (putBytes xs)=bx (putBytes ys)):xs=ys:=by
 obtain ⟨lx,_,ax⟩:=dir_ok hx;obtain ⟨ly,_,ay⟩:=dir_ok hy;have h1:=rdM_all xs [] [] ax;have h2:=rdM_all ys [] [] ay
 have e0:putBytes xs=putBytes ys:=by
  have:=congrArg (fun x:ByteArray=>x.data.toList) e;simpa[bx] using this
 have e1:rdN (putBytes xs)=rdN (putBytes ys):=by rw[e0]
 have p1:∀zs:List Ent,putBytes zs=be 68 1++(be zs.length 1++(zs.flatMap entBytes++[])):=fun zs=>by simp[putBytes]
 rw[p1 xs,p1 ys,rdN_be (by decide),rdN_be (by decide)] at e1;have e2:=congrArg (fun x=>rdN x.2.2) e1;simp only at e2;rw[rdN_be (by omega),rdN_be (by omega)] at e2;simp only [Prod.mk.injEq] at e2;have hl:xs.length=ys.length:=by omega
 rw[hl,e2.2.2,h2] at h1;simpa using (congrArg Prod.fst h1).symm
abbrev RRK:Kd := .ag (.pr .s (.pr .i .un))
structure IsRr (h:Heap) (r:Nat) (l:List UInt8):Prop where
 ex:∃(s:ByteArray) (a:Nat),h[r]? = some (vobj t_almonryref1_Reader RRK (s,((a:Int),())))∧l=s.data.toList.drop a∧a≤s.size∧s.size≤9223372036854775807
structure IsRq (h:Heap) (r:Nat) (s:ByteArray) (a:Nat):Prop where
 o:h[r]? = some (vobj t_almonryref1_Reader RRK (s,((a:Int),())))
 ha:a≤s.size
 hs:s.size≤9223372036854775807
theorem IsRq.rr {h:Heap} {r:Nat} {s:ByteArray} {a:Nat} (i:IsRq h r s a):IsRr h r (s.data.toList.drop a):=⟨s,a,i.o,rfl,i.ha,i.hs⟩
theorem IsRr.keep {h h':Heap} {r:Nat} {l:List UInt8} {S:List Nat} (i:IsRr h r l) (k:Keep S h h') (hn:r∉S):IsRr h' r l:=by
 obtain ⟨s,a,e,q⟩:=i.ex;exact ⟨s,a,k.get e hn,q⟩
theorem ZCt.s0 {n:Nat} {h:Heap} {K:Bool→Heap→Prop} (hn:n=1∨n=2∨n=4) (hK:K true h):ZCt.C 0 n h K:=by
 apply ZCt.c;unfold ZCt.m;refine jn_at (true,()) h ?_ hK;rcases hn with rfl | rfl | rfl
 ·rw[if_pos (by decide),if_pos (by decide)];exact ⟨by decide,by kernel_rfl,by first | rfl | trivial⟩
 ·rw[if_neg (by decide),if_pos (by decide),if_pos (by decide)];exact ⟨by decide,by kernel_rfl,by first | rfl | trivial⟩
 ·rw[if_neg (by decide),if_neg (by decide),if_pos (by decide),if_pos (by decide)];exact ⟨by decide,by kernel_rfl,by first | rfl | trivial⟩
theorem ref1_Left.s {r:Nat} {l:List UInt8} {h:Heap} {K:Int→Heap→Prop} (i:IsRr h r l) (hK:K (l.length:Int) h):ZAs.C (some ⟨r,0⟩) h K:=by
 apply ZAs.c;unfold ZAs.m;obtain ⟨s,a,e,rfl,ha,hs⟩:=i.ex;refine ⟨_,rfl,s,sm_fld e rfl (by decide),_,rfl,(a:Int),sm_fld e rfl (by decide),?_⟩;dsimp only;have hl:s.data.toList.length=s.size:=rfl
 have:w64 ((s.size:Int)-(a:Int))=((s.data.toList.drop a).length:Int):=by
  rw[w64_id (by omega) (by omega),YAR,hl];omega
 rw[this];exact hK
theorem ref1_Num.q {r n a:Nat} {s:ByteArray} {l:List UInt8} {h:Heap} {K:Int→Int→Heap→Prop} (i:IsRq h r s a) (el:l=s.data.toList.drop a) (hn:n=1∨n=2∨n=4) (hbad:l.length<n→K 0 300 h)
 (hok:n≤l.length→∀h',Keep [r] h h'→IsRq h' r s (a+n)→K (beVal (l.take n)) 0 h'):ZAI.C (some ⟨r,0⟩) n h K:=by
 apply ZAI.c;unfold ZAI.m;refine ZCt.s0 hn ?_;rw[if_neg (by simp)];refine ref1_Left.s i.rr ?_;rw[←el];by_cases hl:l.length<n
 ·rw[if_pos (by simp;omega)];exact hbad hl
 ·rw[if_neg (by simp;omega)];have hle:n≤l.length:=by omega
  have htl:(l.take n).length=n:=by simp;omega
  refine lp_go (fun (y:Int×Int×Unit) (h2:Heap)=>h2=h∧0≤y.2.1∧y.2.1≤n∧y.1=(beVal ((l.take n).take y.2.1.toNat):Nat)) (fun (y:Int×Int×Unit) _=>n-y.2.1.toNat) ?_ ?_
  ·exact ⟨rfl,by simp,by simp,by simp[beVal]⟩
  ·rintro ⟨(p:Int),(q:Int),_⟩ h2 ⟨rfl,q0,q1,hp⟩;dsimp only at *;obtain ⟨e,ha,hs⟩:=i;subst el;have hsl:s.data.toList.length=s.size:=rfl;have hdl:(s.data.toList.drop a).length=s.size-a:=by rw[YAR,hsl]
   split
   ·rename_i hlt
    have hlt:q<n:=by simpa using hlt
    obtain ⟨t,rfl⟩:∃t:Nat,q=t:=⟨q.toNat,by omega⟩;have ht:t<((s.data.toList.drop a).take n).length:=by omega
    have hw:w64 ((t:Int)+1)=(t:Int)+1:=w64_id (by omega) (by omega);rw[hw];refine ⟨by decide,_,rfl,s,sm_fld e rfl (by decide),_,rfl,(a:Int),sm_fld e rfl (by decide),?_⟩;dsimp only;have hwa:w64 ((a:Int)+(t:Int))=((a+t:Nat):Int):=w6 (by omega);rw[hwa];refine ixs_go (by omega) ?_;have hge:s.data.toList[a+t]'(by omega)=((s.data.toList.drop a).take n)[t]:=by rw[List.getElem_take,List.getElem_drop]
    rw[hge];simp only [YAi] at hp;have hv:=beVal_lt (((s.data.toList.drop a).take n).take t);have hv2:(((s.data.toList.drop a).take n).take t).length≤3:=by simp;omega
    have hv3:(256:Nat)^(((s.data.toList.drop a).take n).take t).length≤256^3:=Nat.pow_le_pow_right (by decide) hv2;have hv4:(256:Nat)^3=16777216:=by decide
    rw[hp,orI_bytes (by omega),←beVal_take ht];refine ⟨⟨by first | rfl | trivial,by omega,by omega,?_⟩,by omega⟩;rw[show ((t:Int)+1).toNat=t+1 by omega]
   ·rename_i hge
    have hge:¬q<n:=by simpa using hge
    obtain rfl:q=n:=by omega
    simp only [YAi] at hp;rw[YAe (by omega)] at hp;rw[hp];refine ⟨_,rfl,(a:Int),sm_fld e rfl (by decide),_,rfl,?_⟩;dsimp only;have hwa:w64 ((a:Int)+(n:Int))=((a+n:Nat):Int):=w6 (by omega);rw[hwa];refine st_fld (x':=(s,(((a+n:Nat):Int),()))) e (by decide) rfl ?_;exact hok hle _ keep_set ⟨get_set e,by omega,hs⟩
theorem ref1_Num.s {r n:Nat} {l:List UInt8} {h:Heap} {K:Int→Int→Heap→Prop} (i:IsRr h r l) (hn:n=1∨n=2∨n=4) (hbad:l.length<n→K 0 300 h)
 (hok:n≤l.length→∀h',Keep [r] h h'→IsRr h' r (l.drop n)→K (beVal (l.take n)) 0 h'):ZAI.C (some ⟨r,0⟩) n h K:=by
 obtain ⟨s,a,e,rfl,ha,hs⟩:=i.ex;refine ref1_Num.q ⟨e,ha,hs⟩ rfl hn hbad fun hl h' k' i'=>hok hl h' k' ?_;have:=i'.rr;rw[YAE];exact this
theorem ref1_Text.s {r n:Nat} {l:List UInt8} {h:Heap} {K:ByteArray→Int→Heap→Prop} (i:IsRr h r l) (hn:n=1∨n=2∨n=4)
 (hbad:∀h',Keep [r] h h'→IsRr h' r l→(n≤l.length→(l.drop n).length<beVal (l.take n))→K ⟨#[]⟩ 300 h')
 (hok:n≤l.length→beVal (l.take n)≤(l.drop n).length→∀h',Keep [r] h h'→IsRr h' r ((l.drop n).drop (beVal (l.take n)))→K (bx ((l.drop n).take (beVal (l.take n)))) 0 h'):ZA3.C (some ⟨r,0⟩) n h K:=by
 apply ZA3.c;unfold ZA3.m;obtain ⟨s,a,e0,rfl,ha0,hs⟩:=i.ex;refine ⟨_,rfl,(a:Int),sm_fld e0 rfl (by decide),?_⟩;refine ref1_Num.q ⟨e0,ha0,hs⟩ rfl hn (fun hl =>?_) (fun hl h2 k2 i2 =>?_)
 ·rw[if_pos (by rfl)];exact hbad _ Keep.rfl i (fun hh=>by omega)
 ·rw[if_neg (by simp)];refine ref1_Left.s i2.rr ?_;obtain ⟨e,ha,_⟩:=i2;have hsl:s.data.toList.length=s.size:=rfl;have hdl:(s.data.toList.drop (a+n)).length=s.size-(a+n):=by rw[YAR,hsl]
  generalize hv:beVal ((s.data.toList.drop a).take n)=v at *;rw[YAE] at hbad hok;by_cases hc:(s.data.toList.drop (a+n)).length<v
  ·rw[if_pos (by simp only [decide_eq_true_eq];omega)];refine ⟨_,rfl,?_⟩;refine st_fld (x':=(s,((a:Int),()))) e (by decide) rfl ?_;exact hbad _ (k2.then keep_set (fun x hx _=>hx) (fun x hx _=>hx)) ⟨s,a,get_set e,rfl,ha0,hs⟩ fun _=>hc
  ·rw[if_neg (by simp only [decide_eq_true_eq];omega)];have hc:v≤(s.data.toList.drop (a+n)).length:=by omega
   refine ⟨_,rfl,s,sm_fld e rfl (by decide),_,rfl,((a+n:Nat):Int),sm_fld e rfl (by decide),_,rfl,((a+n:Nat):Int),sm_fld e rfl (by decide),?_⟩;dsimp only;have hw:w64 (((a+n:Nat):Int)+(v:Int))=((a+n+v:Nat):Int):=w6 (by omega);rw[hw];refine ⟨by omega,by omega,by omega,_,rfl,((a+n:Nat):Int),sm_fld e rfl (by decide),_,rfl,?_⟩;dsimp only;rw[hw];refine st_fld (x':=(s,(((a+n+v:Nat):Int),()))) e (by decide) rfl ?_
   have hx:s.extract ((a+n:Nat):Int).toNat ((a+n+v:Nat):Int).toNat=bx ((s.data.toList.drop (a+n)).take v):=by
    have:s.extract ((a+n:Nat):Int).toNat ((a+n+v:Nat):Int).toNat=(bx s.data.toList).extract ((a+n:Nat):Int).toNat ((a+n+v:Nat):Int).toNat:=by rw[bx_list]
    rw[this,bx_ext];simp only [YAi];rw[YAH,YAj]
   rw[hx];exact hok hl hc _ (k2.then keep_set (fun x hx _=>hx) (fun x hx _=>hx)) ⟨s,a+n+v,get_set e,by rw[YAE],by omega,hs⟩
theorem ofNat_toNat (b:UInt8):UInt8.ofNat b.toNat=b:=by
 apply UInt8.toNat_inj.1;rw[YAp];have:=b.toNat_lt;omega
structure Nd where
 num:Int
 kind:Int
 mode:Int
 links:Int
 data:ByteArray
 ents:List Ent
structure Mb where
 users:Int
 groups:List (List Int)
abbrev Rf:=RF.Ty
abbrev StK:Kd := .ag (.pr RF (.pr .i (.pr .i (.pr .i (.pr .i .un)))))
abbrev Stat:=StK.Ty
structure An where
 code:Int
 stat:Stat
 data:ByteArray
 names:List ByteArray
structure Cl where
 op:Int
 path:ByteArray
 other:ByteArray
 data:ByteArray
 at_:Int
 n:Int
 as_:Int
abbrev Tab:=List Nd
abbrev Fs:=List Tab
def rf (o n:Int):Rf:=(o,(n,()))
def rootR:Rf:=rf 0 1
def risesI:List Int→Bool
 | x::y::r=>decide (x<y)&&risesI (y::r)
 | _=>true
def grpMay (us:List Int) (n:Int):Bool:=us.all (fun u=>decide (0≤u)&&decide (u<n))&&risesI us && !us.isEmpty
def mbMay (m:Mb):Bool:=decide (1≤m.users)&&decide (m.users≤16)&&decide (m.groups.length≤8)&&m.groups.all fun g=>grpMay g m.users
def prins (m:Mb):Int:=m.users+m.groups.length
def mIn (m:Mb) (u p:Int):Bool:=
 if u<0∨m.users≤u∨p<0∨prins m≤p then false else if p<m.users then decide (u=p) else (m.groups.getD (p-m.users).toNat []).contains u
def ndN (n k m l:Int):Bool:=decide (1≤n)&&decide (n≤32)&&(decide (k=0)||decide (k=1))&&(decide (m=0)||decide (m=1))&&decide (1≤l)&&decide (l≤32)
def ndNum (x:Nd):Bool:=ndN x.num x.kind x.mode x.links
def ndMay (x:Nd):Bool:=ndNum x&&(if x.kind=1 then decide (x.data=⟨#[]⟩)&&dirMay x.ents else decide (x.data.size≤4096)&&decide (x.ents=[]))
def risesN:Tab→Bool
 | x::y::r=>decide (x.num<y.num)&&risesN (y::r)
 | _=>true
def tabMay (t:Tab):Bool:=risesN t&&t.all ndMay
def tabOf (X:Fs) (o:Int):Tab:=if 0≤o∧o<X.length then X.getD o.toNat [] else []
def findN (X:Fs) (r:Rf):Option Nd:=(tabOf X r.1).find? fun x=>decide (x.num=r.2.1)
def stMay (X:Fs):Bool:=decide (1≤X.length)&&decide (X.length≤24)&&X.all tabMay&&(match findN X rootR with | some x=>decide (x.kind=1) | none=>false)
def setT (X:Fs) (o:Int) (t:Tab):Fs:=if 0≤o∧o<X.length then X.set o.toNat t else X
structure Wk where
 m:Mb
 X:Fs
 user:Int
 c:Cl
 w0:List ByteArray
 w1:List ByteArray
abbrev HsV:=Vector UInt8 32
def once {α : Type} [DecidableEq α] (L:List α) (x : α):List α := if x∈L then L else L++[x]
def onceL {α : Type} [DecidableEq α] (L xs:List α):List α := xs.foldl once L
theorem onceL_app {α : Type} [DecidableEq α] {L xs ys:List α}:onceL L (xs++ys)=onceL (onceL L xs) ys:=by simp[onceL]
theorem onceL_nil {α : Type} [DecidableEq α] {L:List α}:onceL L []=L:=rfl
theorem onceL_one {α : Type} [DecidableEq α] {L:List α} {x : α}:onceL L [x]=once L x:=rfl
theorem onceL_take {α : Type} [DecidableEq α] {L xs:List α} {i:Nat} (hi:i<xs.length):onceL L (xs.take (i+1))=once (onceL L (xs.take i)) xs[i]:=by
 rw[YAf hi,onceL_app,onceL_one]
theorem mem_once {α : Type} [DecidableEq α] {L:List α} {x y : α}:y∈once L x↔y∈L∨y=x:=by
 unfold once;split
 ·rename_i h
  constructor
  ·exact .inl
  ·rintro (h1 | rfl) <;> assumption
 ·simp
theorem mem_onceL {α : Type} [DecidableEq α] {y : α}:∀ {xs L:List α},y∈onceL L xs↔y∈L∨y∈xs
 | [],L=>by simp[onceL]
 | x :: r, L => by
   show y∈onceL (once L x) r↔_;rw[mem_onceL,mem_once,YAW];exact or_assoc
theorem once_len {α : Type} [DecidableEq α] {L:List α} {x : α}:(once L x).length≤L.length+1:=by
 unfold once;split <;> simp
theorem onceL_len {α : Type} [DecidableEq α]:∀ {xs L:List α},(onceL L xs).length≤L.length+xs.length
 | [],L=>by simp[onceL]
 | x :: r, L => by
   have h1:=onceL_len (xs:=r) (L:=once L x);have h2:=once_len (L:=L) (x:=x);show (onceL (once L x) r).length≤_;simp only [YAQ];omega
def chunk {α : Type} (n:Nat) (xs:List α):List (List α):=(List.range ((xs.length+n-1)/n)).map fun i=>(xs.drop (i*n)).take n
theorem chunk_len {α : Type} {n:Nat} {xs:List α}:(chunk n xs).length=(xs.length+n-1)/n:=by simp[chunk]
theorem chunk_at {α : Type} {n i:Nat} {xs:List α} (hi:i<(chunk n xs).length):(chunk n xs)[i]=(xs.drop (i*n)).take n:=by simp[chunk]
def nodeS (c:UInt8) (hs:List HsV):ByteArray:=bx ([c,UInt8.ofNat hs.length]++hs.flatMap (·.toList))
def leafS (c:List UInt8):ByteArray:=bx (66::c)
def treeB (d:ByteArray):List ByteArray:=(chunk 64 d.data.toList).map leafS
def treeI (d:ByteArray):List ByteArray:=(chunk 8 ((treeB d).map hashS)).map (nodeS 73)
def treeR (d:ByteArray):ByteArray:=nodeS 82 ((treeI d).map hashS)
def treeO (d:ByteArray):List ByteArray:=onceL [] (treeB d++treeI d++[treeR d])
theorem treeB_len {d:ByteArray}:(treeB d).length=(d.size+63)/64:=by
 unfold treeB;rw[List.length_map,chunk_len];rfl
theorem treeI_len {d:ByteArray}:(treeI d).length=((treeB d).length+7)/8:=by
 unfold treeI;rw[List.length_map,chunk_len,List.length_map];rfl
theorem nodeS_size {c:UInt8} {hs:List HsV}:(nodeS c hs).size=2+32*hs.length:=by
 unfold nodeS;rw[bx_size,YAP]
 have:(hs.flatMap (·.toList)).length=32*hs.length:=by
  induction hs with
  | nil=>rfl
  | cons h r ih=>rw[YAJ,YAP,ih,YAQ];simp;omega
 rw[this];rfl
theorem leafS_size {c:List UInt8}:(leafS c).size=1+c.length:=by unfold leafS;rw[bx_size];simp;omega
structure Ino where
 num:Int
 kind:Int
 mode:Int
 links:Int
 size:Int
 root:HsV
 deriving DecidableEq
def inodMay (x:Ino):Bool:=ndN x.num x.kind x.mode x.links&&decide (0≤x.size)&&decide (x.size≤if x.kind=1 then 0 else 4096)
def risesO:List Ino→Bool
 | x::y::r=>decide (x.num<y.num)&&risesO (y::r)
 | _=>true
def itabMay (ns:List Ino):Bool:=ns.all inodMay&&risesO ns
def inoBytes (x:Ino):List UInt8:=be x.num.toNat 1++be x.kind.toNat 1++be x.mode.toNat 1++be x.links.toNat 1++be x.size.toNat 2++x.root.toList
def itabBytes (ns:List Ino):List UInt8:=be 84 1++be ns.length 1++ns.flatMap inoBytes
def ndObjs (x:Nd):List ByteArray:=if x.kind=1 then [bx (putBytes x.ents)] else treeO x.data
def ndRoot (x:Nd):HsV:=if x.kind=1 then hashS (bx (putBytes x.ents)) else hashS (treeR x.data)
def inoOf (x:Nd):Ino:=⟨x.num,x.kind,x.mode,x.links,x.data.size,ndRoot x⟩
def tabText (t:Tab):ByteArray:=bx (itabBytes (t.map inoOf))
def tabObjs (t:Tab):List ByteArray:=t.flatMap ndObjs++[tabText t]
def buildH (X:Fs):List HsV:=X.map fun t=>hashS (tabText t)
def buildO (X:Fs):List ByteArray:=onceL [] (X.flatMap tabObjs)
def known (os:List ByteArray) (h:HsV):Option ByteArray:=os.find? fun d=>decide (d.size≤65536)&&decide (hashS d=h)
structure Ldr where
 want:List HsV
 bad:Bool
abbrev Kn:=HsV→Option ByteArray
def hv (l:List UInt8):HsV:=if h:l.length=32 then ⟨l.toArray,by simp[h]⟩ else Vector.replicate 32 0
def hsIn (l:List UInt8):List HsV:=(List.range (l.length/32)).map fun i=>hv ((l.drop (i*32)).take 32)
def isRow (c:UInt8) (many:Nat) (s:ByteArray):Bool:=decide (s.size=2+many*32)&&decide (s.data.toList.take 2=[c,UInt8.ofNat many])
def namedS (K:Kn) (c:UInt8) (l:Ldr) (h:HsV) (many:Nat):List HsV×Ldr:=
 match K h with
 | none=>([],⟨once l.want h,l.bad⟩)
 | some s=>if isRow c many s=true then (hsIn (s.data.toList.drop 2),l) else ([],⟨l.want,true⟩)
def innersS (K:Kn) (many:Nat):Ldr→Nat→List HsV→List HsV×Ldr
 | l,_,[]=>([],l)
 | l,i,h::r=>((namedS K 73 l h (min 8 (many-i*8))).1++(innersS K many (namedS K 73 l h (min 8 (many-i*8))).2 (i+1) r).1,(innersS K many (namedS K 73 l h (min 8 (many-i*8))).2 (i+1) r).2)
def isLeaf (n:Nat) (s:ByteArray):Bool:=decide (s.size=1+n)&&decide (s.data.toList.take 1=[66])
def leavesS (K:Kn) (size:Nat):Ldr→Nat→List HsV→List UInt8×Ldr
 | l,_,[]=>([],l)
 | l, i, h :: r => match K h with
   | none=>leavesS K size ⟨once l.want h,l.bad⟩ (i+1) r
   | some s=>if isLeaf (min 64 (size-i*64)) s=true then (s.data.toList.drop 1++(leavesS K size l (i+1) r).1,(leavesS K size l (i+1) r).2) else leavesS K size ⟨l.want,true⟩ (i+1) r
def Ldr.err (l:Ldr) (form none_:Int):Int:=if l.bad=true then form else if l.want=[] then 0 else none_
def Ldr.wants (l:Ldr):List HsV:=if l.bad=true then [] else l.want
def treeL (K:Kn) (root:HsV) (size:Int):ByteArray×List HsV×Int:=
 if size<0∨4096<size then (⟨#[]⟩,[],1200) else
 let n:=(size.toNat+63)/64
 let a:=namedS K 82 ⟨[],false⟩ root ((n+7)/8)
 if a.2.err 1200 1201≠0 then (⟨#[]⟩,a.2.wants,a.2.err 1200 1201) else
 let b:=innersS K n a.2 0 a.1
 if b.2.err 1200 1201≠0 then (⟨#[]⟩,b.2.wants,b.2.err 1200 1201) else
 let c:=leavesS K size.toNat b.2 0 b.1
 if c.2.err 1200 1201≠0 then (⟨#[]⟩,c.2.wants,c.2.err 1200 1201) else
 (bx c.1,[],0)
theorem rowTag {T T' b:Nat} {k:Kd} {s:Slc} {L:List k.Ty} {h:Heap} {c:Array Value} {f:Nat×Nat} (r:Row h T k s L) (e:h[b]? = some (.cells c T' f)) (hT:T'≠T):b∉own s:=fun hm=>by
 rcases r with ⟨rfl,_⟩ | ⟨b',zs,ea,_,_,eh⟩
 ·simp[own] at hm
 ·have:b=b':=by unfold own at hm;rw[ea] at hm;simpa using hm
  subst this;rw[e] at eh;simp only [Option.some.injEq,robj,Obj.cells.injEq] at eh;exact hT eh.2.1
theorem mkm_gen {k e:Kd} {h:Heap} {K:Nat→Heap→Prop} (hK:∀r h',r=h.size→Keep [] h h'→msm k e r [] 0 h'→h'.size=h.size+1→K r h'):mkm h K:=hK _ _ rfl keep_push get_push (by simp)
theorem lk_gen {k e:Kd} {r:Nat} {es:List (k.Ty×e.Ty×Nat)} {c:Nat} {key:k.Ty} {h:Heap} {K:Option e.Ty→Option (Heap→Prop)→Prop} (hm:msm k e r es c h) (hK:K (mfind k e key es) (some (msm k e r es c))):lk k e (some r) key h K:=⟨es,c,hm,hK⟩
theorem mu_gen {k e:Kd} {r:Nat} {es:List (k.Ty×e.Ty×Nat)} {c:Nat} {key:k.Ty} {v:e.Ty} {h:Heap} {K:Heap→Prop} (hm:msm k e r es c h) (hK:∀h' c',Keep [r] h h'→msm k e r (mput k e key v c es) c' h'→h'.size=h.size→K h'):mu k e (some r) key v h K:=
 ⟨r,es,c,rfl,hm,hK _ _ keep_set (get_set hm) (by simp)⟩
theorem msm_ne {k e:Kd} {r:Nat} {es:List (k.Ty×e.Ty×Nat)} {c:Nat} {h:Heap} (hm:msm k e r es c h) {b:Nat} {cs:Array Value} {T:Nat} {f:Nat×Nat} (eb:h[b]? = some (.cells cs T f)):r≠b:=fun hh=>by
 subst hh;unfold msm mobj at hm;rw[eb] at hm;simp at hm
theorem msm_out {k e:Kd} {r:Nat} {es:List (k.Ty×e.Ty×Nat)} {c:Nat} {h:Heap} (hm:msm k e r es c h) {T:Nat} {k':Kd} {s:Slc} {xs:List k'.Ty} (rr:Row h T k' s xs):r∉own s:=fun hh=>by
 rcases rr with ⟨e1,_⟩ | ⟨b,zs,e1,_,_,e4⟩
 ·rw[e1] at hh;simp[own] at hh
 ·have:r=b:=by unfold own at hh;rw[e1] at hh;simpa using hh
  exact msm_ne hm e4 this
theorem msm_lt {k e:Kd} {r:Nat} {es:List (k.Ty×e.Ty×Nat)} {c:Nat} {h:Heap} (hm:msm k e r es c h):r<h.size:=lt_of_some hm
theorem msm_keep {k e:Kd} {r:Nat} {es:List (k.Ty×e.Ty×Nat)} {c:Nat} {h h':Heap} {S:List Nat} (hm:msm k e r es c h) (kk:Keep S h h') (hn:r∉S):msm k e r es c h':=kk.get hm hn
def MapOf (k:Kd) (h:Heap) (m:Option Nat) (L:List k.Ty):Prop:=
 match m with
 | none=>L=[]
 | some r=>∃es c,msm k .b r es c h∧∀x,(mfind k .b x es=some true∧x∈L)∨(mfind k .b x es=none∧x∉L)
theorem MapOf.keep {k:Kd} {h h':Heap} {m:Option Nat} {L:List k.Ty} {S:List Nat} (a:MapOf k h m L) (kk:Keep S h h') (hn:∀r∈m.toList,r∉S):MapOf k h' m L:=by
 cases m with
 | none=>exact a
 | some r =>
   obtain ⟨es,c,e1,e2⟩:=a;exact ⟨es,c,msm_keep e1 kk (hn r (by simp)),e2⟩
theorem MapOf.add {k:Kd} (hk:k.pk=true) {h:Heap} {r c c':Nat} {es:List (k.Ty×Bool×Nat)} {L:List k.Ty} {y:k.Ty} (a:∀x,(mfind k .b x es=some true∧x∈L)∨(mfind k .b x es=none∧x∉L)) (hm:msm k .b r (mput k .b y true c es) c' h):MapOf k h (some r) (L++[y]):=by
 refine ⟨_,_,hm,fun x =>?_⟩;rw[mfind_put hk];by_cases e:k.beq x y=true
 ·rw[if_pos e];exact .inl ⟨rfl,by rw[(beq_eq hk).1 e];simp⟩
 ·rw[if_neg e];have ne:x≠y:=fun q=>e ((beq_eq hk).2 q);rcases a x with ⟨h1,h2⟩ | ⟨h1,h2⟩
  ·exact .inl ⟨h1,by simp[h2]⟩
  ·exact .inr ⟨h1,by simp[h2,ne]⟩
abbrev LsK:Kd := .ag (.pr .sl (.pr .m .un))
def lsFp (b:Nat) (s:Slc) (m:Option Nat):List Nat:=b::(own s++m.toList)
structure LsAt (h:Heap) (b:Nat) (s:Slc) (m:Option Nat) (L:List ByteArray):Prop where
 o:h[b]? = some (vobj t_object_List_string LsK (s,(m,())))
 r:Row h t_string .s s L
 m:MapOf .s h m L
theorem LsAt.keep {h h':Heap} {b:Nat} {s:Slc} {m:Option Nat} {L:List ByteArray} {S:List Nat} (i:LsAt h b s m L) (k:Keep S h h') (hn:∀q∈lsFp b s m,q∉S):LsAt h' b s m L:=
 ⟨k.get i.o (hn b (by simp[lsFp])),i.r.keep k fun q hq=>hn q (by simp[lsFp,hq]),i.m.keep k fun q hq=>hn q (by simp only [lsFp,YAW,YAV];exact .inr (.inr hq))⟩
theorem LsAt.keep0 {h h':Heap} {b:Nat} {s:Slc} {m:Option Nat} {L:List ByteArray} (i:LsAt h b s m L) (k:Keep [] h h'):LsAt h' b s m L:=i.keep k (by simp)
theorem LsAt.lt {h:Heap} {b:Nat} {s:Slc} {m:Option Nat} {L:List ByteArray} (i:LsAt h b s m L):∀q∈lsFp b s m,q<h.size:=fun q hq=>by
 simp only [lsFp,YAW,YAV] at hq;rcases hq with rfl | hq | hq
 ·exact lt_of_some i.o
 ·exact i.r.lt q hq
 ·cases hm:m with
  | none=>rw[hm] at hq;simp at hq
  | some r =>
    have:=i.m;rw[hm] at this hq;obtain ⟨es,c,e1,_⟩:=this;simp at hq;subst hq;exact msm_lt e1
theorem LsAt.new {h:Heap} {b:Nat} (e:h[b]? = some (vobj t_object_List_string LsK ((⟨none,0,0⟩,(none,())):LsK.Ty))):LsAt h b ⟨none,0,0⟩ none []:=⟨e,Row.nil,rfl⟩
theorem LsAt.off {h:Heap} {b:Nat} {s:Slc} {m:Option Nat} {L:List ByteArray} (i:LsAt h b s m L) {q:Nat} {cs:Array Value} {T:Nat} {f:Nat×Nat} (e:h[q]? = some (.cells cs T f)) (h1:T≠t_object_List_string) (h2:T≠t_string):q∉lsFp b s m:=fun hq=>by
 simp only [lsFp,YAW,YAV] at hq;rcases hq with rfl | hq | hq
 ·have:=i.o;rw[e] at this;unfold vobj at this;simp at this;exact h1 this.2.1
 ·exact rowTag i.r e h2 hq
 ·cases hm:m with
  | none=>rw[hm] at hq;simp at hq
  | some r =>
    have:=i.m;rw[hm] at this hq;obtain ⟨es,c,e1,_⟩:=this;simp at hq;subst hq;exact msm_ne e1 e rfl
theorem LsAt.offRow {h:Heap} {b:Nat} {s:Slc} {m:Option Nat} {L:List ByteArray} (i:LsAt h b s m L) {T:Nat} {k:Kd} {u:Slc} {xs:List k.Ty} (r:Row h T k u xs) (h1:T≠t_object_List_string) (h2:T≠t_string):∀q∈own u,q∉lsFp b s m:=fun q hq=>by
 rcases r with ⟨e1,_⟩ | ⟨b,zs,e1,_,_,e4⟩
 ·rw[e1] at hq;simp[own] at hq
 ·have:q=b:=by unfold own at hq;rw[e1] at hq;simpa using hq
  subst this;exact i.off e4 h1 h2
theorem ZAD.s {h:Heap} {b:Nat} {s:Slc} {m:Option Nat} {L:List ByteArray} {x:ByteArray} {K:Heap→Prop} (i:LsAt h b s m L) (hl:L.length≤100000)
 (hK:∀h' s' m',LsAt h' b s' m' (once L x)→Keep (lsFp b s m) h h'→(∀q∈lsFp b s' m',q∈lsFp b s m∨h.size≤q)→K h'):ZAD.C (some ⟨b,0⟩) x h K:=by
 apply ZAD.c;unfold ZAD.m;refine nck_go (ld_go (sm_fld i.o rfl (by decide)) ?_);refine jn_in (fun _ h1=>∃r,LsAt h1 b s (some r) L∧Keep [b] h h1∧(r∈m.toList∨h.size≤r)) ?_ ?_
 ·cases m with
  | none =>
    rw[if_pos (by rfl)];refine mkm_gen (k := .s) (e := .b) fun r h1 hr k1 e1 hs1=>nck_go ?_;have i1:=i.keep0 k1;refine st_fld (k' := .m) (n:=1) (x':=(s,(some r,()))) i1.o (by decide) rfl ?_;have hL:L=[]:=i.m;subst hL;refine ⟨r,⟨get_set i1.o,i1.r.keep keep_set ?_,⟨[],0,msm_keep e1 keep_set (by simp;exact msm_ne e1 i1.o),fun x => .inr ⟨rfl,by simp⟩⟩⟩,k1.then keep_set (by simp) (by simp),.inr (by omega)⟩;intro q hq hm;simp at hm;subst hm;exact rowTag i1.r i1.o (by decide) hq
  | some r =>
    rw[if_neg (by simp)];exact ⟨r,i,Keep.rfl,.inl (by simp)⟩
 ·rintro _ h1 ⟨r,i1,k1,hr⟩;refine nck_go (ld_go (sm_fld i1.o rfl (by decide)) ?_);obtain ⟨es,c,e1,e2⟩:=i1.m;refine lk_gen e1 ?_
  have hfp:∀q∈lsFp b s (some r),q∈lsFp b s m∨h.size≤q:=fun q hq=>by
   simp only [lsFp,YAW,YAV,Option.toList_some,YAY,or_false] at hq ⊢;rcases hq with h | h | rfl
   ·exact .inl (.inl h)
   ·exact .inl (.inr (.inl h))
   ·rcases hr with h | h
    ·exact .inl (.inr (.inr h))
    ·exact .inr h
  have kb:Keep (lsFp b s m) h h1:=k1.weak (by simp[lsFp]);refine jn_go ?_;rcases e2 x with ⟨f1,f2⟩ | ⟨f1,f2⟩
  ·rw[if_neg (by rw[f1];simp)];have:once L x=L:=by unfold once;rw[if_pos f2]
   rw[this] at hK;exact hK h1 s (some r) i1 kb hfp
  ·rw[if_pos (by rw[f1];simp)];have ho:once L x=L++[x]:=by unfold once;rw[if_neg f2]
   rw[ho] at hK;refine nck_go (ld_go (sm_fld i1.o rfl (by decide)) ?_);refine mu_gen e1 fun h2 c' k2 m2 hs2 =>?_;have o2:=k2.get i1.o (by simp;exact fun h=>msm_ne e1 i1.o h.symm);have r2:=i1.r.keep k2 (fun q hq hm=>by simp at hm;subst hm;exact msm_out e1 i1.r hq);refine nck_go (ld_go (sm_fld o2 rfl (by decide)) ?_);refine app2 (by_:=16) r2 rfl (by omega) fun s3 h3 k3 r3 o3=>nck_go ?_;have nb:b∉own s:=fun hq=>rowTag r2 o2 (by decide) hq;have nr:r∉own s:=msm_out m2 r2;have ob:=k3.get o2 nb;refine st_fld (k' := .sl) (n:=0) (x':=(s3,(some r,()))) ob (by decide) rfl ?_;have m3:=msm_keep m2 k3 nr;have hrb:r≠b:=msm_ne m3 ob;have nb3:b∉own s3:=fun hq=>rowTag r3 ob (by decide) hq;refine hK _ s3 (some r) ⟨get_set ob,r3.keep keep_set (fun q hq hm=>by simp at hm;subst hm;exact nb3 hq),MapOf.add rfl e2 (msm_keep m3 keep_set (by simpa using hrb))⟩ ?_ ?_
   ·have k12:Keep (lsFp b s m) h h2:=kb.then k2 (fun q hq _=>hq) (fun q hq hlt=>by simp at hq;subst hq;rcases hfp q (by simp[lsFp]) with h | h;exact h;omega);have k13:Keep (lsFp b s m) h h3:=k12.then k3 (fun q hq _=>hq) (fun q hq _=>by simp[lsFp,hq]);exact k13.then keep_set (fun q hq _=>hq) (fun q hq _=>by simp at hq;subst hq;simp[lsFp])
   ·intro q hq;simp only [lsFp,YAW,YAV,Option.toList_some,YAY,or_false] at hq;rcases hq with h | h | h
    ·exact .inl (by simp[lsFp,h])
    ·rcases o3 q h with h | h
     ·exact .inl (by simp[lsFp,h])
     ·right;have:=k1.1;omega
    ·exact hfp q (by simp[lsFp,h])
abbrev HK:Kd := .ar 32 .u8
theorem app2s {T by_ sz:Nat} {k:Kd} {s:Slc} {xs:List k.Ty} {x:k.Ty} {h:Heap} {K:Slc→Heap→Prop} {P:Heap→Prop} (r:Row h T k s xs) (hs:sz=k.size) (hl:(xs.length+1)*by_≤140737488355328)
 (hP:∀h',Keep [] h h'→P h')
 (hK:∀s' h',Keep (own s) h h'→Row h' T k s' (xs++[x])→(∀q∈own s',q∈own s∨h.size≤q)→K s' h') :
 bs T k [x] h fun s1 h1=>P h1∧slCells s1 (s1.len*sz) h1 fun cs=>ap T k by_ s s1.len cs h1 K:=by
 refine bs_go ?_;subst hs;refine ⟨hP _ keep_push,?_⟩;have r8:=r.keep (keep_push (o:=robj T k [x])) (by simp);refine slCells_row (xs:=[x]) get_push rfl (i:=0) (j:=1) (by simp) rfl (by simp) ?_;refine ap_row (ys:=[x]) r8 rfl rfl hl fun s9 h9 r9 k9 o9 =>?_;refine hK s9 h9 ((keep_push (o:=robj T k [x])).then k9 (by simp) (fun x hx _=>hx)) r9 fun q hq =>?_;rcases own_of o9 q hq with h' | h'
 ·exact .inl h'
 ·right;simp at h';omega
theorem ZAf.s {x:UInt32} {k:Nat} {h:Heap} {K:UInt32→Heap→Prop} (hk:k≤32) (hK:K (rr x k) h):ZAf.C x k h K:=by
 apply ZAf.c;unfold ZAf.m;have hw:w64 (32-(k:Int))=((32-k:Nat):Int):=w6 (by omega);rw[hw];refine ⟨by omega,by omega,?_⟩;rw[UInt32.or_comm];exact hK
theorem add_swap (a b c d:UInt32):((a+b)+c)+d=((a+c)+b)+d:=by rw[UInt32.add_assoc a b c,UInt32.add_comm b c,←UInt32.add_assoc]
theorem ZBN.s {z:Vector UInt32 8} {l:List UInt8} {h:Heap} {K:Kd.Ty (.ar 8 .u32)→Heap→Prop} (hl:l.length=64) (hK:∀h',Keep [] h h'→K (turnV l z) h'):ZBN.C z (bx l) h K:=by
 apply ZBN.c;unfold ZBN.m;refine new_gen fun b1 h1 hb1 k1 e1 hs1 =>?_;refine new_gen fun b2 h2 hb2 k2 e2 hs2 =>?_;refine new_st_gen fun b3 h4 hb3 k4 e4 hs4 =>?_;have e4:h4[b3]? = some (vobj t_64_uint32 (.ar 64 .u32) kk):=e4;refine new_gen fun b4 h5 hb4 k5 e5 hs5 =>?_;have c1:h5[b1]? = some (vobj t_8_uint32 (.ar 8 .u32) z):=k5.g (k4.g (k2.g e1));have c2:h5[b2]? = some (vobj t_8_uint32 (.ar 8 .u32) (Vector.replicate 8 (0:UInt32))):=k5.g (k4.g e2);have c3:=k5.g e4;have e5:h5[b4]? = some (vobj t_64_uint32 (.ar 64 .u32) (Vector.replicate 64 (0:UInt32))):=e5;have k05:Keep [] h h5:=((k1.n k2).n k4).n k5;have e24:(((24:UInt64).toNat:Int))=24:=by decide
 have e16:(((16:UInt64).toNat:Int))=16:=by decide
 have e8:(((8:UInt64).toNat:Int))=8:=by decide
 have e3:(((3:UInt64).toNat:Int))=3:=by decide
 have e10:(((10:UInt64).toNat:Int))=10:=by decide
 rw[e24,e16,e8,e3,e10]
 clear e24 e16 e8 e3 e10
 refine lp_go (fun (y:Int×Unit) (h3:Heap)=>∃t:Nat,y.1=t∧t≤16∧Keep [b4] h5 h3∧∃w:Vector UInt32 64,h3[b4]? = some (vobj t_64_uint32 (.ar 64 .u32) w)∧w.toList=sch l t++List.replicate (64-t) 0) (fun (y:Int×Unit) _=>16-y.1.toNat) ?_ ?_
 ·exact ⟨0,rfl,by decide,Keep.rfl,_,e5,by simp[sch]⟩
 ·rintro ⟨(i:Int),_⟩ h6 ⟨t,e,ht,k6,w,hw,hwl⟩;dsimp only at e ⊢;subst e;by_cases hlt:t<16
  ·rw[if_pos (show decide ((t:Int)<16)=true from dT (by omega))];have w0:w64 (4*(t:Int))=((4*t:Nat):Int):=w6 (by omega);have w1:w64 (((4*t:Nat):Int)+1)=((4*t+1:Nat):Int):=w6 (by omega);have w2:w64 (((4*t:Nat):Int)+2)=((4*t+2:Nat):Int):=w6 (by omega);have w3:w64 (((4*t:Nat):Int)+3)=((4*t+3:Nat):Int):=w6 (by omega);have w4:w64 ((t:Int)+1)=((t+1:Nat):Int):=w6 (by omega);rw[w0,w1,w2,w3,w4];refine ixs_bx (by omega) ⟨by decide,?_⟩;refine ixs_bx (by omega) ⟨by decide,?_⟩;refine ixs_bx (by omega) ⟨by decide,?_⟩;refine ixs_bx (by omega) ⟨by omega,by omega,?_⟩;rw[show (⟨b4,0+(t:Int).toNat*1⟩:Pl)=⟨b4,0+t*Kd.u32.size⟩ by rw[YAi];rfl];refine ar_st (i:=t) hw (by omega) ⟨⟨t+1,rfl,by omega,k6.then keep_set (fun x hx _=>hx) (fun x hx _=>hx),_,get_set hw,?_⟩,by simp;omega⟩;refine sch_step (by omega) hwl ?_;rw[if_pos hlt];unfold wordB;simp only [YAL,YAM (show 4*t<l.length by omega),YAM (show 4*t+1<l.length by omega),YAM (show 4*t+2<l.length by omega),YAM (show 4*t+3<l.length by omega),Option.getD_some]
  ·rw[if_neg (show ¬decide ((t:Int)<16)=true by simp;omega)];have ht16:t=16:=by omega
   subst ht16;refine lp_go (fun (y:Int×Unit) (h3:Heap)=>∃t:Nat,y.1=t∧16≤t∧t≤64∧Keep [b4] h5 h3∧∃w:Vector UInt32 64,h3[b4]? = some (vobj t_64_uint32 (.ar 64 .u32) w)∧w.toList=sch l t++List.replicate (64-t) 0) (fun (y:Int×Unit) _=>64-y.1.toNat) ?_ ?_
   ·exact ⟨16,rfl,by decide,by decide,k6,w,hw,hwl⟩
   ·clear hw hwl k6 w hlt ht h6
    rintro ⟨(i:Int),_⟩ h8 ⟨t,e,ht1,ht,k6,w,hw,hwl⟩;dsimp only at e ⊢;subst e;by_cases hlt:t<64
    ·rw[if_pos (show decide ((t:Int)<64)=true from dT (by omega))];have w15:w64 ((t:Int)-15)=((t-15:Nat):Int):=w6 (by omega);have w2:w64 ((t:Int)-2)=((t-2:Nat):Int):=w6 (by omega);have w16:w64 ((t:Int)-16)=((t-16:Nat):Int):=w6 (by omega);have w7:w64 ((t:Int)-7)=((t-7:Nat):Int):=w6 (by omega);have w4:w64 ((t:Int)+1)=((t+1:Nat):Int):=w6 (by omega);rw[w15,w2,w16,w7,w4]
     have at_:∀j,(hj:j<t)→sm .u32 ⟨b4,0+((j:Nat):Int).toNat*1⟩ ((sch l t).getD j 0) h8:=fun j hj=>by
      rw[←sch_get hwl hj (by omega),YAi];exact ar_sm (i:=j) hw (by omega)
     have s15:=at_ (t-15) (by omega);have s2:=at_ (t-2) (by omega);have s16:=at_ (t-16) (by omega);have s7:=at_ (t-7) (by omega);refine ⟨by omega,by omega,_,s15,by omega,by omega,_,s15,by omega,by omega,_,s15,by decide,?_⟩;refine ZAf.s (k:=7) (by decide) ⟨s15,s15,?_⟩;refine ZAf.s (k:=18) (by decide) ⟨s15,?_⟩;refine ⟨by omega,by omega,_,s2,by omega,by omega,_,s2,by omega,by omega,_,s2,by decide,?_⟩;refine ZAf.s (k:=17) (by decide) ⟨s2,s2,?_⟩;refine ZAf.s (k:=19) (by decide) ⟨s2,?_⟩;refine ⟨by omega,by omega,_,s16,by omega,by omega,_,s7,by omega,by omega,?_⟩;rw[show (⟨b4,0+(t:Int).toNat*1⟩:Pl)=⟨b4,0+t*Kd.u32.size⟩ by rw[YAi];rfl];refine ar_st (i:=t) hw (by omega) ⟨⟨t+1,rfl,by omega,by omega,k6.then keep_set (fun x hx _=>hx) (fun x hx _=>hx),_,get_set hw,?_⟩,by simp;omega⟩;exact sch_step hlt hwl (by rw[if_neg (by omega),add_swap];rfl)
    ·rw[if_neg (show ¬decide ((t:Int)<64)=true by simp;omega)];have ht64:t=64:=by omega
     subst ht64;have hwl:w.toList=sch l 64:=by simpa using hwl
     have d1:=k6.get c1 (by simp;omega);have d2:=k6.get c2 (by simp;omega);have d3:=k6.get c3 (by simp;omega);have k08:Keep [] h h8:=k05.new k6 (by have:=k05.1;simp;omega);have l8:=k6.1;refine ⟨z,sm_all (k := .ar 8 .u32) d1,?_⟩;refine new_st_gen fun b5 h15 hb5 k15 e15 hs15 =>?_;have e15:h15[b5]? = some (vobj t_8_uint32 (.ar 8 .u32) z):=e15;have f1:=k15.g d1;have f2:=k15.g d2;have f3:=k15.g d3;have f4:=k15.g hw;refine lp_go (fun (y:Int×Unit) (h9:Heap)=>∃t:Nat,y.1=t∧t≤64∧Keep [b5] h15 h9∧h9[b5]? = some (vobj t_8_uint32 (.ar 8 .u32) (rnds (sch l 64) z t))) (fun (y:Int×Unit) _=>64-y.1.toNat) ?_ ?_
     ·exact ⟨0,rfl,by decide,Keep.rfl,e15⟩
     ·rintro ⟨(i:Int),_⟩ h16 ⟨t,e,ht',k16,hz⟩;dsimp only at e ⊢;subst e;have g1:=k16.get f1 (by simp;omega);have g2:=k16.get f2 (by simp;omega);have g3:=k16.get f3 (by simp;omega);have g4:=k16.get f4 (by simp;omega);by_cases hlt2:t<64
      ·rw[if_pos (show decide ((t:Int)<64)=true from dT (by omega))];have w4:w64 ((t:Int)+1)=((t+1:Nat):Int):=w6 (by omega);rw[w4];have hr:rnds (sch l 64) z (t+1)=rnd (kk.toList.getD t 0) ((sch l 64).getD t 0) (rnds (sch l 64) z t):=rfl;generalize rnds (sch l 64) z t=v at hz hr;have a:∀j,(hj:j<8)→sm .u32 ⟨b5,0+j*1⟩ v[j] h16:=fun j hj=>ar_sm (k := .u32) (i:=j) hz hj;have s0:=a 0 (by decide);have s1:=a 1 (by decide);have s2:=a 2 (by decide);have s3:=a 3 (by decide);have s4:=a 4 (by decide);have s5:=a 5 (by decide);have s6:=a 6 (by decide);have s7:=a 7 (by decide)
       have sk:sm .u32 ⟨b3,0+((t:Nat):Int).toNat*1⟩ (kk.toList.getD t 0) h16:=by
        rw[←kk_at hlt2,YAi];exact ar_sm (k := .u32) (i:=t) g3 hlt2
       have sw:sm .u32 ⟨b4,0+((t:Nat):Int).toNat*1⟩ ((sch l 64).getD t 0) h16:=by
        rw[←w_at hwl hlt2,YAi];exact ar_sm (k := .u32) (i:=t) g4 hlt2
       refine ⟨by decide,by decide,_,s4,by decide,by decide,_,s4,by decide,by decide,_,s4,?_⟩;refine ZAf.s (k:=6) (by decide) ⟨s4,s4,?_⟩;refine ZAf.s (k:=11) (by decide) ⟨s4,?_⟩;refine ZAf.s (k:=25) (by decide) ?_;refine ⟨by decide,by decide,_,s7,by decide,by decide,_,s4,by decide,by decide,_,s5,by decide,by decide,_,s4,by decide,by decide,_,s6,by omega,by omega,_,sk,by omega,by omega,_,sw,by decide,by decide,_,s0,by decide,by decide,_,s0,by decide,by decide,_,s0,?_⟩;refine ZAf.s (k:=2) (by decide) ⟨s0,s0,?_⟩;refine ZAf.s (k:=13) (by decide) ⟨s0,?_⟩;refine ZAf.s (k:=22) (by decide) ?_;refine ⟨by decide,by decide,_,s0,by decide,by decide,_,s1,by decide,by decide,_,s0,by decide,by decide,_,s2,by decide,by decide,_,s1,by decide,by decide,_,s2,by decide,by decide,_,s0,by decide,by decide,_,s1,by decide,by decide,_,s2,by decide,by decide,_,s3,by decide,by decide,_,s4,by decide,by decide,_,s5,by decide,by decide,_,s6,?_⟩;refine st_all (k := .ar 8 .u32) (x':=rnd (kk.toList.getD t 0) ((sch l 64).getD t 0) v) hz ?_;refine ⟨⟨t+1,rfl,by omega,k16.then keep_set (fun x hx _=>hx) (fun x hx _=>hx),?_⟩,by simp;omega⟩;rw[hr];exact get_set hz
      ·rw[if_neg (show ¬decide ((t:Int)<64)=true by simp;omega)];have ht64:t=64:=by omega
       subst ht64;have hturn:turnV l z=Vector.zipWith (· + ·) z (rnds (sch l 64) z 64):=rfl;generalize rnds (sch l 64) z 64=v at hz hturn;have k016:Keep [] h h16:=(k08.n k15).new k16 (by have:=k08.1;simp;omega);refine lp_go (fun (y:Int×Unit) (h17:Heap)=>∃t:Nat,y.1=t∧t≤8∧Keep [b1] h16 h17∧∃z':Vector UInt32 8,h17[b1]? = some (vobj t_8_uint32 (.ar 8 .u32) z')∧∀j:Nat,(hj:j<8)→z'[j]=if j<t then z[j]+v[j] else z[j]) (fun (y:Int×Unit) _=>8-y.1.toNat) ?_ ?_
       ·exact ⟨0,rfl,by decide,Keep.rfl,z,g1,fun j hj=>by rw[if_neg (by omega)]⟩
       ·rintro ⟨(i:Int),_⟩ h24 ⟨t,e,ht8,k24,z',hz',hall⟩;dsimp only at e ⊢;subst e;by_cases hlt3:t<8
        ·rw[if_pos (show decide ((t:Int)<8)=true from dT (by omega))];have w4:w64 ((t:Int)+1)=((t+1:Nat):Int):=w6 (by omega);rw[w4];have hz24:=k24.get hz (by simp;omega)
         have q1:sm .u32 ⟨b1,0+((t:Nat):Int).toNat*1⟩ z[t] h24:=by
          have:=ar_sm (k := .u32) (i:=t) hz' hlt3;rw[hall t hlt3,if_neg (by omega)] at this;rw[YAi];exact this
         have q2:sm .u32 ⟨b5,0+((t:Nat):Int).toNat*1⟩ v[t] h24:=by
          rw[YAi];exact ar_sm (k := .u32) (i:=t) hz24 hlt3
         refine ⟨by omega,by omega,_,q1,by omega,by omega,_,q2,by omega,by omega,?_⟩;rw[show (⟨b1,0+(t:Int).toNat*1⟩:Pl)=⟨b1,0+t*Kd.u32.size⟩ by rw[YAi];rfl];refine ar_st (k := .u32) (i:=t) (y:=z[t]+v[t]) hz' hlt3 ?_;refine ⟨⟨t+1,rfl,by omega,k24.then keep_set (fun x hx _=>hx) (fun x hx _=>hx),_,get_set hz',fun j hj =>?_⟩,by simp;omega⟩;rw[YAq hj];split
         ·rename_i e3;subst e3;rw[if_pos (by omega)]
         ·rename_i e3
          rw[hall j hj];by_cases h5:j<t
          ·rw[if_pos h5,if_pos (by omega)]
          ·rw[if_neg h5,if_neg (by omega)]
        ·rw[if_neg (show ¬decide ((t:Int)<8)=true by simp;omega)]
         have hz8:z'=turnV l z:=by
          rw[hturn];apply Vector.ext;intro j hj;rw[hall j hj,if_pos (by omega)];simp
         rw[hz8] at hz';refine ⟨_,sm_all (k := .ar 8 .u32) hz',?_⟩;refine st_all (k := .ar 8 .u32) (x':=turnV l z) (k24.get g2 (by simp;omega)) ?_;refine ⟨_,sm_all (k := .ar 8 .u32) (get_set (k24.get g2 (by simp;omega))),?_⟩;refine hK _ ((k016.new k24 (by simp;omega)).new keep_set (by simp;omega))
theorem ZAy.s {z:Vector UInt8 32} {h:Heap} {K:ByteArray→Heap→Prop} (hK:∀h',Keep [] h h'→K (bx z.toList) h'):ZAy.C z h K:=by
 apply ZAy.c;unfold ZAy.m;refine new_gen fun b h1 hb k1 e1 hs1 =>?_;have e1:h1[b]? = some (vobj t_api_Hash (.ar 32 .u8) z):=e1;refine ⟨by decide,by decide,by decide,?_⟩;have g:Seg .u8 ⟨some ⟨b,0⟩,32,32⟩ z.toList h1:=ar_seg e1;exact b2s_segq g fun q _=>hK h1 k1
theorem bx_data2 (l:List UInt8):(bx l).data.toList=l:=by simp[bx]
theorem sha_fold (l:List UInt8):blks ((absR l++padL l.length).length/64) (absR l++padL l.length) (blks (l.length/64) l z0)=absZ z0 (l++padL l.length):=by
 unfold absZ;obtain ⟨h1,h2⟩:=abs_key l (padL l.length);rw[h1,blks_add,h2,blks_app (l.length/64) l (padL l.length) z0 (by omega)]
theorem padL_len (n:Nat):(padL n).length=(119-n%64)%64+9:=by unfold padL;simp[be_len]
theorem ZCZ.s {l:List UInt8} {h:Heap} {K:Kd.Ty (.ar 32 .u8)→Heap→Prop} (hl:l.length≤1000000000) (hK:∀h',Keep [] h h'→K (shaL l) h'):ZCZ.C (bx l) h K:=by
 apply ZCZ.c;unfold ZCZ.m;refine new_gen fun b1 h1 hb1 k1 e1 hs1 =>?_;have e1:h1[b1]? = some (vobj t_api_Hash (.ar 32 .u8) (Vector.replicate 32 (0:UInt8))):=e1;refine new_st_gen fun b2 h3 hb2 k3 e3 hs3 =>?_;have e3:h3[b2]? = some (vobj t_8_uint32 (.ar 8 .u32) z0):=e3;have k03:Keep [] h h3:=k1.n k3;have c1:=k3.g e1;refine ⟨by decide,?_⟩;rw[bx_size]
 have hq0:w64 ((w64 ((l.length:Int).tdiv 64))*64)=((64*(l.length/64):Nat):Int):=by
  rw[YAg (by omega),w64_id (n:=(l.length:Int)/64) (by omega) (by omega),w64_id (by omega) (by omega)];omega
 rw[hq0];refine lp_go (fun (y:Int×Unit) (h4:Heap)=>∃t:Nat,y.1=((64*t:Nat):Int)∧t≤l.length/64∧Keep [b2] h3 h4∧h4[b2]? = some (vobj t_8_uint32 (.ar 8 .u32) (blks t l z0))) (fun (y:Int×Unit) _=>l.length-y.1.toNat) ?_ ?_
 ·exact ⟨0,rfl,by omega,Keep.rfl,e3⟩
 ·rintro ⟨(i:Int),_⟩ h4 ⟨t,e,ht,k4,hz⟩;dsimp only at e ⊢;subst e;have k04:Keep [] h h4:=k03.new k4 (by have:=k1.1;simp;omega);by_cases hlt:t<l.length/64
  ·rw[if_pos (show decide (((64*t:Nat):Int)<((64*(l.length/64):Nat):Int))=true from dT (by omega))];have hw:w64 (((64*t:Nat):Int)+64)=((64*(t+1):Nat):Int):=w6 (by omega);rw[hw];refine ⟨_,sm_all (k := .ar 8 .u32) hz,?_⟩;refine ⟨by omega,by omega,by rw[bx_size];omega,?_⟩;rw[YAi,YAi,bx_ext]
   have hc:(l.take (64*(t+1))).drop (64*t)=(l.drop (64*t)).take 64:=by
    rw[YAH];congr 1;omega
   rw[hc];refine ZBN.s (by rw[YAT,YAR];omega) fun h5 k5 =>?_;rw[←blks_succ];have hz5:=k5.g hz;refine st_all (k := .ar 8 .u32) (x':=blks (t+1) l z0) hz5 ?_;exact ⟨⟨t+1,rfl,by omega,(k4.then k5 (fun q hq _=>hq) (by simp)).then keep_set (fun q hq _=>hq) (fun q hq _=>hq),get_set hz5⟩,by omega⟩
  ·rw[if_neg (show ¬decide (((64*t:Nat):Int)<((64*(l.length/64):Nat):Int))=true by simp;omega)];have htq:t=l.length/64:=by omega
   subst htq;refine ⟨by omega,by omega,by rw[bx_size];omega,?_⟩;rw[YAi,YAi,bx_ext,YAe (YAk _)];have hr:l.drop (64*(l.length/64))=absR l:=rfl;rw[hr];have hrl:=absR_len l;refine sadd_go (by rw[bx_size];show _+1≤_;omega) ?_;have h3e:(⟨((bx (absR l)).data.toList++(⟨#[128]⟩:ByteArray).data.toList).toArray⟩:ByteArray)=bx (absR l++[128]):=by rw[bx_data2];rfl
   rw[h3e]
   have hpd:(w64 (120-(((bx (absR l++[128])).size:Int).tmod 64))).tmod 64=(((119-l.length%64)%64:Nat):Int):=by
    rw[bx_size,YAP,List.length_singleton,hrl];have a1:((l.length%64+1:Nat):Int).tmod 64=(((l.length%64+1)%64:Nat):Int):=by rw[YAh (by omega)];omega
    rw[a1,w64_id (by omega) (by omega),YAh (by omega)];omega
   rw[hpd];have hbe:w64 ((l.length:Int)*8)=((l.length*8:Nat):Int):=w6 (by omega);rw[hbe];have hpad:padL l.length=[128]++(List.replicate ((119-l.length%64)%64) 0++be (l.length*8) 8):=rfl;have hpl:=padL_len l.length;generalize hq:(119-l.length%64)%64=q at hpad hpl;have hq64:q<64:=by omega
   refine ⟨fun y h7=>y.1=bx (absR l++padL l.length)∧Keep [] h4 h7,?_,?_⟩
   ·refine ⟨by decide,by decide,?_,?_⟩
    ·refine mk_gen (n:=q) (by omega) (by omega) fun b8 h8 hb8 k8 r8 hs8 =>?_;refine b2s_segq (xs:=List.replicate q (0:UInt8)) r8.seg fun q1 hq1 =>?_;refine sadd_go (by rw[bx_size];simp[ByteArray.size];omega) ?_;refine ZAB.s (by decide) (by decide) (by omega) fun h9 k9 =>?_;refine hq1 [] h9 k9 (by simp) _ ?_;refine sadd_go (by simp[ByteArray.size,bx,be_len];omega) ?_;refine ⟨?_,k8.n k9⟩;show _=bx (absR l++padL l.length);rw[hpad];simp[bx]
    ·refine ZAB.s (by decide) (by decide) (by omega) fun h10 k10 =>?_;refine mk_gen (n:=q) (by omega) (by omega) fun b8 h11 hb8 k11 r11 hs11 =>?_;refine b2s_seg (xs:=List.replicate q (0:UInt8)) r11.seg fun q2 =>?_;refine sadd_go (by rw[bx_size];simp[ByteArray.size];omega) ?_;refine sadd_go (by simp[ByteArray.size,bx,be_len];omega) ?_;refine ⟨?_,k10.n k11⟩;show _=bx (absR l++padL l.length);rw[hpad];simp[bx]
   ·rintro ⟨(tx:ByteArray),_⟩ h7 ⟨ex,k7⟩;dsimp only at ex ⊢;subst ex
    have hTl:(absR l++padL l.length).length=64*((absR l++padL l.length).length/64):=by
     rw[YAP,hrl,hpl];omega
    have hfold:=sha_fold l;rw[bx_size];generalize hT:absR l++padL l.length=T at hTl hfold ⊢;have hTb:T.length≤200:=by rw[←hT,YAP,hrl,hpl];omega
    generalize blks (l.length/64) l z0=zq at hz hfold;have k07:Keep [] h h7:=k04.n k7;refine lp_go (fun (y:Int×Unit) (h8:Heap)=>∃t:Nat,y.1=((64*t:Nat):Int)∧t≤T.length/64∧Keep [b2] h7 h8∧h8[b2]? = some (vobj t_8_uint32 (.ar 8 .u32) (blks t T zq))) (fun (y:Int×Unit) _=>T.length-y.1.toNat) ?_ ?_
    ·exact ⟨0,rfl,by omega,Keep.rfl,k7.g hz⟩
    ·rintro ⟨(i:Int),_⟩ h12 ⟨t,e,ht2,k12,hz12⟩;dsimp only at e ⊢;subst e;by_cases hlt2:t<T.length/64
     ·rw[if_pos (show decide (((64*t:Nat):Int)<(T.length:Int))=true from dT (by omega))];have hw:w64 (((64*t:Nat):Int)+64)=((64*(t+1):Nat):Int):=w6 (by omega);rw[hw];refine ⟨_,sm_all (k := .ar 8 .u32) hz12,?_⟩;refine ⟨by omega,by omega,by rw[bx_size];omega,?_⟩;rw[YAi,YAi,bx_ext]
      have hc:(T.take (64*(t+1))).drop (64*t)=(T.drop (64*t)).take 64:=by
       rw[YAH];congr 1;omega
      rw[hc];refine ZBN.s (by rw[YAT,YAR];omega) fun h13 k13 =>?_;rw[←blks_succ];have hz13:=k13.g hz12;refine st_all (k := .ar 8 .u32) (x':=blks (t+1) T zq) hz13 ?_;exact ⟨⟨t+1,rfl,by omega,(k12.then k13 (fun q hq _=>hq) (by simp)).then keep_set (fun q hq _=>hq) (fun q hq _=>hq),get_set hz13⟩,by omega⟩
     ·rw[if_neg (show ¬decide (((64*t:Nat):Int)<(T.length:Int))=true by simp;omega)];have htq:t=T.length/64:=by omega
      subst htq;rw[hfold] at hz12;have hsha:shaL l=outV (absZ z0 (l++padL l.length)):=rfl;generalize absZ z0 (l++padL l.length)=zz at hz12 hsha;have s1:=k1.1;have k012:Keep [] h h12:=k07.new k12 (by simp;omega);refine new_gen fun b3 h15 hb3 k15 e15 hs15 =>?_;have e15:h15[b3]? = some (vobj t_api_Hash (.ar 32 .u8) (Vector.replicate 32 (0:UInt8))):=e15;have hz15:=k15.g hz12;have k115:Keep [] h h15:=k012.n k15;have l12:=lt_of_some hz12;have c12:=k12.get (k7.g (k4.get c1 (by simp;omega))) (by simp;omega);have l1:=lt_of_some c12;refine lp_go (fun (y:Int×Unit) (h16:Heap)=>∃t:Nat,y.1=t∧t≤32∧Keep [b3] h15 h16∧∃v:Vector UInt8 32,h16[b3]? = some (vobj t_api_Hash (.ar 32 .u8) v)∧∀j:Nat,(hj:j<32)→v[j]=if j<t then outB zz j else 0) (fun (y:Int×Unit) _=>32-y.1.toNat) ?_ ?_
      ·exact ⟨0,rfl,by decide,Keep.rfl,_,e15,fun j hj=>by rw[if_neg (by omega)];simp⟩
      ·rintro ⟨(i:Int),_⟩ h16 ⟨t,e,ht32,k16,v,hv,hall⟩;dsimp only at e ⊢;subst e;by_cases hlt3:t<32
       ·rw[if_pos (show decide ((t:Int)<32)=true from dT (by omega))];have o16:=k16.get hz15 (by simp;omega);have hw1:w64 ((t:Int)+1)=((t+1:Nat):Int):=w6 (by omega)
        have hdv:w64 ((t:Int).tdiv 4)=((t/4:Nat):Int):=by
         rw[show (t:Int).tdiv 4=((t/4:Nat):Int) by rw[YAg (by omega)];omega,w64_id (by omega) (by omega)]
        have hmd:w64 (24-(w64 (8*((t:Int).tmod 4))))=((24-8*(t%4):Nat):Int):=by
         rw[show (t:Int).tmod 4=((t%4:Nat):Int) by rw[YAh (by omega)];omega,w64_id (n:=8*((t%4:Nat):Int)) (by omega) (by omega),w64_id (by omega) (by omega)];omega
        rw[hw1,hdv,hmd]
        have q1:sm .u32 ⟨b2,0+((t/4:Nat):Int).toNat*1⟩ (zz.toList.getD (t/4) 0) h16:=by
         have:=ar_sm (k := .u32) (i:=t/4) o16 (by omega);rw[YAi]
         have e:zz[t/4]'(by omega)=zz.toList.getD (t/4) 0:=by
          rw[YAL,YAM (by simp;omega)];simp
         rw[←e];exact this
        refine ⟨by decide,by omega,by omega,_,q1,by decide,by omega,by omega,by omega,?_⟩;rw[show (⟨b3,0+(t:Int).toNat*1⟩:Pl)=⟨b3,0+t*Kd.u8.size⟩ by rw[YAi];rfl];refine ar_st (k := .u8) (y:=outB zz t) hv hlt3 ?_;refine ⟨⟨t+1,rfl,by omega,k16.then keep_set (fun x hx _=>hx) (fun x hx _=>hx),_,get_set hv,fun j hj =>?_⟩,by simp;omega⟩;rw[YAq hj];split
        ·rename_i e3;subst e3;rw[if_pos (by omega)]
        ·rename_i e3
         rw[hall j hj];by_cases h5:j<t
         ·rw[if_pos h5,if_pos (by omega)]
         ·rw[if_neg h5,if_neg (by omega)]
       ·rw[if_neg (show ¬decide ((t:Int)<32)=true by simp;omega)]
        have hvo:v=shaL l:=by
         rw[hsha];apply Vector.ext;intro j hj;rw[hall j hj,if_pos (by omega)];unfold outV;simp
        refine ⟨v,sm_all (k := .ar 32 .u8) hv,?_⟩;have c16:=k16.get (k15.g c12) (by simp;omega);refine st_all (k := .ar 32 .u8) (x':=v) c16 ?_;refine ⟨v,sm_all (k := .ar 32 .u8) (get_set c16),?_⟩;rw[hvo];exact hK _ ((k115.new k16 (by simp;have:=k012.1;omega)).new keep_set (by simp;omega))
theorem ZCa.s {tag:Nat} {ps:List ByteArray} {sp:Slc} {h:Heap} {K:Kd.Ty (.ar 32 .u8)→Int→Heap→Prop} (g:Seg .s sp ps h) (ht:tag≤4) (hs:lens ps≤65536) (hlen:(tagL tag ps).length≤1000000)
 (hK:∀h',Keep [] h h'→K (shaL (tagL tag ps)) 0 h'):ZCa.C tag sp h K:=by
 apply ZCa.c;unfold ZCa.m;refine new_gen fun b1 h1 hb1 k1 e1 hs1 =>?_;have e1:h1[b1]? = some (vobj t_api_Hash (.ar 32 .u8) (Vector.replicate 32 (0:UInt8))):=e1;refine jn_at (false,()) h1 ?_ ?_
 ·rw[if_neg (by simp)];exact ⟨by simp;omega,by first | rfl | trivial⟩
 rw[if_neg (by simp)];refine bs_gen fun b2 h4 hb2 k4 r4 hs4 =>?_;have gl:=g.len;have hpn:=pieces_len ps;have htl:(tagL tag ps).length=1+(ps.flatMap pieceL).length:=by unfold tagL;rw[YAQ];omega
 refine lp_go (fun (y:Int×Slc×Int×Unit) (h5:Heap)=>∃t:Nat,y.2.2.1=t∧t≤ps.length∧y.1=((lens (ps.take t):Nat):Int)∧Keep [] h1 h5∧Row h5 t_uint8 .u8 y.2.1 (UInt8.ofNat tag::(ps.take t).flatMap pieceL)∧∀q∈own y.2.1,h1.size≤q) (fun (y:Int×Slc×Int×Unit) _=>ps.length-y.2.2.1.toNat) ?_ ?_
 ·refine ⟨0,rfl,Nat.zero_le _,rfl,k4,?_,by simp[own];omega⟩;have:u8I (tag:Int)=UInt8.ofNat tag:=u8I_nat tag;simp only [List.take_zero,YAK];rw[←this];exact r4
 ·rintro ⟨(tot:Int),(sl:Slc),(i:Int),_⟩ h5 ⟨t,e,htl',et,k5,r5,o5⟩;dsimp only at e et r5 o5 ⊢;subst e;subst et;have g5:=(g.keep (by decide) k1).keep (by decide) k5;by_cases hlt:t<ps.length
  ·rw[if_pos (show decide ((t:Int)<(sp.len:Int))=true from dT (by omega))];have hle:lens (ps.take (t+1))≤lens ps:=lens_mono (t+1);have hst:=lens_take hlt;have hgx:ps[(t:Int).toNat]? = some ps[t]:=by simp[hlt]
   refine seg_ix g5 (by omega) hgx rfl ?_;rw[w64_id (n:=65536-((lens (ps.take t):Nat):Int)) (by omega) (by omega)];rw[if_neg (by simp;omega)];refine seg_ix g5 (by omega) hgx rfl ?_;refine seg_ix g5 (by omega) hgx rfl ?_;refine ZAB.s (n:=4) (by decide) (by decide) (by omega) fun h7 k7 =>?_;have r7:=r5.keep k7 (by simp)
   have hfl:((ps.take (t+1)).flatMap pieceL).length≤(ps.flatMap pieceL).length:=by
    conv=>rhs;rw[←YAc (t+1) ps,YAI,YAP]
    omega
   rw[take_flatMap hlt,YAP] at hfl;have hpl:(pieceL ps[t]).length=4+ps[t].size:=by unfold pieceL;rw[YAP,be_len];rfl
   refine ap_row (k := .u8) (ys:=be ps[t].size 4) r7 (by rw[ba_size]) rfl (by rw[ba_size,be_len,YAQ];omega) fun s8 h8 r8 k8 o8 =>?_;have k58:Keep [] h1 h8:=(k5.n k7).new k8 o5;refine seg_ix ((g.keep (by decide) k1).keep (by decide) k58) (by omega) hgx rfl ?_;refine ap_row (k := .u8) (ys:=ps[t].data.toList) r8 rfl rfl (by rw[YAP,YAQ,be_len];omega) fun s9 h9 r9 k9 o9 =>?_
   have own8:∀q∈own s8,h1.size≤q:=fun q hq=>by
    have:=k5.1;have:=k7.1;rcases own_of o8 q hq with e | e
    ·exact o5 q e
    ·omega
   have hw1:w64 (((lens (ps.take t):Nat):Int)+(ps[t].size:Int))=((lens (ps.take (t+1)):Nat):Int):=w6 (by omega);have hw2:w64 ((t:Int)+1)=((t+1:Nat):Int):=w6 (by omega);rw[hw1,hw2];refine ⟨⟨t+1,rfl,by omega,rfl,k58.new k9 own8,?_,fun q hq =>?_⟩,by simp;omega⟩
   ·have e9:UInt8.ofNat tag::(ps.take (t+1)).flatMap pieceL=UInt8.ofNat tag::(ps.take t).flatMap pieceL++be ps[t].size 4++ps[t].data.toList:=by
     rw[take_flatMap hlt];unfold pieceL;simp only [YAC,YAA]
    rw[e9];exact r9
   ·have:=k58.1;rcases own_of o9 q hq with e | e
    ·exact own8 q e
    ·omega
  ·rw[if_neg (show ¬decide ((t:Int)<(sp.len:Int))=true by simp;omega)];have htp:t=ps.length:=by omega
   subst htp;rw[YAe (YAk _)] at r5;refine b2s_seg r5.seg fun q =>?_;refine ZCZ.s (l:=UInt8.ofNat tag::ps.flatMap pieceL) (by show (tagL tag ps).length≤_;omega) fun h10 k10 =>?_;have e10:=k10.g (k5.g e1);refine st_all (k := .ar 32 .u8) (x':=shaL (tagL tag ps)) e10 ?_;refine ⟨_,sm_all (k := .ar 32 .u8) (get_set e10),?_⟩;exact hK _ (((k1.n k5).n k10).new keep_set (by simp;omega))
end Go.Proofs.Tryz
