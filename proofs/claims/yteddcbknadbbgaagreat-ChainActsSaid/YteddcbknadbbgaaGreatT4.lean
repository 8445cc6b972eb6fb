import Derived.Test.YteddcbknadbbgaaGreatT3
import Derived.Test.YteddcbknadbbgaaGreatT2
import Derived.Test.YteddcbknadbbgaaGreatModels3
import Derived.Test.YteddcbknadbbgaaGreatT1
set_option linter.unusedVariables false
set_option linter.unusedSimpArgs false
set_option maxRecDepth 100000
open List renaming all_eq_true → YAA, append_assoc → YAB, append_eq_nil_iff → YAC, append_nil → YAD, drop_drop → YAE, drop_eq_nil_of_le → YAF, drop_left' → YAG, drop_zero → YAH, eq_nil_iff_forall_not_mem → YAI, eq_of_mem_replicate → YAJ, flatMap_append → YAK, flatMap_cons → YAL, flatMap_nil → YAM, getElem?_eq_getElem → YAN, getElem_map → YAO, getElem_mem → YAP, length_append → YAQ, length_cons → YAR, length_drop → YAS, length_map → YAT, length_nil → YAU, length_take → YAV, map_append → YAW, map_cons → YAX, map_map → YAY, map_nil → YAZ, mem_append → YAa, mem_cons → YAb, mem_map_of_mem → YAc, mem_singleton → YAd, not_mem_nil → YAe, take_left' → YAf, take_length → YAg, take_of_length_le → YAh, take_subset → YAi, take_succ_eq_append_getElem → YAj
open Int renaming toNat_natCast → YAk
open Nat renaming le_refl → YAl, zero_add → YAm, zero_le → YAn
open Bool renaming and_eq_true → YAo, true_and → YAp
namespace Go.Proofs.Tryz
open Go Go.Al
section
variable {t0:Slc} {ss:List Slc} {vv:List (List NdV)} {X:Fs} {h:Heap}
theorem StW.lens (w:StW h t0 ss vv X):t0.len=X.length∧ss.length=X.length∧vv.length=X.length:=by
 have h1:=w.t.len;have h2:=w.r.len;have h3:=w.n.len;exact ⟨by omega,by omega,by omega⟩
theorem StW.tab (w:StW h t0 ss vv X) {o:Nat} (ho:o<X.length) {K:Slc→Prop} (hK:K (ss[o]'(by have:=w.lens;omega))):ix t0 (o:Int) 1 fun l=>ld .sl l h K:=by
 have:=w.lens;exact seg_ix w.t (x:=ss[o]'(by omega)) (by omega) (by first | (simp;done) | (simp;omega)) rfl hK
theorem StW.row (w:StW h t0 ss vv X) {o:Nat} (ho:o<X.length):Seg NdK (ss[o]'(by have:=w.lens;omega)) (vv[o]'(by have:=w.lens;omega)) h:=by
 have:=w.lens;exact w.r.getI (by omega) (by omega)
theorem StW.nds (w:StW h t0 ss vv X) {o:Nat} (ho:o<X.length):All2 (NdAt h) (vv[o]'(by have:=w.lens;omega)) X[o]:=by
 have:=w.lens;exact w.n.getI (by omega) ho
theorem StW.rlen (w:StW h t0 ss vv X) {o:Nat} (ho:o<X.length):(ss[o]'(by have:=w.lens;omega)).len=(X[o]).length∧(vv[o]'(by have:=w.lens;omega)).length=(X[o]).length:=by
 have h1:=(w.row ho).len;have h2:=(w.nds ho).len;exact ⟨by omega,h2⟩
theorem StW.nd (w:StW h t0 ss vv X) {o j:Nat} (ho:o<X.length) (hj:j<(X[o]).length) {K:NdV→Prop} (hK:∀v,NdAt h v (X[o])[j]→K v):ix (ss[o]'(by have:=w.lens;omega)) (j:Int) 6 fun l=>ld NdK l h K:=by
 have h1:=w.rlen ho;exact seg_ix (w.row ho) (x:=(vv[o]'(by have:=w.lens;omega))[j]'(by omega)) (by omega) (by first | (simp;done) | (simp;omega)) rfl (hK _ ((w.nds ho).getI (by omega) hj))
theorem StW.ndl (w:StW h t0 ss vv X) {o j:Nat} (ho:o<X.length) (hj:j<(X[o]).length) {K:Pl→Prop} (hK:∀l v,sm NdK l v h→NdAt h v (X[o])[j]→K l):ix (ss[o]'(by have:=w.lens;omega)) (j:Int) 6 fun l=>K l:=by
 have h1:=w.rlen ho;refine seg_ixl (w.row ho) (x:=(vv[o]'(by have:=w.lens;omega))[j]'(by omega)) (by omega) (by first | (simp;done) | (simp;omega)) rfl fun l hl=>hK l _ hl ((w.nds ho).getI (by omega) hj)
theorem ZDb.s {r:Rf} {K:Int→Heap→Prop} (w:StW h t0 ss vv X) (hl:∀t∈X,t.length≤9223372036854775807)
 (hN:findN X r=none→∀h',Keep [] h h'→K (-1) h')
 (hS:∀o j,(ho:o<X.length)→(hj:j<(X[o]).length)→r.1=(o:Int)→findN X r=some (X[o])[j]→∀h',Keep [] h h'→K (j:Int) h'):ZDb.C (t0,()) r h K:=by
 obtain ⟨(ro:Int),(rn:Int),⟨⟩⟩:=r;apply ZDb.c;unfold ZDb.m;refine new_gen fun b1 h1 hb1 k1 e1 hs1 =>?_;have e1:h1[b1]? = some (vobj t_api_State StaK ((t0,()):StaK.Ty)):=e1;refine new_gen fun b2 h2 hb2 k2 e2 hs2 =>?_;have e2:h2[b2]? = some (vobj t_api_Ref RF ((ro,(rn,())):RF.Ty)):=e2;have e1:=k2.g e1;have k02:Keep [] h h2:=k1.n k2;have w2:=w.keep k02;have f0:sm .sl ((Pl.mk b1 0).fld 0) t0 h2:=sm_sub (sm_all e1) (by decide) rfl;have fo:sm .i ((Pl.mk b2 0).fld 0) ro h2:=sm_sub (sm_all e2) (by decide) rfl;have fn:sm .i ((Pl.mk b2 0).fld 1) rn h2:=sm_sub (sm_all e2) (by decide) rfl;have L:=w2.lens;by_cases hr:0≤ro∧ro<X.length
 ·refine jn_at (false,()) h2 ?_ ?_
  ·refine ld_go fo ?_;rw[if_neg (show ¬decide (ro<0)=true by simp;omega)];refine ld_go fo (ld_go f0 ⟨?_,by first | rfl | trivial⟩);rw[dF (show ¬ro≥(t0.len:Int) by omega)]
  rw[if_neg (by simp)];obtain ⟨o,rfl⟩:∃o:Nat,ro=o:=⟨ro.toNat,by omega⟩;have ho:o<X.length:=by omega
  have hlo:=hl _ (YAP ho);have rl:=w2.rlen ho;refine lp_go (fun (y:Int×Unit) (h3:Heap)=>h3=h2∧∃n:Nat,y.1=n∧n≤(X[o]).length∧∀j,(hj:j<(X[o]).length)→j<n→decide ((X[o])[j].num=rn)=false) (fun (y:Int×Unit) _=>(X[o]).length-y.1.toNat) ?_ ?_
  ·exact ⟨rfl,0,rfl,by omega,fun j hj h=>by omega⟩
  ·rintro ⟨(i:Int),_⟩ h3 ⟨rfl,n,e,hn,hall⟩;dsimp only at e ⊢;subst e;refine ld_go f0 (ld_go fo (w2.tab ho ?_));by_cases hlt:n<(X[o]).length
   ·rw[if_pos (show decide ((n:Int)<((ss[o]'(by omega)).len:Int))=true from dT (by omega))];have hw:w64 ((n:Int)+1)=((n+1:Nat):Int):=w6 (by omega);rw[hw];refine ld_go f0 (ld_go fo (w2.tab ho ?_));refine w2.ndl ho hlt fun l v hsm ha =>?_;have g:=(nd_f hsm).1;rw[ha.n] at g;refine ld_go g (ld_go fn ?_);by_cases hq:(X[o])[n].num=rn
    ·rw[if_pos (show decide ((X[o])[n].num=rn)=true from dT hq)];refine hS o n ho hlt rfl ?_ h3 k02;unfold findN;rw[tabOf_at ho];exact findG_at hlt hall (dT hq)
    ·rw[if_neg (show ¬decide ((X[o])[n].num=rn)=true by simpa using hq)];refine ⟨⟨by first | rfl | trivial,n+1,rfl,by omega,fun j hj hjn =>?_⟩,by simp;omega⟩;by_cases hje:j=n
     ·subst hje;exact dF hq
     ·exact hall j hj (by omega)
   ·rw[if_neg (show ¬decide ((n:Int)<((ss[o]'(by omega)).len:Int))=true by simp;omega)];refine hN ?_ h3 k02;unfold findN;rw[tabOf_at ho];exact findG_no fun j hj=>hall j hj (by omega)
 ·refine jn_at (true,()) h2 ?_ ?_
  ·refine ld_go fo ?_;by_cases h0:ro<0
   ·rw[if_pos (show decide (ro<0)=true from dT h0)];exact ⟨rfl,by first | rfl | trivial⟩
   ·rw[if_neg (show ¬decide (ro<0)=true by simp;omega)];refine ld_go fo (ld_go f0 ⟨?_,by first | rfl | trivial⟩);rw[dT (show ro≥(t0.len:Int) by omega)]
  rw[if_pos (by rfl)];refine hN ?_ h2 k02;unfold findN tabOf;rw[if_neg hr];rfl
theorem tabMay_iff {t:Tab}:tabMay t=true↔∀j,(hj:j<t.length)→ndMay t[j]=true∧(0<j→(t[j-1]'(by omega)).num<t[j].num):=by
 unfold tabMay;rw[YAo,risesN_iff,YAA]
 constructor
 ·rintro ⟨h1,h2⟩ j hj;refine ⟨h2 _ (YAP hj),fun h0 =>?_⟩;have:=h1 (j-1) (by omega);have e:j-1+1=j:=by omega
  simp only [e] at this;exact this
 ·intro hh;refine ⟨fun j hj =>?_,fun x hx =>?_⟩
  ·exact (hh (j+1) hj).2 (by omega)
  ·obtain ⟨j,hj,rfl⟩:=List.getElem_of_mem hx;exact (hh j hj).1
theorem ZBj.s {K:Bool→Heap→Prop} (w:StW h t0 ss vv X) (hl:Lens X) (hK:∀h',Keep [] h h'→K (stMay X) h'):ZBj.C (t0,()) h K:=by
 apply ZBj.c;unfold ZBj.m;refine new_gen fun b1 h1 hb1 k1 e1 hs1 =>?_;have e1:h1[b1]? = some (vobj t_api_State StaK ((t0,()):StaK.Ty)):=e1;have w1:=w.keep k1;have L:=w1.lens;have f0:∀h',Keep [] h1 h'→sm .sl ((Pl.mk b1 0).fld 0) t0 h':=fun h' k=>sm_sub (sm_all (k.g e1)) (by decide) rfl;by_cases hlen:1≤X.length∧X.length≤24
 case neg=>
  refine jn_at (true,()) h1 ?_ ?_
  ·refine ld_go (f0 h1 Keep.rfl) ?_;by_cases h0:X.length<1
   ·rw[if_pos (show decide ((t0.len:Int)<1)=true from dT (by omega))];exact ⟨rfl,by first | rfl | trivial⟩
   ·rw[if_neg (show ¬decide ((t0.len:Int)<1)=true by simp;omega)];refine ld_go (f0 h1 Keep.rfl) ⟨?_,by first | rfl | trivial⟩;rw[dT (show (t0.len:Int)>24 by omega)]
  rw[if_pos (by rfl)]
  have hm:stMay X=false:=by
   cases hm:stMay X with
   | false=>rfl
   | true=>have:=st_ok hm;exact absurd ⟨this.1,this.2.1⟩ hlen
  rw[hm] at hK;exact hK h1 k1
 refine jn_at (false,()) h1 ?_ ?_
 ·refine ld_go (f0 h1 Keep.rfl) ?_;rw[if_neg (show ¬decide ((t0.len:Int)<1)=true by simp;omega)];refine ld_go (f0 h1 Keep.rfl) ⟨?_,by first | rfl | trivial⟩;rw[dF (show ¬(t0.len:Int)>24 by omega)]
 rw[if_neg (by simp)]
 have bad:∀o,(ho:o<X.length)→tabMay X[o]=false→∀h',Keep [] h h'→K false h':=fun o ho hb h' k=>by
  have hm:stMay X=false:=by
   cases hm:stMay X with
   | false=>rfl
   | true=>have:=(st_ok hm).2.2.1 _ (YAP ho);rw[hb] at this;simp at this
  rw[hm] at hK;exact hK h' k
 refine lp_go (fun (y:Int×Unit) (h3:Heap)=>∃n:Nat,y.1=n∧n≤X.length∧Keep [] h1 h3∧∀j,(hj:j<X.length)→j<n→tabMay X[j]=true) (fun (y:Int×Unit) _=>X.length-y.1.toNat) ?_ ?_
 ·exact ⟨0,rfl,by omega,Keep.rfl,fun j hj h=>by omega⟩
 ·rintro ⟨(i:Int),_⟩ h3 ⟨n,e,hn,k3,hall⟩;dsimp only at e ⊢;subst e;have k03:Keep [] h h3:=k1.n k3;refine ld_go (f0 h3 k3) ?_;by_cases hlt:n<X.length
  ·rw[if_pos (show decide ((n:Int)<(t0.len:Int))=true from dT (by omega))];have hw:w64 ((n:Int)+1)=((n+1:Nat):Int):=w6 (by omega);rw[hw];have w3:=w1.keep k3;refine ld_go (f0 h3 k3) (w3.tab hlt ?_);have rl:=w3.rlen hlt;have hlo:=(hl.2 _ (YAP hlt)).1;refine lp_go (fun (y:Int×Unit) (h4:Heap)=>∃q:Nat,y.1=q∧q≤(X[n]).length∧Keep [] h1 h4∧∀j,(hj:j<(X[n]).length)→j<q→ndMay (X[n])[j]=true∧(0<j→((X[n])[j-1]'(by omega)).num<(X[n])[j].num)) (fun (y:Int×Unit) _=>(X[n]).length-y.1.toNat) ?_ ?_
   ·exact ⟨0,rfl,by omega,k3,fun j hj h=>by omega⟩
   ·rintro ⟨(i:Int),_⟩ h4 ⟨q,e,hq,k4,hall2⟩;dsimp only at e ⊢;subst e;have w4:=w1.keep k4;have k04:Keep [] h h4:=k1.n k4;by_cases hlq:q<(X[n]).length
    ·rw[if_pos (show decide ((q:Int)<((ss[n]'(by omega)).len:Int))=true from dT (by omega))];have hwq:w64 ((q:Int)+1)=((q+1:Nat):Int):=w6 (by omega);rw[hwq]
     have no:¬(ndMay (X[n])[q]=true∧(0<q→((X[n])[q-1]'(by omega)).num<(X[n])[q].num))→tabMay X[n]=false:=fun hno=>by
      cases hm:tabMay X[n] with
      | false=>rfl
      | true=>exact absurd (tabMay_iff.1 hm q hlq) hno
     refine jn_in (fun _ h'=>Keep [] h1 h'∧ndMay (X[n])[q]=true∧(0<q→((X[n])[q-1]'(by omega)).num<(X[n])[q].num)) ?_ ?_
     ·refine jn_in (fun y h'=>Keep [] h1 h'∧y.1 = !decide (ndMay (X[n])[q]=true∧(0<q→((X[n])[q-1]'(by omega)).num<(X[n])[q].num))) ?_ ?_
      ·refine w4.nd hlt hlq fun v ha =>?_;refine ZCF.s ha (hl.2 _ (YAP hlt) |>.2 _ (YAP hlq)) fun h7 k7 =>?_;have k17:Keep [] h1 h7:=k4.n k7;have w7:=w1.keep k17
       cases hm:ndMay (X[n])[q] with
       | false=>rw[if_pos (by rfl)];exact ⟨k17,by simp⟩
       | true =>
         rw[if_neg (by simp)];by_cases h0:0<q
         ·rw[if_pos (show decide ((q:Int)>0)=true from dT (by omega))];have hwm:w64 ((q:Int)-1)=((q-1:Nat):Int):=w6 (by omega);rw[hwm];refine w7.ndl hlt (show q-1<(X[n]).length by omega) fun l v hs ha =>?_;have g:=(nd_f hs).1;rw[ha.n] at g;refine ld_go g ?_;refine w7.ndl hlt hlq fun l v hs ha =>?_;have g':=(nd_f hs).1;rw[ha.n] at g';refine ld_go g' ⟨k17,?_⟩;by_cases hlt2:((X[n])[q-1]'(by omega)).num<(X[n])[q].num
          ·have hd:true=true∧(0<q→((X[n])[q-1]'(by omega)).num<(X[n])[q].num):=⟨rfl,fun _=>hlt2⟩;rw[dT hd];show decide (((X[n])[q-1]'(by omega)).num≥(X[n])[q].num)=false;exact dF (show ¬((X[n])[q].num≤((X[n])[q-1]'(by omega)).num) by omega)
          ·have hd:¬(true=true∧(0<q→((X[n])[q-1]'(by omega)).num<(X[n])[q].num)):=fun h=>hlt2 (h.2 h0);rw[dF hd];show decide (((X[n])[q-1]'(by omega)).num≥(X[n])[q].num)=true;exact dT (show (X[n])[q].num≤((X[n])[q-1]'(by omega)).num by omega)
         ·rw[if_neg (show ¬decide ((q:Int)>0)=true by simp;omega)];refine ⟨k17,?_⟩;rw[dT (⟨rfl,fun h=>absurd h h0⟩:true=true∧(0<q→((X[n])[q-1]'(by omega)).num<(X[n])[q].num))]
          rfl
      ·rintro ⟨(y:Bool),_⟩ h6 ⟨k6,ey⟩;dsimp only at ey ⊢;rw[ey];by_cases hok:ndMay (X[n])[q]=true∧(0<q→((X[n])[q-1]'(by omega)).num<(X[n])[q].num)
       ·rw[dT hok,if_neg (by simp)];exact ⟨k6,hok⟩
       ·rw[dF hok,if_pos (by rfl)];exact bad n hlt (no hok) h6 (k1.n k6)
     ·rintro ⟨⟩ h5 ⟨k5,hok⟩;refine ⟨⟨q+1,rfl,by omega,k5,fun j hj hjq =>?_⟩,by simp;omega⟩;by_cases hje:j=q
      ·subst hje;exact hok
      ·exact hall2 j hj (by omega)
    ·rw[if_neg (show ¬decide ((q:Int)<((ss[n]'(by omega)).len:Int))=true by simp;omega)];refine ⟨⟨n+1,rfl,by omega,k4,fun j hj hjn =>?_⟩,by simp;omega⟩;by_cases hje:j=n
     ·subst hje;exact tabMay_iff.2 fun p hp=>hall2 p hp (by omega)
     ·exact hall j hj (by omega)
  ·rw[if_neg (show ¬decide ((n:Int)<(t0.len:Int))=true by simp;omega)];have w3:=w1.keep k3;refine ld_go (sm_all (k3.g e1)) ?_
   have all:X.all tabMay=true:=List.all_eq_true.2 fun t ht=>by
    obtain ⟨j,hj,rfl⟩:=List.getElem_of_mem ht;exact hall j hj (by omega)
   have hst:stMay X=(match findN X rootR with | some x=>decide (x.kind=1) | none=>false):=by
    unfold stMay;rw[all,dT hlen.1,dT hlen.2];rfl
   refine ZDb.s w3 (fun t ht=>(hl.2 t ht).1) (fun hnone h8 k8 =>?_) fun o j ho hj hro hfi h8 k8 =>?_
   ·rw[show findN X rootR=none from hnone] at hst;have k08:Keep [] h h8:=k03.n k8;refine jn_at (false,()) h8 ?_ ?_
    ·rw[if_neg (by decide)];exact ⟨rfl,by first | rfl | trivial⟩
    ·rw[hst] at hK;exact hK h8 k08
   ·have k08:Keep [] h h8:=k03.n k8;have k18:Keep [] h1 h8:=k3.n k8;have w8:=w1.keep k18;have ho0:o=0:=by have:(0:Int)=(o:Int):=hro;omega
    subst ho0;rw[show findN X rootR=some (X[0])[j] from hfi] at hst;refine jn_at (decide ((X[0])[j].kind=1),()) h8 ?_ ?_
    ·rw[if_pos (show decide ((j:Int)≥0)=true from dT (by omega))];refine ld_go (f0 h8 k18) ?_
     have ht:=w8.tab ho (K:=fun x=>ix x (j:Int) 6 fun l6=>ld .i (l6.fld 1) h8 fun x14=>(decide (x14=(1:Int)),())=(decide ((X[0])[j].kind=1),())∧h8=h8) (w8.ndl ho hj fun l v hs ha=>by
      have g:=(nd_f hs).2.1;rw[ha.k] at g;exact ld_go g ⟨rfl,rfl⟩)
     exact ht
    ·rw[hst] at hK;exact hK h8 k08
end
theorem lv_go:∀ {ds:List Nat} {h:Heap} {K:Heap→Prop},(∀d∈ds,h[d]? = some (.deferred (some [])))→ds.Nodup→(∀h',Keep ds h h'→K h')→lv ds h K
 | [],h,K,_,_,hK=>hK h Keep.rfl
 | d :: r, h, K, hd, hn, hK => by
   obtain ⟨h1,h2⟩:=List.nodup_cons.1 hn;refine ⟨hd d (by simp),lv_go (fun q hq=>get_set_ne (hd q (by simp[hq])) (fun e=>h1 (e ▸ hq))) h2 fun h' k'=>hK h' (keep_set.then k' (fun q hq _ =>?_) (fun q hq _=>by simp[hq]))⟩;simp at hq;simp[hq]
theorem may_ino {t:Tab} (h:tabMay t=true):itabMay (t.map inoOf)=true:=by
 obtain ⟨h1,h2,h3⟩:=tab_ok h;unfold itabMay;rw[YAo]
 constructor
 ·rw[YAA];intro y hy;obtain ⟨x,hx,rfl⟩:=List.mem_map.1 hy;obtain ⟨a,b,c,d,e,f,g,i⟩:=nd_ok (h2 x hx);unfold inodMay ndN inoOf;have hz:=(nd_small (h2 x hx)).1
  have:(x.data.size:Int)≤if x.kind=1 then 0 else 4096:=by
   split
   ·rename_i hk
    rw[(g hk).1];decide
   ·omega
  simp[a,b,c,d,e,f,this]
 ·rw[risesO_iff];intro j hj;simp only [YAO];exact (risesN_iff t).1 h1 j (by simpa using hj)
theorem tabText_size {t:Tab} (h:t.length≤32):(tabText t).size≤1218:=by
 unfold tabText itabBytes;rw[bx_size];simp only [YAQ,be_len,itabFlat,YAT];omega
theorem flatObjs_len:∀ {l:Tab},(∀x∈l,ndMay x=true)→(l.flatMap ndObjs).length≤73*l.length
 | [],_=>by simp
 | a :: r, h => by
   have h1:=flatObjs_len (l:=r) fun x hx=>h x (by simp[hx]);have h2:=(ndObjs_len (h a (by simp))).2;rw[YAL,YAQ,YAR];omega
theorem vobj_ne {h:Heap} {b T T':Nat} {k k':Kd} {x:k.Ty} {y:k'.Ty} (e:h[b]? = some (vobj T k x)) (e':h[b]? = some (vobj T' k' y)) (hT:T≠T'):False:=by
 have:=Option.some.inj (e.symm.trans e');unfold vobj at this
 injection this with _ h2 _
 exact hT h2
structure BdI (h0:Heap) (b2 b3 b4 c0 l:Nat) (sl:Slc) (ob:Obj) (L:List ByteArray) (ns:List Ino) (s:Slc) (m:Option Nat) (sN:Slc) (hh:Heap):Prop where
 ls:LsAt hh b2 s m L
 rw:Row hh t_api_Inode InK sN (ns.map inoV)
 e4:hh[b4]? = some (vobj t_s_api_Inode .sl sN)
 e3:hh[b3]? = some (vobj t_p_object_List_string .p (some ⟨b2,0⟩))
 ec:hh[c0]? = some (vobj t_s_api_Node .sl sl)
 el:hh[l]? = some ob
 k:Keep [] h0 hh
 n1:l∉lsFp b2 s m
 n2:l∉own sN
 lo:∀q∈lsFp b2 s m++own sN++[b4,l],h0.size≤q
def bdW (b2 b4 l:Nat) (s:Slc) (m:Option Nat) (sN:Slc):List Nat:=lsFp b2 s m++own sN++[b4,l]
theorem BdI.keep0 {h0 hh h':Heap} {b2 b3 b4 c0 l:Nat} {sl:Slc} {ob:Obj} {L:List ByteArray} {ns:List Ino} {s:Slc} {m:Option Nat} {sN:Slc} (i:BdI h0 b2 b3 b4 c0 l sl ob L ns s m sN hh) (k:Keep [] hh h'):BdI h0 b2 b3 b4 c0 l sl ob L ns s m sN h':=
 ⟨i.ls.keep0 k,i.rw.keep k (by simp),k.g i.e4,k.g i.e3,k.g i.ec,k.g i.el,i.k.n k,i.n1,i.n2,i.lo⟩
theorem BdI.lt {h0 hh:Heap} {b2 b3 b4 c0 l:Nat} {sl:Slc} {ob:Obj} {L:List ByteArray} {ns:List Ino} {s:Slc} {m:Option Nat} {sN:Slc} (i:BdI h0 b2 b3 b4 c0 l sl ob L ns s m sN hh):∀q∈bdW b2 b4 l s m sN,q<hh.size:=fun q hq=>by
 simp only [bdW,YAa,YAb,YAe,or_false] at hq;rcases hq with (h | h) | rfl | rfl
 ·exact i.ls.lt q h
 ·exact i.rw.lt q h
 ·exact lt_of_some i.e4
 ·exact lt_of_some i.el
theorem BdI.turn {h0 hh:Heap} {b2 b3 b4 c0 l:Nat} {sl:Slc} {ob ob':Obj} {L:List ByteArray} {ns:List Ino} {s:Slc} {m:Option Nat} {sN:Slc} (i:BdI h0 b2 b3 b4 c0 l sl ob L ns s m sN hh) (c3:b3≠l) (c4:b4≠l) (cc:c0≠l):BdI h0 b2 b3 b4 c0 l sl ob' L ns s m sN (hh.setIfInBounds l ob'):=by
 have ks:Keep [l] hh (hh.setIfInBounds l ob'):=keep_set;exact ⟨i.ls.keep ks (fun q hq hm=>by simp at hm;subst hm;exact i.n1 hq),i.rw.keep ks (fun q hq hm=>by simp at hm;subst hm;exact i.n2 hq),ks.get i.e4 (by simpa using c4),ks.get i.e3 (by simpa using c3),ks.get i.ec (by simpa using cc),get_set i.el,i.k.new ks (fun q hq=>by simp at hq;subst hq;exact i.lo _ (by simp)),i.n1,i.n2,i.lo⟩
theorem ZCr.s {t0:Slc} {ss:List Slc} {vv:List (List NdV)} {X:Fs} {h:Heap} {K:Slc→Slc→Int→Heap→Prop} (w:StW h t0 ss vv X) (sb:∀t∈X,t.length≤9223372036854775807)
 (hbad:stMay X=false→∀h',Keep [] h h'→K ⟨none,0,0⟩ ⟨none,0,0⟩ 1500 h')
 (hok:stMay X=true→∀h' o1 o2,Keep [] h h'→Row h' t_api_Hash HK o1 (buildH X)→Row h' t_string .s o2 (buildO X)→(∀q∈own o1,h.size≤q)→(∀q∈own o2,h.size≤q)→K o1 o2 0 h'):ZCr.C (t0,()) h K:=by
 apply ZCr.c;unfold ZCr.m;refine new_gen fun b1 h1 hb1 k1 e1 hs1 =>?_;have e1:h1[b1]? = some (vobj t_api_State StaK ((t0,()):StaK.Ty)):=e1;refine ld_go (sm_all e1) ?_;refine ZDP.s (w.keep k1) sb fun h2 k2 =>?_;have k02:Keep [] h h2:=k1.n k2
 cases hm:stMay X with
 | false =>
   rw[if_pos (by rfl)];exact hbad hm h2 k02
 | true=>
 rw[if_neg (by simp)];obtain ⟨x1,x2,x3,_⟩:=st_ok hm;refine new_gen fun b2 h3 hb2 k3 e3 hs3 =>?_;refine new_st_gen fun b3 h5 hb3 k5 e5 hs5 =>?_;have e5:h5[b3]? = some (vobj t_p_object_List_string .p (some ⟨b2,0⟩)):=e5;have i5:=(LsAt.new e3).keep0 k5;have e15:h5[b1]? = some (vobj t_api_State StaK ((t0,()):StaK.Ty)):=k5.g (k3.g (k2.g e1));refine ld_go (sm_sub (k' := .sl) (y:=t0) (n:=0) (sm_all e15) (by decide) rfl) ?_;have k05:Keep [] h h5:=(k02.n k3).n k5;have L0:=w.lens;refine lp_go (fun (y:List Nat×Slc×Int×Unit) (h6:Heap)=>∃n s m,y.2.2.1=((n:Nat):Int)∧n≤X.length∧Keep [] h h6∧LsAt h6 b2 s m (onceL [] ((X.take n).flatMap tabObjs))∧(∀q∈lsFp b2 s m,h.size≤q)∧h6[b3]? = some (vobj t_p_object_List_string .p (some ⟨b2,0⟩))∧Row h6 t_api_Hash HK y.2.1 ((X.take n).map fun t=>hashS (tabText t))∧(∀q∈own y.2.1,h.size≤q)∧(∀d∈y.1,h6[d]? = some (.deferred (some []))∧h.size≤d)∧y.1.Nodup) (fun (y:List Nat×Slc×Int×Unit) _=>X.length-y.2.2.1.toNat) ?_ ?_
 ·have s2:=k02.1;exact ⟨0,⟨none,0,0⟩,none,rfl,YAn _,k05,i5,fun q hq=>by simp[lsFp,own] at hq;omega,e5,Row.nil,by simp[own],by simp,List.nodup_nil⟩
 ·rintro ⟨(ds:List Nat),(hs:Slc),(i:Int),_⟩ h6 ⟨n,s,m,e,hn,k6,i6,lo6,e36,r6,o6,d6,nd6⟩;dsimp only at e r6 o6 d6 nd6 ⊢;subst e;by_cases hlt:n<X.length
  case neg=>
   rw[if_neg (show ¬decide ((n:Int)<(t0.len:Int))=true by simp;omega)];obtain rfl:n=X.length:=by omega
   rw[YAh (YAl _)] at i6 r6;refine ld_go (sm_all e36) (nck_go (ld_go (sm_fld i6.o rfl (by decide)) ?_));refine lv_go (fun d hd=>(d6 d hd).1) nd6 fun h7 k7 =>?_
   have nD:∀ {T:Nat} {k:Kd} {u:Slc} {xs:List k.Ty},Row h6 T k u xs→∀q∈own u,q∉ds:=fun r q hq hm=>by
    have e1:=(d6 q hm).1;rcases r with ⟨e,_⟩ | ⟨b,zs,e,_,_,e4⟩
    ·rw[e] at hq;simp[own] at hq
    ·have:q=b:=by unfold own at hq;rw[e] at hq;simpa using hq
     subst this;rw[e4] at e1;simp[robj] at e1
   exact hok hm h7 hs s (k6.new k7 fun d hd=>(d6 d hd).2) (r6.keep k7 (nD r6)) (i6.r.keep k7 (nD i6.r)) o6 (fun q hq=>lo6 q (by simp[lsFp,hq]))
  rw[if_pos (show decide ((n:Int)<(t0.len:Int))=true from dT (by omega))];have hwn:w64 ((n:Int)+1)=((n+1:Nat):Int):=w6 (by omega);rw[hwn];have w6:=w.keep k6;refine w6.tab hlt ?_;have gW:∀hh,Keep [] h hh→Seg NdK (ss[n]'(by omega)) (vv[n]'(by omega)) hh∧All2 (NdAt hh) (vv[n]'(by omega)) X[n]:=fun hh kk=>⟨(w.keep kk).row hlt,(w.keep kk).nds hlt⟩;have htm:=x3 _ (YAP hlt);obtain ⟨_,tm2,tm3⟩:=tab_ok htm;have htake:X.take (n+1)=X.take n++[X[n]]:=YAj hlt
  have hfl:((X.take n).flatMap tabObjs).length≤2400*n:=by
   have:∀(l:Fs),(∀t∈l,tabMay t=true)→(l.flatMap tabObjs).length≤2400*l.length:=by
    intro l
    induction l with
    | nil=>intro _;simp
    | cons a r ih =>
      intro h;have h1:=ih fun x hx=>h x (by simp[hx]);obtain ⟨_,q2,q3⟩:=tab_ok (h a (by simp));have h2:=flatObjs_len q2;rw[YAL,YAQ,YAR];unfold tabObjs at h1 ⊢;rw[YAQ,YAR,YAU];omega
   have h1:=this (X.take n) (fun x hx=>x3 x (YAi _ _ hx));rw[YAV] at h1;omega
  have hLl:=onceL_len (L:=([]:List ByteArray)) (xs:=(X.take n).flatMap tabObjs);simp only [YAU,YAm] at hLl
  have hLn:onceL [] ((X.take (n+1)).flatMap tabObjs)=once (onceL (onceL [] ((X.take n).flatMap tabObjs)) (X[n].flatMap ndObjs)) (tabText X[n]):=by
   rw[htake,YAK,onceL_app];simp only [YAL,YAM,YAD];rw[show tabObjs X[n]=X[n].flatMap ndObjs++[tabText X[n]] from rfl,onceL_app,onceL_one]
  have hHn:(X.take (n+1)).map (fun t=>hashS (tabText t))=(X.take n).map (fun t=>hashS (tabText t))++[hashS (tabText X[n])]:=by rw[htake,YAW];rfl
  have hHl:((X.take n).map fun t=>hashS (tabText t)).length≤24:=by simp;omega
  generalize onceL [] ((X.take n).flatMap tabObjs)=L at i6 hLl hLn;generalize ((X.take n).map fun t=>hashS (tabText t))=H at r6 hHn hHl;generalize X[n]=t at *;generalize ss[n]'(by omega)=sl at *;generalize vv[n]'(by omega)=vs at *;refine new_gen fun b4 h7 hb4 k7 e7 hs7 =>?_;have e7:h7[b4]? = some (vobj t_s_api_Inode .sl ⟨none,0,0⟩):=e7;apply ZDQ.c;unfold ZDQ.m;refine new_gen fun c0 h8 hc0 k8 ec hs8 =>?_;have ec:h8[c0]? = some (vobj t_s_api_Node .sl sl):=ec;have k68:Keep [] h6 h8:=k7.n k8;have k08:Keep [] h h8:=k6.n k68;refine ⟨⟨ZAo.n,ZAo.fn,_,_,rfl,by kernel_rfl,by kernel_rfl,by kernel_rfl⟩,fun o hyd =>?_⟩;generalize hl:h8.size+1=l at hyd ⊢;have kH:Keep [] h8 ((h8.push (.deferred (some []))).push (o .ready)):=keep_push.trans keep_push;have hsz8:(h8.push (.deferred (some []))).size=h8.size+1:=by simp
  have eL:((h8.push (.deferred (some []))).push (o .ready))[l]? = some (o .ready):=by rw[←hl,←hsz8];exact get_push
  have eN:((h8.push (.deferred (some []))).push (o .ready))[h8.size]? = some (.deferred (some [])):=get_push_old get_push;have szH:((h8.push (.deferred (some []))).push (o .ready)).size=h8.size+2:=by simp
  generalize ((h8.push (.deferred (some []))).push (o .ready))=H8 at kH eL eN szH ⊢;have k6H:Keep [] h6 H8:=k68.n kH;have k0H:Keep [] h H8:=k08.n kH;have lt3:=lt_of_some e36;have lt2:=i6.lt;have s0:=k6.1;have c3:b3≠l:=by omega
  have c4:b4≠l:=by omega
  have cc:c0≠l:=by omega
  have iH:BdI h b2 b3 b4 c0 l sl (o .ready) L [] s m ⟨none,0,0⟩ H8:=
   ⟨i6.keep0 k6H,Row.nil,kH.g (k8.g e7),k6H.g e36,kH.g ec,eL,k0H,fun hq=>by have:=lt2 l hq;omega,by simp[own],fun q hq=>by
    simp only [own,YAD,YAa,YAb,YAe,or_false] at hq;rcases hq with h | h | h
    ·exact lo6 q h
    ·omega
    ·omega⟩
  refine callV_go (aa:=[yv l,Kd.p.val (some ⟨c0,0⟩)]) (by rfl) ?_;show ZAo.C (yv l) ⟨c0,0⟩ H8 _;refine ZAo.s (sl:=sl) (vs:=vs) (t:=t) (L0:=L) (W0:=bdW b2 b4 l s m ⟨none,0,0⟩) (fun L ns W hh=>∃s m sN,BdI h b2 b3 b4 c0 l sl (o .ready) L ns s m sN hh∧W=bdW b2 b4 l s m sN) tm2 tm3 (by omega) ?_ ?_ ?_ ⟨s,m,_,iH,rfl⟩ ?_
  ·rintro L ns W hh ⟨s,m,sN,i,rfl⟩;exact ⟨i.ec,(gW hh i.k).1,(gW hh i.k).2,i.lt⟩
  ·rintro L ns W hh hh' ⟨s,m,sN,i,rfl⟩ kk;exact ⟨s,m,sN,i.keep0 kk,rfl⟩
  ·rintro L ns W hh ob b x K' ⟨s,m,sN,i,rfl⟩ hLb hNb hK';refine hyd ((ob,(b,(inoV x,()))),()) hh K' i.el ?_;refine new_st_gen fun b5 h14 hb5 k14 e14 hs14 =>?_;have e14:h14[b5]? = some (vobj t_state_piece_156 PcK ((ob,(b,(inoV x,()))):PcK.Ty)):=e14;have i14:=i.keep0 k14;have ltW:=i.lt;refine ⟨i14.el,?_⟩;have i10:=i14.turn (ob':=o .busy) c3 c4 cc;have k10:Keep [l] h14 (h14.setIfInBounds l (o .busy)):=keep_set;have z10:(h14.setIfInBounds l (o .busy)).size=h14.size:=by simp
   have n5l:b5≠l:=by have:=ltW l (by simp[bdW]);omega
   have e10:=k10.get e14 (by simpa using n5l);generalize h14.setIfInBounds l (o .busy)=h10 at i10 k10 z10 e10 ⊢;have l5:b5=hh.size:=hb5;have nfp:b5∉lsFp b2 s m:=fun hq=>by have:=ltW b5 (by simp[bdW,hq]);omega
   refine jn_go (ld_go (sm_all i10.e3) (ld_go (sm_fld e10 rfl (by decide)) ?_));refine ZAD.s i10.ls (by omega) fun h16 s' m' i16 k16 f16 =>?_;have e16:=k16.get e10 nfp;refine ld_go (sm_fld (n:=1) (k' := .b) (y:=b) e16 rfl (by decide)) ?_;have a4:=k16.get i10.e4 (i10.ls.off i10.e4 (by decide) (by decide));have a3:=k16.get i10.e3 (i10.ls.off i10.e3 (by decide) (by decide));have ac:=k16.get i10.ec (i10.ls.off i10.ec (by decide) (by decide));have al:=k16.get i10.el i10.n1;have ar:=i10.rw.keep k16 (i10.ls.offRow i10.rw (by decide) (by decide));have lo1:∀q∈lsFp b2 s m,h.size≤q:=fun q hq=>i.lo q (by simp[hq]);have z1:=i.k.1;have z2:=k14.1;have z3:=k16.1;have ll:=ltW l (by simp[bdW])
   have n1':l∉lsFp b2 s' m':=fun hq=>by
    rcases f16 l hq with h | h
    ·exact i10.n1 h
    ·omega
   have i16':BdI h b2 b3 b4 c0 l sl (o .busy) (once L ob) ns s' m' sN h16:=⟨i16,ar,a4,a3,ac,al,i10.k.new k16 lo1,n1',i10.n2,fun q hq=>by
    simp only [YAa,YAb,YAe,or_false] at hq;rcases hq with (hq | hq) | hq
    ·rcases f16 q hq with h | h
     ·exact lo1 q h
     ·omega
    ·exact i.lo q (by simp[hq])
    ·exact i.lo q (by simp[hq])⟩
   have kA:Keep (bdW b2 b4 l s m sN) hh h16:=(k14.then k10 (by simp) (fun q hq _=>by simp at hq;subst hq;simp[bdW])).then k16 (fun q hq _=>hq) (fun q hq _=>by simp[bdW,hq])
   have wA:∀q∈bdW b2 b4 l s' m' sN,q∈bdW b2 b4 l s m sN∨hh.size≤q:=fun q hq=>by
    simp only [bdW,YAa,YAb,YAe,or_false] at hq ⊢;rcases hq with (hq | hq) | hq
    ·rcases f16 q hq with h | h
     ·exact .inl (.inl (.inl h))
     ·right;omega
    ·exact .inl (.inl (.inr hq))
    ·exact .inl (.inr hq)
   refine jn_go ?_
   cases b with
   | false =>
     rw[if_neg (by simp)];refine ⟨i16'.el,hK' _ _ ⟨s',m',sN,i16'.turn c3 c4 cc,rfl⟩ (kA.then keep_set (fun q hq _=>hq) (fun q hq _=>by simp at hq;subst hq;simp[bdW])) wA⟩
   | true =>
     rw[if_pos rfl];refine ld_go (sm_all i16'.e4) ?_;refine ld_go (sm_sub (k':=InK) (y:=inoV x) (n:=2) (sm_all e16) (by decide) ?_) ?_
     ·have:(PcK.cells ((ob,(true,(inoV x,()))):PcK.Ty)).drop 2=InK.cells (inoV x)++[]:=rfl;rw[this,YAD];exact YAh (by rw[Kd.cells_length];exact YAl _)
     refine app2 (by_:=72) i16'.rw rfl (by simp only [YAT];omega) fun sN' h19 k19 r19 o19 =>?_;have q4:=k19.get i16'.e4 (rowTag i16'.rw i16'.e4 (by decide));refine st_to q4 fun h20 k20 e20 hs20 =>?_;have k1620:Keep (b4::own sN) h16 h20:=k19.then k20 (fun q hq _=>by simp[hq]) (fun q hq _=>by simp at hq;simp[hq]);have n4ls:b4∉lsFp b2 s' m':=i16.off a4 (by decide) (by decide);have nrls:∀q∈own sN,q∉lsFp b2 s' m':=i16.offRow ar (by decide) (by decide)
     have x3':b3∉b4::own sN:=fun hq=>by
      rcases List.mem_cons.1 hq with h | h
      ·subst h;exact vobj_ne a3 a4 (by decide)
      ·exact rowTag ar a3 (by decide) h
     have xc':c0∉b4::own sN:=fun hq=>by
      rcases List.mem_cons.1 hq with h | h
      ·subst h;exact vobj_ne ac a4 (by decide)
      ·exact rowTag ar ac (by decide) h
     have xl':l∉b4::own sN:=fun hq=>by
      rcases List.mem_cons.1 hq with h | h
      ·exact c4 h.symm
      ·exact i10.n2 h
     have lo2:∀q∈b4::own sN,h.size≤q:=fun q hq=>by
      rcases List.mem_cons.1 hq with h | h
      ·subst h;exact i.lo _ (by simp)
      ·exact i.lo q (by simp[h])
     have n4':b4∉own sN':=rowTag r19 q4 (by decide)
     have i20:BdI h b2 b3 b4 c0 l sl (o .busy) (once L ob) (ns++[x]) s' m' sN' h20:=⟨i16.keep k1620 (fun q hq hm=>by
      rcases List.mem_cons.1 hm with h | h
      ·subst h;exact n4ls hq
      ·exact nrls q h hq),by
       rw[YAW];exact r19.keep k20 (fun q hq hm=>by simp at hm;subst hm;exact n4' hq),e20,k1620.get a3 x3',k1620.get ac xc',k1620.get al xl',i16'.k.new k1620 lo2,n1',fun hq=>by
      rcases o19 l hq with h | h
      ·exact i10.n2 h
      ·omega,fun q hq=>by
      simp only [YAa,YAb,YAe,or_false] at hq;rcases hq with (hq | hq) | hq
      ·exact i16'.lo q (by simp[hq])
      ·rcases o19 q hq with h | h
       ·exact i.lo q (by simp[h])
       ·omega
      ·exact i.lo q (by simp[hq])⟩
     refine ⟨i20.el,?_⟩;rw[if_pos rfl] at hK'
     refine hK' _ _ ⟨s',m',sN',i20.turn c3 c4 cc,rfl⟩ ((kA.then k1620 (fun q hq _=>hq) (fun q hq _=>by
      rcases List.mem_cons.1 hq with h | h
      ·subst h;simp[bdW]
      ·simp[bdW,h])).then keep_set (fun q hq _=>hq) (fun q hq _=>by simp at hq;subst hq;simp[bdW])) fun q hq =>?_
     have hq2:q∈bdW b2 b4 l s' m' sN∨q∈own sN':=by
      simp only [bdW,YAa,YAb,YAe,or_false] at hq ⊢;rcases hq with (hq | hq) | hq
      ·exact .inl (.inl (.inl hq))
      ·exact .inr hq
      ·exact .inl (.inr hq)
     rcases hq2 with h | h
     ·exact wA q h
     ·rcases o19 q h with h | h
      ·left;simp[bdW,h]
      ·right;omega
  ·rintro h9 W' ⟨s9,m9,sN,i9,rfl⟩ k9 f9;refine .inl ⟨i9.el,?_⟩;have i11:=i9.turn (ob':=o (.over false)) c3 c4 cc;have k11:Keep [l] h9 (h9.setIfInBounds l (o (.over false))):=keep_set;have z11:(h9.setIfInBounds l (o (.over false))).size=h9.size:=by simp
   generalize h9.setIfInBounds l (o (.over false))=h11 at i11 k11 z11 ⊢;have lH:=iH.lt
   have nH:∀q,q<h6.size→q∉lsFp b2 s m→q∉bdW b2 b4 l s m ⟨none,0,0⟩:=fun q hq hn hm=>by
    simp only [bdW,own,YAD,YAa,YAb,YAe,or_false] at hm;rcases hm with h | h | h
    ·exact hn h
    ·omega
    ·omega
   have kH11:Keep (bdW b2 b4 l s m ⟨none,0,0⟩) H8 h11:=k9.then k11 (fun q hq _=>hq) (fun q hq _=>by simp at hq;subst hq;simp[bdW]);have stay:∀(q:Nat) (ob:Obj),h6[q]? = some ob→q∉lsFp b2 s m→h11[q]? = some ob:=fun q ob e hn=>kH11.get (k6H.g e) (nH q (lt_of_some e) hn);have r11:Row h11 t_api_Hash HK hs H:=(r6.keep k6H (by simp)).keep kH11 (fun q hq=>nH q (r6.lt q hq) (i6.offRow r6 (by decide) (by decide) q hq))
   have dOff:∀d,h6[d]? = some (.deferred (some []))→d∉lsFp b2 s m:=fun d e hq=>by
    simp only [lsFp,YAb,YAa] at hq;rcases hq with rfl | hq | hq
    ·rw[i6.o] at e;simp[vobj] at e
    ·rcases i6.r with ⟨e',_⟩ | ⟨b,zs,e',_,_,e4⟩
     ·rw[e'] at hq;simp[own] at hq
     ·have:d=b:=by unfold own at hq;rw[e'] at hq;simpa using hq
      subst this;rw[e4] at e;simp[robj] at e
    ·cases hmm:m with
     | none=>rw[hmm] at hq;simp at hq
     | some r =>
       have:=i6.m;rw[hmm] at this hq;obtain ⟨es,c,e1,_⟩:=this;simp at hq;subst hq;unfold msm mobj at e1;rw[e] at e1;simp at e1
   have eN11:h11[h8.size]? = some (.deferred (some [])):=kH11.get eN (fun hm=>by
    simp only [bdW,own,YAD,YAa,YAb,YAe,or_false] at hm;rcases hm with h | h | h
    ·have:=lt2 _ h;omega
    ·omega
    ·omega)
   refine ld_go (sm_all i11.e4) ?_;have gN:=i11.rw.seg
   have hmv:(t.map inoOf).map (vIno∘inoV)=t.map inoOf:=by
    rw[show (vIno∘inoV)=id from funext fun x=>rfl,List.map_id]
   refine ZDX.s gN (by simp;omega) fun h21 k21 =>?_;rw[YAY,hmv,may_ino htm];simp only [if_true];have hts:=tabText_size tm3;show ZAV.C (tabText t) h21 _;refine ZAV.s (by omega) fun h22 k22 =>?_;refine new_st_gen fun b6 h24 hb6 k24 e24 hs24 =>?_;have e24:h24[b6]? = some (vobj t_api_Hash HK (hashS (tabText t))):=e24;have kk:Keep [] h11 h24:=(k21.n k22).n k24;have i24:=i11.keep0 kk;have hO:=onceL_len (L:=L) (xs:=t.flatMap ndObjs);have hO2:=flatObjs_len tm2;refine ld_go (sm_all i24.e3) ?_;show ZAD.C (some ⟨b2,0⟩) (tabText t) h24 _;refine ZAD.s i24.ls (by omega) fun h25 s25 m25 i25 k25 f25 =>?_;have e25:=k25.get e24 (i24.ls.off e24 (by decide) (by decide));refine ld_go (sm_all e25) ?_;have r24:=r11.keep kk (by simp);have r25:=r24.keep k25 (i24.ls.offRow r24 (by decide) (by decide));refine app2 (by_:=32) r25 rfl (by omega) fun s27 h27 k27 r27 o27 =>?_;have z21:=kk.1;have z25:=k25.1;have zH:=kH11.1;have z6:=k6H.1;have lo11:∀q∈lsFp b2 s9 m9,h.size≤q:=fun q hq=>i11.lo q (by simp[hq])
   have stay2:∀(q:Nat),h11[q]? = some (.deferred (some []))→h27[q]? = some (.deferred (some [])):=fun q e=>by
    have e24':=kk.g e
    have e25':=k25.get e24' (fun hq=>by
     simp only [lsFp,YAb,YAa] at hq;rcases hq with rfl | hq | hq
     ·rw[i24.ls.o] at e24';simp[vobj] at e24'
     ·rcases i24.ls.r with ⟨e',_⟩ | ⟨b,zs,e',_,_,e4⟩
      ·rw[e'] at hq;simp[own] at hq
      ·have:q=b:=by unfold own at hq;rw[e'] at hq;simpa using hq
       subst this;rw[e4] at e24';simp[robj] at e24'
     ·cases hmm:m9 with
      | none=>rw[hmm] at hq;simp at hq
      | some r =>
        have:=i24.ls.m;rw[hmm] at this hq;obtain ⟨es,c,e1,_⟩:=this;simp at hq;subst hq;unfold msm mobj at e1;rw[e24'] at e1;simp at e1)
    exact k27.get e25' (fun hq=>by
     rcases r25 with ⟨e',_⟩ | ⟨b,zs,e',_,_,e4⟩
     ·rw[e'] at hq;simp[own] at hq
     ·have:q=b:=by unfold own at hq;rw[e'] at hq;simpa using hq
      subst this;rw[e4] at e25';simp[robj] at e25')
   have e325:=k25.get i24.e3 (i24.ls.off i24.e3 (by decide) (by decide));refine ⟨⟨n+1,s25,m25,rfl,by omega,?_,?_,?_,?_,?_,?_,?_,?_⟩,by simp;omega⟩
   ·exact ((i11.k.n kk).new k25 lo11).new k27 o6
   ·rw[hLn];exact i25.keep k27 (fun q hq hm=>i25.offRow r25 (by decide) (by decide) q hm hq)
   ·intro q hq;rcases f25 q hq with h | h
    ·exact lo11 q h
    ·have:=i11.k.1;omega
   ·exact k27.get e325 (rowTag r25 e325 (by decide))
   ·rw[hHn];exact r27
   ·intro q hq;rcases o27 q hq with h | h
    ·exact o6 q h
    ·have:=i11.k.1;omega
   ·intro d hd;rcases List.mem_cons.1 hd with rfl | hd
    ·exact ⟨stay2 _ eN11,by have:=k08.1;omega⟩
    ·exact ⟨stay2 _ (stay d _ (d6 d hd).1 (dOff d (d6 d hd).1)),(d6 d hd).2⟩
   ·refine List.nodup_cons.2 ⟨fun hd =>?_,nd6⟩;have:=lt_of_some (d6 _ hd).1;have:=k68.1;omega
theorem hv_list {l:List UInt8} (h:l.length=32):(hv l).toList=l:=by
 unfold hv;rw[dif_pos h];simp[Vector.toList]
theorem hv_toList {z:HsV}:hv z.toList=z:=by
 apply Vector.toList_inj.1;rw[hv_list (by simp)]
theorem bx_inj {a b:List UInt8}:bx a=bx b↔a=b:=by
 constructor
 ·intro h;have:=congrArg (fun x:ByteArray=>x.data.toList) h;simpa[bx] using this
 ·rintro rfl;rfl
theorem innersS_cons {K:Kn} {n:Nat} {L:Ldr} {i:Nat} {x:HsV} {r:List HsV}:innersS K n L i (x::r)=((namedS K 73 L x (min 8 (n-i*8))).1++(innersS K n (namedS K 73 L x (min 8 (n-i*8))).2 (i+1) r).1,(innersS K n (namedS K 73 L x (min 8 (n-i*8))).2 (i+1) r).2):=rfl
theorem leavesS_cons {K:Kn} {n:Nat} {L:Ldr} {i:Nat} {x:HsV} {r:List HsV}:leavesS K n L i (x::r)=match K x with
 | none=>leavesS K n ⟨once L.want x,L.bad⟩ (i+1) r
 | some s=>if isLeaf (min 64 (n-i*64)) s=true then (s.data.toList.drop 1++(leavesS K n L (i+1) r).1,(leavesS K n L (i+1) r).2) else leavesS K n ⟨L.want,true⟩ (i+1) r:=rfl
def rdW (l:List UInt8):Int×Int×List UInt8:=if l.length<2 then (0,300,l) else ((beVal (l.take 2):Int),0,l.drop 2)
def rdH (l:List UInt8):HsV×Int×List UInt8:=if l.length<32 then (Vector.replicate 32 0,300,l) else (hv (l.take 32),0,l.drop 32)
def rdI4 (l:List UInt8):List UInt8:=(rdN (rdN (rdN (rdN l).2.2).2.2).2.2).2.2
def rdI (l:List UInt8):InK.Ty×Int×List UInt8:=
 (((rdN l).1,((rdN (rdN l).2.2).1,((rdN (rdN (rdN l).2.2).2.2).1,((rdN (rdN (rdN (rdN l).2.2).2.2).2.2).1,((rdW (rdI4 l)).1,((rdH (rdW (rdI4 l)).2.2).1,())))))),(rdH (rdW (rdI4 l)).2.2).2.1,(rdH (rdW (rdI4 l)).2.2).2.2)
def rdJ:Nat→List UInt8→List InK.Ty→List InK.Ty×Int
 | 0,_,acc=>(acc,0)
 | n+1,l,acc=>if (rdI l).2.1≠0 then ([],(rdI l).2.1) else rdJ n (rdI l).2.2 (acc++[(rdI l).1])
theorem be2_val {x:Nat} (h:x<65536):beVal (be x 2)=x:=by
 have:be x 2=[UInt8.ofNat (x/256),UInt8.ofNat x]:=by simp[be,List.range_succ]
 rw[this];simp only [beVal,List.foldl_cons,List.foldl_nil,UInt8.toNat_ofNat'];omega
theorem rdW_be {x:Nat} {r:List UInt8} (h:x<65536):rdW (be x 2++r)=((x:Int),0,r):=by
 unfold rdW;rw[if_neg (by rw[YAQ,be_len];omega),YAf be_len,YAG be_len,be2_val h]
theorem rdH_hv {z:HsV} {r:List UInt8}:rdH (z.toList++r)=(z,0,r):=by
 unfold rdH;have hl:z.toList.length=32:=by simp
 rw[if_neg (by rw[YAQ,hl];omega),YAf hl,YAG hl,hv_toList]
theorem rdI_ino {x:Ino} {r:List UInt8} (h:inodMay x=true):rdI (inoBytes x++r)=(inoV x,0,r):=by
 obtain ⟨a1,a2,a3,a4,a5,a6,a7,a8⟩:=ino_ok h;obtain ⟨n,k,m,l,s,z⟩:=x;dsimp only at *;obtain ⟨n,rfl⟩:∃t:Nat,n=t:=⟨n.toNat,by omega⟩;obtain ⟨k,rfl⟩:∃t:Nat,k=t:=⟨k.toNat,by omega⟩;obtain ⟨m,rfl⟩:∃t:Nat,m=t:=⟨m.toNat,by omega⟩;obtain ⟨l,rfl⟩:∃t:Nat,l=t:=⟨l.toNat,by omega⟩;obtain ⟨s,rfl⟩:∃t:Nat,s=t:=⟨s.toNat,by omega⟩
 have e:inoBytes ⟨n,k,m,l,s,z⟩++r=be n 1++(be k 1++(be m 1++(be l 1++(be s 2++(z.toList++r))))):=by
  unfold inoBytes;simp only [YAk,YAB]
 have e1:=rdN_be (x:=n) (r:=be k 1++(be m 1++(be l 1++(be s 2++(z.toList++r))))) (by omega);have e2:=rdN_be (x:=k) (r:=be m 1++(be l 1++(be s 2++(z.toList++r)))) (by omega);have e3:=rdN_be (x:=m) (r:=be l 1++(be s 2++(z.toList++r))) (by omega);have e4:=rdN_be (x:=l) (r:=be s 2++(z.toList++r)) (by omega);have e5:=rdW_be (x:=s) (r:=z.toList++r) (by omega);unfold rdI rdI4;rw[e];simp only [e1,e2,e3,e4,e5,rdH_hv]
 rfl
theorem rdJ_all:∀(xs:List Ino) (r:List UInt8) (acc:List InK.Ty),(∀x∈xs,inodMay x=true)→rdJ xs.length (xs.flatMap inoBytes++r) acc=(acc++xs.map inoV,0)
 | [],r,acc,_=>by simp[rdJ]
 | e :: t, r, acc, h => by
   have he:=rdI_ino (r:=t.flatMap inoBytes++r) (h e (by simp));rw[YAL,YAB,YAR];simp only [rdJ];rw[he];simp only [ne_eq,not_true_eq_false,if_false];rw[rdJ_all t r (acc++[inoV e]) (fun x hx=>h x (by simp[hx]))];simp
theorem map_vV {xs:List Ino}:(xs.map inoV).map vIno=xs:=by
 rw[YAY,show (vIno∘inoV)=id from funext fun x=>rfl,List.map_id]
theorem itab_inj {xs ys:List Ino} (hx:itabMay xs=true) (hy:itabMay ys=true) (h:bx (itabBytes xs)=bx (itabBytes ys)):xs=ys:=by
 have h:=bx_inj.1 h;obtain ⟨h1,hl1⟩:=itab_ok hx;obtain ⟨h2,hl2⟩:=itab_ok hy
 have hn':xs.length=ys.length:=by
  have:=congrArg List.length h;unfold itabBytes at this;simp only [YAQ,be_len,itabFlat] at this;omega
 have hf:xs.flatMap inoBytes=ys.flatMap inoBytes:=by
  have:=congrArg (List.drop 2) h;unfold itabBytes at this;rw[YAG (by simp[be_len]),YAG (by simp[be_len])] at this;exact this
 have a:=rdJ_all xs [] [] h1;have b:=rdJ_all ys [] [] h2;rw[hf,hn',b] at a;have:=congrArg Prod.fst a;simp only [List.nil_append] at this;have:=congrArg (List.map vIno) this;rw[map_vV,map_vV] at this;exact this.symm
open Classical in
noncomputable def getD (s:ByteArray):List Ent×Int:=if h:∃es,dirMay es=true∧s=bx (putBytes es) then (h.choose,0) else ([],1300)
open Classical in
noncomputable def getI (s:ByteArray):List Ino×Int:=if h:∃xs,itabMay xs=true∧s=bx (itabBytes xs) then (h.choose,0) else ([],1400)
theorem getD_put {es:List Ent} (h:dirMay es=true):getD (bx (putBytes es))=(es,0):=by
 have hx:∃es',dirMay es'=true∧bx (putBytes es)=bx (putBytes es'):=⟨es,h,rfl⟩;unfold getD;rw[dif_pos hx];obtain ⟨h1,h2⟩:=hx.choose_spec;exact congrArg (fun z=>(z,(0:Int))) (put_inj h1 h h2.symm)
theorem getI_put {xs:List Ino} (h:itabMay xs=true):getI (bx (itabBytes xs))=(xs,0):=by
 have hx:∃es',itabMay es'=true∧bx (itabBytes xs)=bx (itabBytes es'):=⟨xs,h,rfl⟩;unfold getI;rw[dif_pos hx];obtain ⟨h1,h2⟩:=hx.choose_spec;exact congrArg (fun z=>(z,(0:Int))) (itab_inj h1 h h2.symm)
noncomputable def tableS (Kf:Kn) (L:Ldr) (x:HsV):List Ino×Ldr:=
 match Kf x with
 | none=>([],⟨once L.want x,L.bad⟩)
 | some s=>((getI s).1,⟨L.want,L.bad||decide ((getI s).2≠0)⟩)
noncomputable def ndS (Kf:Kn) (L:Ldr) (x:Ino):Nd×Ldr:=
 if x.kind=1 then
  match Kf x.root with
  | none=>(⟨x.num,x.kind,x.mode,x.links,⟨#[]⟩,[]⟩,⟨once L.want x.root,L.bad⟩)
  | some s=>(⟨x.num,x.kind,x.mode,x.links,⟨#[]⟩,(getD s).1⟩,⟨L.want,L.bad||decide ((getD s).2≠0)⟩)
 else (⟨x.num,x.kind,x.mode,x.links,(treeL Kf x.root x.size).1,[]⟩,⟨onceL L.want (treeL Kf x.root x.size).2.1,L.bad||decide ((treeL Kf x.root x.size).2.2=1200)⟩)
noncomputable def tablesS (Kf:Kn):Ldr→List HsV→List (List Ino)×Ldr
 | L,[]=>([],L)
 | L,x::r=>((tableS Kf L x).1::(tablesS Kf (tableS Kf L x).2 r).1,(tablesS Kf (tableS Kf L x).2 r).2)
noncomputable def rowS (Kf:Kn):Ldr→List Ino→Tab×Ldr
 | L,[]=>([],L)
 | L,x::r=>((ndS Kf L x).1::(rowS Kf (ndS Kf L x).2 r).1,(rowS Kf (ndS Kf L x).2 r).2)
noncomputable def rowsS (Kf:Kn):Ldr→List (List Ino)→Fs×Ldr
 | L,[]=>([],L)
 | L,x::r=>((rowS Kf L x).1::(rowsS Kf (rowS Kf L x).2 r).1,(rowsS Kf (rowS Kf L x).2 r).2)
theorem tablesS_cons {Kf:Kn} {L:Ldr} {x:HsV} {r:List HsV}:tablesS Kf L (x::r)=((tableS Kf L x).1::(tablesS Kf (tableS Kf L x).2 r).1,(tablesS Kf (tableS Kf L x).2 r).2):=rfl
theorem rowS_cons {Kf:Kn} {L:Ldr} {x:Ino} {r:List Ino}:rowS Kf L (x::r)=((ndS Kf L x).1::(rowS Kf (ndS Kf L x).2 r).1,(rowS Kf (ndS Kf L x).2 r).2):=rfl
theorem rowsS_cons {Kf:Kn} {L:Ldr} {x:List Ino} {r:List (List Ino)}:rowsS Kf L (x::r)=((rowS Kf L x).1::(rowsS Kf (rowS Kf L x).2 r).1,(rowsS Kf (rowS Kf L x).2 r).2):=rfl
noncomputable def loadS (Kf:Kn) (hs:List HsV):Fs×List HsV×Int:=
 if hs.length<1∨24<hs.length then ([],[],1500) else
 let a:=tablesS Kf ⟨[],false⟩ hs
 if a.2.err 1500 1501≠0 then ([],a.2.wants,a.2.err 1500 1501) else
 let b:=rowsS Kf a.2 a.1
 if b.2.err 1500 1501≠0 then ([],b.2.wants,b.2.err 1500 1501) else
 if stMay b.1=true then (b.1,[],0) else ([],[],1500)
def miss (K:Kn) (l:List HsV):List HsV:=l.filter fun h=>(K h).isNone
theorem miss_nil {K:Kn}:miss K []=[]:=rfl
theorem miss_cons_none {K:Kn} {x:HsV} {r:List HsV} (h:K x=none):miss K (x::r)=x::miss K r:=by unfold miss;rw[List.filter_cons,h];rfl
theorem miss_cons_some {K:Kn} {x:HsV} {r:List HsV} {d:ByteArray} (h:K x=some d):miss K (x::r)=miss K r:=by unfold miss;rw[List.filter_cons,h];rfl
theorem mem_miss {K:Kn} {l:List HsV} {x:HsV}:x∈miss K l↔x∈l∧K x=none:=by
 unfold miss;rw[List.mem_filter,Option.isNone_iff_eq_none]
theorem onceL_cons {α : Type} [DecidableEq α] {L xs:List α} {x : α}:onceL L (x::xs)=onceL (once L x) xs:=rfl
theorem onceL_ne {α : Type} [DecidableEq α] {L xs:List α}:onceL L xs=[]↔L=[]∧xs=[]:=by
 constructor
 ·intro h
  constructor
  ·rw[YAI];intro a ha;have:a∈onceL L xs:=mem_onceL.2 (.inl ha);rw[h] at this;simp at this
  ·rw[YAI];intro a ha;have:a∈onceL L xs:=mem_onceL.2 (.inr ha);rw[h] at this;simp at this
 ·rintro ⟨rfl,rfl⟩;rfl
theorem onceL_once {α : Type} [DecidableEq α] {L M:List α} {x : α}:onceL L (once M x)=once (onceL L M) x:=by
 by_cases h:x∈M
 ·have e:once M x=M:=by unfold once;rw[if_pos h]
  have e2:once (onceL L M) x=onceL L M:=by unfold once;rw[if_pos (mem_onceL.2 (.inr h))]
  rw[e,e2]
 ·have e:once M x=M++[x]:=by unfold once;rw[if_neg h]
  rw[e,onceL_app,onceL_one]
theorem onceL_assoc {α : Type} [DecidableEq α]:∀ {W L M:List α},onceL L (onceL M W)=onceL (onceL L M) W
 | [],L,M=>rfl
 | x :: r, L, M => by
   rw[onceL_cons,onceL_cons,onceL_assoc (W:=r),onceL_once]
theorem onceL_onceL {α : Type} [DecidableEq α] {W L:List α}:onceL L (onceL [] W)=onceL L W:=by rw[onceL_assoc];rfl
def KrO (K:Kn) (o:ByteArray):Prop:=K (hashS o)=some o∨K (hashS o)=none
theorem hsIn_flat:∀ {hs:List HsV},hsIn (hs.flatMap (·.toList))=hs
 | []=>rfl
 | h :: r => by
   have ih:=hsIn_flat (hs:=r);have hl:h.toList.length=32:=by simp
   unfold hsIn at ih ⊢;rw[YAL,YAQ,hl];have e:(32+(r.flatMap (·.toList)).length)/32=(r.flatMap (·.toList)).length/32+1:=by omega
   rw[e,List.range_succ_eq_map,YAX,YAY]
   congr 1
   ·rw[Nat.zero_mul,YAH,YAf hl,hv_toList]
   ·refine Eq.trans ?_ ih;apply List.map_congr_left;intro i hi;show hv (((h.toList++r.flatMap (·.toList)).drop ((i+1)*32)).take 32)=_;have:(i+1)*32=h.toList.length+i*32:=by rw[hl];omega
    rw[this,←YAE,YAG rfl]
theorem node_row {c:UInt8} {hs:List HsV}:isRow c hs.length (nodeS c hs)=true∧hsIn ((nodeS c hs).data.toList.drop 2)=hs:=by
 unfold isRow;rw[YAo,decide_eq_true_eq,decide_eq_true_eq,nodeS_size];unfold nodeS;rw[bx_data2];refine ⟨⟨by omega,rfl⟩,?_⟩;show hsIn (hs.flatMap (·.toList))=hs;exact hsIn_flat
theorem named_eq {K:Kn} {c:UInt8} {L:Ldr} {hs:List HsV} {n:Nat} (hn:n=hs.length) (hr:KrO K (nodeS c hs)):namedS K c L (hashS (nodeS c hs)) n=match K (hashS (nodeS c hs)) with | none=>([],⟨once L.want (hashS (nodeS c hs)),L.bad⟩) | some _=>(hs,L):=by
 subst hn;unfold namedS;rcases hr with h | h
 ·rw[h];dsimp only;rw[if_pos node_row.1,node_row.2]
 ·rw[h]
theorem inners_eq {K:Kn} {N:Nat} {B:List HsV} (hN:B.length=N) (hr:∀c∈chunk 8 B,KrO K (nodeS 73 c)):∀(m i:Nat) (L:Ldr),i+m=(chunk 8 B).length →
 (innersS K N L i (((chunk 8 B).drop i).map fun c=>hashS (nodeS 73 c))).2=⟨onceL L.want (miss K (((chunk 8 B).drop i).map fun c=>hashS (nodeS 73 c))),L.bad⟩ ∧
 (miss K (((chunk 8 B).drop i).map fun c=>hashS (nodeS 73 c))=[]→(innersS K N L i (((chunk 8 B).drop i).map fun c=>hashS (nodeS 73 c))).1=B.drop (i*8))
 | 0, i, L, hi => by
   have hcl:=chunk_len (n:=8) (xs:=B);rw[YAF (by omega)];refine ⟨rfl,fun _ =>?_⟩;rw[YAF (by omega)]
   rfl
 | m + 1, i, L, hi => by
   have hcl:=chunk_len (n:=8) (xs:=B);have hlt:i<(chunk 8 B).length:=by omega
   have hB:=Nat.div_mul_le_self (B.length+8-1) 8;rw[List.drop_eq_getElem_cons hlt,YAX,innersS_cons];have hc:=hr _ (YAP hlt);have hca:(chunk 8 B)[i]=(B.drop (i*8)).take 8:=chunk_at hlt;have hcn:min 8 (N-i*8)=((chunk 8 B)[i]).length:=by rw[hca,YAV,YAS,hN]
   rw[named_eq hcn hc]
   cases hk:K (hashS (nodeS 73 (chunk 8 B)[i])) with
   | none =>
     dsimp only;obtain ⟨h1,h2⟩:=inners_eq hN hr m (i+1) ⟨once L.want (hashS (nodeS 73 (chunk 8 B)[i])),L.bad⟩ (by omega);rw[miss_cons_none hk,h1,onceL_cons];exact ⟨rfl,fun h=>by simp at h⟩
   | some d =>
     dsimp only;obtain ⟨h1,h2⟩:=inners_eq hN hr m (i+1) L (by omega);rw[miss_cons_some hk,h1];refine ⟨rfl,fun h =>?_⟩;rw[h2 h,hca];have:B.drop ((i+1)*8)=(B.drop (i*8)).drop 8:=by rw[YAE,Nat.add_mul,Nat.one_mul]
     rw[this,List.take_append_drop]
theorem leaf_is {c:List UInt8}:isLeaf c.length (leafS c)=true∧(leafS c).data.toList.drop 1=c:=by
 unfold isLeaf;rw[YAo,decide_eq_true_eq,decide_eq_true_eq,leafS_size];unfold leafS;rw[bx_data2];exact ⟨⟨rfl,rfl⟩,rfl⟩
theorem leaves_eq {K:Kn} {D:List UInt8} (hr:∀c∈chunk 64 D,KrO K (leafS c)):∀(m i:Nat) (L:Ldr),i+m=(chunk 64 D).length →
 (leavesS K D.length L i (((chunk 64 D).drop i).map fun c=>hashS (leafS c))).2=⟨onceL L.want (miss K (((chunk 64 D).drop i).map fun c=>hashS (leafS c))),L.bad⟩ ∧
 (miss K (((chunk 64 D).drop i).map fun c=>hashS (leafS c))=[]→(leavesS K D.length L i (((chunk 64 D).drop i).map fun c=>hashS (leafS c))).1=D.drop (i*64))
 | 0, i, L, hi => by
   have hcl:=chunk_len (n:=64) (xs:=D);rw[YAF (by omega)];refine ⟨rfl,fun _ =>?_⟩;rw[YAF (by omega)]
   rfl
 | m + 1, i, L, hi => by
   have hcl:=chunk_len (n:=64) (xs:=D);have hlt:i<(chunk 64 D).length:=by omega
   have hB:=Nat.div_mul_le_self (D.length+64-1) 64;rw[List.drop_eq_getElem_cons hlt,YAX,leavesS_cons];have hc:=hr _ (YAP hlt);have hca:(chunk 64 D)[i]=(D.drop (i*64)).take 64:=chunk_at hlt;have hcn:min 64 (D.length-i*64)=((chunk 64 D)[i]).length:=by rw[hca,YAV,YAS]
   rw[hcn]
   cases hk:K (hashS (leafS (chunk 64 D)[i])) with
   | none =>
     dsimp only;obtain ⟨h1,h2⟩:=leaves_eq hr m (i+1) ⟨once L.want (hashS (leafS (chunk 64 D)[i])),L.bad⟩ (by omega);rw[miss_cons_none hk,h1,onceL_cons];exact ⟨rfl,fun h=>by simp at h⟩
   | some d =>
     have hd:d=leafS (chunk 64 D)[i]:=by
      rcases hc with h | h
      ·rw[h] at hk;exact (Option.some.inj hk).symm
      ·rw[h] at hk;simp at hk
     subst hd;dsimp only;rw[if_pos leaf_is.1,leaf_is.2];obtain ⟨h1,h2⟩:=leaves_eq hr m (i+1) L (by omega);rw[miss_cons_some hk];dsimp only;rw[h1];refine ⟨rfl,fun h =>?_⟩;rw[h2 h,hca];have:D.drop ((i+1)*64)=(D.drop (i*64)).drop 64:=by rw[YAE,Nat.add_mul,Nat.one_mul]
     rw[this,List.take_append_drop]
def treeW (K:Kn) (d:ByteArray):List HsV:=
 match K (hashS (treeR d)) with
 | none=>[hashS (treeR d)]
 | some _=>if miss K ((treeI d).map hashS)≠[] then miss K ((treeI d).map hashS) else miss K ((treeB d).map hashS)
theorem tree_core {K:Kn} {D:List UInt8} {bh ih:List HsV} (hD:D.length≤4096) (hbh:((chunk 64 D).map fun c=>hashS (leafS c))=bh) (hih:((chunk 8 bh).map fun c=>hashS (nodeS 73 c))=ih)
 (hB:∀c∈chunk 64 D,KrO K (leafS c)) (hI:∀c∈chunk 8 bh,KrO K (nodeS 73 c)) (hR:KrO K (nodeS 82 ih)) (W:List HsV)
 (hW:W=match K (hashS (nodeS 82 ih)) with | none=>[hashS (nodeS 82 ih)] | some _=>if miss K ih≠[] then miss K ih else miss K bh) :
 treeL K (hashS (nodeS 82 ih)) D.length=if W=[] then (bx D,[],0) else (⟨#[]⟩,onceL [] W,1201):=by
 have lB:bh.length=(D.length+63)/64:=by rw[←hbh,YAT,chunk_len];rfl
 have lI:ih.length=(bh.length+7)/8:=by rw[←hih,YAT,chunk_len];rfl
 unfold treeL;rw[if_neg (by omega)];simp only [YAk];rw[←lB,←lI];have n1:=named_eq (K:=K) (c:=82) (L:=⟨[],false⟩) (hs:=ih) rfl hR;rw[n1]
 cases hk:K (hashS (nodeS 82 ih)) with
 | none =>
   rw[hk] at hW;dsimp only at hW ⊢;subst hW;rw[if_neg (List.cons_ne_nil _ _)]
   rfl
 | some r =>
   rw[hk] at hW;dsimp only at hW ⊢;have e0:(Ldr.mk [] false).err 1200 1201=0:=rfl;rw[if_neg (by rw[e0];simp)];obtain ⟨i1,i2⟩:=inners_eq (K:=K) (B:=bh) rfl hI (chunk 8 bh).length 0 ⟨[],false⟩ (YAm _);rw[YAH,hih] at i1 i2;rw[i1];by_cases hm:miss K ih=[]
   ·have e1:(Ldr.mk (onceL [] (miss K ih)) false).err 1200 1201=0:=by rw[hm];rfl
    rw[if_neg (by rw[e1];simp),i2 hm,Nat.zero_mul,YAH,hm];obtain ⟨b1,b2⟩:=leaves_eq hB (chunk 64 D).length 0 ⟨onceL [] [],false⟩ (YAm _);rw[YAH,hbh] at b1 b2;rw[b1];rw[if_neg (by simp[hm])] at hW;subst hW;by_cases hm2:miss K bh=[]
    ·rw[if_pos hm2];have e2:(Ldr.mk (onceL (onceL [] []) (miss K bh)) false).err 1200 1201=0:=by rw[hm2];rfl
     rw[if_neg (by rw[e2];simp),b2 hm2,Nat.zero_mul,YAH]
    ·rw[if_neg hm2];have hne:onceL (onceL [] []) (miss K bh)≠[]:=fun h=>hm2 (onceL_ne.1 h).2
     have e2:(Ldr.mk (onceL (onceL [] []) (miss K bh)) false).err 1200 1201=1201:=by
      unfold Ldr.err;simp[hne]
     rw[if_pos (by rw[e2];simp),e2]
     rfl
   ·have hne:onceL [] (miss K ih)≠[]:=fun h=>hm (onceL_ne.1 h).2
    have e1:(Ldr.mk (onceL [] (miss K ih)) false).err 1200 1201=1201:=by
     unfold Ldr.err;simp[hne]
    rw[if_pos hm] at hW;subst hW;rw[if_pos (by rw[e1];simp),if_neg hm,e1]
    rfl
theorem treeL_eq {K:Kn} {d:ByteArray} (hd:d.size≤4096) (hr:∀o∈treeB d++treeI d++[treeR d],KrO K o) :
 treeL K (hashS (treeR d)) d.size=if treeW K d=[] then (d,[],0) else (⟨#[]⟩,onceL [] (treeW K d),1201):=by
 have hR:=hr (treeR d) (by simp)
 have hI:∀c∈chunk 8 ((treeB d).map hashS),KrO K (nodeS 73 c):=fun c hc=>hr _ (by
  simp only [YAa]
  left;right
  unfold treeI;exact YAc hc)
 have hB:∀c∈chunk 64 d.data.toList,KrO K (leafS c):=fun c hc=>hr _ (by
  simp only [YAa]
  left;left
  unfold treeB;exact YAc hc)
 have:=tree_core (K:=K) (D:=d.data.toList) (bh:=(treeB d).map hashS) (ih:=(treeI d).map hashS) hd (by unfold treeB;rw[YAY];exact Eq.refl _) (by unfold treeI;rw[YAY];exact Eq.refl _) hB hI hR (treeW K d) (by unfold treeW;exact Eq.refl _);rw[bx_list] at this;exact this
def ndW (K:Kn) (x:Nd):List HsV:=if x.kind=1 then miss K [ndRoot x] else treeW K x.data
def ndAll (x:Nd):List ByteArray:=if x.kind=1 then [bx (putBytes x.ents)] else treeB x.data++treeI x.data++[treeR x.data]
def allO (X:Fs):List ByteArray:=X.flatMap fun t=>t.flatMap ndAll++[tabText t]
theorem ndS_eq {K:Kn} {L:Ldr} {x:Nd} (hx:ndMay x=true) (hr:∀o∈ndAll x,KrO K o):(ndS K L (inoOf x)).2=⟨onceL L.want (ndW K x),L.bad⟩∧(ndW K x=[]→(ndS K L (inoOf x)).1=x):=by
 obtain ⟨_,_,hk0,_,_,_,h1,h2⟩:=nd_ok hx;unfold ndS ndW;by_cases hk:x.kind=1
 ·have hk':(inoOf x).kind=1:=hk
  have hro:(inoOf x).root=hashS (bx (putBytes x.ents)):=by
   show ndRoot x=_;unfold ndRoot;rw[if_pos hk]
  have hro2:ndRoot x=hashS (bx (putBytes x.ents)):=hro;obtain ⟨hd,he⟩:=h1 hk;rw[if_pos hk',if_pos hk,hro,hro2];have hr1:=hr (bx (putBytes x.ents)) (by unfold ndAll;rw[if_pos hk];simp);rcases hr1 with h | h
  ·rw[h,miss_cons_some h,miss_nil];dsimp only;rw[getD_put he];refine ⟨by simp[onceL_nil],fun _ =>?_⟩;obtain ⟨n,k,m,l,dd,es⟩:=x;dsimp only at hd;subst hd
   rfl
  ·rw[h,miss_cons_none h,miss_nil];exact ⟨rfl,fun h=>by simp at h⟩
 ·have hk':¬(inoOf x).kind=1:=hk
  have hro:(inoOf x).root=hashS (treeR x.data):=by
   show ndRoot x=_;unfold ndRoot;rw[if_neg hk]
  obtain ⟨hz,he⟩:=h2 hk;rw[if_neg hk',if_neg hk,hro];have hr1:∀o∈treeB x.data++treeI x.data++[treeR x.data],KrO K o:=fun o ho=>hr o (by unfold ndAll;rw[if_neg hk];exact ho);have ht:=treeL_eq hz hr1;have hs:(inoOf x).size=x.data.size:=rfl;rw[hs,ht];by_cases hw:treeW K x.data=[]
  ·rw[if_pos hw,hw];refine ⟨by simp[onceL_nil],fun _ =>?_⟩;obtain ⟨n,k,m,l,dd,es⟩:=x;dsimp only at he;subst he
   rfl
  ·rw[if_neg hw];refine ⟨?_,fun h=>absurd h hw⟩;have:onceL L.want (onceL [] (treeW K x.data))=onceL L.want (treeW K x.data):=onceL_onceL;simp[this]
theorem tableS_eq {K:Kn} {L:Ldr} {t:Tab} (ht:tabMay t=true) (hr:KrO K (tabText t)) :
 (tableS K L (hashS (tabText t))).2=⟨onceL L.want (miss K [hashS (tabText t)]),L.bad⟩∧(miss K [hashS (tabText t)]=[]→(tableS K L (hashS (tabText t))).1=t.map inoOf):=by
 unfold tableS;rcases hr with h | h
 ·rw[h,miss_cons_some h,miss_nil];have:getI (tabText t)=(t.map inoOf,0):=getI_put (may_ino ht);dsimp only;rw[this];exact ⟨by simp[onceL_nil],fun _=>rfl⟩
 ·rw[h,miss_cons_none h,miss_nil];exact ⟨rfl,fun h=>by simp at h⟩
theorem miss_app {K:Kn} {a b:List HsV}:miss K (a++b)=miss K a++miss K b:=by unfold miss;rw[List.filter_append]
theorem tablesS_eq {K:Kn}:∀ {X:Fs} {L:Ldr},(∀t∈X,tabMay t=true)→(∀t∈X,KrO K (tabText t)) →
 (tablesS K L (buildH X)).2=⟨onceL L.want (miss K (buildH X)),L.bad⟩∧(miss K (buildH X)=[]→(tablesS K L (buildH X)).1=X.map fun t=>t.map inoOf)
 | [],L,_,_=>⟨rfl,fun _=>rfl⟩
 | t :: r, L, h1, h2 => by
   have e:buildH (t::r)=[hashS (tabText t)]++buildH r:=rfl;have e':buildH (t::r)=hashS (tabText t)::buildH r:=rfl;have a:=tableS_eq (L:=L) (h1 t (by simp)) (h2 t (by simp));have b:=tablesS_eq (X:=r) (L:=(tableS K L (hashS (tabText t))).2) (fun t ht=>h1 t (by simp[ht])) (fun t ht=>h2 t (by simp[ht]));have hm:miss K (buildH (t::r))=miss K [hashS (tabText t)]++miss K (buildH r):=by rw[e,miss_app]
   rw[hm,e',tablesS_cons];refine ⟨?_,fun h =>?_⟩
   ·dsimp only;rw[b.1,a.1,onceL_app]
   ·rw[YAC] at h;dsimp only;rw[a.2 h.1,b.2 h.2]
    rfl
theorem rowS_eq {K:Kn}:∀ {t:Tab} {L:Ldr},(∀x∈t,ndMay x=true)→(∀x∈t,∀o∈ndAll x,KrO K o) →
 (rowS K L (t.map inoOf)).2=⟨onceL L.want (t.flatMap (ndW K)),L.bad⟩∧(t.flatMap (ndW K)=[]→(rowS K L (t.map inoOf)).1=t)
 | [],L,_,_=>⟨rfl,fun _=>rfl⟩
 | x :: r, L, h1, h2 => by
   have a:=ndS_eq (L:=L) (h1 x (by simp)) (h2 x (by simp));have b:=rowS_eq (t:=r) (L:=(ndS K L (inoOf x)).2) (fun t ht=>h1 t (by simp[ht])) (fun t ht=>h2 t (by simp[ht]));rw[YAX,rowS_cons,YAL];refine ⟨?_,fun h =>?_⟩
   ·dsimp only;rw[b.1,a.1,onceL_app]
   ·rw[YAC] at h;dsimp only;rw[a.2 h.1,b.2 h.2]
def stW (K:Kn) (X:Fs):List HsV:=X.flatMap fun t=>t.flatMap (ndW K)
theorem rowsS_eq {K:Kn}:∀ {X:Fs} {L:Ldr},(∀t∈X,∀x∈t,ndMay x=true)→(∀t∈X,∀x∈t,∀o∈ndAll x,KrO K o) →
 (rowsS K L (X.map fun t=>t.map inoOf)).2=⟨onceL L.want (stW K X),L.bad⟩∧(stW K X=[]→(rowsS K L (X.map fun t=>t.map inoOf)).1=X)
 | [],L,_,_=>⟨rfl,fun _=>rfl⟩
 | t :: r, L, h1, h2 => by
   have a:=rowS_eq (L:=L) (h1 t (by simp)) (h2 t (by simp));have b:=rowsS_eq (X:=r) (L:=(rowS K L (t.map inoOf)).2) (fun t ht=>h1 t (by simp[ht])) (fun t ht=>h2 t (by simp[ht]));have hs:stW K (t::r)=t.flatMap (ndW K)++stW K r:=by unfold stW;rw[YAL]
   rw[YAX,rowsS_cons,hs];refine ⟨?_,fun h =>?_⟩
   ·dsimp only;rw[b.1,a.1,onceL_app]
   ·rw[YAC] at h;dsimp only;rw[a.2 h.1,b.2 h.2]
theorem mem_allO {X:Fs} {o:ByteArray}:o∈allO X↔∃t∈X,(∃x∈t,o∈ndAll x)∨o=tabText t:=by
 unfold allO;simp only [List.mem_flatMap,YAa,YAd]
theorem mem_ndObjs {x:Nd} {o:ByteArray}:o∈ndObjs x↔o∈ndAll x:=by
 unfold ndObjs ndAll;split
 ·exact Iff.rfl
 ·unfold treeO;rw[mem_onceL];simp
theorem mem_buildO {X:Fs} {o:ByteArray}:o∈buildO X↔o∈allO X:=by
 unfold buildO;rw[mem_onceL,mem_allO];simp only [YAe,false_or,List.mem_flatMap,tabObjs,YAa,YAd,mem_ndObjs]
theorem loadS_eq {K:Kn} {X:Fs} (hm:stMay X=true) (hr:∀o∈allO X,KrO K o) :
 loadS K (buildH X)=if miss K (buildH X)≠[] then ([],onceL [] (miss K (buildH X)),1501) else if stW K X≠[] then ([],onceL [] (stW K X),1501) else (X,[],0):=by
 obtain ⟨h1,h2,h3,_⟩:=st_ok hm;have hl:(buildH X).length=X.length:=by unfold buildH;rw[YAT]
 have a:=tablesS_eq (K:=K) (X:=X) (L:=⟨[],false⟩) h3 (fun t ht=>hr _ (mem_allO.2 ⟨t,ht,.inr rfl⟩));unfold loadS;rw[if_neg (by omega)];dsimp only;rw[a.1];by_cases hms:miss K (buildH X)=[]
 ·rw[if_neg (c:=miss K (buildH X)≠[]) (by simp[hms])];have e1:(Ldr.mk (onceL [] (miss K (buildH X))) false).err 1500 1501=0:=by rw[hms];rfl
  rw[if_neg (by rw[e1];simp),a.2 hms,hms];have b:=rowsS_eq (K:=K) (X:=X) (L:=⟨onceL [] [],false⟩) (fun t ht x hx=>(tab_ok (h3 t ht)).2.1 x hx) (fun t ht x hx o ho=>hr _ (mem_allO.2 ⟨t,ht,.inl ⟨x,hx,ho⟩⟩));rw[b.1];by_cases hw:stW K X=[]
  ·rw[if_neg (c:=stW K X≠[]) (by simp[hw])];have e2:(Ldr.mk (onceL (onceL [] []) (stW K X)) false).err 1500 1501=0:=by rw[hw];rfl
   rw[if_neg (by rw[e2];simp),b.2 hw,if_pos hm]
  ·rw[if_pos (c:=stW K X≠[]) hw];have hne:onceL (onceL [] []) (stW K X)≠[]:=fun h=>hw (onceL_ne.1 h).2
   have e2:(Ldr.mk (onceL (onceL [] []) (stW K X)) false).err 1500 1501=1501:=by
    unfold Ldr.err;simp[hne]
   rw[if_pos (by rw[e2];simp),e2]
   rfl
 ·rw[if_pos (c:=miss K (buildH X)≠[]) hms];have hne:onceL [] (miss K (buildH X))≠[]:=fun h=>hms (onceL_ne.1 h).2
  have e1:(Ldr.mk (onceL [] (miss K (buildH X))) false).err 1500 1501=1501:=by
   unfold Ldr.err;simp[hne]
  rw[if_pos (by rw[e1];simp),e1]
  rfl
def noClash (os:List ByteArray):Prop:=∀a∈os,∀b∈os,hashS a=hashS b→a=b
theorem known_of {os:List ByteArray} (hn:noClash os) {o:ByteArray} (ho:o∈os) (hz:o.size≤65536):known os (hashS o)=some o:=by
 unfold known
 cases hf:os.find? (fun d=>decide (d.size≤65536)&&decide (hashS d=hashS o)) with
 | none =>
   have:=List.find?_eq_none.1 hf o ho;simp[hz] at this
 | some d =>
   have h1:=List.find?_some hf;have h2:=List.mem_of_find?_eq_some hf;simp only [YAo,decide_eq_true_eq] at h1;rw[hn d h2 o ho h1.2]
theorem known_some {os:List ByteArray} {h:HsV} {d:ByteArray} (hk:known os h=some d):d∈os∧hashS d=h:=by
 unfold known at hk;have h1:=List.find?_some hk;have h2:=List.mem_of_find?_eq_some hk;simp only [YAo,decide_eq_true_eq] at h1;exact ⟨h2,h1.2⟩
theorem allO_size {X:Fs} (hm:stMay X=true) {o:ByteArray} (ho:o∈allO X):o.size≤65536:=by
 obtain ⟨_,_,h3,_⟩:=st_ok hm;obtain ⟨t,ht,h⟩:=mem_allO.1 ho;obtain ⟨_,h4,h5⟩:=tab_ok (h3 t ht);rcases h with ⟨x,hx,h⟩ | rfl
 ·have hnd:=h4 x hx;obtain ⟨z1,z2,z3⟩:=nd_small hnd;unfold ndAll at h;split at h
  ·simp at h;subst h;rw[bx_size];have h1:=flat_le (dir_ok z3).2.2;unfold putBytes;simp only [YAQ,be_len];omega
  ·have l1:=treeB_len (d:=x.data);have l2:=treeI_len (d:=x.data);simp only [YAa,YAd] at h;rcases h with (h | h) | rfl
   ·unfold treeB at h;obtain ⟨c,hc,rfl⟩:=List.mem_map.1 h;rw[leafS_size];have:=chunk_mem hc;omega
   ·unfold treeI at h;obtain ⟨c,hc,rfl⟩:=List.mem_map.1 h;rw[nodeS_size];have:=chunk_mem hc;omega
   ·unfold treeR;rw[nodeS_size,YAT];omega
 ·have:=tabText_size h5;omega
theorem ZCu.s {v:MbK.Ty} {m:Mb} {h:Heap} {K:StaK.Ty→Int→Heap→Prop} (a:MbAt h v m) (hgl:m.groups.length≤9223372036854775807)
 (hno:mbMay m=false→∀h',Keep [] h h'→K ((⟨none,0,0⟩:Slc),()) 1500 h')
 (hK:mbMay m=true→∀h' t0 ss vv,Keep [] h h'→StW h' t0 ss vv (emptyS m)→K (t0,()) 0 h'):ZCu.C v h K:=by
 apply ZCu.c;unfold ZCu.m;refine new_gen fun b1 h1 hb1 k1 e1 hs1 =>?_;have e1:h1[b1]? = some (vobj t_api_Members MbK v):=e1;refine new_gen fun b2 h2 hb2 k2 e2 hs2 =>?_;have e2:h2[b2]? = some (vobj t_api_State StaK ((⟨none,0,0⟩:Slc),())):=e2;have k02:Keep [] h h2:=k1.n k2;have c1:=k2.g e1;refine ld_go (sm_all c1) ?_;refine ZB8.s (a.keep k02) fun h3 k3 =>?_;have k03:=k02.n k3
 cases hm:mbMay m with
 | false =>
   rw[if_pos (by rfl)];refine st_ld (y:=(((⟨none,0,0⟩:Slc),()):StaK.Ty)) (k3.g e2) fun h4 k4 e4 hs4 =>?_;exact hno hm h4 (k03.new k4 (by simp;omega))
 | true =>
   rw[if_neg (by simp)];refine ld_go (sm_all (k3.g c1)) ?_;refine ZAN.s (a.keep k03) hm fun h5 k5 =>?_
   have hp:1≤prins m∧prins m≤24:=by
    unfold mbMay at hm;simp only [YAo,decide_eq_true_eq] at hm;obtain ⟨⟨⟨m1,m2⟩,m3⟩,_⟩:=hm;unfold prins;omega
   obtain ⟨n,hn⟩:∃n:Nat,prins m=((n+1:Nat):Int):=⟨(prins m).toNat-1,by omega⟩;rw[hn];refine mk_gen (by omega) (by omega) fun b h6 hb6 k6 r6 hs6 =>?_;refine new_st_gen fun b3 h8 hb3 k8 e8 hs8 =>?_;have e8:h8[b3]? = some (vobj t_api_State StaK ((⟨some ⟨b,0⟩,n+1,n+1⟩:Slc),())):=e8;refine ld_go (k := .sl) (x:=(⟨some ⟨b,0⟩,n+1,n+1⟩:Slc)) (sm_sub (sm_all e8) (by decide) rfl) ?_;refine bs_gen fun bq h9 hbq k9 r9 hs9 =>?_;have r69:=(r6.keep k8 (by simp)).keep k9 (by simp);have s8:=k8.1;have s9:=k9.1;refine ix_st (i:=0) (k := .sl) (x:=(⟨some ⟨bq,0⟩,1,1⟩:Slc)) r69 (by omega) (by simp) rfl fun h10 k10 r10 =>?_;have hown:own (⟨some ⟨b,0⟩,n+1,n+1⟩:Slc)=[b]:=rfl;refine ld_go (sm_all (k10.get (k9.g e8) (by rw[hown];simp;omega))) ?_;have s5:=k5.1;have s3:=k3.1;have l2:=lt_of_some e2;have k310:Keep [] h3 h10:=(((k5.n k6).n k8).n k9).new k10 (fun q hq=>by rw[hown] at hq;simp at hq;omega);refine st_ld (k310.g (k3.g e2)) fun h11 k11 e11 hs11 =>?_;refine hK hm h11 _ (⟨some ⟨bq,0⟩,1,1⟩::List.replicate n ⟨none,0,0⟩) ([(1,(1,(1,(1,(⟨#[]⟩,((⟨none,0,0⟩:Slc),()))))))]::List.replicate n []) ((k03.n k310).new k11 (by simp;omega)) ⟨?_,?_,?_⟩
   ·have:(List.replicate (n+1) (Kd.zero .sl)).set (0:Int).toNat (⟨some ⟨bq,0⟩,1,1⟩:Slc)=⟨some ⟨bq,0⟩,1,1⟩::List.replicate n ⟨none,0,0⟩:=by
     rw[List.replicate_succ];rfl
    rw[←this];exact (r10.keep k11 (by rw[hown];simp;omega)).seg
   ·refine ⟨((r9.keep k10 (by rw[hown];simp[own];omega)).keep k11 (by simp[own];omega)).seg,all2_rep (R:=fun s vs=>Seg NdK s vs h11) (Row.nil (T:=t_api_Node)).seg n⟩
   ·unfold emptyS;have:(prins m).toNat-1=n:=by omega
    rw[this];exact ⟨⟨nd1_at,trivial⟩,all2_rep trivial n⟩
theorem ZBq.s {a b:Slc} {xs ys:List HsV} {h:Heap} {K:Bool→Heap→Prop} (ga:Seg HK a xs h) (gb:Seg HK b ys h) (hl:xs.length≤9223372036854775807) (hK:K (decide (xs=ys)) h):ZBq.C a b h K:=by
 apply ZBq.c;unfold ZBq.m;have la:=ga.len;have lb:=gb.len;by_cases hlen:xs.length=ys.length
 case neg=>
  rw[if_pos (by simp;omega)];rw[dF (fun e=>hlen (by rw[e]))] at hK;exact hK
 rw[if_neg (by simp;omega)];refine lp_go (fun (y:Int×Unit) (h1:Heap)=>h1=h∧∃t:Nat,y.1=t∧t≤xs.length∧∀j,(hj:j<xs.length)→j<t→xs[j]=ys[j]'(by omega)) (fun (y:Int×Unit) _=>xs.length-y.1.toNat) ?_ ?_
 ·exact ⟨rfl,0,rfl,YAn _,fun j _ h=>by omega⟩
 ·rintro ⟨(i:Int),_⟩ h1 ⟨rfl,t,e,ht,hall⟩;dsimp only at e ⊢;subst e;by_cases hlt:t<xs.length
  ·rw[if_pos (show decide ((t:Int)<(a.len:Int))=true from dT (by omega))];have hlt2:t<ys.length:=by omega
   refine seg_ix ga (x:=xs[t]) (by omega) (by simp[hlt]) rfl ?_;refine seg_ix gb (x:=ys[t]) (by omega) (by simp[hlt2]) rfl ?_;have hbq:=beq_eq (k:=HK) rfl (x:=xs[t]) (y:=ys[t]);by_cases hx:xs[t]=ys[t]
   ·rw[if_neg (by rw[hbq.2 hx];simp)];have hw:w64 ((t:Int)+1)=((t+1:Nat):Int):=w6 (by omega);rw[hw];refine ⟨⟨by first | rfl | trivial,t+1,rfl,by omega,fun j hj hjt =>?_⟩,by simp;omega⟩;by_cases hje:j=t
    ·subst hje;exact hx
    ·exact hall j hj (by omega)
   ·rw[if_pos (by rw[Bool.eq_false_iff.2 (fun e=>hx (hbq.1 e))];rfl)];rw[dF (fun e=>hx (by simp[e]))] at hK;exact hK
  ·rw[if_neg (show ¬decide ((t:Int)<(a.len:Int))=true by simp;omega)];have:xs=ys:=List.ext_getElem hlen fun j h1 h2=>hall j h1 (by omega);rw[dT this] at hK;exact hK
def rootU:Nd:=⟨1,1,1,1,⟨#[]⟩,[]⟩
theorem emptyU_eq {m:Mb}:emptyS m=[rootU]::List.replicate ((prins m).toNat-1) []:=rfl
theorem emptyU_may {m:Mb} (h1:1≤prins m) (h2:prins m≤24):stMay (emptyS m)=true:=by
 rw[emptyU_eq];have hn:(prins m).toNat-1≤23:=by omega
 generalize (prins m).toNat-1=n at hn;unfold stMay
 have hf:findN ([rootU]::List.replicate n []) rootR=some rootU:=by
  unfold findN tabOf;rw[if_pos ⟨by decide,by simp[rootR,rf]⟩]
  rfl
 have hall:([rootU]::List.replicate n ([]:Tab)).all tabMay=true:=by
  rw[List.all_cons,show tabMay [rootU]=true by decide,YAp,YAA];intro t ht;rw[YAJ ht];rfl
 rw[hf,hall];simp[rootU];omega
def newC (k:Kys):Cn:=⟨k.m,k.pubs,buildH (emptyS k.m),[]⟩
theorem kys_u {k:Kys} (h:kysMay k=true):mbMay k.m=true∧1≤k.m.users∧k.m.users≤16∧k.m.groups.length≤8∧(k.pubs.length:Int)=k.m.users∧∀s∈k.pubs,s.length=60:=by
 unfold kysMay at h;simp only [YAo,decide_eq_true_eq,YAA] at h;obtain ⟨h1,h2,h3⟩:=h;have h1':=h1;unfold mbMay at h1';simp only [YAo,decide_eq_true_eq] at h1';exact ⟨h1,h1'.1.1.1,h1'.1.1.2,h1'.1.2,h2,h3⟩
theorem new_ok {k:Kys} (h:kysMay k=true):CnOk (newC k):=by
 obtain ⟨h1,h2,h3,h4,h5,h6⟩:=kys_u h;refine ⟨h1,h5,h6,?_,by simp[newC],by simp[newC]⟩;show ((buildH (emptyS k.m)).length:Int)=prins k.m;have hp:1≤prins k.m:=by unfold prins;omega
 unfold buildH;rw[YAT,emptyU_eq,YAR,List.length_replicate];omega
theorem ZCO.s {v:KeK.Ty} {k:Kys} {h:Heap} {K:Option Pl→Int→Heap→Prop} (a:KeAt h v k) (hl:k.pubs.length≤9223372036854775806) (hg:∀g∈k.m.groups,g.length*8≤140737488355328)
 (hbad:kysMay k=false→∀h',Keep [] h h'→K none 2000 h')
 (hok:kysMay k=true→∀h' c t mv ps bs,Keep [] h h'→IsCh h.size h' c t mv ps bs ⟨none,0,0⟩ [] (newC k)→K (some ⟨c,0⟩) 0 h'):ZCO.C v h K:=by
 apply ZCO.c;unfold ZCO.m;refine new_gen fun b1 h1 hb1 k1 e1 hs1 =>?_;have e1:h1[b1]? = some (vobj t_api_Keys KeK v):=e1;refine ld_go (sm_all e1) ?_;refine ZA1.s (a.keep k1) hl fun h2 k2 =>?_;have k02:Keep [] h h2:=k1.n k2
 cases hm:kysMay k with
 | false =>
   rw[if_pos (by rfl)];exact hbad hm h2 k02
 | true =>
   rw[if_neg (by simp)];replace hok:=hok hm;obtain ⟨m1,m2,m3,m4,m5,m6⟩:=kys_u hm;have e2:=k2.g e1;refine ld_go (ke_f e2).1 ?_;have hpr:1≤prins k.m∧prins k.m≤24:=by unfold prins;omega
   refine ZCu.s (a.keep k02).m (by omega) (fun hn=>by rw[m1] at hn;simp at hn) fun _ h3 t0 ss vv k3 w3 =>?_;refine new_st_gen fun b2 h5 hb2 k5 e5 hs5 =>?_;refine ld_go (sm_all e5) ?_;have k25:Keep [] h2 h5:=k3.n k5
   have sb:∀t∈emptyS k.m,t.length≤9223372036854775807:=fun t ht=>by
    rw[emptyU_eq] at ht;rcases List.mem_cons.1 ht with rfl | ht
    ·simp
    ·rw[YAJ ht];simp
   refine ZCr.s (w3.keep k5) sb (fun hn=>by rw[emptyU_may hpr.1 hpr.2] at hn;simp at hn) fun _ h6 o1 o2 k6 r6 _ f6 _ =>?_;have k26:Keep [] h2 h6:=k25.n k6;have k06:Keep [] h h6:=k02.n k26;have e6:=k26.g e2;refine ld_go (ke_f e6).1 (ld_go (ke_f e6).2.1 ?_);refine ZCV.s (a.keep k06).m (by omega) hg fun h7 mv k7 mu =>?_;refine ⟨(ke_f (k7.g e6)).2.1,?_⟩;have k07:Keep [] h h7:=k06.n k7;refine clone_str.s (a.keep k07).p (by rw[YAT];omega) fun ps h8 k8 r8 o8 =>?_;have k08:Keep [] h h8:=k07.n k8;have e8:=k8.g (k7.g e6);refine st_to (y:=((mv,(ps,())):KeK.Ty)) e8 fun h9 k9 e9 hs9=>ld_go (sm_all e9) ?_;refine ZDH.s fun h10 k10 t10 =>?_;refine ⟨sm_all (k10.g e9),?_⟩;refine new_gen fun c h11 hc k11 e11 hs11 =>?_;have e11:h11[c]? = some (vobj t_chain_Chain ChK (((mv,(ps,())),(o1,((⟨none,0,0⟩:Slc),(some ⟨h9.size,0⟩,())))):ChK.Ty)):=e11;have z02:=k02.1;have z06:=k06.1;have z25:=k25.1;have z7:=k7.1;have z8:=k8.1;have z9:=k9.1;have z10:=k10.1;have k911:Keep [] h9 h11:=k10.n k11;have off:∀ {T:Nat} {kk:Kd} {u:Slc} {L:List kk.Ty},Row h8 T kk u L→T≠t_api_Keys→∀q∈own u,q∉[b1]:=fun r hT q hq hm=>by simp at hm;subst hm;exact rowT r e8 (fun h=>hT h.symm) hq
   have mu8:MbU h6.size h8 mv k.m:=mu.keep k8 (by simp)
   have mu9:MbU h6.size h9 mv k.m:=mu8.keep k9 fun b hb=>by
    simp at hb;subst hb;exact .inr fun c f=>⟨cell_ne (o:=vobj t_api_Keys KeK v) e8 (by decide) c f,cell_ne (o:=vobj t_api_Keys KeK v) e8 (by decide) c f⟩
   have mu11:=mu9.keep k911 (by simp);refine hok h11 c h9.size mv ps o1 ((k08.new k9 (by simp;omega)).n k911) ⟨e11,by omega,?_,?_,fun q hq=>by have:=o8 q hq;omega,?_,fun q hq=>by have:=f6 q hq;omega,.inl ⟨rfl,rfl⟩,by simp[own],trivial,?_⟩
   ·obtain ⟨u,gs,r,o,al⟩:=mu11;exact ⟨u,gs,r,fun q hq=>by have:=o q hq;omega,All2.mono (fun s us x=>⟨x.1,fun q hq=>by have:=x.2.1 q hq;omega,x.2.2⟩) al⟩
   ·exact (r8.keep k9 (off r8 (by decide))).keep k911 (by simp)
   ·have r68:=(r6.keep k7 (by simp)).keep k8 (by simp);exact (r68.keep k9 (off r68 (by decide))).keep k911 (by simp)
   ·obtain ⟨⟨s,row,e,r,p,oo⟩,l⟩:=t10.keep k11 (by simp);exact ⟨⟨s,row,e,r,p,fun q hq=>by have:=oo q hq;omega⟩,by omega⟩
abbrev LgK:Kd := .ag (.pr .i (.pr (.ar 32 .u8) (.pr EtK .un)))
def lg0:LgK.Ty:=(0,(Vector.replicate 32 0,(et0,())))
theorem ZC0.s {v:KeK.Ty} {k:Kys} {h:Heap} {K:LgK.Ty→Int→Heap→Prop} (a:KeAt h v k) (hl:k.pubs.length≤9223372036854775806)
 (hbad:kysMay k=false→∀h',Keep [] h h'→K lg0 2000 h')
 (hok:kysMay k=true→∀h',Keep [] h h'→K ((0,(rootV [],(et0,()))):LgK.Ty) 0 h'):ZC0.C v h K:=by
 apply ZC0.c;unfold ZC0.m;refine new_gen fun b1 h1 hb1 k1 e1 hs1 =>?_;have e1:h1[b1]? = some (vobj t_api_Keys KeK v):=e1;refine new_gen fun b2 h2 hb2 k2 e2 hs2 =>?_;have e2:h2[b2]? = some (vobj t_api_Log LgK lg0):=e2;refine ld_go (sm_all (k2.g e1)) ?_;have k02:Keep [] h h2:=k1.n k2;refine ZA1.s (a.keep k02) hl fun h3 k3 =>?_;have k03:Keep [] h h3:=k02.n k3;have z1:=k1.1
 cases hm:kysMay k with
 | false =>
   rw[if_pos (by rfl)];refine st_to (y:=lg0) (k3.g e2) fun h4 k4 e4 hs4=>ld_go (sm_all e4) ?_;exact hbad hm h4 (k03.new k4 (by simp;omega))
 | true =>
   rw[if_neg (by simp)];refine ZDH.s fun h5 k5 t5 =>?_;refine ZAS.s t5 (by simp) fun h6 k6 =>?_;have k36:Keep [] h3 h6:=k5.n k6;have hok':=hok hm;generalize rootV []=R at *;refine st_to (y:=((0,(R,(et0,()))):LgK.Ty)) (k36.g (k3.g e2)) fun h7 k7 e7 hs7=>ld_go (sm_all e7) ?_;exact hok' h7 ((k03.n k36).new k7 (by simp;omega))
def lastE (C:Cn):Ett:=C.all.getLast?.getD ⟨0,0,[],Vector.replicate 32 0,[],[]⟩
structure LgR (h:Heap) (x:LgK.Ty) (C:Cn):Prop where
 n:x.1=(C.all.length:Int)
 r:x.2.1=rootV (C.all.map putE)
 e:EtR h x.2.2.1 (lastE C)
theorem et0_R {h:Heap}:EtR h et0 ⟨0,0,[],Vector.replicate 32 0,[],[]⟩:=⟨rfl,rfl,.inl ⟨rfl,rfl⟩,rfl,.inl ⟨rfl,rfl⟩,rfl⟩
theorem lg_w33 {x:LgK.Ty} {y:EtK.Ty}:wrL (LgK.cells x) 33 (EtK.cells y)=LgK.cells ((x.1,(x.2.1,(y,()))):LgK.Ty):=by
 have l3:((Kd.ar 32 .u8).cells x.2.1).length=32:=Kd.cells_length ..;have le:∀z:EtK.Ty,(EtK.cells z).length=37:=fun z=>Kd.cells_length ..
 have e0:∀z:EtK.Ty,LgK.cells ((x.1,(x.2.1,(z,()))):LgK.Ty)=(Kd.i.cells x.1++(Kd.ar 32 .u8).cells x.2.1)++(EtK.cells z++[]):=fun z=>by
  rw[YAB];rfl
 have e1:=e0 x.2.2.1;rw[e0 y];have e1:LgK.cells x=_:=e1;rw[e1];have l33:(Kd.i.cells x.1++(Kd.ar 32 .u8).cells x.2.1).length=33:=by rw[YAQ,l3];rfl
 generalize (Kd.i.cells x.1++(Kd.ar 32 .u8).cells x.2.1)=A at *;have l1:=le x.2.2.1;have l2:=le y;generalize EtK.cells x.2.2.1=B at *;generalize EtK.cells y=D at *;unfold wrL;rw[YAf l33,l2,←YAE,YAG l33,YAG l1,YAB]
section
variable {n0 c t:Nat} {h:Heap} {mv:MbK.Ty} {ps bs es:Slc} {evs:List EtK.Ty} {C:Cn}
theorem chain_Log.s {K:LgK.Ty→Heap→Prop} (i:IsCh n0 h c t mv ps bs es evs C) (o:CnOk C) (hK:∀x h',Keep [] h h'→LgR h' x C→(∀q∈etO x.2.2.1,h.size≤q)→K x h'):ZBw.C (some ⟨c,0⟩) h K:=by
 apply ZBw.c;unfold ZBw.m;have on:=o.n;have al:=i.al;refine new_gen fun b1 h1 hb1 k1 e1 hs1 =>?_;have e1:h1[b1]? = some (vobj t_api_Log LgK lg0):=e1;rw[if_neg (by simp)];have i1:=i.keep0 k1;have tl:(C.all.map putE).length≤1000000:=by rw[YAT];omega
 obtain ⟨R,hR⟩:∃R,rootV (C.all.map putE)=R:=⟨_,rfl⟩;refine jn_in (fun y h'=>Keep [] h1 h'∧∃b,y=(Pl.mk b 0,())∧h1.size≤b∧h'[b]? = some (vobj t_api_Log LgK (((C.all.length:Int),(R,(et0,()))):LgK.Ty))) ?_ ?_
 ·refine nck_go (ld_go i1.fa (nck_go (ld_go i1.ft ⟨?_,?_⟩)))
  ·refine ZAS.s i1.t tl fun h4 k4 =>?_;refine ⟨(i1.keep0 k4).fa,?_⟩;rw[hR];refine new_gen fun b2 h5 hb2 k5 e5 hs5 =>?_;have e5:h5[b2]? = some (vobj t_api_Log LgK lg0):=e5;refine ⟨((i1.keep0 k4).keep0 k5).fa,?_⟩;rw[al];refine st_to e5 fun h6 k6 e6 hs6 =>?_;have z4:=k4.1;exact ⟨(k4.n k5).new k6 (by simp;omega),b2,rfl,by omega,e6⟩
  ·refine new_gen fun b2 h5 hb2 k5 e5 hs5 =>?_;have e5:h5[b2]? = some (vobj t_api_Log LgK lg0):=e5;have i5:=i1.keep0 k5;refine ⟨i5.ft,i5.fa,?_⟩;refine ZAS.s i5.t tl fun h4 k4 =>?_;refine ⟨(i5.keep0 k4).fa,?_⟩;rw[hR,al];refine st_to (k4.g e5) fun h6 k6 e6 hs6 =>?_;exact ⟨(k5.n k4).new k6 (by simp;omega),b2,rfl,by omega,e6⟩
 rintro _ h3 ⟨k3,b,rfl,hb,e3⟩;have k03:Keep [] h h3:=k1.n k3;have i3:=i.keep0 k03;have z1:=k1.1;have e13:=k3.g e1;have n1:b1≠b:=by omega
 have f0:sm .i ((Pl.mk b 0).fld 0) (C.all.length:Int) h3:=sm_fld (n:=0) (k' := .i) e3 rfl (by decide);refine ld_go f0 ?_;refine jn_in (fun _ h'=>Keep [] h h'∧h'[b1]? = some (vobj t_api_Log LgK lg0)∧∃v',h'[b]? = some (vobj t_api_Log LgK (((C.all.length:Int),(R,(v',()))):LgK.Ty))∧EtR h' v' (lastE C)∧∀q∈etO v',h.size≤q) ?_ ?_
 ·unfold lastE;by_cases h0:C.all.length=0
  ·rw[if_neg (show ¬decide ((C.all.length:Int)>0)=true from dn (by omega))];have hnil:C.all=[]:=List.length_eq_zero_iff.1 h0;refine ⟨k03,e13,et0,e3,?_,by simp[etO,et0,own]⟩;rw[hnil];exact et0_R
  ·rw[if_pos (show decide ((C.all.length:Int)>0)=true from dT (by omega))];refine nck_go (ld_go i3.fa (ld_go f0 ?_));have hw:w64 ((C.all.length:Int)-1)=((C.all.length-1:Nat):Int):=w6 (by omega);rw[hw];have el:=i3.x.len;have hx:=i3.x.getI (i:=C.all.length-1) (by omega) (by omega);have ha:=o.a _ (YAP (l:=C.all) (n:=C.all.length-1) (by omega))
   have hg:C.all.getLast? = some (C.all[C.all.length-1]'(by omega)):=by
    rw[List.getLast?_eq_getElem?,YAN (by omega)]
   rw[hg];refine seg_ix i3.a.seg (x:=evs[C.all.length-1]'(by omega)) (by omega) (by rw[YAk];exact YAN (by omega)) rfl ?_;generalize evs[C.all.length-1]'(by omega)=v at *;generalize C.all[C.all.length-1]'(by omega)=e at *;obtain ⟨_,_,pv,pt⟩:=put_vec ha.1;refine ZCn.s hx.1.at (by omega) (by omega) fun v' h11 k11 r11 o11 =>?_;have e11:=k11.g e3;have z03:=k03.1;refine st_fld (k:=LgK) (k':=EtK) (n:=33) e11 (by decide) lg_w33 ?_;dsimp only;have e12:=get_set (o':=vobj t_api_Log LgK (((C.all.length:Int),(R,(v',()))):LgK.Ty)) e11;have k12:Keep [b] h11 (h11.setIfInBounds b (vobj t_api_Log LgK (((C.all.length:Int),(R,(v',()))):LgK.Ty))):=keep_set;generalize h11.setIfInBounds b (vobj t_api_Log LgK (((C.all.length:Int),(R,(v',()))):LgK.Ty))=h12 at e12 k12 ⊢;refine ⟨(k03.n k11).new k12 (by simp;omega),k12.get (k11.g e13) (by simpa using n1),v',e12,r11.keep k12 fun q hq hm =>?_,fun q hq=>by have:=o11 q hq;omega⟩;simp at hm;subst hm;have:=o11 q hq;have:=lt_of_some e3;omega
 rintro _ h10 ⟨k10,e110,v',e10,r10,o10⟩;refine ld_go (sm_all e10) ?_;refine st_to e110 fun h13 k13 e13' hs13=>ld_go (sm_all e13') ?_;refine hK _ h13 (k10.new k13 (by simp;omega)) ⟨rfl,hR.symm,r10.keep k13 fun q hq hm =>?_⟩ o10;simp at hm;subst hm;unfold etO at hq;rcases List.mem_append.1 hq with hq | hq
 ·exact rowT r10.w e110 (by decide) hq
 ·exact rowT r10.t e110 (by decide) hq
end
structure Sd where
 i:By
 s:By
 hi:i.length=16
 hs:s.length=32
def Sd.k (d:Sd) (n:Nat):HKey:=⟨3,1,d.i,d.s,n⟩
def Sd.pub (d:Sd):By:=hssPub (d.k 0)
def seedD (x:By):Sd:=⟨(Hl (tagL 2 [bx x])).take 16,Hl (tagL 3 [bx x]),by rw[YAV,Hl_len];rfl,Hl_len⟩
theorem seed_may {d:Sd} {n:Nat} (hn:n≤4):hssMay (d.k n)=true:=by
 obtain ⟨i,s,hi,hs⟩:=d;unfold hssMay lmsMay Sd.k;dsimp only;simp only [hi,hs,YAo,decide_eq_true_eq];refine ⟨⟨by decide,by omega⟩,?_⟩;show (n:Int)≤4;omega
theorem seed_pub {d:Sd} {n:Nat}:hssPub (d.k n)=d.pub:=by
 unfold Sd.pub hssPub;rw[up_pub,up_pub];unfold Sd.k;dsimp only
theorem seed_up {d:Sd} {n:Nat} (hn:n<4):lmsMay (d.k n).up=true∧(d.k n).up.next<2^(d.k n).up.height.toNat∧lmsMay (d.k n).low=true∧(d.k n).low.next<2^(d.k n).low.height.toNat:=
 hss_parts (k:=d.k n) (seed_may (by omega)) (show (n:Int)<4 by omega)
theorem seed_len {d:Sd}:d.pub.length=60:=by
 unfold Sd.pub hssPub;rw[YAQ,be_len,lmsPub_len (seed_up (by decide)).1]
theorem seed_ok {d:Sd} {n:Nat} {msg:By} (hn:n<4) (hm:msg.length≤65536):hssV d.pub msg (hssSig (d.k n) msg)=0:=by
 rw[←seed_pub (n:=n)];exact hss_ok (seed_may (by omega)) (show (n:Int)<4 by omega) hm
theorem seed_sig {d:Sd} {n:Nat} {msg:By} (hn:n<4) (hm:msg.length≤65536):(hssSig (d.k n) msg).length=4500:=by
 obtain ⟨a,b,c,e⟩:=seed_up (d:=d) hn;have l1:=(lms_ok (msg:=lmsPub (d.k n).low) a b (by rw[lmsPub_len c];decide)).2;have l2:=(lms_ok (msg:=msg) c e hm).2;have p1:(d.k n).up.p=67:=by unfold LKey.p HKey.up Sd.k;dsimp only;decide
 have p2:(d.k n).low.p=67:=by unfold LKey.p HKey.low Sd.k;dsimp only;decide
 have q1:(d.k n).up.height.toNat=1:=by unfold HKey.up Sd.k;dsimp only;decide
 have q2:(d.k n).low.height.toNat=1:=by unfold HKey.low Sd.k;dsimp only;decide
 unfold hssSig;simp only [YAQ,be_len,lmsPub_len c,l1,l2,p1,p2,q1,q2]
def clb:Mb:=⟨2,[[0,1]]⟩
def clbK (a b:Sd):Kys:=⟨clb,[a.pub,b.pub]⟩
theorem clb_may {a b:Sd}:kysMay (clbK a b)=true:=by
 unfold kysMay clbK;dsimp only;rw[show mbMay clb=true by decide,YAp];simp only [YAR,YAU,List.all_cons,List.all_nil,seed_len,Bool.and_true]
 rfl
theorem clb_new {a b:Sd}:CnOk (newC (clbK a b)):=new_ok clb_may
theorem clb_tabs {a b:Sd}:(newC (clbK a b)).begin.length=3:=by
 have:=(clb_new (a:=a) (b:=b)).b;have e:prins (newC (clbK a b)).m=3:=by unfold newC clbK;dsimp only;decide
 omega
def sgnE (e:Ett) (k:HKey):Ett:={ e with sign:=hssSig k (sayE e) }
theorem sayE_sgn {e:Ett} {s:By}:sayE { e with sign:=s }=sayE e:=rfl
theorem sayE_len {e:Ett}:(sayE e).length=32:=by unfold sayE;simp
theorem sgn_may {e:Ett} {d:Sd} {n:Nat} (hn:n<4) (h:ettMay e=true):putMay (sgnE e (d.k n))=true:=by
 unfold putMay;rw[show ettMay (sgnE e (d.k n))=ettMay e from Eq.refl _,h,YAp];refine dT ?_;unfold sgnE;dsimp only;rw[seed_sig hn (by rw[sayE_len];decide)]
 decide
theorem sgn_ver {e:Ett} {d:Sd} {n:Nat} (hn:n<4) (h:ettMay e=true):verE (sgnE e (d.k n)) d.pub=0:=by
 unfold verE;rw[if_pos (sgn_may hn h),if_pos];unfold sgnE;dsimp only;rw[sayE_sgn];exact seed_ok hn (by rw[sayE_len];decide)
structure ClubC (a b:Sd) (C:Cn):Prop where
 m:C.m=clb
 p:C.pubs=[a.pub,b.pub]
 b:C.begin.length=3
theorem clb_c {a b:Sd}:ClubC a b (newC (clbK a b)):=⟨rfl,rfl,clb_tabs⟩
def sdOf (a b:Sd) (u:Nat):Sd:=if u=0 then a else b
theorem ClubC.pub {a b:Sd} {C:Cn} {u:Nat} (c:ClubC a b C) (hu:u≤1):C.pubs.getD u []=(sdOf a b u).pub:=by
 rw[c.p]
 match u,hu with
 | 0,_=>rfl
 | 1,_=>rfl
theorem next_may {a b:Sd} {C:Cn} {u:Nat} {T:List HVec} (c:ClubC a b C) (o:CnOk C) (hu:u≤1) (hT:T.length=3) (hn:C.all.length<256) (hv:(nextVec C (u:Int)).all vecOk=true):ettMay (nextE C (u:Int) T)=true:=by
 obtain ⟨v1,v2,v3⟩:=o.v
 have hl:(nextVec C (u:Int)).length=2:=by
  unfold nextVec;rw[List.length_set];rw[c.m] at v1;have:clb.users=2:=rfl;omega
 unfold ettMay vecMay nextE;dsimp only;rw[hv,hl,hT];simp only [YAo,decide_eq_true_eq,YAp];omega
theorem nxt_may {a b:Sd} {C:Cn} {u:Nat} (c:ClubC a b C) (hu:u≤1) (hn:C.all.length<256):nxtMay C (u:Int) 3=true:=by
 unfold nxtMay;rw[c.m];have h1:clb.users=2:=rfl;have h2:prins clb=3:=by decide
 rw[h1,h2];simp only [YAo,decide_eq_true_eq];omega
theorem frm_next {a b:Sd} {C:Cn} {e:Ett} (c:ClubC a b C) (hp:putMay e=true) (hv:e.vec.length=2) (hT:e.tables.length=3) (hn:C.all.length<256):frmC C e=true:=by
 unfold frmC;rw[c.m,hp,hv,hT];have h1:clb.users=2:=rfl;have h2:prins clb=3:=by decide
 rw[h1,h2];simp only [YAo,decide_eq_true_eq,YAp];omega
theorem next_len {a b:Sd} {C:Cn} {u:Int} (c:ClubC a b C) (o:CnOk C):(nextVec C u).length=2:=by
 obtain ⟨v1,v2,v3⟩:=o.v;unfold nextVec;rw[List.length_set];rw[c.m] at v1;have:clb.users=2:=rfl;omega
theorem chk_next {a b:Sd} {C:Cn} {u n:Nat} {T:List HVec} (c:ClubC a b C) (o:CnOk C) (hu:u≤1) (hT:T.length=3) (hn:C.all.length<256) (hv:(nextVec C (u:Int)).all vecOk=true) (h4:n<4) :
 chkC C (sgnE (nextE C (u:Int) T) ((sdOf a b u).k n))=if tabsOk C (nextE C (u:Int) T)=true then 0 else 2005:=by
 have em:=next_may c o hu hT hn hv;have hf:=frm_next c (e:=sgnE (nextE C (u:Int) T) ((sdOf a b u).k n)) (sgn_may h4 em) (next_len c o) hT hn;have q1:(sgnE (nextE C (u:Int) T) ((sdOf a b u).k n)).seq=(C.all.length:Int)+1:=Eq.refl _;have q2:(sgnE (nextE C (u:Int) T) ((sdOf a b u).k n)).user=(u:Int):=Eq.refl _;have q3:(sgnE (nextE C (u:Int) T) ((sdOf a b u).k n)).vec=nextVec C (u:Int):=Eq.refl _;have q4:(sgnE (nextE C (u:Int) T) ((sdOf a b u).k n)).root=rootV (C.all.map putE):=Eq.refl _;have ht:tabsOk C (sgnE (nextE C (u:Int) T) ((sdOf a b u).k n))=tabsOk C (nextE C (u:Int) T):=Eq.refl _;have hv0:=sgn_ver (d:=sdOf a b u) h4 em;generalize sgnE (nextE C (u:Int) T) ((sdOf a b u).k n)=e at *;unfold chkC;rw[if_pos hf,if_pos q1,q2,if_pos (by rw[c.m];show (u:Int)<2;omega),if_pos q3,if_pos q4,ht,YAk,c.pub hu,hv0,if_pos rfl]
theorem et_w36 {v:EtK.Ty} {y:ByteArray}:wrL (EtK.cells v) 36 (Kd.s.cells y)=EtK.cells ((v.1,(v.2.1,(v.2.2.1,(v.2.2.2.1,(v.2.2.2.2.1,(y,v.2.2.2.2.2.2)))))):EtK.Ty):=by
 have l3:((Kd.ar 32 .u8).cells v.2.2.2.1).length=32:=Kd.cells_length ..
 have e0:∀w:ByteArray×Unit,EtK.cells ((v.1,(v.2.1,(v.2.2.1,(v.2.2.2.1,(v.2.2.2.2.1,w))))):EtK.Ty)=(((Kd.i.cells v.1++(Kd.i.cells v.2.1++Kd.sl.cells v.2.2.1))++(Kd.ar 32 .u8).cells v.2.2.2.1)++Kd.sl.cells v.2.2.2.2.1)++(Kd.s.cells w.1++[]):=fun w=>by
  rw[YAB,YAB];rfl
 have e1:=e0 v.2.2.2.2.2;have e2:=e0 (y,v.2.2.2.2.2.2);rw[e2];have e1:EtK.cells v=_:=e1;rw[e1];have l36:(((Kd.i.cells v.1++(Kd.i.cells v.2.1++Kd.sl.cells v.2.2.1))++(Kd.ar 32 .u8).cells v.2.2.2.1)++Kd.sl.cells v.2.2.2.2.1).length=36:=by rw[YAQ,YAQ,l3];rfl
 generalize (((Kd.i.cells v.1++(Kd.i.cells v.2.1++Kd.sl.cells v.2.2.1))++(Kd.ar 32 .u8).cells v.2.2.2.1)++Kd.sl.cells v.2.2.2.2.1)=A at *;unfold wrL;rw[YAf l36,←YAE,YAG l36,YAB]
 rfl
theorem ZCN.s {v:EtK.Ty} {e:Ett} {h:Heap} {K:ByteArray→Int→Heap→Prop} (a:EtAt h v e) (hl:e.vec.length≤9223372036854775806) (hK:∀h',Keep [] h h'→K (if putMay e=true then bx (putE e) else ⟨#[]⟩) (if putMay e=true then 0 else 1900) h'):ZCN.C v h K:=by
 apply ZCN.c;unfold ZCN.m;refine new_gen fun b h1 hb k1 e1 hs1 =>?_;have e1:h1[b]? = some (vobj t_api_Entry EtK v):=e1;refine ld_go (sm_all e1) ?_;refine ZBu.s (a.keep k1) hl fun h2 k2 =>?_;obtain ⟨f0,f1,f2,f3,f35,f36⟩:=et_f (k2.g e1);rw[a.s] at f36;refine jn_at (!putMay e,()) h2 ?_ ?_
 ·unfold putMay
  cases hm:ettMay e with
  | false=>rw[if_pos (by rfl)];exact ⟨by simp,rfl⟩
  | true =>
    rw[if_neg (by simp)];refine ld_go f36 ⟨?_,rfl⟩;rw[bx_size];by_cases c:e.sign.length≤8192
    ·rw[dF (show ¬((e.sign.length:Int)>8192) by omega)];simp[c]
    ·rw[dT (show ((e.sign.length:Int)>8192) by omega)];simp[c]
 dsimp only
 cases hp:putMay e with
 | false =>
   rw[if_pos (by rfl)];rw[hp] at hK;exact hK h2 (k1.n k2)
 | true =>
   rw[if_neg (by simp)];rw[hp] at hK;have hm:ettMay e=true:=by unfold putMay at hp;simp only [YAo] at hp;exact hp.1
   have hs:e.sign.length≤8192:=by unfold putMay at hp;simp only [YAo,decide_eq_true_eq] at hp;exact hp.2
   refine ld_go f36 (ld_go f36 ?_);rw[bx_size];refine ZAA.s (n:=2) (by decide) (by decide) (by omega) fun h4 k4=>⟨sm_keep (by decide) f36 k4,?_⟩;rw[if_pos hm];obtain ⟨u0,u1,q0,q1,vx,v1,v16,t1,t24⟩:=ett_of hm
   have bl:(bodyE e).length≤2000:=by
    unfold bodyE;simp only [YAQ,be_len,flat2_len,flat32_len,YAR,YAU];have:(Vector.toList e.root).length=32:=by simp
    omega
   refine sadd_b (by rw[be_len];omega) ?_;refine sadd_b (by rw[YAQ,be_len];omega) ?_;have:=hK h4 ((k1.n k2).n k4);unfold putE at this;rw[YAB];exact this
theorem ZB0.s {l:By} {h:Heap} {K:ByteArray→Heap→Prop} (hl:l.length≤60000) (hK:∀h',Keep [] h h'→K (bx (Hl (tagL 1 [bx l]))) h'):ZB0.C (bx l) h K:=by
 apply ZB0.c;unfold ZB0.m;refine bs_gen fun bq h2 hbq k2 r2 hs2 =>?_
 have hl1:(tagL 1 [bx l]).length≤1000000:=by
  unfold tagL pieceL;simp[be_len,bx_data2];omega
 refine ZBt.s (tag:=1) r2.seg (by decide) (by simp only [lens,YAX,YAZ,List.sum_cons,List.sum_nil,bx_size];omega) hl1 fun h3 k3 =>?_;unfold Hl at hK;generalize shaL (tagL 1 [bx l])=v at *;refine new_st_gen fun b2 h5 hb2 k5 e5 hs5 =>?_;refine ld_go (sm_all e5) ?_;exact ZAW.s fun h6 k6=>hK h6 (((k2.n k3).n k5).n k6)
def lk0:LkK.Ty:=(0,(0,(⟨#[]⟩,(⟨#[]⟩,(0,())))))
def spentH (k:HKey):Bool:=decide (k.next=2^(2*k.height.toNat))
theorem ZAk.u {k:HKey} {msg:By} {h:Heap} {K:ByteArray→LkK.Ty→Int→Heap→Prop} (hm:hssMay k=true) (hl:msg.length≤65536)
 (hK:∀h',Keep [] h h'→K (bx (if spentH k=true then [] else hssSig k msg)) (if spentH k=true then lk0 else hkV { k with next:=k.next+1 }) (if spentH k=true then 601 else 0) h'):ZAk.C (hkV k) (bx msg) h K:=by
 obtain ⟨a1,a2,h16,h32,a3,a4,a5,_⟩:=hss_h hm;have hp:((2^(2*k.height.toNat):Nat):Int)=2^(2*k.height.toNat):=by push_cast;rfl
 cases hs:spentH k with
 | false =>
   rw[hs] at hK;unfold spentH at hs;have hs:=of_decide_eq_false hs;exact ZAk.s hm (by omega) hl hK
 | true =>
   rw[hs] at hK;unfold spentH at hs;have hs:=of_decide_eq_true hs;apply ZAk.c;unfold ZAk.m;refine new_gen fun b h1 hb k1 eb hs1 =>?_;refine new_gen fun b2 h2 hb2 k2 eb2 hs2 =>?_;have eb:h2[b]? = some (vobj t_api_HssKey LkK (hkV k)):=k2.g eb;have eb2:h2[b2]? = some (vobj t_api_HssKey LkK lk0):=eb2;refine jn_in (fun _ _=>False) ?_ (fun _ _ h=>h.elim);refine jn_in (fun y h'=>y=(false,())∧Keep [] h2 h') ?_ ?_
   ·refine ld_go (sm_all eb) ?_;refine ZBK.s fun h3 k3 =>?_;rw[hm,if_neg (by simp)];refine ⟨?_,k3⟩;rw[dF (show ¬((bx msg).size:Int)>65536 by rw[bx_size];omega)]
   ·rintro _ h3 ⟨rfl,k3⟩;rw[if_neg (by simp)];refine ld_go (sm_all (k3.g eb)) ?_;refine ref1_LeftK.s hm fun h4 k4 =>?_;rw[if_pos (show decide (((2^(2*k.height.toNat):Nat):Int)-k.next=0)=true from dT (by omega))];have k24:=k3.n k4;refine st_to (k24.g eb2) fun h5 k5 e5 hs5=>ld_go (sm_all e5) ?_;have:=k1.1;exact hK h5 (((k1.n k2).n k24).new k5 (by simp;omega))
def sgnV (v:EtK.Ty) (s:By):EtK.Ty:=(v.1,(v.2.1,(v.2.2.1,(v.2.2.2.1,(v.2.2.2.2.1,(bx s,v.2.2.2.2.2.2))))))
theorem ZAB.s {v:EtK.Ty} {e:Ett} {k:HKey} {h:Heap} {K:EtK.Ty→LkK.Ty→Int→Heap→Prop} (a:EtAt h v e) (hl:e.vec.length≤9223372036854775806) (hm:hssMay k=true)
 (hbad:ettMay e=false→∀h',Keep [] h h'→K et0 lk0 1900 h')
 (hsp:ettMay e=true→spentH k=true→∀h',Keep [] h h'→K et0 lk0 601 h')
 (hok:ettMay e=true→spentH k=false→∀h',Keep [] h h'→K (sgnV v (hssSig k (sayE e))) (hkV { k with next:=k.next+1 }) 0 h'):ZAB.C v (hkV k) h K:=by
 apply ZAB.c;unfold ZAB.m;refine new_gen fun b1 h1 hb1 k1 e1 hs1 =>?_;have e1:h1[b1]? = some (vobj t_api_Entry EtK v):=e1;refine new_gen fun b2 h2 hb2 k2 e2 hs2 =>?_;have e2:h2[b2]? = some (vobj t_api_HssKey LkK (hkV k)):=e2;refine new_gen fun b3 h3 hb3 k3 e3 hs3 =>?_;have e3:h3[b3]? = some (vobj t_api_Entry EtK et0):=e3;refine new_gen fun b4 h4 hb4 k4 e4 hs4 =>?_;have e4:h4[b4]? = some (vobj t_api_HssKey LkK lk0):=e4;have e14:h4[b1]? = _:=(((k2.n k3).n k4)).g e1;have e24:h4[b2]? = _:=(k3.n k4).g e2;have e34:h4[b3]? = _:=k4.g e3;have k04:Keep [] h h4:=(((k1.n k2).n k3).n k4);have z1:=k1.1;have z2:=k2.1;have z3:=k3.1;have z4:=k4.1;refine ld_go (sm_all e14) ?_;refine ZBu.s (a.keep k04) hl fun h5 k5 =>?_;have k05:Keep [] h h5:=k04.n k5;have e15:=k5.g e14;have e25:=k5.g e24;have e35:=k5.g e34;have e45:=k5.g e4
 have ending:∀(c:Int) (h5:Heap),Keep [] h h5→h5[b3]? = some (vobj t_api_Entry EtK et0)→h5[b4]? = some (vobj t_api_HssKey LkK lk0)→(∀h',Keep [] h h'→K et0 lk0 c h') →
  Go.Al.st EtK (Pl.mk b3 0) (0,(0,(⟨none,0,0⟩,((Vector.replicate 32 0),(⟨none,0,0⟩,(⟨#[]⟩,())))))) h5 fun h6=>
  Go.Al.st LkK (Pl.mk b4 0) (0,(0,(⟨#[]⟩,(⟨#[]⟩,(0,()))))) h6 fun h7=>
  ld EtK (Pl.mk b3 0) h7 fun x4=>ld LkK (Pl.mk b4 0) h7 fun x5=>K x4 x5 c h7:=fun c h5 k05 e35 e45 hc=>by
  refine st_to e35 fun h6 k6 e6 hs6 =>?_;refine st_to (k6.get e45 (by simp;omega)) fun h7 k7 e7 hs7 =>?_;refine ld_go (sm_all (k7.get e6 (by simp;omega))) (ld_go (sm_all e7) ?_);exact hc h7 ((k05.new k6 (by simp;omega)).new k7 (by simp;omega))
 cases hem:ettMay e with
 | false =>
   rw[if_pos (by rfl)];exact ending 1900 h5 k05 e35 e45 (hbad hem)
 | true =>
   rw[if_neg (by simp),if_pos rfl];replace hsp:=hsp hem;replace hok:=hok hem;have hS:Hl (tagL 1 [bx (bodyE e)])=sayE e:=Eq.refl _;have sl:(sayE e).length≤65536:=by rw[sayE_len];decide
   have bl:(bodyE e).length≤60000:=by
    obtain ⟨u0,u1,q0,q1,vx,v1,v16,t1,t24⟩:=ett_of hem;unfold bodyE;simp only [YAQ,be_len,flat2_len,flat32_len,YAR,YAU];have:(Vector.toList e.root).length=32:=by simp
    omega
   generalize sayE e=M at *;refine jn_in (fun y h'=>∃b,y=(Pl.mk b 0,bx (if spentH k=true then [] else hssSig k M),(if spentH k=true then 601 else 0),())∧h'[b]? = some (vobj t_api_HssKey LkK (if spentH k=true then lk0 else hkV { k with next:=k.next+1 }))∧Keep [] h5 h'∧h5.size≤b) ?_ ?_
   ·refine ld_go (sm_all e25) ⟨?_,?_⟩
    ·refine ZB0.s bl fun h6 k6=>⟨sm_keep (by decide) (sm_all e25) k6,?_,?_⟩
     ·rw[hS];refine ZAk.u hm sl fun h7 k7 =>?_;refine new_st_gen fun b5 h8 hb5 k8 e8 hs8 =>?_;have:=(k6.n k7).1;exact ⟨b5,rfl,e8,(k6.n k7).n k8,by omega⟩
     ·refine new_gen fun b6 h7 hb6 k7 e7 hs7=>⟨sm_keep (by decide) (sm_all e25) (k6.n k7),?_⟩;rw[hS];refine ZAk.u hm sl fun h8 k8 =>?_;refine st_to (k8.g e7) fun h9 k9 e9 hs9 =>?_;have:=k6.1;have:=k7.1;exact ⟨b6,rfl,e9,((k6.n k7).n k8).new k9 (by simp;omega),by omega⟩
    ·refine new_gen fun b7 h6 hb7 k6 e6 hs6=>⟨sm_keep (by decide) (sm_all e25) k6,?_⟩;refine ZB0.s bl fun h7 k7=>⟨sm_keep (by decide) (sm_all e25) (k6.n k7),?_⟩;rw[hS];refine ZAk.u hm sl fun h8 k8 =>?_;refine st_to ((k7.n k8).g e6) fun h9 k9 e9 hs9 =>?_;have:=k6.1;exact ⟨b7,rfl,e9,((k6.n k7).n k8).new k9 (by simp;omega),by omega⟩
   ·rintro _ h8 ⟨b,rfl,e8,k8,hb⟩;dsimp only;have k08:=k05.n k8
    cases hs:spentH k with
    | true =>
      rw[if_pos (by rfl)];exact ending 601 h8 k08 (k8.g e35) (k8.g e45) (hsp hs)
    | false =>
      rw[hs] at e8;rw[if_neg (by simp)];refine st_fld (k:=EtK) (k' := .s) (n:=36) (k8.g e15) (by decide) et_w36 ?_;have e22:=get_set (o':=vobj t_api_Entry EtK (sgnV v (hssSig k M))) (k8.g e15);have k22:Keep [b1] h8 (h8.setIfInBounds b1 (vobj t_api_Entry EtK (sgnV v (hssSig k M)))):=keep_set;have:(v.1,(v.2.1,(v.2.2.1,(v.2.2.2.1,(v.2.2.2.2.1,(bx (if false=true then [] else hssSig k M),v.2.2.2.2.2.2))))))=sgnV v (hssSig k M):=rfl;rw[this];have k0_22:=k08.new k22 (by simp;omega);generalize h8.setIfInBounds b1 (vobj t_api_Entry EtK (sgnV v (hssSig k M)))=h22 at *;have lt1:=lt_of_some e15;have e23b:=k22.get e8 (by simp;omega);refine ld_go (sm_all e22) (ld_go (sm_all e23b) ?_);refine st_to (k22.get (k8.g e35) (by simp;omega)) fun h23 k23 e23 hs23 =>?_;have lt3:=lt_of_some e35;refine ⟨sm_all (k23.get e23b (by simp;omega)),?_⟩;refine st_to (k23.get (k22.get (k8.g e45) (by simp;omega)) (by simp;omega)) fun h24 k24 e24 hs24 =>?_;refine ld_go (sm_all (k24.get e23 (by simp;omega))) (ld_go (sm_all e24) ?_);exact hok hs h24 ((k0_22.new k23 (by simp;omega)).new k24 (by simp;omega))
section
variable {m:Mb} {u:Int} {X:Fs}
end
section
variable {w:Wk}
variable (hX:stMay w.X=true)
include hX
end
theorem ZDY.s {v:MbK.Ty} {m:Mb} {u p:Int} {h:Heap} {K:Bool→Heap→Prop} (a:MbAt h v m) (hgl:m.groups.length≤9223372036854775807) (hK:∀h',Keep [] h h'→K (mbMay m&&mIn m u p) h'):ZDY.C v u p h K:=by
 apply ZDY.c;unfold ZDY.m;refine new_gen fun b h1 hb k1 e1 hs1 =>?_;have e1:h1[b]? = some (vobj t_api_Members MbK v):=e1;have a1:=a.keep k1
 have s0:∀h',Keep [] h1 h'→sm .i ((Pl.mk b 0).fld 0) m.users h':=fun h' k=>by
  rw[←a.u];exact sm_sub (sm_all (k.g e1)) (by decide) rfl
 have s1:∀h',Keep [] h1 h'→sm .sl ((Pl.mk b 0).fld 1) v.2.1 h':=fun h' k=>sm_sub (sm_all (k.g e1)) (by decide) rfl;refine jn_in (fun y h'=>Keep [] h1 h'∧((y.1=true∧(mbMay m&&mIn m u p)=false)∨(y.1=false∧mbMay m=true∧0≤u∧u<m.users∧0≤p∧p<prins m))) ?_ ?_
 ·refine ld_go (sm_all e1) ?_;refine ZAQ.s a1 hgl fun h3 k3 =>?_
  cases hm:mbMay m with
  | false=>rw[if_pos (by rfl)];exact ⟨k3,.inl ⟨rfl,rfl⟩⟩
  | true =>
    rw[if_neg (by simp)]
    have no:(u<0∨m.users≤u∨p<0∨prins m≤p)→(true&&mIn m u p)=false:=fun h=>by
     unfold mIn;rw[if_pos h];rfl
    by_cases h0:u<0
    ·rw[if_pos (by simpa using h0)];exact ⟨k3,.inl ⟨rfl,no (.inl h0)⟩⟩
    rw[if_neg (by simpa using h0)];refine ld_go (s0 h3 k3) ?_;by_cases h1:m.users≤u
    ·rw[if_pos (show decide (u≥m.users)=true from dT h1)];exact ⟨k3,.inl ⟨rfl,no (.inr (.inl h1))⟩⟩
    rw[if_neg (show ¬decide (u≥m.users)=true by simp;omega)];by_cases h2:p<0
    ·rw[if_pos (by simpa using h2)];exact ⟨k3,.inl ⟨rfl,no (.inr (.inr (.inl h2)))⟩⟩
    rw[if_neg (by simpa using h2)];refine ld_go (sm_all (k3.g e1)) ?_;refine ZAR.s (a1.keep k3) hm fun h4 k4 =>?_;by_cases h3:prins m≤p
    ·exact ⟨k3.n k4,.inl ⟨dT h3,no (.inr (.inr (.inr h3)))⟩⟩
    ·exact ⟨k3.n k4,.inr ⟨dF h3,rfl,by omega,by omega,by omega,by omega⟩⟩
 ·rintro ⟨(y:Bool),_⟩ h2 ⟨k2,hy⟩;dsimp only at hy ⊢;have k02:Keep [] h h2:=k1.n k2;rcases hy with ⟨rfl,hf⟩ | ⟨rfl,hm,c1,c2,c3,c4⟩
  ·rw[if_pos rfl];rw[hf] at hK;exact hK h2 k02
  rw[if_neg (by simp)];rw[hm,YAp] at hK
  have hmi:mIn m u p=if p<m.users then decide (u=p) else (m.groups.getD (p-m.users).toNat []).contains u:=by
   unfold mIn;rw[if_neg (by omega)]
  rw[hmi] at hK;refine ld_go (s0 h2 k2) ?_;by_cases hp:p<m.users
  ·rw[if_pos (by simpa using hp)];rw[if_pos hp] at hK;rw[show decide (p=u)=decide (u=p) by by_cases e:p=u <;> simp[e];exact fun h=>e h.symm];exact hK h2 k02
  rw[if_neg (by simpa using hp)];rw[if_neg hp] at hK;refine ld_go (s1 h2 k2) (ld_go (s0 h2 k2) ?_);obtain ⟨q1,q2,q3,_⟩:=mb_ok hm;have a2:=a1.keep k2;obtain ⟨_,gs,g1,g2⟩:=a2;have glen:=g1.len;have l2:=g2.len;unfold prins at c4;have hw:w64 (p-m.users)=(((p-m.users).toNat:Nat):Int):=w6 (by omega);rw[hw];generalize hj:(p-m.users).toNat=j at hK;have hj1:j<gs.length:=by omega
  have hj2:j<m.groups.length:=by omega
  refine seg_ix g1 (x:=gs[j]) (by omega) (by simp[hj1]) rfl ?_;have gg:=g2.getI hj1 hj2;have ggl:=gg.1.len;have hgl2:=gg.2;have hgd:m.groups.getD j []=m.groups[j]:=getD_at hj2;rw[hgd] at hK;refine lp_go (fun (y:Int×Unit) (h5:Heap)=>h5=h2∧∃n:Nat,y.1=n∧n≤(m.groups[j]).length∧∀t,(ht:t<(m.groups[j]).length)→t<n→(m.groups[j])[t]≠u) (fun (y:Int×Unit) _=>(m.groups[j]).length-y.1.toNat) ?_ ?_
  ·exact ⟨rfl,0,rfl,by omega,fun t ht h=>by omega⟩
  ·rintro ⟨(i:Int),_⟩ h5 ⟨rfl,n,e,hn,hall⟩;dsimp only at e ⊢;subst e;by_cases hlt:n<(m.groups[j]).length
   ·rw[if_pos (show decide ((n:Int)<((gs[j]).len:Int))=true from dT (by omega))];have hw:w64 ((n:Int)+1)=((n+1:Nat):Int):=w6 (by omega);rw[hw];refine seg_ix gg.1 (x:=(m.groups[j])[n]) (by omega) (by simp[hlt]) rfl ?_;by_cases he:(m.groups[j])[n]=u
    ·rw[if_pos (by simpa using he)];have:(m.groups[j]).contains u=true:=by rw[List.contains_iff_mem,←he];exact YAP hlt
     rw[this] at hK;exact hK h5 k02
    ·rw[if_neg (by simpa using he)];refine ⟨⟨by first | rfl | trivial,n+1,rfl,by omega,fun t ht htn =>?_⟩,by simp;omega⟩;by_cases hte:t=n
     ·subst hte;exact he
     ·exact hall t ht (by omega)
   ·rw[if_neg (show ¬decide ((n:Int)<((gs[j]).len:Int))=true by simp;omega)]
    have:(m.groups[j]).contains u=false:=by
     cases hc:(m.groups[j]).contains u with
     | false=>rfl
     | true =>
       rw[List.contains_iff_mem] at hc;obtain ⟨t,ht,e⟩:=List.mem_iff_getElem.1 hc;exact absurd e (hall t ht (by omega))
    rw[this] at hK;exact hK h5 k02
theorem ZAi.s {d:ByteArray} {h:Heap} {K:Kd.Ty (.ar 32 .u8)→Heap→Prop} (hd:d.size≤65536) (hK:∀h',Keep [] h h'→K (hashS d) h'):ZAi.C d h K:=by
 apply ZAi.c;unfold ZAi.m;refine new_gen fun b1 h1 hb1 k1 e1 hs1 =>?_;refine bs_gen fun bq h2 hbq k2 r2 hs2 =>?_
 have hl:(tagL 0 [d]).length≤1000000:=by
  unfold tagL pieceL;simp[be_len];omega
 refine ZBt.s (tag:=0) r2.seg (by decide) (by simp only [lens,YAX,YAZ,List.sum_cons,List.sum_nil];omega) hl fun h3 k3 =>?_;refine new_st_gen fun b2 h5 hb2 k5 e5 hs5 =>?_;refine ld_go (sm_all e5) ?_;have k15:Keep [] h1 h5:=(k2.n k3).n k5;refine st_to (k15.g e1) fun h6 k6 e6 hs6 =>?_;refine ld_go (sm_all e6) ?_;have:=k1.1;exact hK h6 ((k1.n k15).new k6 (by simp;omega))
def knows (hv:List ByteArray) (o:ByteArray):Prop:=∃d∈hv,hashS d=hashS o
theorem known_none {hv:List ByteArray} (hz:∀o∈hv,o.size≤65536) {h:HsV}:known hv h=none↔¬ ∃d∈hv,hashS d=h:=by
 unfold known;rw[List.find?_eq_none]
 constructor
 ·rintro h1 ⟨d,hd,e⟩;exact h1 d hd (by simp[hz d hd,e])
 ·rintro h1 d hd h2;simp only [YAo,decide_eq_true_eq] at h2;exact h1 ⟨d,hd,h2.2⟩
structure Lev (X:Fs) (hv:List ByteArray) (i:Nat):Prop where
 l0:1≤i→∀t∈X,knows hv (tabText t)
 l1:2≤i→∀t∈X,∀x∈t,knows hv (if x.kind=1 then bx (putBytes x.ents) else treeR x.data)
 l2:3≤i→∀t∈X,∀x∈t,x.kind≠1→∀o∈treeI x.data,knows hv o
 l3:4≤i→∀t∈X,∀x∈t,x.kind≠1→∀o∈treeB x.data,knows hv o
theorem miss_len {K:Kn} {l:List HsV}:(miss K l).length≤l.length:=List.length_filter_le _ _
theorem treeW_len {K:Kn} {d:ByteArray} (hd:d.size≤4096):(treeW K d).length≤64:=by
 have h1:=treeB_len (d:=d);have h2:=treeI_len (d:=d);have m1:=miss_len (K:=K) (l:=(treeI d).map hashS);have m2:=miss_len (K:=K) (l:=(treeB d).map hashS);rw[YAT] at m1 m2;unfold treeW
 cases K (hashS (treeR d)) with
 | none=>simp
 | some r =>
   dsimp only;split <;> omega
theorem stW_len {K:Kn} {X:Fs} (hm:stMay X=true):(stW K X).length≤60000:=by
 obtain ⟨_,h2,h3,_⟩:=st_ok hm
 have a:∀ {t:Tab},(∀x∈t,ndMay x=true)→(t.flatMap (ndW K)).length≤64*t.length:=by
  intro t
  induction t with
  | nil=>intro _;simp
  | cons x r ih =>
    intro h;have h1:=ih fun y hy=>h y (by simp[hy])
    have h2:(ndW K x).length≤64:=by
     unfold ndW;split
     ·have:=miss_len (K:=K) (l:=[ndRoot x]);simp at this;omega
     ·exact treeW_len (nd_small (h x (by simp))).1
    rw[YAL,YAQ,YAR];omega
 have b:∀ {Y:Fs},(∀t∈Y,tabMay t=true)→(stW K Y).length≤2048*Y.length:=by
  intro Y
  induction Y with
  | nil=>intro _;simp[stW]
  | cons t r ih =>
    intro h;have h1:=ih fun y hy=>h y (by simp[hy]);obtain ⟨_,q2,q3⟩:=tab_ok (h t (by simp));have h2:=a q2;unfold stW at h1 ⊢;rw[YAL,YAQ,YAR];omega
 have:=b h3;omega
theorem round {X:Fs} {hv:List ByteArray} {i:Nat} (hm:stMay X=true) (hn:noClash (buildO X)) (hsub:∀o∈hv,o∈allO X) (hlev:Lev X hv i) :
 loadS (known hv) (buildH X)=(X,[],0)∨∃ws,loadS (known hv) (buildH X)=([],ws,1501)∧ws≠[]∧ws.length≤60000∧i<4∧(∀w∈ws,∃o∈allO X,known (buildO X) w=some o∧hashS o=w) ∧
  ∀hv',(∀o∈hv,o∈hv')→(∀w∈ws,∃o∈hv',hashS o=w)→Lev X hv' (i+1):=by
 have hz:∀o∈hv,o.size≤65536:=fun o ho=>allO_size hm (hsub o ho)
 have hkr:∀o∈allO X,KrO (known hv) o:=fun o ho=>by
  cases hk:known hv (hashS o) with
  | none=>exact .inr hk
  | some d =>
    obtain ⟨h1,h2⟩:=known_some hk;have:=hn d (mem_buildO.2 (hsub d h1)) o (mem_buildO.2 ho) h2;subst this;exact .inl hk
 have hkn:∀ {o:ByteArray},known hv (hashS o)=none↔¬knows hv o:=fun {o}=>known_none hz;have hin:∀ {w:HsV},(∃o∈allO X,hashS o=w)→∃o∈allO X,known (buildO X) w=some o∧hashS o=w:=fun ⟨o,ho,e⟩=>⟨o,ho,by rw[←e];exact known_of hn (mem_buildO.2 ho) (allO_size hm ho),e⟩;have stay:∀ {hv':List ByteArray} {o:ByteArray},(∀o∈hv,o∈hv')→knows hv o→knows hv' o:=fun hs ⟨d,hd,e⟩=>⟨d,hs d hd,e⟩;have all:∀ {o:ByteArray},o∈allO X↔∃t∈X,(∃x∈t,o∈ndAll x)∨o=tabText t:=mem_allO;rw[loadS_eq hm hkr];by_cases hms:miss (known hv) (buildH X)=[]
 case neg=>
  rw[if_pos hms]
  have hi:i=0:=by
   by_cases h:1≤i
   ·exfalso
    apply hms;rw[YAI];intro a ha;obtain ⟨h1,h2⟩:=mem_miss.1 ha;unfold buildH at h1;obtain ⟨t,ht,rfl⟩:=List.mem_map.1 h1;exact hkn.1 h2 (hlev.l0 h t ht)
   ·omega
  subst hi;refine .inr ⟨_,rfl,fun h=>hms (onceL_ne.1 h).2,?_,by omega,fun w hw =>?_,fun hv' hs hw =>?_⟩
  ·have h1:=onceL_len (L:=([]:List HsV)) (xs:=miss (known hv) (buildH X));have h2:=miss_len (K:=known hv) (l:=buildH X);have h3:(buildH X).length=X.length:=by unfold buildH;rw[YAT]
   have h4:=(st_ok hm).2.1;simp only [YAU] at h1;omega
  ·have hw:=(mem_onceL.1 hw).resolve_left (by simp);obtain ⟨h1,_⟩:=mem_miss.1 hw;unfold buildH at h1;obtain ⟨t,ht,rfl⟩:=List.mem_map.1 h1;exact hin ⟨_,all.2 ⟨t,ht,.inr rfl⟩,rfl⟩
  ·refine ⟨fun _ t ht =>?_,fun h=>by omega,fun h=>by omega,fun h=>by omega⟩
   cases hk:known hv (hashS (tabText t)) with
   | none =>
     obtain ⟨o,ho,e⟩:=hw (hashS (tabText t)) (mem_onceL.2 (.inr (mem_miss.2 ⟨by unfold buildH;exact YAc ht,hk⟩)));exact ⟨o,ho,e⟩
   | some d =>
     obtain ⟨h1,h2⟩:=known_some hk;exact ⟨d,hs d h1,h2⟩
 rw[if_neg (c:=miss (known hv) (buildH X)≠[]) (by simp[hms])]
 have h0:∀t∈X,knows hv (tabText t):=fun t ht=>by
  by_cases hk:knows hv (tabText t)
  ·exact hk
  ·have:hashS (tabText t)∈miss (known hv) (buildH X):=mem_miss.2 ⟨by unfold buildH;exact YAc ht,hkn.2 hk⟩;rw[hms] at this;simp at this
 by_cases hst:stW (known hv) X=[]
 ·rw[if_neg (c:=stW (known hv) X≠[]) (by simp[hst])];exact .inl rfl
 rw[if_pos (c:=stW (known hv) X≠[]) hst];have inW:∀ {t:Tab} {x:Nd} {w:HsV},t∈X→x∈t→w∈ndW (known hv) x→w∈onceL [] (stW (known hv) X):=fun ht hx hw=>mem_onceL.2 (.inr (List.mem_flatMap.2 ⟨_,ht,List.mem_flatMap.2 ⟨_,hx,hw⟩⟩))
 have dirW:∀ {x:Nd},x.kind=1→(¬knows hv (bx (putBytes x.ents))→hashS (bx (putBytes x.ents))∈ndW (known hv) x)∧∀w∈ndW (known hv) x,w=hashS (bx (putBytes x.ents))∧¬knows hv (bx (putBytes x.ents)):=fun {x} hk=>by
  have e:ndW (known hv) x=miss (known hv) [hashS (bx (putBytes x.ents))]:=by
   unfold ndW;rw[if_pos hk];unfold ndRoot;rw[if_pos hk]
  rw[e];refine ⟨fun h=>mem_miss.2 ⟨by simp,hkn.2 h⟩,fun w hw =>?_⟩;obtain ⟨h1,h2⟩:=mem_miss.1 hw;simp only [YAd] at h1;subst h1;exact ⟨rfl,hkn.1 h2⟩
 have fileW:∀ {x:Nd},x.kind≠1→ndW (known hv) x=treeW (known hv) x.data:=fun {x} hk=>by unfold ndW;rw[if_neg hk]
 have isM:∀ {os:List ByteArray} {w:HsV},w∈miss (known hv) (os.map hashS)→∃o∈os,hashS o=w∧¬knows hv o:=fun {os w} hw=>by
  obtain ⟨h1,h2⟩:=mem_miss.1 hw;obtain ⟨o,ho,rfl⟩:=List.mem_map.1 h1;exact ⟨o,ho,rfl,hkn.1 h2⟩
 have toM:∀ {os:List ByteArray} {o:ByteArray},o∈os→¬knows hv o→hashS o∈miss (known hv) (os.map hashS):=fun {os o} ho hk=>mem_miss.2 ⟨YAc ho,hkn.2 hk⟩;have notin:∀ {a:HsV} {l:List HsV},l=[]→a∈l→False:=fun h ha=>by rw[h] at ha;simp at ha
 have tc:∀d:ByteArray,(¬knows hv (treeR d)∧treeW (known hv) d=[hashS (treeR d)])∨(knows hv (treeR d)∧treeW (known hv) d=miss (known hv) ((treeI d).map hashS)∧miss (known hv) ((treeI d).map hashS)≠[])∨(knows hv (treeR d)∧(∀o∈treeI d,knows hv o)∧treeW (known hv) d=miss (known hv) ((treeB d).map hashS)):=fun d=>by
  unfold treeW
  cases hk:known hv (hashS (treeR d)) with
  | none=>exact .inl ⟨hkn.1 hk,rfl⟩
  | some r =>
    have hkR:knows hv (treeR d):=by
     by_cases h:knows hv (treeR d)
     ·exact h
     ·rw[hkn.2 h] at hk;simp at hk
    dsimp only;by_cases hI:miss (known hv) ((treeI d).map hashS)=[]
    ·rw[if_neg (by simp[hI])]
     exact .inr (.inr ⟨hkR,fun o ho=>by
      by_cases h:knows hv o
      ·exact h
      ·exact (notin hI (toM ho h)).elim,rfl⟩)
    ·rw[if_pos hI];exact .inr (.inl ⟨hkR,rfl,hI⟩)
 have allIn:∀ {t:Tab} {x:Nd} {o:ByteArray},t∈X→x∈t→o∈ndAll x→o∈allO X:=fun ht hx ho=>all.2 ⟨_,ht,.inl ⟨_,hx,ho⟩⟩;have ndF:∀ {x:Nd},x.kind≠1→ndAll x=treeB x.data++treeI x.data++[treeR x.data]:=fun hk=>by unfold ndAll;rw[if_neg hk]
 have ndD:∀ {x:Nd},x.kind=1→ndAll x=[bx (putBytes x.ents)]:=fun hk=>by unfold ndAll;rw[if_pos hk]
 have hi4:i<4:=by
  by_cases h:i<4
  ·exact h
  ·exfalso
   apply hst;rw[YAI];intro w hw;unfold stW at hw;obtain ⟨t,ht,hw⟩:=List.mem_flatMap.1 hw;obtain ⟨x,hx,hw⟩:=List.mem_flatMap.1 hw;have l1:=hlev.l1 (by omega) t ht x hx;by_cases hk:x.kind=1
   ·rw[if_pos hk] at l1;exact ((dirW hk).2 w hw).2 l1
   ·rw[if_neg hk] at l1;rw[fileW hk] at hw;rcases tc x.data with ⟨h1,_⟩ | ⟨_,h2,_⟩ | ⟨_,_,h3⟩
    ·exact h1 l1
    ·rw[h2] at hw;obtain ⟨o,ho,_,hno⟩:=isM hw;exact hno (hlev.l2 (by omega) t ht x hx hk o ho)
    ·rw[h3] at hw;obtain ⟨o,ho,_,hno⟩:=isM hw;exact hno (hlev.l3 (by omega) t ht x hx hk o ho)
 refine .inr ⟨_,rfl,fun h=>hst (onceL_ne.1 h).2,?_,hi4,fun w hw =>?_,fun hv' hs hw =>?_⟩
 ·have h1:=onceL_len (L:=([]:List HsV)) (xs:=stW (known hv) X);have h2:=stW_len (K:=known hv) hm;simp only [YAU] at h1;omega
 ·have hw:=(mem_onceL.1 hw).resolve_left (by simp);unfold stW at hw;obtain ⟨t,ht,hw⟩:=List.mem_flatMap.1 hw;obtain ⟨x,hx,hw⟩:=List.mem_flatMap.1 hw;apply hin;by_cases hk:x.kind=1
  ·exact ⟨bx (putBytes x.ents),allIn ht hx (by rw[ndD hk];simp),((dirW hk).2 w hw).1.symm⟩
  ·rw[fileW hk] at hw;rcases tc x.data with ⟨_,h2⟩ | ⟨_,h2,_⟩ | ⟨_,_,h2⟩
   ·rw[h2] at hw;simp only [YAd] at hw;exact ⟨treeR x.data,allIn ht hx (by rw[ndF hk];simp),hw.symm⟩
   ·rw[h2] at hw;obtain ⟨o,ho,e,_⟩:=isM hw;exact ⟨o,allIn ht hx (by rw[ndF hk];simp[ho]),e⟩
   ·rw[h2] at hw;obtain ⟨o,ho,e,_⟩:=isM hw;exact ⟨o,allIn ht hx (by rw[ndF hk];simp[ho]),e⟩
 ·have get:∀ {t:Tab} {x:Nd} {o:ByteArray},t∈X→x∈t→(¬knows hv o→hashS o∈ndW (known hv) x)→knows hv' o:=fun {t x o} ht hx h=>by
   by_cases hk:knows hv o
   ·exact stay hs hk
   ·obtain ⟨d,hd,e⟩:=hw _ (inW ht hx (h hk));exact ⟨d,hd,e⟩
  refine ⟨fun _ t ht=>stay hs (h0 t ht),fun _ t ht x hx =>?_,fun hi t ht x hx hk o ho =>?_,fun hi t ht x hx hk o ho =>?_⟩
  ·by_cases hk:x.kind=1
   ·rw[if_pos hk];exact get ht hx (dirW hk).1
   ·rw[if_neg hk];refine get ht hx fun hno =>?_;rw[fileW hk];rcases tc x.data with ⟨_,h2⟩ | ⟨h1,_⟩ | ⟨h1,_⟩
    ·rw[h2];simp
    ·exact absurd h1 hno
    ·exact absurd h1 hno
  ·have l1:=hlev.l1 (by omega) t ht x hx;rw[if_neg hk] at l1;refine get ht hx fun hno =>?_;rw[fileW hk];rcases tc x.data with ⟨h1,_⟩ | ⟨_,h2,_⟩ | ⟨_,h2,_⟩
   ·exact absurd l1 h1
   ·rw[h2];exact toM ho hno
   ·exact absurd (h2 o ho) hno
  ·have l1:=hlev.l1 (by omega) t ht x hx;rw[if_neg hk] at l1;refine get ht hx fun hno =>?_;rw[fileW hk];rcases tc x.data with ⟨h1,_⟩ | ⟨_,_,h3⟩ | ⟨_,_,h2⟩
   ·exact absurd l1 h1
   ·exfalso
    apply h3;rw[YAI];intro w hw;obtain ⟨o,ho,_,hno⟩:=isM hw;exact hno (hlev.l2 (by omega) t ht x hx hk o ho)
   ·rw[h2];exact toM ho hno
theorem tagO {h:Heap} {T T':Nat} {k k':Kd} {u v:Slc} {xs:List k.Ty} {ys:List k'.Ty} (r:Row h T k u xs) (r':Row h T' k' v ys) (hT:T≠T'):∀q∈own u,q∉own v:=fun q hq=>by
 rcases r with ⟨e,_⟩ | ⟨b,zs,e,_,_,e4⟩
 ·rw[e] at hq;simp[own] at hq
 ·have:q=b:=by unfold own at hq;rw[e] at hq;simpa using hq
  subst this;exact rowTag r' e4 hT
theorem ZAs.s {s:Slc} {L:List ByteArray} {x:ByteArray} {h:Heap} {K:Slc→Heap→Prop} (r:Row h t_string .s s L) (hl:L.length≤1000000)
 (hK:∀s' h',Row h' t_string .s s' (once L x)→Keep (own s) h h'→(∀q∈own s',q∈own s∨h.size≤q)→K s' h'):ZAs.C s x h K:=by
 apply ZAs.c;unfold ZAs.m;have rl:=r.len;refine lp_go (fun (y:Int×Unit) (h1:Heap)=>h1=h∧∃n:Nat,y.1=n∧n≤L.length∧x∉L.take n) (fun (y:Int×Unit) _=>L.length-y.1.toNat) ?_ ?_
 ·exact ⟨rfl,0,rfl,YAn _,by simp⟩
 rintro ⟨(i:Int),_⟩ h1 ⟨rfl,n,e,hn,hni⟩;dsimp only at e ⊢;subst e;by_cases hlt:n<L.length
 ·rw[if_pos (show decide ((n:Int)<(s.len:Int))=true from dT (by omega))];have hw:w64 ((n:Int)+1)=((n+1:Nat):Int):=w6 (by omega);rw[hw];refine ix_ld r (x:=L[n]) (by omega) (by simp[hlt]) rfl ?_;by_cases he:L[n]=x
  ·rw[if_pos (by simpa using he)];have:once L x=L:=by unfold once;rw[if_pos (he ▸ YAP hlt)]
   rw[this] at hK;exact hK s h1 r Keep.rfl fun q hq => .inl hq
  ·rw[if_neg (by simpa using he)];refine ⟨⟨rfl,n+1,rfl,by omega,?_⟩,by simp;omega⟩;rw[YAj hlt];intro hm;rcases List.mem_append.1 hm with h | h
   ·exact hni h
   ·simp at h;exact he h.symm
 ·rw[if_neg (show ¬decide ((n:Int)<(s.len:Int))=true by simp;omega)];obtain rfl:n=L.length:=by omega
  rw[YAh (YAl _)] at hni;have:once L x=L++[x]:=by unfold once;rw[if_neg hni]
  rw[this] at hK;exact app2 (by_:=16) r rfl (by omega) fun s2 h2 k2 r2 o2=>hK s2 h2 r2 k2 o2
theorem ZDI.s {c:UInt8} {hs:Slc} {L:List HsV} {h:Heap} {K:ByteArray→Heap→Prop} (g:Seg HK hs L h) (hl:L.length≤10000) (hK:∀h',Keep [] h h'→K (nodeS c L) h'):ZDI.C ⟨#[c]⟩ hs h K:=by
 apply ZDI.c;unfold ZDI.m;have gl:=g.len;rw[gl];refine ZAA.s (x:=L.length) (n:=1) (by decide) (by decide) (by omega) fun h1 k1 =>?_;have hb:(⟨(be L.length 1).toArray⟩:ByteArray)=bx [UInt8.ofNat L.length]:=by rw[be1];rfl
 rw[hb];show sadd (bx [c]) (bx [UInt8.ofNat L.length]) _;refine sadd_bb (by simp) ?_;refine lp_go (fun (y:ByteArray×Int×Unit) (h2:Heap)=>∃n:Nat,y.2.1=n∧n≤L.length∧Keep [] h h2∧y.1=bx ([c]++[UInt8.ofNat L.length]++(L.take n).flatMap (·.toList))) (fun (y:ByteArray×Int×Unit) _=>L.length-y.2.1.toNat) ?_ ?_
 ·exact ⟨0,rfl,YAn _,k1,by simp⟩
 ·rintro ⟨(a:ByteArray),(i:Int),_⟩ h2 ⟨n,e,hn,k2,ea⟩;dsimp only at e ea ⊢;subst e;subst ea;by_cases hlt:n<L.length
  ·rw[if_pos (show decide ((n:Int)<(L.length:Int))=true from dT (by omega))];have hw:w64 ((n:Int)+1)=((n+1:Nat):Int):=w6 (by omega);rw[hw];refine seg_ix (g.keep (by decide) k2) (x:=L[n]) (by omega) (by simp[hlt]) rfl ?_;refine ZAW.s fun h3 k3 =>?_
   have fl:((L.take n).flatMap (·.toList)).length≤32*L.length:=by
    rw[flat32,YAV];omega
   refine sadd_bb (b:=L[n].toList) (by simp only [YAQ,YAR,YAU,Vector.length_toList];omega) ?_;refine ⟨⟨n+1,rfl,by omega,k2.n k3,?_⟩,by simp;omega⟩;rw[YAj hlt];simp only [YAK,YAL,YAM,YAD,YAB]
  ·rw[if_neg (show ¬decide ((n:Int)<(L.length:Int))=true by simp;omega)];obtain rfl:n=L.length:=by omega
   rw[YAh (YAl _)];exact hK h2 k2
theorem mid_take {α : Type} {l:List α} {lo n:Nat}:(l.take (min l.length (lo+n))).drop lo=(l.drop lo).take n:=by
 rw[List.drop_take];by_cases h:lo+n≤l.length
 ·rw[Nat.min_eq_right h]
  congr 1;omega
 ·rw[Nat.min_eq_left (by omega),YAh (by rw[YAS];exact YAl _),YAh (by rw[YAS];omega)]
theorem treeB_at {d:ByteArray} {n:Nat} (h:n<(treeB d).length):(treeB d)[n]=leafS ((d.data.toList.drop (n*64)).take 64):=by
 have hl:n<((chunk 64 d.data.toList).map leafS).length:=h;show ((chunk 64 d.data.toList).map leafS)[n]'hl=_;rw[YAO,chunk_at]
theorem treeI_at {d:ByteArray} {n:Nat} (h:n<(treeI d).length):(treeI d)[n]=nodeS 73 ((((treeB d).map hashS).drop (n*8)).take 8):=by
 have hl:n<((chunk 8 ((treeB d).map hashS)).map (nodeS 73)).length:=h;show ((chunk 8 ((treeB d).map hashS)).map (nodeS 73))[n]'hl=_;rw[YAO,chunk_at]
theorem ZBk.s {d:ByteArray} {h:Heap} {K:Kd.Ty (.ar 32 .u8)→Slc→Int→Heap→Prop} (hd:d.size≤4096)
 (hK:∀o h',Keep [] h h'→Row h' t_string .s o (treeO d)→(∀q∈own o,h.size≤q)→K (hashS (treeR d)) o 0 h'):ZBk.C d h K:=by
 apply ZBk.c;unfold ZBk.m;refine new_gen fun b1 h1 hb1 k1 e1 hs1 =>?_;have e1:h1[b1]? = some (vobj t_api_Hash HK (Vector.replicate 32 0)):=e1;rw[if_neg (show ¬decide ((d.size:Int)>4096)=true by simp;omega)];have lB:=treeB_len (d:=d);have lI:=treeI_len (d:=d);have dl:d.data.toList.length=d.size:=rfl;have hdx:d=bx d.data.toList:=bx_list.symm;have z1:=k1.1;refine lp_go (fun (y:Slc×Slc×Int×Unit) (h3:Heap)=>∃n:Nat,y.2.2.1=((n*64:Nat):Int)∧n≤(treeB d).length∧Keep [] h1 h3∧Row h3 t_string .s y.1 (onceL [] ((treeB d).take n))∧(∀q∈own y.1,h1.size≤q)∧Row h3 t_api_Hash HK y.2.1 (((treeB d).take n).map hashS)∧∀q∈own y.2.1,h1.size≤q) (fun (y:Slc×Slc×Int×Unit) _=>d.size-y.2.2.1.toNat) ?_ ?_
 ·exact ⟨0,rfl,YAn _,Keep.rfl,Row.nil,by simp[own],Row.nil,by simp[own]⟩
 rintro ⟨(u:Slc),(v:Slc),(ii:Int),_⟩ h3 ⟨n,e,hn,k3,ru,ou,rv,ov⟩;dsimp only at e ru ou rv ov ⊢;subst e;by_cases hlt:n<(treeB d).length
 ·rw[if_pos (show decide (((n*64:Nat):Int)<(d.size:Int))=true from dT (by omega))];have hw:w64 (((n*64:Nat):Int)+64)=(((n+1)*64:Nat):Int):=w6 (by omega);have hmn:mn2 (d.size:Int) (((n+1)*64:Nat):Int)=((min d.size (n*64+64):Nat):Int):=by unfold mn2;split <;> omega
  rw[hw,hmn];refine ⟨by omega,by omega,by omega,?_⟩
  have hex:d.extract ((n*64:Nat):Int).toNat ((min d.size (n*64+64):Nat):Int).toNat=bx ((d.data.toList.drop (n*64)).take 64):=by
   rw[YAk,YAk]
   conv=>lhs;rw[hdx]
   rw[bx_ext,bx_size,mid_take]
  rw[hex];show sadd (bx [66]) (bx _) _;refine sadd_bb (by simp only [YAR,YAU,YAV];omega) ?_;have hB:=treeB_at hlt;have hx:bx ([66]++(d.data.toList.drop (n*64)).take 64)=(treeB d)[n]:=by rw[hB];rfl
  rw[hx]
  have hsz:((treeB d)[n]).size≤65536:=by
   rw[hB,leafS_size,YAV];omega
  have hol:=onceL_len (L:=([]:List ByteArray)) (xs:=(treeB d).take n);rw[YAV] at hol;simp only [YAU] at hol;refine ZAs.s ru (by omega) fun u4 h4 r4 k4 o4 =>?_;refine ZAi.s hsz fun h5 k5 =>?_;have rv5:=(rv.keep k4 (tagO rv ru (by decide))).keep k5 (by simp);have ru5:=r4.keep k5 (by simp);refine app2 (by_:=32) rv5 rfl (by simp only [YAT,YAV];omega) fun v7 h7 k7 r7 o7 =>?_;have z3:=k3.1;have z4:=k4.1;have z5:=k5.1;refine ⟨⟨n+1,rfl,by omega,((k3.new k4 ou).n k5).new k7 ov,?_,fun q hq =>?_,?_,fun q hq =>?_⟩,by simp;omega⟩
  ·rw[onceL_take hlt];exact ru5.keep k7 (tagO ru5 rv5 (by decide))
  ·rcases o4 q hq with h | h
   ·exact ou q h
   ·omega
  ·rw[YAj hlt,YAW];exact r7
  ·rcases o7 q hq with h | h
   ·exact ov q h
   ·omega
 rw[if_neg (show ¬decide (((n*64:Nat):Int)<(d.size:Int))=true from dn (by omega))];obtain rfl:n=(treeB d).length:=by omega
 rw[YAh (YAl _)] at ru rv;have z3:=k3.1;have rvl:=rv.len;rw[YAT] at rvl;refine lp_go (fun (y:Slc×Slc×Int×Unit) (h8:Heap)=>∃m:Nat,y.2.2.1=((m*8:Nat):Int)∧m≤(treeI d).length∧Keep [] h1 h8∧h3.size≤h8.size∧Row h8 t_string .s y.1 (onceL (onceL [] (treeB d)) ((treeI d).take m))∧(∀q∈own y.1,h1.size≤q)∧Row h8 t_api_Hash HK y.2.1 (((treeI d).take m).map hashS)∧(∀q∈own y.2.1,h3.size≤q)∧Row h8 t_api_Hash HK v ((treeB d).map hashS)) (fun (y:Slc×Slc×Int×Unit) _=>(treeB d).length-y.2.2.1.toNat) ?_ ?_
 ·exact ⟨0,rfl,YAn _,k3,YAl _,ru,ou,Row.nil,by simp[own],rv⟩
 rintro ⟨(u2:Slc),(w:Slc),(ii:Int),_⟩ h8 ⟨m,e,hm,k8,z8,ru8,ou8,rw8,ow8,rv8⟩;dsimp only at e ru8 ou8 rw8 ow8 ⊢;subst e;have hol1:=onceL_len (L:=([]:List ByteArray)) (xs:=treeB d);have hol2:=onceL_len (L:=onceL [] (treeB d)) (xs:=(treeI d).take m);rw[YAV] at hol2;simp only [YAU] at hol1;have vlt:=rv.lt;by_cases hlt:m<(treeI d).length
 ·rw[if_pos (show decide (((m*8:Nat):Int)<(v.len:Int))=true from dT (by omega))];have hw:w64 (((m*8:Nat):Int)+8)=(((m+1)*8:Nat):Int):=w6 (by omega);have hmn:mn2 (v.len:Int) (((m+1)*8:Nat):Int)=((min (treeB d).length (m*8+8):Nat):Int):=by unfold mn2;split <;> omega
  rw[hw,hmn];have hvc:=rv8.cap;rw[YAT] at hvc
  obtain ⟨bb,hva⟩:∃bb,v.a=some ⟨bb,0⟩:=by
   rcases rv8 with ⟨e,_⟩ | ⟨bb,zs,e,_⟩
   ·rw[e] at rvl;simp at rvl;omega
   ·exact ⟨bb,e⟩
  refine slx_go' (lo:=m*8) (hi:=min (treeB d).length (m*8+8)) (mx:=v.cap) hva (by omega) (by omega) (by omega) fun l hl1 hl2 _ =>?_;have hlo:m*8<v.cap:=by omega
  have gsub:=row_sub (c:=v.cap-m*8) rv8 hva (lo:=m*8) (hi:=min (treeB d).length (m*8+8)) (by omega) (by rw[YAT];omega);rw[hl2 hlo]
  have hsl:(((treeB d).map hashS).take (min (treeB d).length (m*8+8))).drop (m*8)=(((treeB d).map hashS).drop (m*8)).take 8:=by
   have:=mid_take (l:=(treeB d).map hashS) (lo:=m*8) (n:=8);rw[YAT] at this;exact this
  rw[hsl] at gsub;refine ZDI.s (c:=73) gsub (by rw[YAV];omega) fun h9 k9 =>?_;have hI:=treeI_at hlt;rw[←hI]
  have hsz:((treeI d)[m]).size≤65536:=by
   rw[hI,nodeS_size,YAV];omega
  have ru9:=ru8.keep k9 (by simp);have rw9:=rw8.keep k9 (by simp);have rv9:=rv8.keep k9 (by simp);refine ZAs.s ru9 (by omega) fun u10 h10 r10 k10 o10 =>?_;refine ZAi.s hsz fun h11 k11 =>?_;have rw11:=(rw9.keep k10 (tagO rw9 ru9 (by decide))).keep k11 (by simp);have rv11:=(rv9.keep k10 (tagO rv9 ru9 (by decide))).keep k11 (by simp);have ru11:=r10.keep k11 (by simp);refine app2 (by_:=32) rw11 rfl (by simp only [YAT,YAV];omega) fun w13 h13 k13 r13 o13 =>?_;have z9:=k9.1;have z10:=k10.1;have z11:=k11.1;have z13:=k13.1;refine ⟨⟨m+1,rfl,by omega,(((k8.n k9).new k10 ou8).n k11).new k13 (fun q hq=>by have:=ow8 q hq;omega),by omega,?_,fun q hq =>?_,?_,fun q hq =>?_,?_⟩,by simp;omega⟩
  ·rw[onceL_take hlt];exact ru11.keep k13 (tagO ru11 rw11 (by decide))
  ·rcases o10 q hq with h | h
   ·exact ou8 q h
   ·omega
  ·rw[YAj hlt,YAW];exact r13
  ·rcases o13 q hq with h | h
   ·exact ow8 q h
   ·omega
  ·exact rv11.keep k13 (fun q hq hm=>by have h1:=vlt q hq;have h2:=ow8 q hm;omega)
 rw[if_neg (show ¬decide (((m*8:Nat):Int)<(v.len:Int))=true from dn (by omega))];obtain rfl:m=(treeI d).length:=by omega
 rw[YAh (YAl _)] at ru8 rw8;refine ZDI.s (c:=82) rw8.seg (by simp;omega) fun h14 k14 =>?_;have hsz:(treeR d).size≤65536:=by unfold treeR;rw[nodeS_size];simp;omega
 show ZAs.C u2 (treeR d) h14 _;refine ZAs.s (ru8.keep k14 (by simp)) (by have:=onceL_len (L:=onceL [] (treeB d)) (xs:=treeI d);omega) fun u15 h15 r15 k15 o15 =>?_;show ZAi.C (treeR d) h15 _;refine ZAi.s hsz fun h16 k16 =>?_;have k116:=((k8.n k14).new k15 ou8).n k16;refine st_to (k116.g e1) fun h17 k17 e17 hs17=>ld_go (sm_all e17) ?_
 have hO:once (onceL (onceL [] (treeB d)) (treeI d)) (treeR d)=treeO d:=by
  unfold treeO;rw[onceL_app,onceL_app,onceL_one]
 rw[hO] at r15;have z14:=k14.1;have z18:=k8.1;have z1':=lt_of_some e1;refine hK u15 h17 ((k1.n k116).new k17 (by simp;omega)) ((r15.keep k16 (by simp)).keep k17 (fun q hq hm =>?_)) fun q hq =>?_
 ·simp at hm;subst hm;rcases o15 _ hq with h | h
  ·have:=ou8 _ h;omega
  ·omega
 ·rcases o15 q hq with h | h
  ·have:=ou8 q h;omega
  ·omega
theorem inod_eq {v:InK.Ty} (h:inodMay (vIno v)=true):inoMay v=true:=by
 unfold inodMay at h;unfold inoMay;simp only [YAo,decide_eq_true_eq] at h ⊢;obtain ⟨⟨h1,h2⟩,h3⟩:=h;have e1:iN v=(vIno v).num:=rfl;have e2:iK v=(vIno v).kind:=rfl;have e3:iM v=(vIno v).mode:=rfl;have e4:iL v=(vIno v).links:=rfl;have e5:iS v=(vIno v).size:=rfl;rw[e1,e2,e3,e4,e5];generalize vIno v=x at *;refine ⟨⟨⟨h1,h2⟩,?_⟩,?_⟩
 ·split at h3 <;> omega
 ·by_cases hk:x.kind=1
  ·rw[if_pos hk] at h3;simp[hk];omega
  ·simp[hk]
theorem ZCZ.s {s:Slc} {vs:List InK.Ty} {h:Heap} {K:Bool→Heap→Prop} (g:Seg InK s vs h) (hm:itabMay (vs.map vIno)=true)
 (hK:∀h',Keep [] h h'→K true h'):ZCZ.C s h K:=by
 apply ZCZ.c;unfold ZCZ.m;have gl:=g.len;have hlen:=(itab_ok hm).2;rw[YAT] at hlen;have hall:∀j (hj:j<vs.length),inoMay vs[j]=true:=fun j hj=>inod_eq ((itab_ok hm).1 _ (YAc (YAP hj)))
 have hr:∀j (hj:j+1<vs.length),(vIno vs[j]).num<(vIno vs[j+1]).num:=fun j hj=>by
  have h1:risesO (vs.map vIno)=true:=by
   unfold itabMay at hm;rw[YAo] at hm;exact hm.2
  have:=(risesO_iff (vs.map vIno)).1 h1 j (by simpa using hj);simpa using this
 refine lp_go (fun (y:Int×Unit) (h1:Heap)=>∃n:Nat,y.1=n∧n≤vs.length∧Keep [] h h1) (fun (y:Int×Unit) _=>vs.length-y.1.toNat) ?_ ?_
 ·exact ⟨0,rfl,YAn _,Keep.rfl⟩
 rintro ⟨(i:Int),_⟩ h1 ⟨n,e,hn,k1⟩;dsimp only at e ⊢;subst e;by_cases hlt:n<vs.length
 ·rw[if_pos (show decide ((n:Int)<(s.len:Int))=true from dT (by omega))];have hw:w64 ((n:Int)+1)=((n+1:Nat):Int):=w6 (by omega);rw[hw];refine jn_go ?_;refine jn_in (fun y h'=>y.1=false∧Keep [] h h') ?_ ?_
  ·refine seg_ix (g.keep (by decide) k1) (x:=vs[n]) (by omega) (by simp[hlt]) rfl ?_;refine ZBS.s fun h4 k4 =>?_;have k04:=k1.n k4;rw[hall n hlt,if_neg (by simp)];by_cases h0:0<n
   ·rw[if_pos (show decide ((n:Int)>0)=true from dT (by omega))];have hw1:w64 ((n:Int)-1)=((n-1:Nat):Int):=w6 (by omega);rw[hw1];have g4:=g.keep (by decide) k04;have hp:n-1<vs.length:=by omega
    refine seg_ixl g4 (x:=vs[n-1]) (by omega) (by simp[hp]) rfl fun l hl=>ld_go (in_f hl).1 ?_;refine seg_ixl g4 (x:=vs[n]) (by omega) (by simp[hlt]) rfl fun l' hl'=>ld_go (in_f hl').1 ?_;have:=hr (n-1) (by omega);have e1:n-1+1=n:=by omega
    simp only [e1] at this;exact ⟨dF (show ¬(vIno vs[n-1]).num≥(vIno vs[n]).num by omega),k04⟩
   ·rw[if_neg (show ¬decide ((n:Int)>0)=true from dn (by omega))];exact ⟨rfl,k04⟩
  ·rintro ⟨(y:Bool),_⟩ h3 ⟨hy,k3⟩;dsimp only at hy;subst hy;rw[if_neg (by simp)];exact ⟨⟨n+1,rfl,by omega,k3⟩,by simp;omega⟩
 ·rw[if_neg (show ¬decide ((n:Int)<(s.len:Int))=true from dn (by omega))];exact hK h1 k1
theorem be_bx {x n:Nat}:(⟨(be x n).toArray⟩:ByteArray)=bx (be x n):=rfl
theorem ZCW.s {s:Slc} {vs:List InK.Ty} {h:Heap} {K:ByteArray→Int→Heap→Prop} (g:Seg InK s vs h) (hm:itabMay (vs.map vIno)=true)
 (hK:∀h',Keep [] h h'→K (bx (itabBytes (vs.map vIno))) 0 h'):ZCW.C s h K:=by
 apply ZCW.c;unfold ZCW.m;have gl:=g.len;obtain ⟨hall,hlen⟩:=itab_ok hm;rw[YAT] at hlen;refine ZCZ.s g hm fun h1 k1 =>?_;rw[if_neg (by simp),gl];refine ZAA.s (x:=vs.length) (n:=1) (by decide) (by decide) (by omega) fun h2 k2 =>?_;rw[be_bx];show sadd (bx [84]) (bx (be vs.length 1)) _;refine sadd_bb (by simp[be_len]) ?_;have k02:=k1.n k2;refine lp_go (fun (y:ByteArray×Int×Unit) (h3:Heap)=>∃n:Nat,y.2.1=n∧n≤vs.length∧Keep [] h h3∧y.1=bx ([84]++be vs.length 1++((vs.map vIno).take n).flatMap inoBytes)) (fun (y:ByteArray×Int×Unit) _=>vs.length-y.2.1.toNat) ?_ ?_
 ·exact ⟨0,rfl,YAn _,k02,by simp⟩
 rintro ⟨(a:ByteArray),(i:Int),_⟩ h3 ⟨n,e,hn,k3,ea⟩;dsimp only at e ea ⊢;subst e;subst ea;by_cases hlt:n<vs.length
 ·rw[if_pos (show decide ((n:Int)<(vs.length:Int))=true from dT (by omega))];have hw:w64 ((n:Int)+1)=((n+1:Nat):Int):=w6 (by omega);rw[hw];have hxo:=ino_ok (hall (vIno vs[n]) (YAc (YAP hlt)));have htk:(vs.map vIno).take (n+1)=(vs.map vIno).take n++[vIno vs[n]]:=by rw[YAj (by simpa using hlt),YAO]
  have hfl:(((vs.map vIno).take n).flatMap inoBytes).length≤1216:=by rw[itabFlat,YAV,YAT];omega
  refine seg_ix (g.keep (by decide) k3) (x:=vs[n]) (by omega) (by simp[hlt]) rfl ?_;refine new_st_gen fun b h5 hb k5 e5 hs5 =>?_;have e5:h5[b]? = some (vobj t_api_Inode InK vs[n]):=e5;generalize vs[n]=v at *;obtain ⟨f0,f1,f2,f3,f4,f5⟩:=in_f (sm_all e5);have hib:inoBytes (vIno v)=be (vIno v).num.toNat 1++be (vIno v).kind.toNat 1++be (vIno v).mode.toNat 1++be (vIno v).links.toNat 1++be (vIno v).size.toNat 2++(vIno v).root.toList:=rfl;generalize vIno v=x at *;obtain ⟨xn,xk,xm,xl,xs,xr⟩:=x;dsimp only at hxo f0 f1 f2 f3 f4 f5 hib;obtain ⟨a1,a2,a3,a4,a5,a6,a7,a8⟩:=hxo;obtain ⟨n1,rfl⟩:∃t:Nat,xn=t:=⟨xn.toNat,by omega⟩;obtain ⟨n2,rfl⟩:∃t:Nat,xk=t:=⟨xk.toNat,by omega⟩;obtain ⟨n3,rfl⟩:∃t:Nat,xm=t:=⟨xm.toNat,by omega⟩;obtain ⟨n4,rfl⟩:∃t:Nat,xl=t:=⟨xl.toNat,by omega⟩;obtain ⟨n5,rfl⟩:∃t:Nat,xs=t:=⟨xs.toNat,by omega⟩;simp only [YAk] at hib;have st:∀ {k:Kd} {l:Pl} {x:k.Ty} {ha hb:Heap},0<k.size→sm k l x ha→Keep [] ha hb→sm k l x hb:=fun hs e k=>sm_keep hs e k;refine ld_go f0 (ld_go f1 (ld_go f2 (ld_go f3 (ld_go f4 (ld_go f5 ?_)))));refine ZAA.s (x:=n1) (n:=1) (by decide) (by decide) (by omega) fun h6 k6 =>?_;refine ⟨st (by decide) f5 k6,st (by decide) f4 k6,st (by decide) f3 k6,st (by decide) f2 k6,st (by decide) f1 k6,?_⟩;rw[be_bx];refine sadd_bb (by simp only [YAQ,YAR,YAU,be_len];omega) ?_;refine ZAA.s (x:=n2) (n:=1) (by decide) (by decide) (by omega) fun h7 k7 =>?_;have k57:=k6.n k7;refine ⟨st (by decide) f5 k57,st (by decide) f4 k57,st (by decide) f3 k57,st (by decide) f2 k57,?_⟩;rw[be_bx];refine sadd_bb (by simp only [YAQ,YAR,YAU,be_len];omega) ?_;refine ZAA.s (x:=n3) (n:=1) (by decide) (by decide) (by omega) fun h8 k8 =>?_;have k58:=k57.n k8;refine ⟨st (by decide) f5 k58,st (by decide) f4 k58,st (by decide) f3 k58,?_⟩;rw[be_bx];refine sadd_bb (by simp only [YAQ,YAR,YAU,be_len];omega) ?_;refine ZAA.s (x:=n4) (n:=1) (by decide) (by decide) (by omega) fun h9 k9 =>?_;have k59:=k58.n k9;refine ⟨st (by decide) f5 k59,st (by decide) f4 k59,?_⟩;rw[be_bx];refine sadd_bb (by simp only [YAQ,YAR,YAU,be_len];omega) ?_;refine ZAA.s (x:=n5) (n:=2) (by decide) (by decide) (by omega) fun h10 k10 =>?_;have k510:=k59.n k10;refine ⟨st (by decide) f5 k510,?_⟩;rw[be_bx];refine sadd_bb (by simp only [YAQ,YAR,YAU,be_len];omega) ?_;refine ZAW.s fun h11 k11 =>?_;refine sadd_bb (by simp only [YAQ,YAR,YAU,be_len,Vector.length_toList];omega) ?_;refine ⟨⟨n+1,rfl,by omega,(k3.n k5).n (k510.n k11),?_⟩,by simp;omega⟩;rw[htk,YAK];simp only [YAL,YAM,YAD];rw[hib];simp only [YAB]
 ·rw[if_neg (show ¬decide ((n:Int)<(vs.length:Int))=true from dn (by omega))];obtain rfl:n=vs.length:=by omega
  rw[YAh (by simp)];have:=hK h3 k3;unfold itabBytes at this;rw[YAT] at this;have e84:be 84 1=[84]:=rfl;rw[e84] at this;exact this
theorem ZCp.s {t0:Slc} {ss:List Slc} {vv:List (List NdV)} {X:Fs} {h:Heap} {K:Slc→Slc→Int→Heap→Prop} (w:StW h t0 ss vv X) (lens:Lens X)
 (hbad:stMay X=false→∀h',Keep [] h h'→K ⟨none,0,0⟩ ⟨none,0,0⟩ 1500 h')
 (hok:stMay X=true→∀h' o1 o2,Keep [] h h'→Row h' t_api_Hash HK o1 (buildH X)→Row h' t_string .s o2 (buildO X)→K o1 o2 0 h'):ZCp.C (t0,()) h K:=by
 apply ZCp.c;unfold ZCp.m;refine new_gen fun b1 h1 hb1 k1 e1 hs1 =>?_;have e1:h1[b1]? = some (vobj t_api_State StaK ((t0,()):StaK.Ty)):=e1;refine ld_go (sm_all e1) ?_;refine ZBj.s (w.keep k1) lens fun h2 k2 =>?_;have k02:Keep [] h h2:=k1.n k2
 cases hm:stMay X with
 | false =>
   rw[if_pos (by rfl)];exact hbad hm h2 k02
 | true=>
 rw[if_neg (by simp)];obtain ⟨x1,x2,x3,_⟩:=st_ok hm;have e2:=k2.g e1;have L0:=w.lens;have z1:=k1.1;have z2:=k2.1;have hb1':b1=h.size:=hb1
 have hflat:∀ {m:Nat},m≤X.length→((X.take m).flatMap tabObjs).length≤2400*m:=fun {m} hmX=>by
  have:∀(l:Fs),(∀t∈l,tabMay t=true)→(l.flatMap tabObjs).length≤2400*l.length:=by
   intro l
   induction l with
   | nil=>intro _;simp
   | cons a r ih =>
     intro h;have h1:=ih fun x hx=>h x (by simp[hx]);obtain ⟨_,q2,q3⟩:=tab_ok (h a (by simp));have h2:=flatObjs_len q2;rw[YAL,YAQ,YAR];unfold tabObjs at h1 ⊢;rw[YAQ,YAR,YAU];omega
  have h1:=this (X.take m) (fun x hx=>x3 x (YAi _ _ hx));rw[YAV] at h1;omega
 refine lp_go (fun (y:Slc×Slc×Int×Unit) (h3:Heap)=>∃n:Nat,y.2.2.1=n∧n≤X.length∧Keep [] h2 h3∧Row h3 t_string .s y.1 (onceL [] ((X.take n).flatMap tabObjs))∧(∀q∈own y.1,h2.size≤q)∧Row h3 t_api_Hash HK y.2.1 ((X.take n).map fun t=>hashS (tabText t))∧∀q∈own y.2.1,h2.size≤q) (fun (y:Slc×Slc×Int×Unit) _=>X.length-y.2.2.1.toNat) ?_ ?_
 ·exact ⟨0,rfl,YAn _,Keep.rfl,Row.nil,by simp[own],Row.nil,by simp[own]⟩
 rintro ⟨(u:Slc),(v:Slc),(ii:Int),_⟩ h3 ⟨n,e,hn,k3,ru,ou,rv,ov⟩;dsimp only at e ru ou rv ov ⊢;subst e;have fld:∀ {hh:Heap},Keep [] h2 hh→sm .sl ((Pl.mk b1 0).fld 0) t0 hh:=fun kk=>sm_fld (n:=0) (k' := .sl) (kk.g e2) rfl (by decide);refine ld_go (fld k3) ?_;by_cases hlt:n<X.length
 case neg=>
  rw[if_neg (show ¬decide ((n:Int)<(t0.len:Int))=true from dn (by omega))];obtain rfl:n=X.length:=by omega
  rw[YAh (YAl _)] at ru rv;exact hok hm h3 v u (k02.n k3) rv ru
 rw[if_pos (show decide ((n:Int)<(t0.len:Int))=true from dT (by omega))];have hwn:w64 ((n:Int)+1)=((n+1:Nat):Int):=w6 (by omega);rw[hwn];have htm:=x3 _ (YAP hlt);obtain ⟨_,tm2,tm3⟩:=tab_ok htm;have htake:X.take (n+1)=X.take n++[X[n]]:=YAj hlt;have hfl:=hflat (m:=n) hn;have hLl:=onceL_len (L:=([]:List ByteArray)) (xs:=(X.take n).flatMap tabObjs);simp only [YAU,YAm] at hLl
 have hLn:onceL [] ((X.take (n+1)).flatMap tabObjs)=once (onceL (onceL [] ((X.take n).flatMap tabObjs)) (X[n].flatMap ndObjs)) (tabText X[n]):=by
  rw[htake,YAK,onceL_app];simp only [YAL,YAM,YAD];rw[show tabObjs X[n]=X[n].flatMap ndObjs++[tabText X[n]] from rfl,onceL_app,onceL_one]
 have hHn:(X.take (n+1)).map (fun t=>hashS (tabText t))=(X.take n).map (fun t=>hashS (tabText t))++[hashS (tabText X[n])]:=by rw[htake,YAW];rfl
 have hHl:((X.take n).map fun t=>hashS (tabText t)).length≤24:=by simp;omega
 generalize onceL [] ((X.take n).flatMap tabObjs)=L at ru hLl hLn;generalize ((X.take n).map fun t=>hashS (tabText t))=H at rv hHn hHl;have gW:∀hh,Keep [] h hh→∃sl vs,Seg NdK sl vs hh∧All2 (NdAt hh) vs X[n]∧sl.len=X[n].length∧∀ {K:Slc→Prop},K sl→ix t0 (n:Int) 1 fun l=>ld .sl l hh K:=fun hh kk=>⟨_,_,(w.keep kk).row hlt,(w.keep kk).nds hlt,((w.keep kk).rlen hlt).1,fun hK=>(w.keep kk).tab hlt hK⟩;generalize X[n]=t at *;have z3:=k3.1;refine lp_go (fun (y:Slc×Slc×Int×Unit) (h4:Heap)=>∃j:Nat,y.2.2.1=j∧j≤t.length∧Keep [] h2 h4∧Row h4 t_string .s y.1 (onceL L ((t.take j).flatMap ndObjs))∧(∀q∈own y.1,h2.size≤q)∧Row h4 t_api_Inode InK y.2.1 (((t.take j).map inoOf).map inoV)∧(∀q∈own y.2.1,h2.size≤q)∧Row h4 t_api_Hash HK v H) (fun (y:Slc×Slc×Int×Unit) _=>t.length-y.2.2.1.toNat) ?_ ?_
 ·exact ⟨0,rfl,YAn _,k3,ru,ou,Row.nil,by simp[own],rv⟩
 rintro ⟨(u4:Slc),(s4:Slc),(ii:Int),_⟩ h4 ⟨j,e,hj,k4,ru4,ou4,rs4,os4,rv4⟩;dsimp only at e ru4 ou4 rs4 os4 ⊢;subst e;have z4:=k4.1;have k04:=k02.n k4;obtain ⟨sl,vs,gN,aN,slen,hix⟩:=gW h4 k04;have hfl2:=flatObjs_len (l:=t.take j) (fun x hx=>tm2 x (YAi _ _ hx));rw[YAV] at hfl2;have hLl2:=onceL_len (L:=L) (xs:=(t.take j).flatMap ndObjs);refine ld_go (fld k4) (hix ?_);by_cases hlj:j<t.length
 case neg=>
  rw[if_neg (show ¬decide ((j:Int)<(sl.len:Int))=true from dn (by omega))];obtain rfl:j=t.length:=by omega
  rw[YAh (YAl _)] at ru4 rs4;refine ZCW.s rs4.seg (by rw[map_vV];exact may_ino htm) fun h23 k23 =>?_;rw[map_vV];have hts:=tabText_size tm3;have hfl3:=flatObjs_len tm2;have hLl3:=onceL_len (L:=L) (xs:=t.flatMap ndObjs);show ZAs.C u4 (tabText t) h23 _;refine ZAs.s (ru4.keep k23 (by simp)) (by omega) fun u24 h24 r24 k24 o24 =>?_;show ZAi.C (tabText t) h24 _;refine ZAi.s (by omega) fun h25 k25 =>?_;have rv25:=((rv4.keep k23 (by simp)).keep k24 (tagO (rv4.keep k23 (by simp)) (ru4.keep k23 (by simp)) (by decide))).keep k25 (by simp);have ru25:=r24.keep k25 (by simp);refine app2 (by_:=32) rv25 rfl (by omega) fun v27 h27 k27 r27 o27 =>?_;have z23:=k23.1;have z24:=k24.1;have z25:=k25.1;refine ⟨⟨n+1,rfl,by omega,(((k4.n k23).new k24 ou4).n k25).new k27 ov,?_,fun q hq =>?_,?_,fun q hq =>?_⟩,by simp;omega⟩
  ·rw[hLn];exact ru25.keep k27 (tagO ru25 rv25 (by decide))
  ·rcases o24 q hq with h | h
   ·exact ou4 q h
   ·omega
  ·rw[hHn];exact r27
  ·rcases o27 q hq with h | h
   ·exact ov q h
   ·omega
 rw[if_pos (show decide ((j:Int)<(sl.len:Int))=true from dT (by omega))];have hwj:w64 ((j:Int)+1)=((j+1:Nat):Int):=w6 (by omega);rw[hwj];have hx:=tm2 _ (YAP hlj);have al:=aN.len;have hjv:j<vs.length:=by omega
 have av:=aN.getI hjv hlj;have htk:t.take (j+1)=t.take j++[t[j]]:=YAj hlj
 have hLn2:onceL L ((t.take (j+1)).flatMap ndObjs)=onceL (onceL L ((t.take j).flatMap ndObjs)) (ndObjs t[j]):=by
  rw[htk,YAK,onceL_app];simp
 have hSn:((t.take (j+1)).map inoOf).map inoV=((t.take j).map inoOf).map inoV++[inoV (inoOf t[j])]:=by rw[htk,YAW,YAW];rfl
 have hSl:(((t.take j).map inoOf).map inoV).length≤32:=by simp;omega
 have ho:=ndObjs_len hx;obtain ⟨hz1,hz2,hz3⟩:=nd_small hx;have hgx:vs[(j:Int).toNat]? = some vs[j]:=by simp[hjv]
 generalize t[j]=x at *;generalize hM:onceL L ((t.take j).flatMap ndObjs)=M at *;generalize ((t.take j).map inoOf).map inoV=N at *;have u4lt:=ru4.lt;refine jn_in (fun y h5=>Keep [] h2 h5∧Row h5 t_string .s y.1 (onceL M (ndObjs x))∧(∀q∈own y.1,h2.size≤q)∧Row h5 t_api_Inode InK y.2.1 (N++[inoV (inoOf x)])∧(∀q∈own y.2.1,h2.size≤q)∧Row h5 t_api_Hash HK v H) ?_ ?_
 ·refine ld_go (fld k4) (hix ?_);refine seg_ix gN (x:=vs[j]) (by omega) hgx rfl ?_;generalize vs[j]=nv at *;refine new_st_gen fun b2 h7 hb2 k7 e7 hs7 =>?_;have e7:h7[b2]? = some (vobj t_api_Node NdK nv):=e7;obtain ⟨f0,f1,f2,f3,f4,f5⟩:=nd_f (sm_all e7);rw[av.n] at f0;rw[av.k] at f1;rw[av.m] at f2;rw[av.l] at f3;rw[av.d] at f4;refine ld_go f0 (ld_go f1 (ld_go f2 (ld_go f3 (ld_go f4 ?_))));refine new_st_gen fun b3 h9 hb3 k9 e9 hs9 =>?_;have e9:h9[b3]? = some (vobj t_api_Inode InK ((x.num,(x.kind,(x.mode,(x.links,((x.data.size:Int),(Vector.replicate 32 0,())))))):InK.Ty)):=e9;have k49:Keep [] h4 h9:=k7.n k9;have z9:=k49.1;refine ld_go (sm_keep (by decide) f1 k9) ?_;have ru9:=ru4.keep k49 (by simp);have rs9:=rs4.keep k49 (by simp);have rv9:=rv4.keep k49 (by simp);have k29:=k4.n k49;have b3lt:=lt_of_some e9;have hb3':b3=h7.size:=hb3;have b3lo:h4.size≤b3:=by have:=k7.1;omega
  refine jn_in (fun y h10=>Keep [] h2 h10∧Row h10 t_string .s y.1 (onceL M (ndObjs x))∧(∀q∈own y.1,h2.size≤q)∧h10[b3]? = some (vobj t_api_Inode InK (inoV (inoOf x)))∧Row h10 t_api_Inode InK s4 N∧Row h10 t_api_Hash HK v H) ?_ ?_
  ·by_cases hk:x.kind=1
   ·rw[if_pos (by simpa using hk)];refine ld_go (sm_keep (by decide) f5 k9) ?_;refine ZCz.s (av.keep k49 (by simp)).e (by omega) fun h11 k11 =>?_;rw[if_pos hz3]
    have hdz:(bx (putBytes x.ents)).size≤65536:=by
     rw[bx_size];have h1:=flat_le (dir_ok hz3).2.2;unfold putBytes;simp only [YAQ,be_len];omega
    show ZAs.C u4 (bx (putBytes x.ents)) h11 _;have ru11:=ru9.keep k11 (by simp);have e11:=k11.g e9;refine ZAs.s ru11 (by omega) fun u12 h12 r12 k12 o12 =>?_;show ZAi.C (bx (putBytes x.ents)) h12 _;refine ZAi.s hdz fun h13 k13 =>?_;have e13:=k13.g (k12.get e11 (rowTag ru11 e11 (by decide)));refine st_fld (k':=HK) (n:=5) (x':=_) e13 (by decide) wr_root ?_;have r13:=r12.keep k13 (by simp);have rs13:=((rs9.keep k11 (by simp)).keep k12 (tagO (rs9.keep k11 (by simp)) ru11 (by decide))).keep k13 (by simp);have rv13:=((rv9.keep k11 (by simp)).keep k12 (tagO (rv9.keep k11 (by simp)) ru11 (by decide))).keep k13 (by simp)
    have offb:∀ {T:Nat} {kk:Kd} {uu:Slc} {ys:List kk.Ty},Row h13 T kk uu ys→(T≠t_api_Inode∨∀q∈own uu,q<h4.size)→∀q∈own uu,q∉[b3]:=fun r hT q hq hm=>by
     simp at hm;subst hm;rcases hT with h | h
     ·exact rowTag r e13 (fun e=>h e.symm) hq
     ·have:=h _ hq;omega
    have z11:=k11.1;refine ⟨(((k29.n k11).new k12 ou4).n k13).new keep_set (by simp;omega),?_,fun q hq =>?_,?_,rs13.keep keep_set (offb rs13 (.inr rs4.lt)),rv13.keep keep_set (offb rv13 (.inl (by decide)))⟩
    ·have e:onceL M (ndObjs x)=once M (bx (putBytes x.ents)):=by unfold ndObjs;rw[if_pos hk];rfl
     rw[e];exact r13.keep keep_set (offb r13 (.inl (by decide)))
    ·rcases o12 q hq with h | h
     ·exact ou4 q h
     ·omega
    ·refine (get_set e13).trans ?_
     have hd0:x.data.size=0:=by
      obtain ⟨_,_,_,_,_,_,q1,_⟩:=nd_ok hx;rw[(q1 hk).1];rfl
     unfold inoOf ndRoot inoV;rw[if_pos hk]
   ·rw[if_neg (by simpa using hk)];refine ld_go (sm_keep (by decide) f4 k9) ?_;refine ZBk.s hz1 fun o h15 k15 r15 o15 =>?_;refine new_st_gen fun b4 h17 hb4 k17 e17 hs17 =>?_;have e17:h17[b4]? = some (vobj t_api_Hash HK (hashS (treeR x.data))):=e17;have k917:=k15.n k17;have z917:=k917.1;have rO:=r15.keep k17 (by simp);have rOl:=rO.len;have rOlt:=r15.lt;have z17:=k17.1;have hol:=treeO_len hz1;refine lp_go (fun (y:Slc×Int×Unit) (h18:Heap)=>∃k:Nat,y.2.1=k∧k≤(treeO x.data).length∧Keep (own u4) h17 h18∧Row h18 t_string .s y.1 (onceL M ((treeO x.data).take k))∧(∀q∈own y.1,q∈own u4∨h17.size≤q)) (fun (y:Slc×Int×Unit) _=>(treeO x.data).length-y.2.1.toNat) ?_ ?_
    ·exact ⟨0,rfl,YAn _,Keep.rfl,ru9.keep k917 (by simp),fun q hq => .inl hq⟩
    rintro ⟨(w5:Slc),(kk:Int),_⟩ h18 ⟨k,e,hk5,k18,r18,o18⟩;dsimp only at e r18 o18 ⊢;subst e;have nO:∀q∈own o,q∉own u4:=fun q hq hm=>by have h1:=u4lt q hm;have h2:=o15 q hq;omega
    have rO18:=rO.keep k18 nO;have z18:=k18.1;by_cases hlk:k<(treeO x.data).length
    ·rw[if_pos (show decide ((k:Int)<(o.len:Int))=true from dT (by omega))];have hwk:w64 ((k:Int)+1)=((k+1:Nat):Int):=w6 (by omega);rw[hwk];refine ix_ld rO18 (x:=(treeO x.data)[k]) (by omega) (by simp[hlk]) rfl ?_;have hLk:=onceL_len (L:=M) (xs:=(treeO x.data).take k);rw[YAV] at hLk;refine ZAs.s r18 (by omega) fun u19 h19 r19 k19 o19 =>?_;refine ⟨⟨k+1,rfl,by omega,k18.then k19 (fun q hq _=>hq) (fun q hq hl=>by rcases o18 q hq with h | h;exact h;omega),by rw[onceL_take hlk];exact r19,fun q hq =>?_⟩,by simp;omega⟩;rcases o19 q hq with h | h
     ·exact o18 q h
     ·right;omega
    ·rw[if_neg (show ¬decide ((k:Int)<(o.len:Int))=true from dn (by omega))];obtain rfl:k=(treeO x.data).length:=by omega
     rw[YAh (YAl _)] at r18;have ru17:=ru9.keep k917 (by simp);have e18:=k18.get e17 (rowTag ru17 e17 (by decide));have e317:=k917.g e9;have e318:=k18.get e317 (rowTag ru17 e317 (by decide));refine ld_go (sm_all e18) ?_;refine st_fld (k':=HK) (n:=5) (x':=_) e318 (by decide) wr_root ?_;have rs18:=(rs9.keep k917 (by simp)).keep k18 (tagO (rs9.keep k917 (by simp)) ru17 (by decide));have rv18:=(rv9.keep k917 (by simp)).keep k18 (tagO (rv9.keep k917 (by simp)) ru17 (by decide))
     have offb:∀ {T:Nat} {kk:Kd} {uu:Slc} {ys:List kk.Ty},Row h18 T kk uu ys→(T≠t_api_Inode∨∀q∈own uu,q<h4.size)→∀q∈own uu,q∉[b3]:=fun r hT q hq hm=>by
      simp at hm;subst hm;rcases hT with h | h
      ·exact rowTag r e318 (fun e=>h e.symm) hq
      ·have:=h _ hq;omega
     refine ⟨((k29.n k917).new k18 ou4).new keep_set (by simp;omega),?_,fun q hq =>?_,?_,rs18.keep keep_set (offb rs18 (.inr rs4.lt)),rv18.keep keep_set (offb rv18 (.inl (by decide)))⟩
     ·have e:ndObjs x=treeO x.data:=by unfold ndObjs;rw[if_neg hk]
      rw[e];exact r18.keep keep_set (offb r18 (.inl (by decide)))
     ·rcases o18 q hq with h | h
      ·exact ou4 q h
      ·omega
     ·refine (get_set e318).trans ?_;unfold inoOf ndRoot inoV;rw[if_neg hk]
  ·rintro ⟨(y:Slc),_⟩ h10 ⟨k10,ry,oy,e10,rs10,rv10⟩;dsimp only at ry oy ⊢;refine ld_go (sm_all e10) ?_;refine app2 (by_:=72) rs10 rfl (by omega) fun s22 h22 k22 r22 o22 =>?_;refine ⟨k10.new k22 os4,ry.keep k22 (tagO ry rs10 (by decide)),oy,r22,fun q hq =>?_,rv10.keep k22 (tagO rv10 rs10 (by decide))⟩;rcases o22 q hq with h | h
   ·exact os4 q h
   ·have:=k10.1;omega
 ·rintro ⟨(y:Slc),(y2:Slc),_⟩ h5 ⟨k5,ry,oy,rs5,os5,rv5⟩;dsimp only at ry oy rs5 os5 ⊢;exact ⟨⟨j+1,rfl,by omega,k5,by rw[hLn2];exact ry,oy,by rw[hSn];exact rs5,os5,rv5⟩,by simp;omega⟩
def keyO (hh:Nat) (x:By):HKey:=⟨3,hh,(shaL (tagL 2 [bx x])).toList.take 16,(shaL (tagL 3 [bx x])).toList,0⟩
theorem keyO_seed {x:By}:keyO 1 x=(seedD x).k 0:=by
 unfold keyO Sd.k seedD;dsimp only;unfold Hl;generalize shaL (tagL 2 [bx x])=a;generalize shaL (tagL 3 [bx x])=b
 rfl
theorem keyO_may {hh:Nat} {x:By} (h1:1≤hh) (h5:hh≤5):hssMay (keyO hh x)=true:=by
 unfold keyO;generalize shaL (tagL 2 [bx x])=a;generalize shaL (tagL 3 [bx x])=b;have ha:(a.toList.take 16).length=16:=by simp
 have hb:b.toList.length=32:=by simp
 unfold hssMay lmsMay;dsimp only;rw[ha,hb];have hp:(0:Int)≤2^hh:=Int.le_of_lt (Int.pow_pos (by decide));have hp2:(0:Int)≤2^(2*hh):=Int.le_of_lt (Int.pow_pos (by decide));simp[otsP,hp,hp2];omega
theorem ke_w2 {v:MbK.Ty} {x y:Slc}:wrL (KeK.cells ((v,(x,())):KeK.Ty)) 2 (Kd.sl.cells y)=KeK.cells ((v,(y,())):KeK.Ty):=by
 obtain ⟨a,b,c⟩:=v
 rfl
theorem ZAT.s {mv:MbK.Ty} {m:Mb} {ss:Slc} {L:List By} {hh:Nat} {h:Heap} {K:KeK.Ty→Slc→Int→Heap→Prop} (a:MbAt h mv m) (hm:mbMay m=true) (g:Seg .s ss (L.map bx) h) (hn:(L.length:Int)=m.users) (hh1:1≤hh) (hh5:hh≤5) (hx:∀x∈L,x.length≤1024)
 (hK:∀h' ps ks,Keep [] h h'→Row h' t_string .s ps ((L.map fun x=>hssPub (keyO hh x)).map bx)→(∀q∈own ps,h.size≤q)→Row h' t_api_HssKey LkK ks (L.map fun x=>hkV (keyO hh x))→(∀q∈own ks,h.size≤q)→K (mv,(ps,())) ks 0 h'):ZAT.C mv ss (hh:Int) h K:=by
 have hmb:=hm;unfold mbMay at hmb;simp only [YAo,decide_eq_true_eq] at hmb;have hL16:L.length≤16:=by have:=hmb.1.1.2;omega
 have hgl:m.groups.length≤9223372036854775807:=by have:=hmb.1.2;omega
 have gl:=g.len;rw[YAT] at gl;apply ZAT.c;unfold ZAT.m;refine new_gen fun b1 h1 hb1 k1 e1 hs1 =>?_;have e1:h1[b1]? = some (vobj t_api_Members MbK mv):=e1;refine new_gen fun b2 h2 hb2 k2 e2 hs2 =>?_;have e2:h2[b2]? = some (vobj t_api_Keys KeK (((0,(⟨none,0,0⟩,())),(⟨none,0,0⟩,())):KeK.Ty)):=e2;have k12:Keep [] h h2:=k1.n k2;have e12:=k2.g e1;have z1:=k1.1;have z2:=k2.1;refine jn_in (fun y h'=>y=(false,())∧Keep [] h2 h') ?_ ?_
 ·refine ld_go (sm_all e12) ?_;refine ZAQ.s (a.keepU k12) hgl fun h3 k3 =>?_;rw[hm,if_neg (by simp)];have e13:=k3.g e12;have f0:sm .i ((Pl.mk b1 0).fld 0) m.users h3:=by rw[←a.u];exact sm_fld (n:=0) (k' := .i) e13 rfl (by decide)
  refine ld_go f0 ?_;rw[if_neg (by rw[gl,hn];simp),if_neg (by simp;omega)];exact ⟨by rw[dF (show ¬(hh:Int)>5 by omega)],k3⟩
 rintro _ h3 ⟨rfl,k3⟩;rw[if_neg (by simp)];refine ld_go (sm_all (k3.g e12)) ?_;refine new_st_gen fun b3 h4 hb3 k4 e4 hs4 =>?_;have e4:h4[b3]? = some (vobj t_api_Keys KeK ((mv,(⟨none,0,0⟩,())):KeK.Ty)):=e4;have k24:Keep [] h2 h4:=k3.n k4;have k04:Keep [] h h4:=k12.n k24;have z24:=k3.1;have lb2:b2<h2.size:=by omega
 refine lp_go (fun (y:Slc×Int×Unit) (h8:Heap)=>∃(n:Nat) (ps:Slc),y.2.1=n∧n≤L.length∧Keep [] h h8∧h8[b2]? = some (vobj t_api_Keys KeK (((0,(⟨none,0,0⟩,())),(⟨none,0,0⟩,())):KeK.Ty))∧h8[b3]? = some (vobj t_api_Keys KeK ((mv,(ps,())):KeK.Ty)) ∧
  Row h8 t_string .s ps (((L.take n).map fun x=>hssPub (keyO hh x)).map bx)∧(∀q∈own ps,h.size≤q)∧Row h8 t_api_HssKey LkK y.1 ((L.take n).map fun x=>hkV (keyO hh x))∧∀q∈own y.1,h.size≤q) (fun (y:Slc×Int×Unit) _=>L.length-y.2.1.toNat) ?_ ?_
 ·exact ⟨0,⟨none,0,0⟩,rfl,YAn _,k04,k24.g e2,e4,.inl ⟨rfl,rfl⟩,by simp[own],.inl ⟨rfl,rfl⟩,by simp[own]⟩
 rintro ⟨(ks:Slc),(jj:Int),_⟩ h8 ⟨n,ps,e,hnL,k8,e28,e38,rp,op,rk,ok⟩;dsimp only at e rk ok ⊢;subst e;have z8:=k8.1;by_cases hlt:n<L.length
 ·rw[if_pos (show decide ((n:Int)<(ss.len:Int))=true from dT (by omega))];have hw:w64 ((n:Int)+1)=((n+1:Nat):Int):=w6 (by omega);rw[hw];have hxl:=hx _ (YAP hlt);have hidx:(L.map bx)[((n:Nat):Int).toNat]? = some (bx L[n]):=by rw[YAk,List.getElem?_map,YAN hlt];rfl
  have hte:L.take (n+1)=L.take n++[L[n]]:=YAj hlt;generalize L[n]=x at *;refine seg_ix (g.keep (by decide) k8) (x:=bx x) (by omega) hidx rfl ?_;rw[if_neg (show ¬decide (((bx x).size:Int)>1024)=true from fun h=>by have:=of_decide_eq_true h;rw[bx_size] at this;omega)];refine seg_ix (g.keep (by decide) k8) (x:=bx x) (by omega) hidx rfl ?_
  have hl1:∀t,(tagL t [bx x]).length≤1000000:=fun t=>by
   unfold tagL pieceL;simp[be_len,bx_data2];omega
  have hl2:lens [bx x]≤65536:=by simp only [lens,YAX,YAZ,List.sum_cons,List.sum_nil,bx_size];omega
  refine bs_gen fun bq h10 hbq k10 r10 hs10 =>?_;refine ZBt.s (tag:=2) r10.seg (by decide) hl2 (hl1 2) fun h11 k11 =>?_;have hkey:keyO hh x=⟨3,hh,(shaL (tagL 2 [bx x])).toList.take 16,(shaL (tagL 3 [bx x])).toList,0⟩:=Eq.refl _;have hkm:=keyO_may (x:=x) hh1 hh5;generalize hkx:keyO hh x=kx at *;generalize shaL (tagL 2 [bx x])=va at *;refine new_st_gen fun b4 h13 hb4 k13 e13 hs13 =>?_;have e13:h13[b4]? = some (vobj t_api_Hash (.ar 32 .u8) va):=e13;have k8_13:Keep [] h8 h13:=(k10.n k11).n k13;refine seg_ix (g.keep (by decide) (k8.n k8_13)) (x:=bx x) (by omega) hidx rfl ?_;refine bs_gen fun bq2 h14 hbq2 k14 r14 hs14 =>?_;refine ZBt.s (tag:=3) r14.seg (by decide) hl2 (hl1 3) fun h15 k15 =>?_;generalize shaL (tagL 3 [bx x])=vb at *;refine new_st_gen fun b5 h17 hb5 k17 e17 hs17 =>?_;have e17:h17[b5]? = some (vobj t_api_Hash (.ar 32 .u8) vb):=e17;have k13_17:Keep [] h13 h17:=(k14.n k15).n k17;have e47:=k13_17.g e13;have k8_17:Keep [] h8 h17:=k8_13.n k13_17
  have hcut:∀ {KK:ByteArray→Prop},KK (bx (va.toList.take 16))→sls (bx va.toList) 0 16 KK:=fun hk=>by
   refine sls_by (lo:=0) (hi:=16) (by decide) (by simp) ?_;rw[YAH];exact hk
  have hval:((3,((hh:Int),(bx (va.toList.take 16),(bx vb.toList,(0,()))))):LkK.Ty)=hkV kx:=by rw[hkey];rfl
  refine jn_in (fun y h'=>∃b,y=(Pl.mk b 0,())∧h'[b]? = some (vobj t_api_HssKey LkK (hkV kx))∧Keep [] h17 h'∧h17.size≤b) ?_ ?_
  ·refine ld_go (sm_all e47) (ld_go (sm_all e17) ⟨?_,?_⟩)
   ·refine ZAW.s fun h19 k19=>⟨sm_keep (by decide) (sm_all e17) k19,hcut ⟨?_,?_⟩⟩
    ·refine ZAW.s fun h20 k20 =>?_;refine new_st_gen fun b6 h22 hb6 k22 e22 hs22 =>?_;have:=(k19.n k20).1;exact ⟨b6,rfl,by rw[←hval];exact e22,(k19.n k20).n k22,by omega⟩
    ·refine new_gen fun b7 h23 hb7 k23 e23 hs23=>⟨sm_keep (by decide) (sm_all e17) (k19.n k23),?_⟩;refine ZAW.s fun h24 k24' =>?_;have:=k19.1;have:=k23.1;refine st_to (k24'.g e23) fun h25 k25 e25 hs25 =>?_;exact ⟨b7,rfl,by rw[←hval];exact e25,((k19.n k23).n k24').new k25 (by simp;omega),by omega⟩
   ·refine new_gen fun b8 h26 hb8 k26 e26 hs26=>⟨sm_keep (by decide) (sm_all e17) k26,sm_keep (by decide) (sm_all e47) k26,?_⟩;refine ZAW.s fun h27 k27=>⟨sm_keep (by decide) (sm_all e17) (k26.n k27),hcut ?_⟩;refine ZAW.s fun h28 k28 =>?_;have:=k26.1;refine st_to ((k27.n k28).g e26) fun h29 k29 e29 hs29 =>?_;exact ⟨b8,rfl,by rw[←hval];exact e29,((k26.n k27).n k28).new k29 (by simp;omega),by omega⟩
  ·rintro _ h18 ⟨bk,rfl,ek,k18,hbk⟩;refine ld_go (sm_all ek) ?_;refine ZBm.s hkm fun h30 k30 =>?_;refine ld_go (sm_all (k30.g ek)) ?_;have k8_30:Keep [] h8 h30:=(k8_17.n k18).n k30;refine bs_gen fun bu h31 hbu k31 r31 hs31 =>?_;refine slCells_seg r31.seg (by simp[Kd.size]) ?_;have k8_31:Keep [] h8 h31:=k8_30.n k31;have tl:(L.take n).length=n:=by rw[YAV];omega
   have rk31:=rk.keep k8_31 (by simp);refine ap_row (T:=t_api_HssKey) (k:=LkK) (ys:=[hkV kx]) rk31 rfl rfl (by rw[YAT,tl];simp;omega) fun s6 h32 r6 k32 o6 =>?_;have e33:h32[b3]? = _:=k32.get (k8_31.g e38) (rowT rk31 (k8_31.g e38) (by decide));have e32:h32[b2]? = _:=k32.get (k8_31.g e28) (rowT rk31 (k8_31.g e28) (by decide));have rp32:=(rp.keep k8_31 (by simp)).keep k32 (tagO (rp.keep k8_31 (by simp)) rk31 (by decide));refine ld_go (ke_f e33).2.1 ?_;refine bs_gen fun bv h33 hbv k33 r33 hs33 =>?_;refine slCells_seg r33.seg (by simp[Kd.size]) ?_;have rp33:=rp32.keep k33 (by simp);refine ap_row (T:=t_string) (k := .s) (ys:=[bx (hssPub kx)]) rp33 rfl rfl (by rw[YAT,YAT,tl];simp;omega) fun s8 h34 r8 k34 o8 =>?_;have e34:=k34.get (k33.g e33) (rowT rp33 (k33.g e33) (by decide));have e24:=k34.get (k33.g e32) (rowT rp33 (k33.g e32) (by decide));have r6':=r6.keep k33 (by simp);have r6'':=r6'.keep k34 (tagO r6' rp33 (by decide));refine st_fld (k:=KeK) (k' := .sl) (n:=2) e34 (by decide) ke_w2 ?_;have e35:=get_set (o':=vobj t_api_Keys KeK ((mv,(s8,())):KeK.Ty)) e34;have k35:Keep [b3] h34 (h34.setIfInBounds b3 (vobj t_api_Keys KeK ((mv,(s8,())):KeK.Ty))):=keep_set;generalize h34.setIfInBounds b3 (vobj t_api_Keys KeK ((mv,(s8,())):KeK.Ty))=h35 at *;have z831:=k8_31.1;have z32:=k32.1;have z33:=k33.1;have hb3':h2.size≤b3:=by omega
   refine ⟨⟨n+1,s8,rfl,by omega,?_,k35.get e24 (by simp;omega),e35,?_,fun q hq =>?_,?_,fun q hq =>?_⟩,by simp;omega⟩
   ·exact ((((k8.n k8_31).new k32 ok).n k33).new k34 op).new k35 (by simp;omega)
   ·have:=r8.keep k35 (fun q hq hm=>by simp at hm;subst hm;exact rowT r8 e34 (by decide) hq);rw[hte];simpa[hkx] using this
   ·rcases own_of o8 q hq with h | h
    ·exact op q h
    ·omega
   ·have:=r6''.keep k35 (fun q hq hm=>by simp at hm;subst hm;exact rowT r6'' e34 (by decide) hq);rw[hte];simpa[hkx] using this
   ·rcases own_of o6 q hq with h | h
    ·exact ok q h
    ·omega
 ·rw[if_neg (show ¬decide ((n:Int)<(ss.len:Int))=true from dn (by omega))];obtain rfl:n=L.length:=by omega
  rw[YAg] at rp rk;refine ld_go (sm_all e38) ?_;refine st_to e28 fun h36 k36 e36 hs36=>ld_go (sm_all e36) ?_;refine hK h36 ps ks (k8.new k36 (by simp;omega)) (rp.keep k36 fun q hq hm =>?_) op (rk.keep k36 fun q hq hm =>?_) ok
  ·simp at hm;subst hm;exact rowT rp e28 (by decide) hq
  ·simp at hm;subst hm;exact rowT rk e28 (by decide) hq
structure MdU (n0:Nat) (h:Heap) (kv:KeK.Ty) (ks:Slc) (a b:Sd) (x y:Nat):Prop where
 m:MbU n0 h kv.1 clb
 p:Row h t_string .s kv.2.1 ([a.pub,b.pub].map bx)
 op:∀q∈own kv.2.1,n0≤q
 k:Row h t_api_HssKey LkK ks [hkV (a.k x),hkV (b.k y)]
 ok:∀q∈own ks,n0≤q
theorem MdU.at {n0:Nat} {h:Heap} {kv:KeK.Ty} {ks:Slc} {a b:Sd} {x y:Nat} (m:MdU n0 h kv ks a b x y):KeAt h kv (clbK a b):=⟨m.m.at,m.p.seg⟩
theorem MdU.keep {n0:Nat} {h h':Heap} {kv:KeK.Ty} {ks:Slc} {a b:Sd} {x y:Nat} {S:List Nat} (m:MdU n0 h kv ks a b x y) (k:Keep S h h') (hS:∀b∈S,b<n0∨∀T,T=t_s_int∨T=t_int∨T=t_string∨T=t_api_HssKey→∀c f,h[b]? ≠ some (.cells c T f)):MdU n0 h' kv ks a b x y:=by
 refine ⟨m.m.keep k fun b hb =>?_,row_keepC m.p k m.op fun b hb =>?_,m.op,row_keepC m.k k m.ok fun b hb =>?_,m.ok⟩
 ·rcases hS b hb with h1 | h1
  ·exact .inl h1
  ·exact .inr fun c f=>⟨h1 _ (by simp) c f,h1 _ (by simp) c f⟩
 ·rcases hS b hb with h1 | h1
  ·exact .inl h1
  ·exact .inr (.inr (h1 _ (by simp)))
 ·rcases hS b hb with h1 | h1
  ·exact .inl h1
  ·exact .inr (.inr (h1 _ (by simp)))
theorem MdU.keep0 {n0:Nat} {h h':Heap} {kv:KeK.Ty} {ks:Slc} {a b:Sd} {x y:Nat} (m:MdU n0 h kv ks a b x y) (k:Keep [] h h'):MdU n0 h' kv ks a b x y:=m.keep k (by simp)
theorem ZA5.s {h:Heap} {K:MbK.Ty→Heap→Prop} (hK:∀v h',Keep [] h h'→MbU h.size h' v clb→K v h'):ZA5.C h K:=by
 apply ZA5.c;unfold ZA5.m;refine new_gen fun b1 h1 hb1 k1 e1 hs1 =>?_;have e1:h1[b1]? = some (vobj t_api_Members MbK (((0,(⟨none,0,0⟩,()))):MbK.Ty)):=e1;have z1:=k1.1;refine bs_gen fun b2 h2 hb2 k2 r2 hs2 =>?_;refine bs_gen fun b3 h3 hb3 k3 r3 hs3 =>?_;have z2:=k2.1;have e3:=(k2.n k3).g e1;refine st_to e3 fun h4 k4 e4 hs4=>ld_go (sm_all e4) ?_;have r2':=r2.keep k3 (by simp);refine hK _ h4 (((k1.n k2).n k3).new k4 (by simp;omega)) ⟨rfl,_,r3.keep k4 fun q hq hm =>?_,fun q hq =>?_,?_⟩
 ·simp at hm;subst hm;exact rowT r3 e3 (by decide) hq
 ·simp[own] at hq;omega
 ·refine ⟨⟨r2'.keep k4 fun q hq hm =>?_,fun q hq =>?_,by decide⟩,trivial⟩
  ·simp at hm;subst hm;exact rowT r2' e3 (by decide) hq
  ·simp[own] at hq;omega
theorem mn2_nat {a b:Nat}:mn2 (a:Int) (b:Int)=((min a b:Nat):Int):=by unfold mn2;split <;> omega
def sdA (a:By):Sd:=seedD (97::a.take 90)
def sdB (b:By):Sd:=seedD (98::b.take 90)
theorem ZBv.s {a b:By} {h:Heap} {K:KeK.Ty→Slc→Heap→Prop} (hK:∀kv ks h',Keep [] h h'→MdU h.size h' kv ks (sdA a) (sdB b) 0 0→K kv ks h'):ZBv.C (bx a) (bx b) h K:=by
 apply ZBv.c;unfold ZBv.m;refine new_gen fun b1 h1 hb1 k1 e1 hs1 =>?_;have e1:h1[b1]? = some (vobj t_api_Keys KeK (((0,(⟨none,0,0⟩,())),(⟨none,0,0⟩,())):KeK.Ty)):=e1;have z1:=k1.1
 have mk:∀ {h':Heap} {cv:MbK.Ty} {s:Slc} {K':KeK.Ty→Slc→Int→Heap→Prop},Keep [] h1 h'→MbU h1.size h' cv clb→Row h' t_string .s s [bx (97::a.take 90),bx (98::b.take 90)] →
  (∀kv ks h'',Keep [] h' h''→MdU h1.size h'' kv ks (sdA a) (sdB b) 0 0→K' kv ks 0 h'')→ZAT.C cv s 1 h' K':=by
  intro h' cv s K' kk cm r hk;have z:=kk.1;refine ZAT.s (L:=[97::a.take 90,98::b.take 90]) (hh:=1) cm.at (by decide) r.seg rfl (by decide) (by decide) (fun x hx =>?_) fun h2 ps ks k2 rp op rk ok =>?_
  ·simp only [YAb,YAe,or_false] at hx;rcases hx with rfl | rfl <;> (rw[YAR,YAV];omega)
  ·refine hk _ ks h2 k2 ⟨cm.keep k2 (by simp),?_,fun q hq =>?_,?_,fun q hq =>?_⟩
   ·simp only [YAX,YAZ,keyO_seed] at rp;exact rp
   ·have:=op q hq;omega
   ·simp only [YAX,YAZ,keyO_seed] at rk;exact rk
   ·have:=ok q hq;omega
 refine jn_in (fun y h'=>∃p kv ks,y=(Pl.mk p 0,ks,())∧h'[p]? = some (vobj t_api_Keys KeK kv)∧Keep [] h1 h'∧MdU h1.size h' kv ks (sdA a) (sdB b) 0 0∧h1.size≤p) ?_ ?_
 ·rw[bx_size,bx_size,show (90:Int)=((90:Nat):Int) from rfl,mn2_nat,mn2_nat];refine sls_by (lo:=0) (YAn _) (Nat.min_le_left _ _) ?_;have ta:(a.take (min a.length 90)).drop 0=a.take 90:=by rw[YAH,Nat.min_comm,←List.take_take,YAg]
  have tb:(b.take (min b.length 90)).drop 0=b.take 90:=by rw[YAH,Nat.min_comm,←List.take_take,YAg]
  rw[ta];show sadd (bx [97]) _ _;refine sadd_b (by rw[YAV];simp;omega) ?_;refine sls_by (lo:=0) (YAn _) (Nat.min_le_left _ _) ?_;rw[tb];show sadd (bx [98]) _ _;refine sadd_b (by rw[YAV];simp;omega) ?_
  have fin:∀ {h' h'':Heap} {p:Nat} {kv kv':KeK.Ty} {ks:Slc},Keep [] h1 h'→h'[p]? = some (vobj t_api_Keys KeK kv')→h1.size≤p→MdU h1.size h' kv ks (sdA a) (sdB b) 0 0→Keep [p] h' h''→h''[p]? = some (vobj t_api_Keys KeK kv) →
   ∃p' kv'' ks',((Pl.mk p 0,ks,()):Pl×Slc×Unit)=(Pl.mk p' 0,ks',())∧h''[p']? = some (vobj t_api_Keys KeK kv'')∧Keep [] h1 h''∧MdU h1.size h'' kv'' ks' (sdA a) (sdB b) 0 0∧h1.size≤p':=by
   intro h' h'' p kv kv' ks k e lp md k' e';refine ⟨p,kv,ks,rfl,e',k.new k' (by simp;omega),md.keep k' fun q hq =>?_,lp⟩;simp at hq;subst hq;refine .inr fun T hT=>cell_ne (o:=vobj t_api_Keys KeK kv') e ?_;rcases hT with rfl | rfl | rfl | rfl <;> decide
  refine ⟨?_,?_,?_⟩
  ·refine ZA5.s fun cv h3 k3 cm=>⟨?_,?_⟩
   ·refine bs_gen fun bq h4 hbq k4 r4 hs4=>⟨?_,?_⟩
    ·refine mk (k3.n k4) (cm.keep k4 (by simp)) r4 fun kv ks h5 k5 md =>?_;refine new_gen fun p h6 hp k6 e6 hs6 =>?_;have k16:Keep [] h1 h6:=((k3.n k4).n k5).n k6;have:=k3.1;have:=k4.1;have:=k5.1;refine st_to e6 fun h7 k7 e7 hs7=>fin k16 e6 (by omega) (md.keep0 k6) k7 e7
    ·refine new_gen fun p h6 hp k6 e6 hs6 =>?_;have k46:=k4.n k6;refine mk (k3.n k46) (cm.keep k46 (by simp)) (r4.keep k6 (by simp)) fun kv ks h5 k5 md =>?_;have:=k3.1;have:=k4.1;refine st_to (k5.g e6) fun h7 k7 e7 hs7=>fin ((k3.n k46).n k5) (k5.g e6) (by omega) md k7 e7
   ·refine new_gen fun p h6 hp k6 e6 hs6 =>?_;refine bs_gen fun bq h4 hbq k4 r4 hs4 =>?_;have k36:=k6.n k4;refine mk (k3.n k36) (cm.keep k36 (by simp)) r4 fun kv ks h5 k5 md =>?_;have:=k3.1;refine st_to ((k4.n k5).g e6) fun h7 k7 e7 hs7=>fin ((k3.n k36).n k5) ((k4.n k5).g e6) (by omega) md k7 e7
  ·refine bs_gen fun bq h3 hbq k3 r3 hs3=>⟨?_,?_⟩
   ·refine ZA5.s fun cv h4 k4 cm=>⟨?_,?_⟩
    ·have cm1:MbU h1.size h4 cv clb:=by
      obtain ⟨u,gs,r,o,al⟩:=cm;exact ⟨u,gs,r,fun q hq=>by have:=o q hq;have:=k3.1;omega,All2.mono (fun s us x=>⟨x.1,fun q hq=>by have:=x.2.1 q hq;have:=k3.1;omega,x.2.2⟩) al⟩
     refine mk (k3.n k4) cm1 (r3.keep k4 (by simp)) fun kv ks h5 k5 md =>?_;refine new_gen fun p h6 hp k6 e6 hs6 =>?_;have k16:Keep [] h1 h6:=((k3.n k4).n k5).n k6;have:=k3.1;have:=k4.1;have:=k5.1;refine st_to e6 fun h7 k7 e7 hs7=>fin k16 e6 (by omega) (md.keep0 k6) k7 e7
    ·have cm1:MbU h1.size h4 cv clb:=by
      obtain ⟨u,gs,r,o,al⟩:=cm;exact ⟨u,gs,r,fun q hq=>by have:=o q hq;have:=k3.1;omega,All2.mono (fun s us x=>⟨x.1,fun q hq=>by have:=x.2.1 q hq;have:=k3.1;omega,x.2.2⟩) al⟩
     refine new_gen fun p h6 hp k6 e6 hs6 =>?_;have k46:=k4.n k6;refine mk (k3.n k46) (cm1.keep k6 (by simp)) (r3.keep k46 (by simp)) fun kv ks h5 k5 md =>?_;have:=k3.1;have:=k4.1;refine st_to (k5.g e6) fun h7 k7 e7 hs7=>fin ((k3.n k46).n k5) (k5.g e6) (by omega) md k7 e7
   ·refine new_gen fun p h6 hp k6 e6 hs6 =>?_;refine ZA5.s fun cv h4 k4 cm =>?_
    have cm1:MbU h1.size h4 cv clb:=by
     obtain ⟨u,gs,r,o,al⟩:=cm;exact ⟨u,gs,r,fun q hq=>by have:=o q hq;have:=k3.1;have:=k6.1;omega,All2.mono (fun s us x=>⟨x.1,fun q hq=>by have:=x.2.1 q hq;have:=k3.1;have:=k6.1;omega,x.2.2⟩) al⟩
    have k36:=k6.n k4;refine mk (k3.n k36) cm1 (r3.keep k36 (by simp)) fun kv ks h5 k5 md =>?_;have:=k3.1;refine st_to ((k4.n k5).g e6) fun h7 k7 e7 hs7=>fin ((k3.n k36).n k5) ((k4.n k5).g e6) (by omega) md k7 e7
  ·refine new_gen fun p h6 hp k6 e6 hs6=>⟨?_,?_⟩
   ·refine ZA5.s fun cv h4 k4 cm =>?_
    have cm1:MbU h1.size h4 cv clb:=by
     obtain ⟨u,gs,r,o,al⟩:=cm;exact ⟨u,gs,r,fun q hq=>by have:=o q hq;have:=k6.1;omega,All2.mono (fun s us x=>⟨x.1,fun q hq=>by have:=x.2.1 q hq;have:=k6.1;omega,x.2.2⟩) al⟩
    refine bs_gen fun bq h3 hbq k3 r3 hs3 =>?_;have k63:=(k6.n k4).n k3;refine mk k63 (cm1.keep k3 (by simp)) r3 fun kv ks h5 k5 md =>?_;have ee:=((k4.n k3).n k5).g e6;refine st_to ee fun h7 k7 e7 hs7=>fin (k63.n k5) ee (by omega) md k7 e7
   ·refine bs_gen fun bq h3 hbq k3 r3 hs3 =>?_;refine ZA5.s fun cv h4 k4 cm =>?_
    have cm1:MbU h1.size h4 cv clb:=by
     obtain ⟨u,gs,r,o,al⟩:=cm;exact ⟨u,gs,r,fun q hq=>by have:=o q hq;have:=k3.1;have:=k6.1;omega,All2.mono (fun s us x=>⟨x.1,fun q hq=>by have:=x.2.1 q hq;have:=k3.1;have:=k6.1;omega,x.2.2⟩) al⟩
    have k64:=(k6.n k3).n k4;refine mk k64 cm1 (r3.keep k4 (by simp)) fun kv ks h5 k5 md =>?_;have ee:=((k3.n k4).n k5).g e6;refine st_to ee fun h7 k7 e7 hs7=>fin (k64.n k5) ee (by omega) md k7 e7
 ·rintro _ h2 ⟨p,kv,ks,rfl,e2,k2,md,hp⟩;refine ld_go (sm_all e2) ?_;have e12:=k2.g e1;refine st_to e12 fun h3 k3 e3 hs3=>ld_go (sm_all e3) ?_
  have md3:MdU h1.size h3 kv ks (sdA a) (sdB b) 0 0:=md.keep k3 fun q hq=>by
   simp at hq;subst hq;exact .inl (by omega)
  refine hK kv ks h3 ((k1.n k2).new k3 (by simp;omega)) ?_;obtain ⟨⟨u,gs,r,o,al⟩,b,c,d,e⟩:=md3;exact ⟨⟨u,gs,r,fun q hq=>by have:=o q hq;omega,All2.mono (fun s us x=>⟨x.1,fun q hq=>by have:=x.2.1 q hq;omega,x.2.2⟩) al⟩,b,fun q hq=>by have:=c q hq;omega,d,fun q hq=>by have:=e q hq;omega⟩
theorem ZCG.s {v:KeK.Ty} {k:Kys} {h:Heap} {K:Bool→Heap→Prop} (a:KeAt h v k) (hl:k.pubs.length≤9223372036854775806) (hgl:k.m.groups.length≤9223372036854775807) (hK:∀h',Keep [] h h'→K (kysMay k) h'):ZCG.C v h K:=by
 apply ZCG.c;unfold ZCG.m;refine new_gen fun b1 h1 hb1 k1 e1 hs1 =>?_;have e1:h1[b1]? = some (vobj t_api_Keys KeK v):=e1;have gl:=a.p.len;rw[YAT] at gl;refine jn_in (fun y h'=>Keep [] h1 h'∧y=(!(mbMay k.m&&decide ((k.pubs.length:Int)=k.m.users)),())) ?_ ?_
 ·refine ld_go (ke_f e1).1 ?_;refine ZAQ.s (a.keep k1).m hgl fun h2 k2 =>?_
  cases hm:mbMay k.m with
  | false=>rw[if_pos (by rfl)];exact ⟨k2,by simp⟩
  | true =>
    rw[if_neg (by simp)];refine ld_go (ke_f (k2.g e1)).2.1 (ld_go (ke_f (k2.g e1)).2.2 ⟨k2,?_⟩);rw[gl,a.m.u,YAp]
 rintro _ h2 ⟨k2,rfl⟩;dsimp only;have k02:Keep [] h h2:=k1.n k2
 cases hc:(mbMay k.m&&decide ((k.pubs.length:Int)=k.m.users)) with
 | false =>
   rw[if_pos (by rfl)];have:=hK h2 k02;have hf:kysMay k=false:=by unfold kysMay;rw[←Bool.and_assoc,hc];rfl
   rw[hf] at this;exact this
 | true =>
   rw[if_neg (by simp)];have hfk:kysMay k=k.pubs.all fun s=>decide (s.length=60):=by unfold kysMay;rw[←Bool.and_assoc,hc];rfl
   rw[hfk] at hK;refine lp_go (fun (y:Int×Unit) (h4:Heap)=>∃n:Nat,y.1=n∧n≤k.pubs.length∧h4=h2∧((k.pubs.take n).all fun s=>decide (s.length=60))=true) (fun (y:Int×Unit) _=>k.pubs.length-y.1.toNat) ?_ ?_
   ·exact ⟨0,rfl,YAn _,rfl,by simp⟩
   rintro ⟨(jj:Int),_⟩ h4 ⟨n,e,hn,rfl,hall⟩;dsimp only at e ⊢;subst e;refine ld_go (ke_f (k2.g e1)).2.1 ?_;by_cases hlt:n<k.pubs.length
   ·rw[if_pos (show decide ((n:Int)<(v.2.1.len:Int))=true from dT (by omega))];refine ld_go (ke_f (k2.g e1)).2.1 ?_;have hidx:(k.pubs.map bx)[((n:Nat):Int).toNat]? = some (bx k.pubs[n]):=by rw[YAk,List.getElem?_map,YAN hlt];rfl
    refine seg_ix (a.keep k02).p (x:=bx k.pubs[n]) (by omega) hidx rfl ?_;have hte:k.pubs.take (n+1)=k.pubs.take n++[k.pubs[n]]:=YAj hlt;by_cases hx:k.pubs[n].length=60
    ·rw[if_neg (by rw[bx_size];simp;omega)];have hw:w64 ((n:Int)+1)=((n+1:Nat):Int):=w6 (by omega);rw[hw];exact ⟨⟨n+1,rfl,by omega,rfl,by rw[hte,List.all_append,hall];simp[hx]⟩,by simp;omega⟩
    ·rw[if_pos (by rw[bx_size];simp;omega)];have:=hK h4 k02
     have hf:(k.pubs.all fun s=>decide (s.length=60))=false:=by
      rw[List.all_eq_false];exact ⟨_,YAP hlt,by simpa using hx⟩
     rw[hf] at this;exact this
   ·rw[if_neg (show ¬decide ((n:Int)<(v.2.1.len:Int))=true from dn (by omega))];obtain rfl:n=k.pubs.length:=by omega
    rw[YAg] at hall;rw[hall] at hK;exact hK h4 k02
theorem prins_mb {m:Mb} (hm:mbMay m=true):1≤prins m∧prins m≤24∧m.groups.length≤8:=by
 unfold mbMay at hm;simp only [YAo,decide_eq_true_eq] at hm;have:=hm.1.1.1;have:=hm.1.1.2;have:=hm.1.2;unfold prins;omega
theorem empty_lensU {m:Mb} (hm:mbMay m=true):Lens (emptyS m):=by
 obtain ⟨p1,p24,g8⟩:=prins_mb hm;unfold emptyS;refine ⟨by simp only [YAR,List.length_replicate];omega,fun t ht =>?_⟩;rcases List.mem_cons.1 ht with e | e
 ·subst e;exact ⟨by simp,fun x hx=>by simp at hx;subst hx;simp⟩
 ·rw[YAJ e];exact ⟨by simp,by simp⟩
theorem ZCv.s {v:MbK.Ty} {m:Mb} {h:Heap} {K:Slc→Slc→Heap→Prop} (a:MbAt h v m) (hm:mbMay m=true) (hK:∀h' o1 o2,Keep [] h h'→Row h' t_api_Hash HK o1 (buildH (emptyS m))→Row h' t_string .s o2 (buildO (emptyS m))→K o1 o2 h'):ZCv.C v h K:=by
 obtain ⟨p1,p24,g8⟩:=prins_mb hm;apply ZCv.c;unfold ZCv.m;refine new_gen fun b1 h1 hb1 k1 e1 hs1 =>?_;have e1:h1[b1]? = some (vobj t_api_Members MbK v):=e1;refine ld_go (sm_all e1) ?_;refine ZCx.s (a.keepU k1) (by omega) (fun hn=>by rw[hm] at hn;simp at hn) fun _ h2 t0 ss vv k2 w =>?_;refine new_st_gen fun b2 h3 hb2 k3 e3 hs3 =>?_;refine ld_go (sm_all e3) ?_;refine ZCp.s (w.keep k3) (empty_lensU hm) (fun hn=>by rw[emptyU_may p1 p24] at hn;simp at hn) fun _ h4 o1 o2 k4 r1 r2 =>?_;exact hK h4 o1 o2 (((k1.n k2).n k3).n k4) r1 r2
abbrev RcK:Kd := .ag (.pr KeK (.pr .sl (.pr .sl (.pr .sl .un))))
structure IsRc (n1:Nat) (h:Heap) (c:Nat) (kv:KeK.Ty) (fs es ls:Slc) (evs:List EtK.Ty) (C:Cn):Prop where
 e:h[c]? = some (vobj t_almonryref18_Chain RcK ((kv,(fs,(es,(ls,())))):RcK.Ty))
 lc:n1≤c
 f:Row h t_api_Hash (.ar 32 .u8) fs C.begin
 a:Row h t_api_Entry EtK es evs
 oa:∀q∈own es,n1≤q
 x:All2 (fun v e=>EtR h v e∧∀q∈etO v,n1≤q) evs C.all
 l:Row h t_string .s ls ((C.all.map putE).map bx)
 ol:∀q∈own ls,n1≤q
theorem rc_f {h:Heap} {b:Nat} {kv:KeK.Ty} {fs es ls:Slc} (e:h[b]? = some (vobj t_almonryref18_Chain RcK ((kv,(fs,(es,(ls,())))):RcK.Ty))):sm KeK ((Pl.mk b 0).fld 0) kv h∧sm .sl ((Pl.mk b 0).fld 3) fs h∧sm .sl ((Pl.mk b 0).fld 4) es h∧sm .sl ((Pl.mk b 0).fld 5) ls h∧sm MbK (((Pl.mk b 0).fld 0).fld 0) kv.1 h∧sm .sl (((Pl.mk b 0).fld 0).fld 2) kv.2.1 h∧sm .i ((((Pl.mk b 0).fld 0).fld 0).fld 0) kv.1.1 h:=by
 have f0:sm KeK ((Pl.mk b 0).fld 0) kv h:=sm_sub (sm_all e) (by decide) rfl;refine ⟨f0,sm_fld (n:=3) (k' := .sl) e rfl (by decide),sm_fld (n:=4) (k' := .sl) e rfl (by decide),sm_fld (n:=5) (k' := .sl) e rfl (by decide),?_,?_,?_⟩
 ·exact sm_sub f0 (by decide) rfl
 ·exact sm_sub f0 (by decide) rfl
 ·exact sm_sub (sm_sub f0 (k':=MbK) (n:=0) (y:=kv.1) (by decide) rfl) (by decide) rfl
theorem ZBC.s {v:KeK.Ty} {k:Kys} {h:Heap} {K:Option Pl→Int→Heap→Prop} (a:KeAt h v k) (hl:k.pubs.length≤9223372036854775806) (hgl:k.m.groups.length≤9223372036854775807)
 (hbad:kysMay k=false→∀h',Keep [] h h'→K none 2000 h')
 (hok:kysMay k=true→∀h' c fs,Keep [] h h'→IsRc h.size h' c v fs ⟨none,0,0⟩ ⟨none,0,0⟩ [] (newC k)→K (some ⟨c,0⟩) 0 h'):ZBC.C v h K:=by
 apply ZBC.c;unfold ZBC.m;refine new_gen fun b1 h1 hb1 k1 e1 hs1 =>?_;have e1:h1[b1]? = some (vobj t_api_Keys KeK v):=e1;refine ld_go (sm_all e1) ?_;refine ZCG.s (a.keep k1) hl hgl fun h2 k2 =>?_;have k02:Keep [] h h2:=k1.n k2
 cases hm:kysMay k with
 | false=>rw[if_pos (by rfl)];exact hbad hm h2 k02
 | true =>
   rw[if_neg (by simp)];obtain ⟨m1,m2,m3,m4,m5,m6⟩:=kys_u hm;have e2:=k2.g e1;refine ld_go (ke_f e2).1 ?_;refine ZCv.s (a.keep k02).m m1 fun h3 o1 o2 k3 r1 r2 =>?_;refine ld_go (sm_all (k3.g e2)) ?_;refine new_gen fun c h4 hc k4 e4 hs4 =>?_;have z:=(k02.n k3).1;exact hok hm h4 c o1 ((k02.n k3).n k4) ⟨e4,by omega,r1.keep k4 (by simp),.inl ⟨rfl,rfl⟩,by simp[own],trivial,.inl ⟨rfl,rfl⟩,by simp[own]⟩
section
variable {n1 c:Nat} {h:Heap} {kv:KeK.Ty} {fs es ls:Slc} {evs:List EtK.Ty} {C:Cn}
theorem ref18_Tables.s {K:Slc→Heap→Prop} (i:IsRc n1 h c kv fs es ls evs C) (hK:∀s,Seg (.ar 32 .u8) s (lastTab C) h→(∃L,Row h t_api_Hash (.ar 32 .u8) s L∧L=lastTab C)→K s h) (hn:C.all.length≤256):ZAx.C (some ⟨c,0⟩) h K:=by
 apply ZAx.c;unfold ZAx.m;have al:es.len=C.all.length:=by rw[i.a.len,i.x.len]
 obtain ⟨f0,f3,f4,f5,_⟩:=rc_f i.e;refine nck_go (ld_go f4 ?_);unfold lastTab at hK;by_cases h0:C.all.length=0
 ·rw[if_pos (show decide ((es.len:Int)=0)=true from dT (by omega))];have hnil:C.all=[]:=List.length_eq_zero_iff.1 h0;rw[hnil] at hK;refine nck_go (ld_go f3 ?_);exact hK fs i.f.seg ⟨_,i.f,rfl⟩
 ·rw[if_neg (show ¬decide ((es.len:Int)=0)=true from dn (by omega))];refine nck_go (ld_go f4 (nck_go (ld_go f4 ?_)));have hw:w64 ((es.len:Int)-1)=((C.all.length-1:Nat):Int):=w6 (by omega);rw[hw];have el:=i.x.len;have hx:=i.x.getI (i:=C.all.length-1) (by omega) (by omega)
  have hg:C.all.getLast? = some (C.all[C.all.length-1]'(by omega)):=by
   rw[List.getLast?_eq_getElem?,YAN (by omega)]
  rw[hg] at hK;refine seg_ixl i.a.seg (x:=evs[C.all.length-1]'(by omega)) (by omega) (by rw[YAk];exact YAN (by omega)) rfl fun l hl =>?_;generalize evs[C.all.length-1]'(by omega)=v at *;generalize C.all[C.all.length-1]'(by omega)=e at *;have l3:((Kd.ar 32 .u8).cells v.2.2.2.1).length=32:=Kd.cells_length ..
  have c35:(EtK.cells v).drop 35=Kd.sl.cells v.2.2.2.2.1++(Kd.s.cells v.2.2.2.2.2.1++[]):=by
   have c3:(EtK.cells v).drop 3=(Kd.ar 32 .u8).cells v.2.2.2.1++(Kd.sl.cells v.2.2.2.2.1++(Kd.s.cells v.2.2.2.2.2.1++[])):=rfl;have:(EtK.cells v).drop 35=((EtK.cells v).drop 3).drop 32:=by rw[YAE]
   rw[this,c3,YAG l3]
  have f35:sm .sl (l.fld 35) v.2.2.2.2.1 h:=sm_sub hl (by decide) (by rw[c35];rfl);refine ld_go f35 ?_;exact hK _ hx.1.t.seg ⟨_,hx.1.t,rfl⟩
end
theorem sign_blk {v v':EtK.Ty} {kv kv':LkK.Ty} {c:Int} {l:Pl} {b:Nat} {h:Heap} {J:Pl→Pl→Int→Heap→Prop} (eb:sm EtK (Pl.mk b 0) v h) (gl:sm LkK l kv h)
 (hS:∀h1 (K':EtK.Ty→LkK.Ty→Int→Heap→Prop),Keep [] h h1→(∀h',Keep [] h1 h'→K' v' kv' c h')→ZAB.C v kv h1 K')
 (hJ:∀p q h',h'[p]? = some (vobj t_api_Entry EtK v')→h'[q]? = some (vobj t_api_HssKey LkK kv')→Keep [] h h'→h.size≤p→h.size≤q→J (Pl.mk p 0) (Pl.mk q 0) c h') :
 (ZAB.C v kv h fun x27 x28 x29 h24=>
 (new 49 EtK (0,(0,(⟨none,0,0⟩,((Vector.replicate 32 0),(⟨none,0,0⟩,(⟨#[]⟩,())))))) h24 fun b4 h25=>
 new 56 LkK (0,(0,(⟨#[]⟩,(⟨#[]⟩,(0,()))))) h25 fun b5 h26=>
 Go.Al.st EtK (Pl.mk b4 0) x27 h26 fun h27=>
 Go.Al.st LkK (Pl.mk b5 0) x28 h27 fun h28=>
 J (Pl.mk b4 0) (Pl.mk b5 0) x29 h28) ∧
 new 56 LkK (0,(0,(⟨#[]⟩,(⟨#[]⟩,(0,()))))) h24 fun b6 h29=>
 new 49 EtK (0,(0,(⟨none,0,0⟩,((Vector.replicate 32 0),(⟨none,0,0⟩,(⟨#[]⟩,())))))) h29 fun b7 h30=>
 Go.Al.st EtK (Pl.mk b7 0) x27 h30 fun h31=>
 Go.Al.st LkK (Pl.mk b6 0) x28 h31 fun h32=>
 J (Pl.mk b7 0) (Pl.mk b6 0) x29 h32) ∧
 (new 49 EtK (0,(0,(⟨none,0,0⟩,((Vector.replicate 32 0),(⟨none,0,0⟩,(⟨#[]⟩,())))))) h fun b8 h33=>
 sm LkK l kv h33∧sm EtK (Pl.mk b 0) v h33 ∧
 (ZAB.C v kv h33 fun x30 x31 x32 h34=>
 new 56 LkK (0,(0,(⟨#[]⟩,(⟨#[]⟩,(0,()))))) h34 fun b9 h35=>
 Go.Al.st EtK (Pl.mk b8 0) x30 h35 fun h36=>
 Go.Al.st LkK (Pl.mk b9 0) x31 h36 fun h37=>
 J (Pl.mk b8 0) (Pl.mk b9 0) x32 h37) ∧
 new 56 LkK (0,(0,(⟨#[]⟩,(⟨#[]⟩,(0,()))))) h33 fun b10 h38=>
 sm LkK l kv h38∧sm EtK (Pl.mk b 0) v h38 ∧
 ZAB.C v kv h38 fun x33 x34 x35 h39=>
 Go.Al.st EtK (Pl.mk b8 0) x33 h39 fun h40=>
 Go.Al.st LkK (Pl.mk b10 0) x34 h40 fun h41=>
 J (Pl.mk b8 0) (Pl.mk b10 0) x35 h41) ∧
 new 56 LkK (0,(0,(⟨#[]⟩,(⟨#[]⟩,(0,()))))) h fun b11 h42=>
 sm LkK l kv h42∧sm EtK (Pl.mk b 0) v h42 ∧
 (ZAB.C v kv h42 fun x36 x37 x38 h43=>
 new 49 EtK (0,(0,(⟨none,0,0⟩,((Vector.replicate 32 0),(⟨none,0,0⟩,(⟨#[]⟩,())))))) h43 fun b12 h44=>
 Go.Al.st EtK (Pl.mk b12 0) x36 h44 fun h45=>
 Go.Al.st LkK (Pl.mk b11 0) x37 h45 fun h46=>
 J (Pl.mk b12 0) (Pl.mk b11 0) x38 h46) ∧
 new 49 EtK (0,(0,(⟨none,0,0⟩,((Vector.replicate 32 0),(⟨none,0,0⟩,(⟨#[]⟩,())))))) h42 fun b13 h47=>
 sm LkK l kv h47∧sm EtK (Pl.mk b 0) v h47 ∧
 ZAB.C v kv h47 fun x39 x40 x41 h48=>
 Go.Al.st EtK (Pl.mk b13 0) x39 h48 fun h49=>
 Go.Al.st LkK (Pl.mk b11 0) x40 h49 fun h50=>
 J (Pl.mk b13 0) (Pl.mk b11 0) x41 h50:=by
 have fin:∀ {h1:Heap} {p q:Nat} {x:EtK.Ty} {y:LkK.Ty},Keep [] h h1→h1[p]? = some (vobj t_api_Entry EtK x)→h1[q]? = some (vobj t_api_HssKey LkK y)→p≠q→h.size≤p→h.size≤q →
  Go.Al.st EtK (Pl.mk p 0) v' h1 fun h2=>Go.Al.st LkK (Pl.mk q 0) kv' h2 fun h3=>J (Pl.mk p 0) (Pl.mk q 0) c h3:=by
  intro h1 p q x y k ep eq ne lp lq;refine st_to ep fun h2 k2 e2 hs2 =>?_;refine st_to (k2.get eq (by simp;omega)) fun h3 k3 e3 hs3 =>?_;exact hJ p q h3 (k3.get e2 (by simp;omega)) e3 ((k.new k2 (by simp;omega)).new k3 (by simp;omega)) lp lq
 refine ⟨?_,?_,?_⟩
 ·refine hS h _ Keep.rfl fun h24 k24=>⟨?_,?_⟩
  ·refine new_gen fun b4 h25 hb4 k25 e4 hs4 =>?_;refine new_gen fun b5 h26 hb5 k26 e5 hs5 =>?_;have:=k24.1;have:=k25.1;exact fin ((k24.n k25).n k26) (k26.g e4) e5 (by omega) (by omega) (by omega)
  ·refine new_gen fun b4 h25 hb4 k25 e4 hs4 =>?_;refine new_gen fun b5 h26 hb5 k26 e5 hs5 =>?_;have:=k24.1;have:=k25.1;exact fin ((k24.n k25).n k26) e5 (k26.g e4) (by omega) (by omega) (by omega)
 ·refine new_gen fun b8 h33 hb8 k33 e8 hs8=>⟨sm_keep (by decide) gl k33,sm_keep (by decide) eb k33,?_,?_⟩
  ·refine hS h33 _ k33 fun h34 k34 =>?_;refine new_gen fun b9 h35 hb9 k35 e9 hs9 =>?_;have:=k33.1;have:=k34.1;have lb:=lt_of_some e8;exact fin ((k33.n k34).n k35) ((k34.n k35).g e8) e9 (by omega) (by omega) (by omega)
  ·refine new_gen fun b10 h38 hb10 k38 e10 hs10=>⟨sm_keep (by decide) gl (k33.n k38),sm_keep (by decide) eb (k33.n k38),?_⟩;refine hS h38 _ (k33.n k38) fun h39 k39 =>?_;have:=k33.1;have:=k38.1;have lb:=lt_of_some e8;exact fin ((k33.n k38).n k39) ((k38.n k39).g e8) (k39.g e10) (by omega) (by omega) (by omega)
 ·refine new_gen fun b11 h42 hb11 k42 e11 hs11=>⟨sm_keep (by decide) gl k42,sm_keep (by decide) eb k42,?_,?_⟩
  ·refine hS h42 _ k42 fun h43 k43 =>?_;refine new_gen fun b12 h44 hb12 k44 e12 hs12 =>?_;have:=k42.1;have:=k43.1;have lb:=lt_of_some e11;exact fin ((k42.n k43).n k44) e12 ((k43.n k44).g e11) (by omega) (by omega) (by omega)
  ·refine new_gen fun b13 h47 hb13 k47 e13 hs13=>⟨sm_keep (by decide) gl (k42.n k47),sm_keep (by decide) eb (k42.n k47),?_⟩;refine hS h47 _ (k42.n k47) fun h48 k48 =>?_;have:=k42.1;have:=k47.1;have lb:=lt_of_some e11;exact fin ((k42.n k47).n k48) (k48.g e13) ((k47.n k48).g e11) (by omega) (by omega) (by omega)
theorem EtR.sgn {h:Heap} {v:EtK.Ty} {e:Ett} {s:By} (a:EtR h v e):EtR h (sgnV v s) { e with sign:=s }:=⟨a.u,a.q,a.w,a.r,a.t,Eq.refl _⟩
theorem tabs_same {C:Cn} {u:Int}:tabsOk C (nextE C u (lastTab C))=true:=by
 unfold tabsOk nextE;rw[YAA];intro p hp;simp
theorem hssV_none {pub msg:By}:hssV pub msg []=600:=by
 unfold hssV;rw[if_neg];rintro ⟨_,_,_,h⟩;simp at h
theorem chk_bare {a b:Sd} {C:Cn} {u:Nat} (c:ClubC a b C) (o:CnOk C) (hu:u≤1) (hn:C.all.length<256) (hv:(nextVec C (u:Int)).all vecOk=true):chkC C (nextE C (u:Int) (lastTab C))=2006:=by
 have hT:(lastTab C).length=3:=by
  obtain ⟨v1,v2,v3⟩:=o.v;rw[c.m] at v3;have:prins clb=3:=by decide
  omega
 have em:=next_may c o hu hT hn hv
 have hp:putMay (nextE C (u:Int) (lastTab C))=true:=by
  unfold putMay;rw[em];rfl
 have hf:=frm_next c (e:=nextE C (u:Int) (lastTab C)) hp (next_len c o) hT hn;have q1:(nextE C (u:Int) (lastTab C)).seq=(C.all.length:Int)+1:=Eq.refl _;have q2:(nextE C (u:Int) (lastTab C)).user=(u:Int):=Eq.refl _;have q3:(nextE C (u:Int) (lastTab C)).vec=nextVec C (u:Int):=Eq.refl _;have q4:(nextE C (u:Int) (lastTab C)).root=rootV (C.all.map putE):=Eq.refl _;have q5:(nextE C (u:Int) (lastTab C)).sign=[]:=Eq.refl _;have ht:=tabs_same (C:=C) (u:=(u:Int));generalize nextE C (u:Int) (lastTab C)=e at *;unfold chkC;rw[if_pos hf,if_pos q1,q2,if_pos (by rw[c.m];show (u:Int)<2;omega),if_pos q3,if_pos q4,if_pos ht,if_neg];unfold verE;rw[if_pos hp,q5,hssV_none]
 decide
theorem chk_again {a b:Sd} {C:Cn} {e:Ett} (c:ClubC a b C) (hp:putMay e=true) (hv:e.vec.length=2) (hT:e.tables.length=3) (hn:C.all.length<255) (hq:e.seq=(C.all.length:Int)+1):chkC { C with all:=C.all++[e] } e=2001:=by
 have c':ClubC a b { C with all:=C.all++[e] }:=⟨c.m,c.p,c.b⟩;have hl:({ C with all:=C.all++[e] }:Cn).all.length=C.all.length+1:=by simp
 have hf:=frm_next c' hp hv hT (by rw[hl];omega);unfold chkC;rw[if_pos hf,if_neg (by rw[hl,hq];omega)]
theorem ClubC.last {a b:Sd} {C:Cn} (c:ClubC a b C) (o:CnOk C):(lastTab C).length=3:=by
 obtain ⟨v1,v2,v3⟩:=o.v;rw[c.m] at v3;have:prins clb=3:=by decide
 omega
end Go.Proofs.Tryz
