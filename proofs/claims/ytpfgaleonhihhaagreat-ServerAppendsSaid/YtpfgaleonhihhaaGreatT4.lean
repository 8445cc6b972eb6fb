import Derived.Test.YtpfgaleonhihhaaGreatT3
import Derived.Test.YtpfgaleonhihhaaGreatT1
import Derived.Test.YtpfgaleonhihhaaGreatT2
import Derived.Test.YtpfgaleonhihhaaGreatModels3
set_option linter.defProp false
set_option linter.unusedVariables false
set_option linter.unusedSimpArgs false
set_option maxRecDepth 100000
open List renaming all_eq_true → YAA, append_assoc → YAB, append_eq_nil_iff → YAC, append_nil → YAD, drop_drop → YAE, drop_eq_nil_of_le → YAF, drop_left' → YAG, drop_zero → YAH, eq_nil_iff_forall_not_mem → YAI, flatMap_append → YAJ, flatMap_cons → YAK, flatMap_nil → YAL, getD_eq_getElem?_getD → YAM, getElem?_eq_getElem → YAN, getElem?_map → YAO, getElem_map → YAP, getElem_mem → YAQ, length_append → YAR, length_cons → YAS, length_drop → YAT, length_map → YAU, length_nil → YAV, length_set → YAW, length_take → YAX, map_append → YAY, map_cons → YAZ, map_nil → YAa, mem_append → YAb, mem_map_of_mem → YAc, mem_singleton → YAd, sum_cons → YAe, sum_nil → YAf, take_length → YAg, take_of_length_le → YAh, take_succ_eq_append_getElem → YAi, take_zero → YAj
open Int renaming natCast_nonneg → YAk, toNat_natCast → YAl, toNat_of_nonneg → YAm
open Nat renaming le_refl → YAn, pow_le_pow_right → YAo, sub_zero → YAp, two_pow_pos → YAq, zero_le → YAr
open Bool renaming and_eq_true → YAs, true_and → YAt
namespace Go.Proofs.Tryz
open Go Go.Al
def jg{k:Int}{x:Nat×Nat×Nat} (h:Ys k=some x):((k.toNat:Nat):Int)=k∧k.toNat<5:=by
 rcases Zu h with⟨e,_⟩ | ⟨e,_⟩ <;> rw[e] <;> decide
def ZCM.s{kind:Int}{id seed msg:By}{q w p ls:Nat}{h:Ja}{K:Ba→Int→Hp} (hk:Ys kind=some (w,p,ls)) (hid:id.length=16) (hq:q≤4294967295) (hs:seed.length=32) (hm:msg.length≤65536)
 (hK:∀h',Jc [] h h'→K (bx (Z7 kind.toNat w p ls id q seed msg)) 0 h'):ZCM.C kind (bx id) (q:Int) (bx seed) (bx msg) h K:=by
 obtain⟨hc,w4,w8,p34,p67,h2a,h2b,hpl,hmost⟩:=Dj hk;obtain⟨hkn,hk5⟩:=jg hk;apply ZCM.c;unfold ZCM.m;refine ZBL.s ?_;rw[hk];simp only[Option.getD_some];have hmay:W5 id (q:Int)=true:=by unfold W5;simp[hid];omega
 refine JH (false,()) h ?_ ?_
 ·rw[Jd (show¬decide ((w:Int)=0)=true from dn (by omega))];refine ZCf.s ?_;rw[hmay,Jd (by simp),Jd (by rw[Js,hs];decide)];refine⟨?_,rfl⟩;rw[dF (show¬((bx msg).size:Int)>65536 by rw[Js];omega)]
 rw[Jd (by simp)];refine ZAA.s (n:=4) (by decide) (by decide) (by omega) fun h6 k6 =>?_;show JS (bx id) (bx (be q 4)) _;refine JM (by rw[Jj];omega) ?_;have hhl:(JX id q).length=20:=by unfold JX;rw[YAR,Jj,hid]
 rw[show id++be q 4=JX id q from rfl];show JS (bx (JX id q)) (bx [255,253,255]) _;refine JM (by rw[hhl];decide) ?_;refine JM (by rw[YAR,hhl,hs];decide) ?_;refine ZDC.s (by rw[YAR,YAR,hhl,hs];decide) fun h7 k7 =>?_;unfold Z7 at hK;have hC:Hl (JX id q++[255,253,255]++seed)=Mi (JX id q) seed:=rfl;rw[hC];have hCl:(Mi (JX id q) seed).length=32:=X7;generalize Mi (JX id q) seed=C at *;refine ZDH.s hk (by omega) fun h8 s8 k8 r8 =>?_;have hdl:(Ga w p ls (JX id q) C msg).length=p:=Vo hpl;have hdb:∀d∈Ga w p ls (JX id q) C msg,d<2^w:=fun d hd=>G4 hd;unfold Gc at hK;generalize Ga w p ls (JX id q) C msg=ds at *;rw[←hkn];refine ZAA.s (n:=4) (by decide) (by decide) (by omega) fun h9 k9 =>?_;show JS (bx (be kind.toNat 4)) (bx C) _;refine JM (by rw[Jj];omega) ?_;refine P3 fun s10 h10 k10 r10 o10 =>?_;have k010:Jc [] h h10:=(((k6.n k7).n k8).n k9).n k10;have k810:Jc [] h8 h10:=k9.n k10;have sl:∀i,(Xj (JX id q) i 0 (ds.getD i 0) (V3 (JX id q) i seed)).length=32:=fun i=>Wa V4;have sl8:s8.len=p:=by rw[r8.len,YAU,hdl]
 have z09:=(((k6.n k7).n k8).n k9).1;rw[hdl]at hK;refine JF (fun(y:Jn×Int×Unit) (h11:Ja)=>∃n:Nat,y.2.1=n∧n≤p∧Jc [] h8 h11∧Jc [] h h11∧Ip h11 Q7 y.1 (be kind.toNat 4++C++(List.range n).flatMap fun i=>Xj (JX id q) i 0 (ds.getD i 0) (V3 (JX id q) i seed))∧∀x∈own y.1,h8.size≤x) (fun(y:Jn×Int×Unit) _=>p-y.2.1.toNat) ?_ ?_
 ·exact⟨0,rfl,YAr _,k810,k010,by simpa using r10,fun x hx=>by rw[o10]at hx;have:=k9.1;simp at hx;omega⟩
 rintro⟨(s11:Jn),(jj:Int),_⟩ h11 ⟨n,e,hn,k11,k011,r11,o11⟩;dsimp only at e r11 o11 ⊢;subst e;have z8:=((k6.n k7).n k8).1;by_cases hlt:n<p
 ·rw[Jf (show decide ((n:Int)<(s8.len:Int))=true from dT (by omega))]
  have hg:(ds.map fun d=>((d:Nat):Int))[((n:Int)).toNat]? = some ((ds.getD n 0:Nat):Int):=by
   rw[YAl,YAO,YAM,YAN (by omega)];rfl
  have hdn:ds.getD n 0<2^w:=by
   rw[YAM,YAN (by omega)];exact hdb _ (YAQ _)
  refine Xx (r8.keep k11 (by simp)).seg (by omega) hg rfl fun l1 hl1=>Jb hl1 ?_;refine ZBw.s (by omega) (by omega) fun h12 k12 =>?_;refine⟨JN (by decide) hl1 k12,?_⟩;have pl:=V4 (hd:=JX id q) (seed:=seed) (i:=n);refine ZC6.s (fr:=0) (by omega) (by omega) (by omega) (by omega) (by omega) fun h13 k13 =>?_;rw[YAp,Sx,Js];have k1113:Jc [] h11 h13:=k12.n k13;refine apS (r11.keep k1113 (by simp)) rfl rfl (by rw[YAR,YAR,Jj,hCl,Px sl,sl];omega) fun s14 h14 r14 k14 o14 =>?_;have hw:Jr ((n:Int)+1)=((n+1:Nat):Int):=w6 (by omega);rw[hw];have z11:=k11.1;have z1113:=k1113.1;refine⟨⟨n+1,rfl,by omega,(k11.n k1113).new k14 o11,(k011.n k1113).new k14 (fun x hx=>by have:=o11 x hx;omega),?_,fun x hx =>?_⟩,by simp;omega⟩
  ·rw[List.range_succ,YAJ,←YAB];simpa using r14
  ·rcases XO o14 x hx with h | h
   ·exact o11 x h
   ·omega
 ·rw[Jd (show¬decide ((n:Int)<(s8.len:Int))=true from dn (by omega))];obtain rfl:n=p:=by omega
  refine Xb r11.seg fun q' _ =>?_;exact hK h11 k011
def Y4(w p:Nat) (id seed:By) (h:Nat) (L:List By) (r:Nat):Prop:=
 L.length=2*2^h∧∀l,l≤h→∀j,2^(h-l)≤j→j<2*2^(h-l)→r≤j→L.getD j []=Yi w p id seed (2^h) l j
def Iv{L:List By}{i:Nat} (h:i<L.length):(L.map bx)[((i:Nat):Int).toNat]? = some (bx (L.getD i [])):=by
 rw[YAl,YAO,YAM,YAN h];rfl
def Vq{L:List By}{r j:Nat}{x:By} (h:r≠j):(L.set r x).getD j []=L.getD j []:=by
 rw[YAM,YAM,List.getElem?_set_ne h]
def Vp{L:List By}{r:Nat}{x:By} (h:r<L.length):(L.set r x).getD r []=x:=by
 rw[YAM,List.getElem?_set_self h];rfl
def Y4.leaf{w p:Nat}{id seed:By}{h:Nat}{L:List By}{r:Nat} (n:Y4 w p id seed h L (r+1)) (h1:2^h≤r) (h2:r<2*2^h):Y4 w p id seed h (L.set r (xZ id r (TU w p (JX id (r-2^h)) seed))) r:=by
 obtain⟨e,n⟩:=n;refine⟨by rw[YAW];exact e,fun l hl j a b c =>?_⟩;by_cases hj:r=j
 ·subst hj;rw[Vp (by omega)]
  have:l=0:=by
   cases l with
   | zero=>rfl
   | succ l =>
     have e1:2^(h-(l+1))*2=2^(h-(l+1)+1):=(Nat.pow_succ ..).symm;have e2:2^(h-(l+1)+1)≤2^h:=YAo (by decide) (by omega);omega
  subst this
  rfl
 ·rw[Vq hj];exact n l hl j a b (by omega)
def Y4.inner{w p:Nat}{id seed:By}{h:Nat}{L:List By}{r:Nat} (n:Y4 w p id seed h L (r+1)) (h1:1≤r) (h2:r<2^h):Y4 w p id seed h (L.set r (VV id r (L.getD (2*r) []) (L.getD (2*r+1) []))) r:=by
 obtain⟨e,n⟩:=n;refine⟨by rw[YAW];exact e,fun l hl j a b c =>?_⟩;by_cases hj:r=j
 ·subst hj;rw[Vp (by omega)]
  cases l with
  | zero=>rw[YAp]at a;omega
  | succ l =>
    have e1:2^(h-l)=2^(h-(l+1))*2:=by rw[←Nat.pow_succ];congr 1;omega
    rw[n l (by omega) (2*r) (by omega) (by omega) (by omega),n l (by omega) (2*r+1) (by omega) (by omega) (by omega)]
    rfl
 ·rw[Vq hj];exact n l hl j a b (by omega)
def Y4.start{w p:Nat}{id seed:By}{h:Nat}:Y4 w p id seed h (List.replicate (2*2^h) []) (2*2^h):=by
 refine⟨List.length_replicate,fun l hl j a b c =>?_⟩;have:2^(h-l)≤2^h:=YAo (by decide) (by omega);omega
def Y4.root{w p:Nat}{id seed:By}{h:Nat}{L:List By} (n:Y4 w p id seed h L 1):L.getD 1 []=Yi w p id seed (2^h) h 1:=n.2 h (YAn _) 1 (by rw[Nat.sub_self];decide) (by rw[Nat.sub_self];decide) (YAn _)
abbrev YF:Kd := .ag (.pr .i (.pr .i (.pr .s (.pr .s (.pr .i .un)))))
def IS(k:YU):YF.Ty:=(k.ots,(k.height,(bx k.id,(bx k.seed,(k.next,())))))
def UQ(k:Za):YF.Ty:=(k.ots,(k.height,(bx k.id,(bx k.seed,(k.next,())))))
def VX{T b:Nat}{v:YF.Ty}{h:Ja} (e:h[b]? = some (Jg T YF v)):sm .i ((Pl.mk b 0).fld 0) v.1 h∧sm .i ((Pl.mk b 0).fld 1) v.2.1 h∧sm .s ((Pl.mk b 0).fld 2) v.2.2.1 h∧sm .s ((Pl.mk b 0).fld 3) v.2.2.2.1 h∧sm .i ((Pl.mk b 0).fld 4) v.2.2.2.2.1 h:=
 ⟨Jv (n:=0) (k' := .i) e rfl (by decide),Jv (n:=1) (k' := .i) e rfl (by decide),Jv (n:=2) (k' := .s) e rfl (by decide),Jv (n:=3) (k' := .s) e rfl (by decide),Jv (n:=4) (k' := .i) e rfl (by decide)⟩
def GF{x:Int} (h0:0≤x) (h1:x≤10):QQ 1 x=((2^x.toNat:Nat):Int):=by
 have:=Vb (a:=1) (k:=x.toNat) (by omega) (by
  have:2^x.toNat≤2^10:=YAo (by decide) (by omega);omega)
 rw[YAm h0]at this;rw[show((1:Nat):Int)=1 from rfl]at this;rw[this,Nat.one_mul]
def ZBo.s{k:YU}{h:Ja}{K:Bool→Hp} (hK:∀h',Jc [] h h'→K (Xs k) h'):ZBo.C (IS k) h K:=by
 apply ZBo.c;unfold ZBo.m;refine Ji fun b h1 hb k1 e1 hs =>?_;have e1:h1[b]? = some (Jg QM YF (IS k)):=e1;obtain⟨f0,f1,f2,f3,f4⟩:=VX e1;refine Jb f0 ?_;refine ZBL.s ?_;refine JH (Xs k,()) h1 ?_ (hK h1 k1);unfold Xs;show(if decide (((((Ys k.ots).getD (0,0,0)).1:Nat):Int)>0)=true then _ else _)
 cases hx:Ys k.ots with
 | none=>rw[Jd (by simp)];exact⟨by simp,rfl⟩
 | some x =>
   have hw:0<x.1:=by rcases Zu hx with⟨_,rfl⟩ | ⟨_,rfl⟩ <;> decide
   rw[Option.getD_some,Jf (show decide ((x.1:Int)>0)=true from dT (by omega))];refine Jb f1 ?_;show(if decide (k.height≥1)=true then _ else _);by_cases c1:1≤k.height
   ·rw[Jf (dT c1)];refine Jb f1 ?_;show(if decide (k.height≤5)=true then _ else _);by_cases c2:k.height≤5
    ·rw[Jf (dT c2)];refine Jb f2 ?_;show(if decide (((bx k.id).size:Int)=16)=true then _ else _);by_cases c3:k.id.length=16
     ·rw[Jf (dT (by rw[Js];omega))];refine Jb f3 ?_;show(if decide (((bx k.seed).size:Int)=32)=true then _ else _);by_cases c4:k.seed.length=32
      ·rw[Jf (dT (by rw[Js];omega))];refine Jb f4 ?_;show(if decide (k.next≥0)=true then _ else _);by_cases c5:0≤k.next
       ·rw[Jf (dT c5)];refine Jb f4 (Jb f1 ⟨show(0:Int)≤k.height by omega,?_,rfl⟩);show(decide (k.next≤QQ 1 k.height),())=_;rw[GF (by omega) (by omega)];have:((2^k.height.toNat:Nat):Int)=2^k.height.toNat:=by push_cast;rfl
        rw[this];simp[c1,c2,c3,c4,c5]
       ·rw[Jd (by simpa using c5)];exact⟨by simp[c5],rfl⟩
      ·rw[Jd (by rw[Js];simp;omega)];exact⟨by simp[c4],rfl⟩
     ·rw[Jd (by rw[Js];simp;omega)];exact⟨by simp[c3],rfl⟩
    ·rw[Jd (by simpa using c2)];exact⟨by simp[c2],rfl⟩
   ·rw[Jd (by simpa using c1)];exact⟨by simp[c1],rfl⟩
def ZBV.s{k:Za}{h:Ja}{K:Bool→Hp} (hK:∀h',Jc [] h h'→K (Yg k) h'):ZBV.C (UQ k) h K:=by
 apply ZBV.c;unfold ZBV.m;refine Ji fun b h1 hb k1 e1 hs =>?_;have e1:h1[b]? = some (Jg JI YF (UQ k)):=e1;obtain⟨f0,f1,f2,f3,f4⟩:=VX e1;refine Qd (fun y h'=>Jc [] h1 h'∧y=(Yg k,())) ?_ ?_
 ·refine Jb f0 (Jb f1 (Jb f2 (Jb f3 ?_)));refine ZBo.s (k:=⟨k.ots,k.height,k.id,k.seed,0⟩) fun h2 k2 =>?_;have g1:=JN (by decide) f1 k2;have g4:=JN (by decide) f4 k2;unfold Yg
  cases hm:Xs ⟨k.ots,k.height,k.id,k.seed,0⟩ with
  | false=>rw[Jd (by simp)];exact⟨k2,by simp⟩
  | true =>
    rw[Jf rfl]
    have hh:1≤k.height∧k.height≤5:=by
     unfold Xs at hm;simp only[YAs,Qg]at hm;exact⟨hm.1.1.1.1.1.2,hm.1.1.1.1.2⟩
    refine Jb g4 ?_;show(if decide (k.next≥0)=true then _ else _);by_cases c5:0≤k.next
    ·rw[Jf (dT c5)];have hw:Jr (2*k.height)=((2*k.height.toNat:Nat):Int):=w6 (by omega);refine Jb g4 (Jb g1 ⟨?_,k2,?_⟩)
     ·show 0≤Jr (2*k.height);rw[hw];exact YAk _
     ·show(decide (k.next≤QQ 1 (Jr (2*k.height))),())=_;rw[hw,GF (YAk _) (by omega),YAl];have:((2^(2*k.height.toNat):Nat):Int)=2^(2*k.height.toNat):=by push_cast;rfl
      rw[this];simp[c5]
    ·rw[Jd (by simpa using c5)];exact⟨k2,by simp[c5]⟩
 ·rintro _ h2 ⟨k2,rfl⟩;exact hK h2 (k1.n k2)
def ZBm.s{n:Nat}{h:Ja}{K:Int→Hp} (hn:n≤100) (hK:K ((XE n:Nat):Int) h):ZBm.C (n:Int) h K:=by
 apply ZBm.c;unfold ZBm.m;unfold XE at hK;by_cases h5:n=5
 ·subst h5;exact hK
 ·rw[Jd (by simp;omega),JE (by omega) (by omega)];rw[Jd h5]at hK;have:((4026531840+n:Nat):Int)=4026531840+(n:Int):=by omega
  rw[←this];exact hK
def ZC4.s{k:YU}{h:Ja}{K:Jn→Hp} (hm:Xs k=true)
 (hK:∀h' s L,Jc [] h h'→JR h' Jt .s s (L.map bx)→Y4 k.w k.p k.id k.seed k.height.toNat L 1→K s h'):ZC4.C (IS k) h K:=by
 obtain⟨⟨w,p,ls⟩,hx,e1,e2,e3,hp,hh1,hh5,h16,h32,_,_,_⟩:=Wi hm;dsimp only at e1 e2 e3;apply ZC4.c;unfold ZC4.m;refine Ji fun b h1 hb k1 eb hs1 =>?_;have eb:h1[b]? = some (Jg QM YF (IS k)):=eb;obtain⟨f0,f1,f2,f3,f4⟩:=VX eb;obtain⟨hh,he⟩:∃n:Nat,k.height=n:=⟨k.height.toNat,by omega⟩;have hh':k.height.toNat=hh:=by omega
 have f1':sm .i ((Pl.mk b 0).fld 1) (hh:Int) h1:=by rw[←he];exact f1
 rw[e1,e2,hh']at hK;rw[hh']at hh1 hh5;refine Jb f1' ⟨YAk hh,?_⟩;have hm1:QQ 1 (hh:Int)=((2^hh:Nat):Int):=by rw[GF (YAk _) (by omega),YAl]
 have hm32:2^hh≤32:=YAo (n:=2) (by decide) hh5;rw[hm1];have hpos:=YAq hh;have hw2:Jr (2*((2^hh:Nat):Int))=((2*2^hh:Nat):Int):=w6 (by omega);rw[hw2];refine Up (by omega) (by omega) fun bo h2 hbo k2 r2 hs2 =>?_;have hwl:Jr (((2*2^hh:Nat):Int)-1)=((2*2^hh-1:Nat):Int):=w6 (by omega);rw[hwl];refine JF (fun(y:Int×Unit) (h3:Ja)=>∃(r:Nat) (L:List By),y.1=r∧r+1≤2*2^hh∧Jc [bo] h2 h3∧JR h3 Jt .s ⟨some ⟨bo,0⟩,2*2^hh,2*2^hh⟩ (L.map bx)∧Y4 w p k.id k.seed hh L (r+1)∧∀j,r+1≤j→j<2*2^hh→(L.getD j []).length=32) (fun(y:Int×Unit) _=>y.1.toNat) ?_ ?_
 ·refine⟨2*2^hh-1,List.replicate (2*2^hh) [],rfl,by omega,Jc.rfl,?_,?_⟩
  ·rw[List.map_replicate];exact r2
  ·rw[Nat.sub_add_cancel (by omega)];exact⟨Y4.start,fun j h1 h2=>by omega⟩
 rintro⟨(jj:Int),_⟩ h3 ⟨r,L,e,hr,k3,r3,np,n32⟩;dsimp only at e ⊢;subst e;have lb:b<h2.size:=by have:=Jl eb;have:=k2.1;omega
 have k13:Jc [] h1 h3:=k2.new k3 (by simp;omega);obtain⟨f0,f1,f2,f3,f4⟩:=VX (k13.g eb);have hLl:=np.1;by_cases hlt:0<r
 ·rw[Jf (show decide ((r:Int)>0)=true from dT (by omega))];have hwd:Jr ((r:Int)-1)=((r-1:Nat):Int):=w6 (by omega);rw[hwd];refine Qd (fun _ h'=>Jc [bo] h2 h'∧∃L',JR h' Jt .s ⟨some ⟨bo,0⟩,2*2^hh,2*2^hh⟩ (L'.map bx)∧Y4 w p k.id k.seed hh L' r∧∀j,r≤j→j<2*2^hh→(L'.getD j []).length=32) ?_ ?_
  ·refine Vs ?_;by_cases hge:2^hh≤r
   ·rw[Jf (show decide ((r:Int)≥((2^hh:Nat):Int))=true from dT (by omega))];refine Jb f0 (Jb f2 (Jb f3 ?_));have hwq:Jr ((r:Int)-((2^hh:Nat):Int))=((r-2^hh:Nat):Int):=w6 (by omega);rw[hwq];refine ZB2.s hx h16 (by omega) h32 fun v h4 hv k4 =>?_;refine Jq fun b2 h5 hb2 k5 e5 hs5 =>?_;have e5:h5[b2]? = some (Jg Jh (.ar 32 .u8) v):=e5;have k15:Jc [] h1 h5:=(k13.n k4).n k5;have g2:=JN (by decide) f2 (k4.n k5);refine Jb g2 (Jb (Je e5) ?_);refine ZAA.s (n:=4) (by decide) (by decide) (by omega) fun h6 k6 =>?_;refine⟨JN (by decide) (Je e5) k6,JN (by decide) g2 k6,?_⟩;show JS (bx k.id) (bx (be r 4)) _;refine JM (by rw[Jj];omega) ?_;show JS _ (bx [130,130]) _;refine JM (by rw[YAR,Jj];simp;omega) ?_;refine ZAZ.s fun h7 k7=>⟨JN (by decide) g2 (k6.n k7),?_⟩;rw[hv];have pl:(TU w p (JX k.id (r-2^hh)) k.seed).length=32:=X7;refine JM (by simp only[YAR,Jj,pl];simp;omega) ?_;refine ZDC.s (by simp only[YAR,Jj,pl];simp;omega) fun h8 k8 =>?_;have k38:Jc [] h3 h8:=(((k4.n k5).n k6).n k7).n k8;have r8:=r3.keep k38 (by simp);refine U7 r8 (YAk r) (by rw[YAU,hLl];omega) rfl fun h9 k9 r9 =>?_;refine⟨(k3.then (U:=[bo]) k38 (by simp) (by simp)).then (U:=[bo]) k9 (by simp) (by simp[own]),_,?_,np.leaf hge (by omega),fun j h1 h2 =>?_⟩
    ·rw[YAl]at r9;rw[List.map_set];exact r9
    ·by_cases hj:r=j
     ·subst hj;rw[Vp (by omega)];exact X7
     ·rw[Vq hj];exact n32 j (by omega) h2
   ·rw[Jd (show¬decide ((r:Int)≥((2^hh:Nat):Int))=true from dn (by omega))];have hw2r:Jr (2*(r:Int))=((2*r:Nat):Int):=w6 (by omega);have hw2r1:Jr (((2*r:Nat):Int)+1)=((2*r+1:Nat):Int):=w6 (by omega);rw[hw2r,hw2r1];have l1:=n32 (2*r) (by omega) (by omega);have l2:=n32 (2*r+1) (by omega) (by omega);refine Jb f2 ?_;refine Xx r3.seg (x:=bx (L.getD (2*r) [])) (YAk _) (Iv (by omega)) rfl fun p2 g2=>Jb g2 ?_;refine Xx r3.seg (x:=bx (L.getD (2*r+1) [])) (YAk _) (Iv (by omega)) rfl fun p3 g3=>Jb g3 ?_;refine ZAA.s (n:=4) (by decide) (by decide) (by omega) fun h6 k6 =>?_;refine⟨JN (by decide) g3 k6,JN (by decide) g2 k6,JN (by decide) f2 k6,?_⟩;show JS (bx k.id) (bx (be r 4)) _;refine JM (by rw[Jj];omega) ?_;show JS _ (bx [131,131]) _;refine JM (by rw[YAR,Jj];simp;omega) ?_;refine JM (by simp only[YAR,Jj,l1];simp;omega) ?_;refine JM (by simp only[YAR,Jj,l1,l2];simp;omega) ?_;refine ZDC.s (by simp only[YAR,Jj,l1,l2];simp;omega) fun h8 k8 =>?_;have k38:Jc [] h3 h8:=k6.n k8;have r8:=r3.keep k38 (by simp);refine U7 r8 (YAk r) (by rw[YAU,hLl];omega) rfl fun h9 k9 r9 =>?_;refine⟨(k3.then (U:=[bo]) k38 (by simp) (by simp)).then (U:=[bo]) k9 (by simp) (by simp[own]),_,?_,np.inner hlt (by omega),fun j h1 h2 =>?_⟩
    ·rw[YAl]at r9;rw[List.map_set];exact r9
    ·by_cases hj:r=j
     ·subst hj;rw[Vp (by omega)];exact X7
     ·rw[Vq hj];exact n32 j (by omega) h2
  ·rintro _ h4 ⟨k4,L',r4,np4,n4⟩;refine⟨⟨r-1,L',rfl,by omega,k4,r4,?_⟩,by simp;omega⟩;rw[Nat.sub_add_cancel (by omega)];exact⟨np4,n4⟩
 ·rw[Jd (show¬decide ((r:Int)>0)=true from dn (by omega))];obtain rfl:r=0:=by omega
  exact hK h3 _ L (k1.n k13) r3 np
def ZBN.s{k:YU}{h:Ja}{K:Ba→Int→Hp} (hm:Xs k=true) (hK:∀h',Jc [] h h'→K (bx (QJ k)) 0 h'):ZBN.C (IS k) h K:=by
 obtain⟨⟨w,p,ls⟩,hx,e1,e2,e3,hp,hh1,hh5,h16,h32,hon,ho5,_⟩:=Wi hm;apply ZBN.c;unfold ZBN.m;refine Ji fun b h1 hb k1 eb hs1 =>?_;have eb:h1[b]? = some (Jg QM YF (IS k)):=eb;refine Jb (Je eb) ?_;refine ZBo.s fun h2 k2 =>?_;rw[hm,Jd (by simp)];obtain⟨f0,f1,f2,f3,f4⟩:=VX (k2.g eb);refine Jb f1 (Jb f0 (Jb f2 (Jb (Je (k2.g eb)) ?_)));obtain⟨hh,he⟩:∃n:Nat,k.height=n:=⟨k.height.toNat,by omega⟩;have hh':k.height.toNat=hh:=by omega
 have kv:=Iy hh1 hh5;unfold QJ at hK;show ZBm.C k.height h2 _;rw[he];rw[hh']at kv hK hh5;refine ZBm.s (by omega) ⟨Je (k2.g eb),f2,f0,?_⟩;refine ZAA.s (n:=4) (by decide) (by decide) (by omega) fun h4 k4 =>?_;have e4:=(k2.n k4).g eb;obtain⟨f0,f1,f2,f3,f4⟩:=VX e4;refine⟨Je e4,f2,f0,?_⟩;show ZAA.C k.ots 4 h4 _;rw[←hon];refine ZAA.s (n:=4) (by decide) (by decide) (by omega) fun h5 k5 =>?_;have k15:=(k2.n k4).n k5;have e5:=k15.g eb;obtain⟨f0,f1,f2,f3,f4⟩:=VX e5;refine⟨Je e5,f2,?_⟩;refine JM (by rw[Jj,Jj];decide) ?_;show JS _ (bx k.id) _;refine JM (by rw[YAR,Jj,Jj];omega) ?_;refine ZC4.s hm fun h6 s6 L k6 r6 np=>⟨JN (by decide) f2 k6,?_⟩;have hpos:=YAq k.height.toNat;refine Xx r6.seg (x:=bx (L.getD 1 [])) (by decide) (Iv (i:=1) (by have:=np.1;omega)) rfl fun l1 g1=>Jb g1 ?_;rw[np.root,hh'];refine JM (by simp only[YAR,Jj,WP];omega) ?_;unfold YU.m at hK;rw[hh']at hK;exact hK h6 ((k1.n k15).n k6)
def PF{k:Za} (hm:Yg k=true):1≤k.height∧k.height≤5∧k.id.length=16∧k.seed.length=32∧0≤k.next∧k.next≤((2^(2*k.height.toNat):Nat):Int)∧2^(2*k.height.toNat)≤1024∧Xs ⟨k.ots,k.height,k.id,k.seed,0⟩=true:=by
 unfold Yg at hm;simp only[YAs,Qg]at hm;obtain⟨⟨a,b⟩,c⟩:=hm;have a':=a;unfold Xs at a';simp only[YAs,Qg]at a';obtain⟨⟨⟨⟨⟨⟨a1,a2⟩,a3⟩,a4⟩,a5⟩,_⟩,_⟩:=a';refine⟨a2,a3,a4,a5,b,by push_cast;exact c,?_,a⟩;have:2^(2*k.height.toNat)≤2^10:=YAo (by decide) (by omega);omega
def Cy{k:Za} (hm:Yg k=true):k.up.next=((k.next.toNat/2^k.height.toNat:Nat):Int)∧Wy k.next k.height=k.up.next:=by
 obtain⟨a1,a2,_,_,a3,a4,_,_⟩:=PF hm;obtain⟨n,hn⟩:∃n:Nat,k.next=n:=⟨k.next.toNat,by omega⟩;obtain⟨m,hh⟩:∃n:Nat,k.height=n:=⟨k.height.toNat,by omega⟩;unfold Za.up;dsimp only;rw[hn,hh,ZQ n m (by omega)];simp
def ZC9.s{k:Za}{h:Ja}{K:YF.Ty→Hp} (hm:Yg k=true) (hK:∀h',Jc [] h h'→K (IS k.up) h'):ZC9.C (UQ k) h K:=by
 obtain⟨a1,a2,_,_,a3,a4,_,_⟩:=PF hm;apply ZC9.c;unfold ZC9.m;refine Ji fun b h1 hb k1 eb hs1 =>?_;refine Ji fun b2 h2 hb2 k2 eb2 hs2 =>?_;have eb:h2[b]? = some (Jg JI YF (UQ k)):=k2.g eb;obtain⟨f0,f1,f2,f3,f4⟩:=VX eb;refine Jb f0 (Jb f1 (Jb f2 (Jb f3 (Jb f4 (Jb f1 ⟨show(0:Int)≤k.height by omega,?_⟩)))));refine JL eb2 fun h3 k3 e3 hs3=>Jb (Je e3) ?_;show K (k.ots,(k.height,(bx k.id,(bx k.seed,(Wy k.next k.height,()))))) h3;rw[(Cy hm).2];exact hK h3 ((k1.n k2).new k3 (by have:=k1.1;simp;omega))
def ZB7.s{k:Za}{h:Ja}{K:Ba→Int→Hp} (hm:Yg k=true) (hK:∀h',Jc [] h h'→K (bx (Zq k)) 0 h'):ZB7.C (UQ k) h K:=by
 obtain⟨_,_,_,_,_,_,_,hl⟩:=PF hm;apply ZB7.c;unfold ZB7.m;refine Ji fun b h1 hb k1 eb hs1 =>?_;have eb:h1[b]? = some (Jg JI YF (UQ k)):=eb;refine Jb (Je eb) ?_;refine ZBV.s fun h2 k2 =>?_;rw[hm,Jd (by simp)];refine Jb (Je (k2.g eb)) ?_;refine ZC9.s hm fun h3 k3 =>?_;refine Jq fun b2 h5 hb2 k5 e5 hs5 =>?_;refine Qm (x':=IS ⟨k.ots,k.height,k.id,k.seed,0⟩) e5 (by decide) rfl ?_;have k15:Jc [] h1 h5:=(k2.n k3).n k5;have z1:=k15.1;have e6:(h5.setIfInBounds b2 (Jg QM YF (IS ⟨k.ots,k.height,k.id,k.seed,0⟩)))[b2]? = some (Jg QM YF (IS ⟨k.ots,k.height,k.id,k.seed,0⟩)):=Jw e5;have k56:Jc [b2] h5 (h5.setIfInBounds b2 (Jg QM YF (IS ⟨k.ots,k.height,k.id,k.seed,0⟩))):=Jo;refine Jb (Je e6) ?_;refine ZBN.s hl fun h7 k7 =>?_;refine ZAA.s (x:=2) (n:=4) (by decide) (by decide) (by decide) fun h8 k8 =>?_;have pl:=YO hl;refine JM (by rw[Jj,pl];decide) ?_;refine hK h8 ((((k1.n k15).new k56 ?_).n k7).n k8);have:=k1.1;have:=(k2.n k3).1;simp;omega
def ref1_LeftK.s{k:Za}{h:Ja}{K:Int→Hp} (hm:Yg k=true) (hK:∀h',Jc [] h h'→K (((2^(2*k.height.toNat):Nat):Int)-k.next) h'):ZB9.C (UQ k) h K:=by
 obtain⟨a1,a2,_,_,a3,a4,a5,_⟩:=PF hm;apply ZB9.c;unfold ZB9.m;refine Ji fun b h1 hb k1 eb hs1 =>?_;have eb:h1[b]? = some (Jg JI YF (UQ k)):=eb;refine Jb (Je eb) ?_;refine ZBV.s fun h2 k2 =>?_;rw[hm,Jd (by simp)];obtain⟨f0,f1,f2,f3,f4⟩:=VX (k2.g eb);have hw:Jr (2*k.height)=((2*k.height.toNat:Nat):Int):=w6 (by omega);refine Jb f1 ⟨?_,Jb f4 ?_⟩
 ·show 0≤Jr (2*k.height);rw[hw];exact YAk _
 ·show K (Jr (QQ 1 (Jr (2*k.height))-k.next)) h2;rw[hw,GF (YAk _) (by omega),YAl,JE (by omega) (by omega)];exact hK h2 (k1.n k2)
def ZDy.s{tag:Nat}{a b c:By}{h:Ja}{K:Kd.Ty (.ar 32 .u8)→Hp} (ht:tag≤4) (hl:a.length+b.length+c.length≤60000) (hK:∀v h',Vector.toList v=yp tag a b c→Jc [] h h'→K v h'):ZDy.C (tag:Int) (bx a) (bx b) (bx c) h K:=by
 apply ZDy.c;unfold ZDy.m;refine Ji fun b1 h1 hb1 k1 e1 hs1 =>?_;refine QN fun bq h2 hbq k2 r2 hs2 =>?_
 have hl1:(XK tag [bx a,bx b,bx c]).length≤1000000:=by
  unfold XK QT;simp[Jj,WV];omega
 refine ZCC.s (tag:=tag) r2.seg ht (by simp only[lens,YAZ,YAa,YAe,YAf,Js];omega) hl1 fun h3 k3 =>?_;have hv:Vector.toList (Yt (XK tag [bx a,bx b,bx c]))=yp tag a b c:=rfl;generalize Yt (XK tag [bx a,bx b,bx c])=v at *;refine Jq fun b2 h5 hb2 k5 e5 hs5 =>?_;refine Jb (Je e5) ?_;have k15:Jc [] h1 h5:=(k2.n k3).n k5;refine JL (k15.g e1) fun h6 k6 e6 hs6 =>?_;refine Jb (Je e6) ?_;have:=k1.1;exact hK v h6 hv ((k1.n k15).new k6 (by simp;omega))
def ZDc.s{k:Za}{h:Ja}{K:YF.Ty→Hp} (hm:Yg k=true) (hK:∀h',Jc [] h h'→K (IS k.low) h'):ZDc.C (UQ k) h K:=by
 obtain⟨a1,a2,h16,h32,a3,a4,a5,_⟩:=PF hm;obtain⟨un,us⟩:=Cy hm;apply ZDc.c;unfold ZDc.m;refine Ji fun b h1 hb k1 eb hs1 =>?_;refine Ji fun b2 h2 hb2 k2 eb2 hs2 =>?_;have eb:h2[b]? = some (Jg JI YF (UQ k)):=k2.g eb;obtain⟨f0,f1,f2,f3,f4⟩:=VX eb;refine Jb f4 (Jb f1 ⟨show(0:Int)≤k.height by omega,?_⟩);show ZAA.C (Wy k.next k.height) 4 h2 _;have hU:k.next/2^k.height.toNat=k.up.next:=rfl;rw[us];have hL:k.low=⟨k.ots,k.height,(yp 2 k.id k.seed (be (k.next/2^k.height.toNat).toNat 4)).take 16,yp 3 k.id k.seed (be (k.next/2^k.height.toNat).toNat 4),k.next%2^k.height.toNat⟩:=Eq.refl _;rw[hL,hU]at hK;rw[un]at hK ⊢;rw[YAl]at hK;have hub:k.next.toNat/2^k.height.toNat≤1024:=Nat.le_trans (Nat.div_le_self _ _) (by omega);generalize k.next.toNat/2^k.height.toNat=u at *;refine ZAA.s (n:=4) (by decide) (by decide) (by omega) fun h3 k3 =>?_;have e3:=k3.g eb;obtain⟨f0,f1,f2,f3,f4⟩:=VX e3;refine Jb f0 (Jb f1 (Jb f2 (Jb f3 (Jb f2 (Jb f3 (Jb f4 (Jb f1 ⟨show(0:Int)≤k.height by omega,?_⟩)))))));refine ZDy.s (tag:=2) (by decide) (by rw[Jj];omega) fun v4 h4 hv4 k4 =>?_;have e4:=k4.g e3;obtain⟨f0,f1,f2,f3,f4⟩:=VX e4;refine⟨f1,f4,f3,f2,f1,f0,?_⟩;refine ZAZ.s fun h5 k5 =>?_;have e5:=k5.g e4;obtain⟨f0,f1,f2,f3,f4⟩:=VX e5;refine⟨f1,f4,f3,f2,f1,f0,?_⟩;rw[hv4];have l4:(yp 2 k.id k.seed (be u 4)).length=32:=X7;refine Z9 (lo:=0) (hi:=16) (by decide) (by omega) ?_;rw[YAH];refine ZDy.s (tag:=3) (by decide) (by rw[Jj];omega) fun v6 h6 hv6 k6 =>?_;have e6:=k6.g e5;obtain⟨f0,f1,f2,f3,f4⟩:=VX e6;refine⟨f1,f4,f1,f0,?_⟩;refine ZAZ.s fun h7 k7 =>?_;have e7:=k7.g e6;obtain⟨f0,f1,f2,f3,f4⟩:=VX e7;refine⟨f1,f4,f1,f0,?_⟩;rw[hv6];have k27:Jc [] h2 h7:=(((k3.n k4).n k5).n k6).n k7;refine JL (k27.g eb2) fun h8 k8 e8 hs8=>Jb (Je e8) ?_
 have hand:UO k.next (Jr (QQ 1 k.height-1))=k.next%2^k.height.toNat:=by
  have hp:2^k.height.toNat≤2^5:=YAo (by decide) (by omega);have hp0:=YAq k.height.toNat;rw[GF (by omega) (by omega),JE (by omega) (by omega)];rw[show((2^k.height.toNat:Nat):Int)-1=((2^k.height.toNat-1:Nat):Int) by omega,IY _ (by omega)]
  push_cast;rfl
 show K (k.ots,(k.height,(bx ((yp 2 k.id k.seed (be u 4)).take 16),(bx (yp 3 k.id k.seed (be u 4)),(UO k.next (Jr (QQ 1 k.height-1)),()))))) h8;rw[hand];unfold IS at hK;dsimp only at hK;refine hK h8 (((k1.n k2).n k27).new k8 ?_);have:=k1.1;simp;omega
def zM{r:Nat} (h:r<64):ym (r:Int) 1=(((if r%2=0 then r+1 else r-1:Nat):Nat):Int):=by
 have:∀r:Fin 64,ym (r.val:Int) 1=(((if r.val%2=0 then r.val+1 else r.val-1:Nat):Nat):Int):=by decide
 exact this ⟨r,h⟩
def Y4.sib{w p:Nat}{id seed:By}{h i:Nat}{L:List By}{r:Nat} (n:Y4 w p id seed h L 1) (hi:i<h) (a:2^(h-i)≤r) (b:r<2*2^(h-i)) :
 (if r%2=0 then r+1 else r-1)<L.length∧L.getD (if r%2=0 then r+1 else r-1) []=Yi w p id seed (2^h) i (if r%2=0 then r+1 else r-1)∧2^(h-(i+1))≤r/2∧r/2<2*2^(h-(i+1))∧2≤r:=by
 have e1:2^(h-i)=2^(h-(i+1))*2:=by rw[←Nat.pow_succ];congr 1;omega
 have e2:2^(h-i)≤2^h:=YAo (by decide) (by omega);have e3:=YAq (h-(i+1));have e4:=n.1
 have hs:2^(h-i)≤(if r%2=0 then r+1 else r-1)∧(if r%2=0 then r+1 else r-1)<2*2^(h-i):=by
  split <;> omega
 exact⟨by omega,n.2 i (by omega) _ hs.1 hs.2 (by omega),by omega,by omega,by omega⟩
def ZBx.s{k:YU}{msg:By}{h:Ja}{K:Ba→YF.Ty→Int→Hp} (hm:Xs k=true) (hn:k.next<2^k.height.toNat) (hl:msg.length≤65536)
 (hK:∀h',Jc [] h h'→K (bx (Q1 k msg)) (IS { k with next:=k.next+1 }) 0 h'):ZBx.C (IS k) (bx msg) h K:=by
 obtain⟨⟨w,p,ls⟩,hx,e1,e2,e3,hp,hh1,hh5,h16,h32,hon,ho5,hp67⟩:=Wi hm;dsimp only at e1 e2 e3;have tl:=(Ia hm hn hl).2
 have hn0:0≤k.next:=by
  unfold Xs at hm;simp only[YAs,Qg]at hm;exact hm.1.2
 obtain⟨q,hq⟩:∃q:Nat,k.next=q:=⟨k.next.toNat,by omega⟩;obtain⟨hh,he⟩:∃n:Nat,k.height=n:=⟨k.height.toNat,by omega⟩;have hh':k.height.toNat=hh:=by omega
 have hnt:k.next.toNat=q:=by omega
 have hq2:q<2^hh:=by
  have:((q:Nat):Int)<((2^hh:Nat):Int):=by rw[←hq,←hh'];push_cast;exact hn
  omega
 rw[hh']at hh1 hh5;have hm32:2^hh≤32:=YAo (n:=2) (by decide) hh5;have hpos:=YAq hh;have hm1:QQ 1 k.height=((2^hh:Nat):Int):=by rw[GF (by omega) (by omega),hh']
 have kv:=Iy hh1 hh5
 have hT:Q1 k msg=be q 4++Z7 k.ots.toNat w p ls k.id q k.seed msg++be (XE hh) 4++Vu w p k.id k.seed (2^hh) hh 0 (2^hh+q):=by
  unfold Q1 YU.m;rw[e1,e2,e3,hnt,hh']
 generalize Q1 k msg=T at *;have ol:=PV (kind:=k.ots.toNat) (ls:=ls) (id:=k.id) (q:=q) (seed:=k.seed) (msg:=msg) (show 256/w≤p by rw[e1,e2]at hp;exact hp);have pl:=Mj (w:=w) (p:=p) (id:=k.id) (seed:=k.seed) (m:=2^hh) (n:=hh) (l:=0) (r:=2^hh+q);generalize hO:Z7 k.ots.toNat w p ls k.id q k.seed msg=O at *;apply ZBx.c;unfold ZBx.m;refine Ji fun b h1 hb k1 eb hs1 =>?_;refine Ji fun b2 h2 hb2 k2 eb2 hs2 =>?_;have eb:h2[b]? = some (Jg QM YF (IS k)):=k2.g eb;have eb2:h2[b2]? = some (Jg QM YF (IS ⟨0,0,[],[],0⟩)):=eb2;refine Qd (fun _ h'=>Jc [] h2 h') ?_ ?_
 ·refine Qd (fun y h'=>y=(false,())∧Jc [] h2 h') ?_ ?_
  ·refine Jb (Je eb) ?_;refine ZBo.s fun h3 k3 =>?_;rw[hm,Jd (by simp)];refine⟨?_,k3⟩;rw[dF (show¬((bx msg).size:Int)>65536 by rw[Js];omega)]
  ·rintro _ h3 ⟨rfl,k3⟩;rw[Jd (by simp)];obtain⟨f0,f1,f2,f3,f4⟩:=VX (k3.g eb);refine Jb f4 (Jb f1 ⟨show(0:Int)≤k.height by omega,?_⟩);show(if decide (k.next=QQ 1 k.height)=true then _ else _);rw[Jd (show¬decide (k.next=QQ 1 k.height)=true from fun h=>by have:=of_decide_eq_true h;rw[hm1]at this;omega)];exact k3
 intro _ h3 k3;have e3':=k3.g eb;obtain⟨f0,f1,f2,f3,f4⟩:=VX e3';refine Jb f0 (Jb f2 (Jb f4 (Jb f3 ?_)));show ZCM.C k.ots (bx k.id) k.next (bx k.seed) (bx msg) h3 _;rw[hq];refine ZCM.s hx h16 (by omega) h32 hl fun h8 k8 =>?_;rw[hO];have e8:=k8.g e3';obtain⟨f0,f1,f2,f3,f4⟩:=VX e8;refine Jb f4 (Jb f1 ?_);show ZAA.C k.next 4 h8 _;rw[hq];refine ZAA.s (n:=4) (by decide) (by decide) (by omega) fun h9 k9=>⟨JN (by decide) f1 k9,?_⟩;refine JM (by rw[Jj,ol];omega) ?_;show ZBm.C k.height h9 _;rw[he];refine ZBm.s (by omega) ?_;refine ZAA.s (n:=4) (by decide) (by decide) (by omega) fun h11 k11 =>?_;refine JM (by rw[YAR,Jj,Jj,ol];omega) ?_;have k811:=k9.n k11;have e11:=k811.g e8;refine Jb (Je e11) ?_;refine ZC4.s hm fun h12 s12 L k12 r12 np =>?_;rw[e1,e2,hh']at np;have e12:=k12.g e11;obtain⟨f0,f1,f2,f3,f4⟩:=VX e12;have f1':sm .i ((Pl.mk b 0).fld 1) k.height h12:=f1;have f4':sm .i ((Pl.mk b 0).fld 4) k.next h12:=f4;refine Jb f1' ⟨show(0:Int)≤k.height by omega,Jb f4' ?_⟩;have k2_12:Jc [] h2 h12:=((k3.n k8).n k811).n k12;have hw0:Jr (QQ 1 k.height+k.next)=((2^hh+q:Nat):Int):=by rw[hm1,hq,JE (by omega) (by omega)];omega
 rw[hw0];refine JF (fun(y:Ba×Int×Unit) (h13:Ja)=>∃(i r:Nat) (A:By),y.1=bx A∧y.2.1=r∧h13=h12∧i≤hh∧2^(hh-i)≤r∧r<2*2^(hh-i)∧A++Vu w p k.id k.seed (2^hh) (hh-i) i r=T) (fun(y:Ba×Int×Unit) _=>y.2.1.toNat) ?_ ?_
 ·exact⟨0,2^hh+q,_,rfl,rfl,rfl,YAr _,by rw[YAp];omega,by rw[YAp];omega,hT.symm⟩
 rintro⟨(a:Ba),(jj:Int),_⟩ h13 ⟨i,r,A,ea,er,rfl,hi,ra,rb,hA⟩;dsimp only at ea er ⊢;subst ea;subst er;have hr64:2^(hh-i)≤2^hh:=YAo (by decide) (by omega);by_cases hlt:i<hh
 ·obtain⟨s1,s2,s3,s4,s5⟩:=np.sib hlt ra rb;rw[Jf (show decide ((r:Int)>1)=true from dT (by omega)),zM (by omega)];have hp1:hh-i=(hh-(i+1))+1:=by omega
  rw[hp1]at hA;unfold Vu at hA;rw[←s2]at hA;have nl:(L.getD (if r%2=0 then r+1 else r-1) []).length=32:=by rw[s2];exact WP
  generalize (if r%2=0 then r+1 else r-1)=sb at *;refine Xx r12.seg (x:=bx (L.getD sb [])) (YAk _) (Iv s1) rfl fun l1 g1=>Jb g1 ?_;have hAl:A.length≤T.length:=by rw[←hA,YAR];omega
  refine JM (by rw[nl];omega) ⟨by decide,?_⟩
  have hdv:Jr ((r:Int).tdiv 2)=((r/2:Nat):Int):=by
   rw[Int.tdiv_eq_ediv_of_nonneg (by omega),JE (by omega) (by omega)];omega
  rw[hdv];refine⟨⟨i+1,r/2,_,rfl,rfl,rfl,by omega,s3,s4,?_⟩,by simp;omega⟩;rw[YAB];exact hA
 ·obtain rfl:i=hh:=by omega
  rw[Nat.sub_self]at ra rb hA;rw[Jd (show¬decide ((r:Int)>1)=true from dn (by omega))];unfold Vu at hA;rw[YAD]at hA;rw[hA];refine Jb f4 ?_;have hwn:Jr (k.next+1)=k.next+1:=JE (by omega) (by omega);show Go.Al.st .i ((Pl.mk b 0).fld 4) (Jr (k.next+1)) h13 _;rw[hwn];refine Qm (x':=IS { k with next:=k.next+1 }) e12 (by decide) rfl ?_;have e14:(h13.setIfInBounds b (Jg QM YF (IS { k with next:=k.next+1 })))[b]? = some (Jg QM YF (IS { k with next:=k.next+1 })):=Jw e12;have k14:Jc [b] h13 (h13.setIfInBounds b (Jg QM YF (IS { k with next:=k.next+1 }))):=Jo;have z1:=k1.1;have z2:=k2.1;have ne:b2≠b:=by omega
  have e14':=k14.get (k2_12.g eb2) (by simp[ne]);have k2_14:Jc [] h (h13.setIfInBounds b (Jg QM YF (IS { k with next:=k.next+1 }))):=(((k1.n k2).n k2_12).new k14 (by simp;omega));generalize h13.setIfInBounds b (Jg QM YF (IS { k with next:=k.next+1 }))=h14 at *;refine Jb (Je e14) ?_;refine JL e14' fun h15 k15 e15 hs15=>Jb (Je e15) ?_;exact hK h15 (k2_14.new k15 (by simp;omega))
def ZAm.s{k:Za}{msg:By}{h:Ja}{K:Ba→YF.Ty→Int→Hp} (hm:Yg k=true) (hn:k.next<2^(2*k.height.toNat)) (hl:msg.length≤65536)
 (hK:∀h',Jc [] h h'→K (bx (Q9 k msg)) (UQ { k with next:=k.next+1 }) 0 h'):ZAm.C (UQ k) (bx msg) h K:=by
 obtain⟨u1,u2,l1,l2⟩:=I9 hm hn;obtain⟨a1,a2,h16,h32,a3,a4,a5,_⟩:=PF hm;have hn':k.next<((2^(2*k.height.toNat):Nat):Int):=by push_cast;exact hn
 have pl:=YO l1;have s1:=(Ia (msg:=QJ k.low) u1 u2 (by rw[pl];decide)).2;have s2:=(Ia (msg:=msg) l1 l2 hl).2;have p1:=(Wi u1).choose_spec.2.2.2.2.2.2.2.2.2.2.2;have p2:=(Wi l1).choose_spec.2.2.2.2.2.2.2.2.2.2.2;have q1:k.up.height.toNat≤5:=by show k.height.toNat≤5;omega
 have q2:k.low.height.toNat≤5:=by show k.height.toNat≤5;omega
 have hS:Q9 k msg=be 1 4++Q1 k.up (QJ k.low)++QJ k.low++Q1 k.low msg:=Eq.refl _;rw[hS]at hK;apply ZAm.c;unfold ZAm.m;refine Ji fun b h1 hb k1 eb hs1 =>?_;refine Ji fun b2 h2 hb2 k2 eb2 hs2 =>?_;have eb:h2[b]? = some (Jg JI YF (UQ k)):=k2.g eb;have eb2:h2[b2]? = some (Jg JI YF (IS ⟨0,0,[],[],0⟩)):=eb2;refine Qd (fun _ h'=>Jc [] h2 h') ?_ ?_
 ·refine Qd (fun y h'=>y=(false,())∧Jc [] h2 h') ?_ ?_
  ·refine Jb (Je eb) ?_;refine ZBV.s fun h3 k3 =>?_;rw[hm,Jd (by simp)];refine⟨?_,k3⟩;rw[dF (show¬((bx msg).size:Int)>65536 by rw[Js];omega)]
  ·rintro _ h3 ⟨rfl,k3⟩;rw[Jd (by simp)];refine Jb (Je (k3.g eb)) ?_;refine ref1_LeftK.s hm fun h4 k4 =>?_;rw[Jd (show¬decide (((2^(2*k.height.toNat):Nat):Int)-k.next=0)=true from dn (by omega))];exact k3.n k4
 intro _ h3 k3;have e3:=k3.g eb;refine Jb (Je e3) ?_;refine ZDc.s hm fun h9 k9 =>?_;refine Jq fun b3 h11 hb3 k11 e11 hs11 =>?_;have e11:h11[b3]? = some (Jg QM YF (IS k.low)):=e11;refine Jb (Je e11) ?_;refine ZBN.s l1 fun h12 k12 =>?_;have k3_12:=(k9.n k11).n k12;have e12:=k3_12.g e3;refine Jb (Je e12) ?_;refine ZC9.s hm fun h13 k13 =>?_;refine ZBx.s u1 u2 (by rw[pl];decide) fun h14 k14 =>?_;refine Jq fun b4 h16' hb4 k16 e16 hs16 =>?_;have k11_16:Jc [] h11 h16':=((k12.n k13).n k14).n k16;refine Jb (Je (k11_16.g e11)) ?_;refine ZBx.s l1 l2 hl fun h17 k17 =>?_;refine Jq fun b5 h19 hb5 k19 e19 hs19 =>?_;have k2_19:Jc [] h2 h19:=((((k3.n k9).n k11).n k11_16).n k17).n k19;have e19':=k2_19.g eb;obtain⟨f0,f1,f2,f3,f4⟩:=VX e19';refine Jb f4 ?_;have hwn:Jr (k.next+1)=k.next+1:=JE (by omega) (by omega);show Go.Al.st .i ((Pl.mk b 0).fld 4) (Jr (k.next+1)) h19 _;rw[hwn];refine Qm (x':=UQ { k with next:=k.next+1 }) e19' (by decide) rfl ?_;have e20:(h19.setIfInBounds b (Jg JI YF (UQ { k with next:=k.next+1 })))[b]? = some (Jg JI YF (UQ { k with next:=k.next+1 })):=Jw e19';have k20:Jc [b] h19 (h19.setIfInBounds b (Jg JI YF (UQ { k with next:=k.next+1 }))):=Jo;have z1:=k1.1;have z2:=k2.1;have ne:b2≠b:=by omega
 have e20':=k20.get (k2_19.g eb2) (by simp[ne]);have k0_20:Jc [] h (h19.setIfInBounds b (Jg JI YF (UQ { k with next:=k.next+1 }))):=(((k1.n k2).n k2_19).new k20 (by simp;omega));generalize h19.setIfInBounds b (Jg JI YF (UQ { k with next:=k.next+1 }))=h20 at *;refine Jb (Je e20) ?_;refine ZAA.s (x:=1) (n:=4) (by decide) (by decide) (by decide) fun h21 k21=>⟨JN (by decide) (Je e20) k21,?_⟩;generalize Q1 k.up (QJ k.low)=SA at *;generalize Q1 k.low msg=SB at *;generalize QJ k.low=P at *;refine JM (by rw[Jj];omega) ?_;refine JM (by rw[YAR,Jj];omega) ?_;refine JM (by rw[YAR,YAR,Jj];omega) ?_;refine JL (k21.g e20') fun h22 k22 e22 hs22=>Jb (Je e22) ?_;exact hK h22 ((k0_20.n k21).new k22 (by simp;omega))
def ZCw.s{s:Jn}{xs:List Int}{h:Ja}{K:Bool→Hp} (g:Q5 .i s xs h) (hl:xs.length≤9223372036854775806) (hK:K (XW xs) h):ZCw.C s h K:=by
 apply ZCw.c;unfold ZCw.m;have gl:=g.len;refine JF (fun(y:Int×Unit) (h1:Ja)=>h1=h∧∃t:Nat,y.1=t∧t≤xs.length∧(xs.take t).all XT=true) (fun(y:Int×Unit) _=>xs.length-y.1.toNat) ?_ ?_
 ·exact⟨rfl,0,rfl,YAr _,by simp⟩
 rintro⟨(i:Int),_⟩ h1 ⟨rfl,t,e,ht,hall⟩;dsimp only at e ⊢;subst e;by_cases hlt:t<xs.length
 ·rw[Jf (show decide ((t:Int)<(s.len:Int))=true from dT (by omega))];have hxe:xs.take (t+1)=xs.take t++[xs[t]]:=YAi hlt;refine Qd (fun _ h'=>h'=h1∧XT xs[t]=true) ?_ ?_
  ·refine JH (!XT xs[t],()) h1 ?_ ?_
   ·refine JK g (x:=xs[t]) (by omega) (by simp[hlt]) rfl ?_;unfold XT;by_cases h0:xs[t]<0
    ·rw[Jf (dT h0)];exact⟨by rw[dF (show¬0≤xs[t] by omega)];rfl,rfl⟩
    ·rw[Jd (by simpa using h0),dT (show 0≤xs[t] by omega)];refine JK g (x:=xs[t]) (by omega) (by simp[hlt]) rfl ⟨?_,rfl⟩;by_cases h2:xs[t]>256
     ·rw[dT h2,dF (show¬xs[t]≤256 by omega)];rfl
     ·rw[dF h2,dT (show xs[t]≤256 by omega)];rfl
   ·by_cases hv:XT xs[t]=true
    ·rw[hv,Jd (by simp)];exact⟨rfl,rfl⟩
    ·replace hv:XT xs[t]=false:=by simpa using hv
     rw[hv,Jf (by rfl)]
     have:XW xs=false:=by
      unfold XW
      have:xs.all XT=false:=by
       rw[List.all_eq_false];exact⟨xs[t],YAQ _,by rw[hv];simp⟩
      rw[this];rfl
     rw[this]at hK;exact hK
  ·rintro _ h2 ⟨rfl,hv⟩;have hw:Jr ((t:Int)+1)=((t+1:Nat):Int):=w6 (by omega);rw[hw];exact⟨⟨rfl,t+1,rfl,by omega,by rw[hxe,List.all_append,hall];simp[hv]⟩,by simp;omega⟩
 ·rw[Jd (show¬decide ((t:Int)<(s.len:Int))=true from dn (by omega))];have:t=xs.length:=by omega
  rw[this,YAh (YAn _)]at hall;refine JH (XW xs,()) h1 ?_ hK;unfold XW;rw[hall,gl];by_cases h1':1≤xs.length
  ·rw[Jf (show decide ((xs.length:Int)≥1)=true from dT (by omega)),dT h1'];refine⟨?_,rfl⟩;have:decide ((xs.length:Int)≤16)=decide (xs.length≤16):=decide_eq_decide.2 (by omega);rw[this];rfl
  ·rw[Jd (show¬decide ((xs.length:Int)≥1)=true from dn (by omega)),dF h1'];exact⟨rfl,rfl⟩
def Tx{e:X6} (h:QG e=true):0≤e.user∧e.user<16∧1≤e.seq∧e.seq≤256∧(∀x∈e.vec,0≤x∧x≤256)∧1≤e.vec.length∧e.vec.length≤16∧1≤e.tables.length∧e.tables.length≤24:=by
 unfold QG XW at h;simp only[YAs,Qg,YAA]at h;obtain⟨a,b,c,d,⟨f,g,i⟩,j,k⟩:=h;refine⟨a,b,c,d,fun x hx =>?_,g,i,j,k⟩;have:=f x hx;unfold XT at this;simpa using this
def VU:∀ {l:List Int},(l.flatMap fun x=>be x.toNat 2).length=2*l.length
 | []=>rfl
 | a::r=>by rw[YAK,YAR,Jj,VU,YAS];omega
def WX:∀ {l:List Qh},(l.flatMap fun z=>z.toList).length=32*l.length
 | []=>rfl
 | a :: r => by
   rw[YAK,YAR,WX,YAS];simp;omega
def ZC2.s{v:JO.Ty}{e:X6}{h:Ja}{K:Ba→Int→Hp} (a:Ue h v e) (hl:e.vec.length≤9223372036854775806)
 (hK:∀h',Jc [] h h'→K (if QG e=true then bx (YZ e) else bx []) (if QG e=true then 0 else 1900) h'):ZC2.C v h K:=by
 apply ZC2.c;unfold ZC2.m;refine Ji fun b h1 hb k1 e1 hs1 =>?_;have e1:h1[b]? = some (Jg Jk JO v):=e1;have a1:=a.keep k1;obtain⟨f0,f1,f2,f3,f35,f36⟩:=ZH e1;have tl:=a1.t.len;refine Qd (fun y h'=>Jc [] h1 h'∧y=(!QG e,())) ?_ ?_
 ·rw[a.u]at f0;rw[a.q]at f1;unfold QG;refine Jb f0 ?_;by_cases c0:e.user<0
  ·rw[Jf (dT c0)];exact⟨Jc.rfl,by simp[show¬0≤e.user by omega]⟩
  rw[Jd (by simpa using c0)];refine Jb f0 ?_;by_cases c1:e.user≥16
  ·rw[Jf (dT c1)];exact⟨Jc.rfl,by simp[show¬e.user<16 by omega]⟩
  rw[Jd (by simpa using c1)];refine Jb f1 ?_;by_cases c2:e.seq<1
  ·rw[Jf (dT c2)];exact⟨Jc.rfl,by simp[show¬1≤e.seq by omega]⟩
  rw[Jd (by simpa using c2)];refine Jb f1 ?_;by_cases c3:e.seq>256
  ·rw[Jf (dT c3)];exact⟨Jc.rfl,by simp[show¬e.seq≤256 by omega]⟩
  rw[Jd (by simpa using c3)];refine Jb f2 ?_;refine ZCw.s a1.w hl ?_
  cases hv:XW e.vec with
  | false=>rw[Jf (by rfl)];exact⟨Jc.rfl,by simp⟩
  | true =>
    rw[Jd (by simp)];refine Jb f35 ?_;rw[tl];by_cases c4:e.tables.length<1
    ·rw[Jf (dT (by omega))];exact⟨Jc.rfl,by simp[show¬1≤e.tables.length by omega]⟩
    rw[Jd (by simp;omega)];refine Jb f35 ⟨Jc.rfl,?_⟩;rw[tl];by_cases c5:e.tables.length≤24
    ·rw[dF (show¬((e.tables.length:Int)>24) by omega)];simp[c5,show 0≤e.user by omega,show e.user<16 by omega,show 1≤e.seq by omega,show e.seq≤256 by omega,show 1≤e.tables.length by omega]
    ·rw[dT (show((e.tables.length:Int)>24) by omega)];simp[c5]
 rintro _ h2 ⟨k2,rfl⟩;dsimp only
 cases hm:QG e with
 | false =>
   rw[Jf (by rfl)];rw[hm]at hK;exact hK h2 (k1.n k2)
 | true =>
   rw[Jd (by simp)];rw[hm]at hK;obtain⟨u0,u1,q0,q1,vx,v1,v16,t1,t24⟩:=Tx hm;obtain⟨f0,f1,f2,f3,f35,f36⟩:=ZH (k2.g e1);refine Jb f0 (Jb f1 (Jb f2 ?_));have hun:((e.user.toNat:Nat):Int)=e.user:=YAm u0;have hqn:((e.seq.toNat:Nat):Int)=e.seq:=YAm (by omega);rw[a.u,a.q] ;have hK':=fun h' k=>hK h' k;simp only[if_true]at hK';unfold YZ at hK';rw[←hun];refine ZAA.s (n:=1) (by decide) (by decide) (by omega) fun h4 k4=>⟨JN (by decide) f2 k4,by rw[←a.q];exact JN (by decide) f1 k4,?_⟩;show JS (bx [65,69]) _ _;refine JM (by rw[Jj];decide) ?_;rw[←hqn];refine ZAA.s (n:=2) (by decide) (by decide) (by omega) fun h5 k5=>⟨JN (by decide) f2 (k4.n k5),?_⟩;refine JM (by simp[Jj]) ?_;rw[a.w.len];refine ZAA.s (n:=1) (by decide) (by decide) (by omega) fun h6 k6 =>?_;refine JM (by simp[Jj]) ?_;have k16:Jc [] h1 h6:=((k2.n k4).n k5).n k6;rw[hun,hqn]at *;generalize hP:[65,69]++be e.user.toNat 1++be e.seq.toNat 2++be e.vec.length 1=P at *;have hPl:P.length=6:=by rw[←hP];simp[Jj]
   have wl:=a.w.len;refine JF (fun(y:Ba×Int×Unit) (h7:Ja)=>∃t:Nat,y.2.1=t∧t≤e.vec.length∧Jc [] h1 h7∧y.1=bx (P++(e.vec.take t).flatMap fun x=>be x.toNat 2)) (fun(y:Ba×Int×Unit) _=>e.vec.length-y.2.1.toNat) ?_ ?_
   ·exact⟨0,rfl,YAr _,k16,by simp⟩
   rintro⟨(ac:Ba),(ii:Int),_⟩ h7 ⟨t,et,ht,k7,ea⟩;dsimp only at et ea ⊢;subst et;subst ea;obtain⟨f0,f1,f2,f3,f35,f36⟩:=ZH (k7.g e1);refine Jb f2 ?_;have hfl:(((e.vec.take t).flatMap fun x=>be x.toNat 2)).length≤32:=by rw[VU,YAX];omega
   by_cases hlt:t<e.vec.length
   ·rw[Jf (show decide ((t:Int)<(v.2.2.1.len:Int))=true from dT (by omega))];refine Jb f2 ?_;refine JK (a1.keep k7).w (x:=e.vec[t]) (by omega) (by simp[hlt]) rfl ?_;have hx:=vx _ (YAQ hlt);have hxe:e.vec.take (t+1)=e.vec.take t++[e.vec[t]]:=YAi hlt;generalize e.vec[t]=x at *;have hxn:((x.toNat:Nat):Int)=x:=YAm hx.1;rw[←hxn];refine ZAA.s (n:=2) (by decide) (by decide) (by omega) fun h8 k8 =>?_;refine JM (by rw[YAR,Jj];omega) ?_;have hw:Jr ((t:Int)+1)=((t+1:Nat):Int):=w6 (by omega);rw[hw];refine⟨⟨t+1,rfl,by omega,k7.n k8,?_⟩,by simp;omega⟩;rw[hxe,YAJ,←YAB];simp
   ·rw[Jd (show¬decide ((t:Int)<(v.2.2.1.len:Int))=true from dn (by omega))];obtain rfl:t=e.vec.length:=by omega
    rw[YAg]at *;refine Jb f3 (Jb f35 ?_);rw[a.r];refine ZAZ.s fun h9 k9=>⟨JN (by decide) f35 k9,?_⟩;have rl:(Vector.toList e.root).length=32:=by simp
    refine JM (by rw[YAR,rl];omega) ?_;rw[tl];refine ZAA.s (n:=1) (by decide) (by decide) (by omega) fun h10 k10 =>?_;refine JM (by rw[YAR,YAR,rl,Jj];omega) ?_;have k1_10:=(k7.n k9).n k10;generalize hQ:(P++e.vec.flatMap fun x=>be x.toNat 2)++Vector.toList e.root++be e.tables.length 1=Q at *;have hQl:Q.length≤100:=by rw[←hQ];simp only[YAR,rl,Jj];omega
    refine JF (fun(y:Ba×Int×Unit) (h11:Ja)=>∃t:Nat,y.2.1=t∧t≤e.tables.length∧Jc [] h1 h11∧y.1=bx (Q++(e.tables.take t).flatMap fun z=>z.toList)) (fun(y:Ba×Int×Unit) _=>e.tables.length-y.2.1.toNat) ?_ ?_
    ·exact⟨0,rfl,YAr _,k1_10,by simp⟩
    rintro⟨(ac:Ba),(ii:Int),_⟩ h11 ⟨t,et,ht,k11,ea⟩;dsimp only at et ea ⊢;subst et;subst ea;obtain⟨f0,f1,f2,f3,f35,f36⟩:=ZH (k11.g e1);refine Jb f35 ?_;have hfl2:(((e.tables.take t).flatMap fun z=>z.toList)).length≤768:=by rw[WX,YAX];omega
    by_cases hlt:t<e.tables.length
    ·rw[Jf (show decide ((t:Int)<(v.2.2.2.2.1.len:Int))=true from dT (by omega))];refine Jb f35 ?_;refine JK (a1.keep k11).t (x:=e.tables[t]) (by omega) (by simp[hlt]) rfl ?_;have hxe:e.tables.take (t+1)=e.tables.take t++[e.tables[t]]:=YAi hlt;generalize e.tables[t]=x at *;refine ZAZ.s fun h12 k12 =>?_;have xl:(Vector.toList x).length=32:=by simp
     refine JM (by rw[YAR,xl];omega) ?_;have hw:Jr ((t:Int)+1)=((t+1:Nat):Int):=w6 (by omega);rw[hw];refine⟨⟨t+1,rfl,by omega,k11.n k12,?_⟩,by simp;omega⟩;rw[hxe,YAJ,←YAB];simp
    ·rw[Jd (show¬decide ((t:Int)<(v.2.2.2.2.1.len:Int))=true from dn (by omega))];obtain rfl:t=e.tables.length:=by omega
     rw[YAg]at *;exact hK' h11 (k1.n k11)
def Gb(C:Cn) (u:Int) (n:Nat):Bool:=decide (0≤u)&&(decide (u<C.m.users)&&(decide ((n:Int)=Qx C.m)&&decide (C.all.length<256)))
def Xi(C:Cn) (u:Int) (T:List Qh):X6:=⟨u,(C.all.length:Int)+1,Q6 C u,XD (C.all.map putE),T,[]⟩
def Ik:JO.Ty:=(0,(0,((⟨none,0,0⟩:Jn),(Vector.replicate 32 0,((⟨none,0,0⟩:Jn),((⟨#[]⟩:Ba),()))))))
section
variable {n0 c t:Nat}{h:Ja}{mv:XU.Ty}{ps bs es:Jn}{J0:List JO.Ty}{C:Cn}
end
def ZD6.s{h:Ja}{K:Option Pl→Hp} (hK:∀h',Jc [] h h'→Uh h.size h' h.size []→K (some ⟨h.size,0⟩) h'):ZD6.C h K:=by
 apply ZD6.c;unfold ZD6.m;refine XN ?_;exact hK _ Ju ⟨⟨⟨none,0,0⟩,[],JA,.inl ⟨rfl,rfl⟩,rfl,by simp[own]⟩,YAn _⟩
structure DJ where
 m:Mb
 pubs:List By
def Ya(k:DJ):Bool:=QU k.m&&(decide ((k.pubs.length:Int)=k.m.users)&&k.pubs.all fun s=>decide (s.length=60))
structure IU (h:Ja) (v:Yf.Ty) (k:DJ):Prop where
 m:UN h v.1 k.m
 p:Q5 .s v.2.1 (k.pubs.map bx) h
def UN.keepU{h h':Ja}{v:XU.Ty}{m:Mb} (a:UN h v m) (k:Jc [] h h'):UN h' v m:=by
 obtain⟨u,gs,g,al⟩:=a;exact⟨u,gs,g.keep (by decide) k,Qq.mono (fun s us x=>⟨x.1.keep (by decide) k,x.2⟩) al⟩
def IU.keep{h h':Ja}{v:Yf.Ty}{y:DJ} (a:IU h v y) (k:Jc [] h h'):IU h' v y:=⟨a.m.keepU k,a.p.keep (by decide) k⟩
def keys_contains.s{s:Jn}{L:List By}{h:Ja}{K:Bool→Hp} (g:Q5 .s s (L.map bx) h) (hl:L.length≤9223372036854775806) (hK:K (!(L.all fun s=>decide (s.length=60))) h):ZAP.C s (.func (.func ZBZ.n) #[] #[]) h K:=by
 apply ZAP.c;unfold ZAP.m;apply ZAa.c;unfold ZAa.m;have gl:=g.len;rw[YAU]at gl;refine JF (fun(y:Int×Unit) (h1:Ja)=>h1=h∧∃t:Nat,y.1=t∧t≤L.length∧(L.take t).all (fun s=>decide (s.length=60))=true) (fun(y:Int×Unit) _=>L.length-y.1.toNat) ?_ ?_
 ·exact⟨rfl,0,rfl,YAr _,by simp⟩
 rintro⟨(i:Int),_⟩ h1 ⟨rfl,t,e,ht,hall⟩;dsimp only at e ⊢;subst e;by_cases hlt:t<L.length
 ·rw[Jf (show decide ((t:Int)<(s.len:Int))=true from dT (by omega))];refine JK g (x:=bx L[t]) (by omega) (by rw[YAl,YAO,YAN hlt];rfl) rfl ?_;refine Qr (aa:=[Kd.s.val (bx L[t])]) (by rfl) ?_;show ZBZ.C (bx L[t]) h1 _;apply ZBZ.c;unfold ZBZ.m;rw[Js];dsimp only;by_cases h60:L[t].length=60
  ·rw[Jd (by rw[h60];decide)];have hw:Jr ((t:Int)+1)=((t+1:Nat):Int):=w6 (by omega);rw[hw];refine⟨⟨rfl,t+1,rfl,by omega,?_⟩,by simp;omega⟩;rw[YAi hlt,List.all_append,hall];simp[h60]
  ·rw[Jf (by simp;omega)]
   have:L.all (fun s=>decide (s.length=60))=false:=by
    rw[List.all_eq_false];exact⟨L[t],YAQ _,by simpa using h60⟩
   rw[this]at hK;rw[dT (show(t:Int)≥0 by omega)];exact hK
 ·rw[Jd (show¬decide ((t:Int)<(s.len:Int))=true from dn (by omega))];have:t=L.length:=by omega
  rw[this,YAh (YAn _)]at hall;rw[hall]at hK;exact hK
def U8{h:Ja}{b:Nat}{v:Yf.Ty} (e:h[b]? = some (Jg JP Yf v)):sm XU ((Pl.mk b 0).fld 0) v.1 h∧sm .sl ((Pl.mk b 0).fld 2) v.2.1 h∧sm .i (((Pl.mk b 0).fld 0).fld 0) v.1.1 h:=
 ⟨JV (Je e) (by decide) rfl,Jv (n:=2) (k' := .sl) e rfl (by decide),Jv (n:=0) (k' := .i) e rfl (by decide)⟩
def ZCa.s{v:Yf.Ty}{k:DJ}{h:Ja}{K:Bool→Hp} (a:IU h v k) (hl:k.pubs.length≤9223372036854775806) (hK:∀h',Jc [] h h'→K (Ya k) h'):ZCa.C v h K:=by
 apply ZCa.c;unfold ZCa.m;have pl:=a.p.len;rw[YAU]at pl;unfold Ya at hK;refine Ji fun b1 h1 hb1 k1 e1 hs1 =>?_;have e1:h1[b1]? = some (Jg JP Yf v):=e1;refine Qd (fun y h'=>Jc [] h1 h'∧y=(!(QU k.m&&decide ((k.pubs.length:Int)=k.m.users)),())) ?_ ?_
 ·refine Jb (U8 e1).1 ?_;refine ZCe.s (a.m.keepU k1) fun h3 k3 =>?_
  cases hm:QU k.m with
  | false=>rw[Jf (by rfl)];exact⟨k3,rfl⟩
  | true =>
    rw[Jd (by simp)];have e3:=k3.g e1;refine Jb (U8 e3).2.1 (Jb (U8 e3).2.2 ⟨k3,?_⟩);rw[pl,a.m.u,YAt]
 rintro _ h2 ⟨k2,rfl⟩
 cases hc:(QU k.m&&decide ((k.pubs.length:Int)=k.m.users)) with
 | false =>
   rw[Jf (by rfl)];have:=hK h2 (k1.n k2);rw[←Bool.and_assoc,hc]at this;exact this
 | true =>
   rw[Jd (by simp)];refine Jb (U8 (k2.g e1)).2.1 ?_;refine keys_contains.s (a.keep (k1.n k2)).p hl ?_;have:=hK h2 (k1.n k2);rw[←Bool.and_assoc,hc,YAt]at this;rw[Bool.not_not];exact this
def qA{xs ys:List Gq} (hx:XB xs=true) (hy:XB ys=true) (h:bx (XA xs)=bx (XA ys)):xs=ys:=by
 have h:=wJ.1 h;obtain⟨h1,hl1⟩:=Gy hx;obtain⟨h2,hl2⟩:=Gy hy
 have hn':xs.length=ys.length:=by
  have:=congrArg List.length h;unfold XA at this;simp only[YAR,Jj,Iw]at this;omega
 have hf:xs.flatMap Xn=ys.flatMap Xn:=by
  have:=congrArg (List.drop 2) h;unfold XA at this;rw[YAG (by simp[Jj]),YAG (by simp[Jj])]at this;exact this
 have a:=TZ xs [] [] h1;have b:=TZ ys [] [] h2;rw[hf,hn',b]at a;have:=congrArg Prod.fst a;simp only[List.nil_append]at this;have:=congrArg (List.map Qv) this;rw[TN,TN]at this;exact this.symm
open Classical in
noncomputable def getD (s:Ba):List UI×Int:=if h:∃es,QS es=true∧s=bx (JW es) then(h.choose,0) else([],1300)
open Classical in
noncomputable def getI (s:Ba):List Gq×Int:=if h:∃xs,XB xs=true∧s=bx (XA xs) then(h.choose,0) else([],1400)
def qr{es:List UI} (h:QS es=true):getD (bx (JW es))=(es,0):=by
 have hx:∃es',QS es'=true∧bx (JW es)=bx (JW es'):=⟨es,h,rfl⟩;unfold getD;rw[dif_pos hx];obtain⟨h1,h2⟩:=hx.choose_spec;exact congrArg (fun z=>(z,(0:Int))) (zk h1 h h2.symm)
def qs{xs:List Gq} (h:XB xs=true):getI (bx (XA xs))=(xs,0):=by
 have hx:∃es',XB es'=true∧bx (XA xs)=bx (XA es'):=⟨xs,h,rfl⟩;unfold getI;rw[dif_pos hx];obtain⟨h1,h2⟩:=hx.choose_spec;exact congrArg (fun z=>(z,(0:Int))) (qA h1 h h2.symm)
noncomputable def VK (Kf:Kn) (L:Vg) (x:YI):List Gq×Vg:=
 match Kf x with
 | none=>([],⟨Xt L.want x,L.bad⟩)
 | some s=>((getI s).1,⟨L.want,L.bad||decide ((getI s).2≠0)⟩)
noncomputable def yo (Kf:Kn) (L:Vg) (x:Gq):Nd×Vg:=
 if x.kind=1 then
  match Kf x.root with
  | none=>(⟨x.num,x.kind,x.mode,x.links,⟨#[]⟩,[]⟩,⟨Xt L.want x.root,L.bad⟩)
  | some s=>(⟨x.num,x.kind,x.mode,x.links,⟨#[]⟩,(getD s).1⟩,⟨L.want,L.bad||decide ((getD s).2≠0)⟩)
 else(⟨x.num,x.kind,x.mode,x.links,(Te Kf x.root x.size).1,[]⟩,⟨JD L.want (Te Kf x.root x.size).2.1,L.bad||decide ((Te Kf x.root x.size).2.2=1200)⟩)
noncomputable def Vz (Kf:Kn):Vg→List YI→List (List Gq)×Vg
 | L,[]=>([],L)
 | L,x::r=>((VK Kf L x).1::(Vz Kf (VK Kf L x).2 r).1,(Vz Kf (VK Kf L x).2 r).2)
noncomputable def IG (Kf:Kn):Vg→List Gq→IX×Vg
 | L,[]=>([],L)
 | L,x::r=>((yo Kf L x).1::(IG Kf (yo Kf L x).2 r).1,(IG Kf (yo Kf L x).2 r).2)
noncomputable def ME (Kf:Kn):Vg→List (List Gq)→Fs×Vg
 | L,[]=>([],L)
 | L,x::r=>((IG Kf L x).1::(ME Kf (IG Kf L x).2 r).1,(ME Kf (IG Kf L x).2 r).2)
def T8{Kf:Kn}{L:Vg}{x:YI}{r:List YI}:Vz Kf L (x::r)=((VK Kf L x).1::(Vz Kf (VK Kf L x).2 r).1,(Vz Kf (VK Kf L x).2 r).2):=rfl
def jq{Kf:Kn}{L:Vg}{x:Gq}{r:List Gq}:IG Kf L (x::r)=((yo Kf L x).1::(IG Kf (yo Kf L x).2 r).1,(IG Kf (yo Kf L x).2 r).2):=rfl
def Dv{Kf:Kn}{L:Vg}{x:List Gq}{r:List (List Gq)}:ME Kf L (x::r)=((IG Kf L x).1::(ME Kf (IG Kf L x).2 r).1,(ME Kf (IG Kf L x).2 r).2):=rfl
noncomputable def D5 (Kf:Kn) (hs:List YI):Fs×List YI×Int:=
 if hs.length<1∨24<hs.length then([],[],1500) else
 let a:=Vz Kf ⟨[],false⟩ hs
 if a.2.err 1500 1501≠0 then([],a.2.wants,a.2.err 1500 1501) else
 let b:=ME Kf a.2 a.1
 if b.2.err 1500 1501≠0 then([],b.2.wants,b.2.err 1500 1501) else
 if XQ b.1=true then(b.1,[],0) else([],[],1500)
def Xe(K:Kn) (l:List YI):List YI:=l.filter fun h=>(K h).isNone
def IB{K:Kn}:Xe K []=[]:=rfl
def ZM{K:Kn}{x:YI}{r:List YI} (h:K x=none):Xe K (x::r)=x::Xe K r:=by unfold Xe;rw[List.filter_cons,h];rfl
def ZN{K:Kn}{x:YI}{r:List YI}{d:Ba} (h:K x=some d):Xe K (x::r)=Xe K r:=by unfold Xe;rw[List.filter_cons,h];rfl
def Wj{K:Kn}{l:List YI}{x:YI}:x∈Xe K l↔x∈l∧K x=none:=by
 unfold Xe;rw[List.mem_filter,Option.isNone_iff_eq_none]
def Ut{α : Type} [DecidableEq α]{L xs:List α}{x : α}:JD L (x::xs)=JD (Xt L x) xs:=rfl
def VZ{α : Type} [DecidableEq α]{L xs:List α}:JD L xs=[]↔L=[]∧xs=[]:=by
 constructor
 ·intro h
  constructor
  ·rw[YAI];intro a ha;have:a∈JD L xs:=Yh.2 (.inl ha);rw[h]at this;simp at this
  ·rw[YAI];intro a ha;have:a∈JD L xs:=Yh.2 (.inr ha);rw[h]at this;simp at this
 ·rintro⟨rfl,rfl⟩;rfl
def Di{α : Type} [DecidableEq α]{L M:List α}{x : α}:JD L (Xt M x)=Xt (JD L M) x:=by
 by_cases h:x∈M
 ·have e:Xt M x=M:=by unfold Xt;rw[Jf h]
  have e2:Xt (JD L M) x=JD L M:=by unfold Xt;rw[Jf (Yh.2 (.inr h))]
  rw[e,e2]
 ·have e:Xt M x=M++[x]:=by unfold Xt;rw[Jd h]
  rw[e,Q2,WQ]
def MA{α : Type} [DecidableEq α]:∀ {W L M:List α},JD L (JD M W)=JD (JD L M) W
 | [],L,M=>rfl
 | x :: r, L, M => by
   rw[Ut,Ut,MA (W:=r),Di]
def S9{α : Type} [DecidableEq α]{W L:List α}:JD L (JD [] W)=JD L W:=by rw[MA];rfl
def Sj(K:Kn) (o:Ba):Prop:=K (Jy o)=some o∨K (Jy o)=none
def RK:∀ {hs:List YI},qx (hs.flatMap (·.toList))=hs
 | []=>rfl
 | h :: r => by
   have ih:=RK (hs:=r);have hl:h.toList.length=32:=by simp
   unfold qx at ih ⊢;rw[YAK,YAR,hl];have e:(32+(r.flatMap (·.toList)).length)/32=(r.flatMap (·.toList)).length/32+1:=by omega
   rw[e,List.range_succ_eq_map,YAZ,List.map_map]
   congr 1
   ·rw[Nat.zero_mul,YAH,List.take_left' hl,RL]
   ·refine Eq.trans ?_ ih;apply List.map_congr_left;intro i hi;show hv (((h.toList++r.flatMap (·.toList)).drop ((i+1)*32)).take 32)=_;have:(i+1)*32=h.toList.length+i*32:=by rw[hl];omega
    rw[this,←YAE,YAG rfl]
def S5{c:UInt8}{hs:List YI}:qz c hs.length (Xu c hs)=true∧qx ((Xu c hs).data.toList.drop 2)=hs:=by
 unfold qz;rw[YAs,Qg,Qg,Zt];unfold Xu;rw[WV];refine⟨⟨by omega,rfl⟩,?_⟩;show qx (hs.flatMap (·.toList))=hs;exact RK
def S4{K:Kn}{c:UInt8}{L:Vg}{hs:List YI}{n:Nat} (hn:n=hs.length) (hr:Sj K (Xu c hs)):Uq K c L (Jy (Xu c hs)) n=match K (Jy (Xu c hs)) with | none=>([],⟨Xt L.want (Jy (Xu c hs)),L.bad⟩) | some _=>(hs,L):=by
 subst hn;unfold Uq;rcases hr with h | h
 ·rw[h];dsimp only;rw[Jf S5.1,S5.2]
 ·rw[h]
def Mc{K:Kn}{N:Nat}{B:List YI} (hN:B.length=N) (hr:∀c∈Ql 8 B,Sj K (Xu 73 c)):∀(m i:Nat) (L:Vg),i+m=(Ql 8 B).length →
 (Vr K N L i (((Ql 8 B).drop i).map fun c=>Jy (Xu 73 c))).2=⟨JD L.want (Xe K (((Ql 8 B).drop i).map fun c=>Jy (Xu 73 c))),L.bad⟩ ∧
 (Xe K (((Ql 8 B).drop i).map fun c=>Jy (Xu 73 c))=[]→(Vr K N L i (((Ql 8 B).drop i).map fun c=>Jy (Xu 73 c))).1=B.drop (i*8))
 | 0, i, L, hi => by
   have hcl:=XX (n:=8) (xs:=B);rw[YAF (by omega)];refine⟨rfl,fun _ =>?_⟩;rw[YAF (by omega)]
   rfl
 | m + 1, i, L, hi => by
   have hcl:=XX (n:=8) (xs:=B);have hlt:i<(Ql 8 B).length:=by omega
   have hB:=Nat.div_mul_le_self (B.length+8-1) 8;rw[List.drop_eq_getElem_cons hlt,YAZ,TF];have hc:=hr _ (YAQ hlt);have hca:(Ql 8 B)[i]=(B.drop (i*8)).take 8:=WW hlt;have hcn:min 8 (N-i*8)=((Ql 8 B)[i]).length:=by rw[hca,YAX,YAT,hN]
   rw[S4 hcn hc]
   cases hk:K (Jy (Xu 73 (Ql 8 B)[i])) with
   | none =>
     dsimp only;obtain⟨h1,h2⟩:=Mc hN hr m (i+1) ⟨Xt L.want (Jy (Xu 73 (Ql 8 B)[i])),L.bad⟩ (by omega);rw[ZM hk,h1,Ut];exact⟨rfl,fun h=>by simp at h⟩
   | some d =>
     dsimp only;obtain⟨h1,h2⟩:=Mc hN hr m (i+1) L (by omega);rw[ZN hk,h1];refine⟨rfl,fun h =>?_⟩;rw[h2 h,hca];have:B.drop ((i+1)*8)=(B.drop (i*8)).drop 8:=by rw[YAE,Nat.add_mul,Nat.one_mul]
     rw[this,List.take_append_drop]
def D3{c:List UInt8}:TH c.length (Y0 c)=true∧(Y0 c).data.toList.drop 1=c:=by
 unfold TH;rw[YAs,Qg,Qg,Un];unfold Y0;rw[WV];exact⟨⟨rfl,rfl⟩,rfl⟩
def Md{K:Kn}{D:List UInt8} (hr:∀c∈Ql 64 D,Sj K (Y0 c)):∀(m i:Nat) (L:Vg),i+m=(Ql 64 D).length →
 (Zk K D.length L i (((Ql 64 D).drop i).map fun c=>Jy (Y0 c))).2=⟨JD L.want (Xe K (((Ql 64 D).drop i).map fun c=>Jy (Y0 c))),L.bad⟩ ∧
 (Xe K (((Ql 64 D).drop i).map fun c=>Jy (Y0 c))=[]→(Zk K D.length L i (((Ql 64 D).drop i).map fun c=>Jy (Y0 c))).1=D.drop (i*64))
 | 0, i, L, hi => by
   have hcl:=XX (n:=64) (xs:=D);rw[YAF (by omega)];refine⟨rfl,fun _ =>?_⟩;rw[YAF (by omega)]
   rfl
 | m + 1, i, L, hi => by
   have hcl:=XX (n:=64) (xs:=D);have hlt:i<(Ql 64 D).length:=by omega
   have hB:=Nat.div_mul_le_self (D.length+64-1) 64;rw[List.drop_eq_getElem_cons hlt,YAZ,TK];have hc:=hr _ (YAQ hlt);have hca:(Ql 64 D)[i]=(D.drop (i*64)).take 64:=WW hlt;have hcn:min 64 (D.length-i*64)=((Ql 64 D)[i]).length:=by rw[hca,YAX,YAT]
   rw[hcn]
   cases hk:K (Jy (Y0 (Ql 64 D)[i])) with
   | none =>
     dsimp only;obtain⟨h1,h2⟩:=Md hr m (i+1) ⟨Xt L.want (Jy (Y0 (Ql 64 D)[i])),L.bad⟩ (by omega);rw[ZM hk,h1,Ut];exact⟨rfl,fun h=>by simp at h⟩
   | some d =>
     have hd:d=Y0 (Ql 64 D)[i]:=by
      rcases hc with h | h
      ·rw[h]at hk;exact(Option.some.inj hk).symm
      ·rw[h]at hk;simp at hk
     subst hd;dsimp only;rw[Jf D3.1,D3.2];obtain⟨h1,h2⟩:=Md hr m (i+1) L (by omega);rw[ZN hk];dsimp only;rw[h1];refine⟨rfl,fun h =>?_⟩;rw[h2 h,hca];have:D.drop ((i+1)*64)=(D.drop (i*64)).drop 64:=by rw[YAE,Nat.add_mul,Nat.one_mul]
     rw[this,List.take_append_drop]
def Vd(K:Kn) (d:Ba):List YI:=
 match K (Jy (Xp d)) with
 | none=>[Jy (Xp d)]
 | some _=>if Xe K ((Xo d).map Jy)≠[] then Xe K ((Xo d).map Jy) else Xe K ((Qn d).map Jy)
def jA{K:Kn}{D:List UInt8}{bh ih:List YI} (hD:D.length≤4096) (hbh:((Ql 64 D).map fun c=>Jy (Y0 c))=bh) (hih:((Ql 8 bh).map fun c=>Jy (Xu 73 c))=ih)
 (hB:∀c∈Ql 64 D,Sj K (Y0 c)) (hI:∀c∈Ql 8 bh,Sj K (Xu 73 c)) (hR:Sj K (Xu 82 ih)) (W:List YI)
 (hW:W=match K (Jy (Xu 82 ih)) with | none=>[Jy (Xu 82 ih)] | some _=>if Xe K ih≠[] then Xe K ih else Xe K bh) :
 Te K (Jy (Xu 82 ih)) D.length=if W=[] then(bx D,[],0) else(⟨#[]⟩,JD [] W,1201):=by
 have lB:bh.length=(D.length+63)/64:=by rw[←hbh,YAU,XX];rfl
 have lI:ih.length=(bh.length+7)/8:=by rw[←hih,YAU,XX];rfl
 unfold Te;rw[Jd (by omega)];simp only[YAl];rw[←lB,←lI];have n1:=S4 (K:=K) (c:=82) (L:=⟨[],false⟩) (hs:=ih) rfl hR;rw[n1]
 cases hk:K (Jy (Xu 82 ih)) with
 | none =>
   rw[hk]at hW;dsimp only at hW ⊢;subst hW;rw[Jd (List.cons_ne_nil _ _)]
   rfl
 | some r =>
   rw[hk]at hW;dsimp only at hW ⊢;have e0:(Vg.mk [] false).err 1200 1201=0:=rfl;rw[Jd (by rw[e0];simp)];obtain⟨i1,i2⟩:=Mc (K:=K) (B:=bh) rfl hI (Ql 8 bh).length 0 ⟨[],false⟩ (Nat.zero_add _);rw[YAH,hih]at i1 i2;rw[i1];by_cases hm:Xe K ih=[]
   ·have e1:(Vg.mk (JD [] (Xe K ih)) false).err 1200 1201=0:=by rw[hm];rfl
    rw[Jd (by rw[e1];simp),i2 hm,Nat.zero_mul,YAH,hm];obtain⟨b1,b2⟩:=Md hB (Ql 64 D).length 0 ⟨JD [] [],false⟩ (Nat.zero_add _);rw[YAH,hbh]at b1 b2;rw[b1];rw[Jd (by simp[hm])]at hW;subst hW;by_cases hm2:Xe K bh=[]
    ·rw[Jf hm2];have e2:(Vg.mk (JD (JD [] []) (Xe K bh)) false).err 1200 1201=0:=by rw[hm2];rfl
     rw[Jd (by rw[e2];simp),b2 hm2,Nat.zero_mul,YAH]
    ·rw[Jd hm2];have hne:JD (JD [] []) (Xe K bh)≠[]:=fun h=>hm2 (VZ.1 h).2
     have e2:(Vg.mk (JD (JD [] []) (Xe K bh)) false).err 1200 1201=1201:=by
      unfold Vg.err;simp[hne]
     rw[Jf (by rw[e2];simp),e2]
     rfl
   ·have hne:JD [] (Xe K ih)≠[]:=fun h=>hm (VZ.1 h).2
    have e1:(Vg.mk (JD [] (Xe K ih)) false).err 1200 1201=1201:=by
     unfold Vg.err;simp[hne]
    rw[Jf hm]at hW;subst hW;rw[Jf (by rw[e1];simp),Jd hm,e1]
    rfl
def yd{K:Kn}{d:Ba} (hd:d.size≤4096) (hr:∀o∈Qn d++Xo d++[Xp d],Sj K o) :
 Te K (Jy (Xp d)) d.size=if Vd K d=[] then(d,[],0) else(⟨#[]⟩,JD [] (Vd K d),1201):=by
 have hR:=hr (Xp d) (by simp)
 have hI:∀c∈Ql 8 ((Qn d).map Jy),Sj K (Xu 73 c):=fun c hc=>hr _ (by
  simp only[YAb]
  left;right
  unfold Xo;exact YAc hc)
 have hB:∀c∈Ql 64 d.data.toList,Sj K (Y0 c):=fun c hc=>hr _ (by
  simp only[YAb]
  left;left
  unfold Qn;exact YAc hc)
 have:=jA (K:=K) (D:=d.data.toList) (bh:=(Qn d).map Jy) (ih:=(Xo d).map Jy) hd (by unfold Qn;rw[List.map_map];exact Eq.refl _) (by unfold Xo;rw[List.map_map];exact Eq.refl _) hB hI hR (Vd K d) (by unfold Vd;exact Eq.refl _);rw[Vm]at this;exact this
def Sg(K:Kn) (x:Nd):List YI:=if x.kind=1 then Xe K [Z5 x] else Vd K x.data
def WD(x:Nd):List Ba:=if x.kind=1 then [bx (JW x.ents)] else Qn x.data++Xo x.data++[Xp x.data]
def MM(X:Fs):List Ba:=X.flatMap fun t=>t.flatMap WD++[JY t]
def vh{K:Kn}{L:Vg}{x:Nd} (hx:XF x=true) (hr:∀o∈WD x,Sj K o):(yo K L (QX x)).2=⟨JD L.want (Sg K x),L.bad⟩∧(Sg K x=[]→(yo K L (QX x)).1=x):=by
 obtain⟨_,_,hk0,_,_,_,h1,h2⟩:=PS hx;unfold yo Sg;by_cases hk:x.kind=1
 ·have hk':(QX x).kind=1:=hk
  have hro:(QX x).root=Jy (bx (JW x.ents)):=by
   show Z5 x=_;unfold Z5;rw[Jf hk]
  have hro2:Z5 x=Jy (bx (JW x.ents)):=hro;obtain⟨hd,he⟩:=h1 hk;rw[Jf hk',Jf hk,hro,hro2];have hr1:=hr (bx (JW x.ents)) (by unfold WD;rw[Jf hk];simp);rcases hr1 with h | h
  ·rw[h,ZN h,IB];dsimp only;rw[qr he];refine⟨by simp[Z6],fun _ =>?_⟩;obtain⟨n,k,m,l,dd,es⟩:=x;dsimp only at hd;subst hd
   rfl
  ·rw[h,ZM h,IB];exact⟨rfl,fun h=>by simp at h⟩
 ·have hk':¬(QX x).kind=1:=hk
  have hro:(QX x).root=Jy (Xp x.data):=by
   show Z5 x=_;unfold Z5;rw[Jd hk]
  obtain⟨hz,he⟩:=h2 hk;rw[Jd hk',Jd hk,hro];have hr1:∀o∈Qn x.data++Xo x.data++[Xp x.data],Sj K o:=fun o ho=>hr o (by unfold WD;rw[Jd hk];exact ho);have ht:=yd hz hr1;have hs:(QX x).size=x.data.size:=rfl;rw[hs,ht];by_cases hw:Vd K x.data=[]
  ·rw[Jf hw,hw];refine⟨by simp[Z6],fun _ =>?_⟩;obtain⟨n,k,m,l,dd,es⟩:=x;dsimp only at he;subst he
   rfl
  ·rw[Jd hw];refine⟨?_,fun h=>absurd h hw⟩;have:JD L.want (JD [] (Vd K x.data))=JD L.want (Vd K x.data):=S9;simp[this]
def jw{K:Kn}{L:Vg}{t:IX} (ht:Xa t=true) (hr:Sj K (JY t)) :
 (VK K L (Jy (JY t))).2=⟨JD L.want (Xe K [Jy (JY t)]),L.bad⟩∧(Xe K [Jy (JY t)]=[]→(VK K L (Jy (JY t))).1=t.map QX):=by
 unfold VK;rcases hr with h | h
 ·rw[h,ZN h,IB];have:getI (JY t)=(t.map QX,0):=qs (TO ht);dsimp only;rw[this];exact⟨by simp[Z6],fun _=>rfl⟩
 ·rw[h,ZM h,IB];exact⟨rfl,fun h=>by simp at h⟩
def qP{K:Kn}{a b:List YI}:Xe K (a++b)=Xe K a++Xe K b:=by unfold Xe;rw[List.filter_append]
def Rb{K:Kn}:∀ {X:Fs}{L:Vg},(∀t∈X,Xa t=true)→(∀t∈X,Sj K (JY t)) →
 (Vz K L (QC X)).2=⟨JD L.want (Xe K (QC X)),L.bad⟩∧(Xe K (QC X)=[]→(Vz K L (QC X)).1=X.map fun t=>t.map QX)
 | [],L,_,_=>⟨rfl,fun _=>rfl⟩
 | t :: r, L, h1, h2 => by
   have e:QC (t::r)=[Jy (JY t)]++QC r:=rfl;have e':QC (t::r)=Jy (JY t)::QC r:=rfl;have a:=jw (L:=L) (h1 t (by simp)) (h2 t (by simp));have b:=Rb (X:=r) (L:=(VK K L (Jy (JY t))).2) (fun t ht=>h1 t (by simp[ht])) (fun t ht=>h2 t (by simp[ht]));have hm:Xe K (QC (t::r))=Xe K [Jy (JY t)]++Xe K (QC r):=by rw[e,qP]
   rw[hm,e',T8];refine⟨?_,fun h =>?_⟩
   ·dsimp only;rw[b.1,a.1,Q2]
   ·rw[YAC]at h;dsimp only;rw[a.2 h.1,b.2 h.2]
    rfl
def Cp{K:Kn}:∀ {t:IX}{L:Vg},(∀x∈t,XF x=true)→(∀x∈t,∀o∈WD x,Sj K o) →
 (IG K L (t.map QX)).2=⟨JD L.want (t.flatMap (Sg K)),L.bad⟩∧(t.flatMap (Sg K)=[]→(IG K L (t.map QX)).1=t)
 | [],L,_,_=>⟨rfl,fun _=>rfl⟩
 | x :: r, L, h1, h2 => by
   have a:=vh (L:=L) (h1 x (by simp)) (h2 x (by simp));have b:=Cp (t:=r) (L:=(yo K L (QX x)).2) (fun t ht=>h1 t (by simp[ht])) (fun t ht=>h2 t (by simp[ht]));rw[YAZ,jq,YAK];refine⟨?_,fun h =>?_⟩
   ·dsimp only;rw[b.1,a.1,Q2]
   ·rw[YAC]at h;dsimp only;rw[a.2 h.1,b.2 h.2]
def M1(K:Kn) (X:Fs):List YI:=X.flatMap fun t=>t.flatMap (Sg K)
def Eh{K:Kn}:∀ {X:Fs}{L:Vg},(∀t∈X,∀x∈t,XF x=true)→(∀t∈X,∀x∈t,∀o∈WD x,Sj K o) →
 (ME K L (X.map fun t=>t.map QX)).2=⟨JD L.want (M1 K X),L.bad⟩∧(M1 K X=[]→(ME K L (X.map fun t=>t.map QX)).1=X)
 | [],L,_,_=>⟨rfl,fun _=>rfl⟩
 | t :: r, L, h1, h2 => by
   have a:=Cp (L:=L) (h1 t (by simp)) (h2 t (by simp));have b:=Eh (X:=r) (L:=(IG K L (t.map QX)).2) (fun t ht=>h1 t (by simp[ht])) (fun t ht=>h2 t (by simp[ht]));have hs:M1 K (t::r)=t.flatMap (Sg K)++M1 K r:=by unfold M1;rw[YAK]
   rw[YAZ,Dv,hs];refine⟨?_,fun h =>?_⟩
   ·dsimp only;rw[b.1,a.1,Q2]
   ·rw[YAC]at h;dsimp only;rw[a.2 h.1,b.2 h.2]
def U9{X:Fs}{o:Ba}:o∈MM X↔∃t∈X,(∃x∈t,o∈WD x)∨o=JY t:=by
 unfold MM;simp only[List.mem_flatMap,YAb,YAd]
def Da{x:Nd}{o:Ba}:o∈Qe x↔o∈WD x:=by
 unfold Qe WD;split
 ·exact Iff.rfl
 ·unfold Zz;rw[Yh];simp
def Ic{X:Fs}{o:Ba}:o∈Y6 X↔o∈MM X:=by
 unfold Y6;rw[Yh,U9];simp only[List.not_mem_nil,false_or,List.mem_flatMap,Q0,YAb,YAd,Da]
def qH{K:Kn}{X:Fs} (hm:XQ X=true) (hr:∀o∈MM X,Sj K o) :
 D5 K (QC X)=if Xe K (QC X)≠[] then([],JD [] (Xe K (QC X)),1501) else if M1 K X≠[] then([],JD [] (M1 K X),1501) else(X,[],0):=by
 obtain⟨h1,h2,h3,_⟩:=IL hm;have hl:(QC X).length=X.length:=by unfold QC;rw[YAU]
 have a:=Rb (K:=K) (X:=X) (L:=⟨[],false⟩) h3 (fun t ht=>hr _ (U9.2 ⟨t,ht,.inr rfl⟩));unfold D5;rw[Jd (by omega)];dsimp only;rw[a.1];by_cases hms:Xe K (QC X)=[]
 ·rw[Jd (c:=Xe K (QC X)≠[]) (by simp[hms])];have e1:(Vg.mk (JD [] (Xe K (QC X))) false).err 1500 1501=0:=by rw[hms];rfl
  rw[Jd (by rw[e1];simp),a.2 hms,hms];have b:=Eh (K:=K) (X:=X) (L:=⟨JD [] [],false⟩) (fun t ht x hx=>(VJ (h3 t ht)).2.1 x hx) (fun t ht x hx o ho=>hr _ (U9.2 ⟨t,ht,.inl ⟨x,hx,ho⟩⟩));rw[b.1];by_cases hw:M1 K X=[]
  ·rw[Jd (c:=M1 K X≠[]) (by simp[hw])];have e2:(Vg.mk (JD (JD [] []) (M1 K X)) false).err 1500 1501=0:=by rw[hw];rfl
   rw[Jd (by rw[e2];simp),b.2 hw,Jf hm]
  ·rw[Jf (c:=M1 K X≠[]) hw];have hne:JD (JD [] []) (M1 K X)≠[]:=fun h=>hw (VZ.1 h).2
   have e2:(Vg.mk (JD (JD [] []) (M1 K X)) false).err 1500 1501=1501:=by
    unfold Vg.err;simp[hne]
   rw[Jf (by rw[e2];simp),e2]
   rfl
 ·rw[Jf (c:=Xe K (QC X)≠[]) hms];have hne:JD [] (Xe K (QC X))≠[]:=fun h=>hms (VZ.1 h).2
  have e1:(Vg.mk (JD [] (Xe K (QC X))) false).err 1500 1501=1501:=by
   unfold Vg.err;simp[hne]
  rw[Jf (by rw[e1];simp),e1]
  rfl
def Cf(os:List Ba):Prop:=∀a∈os,∀b∈os,Jy a=Jy b→a=b
def qD{os:List Ba} (hn:Cf os){o:Ba} (ho:o∈os) (hz:o.size≤65536):Qw os (Jy o)=some o:=by
 unfold Qw
 cases hf:os.find? (fun d=>decide (d.size≤65536)&&decide (Jy d=Jy o)) with
 | none =>
   have:=List.find?_eq_none.1 hf o ho;simp[hz]at this
 | some d =>
   have h1:=List.find?_some hf;have h2:=List.mem_of_find?_eq_some hf;simp only[YAs,Qg]at h1;rw[hn d h2 o ho h1.2]
def PJ{os:List Ba}{h:YI}{d:Ba} (hk:Qw os h=some d):d∈os∧Jy d=h:=by
 unfold Qw at hk;have h1:=List.find?_some hk;have h2:=List.mem_of_find?_eq_some hk;simp only[YAs,Qg]at h1;exact⟨h2,h1.2⟩
def Rv{X:Fs} (hm:XQ X=true){o:Ba} (ho:o∈MM X):o.size≤65536:=by
 obtain⟨_,_,h3,_⟩:=IL hm;obtain⟨t,ht,h⟩:=U9.1 ho;obtain⟨_,h4,h5⟩:=VJ (h3 t ht);rcases h with⟨x,hx,h⟩ | rfl
 ·have hnd:=h4 x hx;obtain⟨z1,z2,z3⟩:=VY hnd;unfold WD at h;split at h
  ·simp at h;subst h;rw[Js];have h1:=Gv (U4 z3).2.2;unfold JW;simp only[YAR,Jj];omega
  ·have l1:=GH (d:=x.data);have l2:=GJ (d:=x.data);simp only[YAb,YAd]at h;rcases h with(h | h) | rfl
   ·unfold Qn at h;obtain⟨c,hc,rfl⟩:=List.mem_map.1 h;rw[Un];have:=WO hc;omega
   ·unfold Xo at h;obtain⟨c,hc,rfl⟩:=List.mem_map.1 h;rw[Zt];have:=WO hc;omega
   ·unfold Xp;rw[Zt,YAU];omega
 ·have:=UF h5;omega
def ZCV.s{v:XU.Ty}{m:Mb}{h:Ja}{K:Ug.Ty→Int→Hp} (a:UN h v m) (hgl:m.groups.length≤9223372036854775807)
 (hno:QU m=false→∀h',Jc [] h h'→K ((⟨none,0,0⟩:Jn),()) 1500 h')
 (hK:QU m=true→∀h' t0 ss vv,Jc [] h h'→ML h' t0 ss vv (X9 m)→K (t0,()) 0 h'):ZCV.C v h K:=by
 apply ZCV.c;unfold ZCV.m;refine Ji fun b1 h1 hb1 k1 e1 hs1 =>?_;have e1:h1[b1]? = some (Jg JT XU v):=e1;refine Ji fun b2 h2 hb2 k2 e2 hs2 =>?_;have e2:h2[b2]? = some (Jg XJ Ug ((⟨none,0,0⟩:Jn),())):=e2;have k02:Jc [] h h2:=k1.n k2;have c1:=k2.g e1;refine Jb (Je c1) ?_;refine ZCe.s (a.keep k02) fun h3 k3 =>?_;have k03:=k02.n k3
 cases hm:QU m with
 | false =>
   rw[Jf (by rfl)];refine Ep (y:=(((⟨none,0,0⟩:Jn),()):Ug.Ty)) (k3.g e2) fun h4 k4 e4 hs4 =>?_;exact hno hm h4 (k03.new k4 (by simp;omega))
 | true =>
   rw[Jd (by simp)];refine Jb (Je (k3.g c1)) ?_;refine ZAX.s (a.keep k03) hm fun h5 k5 =>?_
   have hp:1≤Qx m∧Qx m≤24:=by
    unfold QU at hm;simp only[YAs,Qg]at hm;obtain⟨⟨⟨m1,m2⟩,m3⟩,_⟩:=hm;unfold Qx;omega
   obtain⟨n,hn⟩:∃n:Nat,Qx m=((n+1:Nat):Int):=⟨(Qx m).toNat-1,by omega⟩;rw[hn];refine Up (by omega) (by omega) fun b h6 hb6 k6 r6 hs6 =>?_;refine Jq fun b3 h8 hb3 k8 e8 hs8 =>?_;have e8:h8[b3]? = some (Jg XJ Ug ((⟨some ⟨b,0⟩,n+1,n+1⟩:Jn),())):=e8;refine Jb (k := .sl) (x:=(⟨some ⟨b,0⟩,n+1,n+1⟩:Jn)) (JV (Je e8) (by decide) rfl) ?_;refine QN fun bq h9 hbq k9 r9 hs9 =>?_;have r69:=(r6.keep k8 (by simp)).keep k9 (by simp);have s8:=k8.1;have s9:=k9.1;refine U7 (i:=0) (k := .sl) (x:=(⟨some ⟨bq,0⟩,1,1⟩:Jn)) r69 (by omega) (by simp) rfl fun h10 k10 r10 =>?_;have hown:own (⟨some ⟨b,0⟩,n+1,n+1⟩:Jn)=[b]:=rfl;refine Jb (Je (k10.get (k9.g e8) (by rw[hown];simp;omega))) ?_;have s5:=k5.1;have s3:=k3.1;have l2:=Jl e2;have k310:Jc [] h3 h10:=(((k5.n k6).n k8).n k9).new k10 (fun q hq=>by rw[hown]at hq;simp at hq;omega);refine Ep (k310.g (k3.g e2)) fun h11 k11 e11 hs11 =>?_;refine hK hm h11 _ (⟨some ⟨bq,0⟩,1,1⟩::List.replicate n ⟨none,0,0⟩) ([(1,(1,(1,(1,(⟨#[]⟩,((⟨none,0,0⟩:Jn),()))))))]::List.replicate n []) ((k03.n k310).new k11 (by simp;omega)) ⟨?_,?_,?_⟩
   ·have:(List.replicate (n+1) (Kd.zero .sl)).set (0:Int).toNat (⟨some ⟨bq,0⟩,1,1⟩:Jn)=⟨some ⟨bq,0⟩,1,1⟩::List.replicate n ⟨none,0,0⟩:=by
     rw[List.replicate_succ];rfl
    rw[←this];exact(r10.keep k11 (by rw[hown];simp;omega)).seg
   ·refine⟨((r9.keep k10 (by rw[hown];simp[own];omega)).keep k11 (by simp[own];omega)).seg,UZ (R:=fun s vs=>Q5 M7 s vs h11) (JR.nil (T:=Vc)).seg n⟩
   ·unfold X9;have:(Qx m).toNat-1=n:=by omega
    rw[this];exact⟨⟨qT,trivial⟩,UZ trivial n⟩
def R2:Nd:=⟨1,1,1,1,⟨#[]⟩,[]⟩
def Gu{m:Mb}:X9 m=[R2]::List.replicate ((Qx m).toNat-1) []:=rfl
def Um{m:Mb} (h1:1≤Qx m) (h2:Qx m≤24):XQ (X9 m)=true:=by
 rw[Gu];have hn:(Qx m).toNat-1≤23:=by omega
 generalize (Qx m).toNat-1=n at hn;unfold XQ
 have hf:Zw ([R2]::List.replicate n []) UK=some R2:=by
  unfold Zw Tb;rw[Jf ⟨by decide,by simp[UK,rf]⟩]
  rfl
 have hall:([R2]::List.replicate n ([]:IX)).all Xa=true:=by
  rw[List.all_cons,show Xa [R2]=true by decide,YAt,YAA];intro t ht;rw[List.eq_of_mem_replicate ht];rfl
 rw[hf,hall];simp[R2];omega
def Us(k:DJ):Cn:=⟨k.m,k.pubs,QC (X9 k.m),[]⟩
def D2{k:DJ} (h:Ya k=true):QU k.m=true∧1≤k.m.users∧k.m.users≤16∧k.m.groups.length≤8∧(k.pubs.length:Int)=k.m.users∧∀s∈k.pubs,s.length=60:=by
 unfold Ya at h;simp only[YAs,Qg,YAA]at h;obtain⟨h1,h2,h3⟩:=h;have h1':=h1;unfold QU at h1';simp only[YAs,Qg]at h1';exact⟨h1,h1'.1.1.1,h1'.1.1.2,h1'.1.2,h2,h3⟩
def qV{k:DJ} (h:Ya k=true):ZA (Us k):=by
 obtain⟨h1,h2,h3,h4,h5,h6⟩:=D2 h;refine⟨h1,h5,h6,?_,by simp[Us],by simp[Us]⟩;show((QC (X9 k.m)).length:Int)=Qx k.m;have hp:1≤Qx k.m:=by unfold Qx;omega
 unfold QC;rw[YAU,Gu,YAS,List.length_replicate];omega
def ZDt.s{v:Yf.Ty}{k:DJ}{h:Ja}{K:Option Pl→Int→Hp} (a:IU h v k) (hl:k.pubs.length≤9223372036854775806) (hg:∀g∈k.m.groups,g.length*8≤140737488355328)
 (hbad:Ya k=false→∀h',Jc [] h h'→K none 2000 h')
 (hok:Ya k=true→∀h' c t mv ps bs,Jc [] h h'→YK h.size h' c t mv ps bs ⟨none,0,0⟩ [] (Us k)→K (some ⟨c,0⟩) 0 h'):ZDt.C v h K:=by
 apply ZDt.c;unfold ZDt.m;refine Ji fun b1 h1 hb1 k1 e1 hs1 =>?_;have e1:h1[b1]? = some (Jg JP Yf v):=e1;refine Jb (Je e1) ?_;refine ZCa.s (a.keep k1) hl fun h2 k2 =>?_;have k02:Jc [] h h2:=k1.n k2
 cases hm:Ya k with
 | false =>
   rw[Jf (by rfl)];exact hbad hm h2 k02
 | true =>
   rw[Jd (by simp)];replace hok:=hok hm;obtain⟨m1,m2,m3,m4,m5,m6⟩:=D2 hm;have e2:=k2.g e1;refine Jb (U8 e2).1 ?_;have hpr:1≤Qx k.m∧Qx k.m≤24:=by unfold Qx;omega
   refine ZCV.s (a.keep k02).m (by omega) (fun hn=>by rw[m1]at hn;simp at hn) fun _ h3 t0 ss vv k3 w3 =>?_;refine Jq fun b2 h5 hb2 k5 e5 hs5 =>?_;refine Jb (Je e5) ?_;have k25:Jc [] h2 h5:=k3.n k5
   have sb:∀t∈X9 k.m,t.length≤9223372036854775807:=fun t ht=>by
    rw[Gu]at ht;rcases List.mem_cons.1 ht with rfl | ht
    ·simp
    ·rw[List.eq_of_mem_replicate ht];simp
   refine ZCd.s (w3.keep k5) sb (fun hn=>by rw[Um hpr.1 hpr.2]at hn;simp at hn) fun _ h6 o1 o2 k6 r6 _ f6 _ =>?_;have k26:Jc [] h2 h6:=k25.n k6;have k06:Jc [] h h6:=k02.n k26;have e6:=k26.g e2;refine Jb (U8 e6).1 (Jb (U8 e6).2.1 ?_);refine ZCr.s (a.keep k06).m (by omega) hg fun h7 mv k7 mu =>?_;refine⟨(U8 (k7.g e6)).2.1,?_⟩;have k07:Jc [] h h7:=k06.n k7;refine clone_str.s (a.keep k07).p (by rw[YAU];omega) fun ps h8 k8 r8 o8 =>?_;have k08:Jc [] h h8:=k07.n k8;have e8:=k8.g (k7.g e6);refine JL (y:=((mv,(ps,())):Yf.Ty)) e8 fun h9 k9 e9 hs9=>Jb (Je e9) ?_;refine ZD6.s fun h10 k10 t10 =>?_;refine⟨Je (k10.g e9),?_⟩;refine Ji fun c h11 hc k11 e11 hs11 =>?_;have e11:h11[c]? = some (Jg QA Sb (((mv,(ps,())),(o1,((⟨none,0,0⟩:Jn),(some ⟨h9.size,0⟩,())))):Sb.Ty)):=e11;have z02:=k02.1;have z06:=k06.1;have z25:=k25.1;have z7:=k7.1;have z8:=k8.1;have z9:=k9.1;have z10:=k10.1;have k911:Jc [] h9 h11:=k10.n k11;have off:∀ {T:Nat} {kk:Kd} {u:Jn} {L:List kk.Ty},JR h8 T kk u L→T≠JP→∀q∈own u,q∉[b1]:=fun r hT q hq hm=>by simp at hm;subst hm;exact QL r e8 (fun h=>hT h.symm) hq
   have mu8:Sc h6.size h8 mv k.m:=mu.keep k8 (by simp)
   have mu9:Sc h6.size h9 mv k.m:=mu8.keep k9 fun b hb=>by
    simp at hb;subst hb;exact .inr fun c f=>⟨QR (o:=Jg JP Yf v) e8 (by decide) c f,QR (o:=Jg JP Yf v) e8 (by decide) c f⟩
   have mu11:=mu9.keep k911 (by simp);refine hok h11 c h9.size mv ps o1 ((k08.new k9 (by simp;omega)).n k911) ⟨e11,by omega,?_,?_,fun q hq=>by have:=o8 q hq;omega,?_,fun q hq=>by have:=f6 q hq;omega,.inl ⟨rfl,rfl⟩,by simp[own],trivial,?_⟩
   ·obtain⟨u,gs,r,o,al⟩:=mu11;exact⟨u,gs,r,fun q hq=>by have:=o q hq;omega,Qq.mono (fun s us x=>⟨x.1,fun q hq=>by have:=x.2.1 q hq;omega,x.2.2⟩) al⟩
   ·exact(r8.keep k9 (off r8 (by decide))).keep k911 (by simp)
   ·have r68:=(r6.keep k7 (by simp)).keep k8 (by simp);exact(r68.keep k9 (off r68 (by decide))).keep k911 (by simp)
   ·obtain⟨⟨s,row,e,r,p,oo⟩,l⟩:=t10.keep k11 (by simp);exact⟨⟨s,row,e,r,p,fun q hq=>by have:=oo q hq;omega⟩,by omega⟩
abbrev IW:Kd := .ag (.pr .i (.pr (.ar 32 .u8) (.pr JO .un)))
def gQ:IW.Ty:=(0,(Vector.replicate 32 0,(Ik,())))
def qE(C:Cn):X6:=C.all.getLast?.getD ⟨0,0,[],Vector.replicate 32 0,[],[]⟩
structure LgR (h:Ja) (x:IW.Ty) (C:Cn):Prop where
 n:x.1=(C.all.length:Int)
 r:x.2.1=XD (C.all.map putE)
 e:VM h x.2.2.1 (qE C)
def gH{h:Ja}:VM h Ik ⟨0,0,[],Vector.replicate 32 0,[],[]⟩:=⟨rfl,rfl,.inl ⟨rfl,rfl⟩,rfl,.inl ⟨rfl,rfl⟩,rfl⟩
def wY{x:IW.Ty}{y:JO.Ty}:Il (IW.cells x) 33 (JO.cells y)=IW.cells ((x.1,(x.2.1,(y,()))):IW.Ty):=by
 have l3:((Kd.ar 32 .u8).cells x.2.1).length=32:=Kd.cells_length ..;have le:∀z:JO.Ty,(JO.cells z).length=37:=fun z=>Kd.cells_length ..
 have e0:∀z:JO.Ty,IW.cells ((x.1,(x.2.1,(z,()))):IW.Ty)=(Kd.i.cells x.1++(Kd.ar 32 .u8).cells x.2.1)++(JO.cells z++[]):=fun z=>by
  rw[YAB];rfl
 have e1:=e0 x.2.2.1;rw[e0 y];have e1:IW.cells x=_:=e1;rw[e1];have l33:(Kd.i.cells x.1++(Kd.ar 32 .u8).cells x.2.1).length=33:=by rw[YAR,l3];rfl
 generalize (Kd.i.cells x.1++(Kd.ar 32 .u8).cells x.2.1)=A at *;have l1:=le x.2.2.1;have l2:=le y;generalize JO.cells x.2.2.1=B at *;generalize JO.cells y=D at *;unfold Il;rw[List.take_left' l33,l2,←YAE,YAG l33,YAG l1,YAB]
section
variable {n0 c t:Nat}{h:Ja}{mv:XU.Ty}{ps bs es:Jn}{J0:List JO.Ty}{C:Cn}
def chain_Log.s{K:IW.Ty→Hp} (i:YK n0 h c t mv ps bs es J0 C) (o:ZA C) (hK:∀x h',Jc [] h h'→LgR h' x C→(∀q∈Uc x.2.2.1,h.size≤q)→K x h'):ZCF.C (some ⟨c,0⟩) h K:=by
 apply ZCF.c;unfold ZCF.m;have on:=o.n;have al:=i.al;refine Ji fun b1 h1 hb1 k1 e1 hs1 =>?_;have e1:h1[b1]? = some (Jg YA IW gQ):=e1;rw[Jd (by simp)];have i1:=i.keep0 k1;have tl:(C.all.map putE).length≤1000000:=by rw[YAU];omega
 obtain⟨R,hR⟩:∃R,XD (C.all.map putE)=R:=⟨_,rfl⟩;refine Qd (fun y h'=>Jc [] h1 h'∧∃b,y=(Pl.mk b 0,())∧h1.size≤b∧h'[b]? = some (Jg YA IW (((C.all.length:Int),(R,(Ik,()))):IW.Ty))) ?_ ?_
 ·refine Jp (Jb i1.fa (Jp (Jb i1.ft ⟨?_,?_⟩)))
  ·refine ZA2.s i1.t tl fun h4 k4 =>?_;refine⟨(i1.keep0 k4).fa,?_⟩;rw[hR];refine Ji fun b2 h5 hb2 k5 e5 hs5 =>?_;have e5:h5[b2]? = some (Jg YA IW gQ):=e5;refine⟨((i1.keep0 k4).keep0 k5).fa,?_⟩;rw[al];refine JL e5 fun h6 k6 e6 hs6 =>?_;have z4:=k4.1;exact⟨(k4.n k5).new k6 (by simp;omega),b2,rfl,by omega,e6⟩
  ·refine Ji fun b2 h5 hb2 k5 e5 hs5 =>?_;have e5:h5[b2]? = some (Jg YA IW gQ):=e5;have i5:=i1.keep0 k5;refine⟨i5.ft,i5.fa,?_⟩;refine ZA2.s i5.t tl fun h4 k4 =>?_;refine⟨(i5.keep0 k4).fa,?_⟩;rw[hR,al];refine JL (k4.g e5) fun h6 k6 e6 hs6 =>?_;exact⟨(k5.n k4).new k6 (by simp;omega),b2,rfl,by omega,e6⟩
 rintro _ h3 ⟨k3,b,rfl,hb,e3⟩;have k03:Jc [] h h3:=k1.n k3;have i3:=i.keep0 k03;have z1:=k1.1;have e13:=k3.g e1;have n1:b1≠b:=by omega
 have f0:sm .i ((Pl.mk b 0).fld 0) (C.all.length:Int) h3:=Jv (n:=0) (k' := .i) e3 rfl (by decide);refine Jb f0 ?_;refine Qd (fun _ h'=>Jc [] h h'∧h'[b1]? = some (Jg YA IW gQ)∧∃v',h'[b]? = some (Jg YA IW (((C.all.length:Int),(R,(v',()))):IW.Ty))∧VM h' v' (qE C)∧∀q∈Uc v',h.size≤q) ?_ ?_
 ·unfold qE;by_cases h0:C.all.length=0
  ·rw[Jd (show¬decide ((C.all.length:Int)>0)=true from dn (by omega))];have hnil:C.all=[]:=List.length_eq_zero_iff.1 h0;refine⟨k03,e13,Ik,e3,?_,by simp[Uc,Ik,own]⟩;rw[hnil];exact gH
  ·rw[Jf (show decide ((C.all.length:Int)>0)=true from dT (by omega))];refine Jp (Jb i3.fa (Jb f0 ?_));have hw:Jr ((C.all.length:Int)-1)=((C.all.length-1:Nat):Int):=w6 (by omega);rw[hw];have el:=i3.x.len;have hx:=i3.x.getI (i:=C.all.length-1) (by omega) (by omega);have ha:=o.a _ (YAQ (l:=C.all) (n:=C.all.length-1) (by omega))
   have hg:C.all.getLast? = some (C.all[C.all.length-1]'(by omega)):=by
    rw[List.getLast?_eq_getElem?,YAN (by omega)]
   rw[hg];refine JK i3.a.seg (x:=J0[C.all.length-1]'(by omega)) (by omega) (by rw[YAl];exact YAN (by omega)) rfl ?_;generalize J0[C.all.length-1]'(by omega)=v at *;generalize C.all[C.all.length-1]'(by omega)=e at *;obtain⟨_,_,pv,pt⟩:=GC ha.1;refine ZCI.s hx.1.at (by omega) (by omega) fun v' h11 k11 r11 o11 =>?_;have e11:=k11.g e3;have z03:=k03.1;refine Qm (k:=IW) (k':=JO) (n:=33) e11 (by decide) wY ?_;dsimp only;have e12:=Jw (o':=Jg YA IW (((C.all.length:Int),(R,(v',()))):IW.Ty)) e11;have k12:Jc [b] h11 (h11.setIfInBounds b (Jg YA IW (((C.all.length:Int),(R,(v',()))):IW.Ty))):=Jo;generalize h11.setIfInBounds b (Jg YA IW (((C.all.length:Int),(R,(v',()))):IW.Ty))=h12 at e12 k12 ⊢;refine⟨(k03.n k11).new k12 (by simp;omega),k12.get (k11.g e13) (by simpa using n1),v',e12,r11.keep k12 fun q hq hm =>?_,fun q hq=>by have:=o11 q hq;omega⟩;simp at hm;subst hm;have:=o11 q hq;have:=Jl e3;omega
 rintro _ h10 ⟨k10,e110,v',e10,r10,o10⟩;refine Jb (Je e10) ?_;refine JL e110 fun h13 k13 e13' hs13=>Jb (Je e13') ?_;refine hK _ h13 (k10.new k13 (by simp;omega)) ⟨rfl,hR.symm,r10.keep k13 fun q hq hm =>?_⟩ o10;simp at hm;subst hm;unfold Uc at hq;rcases List.mem_append.1 hq with hq | hq
 ·exact QL r10.w e110 (by decide) hq
 ·exact QL r10.t e110 (by decide) hq
end
structure Sd where
 i:By
 s:By
 hi:i.length=16
 hs:s.length=32
def Sd.k(d:Sd) (n:Nat):Za:=⟨3,1,d.i,d.s,n⟩
def Sd.pub(d:Sd):By:=Zq (d.k 0)
def ZX(x:By):Sd:=⟨(Hl (XK 2 [bx x])).take 16,Hl (XK 3 [bx x]),by rw[YAX,X7];rfl,X7⟩
def P5{d:Sd}{n:Nat} (hn:n≤4):Yg (d.k n)=true:=by
 obtain⟨i,s,hi,hs⟩:=d;unfold Yg Xs Sd.k;dsimp only;simp only[hi,hs,YAs,Qg];refine⟨⟨by decide,by omega⟩,?_⟩;show(n:Int)≤4;omega
def xM{d:Sd}{n:Nat}:Zq (d.k n)=d.pub:=by
 unfold Sd.pub Zq;rw[yg,yg];unfold Sd.k;dsimp only
def Ct{d:Sd}{n:Nat} (hn:n<4):Xs (d.k n).up=true∧(d.k n).up.next<2^(d.k n).up.height.toNat∧Xs (d.k n).low=true∧(d.k n).low.next<2^(d.k n).low.height.toNat:=
 I9 (k:=d.k n) (P5 (by omega)) (show(n:Int)<4 by omega)
def xL{d:Sd}:d.pub.length=60:=by
 unfold Sd.pub Zq;rw[YAR,Jj,YO (Ct (by decide)).1]
def zx{d:Sd}{n:Nat}{msg:By} (hn:n<4) (hm:msg.length≤65536):Rl d.pub msg (Q9 (d.k n) msg)=0:=by
 rw[←xM (n:=n)];exact wR (P5 (by omega)) (show(n:Int)<4 by omega) hm
def xN{d:Sd}{n:Nat}{msg:By} (hn:n<4) (hm:msg.length≤65536):(Q9 (d.k n) msg).length=4500:=by
 obtain⟨a,b,c,e⟩:=Ct (d:=d) hn;have l1:=(Ia (msg:=QJ (d.k n).low) a b (by rw[YO c];decide)).2;have l2:=(Ia (msg:=msg) c e hm).2;have p1:(d.k n).up.p=67:=by unfold YU.p Za.up Sd.k;dsimp only;decide
 have p2:(d.k n).low.p=67:=by unfold YU.p Za.low Sd.k;dsimp only;decide
 have q1:(d.k n).up.height.toNat=1:=by unfold Za.up Sd.k;dsimp only;decide
 have q2:(d.k n).low.height.toNat=1:=by unfold Za.low Sd.k;dsimp only;decide
 unfold Q9;simp only[YAR,Jj,YO c,l1,l2,p1,p2,q1,q2]
def Rk:Mb:=⟨2,[[0,1]]⟩
def Zh(a b:Sd):DJ:=⟨Rk,[a.pub,b.pub]⟩
def MV{a b:Sd}:Ya (Zh a b)=true:=by
 unfold Ya Zh;dsimp only;rw[show QU Rk=true by decide,YAt];simp only[YAS,YAV,List.all_cons,List.all_nil,xL,Bool.and_true]
 rfl
def DR{a b:Sd}:ZA (Us (Zh a b)):=qV MV
def j9{a b:Sd}:(Us (Zh a b)).begin.length=3:=by
 have:=(DR (a:=a) (b:=b)).b;have e:Qx (Us (Zh a b)).m=3:=by unfold Us Zh;dsimp only;decide
 omega
def Uz(e:X6) (k:Za):X6:={ e with sign:=Q9 k (Vk e) }
def xK{e:X6}{s:By}:Vk { e with sign:=s }=Vk e:=rfl
def P4{e:X6}:(Vk e).length=32:=by unfold Vk;simp
def T5{e:X6}{d:Sd}{n:Nat} (hn:n<4) (h:QG e=true):JJ (Uz e (d.k n))=true:=by
 unfold JJ;rw[show QG (Uz e (d.k n))=QG e from Eq.refl _,h,YAt];refine dT ?_;unfold Uz;dsimp only;rw[xN hn (by rw[P4];decide)]
 decide
def zy{e:X6}{d:Sd}{n:Nat} (hn:n<4) (h:QG e=true):Eu (Uz e (d.k n)) d.pub=0:=by
 unfold Eu;rw[Jf (T5 hn h),Jf];unfold Uz;dsimp only;rw[xK];exact zx hn (by rw[P4];decide)
structure UH (a b:Sd) (C:Cn):Prop where
 m:C.m=Rk
 p:C.pubs=[a.pub,b.pub]
 b:C.begin.length=3
def gA{a b:Sd}:UH a b (Us (Zh a b)):=⟨rfl,rfl,j9⟩
def Ru(a b:Sd) (u:Nat):Sd:=if u=0 then a else b
def UH.pub{a b:Sd}{C:Cn}{u:Nat} (c:UH a b C) (hu:u≤1):C.pubs.getD u []=(Ru a b u).pub:=by
 rw[c.p]
 match u,hu with
 | 0,_=>rfl
 | 1,_=>rfl
def PU{a b:Sd}{C:Cn}{u:Nat}{T:List Qh} (c:UH a b C) (o:ZA C) (hu:u≤1) (hT:T.length=3) (hn:C.all.length<256) (hv:(Q6 C (u:Int)).all XT=true):QG (Xi C (u:Int) T)=true:=by
 obtain⟨v1,v2,v3⟩:=o.v
 have hl:(Q6 C (u:Int)).length=2:=by
  unfold Q6;rw[YAW];rw[c.m]at v1;have:Rk.users=2:=rfl;omega
 unfold QG XW Xi;dsimp only;rw[hv,hl,hT];simp only[YAs,Qg,YAt];omega
def zi{a b:Sd}{C:Cn}{u:Nat} (c:UH a b C) (hu:u≤1) (hn:C.all.length<256):Gb C (u:Int) 3=true:=by
 unfold Gb;rw[c.m];have h1:Rk.users=2:=rfl;have h2:Qx Rk=3:=by decide
 rw[h1,h2];simp only[YAs,Qg];omega
def SQ{a b:Sd}{C:Cn}{e:X6} (c:UH a b C) (hp:JJ e=true) (hv:e.vec.length=2) (hT:e.tables.length=3) (hn:C.all.length<256):PB C e=true:=by
 unfold PB;rw[c.m,hp,hv,hT];have h1:Rk.users=2:=rfl;have h2:Qx Rk=3:=by decide
 rw[h1,h2];simp only[YAs,Qg,YAt];omega
def PT{a b:Sd}{C:Cn}{u:Int} (c:UH a b C) (o:ZA C):(Q6 C u).length=2:=by
 obtain⟨v1,v2,v3⟩:=o.v;unfold Q6;rw[YAW];rw[c.m]at v1;have:Rk.users=2:=rfl;omega
def j8{a b:Sd}{C:Cn}{u n:Nat}{T:List Qh} (c:UH a b C) (o:ZA C) (hu:u≤1) (hT:T.length=3) (hn:C.all.length<256) (hv:(Q6 C (u:Int)).all XT=true) (h4:n<4) :
 Vj C (Uz (Xi C (u:Int) T) ((Ru a b u).k n))=if Wz C (Xi C (u:Int) T)=true then 0 else 2005:=by
 have em:=PU c o hu hT hn hv;have hf:=SQ c (e:=Uz (Xi C (u:Int) T) ((Ru a b u).k n)) (T5 h4 em) (PT c o) hT hn;have q1:(Uz (Xi C (u:Int) T) ((Ru a b u).k n)).seq=(C.all.length:Int)+1:=Eq.refl _;have q2:(Uz (Xi C (u:Int) T) ((Ru a b u).k n)).user=(u:Int):=Eq.refl _;have q3:(Uz (Xi C (u:Int) T) ((Ru a b u).k n)).vec=Q6 C (u:Int):=Eq.refl _;have q4:(Uz (Xi C (u:Int) T) ((Ru a b u).k n)).root=XD (C.all.map putE):=Eq.refl _;have ht:Wz C (Uz (Xi C (u:Int) T) ((Ru a b u).k n))=Wz C (Xi C (u:Int) T):=Eq.refl _;have hv0:=zy (d:=Ru a b u) h4 em;generalize Uz (Xi C (u:Int) T) ((Ru a b u).k n)=e at *;unfold Vj;rw[Jf hf,Jf q1,q2,Jf (by rw[c.m];show(u:Int)<2;omega),Jf q3,Jf q4,ht,YAl,c.pub hu,hv0,Jf rfl]
def EV{v:JO.Ty}{y:Ba}:Il (JO.cells v) 36 (Kd.s.cells y)=JO.cells ((v.1,(v.2.1,(v.2.2.1,(v.2.2.2.1,(v.2.2.2.2.1,(y,v.2.2.2.2.2.2)))))):JO.Ty):=by
 have l3:((Kd.ar 32 .u8).cells v.2.2.2.1).length=32:=Kd.cells_length ..
 have e0:∀w:Ba×Unit,JO.cells ((v.1,(v.2.1,(v.2.2.1,(v.2.2.2.1,(v.2.2.2.2.1,w))))):JO.Ty)=(((Kd.i.cells v.1++(Kd.i.cells v.2.1++Kd.sl.cells v.2.2.1))++(Kd.ar 32 .u8).cells v.2.2.2.1)++Kd.sl.cells v.2.2.2.2.1)++(Kd.s.cells w.1++[]):=fun w=>by
  rw[YAB,YAB];rfl
 have e1:=e0 v.2.2.2.2.2;have e2:=e0 (y,v.2.2.2.2.2.2);rw[e2];have e1:JO.cells v=_:=e1;rw[e1];have l36:(((Kd.i.cells v.1++(Kd.i.cells v.2.1++Kd.sl.cells v.2.2.1))++(Kd.ar 32 .u8).cells v.2.2.2.1)++Kd.sl.cells v.2.2.2.2.1).length=36:=by rw[YAR,YAR,l3];rfl
 generalize (((Kd.i.cells v.1++(Kd.i.cells v.2.1++Kd.sl.cells v.2.2.1))++(Kd.ar 32 .u8).cells v.2.2.2.1)++Kd.sl.cells v.2.2.2.2.1)=A at *;unfold Il;rw[List.take_left' l36,←YAE,YAG l36,YAB]
 rfl
def ZDT.s{v:JO.Ty}{e:X6}{h:Ja}{K:Ba→Int→Hp} (a:Ue h v e) (hl:e.vec.length≤9223372036854775806) (hK:∀h',Jc [] h h'→K (if JJ e=true then bx (putE e) else⟨#[]⟩) (if JJ e=true then 0 else 1900) h'):ZDT.C v h K:=by
 apply ZDT.c;unfold ZDT.m;refine Ji fun b h1 hb k1 e1 hs1 =>?_;have e1:h1[b]? = some (Jg Jk JO v):=e1;refine Jb (Je e1) ?_;refine ZC2.s (a.keep k1) hl fun h2 k2 =>?_;obtain⟨f0,f1,f2,f3,f35,f36⟩:=ZH (k2.g e1);rw[a.s]at f36;refine JH (!JJ e,()) h2 ?_ ?_
 ·unfold JJ
  cases hm:QG e with
  | false=>rw[Jf (by rfl)];exact⟨by simp,rfl⟩
  | true =>
    rw[Jd (by simp)];refine Jb f36 ⟨?_,rfl⟩;rw[Js];by_cases c:e.sign.length≤8192
    ·rw[dF (show¬((e.sign.length:Int)>8192) by omega)];simp[c]
    ·rw[dT (show((e.sign.length:Int)>8192) by omega)];simp[c]
 dsimp only
 cases hp:JJ e with
 | false =>
   rw[Jf (by rfl)];rw[hp]at hK;exact hK h2 (k1.n k2)
 | true =>
   rw[Jd (by simp)];rw[hp]at hK;have hm:QG e=true:=by unfold JJ at hp;simp only[YAs]at hp;exact hp.1
   have hs:e.sign.length≤8192:=by unfold JJ at hp;simp only[YAs,Qg]at hp;exact hp.2
   refine Jb f36 (Jb f36 ?_);rw[Js];refine ZAA.s (n:=2) (by decide) (by decide) (by omega) fun h4 k4=>⟨JN (by decide) f36 k4,?_⟩;rw[Jf hm];obtain⟨u0,u1,q0,q1,vx,v1,v16,t1,t24⟩:=Tx hm
   have bl:(YZ e).length≤2000:=by
    unfold YZ;simp only[YAR,Jj,VU,WX,YAS,YAV];have:(Vector.toList e.root).length=32:=by simp
    omega
   refine JM (by rw[Jj];omega) ?_;refine JM (by rw[YAR,Jj];omega) ?_;have:=hK h4 ((k1.n k2).n k4);unfold putE at this;rw[YAB];exact this
def ZC1.s{l:By}{h:Ja}{K:Ba→Hp} (hl:l.length≤60000) (hK:∀h',Jc [] h h'→K (bx (Hl (XK 1 [bx l]))) h'):ZC1.C (bx l) h K:=by
 apply ZC1.c;unfold ZC1.m;refine QN fun bq h2 hbq k2 r2 hs2 =>?_
 have hl1:(XK 1 [bx l]).length≤1000000:=by
  unfold XK QT;simp[Jj,WV];omega
 refine ZCC.s (tag:=1) r2.seg (by decide) (by simp only[lens,YAZ,YAa,YAe,YAf,Js];omega) hl1 fun h3 k3 =>?_;unfold Hl at hK;generalize Yt (XK 1 [bx l])=v at *;refine Jq fun b2 h5 hb2 k5 e5 hs5 =>?_;refine Jb (Je e5) ?_;exact ZAZ.s fun h6 k6=>hK h6 (((k2.n k3).n k5).n k6)
def wg:YF.Ty:=(0,(0,(⟨#[]⟩,(⟨#[]⟩,(0,())))))
def ZR(k:Za):Bool:=decide (k.next=2^(2*k.height.toNat))
def ZAm.u{k:Za}{msg:By}{h:Ja}{K:Ba→YF.Ty→Int→Hp} (hm:Yg k=true) (hl:msg.length≤65536)
 (hK:∀h',Jc [] h h'→K (bx (if ZR k=true then [] else Q9 k msg)) (if ZR k=true then wg else UQ { k with next:=k.next+1 }) (if ZR k=true then 601 else 0) h'):ZAm.C (UQ k) (bx msg) h K:=by
 obtain⟨a1,a2,h16,h32,a3,a4,a5,_⟩:=PF hm;have hp:((2^(2*k.height.toNat):Nat):Int)=2^(2*k.height.toNat):=by push_cast;rfl
 cases hs:ZR k with
 | false =>
   rw[hs]at hK;unfold ZR at hs;have hs:=of_decide_eq_false hs;exact ZAm.s hm (by omega) hl hK
 | true =>
   rw[hs]at hK;unfold ZR at hs;have hs:=of_decide_eq_true hs;apply ZAm.c;unfold ZAm.m;refine Ji fun b h1 hb k1 eb hs1 =>?_;refine Ji fun b2 h2 hb2 k2 eb2 hs2 =>?_;have eb:h2[b]? = some (Jg JI YF (UQ k)):=k2.g eb;have eb2:h2[b2]? = some (Jg JI YF wg):=eb2;refine Qd (fun _ _=>False) ?_ (fun _ _ h=>h.elim);refine Qd (fun y h'=>y=(false,())∧Jc [] h2 h') ?_ ?_
   ·refine Jb (Je eb) ?_;refine ZBV.s fun h3 k3 =>?_;rw[hm,Jd (by simp)];refine⟨?_,k3⟩;rw[dF (show¬((bx msg).size:Int)>65536 by rw[Js];omega)]
   ·rintro _ h3 ⟨rfl,k3⟩;rw[Jd (by simp)];refine Jb (Je (k3.g eb)) ?_;refine ref1_LeftK.s hm fun h4 k4 =>?_;rw[Jf (show decide (((2^(2*k.height.toNat):Nat):Int)-k.next=0)=true from dT (by omega))];have k24:=k3.n k4;refine JL (k24.g eb2) fun h5 k5 e5 hs5=>Jb (Je e5) ?_;have:=k1.1;exact hK h5 (((k1.n k2).n k24).new k5 (by simp;omega))
def GO(v:JO.Ty) (s:By):JO.Ty:=(v.1,(v.2.1,(v.2.2.1,(v.2.2.2.1,(v.2.2.2.2.1,(bx s,v.2.2.2.2.2.2))))))
def ZA4.s{v:JO.Ty}{e:X6}{k:Za}{h:Ja}{K:JO.Ty→YF.Ty→Int→Hp} (a:Ue h v e) (hl:e.vec.length≤9223372036854775806) (hm:Yg k=true)
 (hbad:QG e=false→∀h',Jc [] h h'→K Ik wg 1900 h')
 (hsp:QG e=true→ZR k=true→∀h',Jc [] h h'→K Ik wg 601 h')
 (hok:QG e=true→ZR k=false→∀h',Jc [] h h'→K (GO v (Q9 k (Vk e))) (UQ { k with next:=k.next+1 }) 0 h'):ZA4.C v (UQ k) h K:=by
 apply ZA4.c;unfold ZA4.m;refine Ji fun b1 h1 hb1 k1 e1 hs1 =>?_;have e1:h1[b1]? = some (Jg Jk JO v):=e1;refine Ji fun b2 h2 hb2 k2 e2 hs2 =>?_;have e2:h2[b2]? = some (Jg JI YF (UQ k)):=e2;refine Ji fun b3 h3 hb3 k3 e3 hs3 =>?_;have e3:h3[b3]? = some (Jg Jk JO Ik):=e3;refine Ji fun b4 h4 hb4 k4 e4 hs4 =>?_;have e4:h4[b4]? = some (Jg JI YF wg):=e4;have e14:h4[b1]? = _:=(((k2.n k3).n k4)).g e1;have e24:h4[b2]? = _:=(k3.n k4).g e2;have e34:h4[b3]? = _:=k4.g e3;have k04:Jc [] h h4:=(((k1.n k2).n k3).n k4);have z1:=k1.1;have z2:=k2.1;have z3:=k3.1;have z4:=k4.1;refine Jb (Je e14) ?_;refine ZC2.s (a.keep k04) hl fun h5 k5 =>?_;have k05:Jc [] h h5:=k04.n k5;have e15:=k5.g e14;have e25:=k5.g e24;have e35:=k5.g e34;have e45:=k5.g e4
 have ending:∀(c:Int) (h5:Ja),Jc [] h h5→h5[b3]? = some (Jg Jk JO Ik)→h5[b4]? = some (Jg JI YF wg)→(∀h',Jc [] h h'→K Ik wg c h') →
  Go.Al.st JO (Pl.mk b3 0) (0,(0,(⟨none,0,0⟩,((Vector.replicate 32 0),(⟨none,0,0⟩,(⟨#[]⟩,())))))) h5 fun h6=>
  Go.Al.st YF (Pl.mk b4 0) (0,(0,(⟨#[]⟩,(⟨#[]⟩,(0,()))))) h6 fun h7=>
  ld JO (Pl.mk b3 0) h7 fun x4=>ld YF (Pl.mk b4 0) h7 fun x5=>K x4 x5 c h7:=fun c h5 k05 e35 e45 hc=>by
  refine JL e35 fun h6 k6 e6 hs6 =>?_;refine JL (k6.get e45 (by simp;omega)) fun h7 k7 e7 hs7 =>?_;refine Jb (Je (k7.get e6 (by simp;omega))) (Jb (Je e7) ?_);exact hc h7 ((k05.new k6 (by simp;omega)).new k7 (by simp;omega))
 cases hem:QG e with
 | false =>
   rw[Jf (by rfl)];exact ending 1900 h5 k05 e35 e45 (hbad hem)
 | true =>
   rw[Jd (by simp),Jf rfl];replace hsp:=hsp hem;replace hok:=hok hem;have hS:Hl (XK 1 [bx (YZ e)])=Vk e:=Eq.refl _;have sl:(Vk e).length≤65536:=by rw[P4];decide
   have bl:(YZ e).length≤60000:=by
    obtain⟨u0,u1,q0,q1,vx,v1,v16,t1,t24⟩:=Tx hem;unfold YZ;simp only[YAR,Jj,VU,WX,YAS,YAV];have:(Vector.toList e.root).length=32:=by simp
    omega
   generalize Vk e=M at *;refine Qd (fun y h'=>∃b,y=(Pl.mk b 0,bx (if ZR k=true then [] else Q9 k M),(if ZR k=true then 601 else 0),())∧h'[b]? = some (Jg JI YF (if ZR k=true then wg else UQ { k with next:=k.next+1 }))∧Jc [] h5 h'∧h5.size≤b) ?_ ?_
   ·refine Jb (Je e25) ⟨?_,?_⟩
    ·refine ZC1.s bl fun h6 k6=>⟨JN (by decide) (Je e25) k6,?_,?_⟩
     ·rw[hS];refine ZAm.u hm sl fun h7 k7 =>?_;refine Jq fun b5 h8 hb5 k8 e8 hs8 =>?_;have:=(k6.n k7).1;exact⟨b5,rfl,e8,(k6.n k7).n k8,by omega⟩
     ·refine Ji fun b6 h7 hb6 k7 e7 hs7=>⟨JN (by decide) (Je e25) (k6.n k7),?_⟩;rw[hS];refine ZAm.u hm sl fun h8 k8 =>?_;refine JL (k8.g e7) fun h9 k9 e9 hs9 =>?_;have:=k6.1;have:=k7.1;exact⟨b6,rfl,e9,((k6.n k7).n k8).new k9 (by simp;omega),by omega⟩
    ·refine Ji fun b7 h6 hb7 k6 e6 hs6=>⟨JN (by decide) (Je e25) k6,?_⟩;refine ZC1.s bl fun h7 k7=>⟨JN (by decide) (Je e25) (k6.n k7),?_⟩;rw[hS];refine ZAm.u hm sl fun h8 k8 =>?_;refine JL ((k7.n k8).g e6) fun h9 k9 e9 hs9 =>?_;have:=k6.1;exact⟨b7,rfl,e9,((k6.n k7).n k8).new k9 (by simp;omega),by omega⟩
   ·rintro _ h8 ⟨b,rfl,e8,k8,hb⟩;dsimp only;have k08:=k05.n k8
    cases hs:ZR k with
    | true =>
      rw[Jf (by rfl)];exact ending 601 h8 k08 (k8.g e35) (k8.g e45) (hsp hs)
    | false =>
      rw[hs]at e8;rw[Jd (by simp)];refine Qm (k:=JO) (k' := .s) (n:=36) (k8.g e15) (by decide) EV ?_;have e22:=Jw (o':=Jg Jk JO (GO v (Q9 k M))) (k8.g e15);have k22:Jc [b1] h8 (h8.setIfInBounds b1 (Jg Jk JO (GO v (Q9 k M)))):=Jo;have:(v.1,(v.2.1,(v.2.2.1,(v.2.2.2.1,(v.2.2.2.2.1,(bx (if false=true then [] else Q9 k M),v.2.2.2.2.2.2))))))=GO v (Q9 k M):=rfl;rw[this];have k0_22:=k08.new k22 (by simp;omega);generalize h8.setIfInBounds b1 (Jg Jk JO (GO v (Q9 k M)))=h22 at *;have lt1:=Jl e15;have e23b:=k22.get e8 (by simp;omega);refine Jb (Je e22) (Jb (Je e23b) ?_);refine JL (k22.get (k8.g e35) (by simp;omega)) fun h23 k23 e23 hs23 =>?_;have lt3:=Jl e35;refine⟨Je (k23.get e23b (by simp;omega)),?_⟩;refine JL (k23.get (k22.get (k8.g e45) (by simp;omega)) (by simp;omega)) fun h24 k24 e24 hs24 =>?_;refine Jb (Je (k24.get e23 (by simp;omega))) (Jb (Je e24) ?_);exact hok hs h24 ((k0_22.new k23 (by simp;omega)).new k24 (by simp;omega))
def itI{c:Prop} [Decidable c]{P Q:Prop} (h1:c→P) (h2:¬c→Q):if decide c=true then P else Q:=by
 by_cases h:c
 ·rw[Jf (dT h)];exact h1 h
 ·rw[Jd (by simpa using h)];exact h2 h
def D1{a b:Int}{P Q:Prop} (h1:a<b→P) (h2:b≤a→Q):if decide (a<b)=true then P else Q:=itI h1 fun h=>h2 (by omega)
def jF{a b:Int}{P Q:Prop} (h1:b<a→P) (h2:a≤b→Q):if decide (a>b)=true then P else Q:=itI h1 fun h=>h2 (by omega)
def PM{e:X6}:(Yy e).length=2+(putE e).length:=by unfold Yy;rw[YAR,Jj]
def PN{s:By}:(XS s).length=2+s.length:=by unfold XS;rw[YAR,Jj]
structure PO (h1 h:Ja) (s:Jn) (A:By):Prop where
 k:Jc [] h1 h
 r:Ip h Q7 s A
 o:∀q∈own s,h1.size≤q
def PO.keep{h1 h h':Ja}{s:Jn}{A:By} (p:PO h1 h s A) (k:Jc [] h h'):PO h1 h' s A:=⟨p.k.n k,p.r.keep k (by simp),p.o⟩
def PO.ap{n:Nat}{h1 h:Ja}{s:Jn}{A ys:By}{cs:List Value}{K:Jn→Hp} (p:PO h1 h s A) (hn:n=ys.length) (hc:cs=ys.flatMap Kd.u8.cells) (hb:A.length+ys.length≤1000000000)
 (hK:∀s' h',PO h1 h' s' (A++ys)→K s' h'):Go.Al.ap Q7 .u8 1 s n cs h K:=by
 refine apS p.r hn hc (by omega) fun s' h' r k o=>hK s' h' ⟨p.k.new k p.o,r,fun q hq =>?_⟩;have:=p.k.1;rcases XO o q hq with h | h
 ·exact p.o q h
 ·omega
def jW{n:Nat} (h:n<256):be n 1=[Gm (n:Int)]:=by
 have:∀k:Nat,k<256→be k 1=[Gm (k:Int)]:=by decide
 exact this n h
def PO.one{h1 h:Ja}{s:Jn}{A:By}{n:Nat}{K:Jn→Hp} (p:PO h1 h s A) (hn:n<256) (hb:A.length≤100000000)
 (hK:∀s' h',PO h1 h' s' (A++be n 1)→K s' h'):bs Q7 .u8 [Gm (n:Int)] h fun s8 h14=>JB s8 (s8.len*1) h14 fun cs=>Go.Al.ap Q7 .u8 1 s s8.len cs h14 K:=by
 refine QN fun b h2 hb2 k2 r2 hs2=>QI r2.seg (by simp[Kd.size]) ?_;refine(p.keep k2).ap (ys:=be n 1) (by rw[jW hn]) (by rw[jW hn]) (by rw[Jj];omega) hK
def DZ(m:YV):By:=ZK m++be m.ents.length 1
def D0{m:YV}:(DZ m).length=7:=by unfold DZ ZK;simp[Jj]
def CS{m:YV} (t:Nat):(DZ m++(m.ents.take t).flatMap Yy).length≤(JQ m).length:=by
 have h:=Gw (f:=Yy) m.ents t;unfold JQ DZ;simp only[YAR]at h ⊢;omega
def C9(m:YV):By:=DZ m++m.ents.flatMap Yy++be m.wants.length 1++(m.wants.flatMap fun z=>z.toList)++be m.objs.length 1
def I2{m:YV}:JQ m=C9 m++m.objs.flatMap XS:=by unfold JQ C9 DZ;rfl
def CT{m:YV} (t:Nat):(C9 m++(m.objs.take t).flatMap XS).length≤(JQ m).length:=by
 have h:=Gw (f:=XS) m.objs t;rw[I2];simp only[YAR]at h ⊢;omega
def I6:∀(l:List Qh),(l.flatMap fun z=>z.toList).length=32*l.length
 | []=>rfl
 | z::r=>by rw[YAK,YAR,I6 r];simp;omega
def ZBH.s{v:Xh.Ty}{J0:List JO.Ty}{m:YV}{h:Ja}{K:Ba→Int→Hp} (a:Sl h v J0 m) (o:vI m)
 (hK:∀h',Jc [] h h'→K (if Q3 m=true then bx (JQ m) else⟨#[]⟩) (if Q3 m=true then 0 else 2200) h'):ZBH.C v h K:=by
 apply ZBH.c;unfold ZBH.m;refine Ji fun b h1 hb k1 e1 hs1 =>?_;have e1:h1[b]? = some (Jg JC Xh v):=e1;have a1:=a.keep k1;have el:=a.e.len;have xl:=a.x.len;have wl:=a.w.len;have ol:=a.o.len;rw[YAU]at ol
 have hno:Q3 m=false→∀h',Jc [] h1 h'→K ⟨#[]⟩ 2200 h':=fun hp h' k'=>by
  have:=hK h' (k1.n k');rw[hp]at this;exact this
 have F:∀ {h'},Jc [] h1 h'→sm .i ((Pl.mk b 0).fld 0) m.kind h'∧sm .i ((Pl.mk b 0).fld 1) m.user h'∧sm .i ((Pl.mk b 0).fld 2) m.frm h'∧sm .sl ((Pl.mk b 0).fld 3) v.2.2.2.1 h'∧sm .sl ((Pl.mk b 0).fld 4) v.2.2.2.2.1 h'∧sm .sl ((Pl.mk b 0).fld 5) v.2.2.2.2.2.1 h':=fun k'=>by
  have:=Z4 (k'.g e1);rw[a.k,a.u,a.f]at this;exact this
 obtain⟨f0,f1,f2,f3,f4,f5⟩:=F (Jc.rfl (h:=h1));by_cases hok:0≤m.kind∧m.kind≤6∧0≤m.user∧m.user≤255∧0≤m.frm∧m.frm≤65535∧m.ents.length≤255∧m.wants.length≤255∧m.objs.length≤255
 case neg=>
  have hp:Q3 m=false:=by
   cases hp:Q3 m with
   | false=>rfl
   | true =>
     unfold Q3 YB at hp;simp only[YAs,Qg]at hp;exact absurd ⟨hp.1.1,hp.1.2.1,hp.1.2.2.1,hp.1.2.2.2.1,hp.1.2.2.2.2.1,hp.1.2.2.2.2.2.1,hp.1.2.2.2.2.2.2.1,hp.1.2.2.2.2.2.2.2.2.1,hp.1.2.2.2.2.2.2.2.2.2.1⟩ hok
  refine JH (true,()) h1 ?_ (by rw[Jf (by rfl)];exact hno hp h1 Jc.rfl);refine Jb f0 (D1 (fun _=>⟨rfl,rfl⟩) fun c0=>Jb f0 (jF (fun _=>⟨rfl,rfl⟩) fun c1=>Jb f1 (D1 (fun _=>⟨rfl,rfl⟩) fun c2=>Jb f1 (jF (fun _=>⟨rfl,rfl⟩) fun c3=>Jb f2 (D1 (fun _=>⟨rfl,rfl⟩) fun c4=>Jb f2 (jF (fun _=>⟨rfl,rfl⟩) fun c5=>Jb f3 (jF (fun _=>⟨rfl,rfl⟩) fun c6=>Jb f4 (jF (fun _=>⟨rfl,rfl⟩) fun c7=>Jb f5 ⟨?_,rfl⟩))))))));rw[dT (show((v.2.2.2.2.2.1.len:Int)>255) by omega)]
 obtain⟨o1,o2,o3,o4,o5,o6,o7,o8,o9⟩:=hok;refine JH (false,()) h1 ?_ ?_
 ·refine Jb f0 (D1 (fun c=>by omega) fun c0=>Jb f0 (jF (fun c=>by omega) fun c1=>Jb f1 (D1 (fun c=>by omega) fun c2=>Jb f1 (jF (fun c=>by omega) fun c3=>Jb f2 (D1 (fun c=>by omega) fun c4=>Jb f2 (jF (fun c=>by omega) fun c5=>Jb f3 (jF (fun c=>by omega) fun c6=>Jb f4 (jF (fun c=>by omega) fun c7=>Jb f5 ⟨?_,rfl⟩))))))));rw[dF (show¬((v.2.2.2.2.2.1.len:Int)>255) by omega)]
 rw[Jd (by simp)];refine Jb f0 (Jb f1 (Jb f2 (Jb f3 ?_)));have n0:((m.kind.toNat:Nat):Int)=m.kind:=YAm (by omega);have n1:((m.user.toNat:Nat):Int)=m.user:=YAm (by omega);have n2:((m.frm.toNat:Nat):Int)=m.frm:=YAm (by omega);rw[←n0];refine ZAA.s (n:=1) (by decide) (by decide) (by omega) fun h3 k3=>⟨(F k3).2.2.2.1,(F k3).2.2.1,(F k3).2.1,?_⟩;show JS (bx [77,71]) _ _;refine JM (by rw[Jj];decide) ?_;rw[←n1];refine ZAA.s (n:=1) (by decide) (by decide) (by omega) fun h4 k4 =>?_;have k14:Jc [] h1 h4:=k3.n k4;refine⟨(F k14).2.2.2.1,(F k14).2.2.1,JM (by simp[Jj]) ?_⟩;rw[←n2];refine ZAA.s (n:=2) (by decide) (by decide) (by omega) fun h5 k5 =>?_;have k15:Jc [] h1 h5:=k14.n k5;refine⟨(F k15).2.2.2.1,JM (by simp[Jj]) ?_⟩;rw[el,xl];refine ZAA.s (n:=1) (by decide) (by decide) (by omega) fun h6 k6=>JM (by simp[Jj]) ?_;have k16:Jc [] h1 h6:=k15.n k6;show js 5 (bx (DZ m)) h6 _;refine P3 fun s5 h7 k7 r7 ow7 =>?_;have z16:=k16.1;have p7:PO h1 h7 s5 (DZ m):=⟨k16.n k7,r7,fun q hq=>by rw[ow7]at hq;simp at hq;omega⟩;have hh:=D0 (m:=m);refine JF (fun(y:Jn×Int×Unit) (hx:Ja)=>∃t:Nat,y.2.1=t∧t≤m.ents.length∧PO h1 hx y.1 (DZ m++(m.ents.take t).flatMap Yy)∧(DZ m++(m.ents.take t).flatMap Yy).length≤131080∧∀e∈m.ents.take t,JJ e=true) (fun(y:Jn×Int×Unit) _=>m.ents.length-y.2.1.toNat) ?_ ?_
 ·exact⟨0,rfl,YAr _,by rw[YAj];simpa using p7,by rw[YAj];simp[hh],by simp⟩
 rintro⟨(s8:Jn),(ii:Int),_⟩ h8 ⟨t,et,ht,p8,l8,g8⟩;dsimp only at et p8 ⊢;subst et;refine Jb (F p8.k).2.2.2.1 ?_;by_cases hlt:t<m.ents.length
 ·rw[Jf (show decide ((t:Int)<(v.2.2.2.1.len:Int))=true from dT (by omega))];have hw:Jr ((t:Int)+1)=((t+1:Nat):Int):=w6 (by omega);rw[hw];have hin:m.ents[t]∈m.ents:=YAQ hlt;have hx:=(a1.keep p8.k).x.getI (i:=t) (by omega) hlt;refine Qd (fun y hx=>PO h1 hx y.1 (DZ m++(m.ents.take (t+1)).flatMap Yy)∧(DZ m++(m.ents.take (t+1)).flatMap Yy).length≤131080∧∀e∈m.ents.take (t+1),JJ e=true) ?_ ?_
  ·refine Jb (F p8.k).2.2.2.1 ?_;refine JK (a1.keep p8.k).e (x:=J0[t]'(by omega)) (by omega) (by rw[YAl];exact YAN (by omega)) rfl ?_;refine ZDT.s hx (o.v _ hin) fun h10 k10 =>?_;have p10:=p8.keep k10;have rl:=p8.r.len;by_cases hp:JJ m.ents[t]=true
   case neg=>
    rw[Jd hp,Jd hp];refine JH (true,()) h10 (by rw[Jf (by decide)];exact⟨rfl,rfl⟩) ?_;rw[Jf (by rfl)];refine hno ?_ h10 p10.k
    cases hq:Q3 m with
    | false=>rfl
    | true =>
      unfold Q3 YB at hq;simp only[YAs,Qg]at hq;exact absurd (List.all_eq_true.1 hq.1.2.2.2.2.2.2.2.1 _ hin) hp
   rw[Jf hp,Jf hp];by_cases hbig:(DZ m++(m.ents.take t).flatMap Yy).length>65536
   ·refine JH (true,()) h10 (by rw[Jd (by simp)];exact⟨by rw[dT (by omega)],rfl⟩) ?_;rw[Jf (by rfl)];refine hno ?_ h10 p10.k;have:=CS (m:=m) t;unfold Q3;rw[dF (by omega),Bool.and_false]
   refine JH (false,()) h10 (by rw[Jd (by simp)];exact⟨by rw[dF (by omega)],rfl⟩) ?_;rw[Jd (by simp)];have hpl:=PZ hp;rw[Js];refine ZAA.s (n:=2) (by decide) (by decide) (by omega) fun h12 k12=>JM (by rw[Jj];omega) ?_;refine(p10.keep k12).ap (ys:=Yy m.ents[t]) (by rw[Js];rfl) (by rw[Yx];rfl) (by rw[PM];omega) fun s9 h9 p9 =>?_;rw[YAB,←XY hlt]at p9;refine⟨p9,?_,fun e he =>?_⟩
   ·rw[XY hlt,←YAB,YAR];rw[PM];omega
   ·rw[YAi hlt]at he;rcases List.mem_append.1 he with h | h
    ·exact g8 e h
    ·simp at h;subst h;exact hp
  ·rintro⟨(s9:Jn),_⟩ h9 ⟨p9,l9,g9⟩;exact⟨⟨t+1,rfl,by omega,p9,l9,g9⟩,by show m.ents.length-((t+1:Nat):Int).toNat<m.ents.length-((t:Nat):Int).toNat;omega⟩
 rw[Jd (show¬decide ((t:Int)<(v.2.2.2.1.len:Int))=true from dn (by omega))];obtain rfl:t=m.ents.length:=by omega
 rw[YAh (YAn _)]at p8 l8 g8;refine Jb (F p8.k).2.2.2.2.1 ?_;rw[wl];refine p8.one (by omega) (by omega) fun s9 h9 p9 =>?_;generalize hB:DZ m++m.ents.flatMap Yy++be m.wants.length 1=B at p9;have lB:B.length≤131081:=by rw[←hB,YAR,Jj];omega
 refine JF (fun(y:Jn×Int×Unit) (hx:Ja)=>∃t:Nat,y.2.1=t∧t≤m.wants.length∧PO h1 hx y.1 (B++(m.wants.take t).flatMap fun z=>z.toList)) (fun(y:Jn×Int×Unit) _=>m.wants.length-y.2.1.toNat) ?_ ?_
 ·exact⟨0,rfl,YAr _,by rw[YAj];simpa using p9⟩
 rintro⟨(s10:Jn),(ii:Int),_⟩ h10 ⟨t,et,ht,p10⟩;dsimp only at et p10 ⊢;subst et;have fl:=I6 (m.wants.take t);rw[YAX]at fl;refine Jb (F p10.k).2.2.2.2.1 ?_;by_cases hlt:t<m.wants.length
 ·rw[Jf (show decide ((t:Int)<(v.2.2.2.2.1.len:Int))=true from dT (by omega))];have hw:Jr ((t:Int)+1)=((t+1:Nat):Int):=w6 (by omega);rw[hw];refine Jb (F p10.k).2.2.2.2.1 ?_;refine JK (a1.keep p10.k).w (x:=m.wants[t]) (by omega) (by rw[YAl];exact YAN hlt) rfl ?_;refine ZAZ.s fun h12 k12 =>?_;refine(p10.keep k12).ap (ys:=(m.wants[t]).toList) (by rw[Js]) (by rw[Yx]) (by rw[YAR,fl];simp;omega) fun s11 h11 p11 =>?_;rw[YAB,←XY (f:=fun z=>z.toList) hlt]at p11;exact⟨⟨t+1,rfl,by omega,p11⟩,by show m.wants.length-((t+1:Nat):Int).toNat<m.wants.length-((t:Nat):Int).toNat;omega⟩
 rw[Jd (show¬decide ((t:Int)<(v.2.2.2.2.1.len:Int))=true from dn (by omega))];obtain rfl:t=m.wants.length:=by omega
 rw[YAh (YAn _)]at p10;refine Jb (F p10.k).2.2.2.2.2 ?_;rw[ol];have fl:=I6 m.wants;refine p10.one (by omega) (by rw[YAR];omega) fun s12 h12 p12 =>?_;have hC:B++(m.wants.flatMap fun z=>z.toList)++be m.objs.length 1=C9 m:=by rw[←hB];rfl
 have lC:(C9 m).length≤140000:=by rw[←hC,YAR,YAR,Jj];omega
 rw[hC]at p12;refine JF (fun(y:Jn×Int×Unit) (hx:Ja)=>∃t:Nat,y.2.1=t∧t≤m.objs.length∧PO h1 hx y.1 (C9 m++(m.objs.take t).flatMap XS)∧(C9 m++(m.objs.take t).flatMap XS).length≤300000∧∀s∈m.objs.take t,s.length≤65535) (fun(y:Jn×Int×Unit) _=>m.objs.length-y.2.1.toNat) ?_ ?_
 ·exact⟨0,rfl,YAr _,by rw[YAj];simpa using p12,by rw[YAj];simp;omega,by simp⟩
 rintro⟨(s13:Jn),(ii:Int),_⟩ h13 ⟨t,et,ht,p13,l13,g13⟩;dsimp only at et p13 ⊢;subst et;have rl:=p13.r.len;refine Jb (F p13.k).2.2.2.2.2 ?_;by_cases hlt:t<m.objs.length
 ·rw[Jf (show decide ((t:Int)<(v.2.2.2.2.2.1.len:Int))=true from dT (by omega))];have hw:Jr ((t:Int)+1)=((t+1:Nat):Int):=w6 (by omega);rw[hw];have hin:m.objs[t]∈m.objs:=YAQ hlt;have hix:(m.objs.map bx)[((t:Nat):Int).toNat]? = some (bx m.objs[t]):=by rw[YAl,YAO,YAN hlt];rfl
  have oseg:=(a1.keep p13.k).o;refine Qd (fun y hx=>PO h1 hx y.1 (C9 m++(m.objs.take (t+1)).flatMap XS)∧(C9 m++(m.objs.take (t+1)).flatMap XS).length≤300000∧∀s∈m.objs.take (t+1),s.length≤65535) ?_ ?_
  ·refine JH (decide (m.objs[t].length>65535∨(C9 m++(m.objs.take t).flatMap XS).length>65536),()) h13 ?_ ?_
   ·refine Jb (F p13.k).2.2.2.2.2 (JK oseg (x:=bx m.objs[t]) (by omega) hix rfl ?_);rw[Js];refine itI (fun c=>⟨by rw[dT (by omega)],rfl⟩) fun c=>⟨?_,rfl⟩;by_cases hbig:(C9 m++(m.objs.take t).flatMap XS).length>65536
    ·rw[dT (show((s13.len:Int)>65536) by omega),dT (.inr hbig)]
    ·rw[dF (show¬((s13.len:Int)>65536) by omega),dF (by omega)]
   by_cases hbad:m.objs[t].length>65535∨(C9 m++(m.objs.take t).flatMap XS).length>65536
   ·rw[Jf (dT hbad)];refine hno ?_ h13 p13.k
    cases hq:Q3 m with
    | false=>rfl
    | true =>
      unfold Q3 YB at hq;simp only[YAs,Qg]at hq;have h1:=List.all_eq_true.1 hq.1.2.2.2.2.2.2.2.2.2.2 _ hin;have h2:=CT (m:=m) t;simp at h1;omega
   rw[Jd (by simpa using hbad)];refine Jb (F p13.k).2.2.2.2.2 (JK oseg (x:=bx m.objs[t]) (by omega) hix rfl ?_);refine Jb (F p13.k).2.2.2.2.2 (Xx oseg (x:=bx m.objs[t]) (by omega) hix rfl fun l5 hl5=>Jb hl5 ?_);rw[Js];refine ZAA.s (n:=2) (by decide) (by decide) (by omega) fun h14 k14=>⟨JN (by decide) hl5 k14,(F (p13.k.n k14)).2.2.2.2.2,?_⟩;refine JM (by rw[Jj];omega) ?_;refine(p13.keep k14).ap (ys:=XS m.objs[t]) (by rw[Js];rfl) (by rw[Yx];rfl) (by rw[PN];omega) fun s15 h15 p15 =>?_;rw[YAB,←XY hlt]at p15;refine⟨p15,?_,fun e he =>?_⟩
   ·rw[XY hlt,←YAB,YAR];rw[PN];omega
   ·rw[YAi hlt]at he;rcases List.mem_append.1 he with h | h
    ·exact g13 e h
    ·simp at h;subst h;omega
  ·rintro⟨(s9:Jn),_⟩ h9 ⟨p9,l9,g9⟩;exact⟨⟨t+1,rfl,by omega,p9,l9,g9⟩,by show m.objs.length-((t+1:Nat):Int).toNat<m.objs.length-((t:Nat):Int).toNat;omega⟩
 rw[Jd (show¬decide ((t:Int)<(v.2.2.2.2.2.1.len:Int))=true from dn (by omega))];obtain rfl:t=m.objs.length:=by omega
 rw[YAh (YAn _)]at p13 l13 g13 rl;rw[←I2]at p13 l13 rl;by_cases hbig:(JQ m).length>65536
 ·rw[Jf (dT (by omega))];refine hno ?_ h13 p13.k;unfold Q3;rw[dF (by omega),Bool.and_false]
 rw[Jd (by simp;omega)]
 have hp:Q3 m=true:=by
  unfold Q3 YB;simp only[YAs,Qg,YAA];exact⟨⟨o1,o2,o3,o4,o5,o6,o7,g8,o8,o9,g13⟩,by omega⟩
 refine We p13.r.seg fun q =>?_;have:=hK h13 (k1.n p13.k);rw[hp]at this;exact this
def Y1(m:YV):List (Int×Nat):=[(77,1),(71,1),(m.kind,1),(m.user,1),(m.frm,2)]
def jd(p:Int×Nat):By:=be p.1.toNat p.2
def RX{m:YV}:(Y1 m).flatMap jd=ZK m:=by
 unfold Y1 ZK jd;simp only[YAK,YAL,YAD];have e1:be (77:Int).toNat 1=[77]:=by decide
 have e2:be (71:Int).toNat 1=[71]:=by decide
 rw[e1,e2];simp only[YAB]
 rfl
def qY(m:YV) (t:Nat):(((Y1 m).take t).flatMap jd).length≤6:=by
 have h:=Gw (f:=jd) (Y1 m) t;have:((Y1 m).flatMap jd).length=6:=by rw[RX];unfold ZK;simp[Jj]
 omega
def ZD7.s{w b:Nat}{v:Xh.Ty}{J0:List JO.Ty}{m:YV}{h0 h:Ja}{s:Jn}{K:Int→Hp} (q:NW h0 h w s []) (eb:h0[b]? = some (Jg JC Xh v)) (a:Sl h0 v J0 m) (o:vI m) (hk:0≤m.kind∧m.kind≤6)
 (hbad:∀e h',e≠0→Jc [] h0 h'→Q3 m=false→K e h')
 (hok:Q3 m=true→∀h' s',NW h0 h' w s' (JQ m)→K 0 h'):ZD7.C (some ⟨w,0⟩) (some ⟨b,0⟩) h K:=by
 apply ZD7.c;unfold ZD7.m;have lw:=Jl q.i.o;have ls:=q.i.r.lt;refine Ji fun b1 h1 hb1 k1 e1 hs1 =>?_;have e1:h1[b1]? = some (Jg X0 .p (some ⟨w,0⟩)):=e1
 have i1:BW X0 h0 h1 w b1 s []:=⟨q.keep k1 (by simp),e1,fun hm=>by
  rcases List.mem_cons.1 hm with e | e
  ·omega
  ·have:=ls b1 e;omega⟩
 have ff:∀ {hh s' bs'},BW X0 h0 hh w b1 s' bs'→_:=fun i=>Z4 (i.q.k.g eb);refine Z2 (l:=[77,71]) (i:=0) (by decide) (Z2 (l:=[77,71]) (i:=1) (by decide) ?_);refine Jp (Jb (ff i1).1 (Jp (Jb (ff i1).2.1 (Jp (Jb (ff i1).2.2.1 ?_)))));rw[a.k,a.u,a.f];have nl:(Y1 m).length=5:=rfl;refine JF (fun(y:Int×Unit) (h2:Ja)=>∃(t:Nat) (s1:Jn),y.1=t∧t≤5∧BW X0 h0 h2 w b1 s1 (((Y1 m).take t).flatMap jd)∧∀p∈(Y1 m).take t,0≤p.1∧p.1<((256^p.2:Nat):Int)) (fun(y:Int×Unit) _=>5-y.1.toNat) ?_ ?_
 ·exact⟨0,s,rfl,by decide,by simpa using i1,by simp⟩
 rintro⟨(jj:Int),_⟩ h2 ⟨t,s1,e,ht,i2,hp⟩;dsimp only at e ⊢;subst e;by_cases hlt:t<5
 ·rw[Jf (show decide ((t:Int)<5)=true from dT (by omega))];refine⟨by show(0:Int)≤t;omega,by show(t:Int)<5;omega,?_⟩
  have hel:∀d:Kd.Ty (Kd.ar 2 .i),(((((((Vector.replicate 5 ((Vector.replicate 2 0):Kd.Ty (Kd.ar 2 .i))).setIfInBounds 0 (((Vector.replicate 2 (0:Int)).setIfInBounds 0 ((([77,71]:By)[0]).toNat:Int)).setIfInBounds 1 1)).setIfInBounds 1 (((Vector.replicate 2 (0:Int)).setIfInBounds 0 ((([77,71]:By)[1]).toNat:Int)).setIfInBounds 1 1)).setIfInBounds 2 (((Vector.replicate 2 (0:Int)).setIfInBounds 0 m.kind).setIfInBounds 1 1)).setIfInBounds 3 (((Vector.replicate 2 (0:Int)).setIfInBounds 0 m.user).setIfInBounds 1 1)).setIfInBounds 4 (((Vector.replicate 2 (0:Int)).setIfInBounds 0 m.frm).setIfInBounds 1 2)).toList.getD (t:Int).toNat d)
   = (#v[(Y1 m)[t].1,((Y1 m)[t].2:Int)]:Vector Int 2):=by
   intro d;rw[YAl];obtain rfl | rfl | rfl | rfl | rfl:t=0∨t=1∨t=2∨t=3∨t=4:=by omega
   all_goals rfl
  have hfit:∀d:Kd.Ty (Kd.ar 2 .i),True:=fun _=>trivial;refine Jq fun b2 h3 hb2 k3 e3 hs3 =>?_;rw[hel]at e3;have i3:=i2.keep k3 (by simp);refine Jb (Je i3.e) ?_;refine⟨by decide,by decide,?_⟩;refine Jb (Vl e3 (i:=0) (by decide)) ?_;refine⟨by decide,by decide,?_⟩;refine Jb (Vl e3 (i:=1) (by decide)) ?_
  have hn:(Y1 m)[t].2=1∨(Y1 m)[t].2=2∨(Y1 m)[t].2=4:=by
   obtain rfl | rfl | rfl | rfl | rfl:t=0∨t=1∨t=2∨t=3∨t=4:=by omega
   all_goals simp[Y1]
  have hl6:=qY m t;refine i3.numG (n:=(Y1 m)[t].2) hn (by omega) (fun e' h' he k' hh =>?_) fun a1 a2 a3 h5 s5 i5 =>?_
  ·skip
   rw[Jf (by simpa using he)];refine hbad e' h' he k' ?_;have hx:¬(0≤(Y1 m)[t].1∧(Y1 m)[t].1<((256^(Y1 m)[t].2:Nat):Int)):=fun hx=>hh ⟨hx.1,hx.2,by omega⟩
   cases hpm:Q3 m with
   | false=>rfl
   | true =>
     exfalso
     unfold Q3 YB at hpm;simp only[YAs,Qg]at hpm;obtain⟨⟨c1,c2,c3,c4,c5,c6,_⟩,_⟩:=hpm;apply hx;obtain rfl | rfl | rfl | rfl | rfl:t=0∨t=1∨t=2∨t=3∨t=4:=by omega
     ·exact⟨by show(0:Int)≤77;decide,by show(77:Int)<((256^1:Nat):Int);decide⟩
     ·exact⟨by show(0:Int)≤71;decide,by show(71:Int)<((256^1:Nat):Int);decide⟩
     ·exact⟨c1,by show m.kind<((256^1:Nat):Int);omega⟩
     ·exact⟨c3,by show m.user<((256^1:Nat):Int);omega⟩
     ·exact⟨c5,by show m.frm<((256^2:Nat):Int);omega⟩
  ·skip
   rw[Jd (by decide)];have hw:Jr ((t:Int)+1)=((t+1:Nat):Int):=w6 (by omega);rw[hw];refine⟨⟨t+1,s5,rfl,by omega,by rw[XY (by omega)];exact i5,fun p hpm =>?_⟩,by simp;omega⟩;rw[YAi (by omega)]at hpm;rcases List.mem_append.1 hpm with h' | h'
   ·exact hp p h'
   ·simp at h';subst h';exact⟨a1,a2⟩
 rw[Jd (show¬decide ((t:Int)<5)=true from dn (by omega))];obtain rfl:t=5:=by omega
 have h5:(Y1 m).take 5=Y1 m:=rfl;rw[h5,RX]at i2;rw[h5]at hp;have hu:=hp (m.user,1) (by simp[Y1]);have hf:=hp (m.frm,2) (by simp[Y1]);dsimp only at hu hf;have hd6:(ZK m).length=6:=by unfold ZK;simp[Jj]
 have el:v.2.2.2.1.len=m.ents.length:=by rw[a.e.len,a.x.len]
 have wl:v.2.2.2.2.1.len=m.wants.length:=a.w.len;have ol:v.2.2.2.2.2.1.len=m.objs.length:=by rw[a.o.len,YAU]
 have no:∀ {P:Prop},(Q3 m=true→P)→¬P→Q3 m=false:=fun h h'=>by
  cases hpm:Q3 m with
  | false=>rfl
  | true=>exact absurd (h hpm) h'
 have dec:Q3 m=true→(m.ents.length≤255∧(∀e∈m.ents,JJ e=true)∧m.wants.length≤255∧m.objs.length≤255∧(∀x∈m.objs,x.length≤65535))∧(JQ m).length≤65536:=fun hpm=>by
  unfold Q3 YB at hpm;simp only[YAs,Qg]at hpm;obtain⟨⟨c1,c2,c3,c4,c5,c6,c7,c8,c9,c10,c11⟩,c12⟩:=hpm;exact⟨⟨c7,List.all_eq_true.1 c8,c9,c10,fun x hx=>of_decide_eq_true (List.all_eq_true.1 c11 x hx)⟩,c12⟩
 have tot:∀pre rest:By,JQ m=pre++rest→(JQ m).length≤65536→pre.length≤65536:=fun pre rest e hh=>by rw[e,YAR]at hh;omega
 refine Jb (Je i2.e) (Jp (Jb (ff i2).2.2.2.1 ?_));apply ZCD.c;unfold ZCD.m;rw[el];refine i2.numG (n:=1) (by decide) (by omega) (fun e' h' he k' hh =>?_) fun a1 a2 a3 h6 s6 i6 =>?_
 ·dsimp only;rw[Jf (by simpa using he)];rw[Jf (by simpa using he)];exact hbad e' h' he k' (no (P:=m.ents.length≤255) (fun hpm=>(dec hpm).1.1) fun hx=>hh ⟨by omega,by omega,by omega⟩)
 dsimp only;rw[Jd (by decide)];rw[YAl]at i6;refine Dc i6 a.e a.x o.v (by omega) (by simp[Jj];omega) (fun e' h' he k' hh =>?_) fun pe le h7 s7 i7 =>?_
 ·skip
  rw[Jf (by simpa using he)];exact hbad e' h' he k' (no dec fun hx=>hh ⟨hx.1.2.1,tot _ (be m.wants.length 1++((m.wants.flatMap fun z=>z.toList)++(be m.objs.length 1++m.objs.flatMap XS))) (by unfold JQ;simp only[YAB]) hx.2⟩)
 rw[Jd (by decide)];refine Jb (Je i7.e) (Jp (Jb (ff i7).2.2.2.2.1 (Jb (Je i7.e) ?_)));apply ZCK.c;unfold ZCK.m;rw[wl];refine i7.numG (n:=1) (by decide) le (fun e' h' he k' hh =>?_) fun b1' b2' b3' h8 s8 i8 =>?_
 ·dsimp only;rw[Jf (by simpa using he)];rw[Jf (by simpa using he)];refine hbad e' h' he k' (no dec fun hx=>hh ⟨by omega,by have:=hx.1.2.2.1;omega,?_⟩);have:=tot (ZK m++be m.ents.length 1++m.ents.flatMap Yy++be m.wants.length 1) ((m.wants.flatMap fun z=>z.toList)++(be m.objs.length 1++m.objs.flatMap XS)) (by unfold JQ;simp only[YAB]) hx.2;rw[YAR,Jj]at this;exact this
 dsimp only;rw[Jd (by decide)];rw[YAl]at i8;refine Dd i8 a.w (by omega) (by rw[YAR,Jj];exact b3') (fun e' h' he k' hh =>?_) fun lz h9 s9 i9 =>?_
 ·rw[Jf (by simpa using he)];exact hbad e' h' he k' (no dec fun hx=>hh (tot _ (be m.objs.length 1++m.objs.flatMap XS) (by unfold JQ;simp only[YAB]) hx.2))
 rw[Jd (by decide)];refine Jb (Je i9.e) (Jp (Jb (ff i9).2.2.2.2.2 ?_));apply ZDB.c;unfold ZDB.m;rw[ol];refine i9.numG (n:=1) (by decide) lz (fun e' h' he k' hh =>?_) fun c1' c2' c3' h10 s10 i10 =>?_
 ·dsimp only;rw[Jf (by simpa using he)];refine hbad e' h' he k' (no dec fun hx=>hh ⟨by omega,by have:=hx.1.2.2.2.1;omega,?_⟩);have:=tot (ZK m++be m.ents.length 1++m.ents.flatMap Yy++be m.wants.length 1++(m.wants.flatMap fun z=>z.toList)++be m.objs.length 1) (m.objs.flatMap XS) (by unfold JQ;simp only[YAB]) hx.2;rw[YAR,Jj]at this;exact this
 dsimp only;rw[Jd (by decide)];rw[YAl]at i10;refine De i10 a.o (by omega) (by rw[YAR,Jj];exact c3') (fun e' h' he k' hh =>?_) fun po lo h11 s11 i11 =>?_
 ·exact hbad e' h' he k' (no dec fun hx=>hh ⟨hx.1.2.2.2.2,hx.2⟩)
 ·refine hok ?_ h11 s11 i11.q;unfold Q3 YB;simp only[YAs,Qg];refine⟨⟨hk.1,hk.2,hu.1,by omega,hf.1,by omega,by omega,List.all_eq_true.2 pe,by omega,by omega,List.all_eq_true.2 fun x hx=>dT (po x hx)⟩,lo⟩
def ZCl.s{v:Xh.Ty}{J0:List JO.Ty}{m:YV}{h:Ja}{K:Ba→Int→Hp} (a:Sl h v J0 m) (o:vI m)
 (hK:∀h',Jc [] h h'→K (if Q3 m=true then bx (JQ m) else⟨#[]⟩) (if Q3 m=true then 0 else 2200) h'):ZCl.C v h K:=by
 apply ZCl.c;unfold ZCl.m;refine Ji fun b1 h1 hb1 k1 e1 hs1 =>?_;have e1:h1[b1]? = some (Jg JC Xh v):=e1;refine ZBl.s fun h2 k2 i2 =>?_;have q2:NW h1 h2 h1.size ⟨none,0,0⟩ []:=⟨k2,i2,YAn _,by simp[own]⟩;have f2:=Z4 (k2.g e1);have a1:=a.keep k1;by_cases hk:0≤m.kind∧m.kind≤6
 ·refine Qd (fun y h'=>Jc [] h1 h'∧((y=(true,())∧Q3 m=false)∨(y=(false,())∧Q3 m=true∧∃s,NW h1 h' h1.size s (JQ m)))) ?_ ?_
  ·refine Jb f2.1 ?_;rw[a.k,Jd (by simp;omega)];refine Jb f2.1 ?_;rw[a.k,Jd (by simp;omega)];refine ZD7.s q2 e1 a1 o hk (fun e h' he k' hp=>⟨k',.inl ⟨by simp[he],hp⟩⟩) fun hp h' s' q'=>⟨q'.k,.inr ⟨by simp,hp,s',q'⟩⟩
  ·rintro y h3 ⟨k3,⟨rfl,hp⟩ | ⟨rfl,hp,s,q⟩⟩
   ·rw[Jf (by rfl)];have:=hK h3 (k1.n k3);rw[hp]at this;exact this
   ·rw[Jd (by simp)];refine ZAK.s q.i ?_;have:=hK h3 (k1.n k3);rw[hp]at this;exact this
 ·have hp:Q3 m=false:=by
   cases hpm:Q3 m with
   | false=>rfl
   | true =>
     exfalso
     unfold Q3 YB at hpm;simp only[YAs,Qg]at hpm;exact hk ⟨hpm.1.1,hpm.1.2.1⟩
  rw[hp]at hK;refine JH (true,()) h2 ?_ ?_
  ·refine Jb f2.1 ?_;rw[a.k];by_cases h0:m.kind<0
   ·rw[Jf (by simpa using h0)];exact⟨rfl,rfl⟩
   ·rw[Jd (by simpa using h0)];refine Jb f2.1 ?_;rw[a.k,Jf (dT (show m.kind>6 by omega))];exact⟨rfl,rfl⟩
  ·rw[Jf (by rfl)];exact hK h2 (k1.n k2)
section
variable {m:Mb}{u:Int}{X:Fs}
end
section
variable {w:Wk}
variable (hX:XQ w.X=true)
include hX
end
def ZAj.s{d:Ba}{h:Ja}{K:Kd.Ty (.ar 32 .u8)→Hp} (hd:d.size≤65536) (hK:∀h',Jc [] h h'→K (Jy d) h'):ZAj.C d h K:=by
 apply ZAj.c;unfold ZAj.m;refine Ji fun b1 h1 hb1 k1 e1 hs1 =>?_;refine QN fun bq h2 hbq k2 r2 hs2 =>?_
 have hl:(XK 0 [d]).length≤1000000:=by
  unfold XK QT;simp[Jj];omega
 refine ZCC.s (tag:=0) r2.seg (by decide) (by simp only[lens,YAZ,YAa,YAe,YAf];omega) hl fun h3 k3 =>?_;refine Jq fun b2 h5 hb2 k5 e5 hs5 =>?_;refine Jb (Je e5) ?_;have k15:Jc [] h1 h5:=(k2.n k3).n k5;refine JL (k15.g e1) fun h6 k6 e6 hs6 =>?_;refine Jb (Je e6) ?_;have:=k1.1;exact hK h6 ((k1.n k15).new k6 (by simp;omega))
def YN(hv:List Ba) (o:Ba):Prop:=∃d∈hv,Jy d=Jy o
def E5{hv:List Ba} (hz:∀o∈hv,o.size≤65536){h:YI}:Qw hv h=none↔¬ ∃d∈hv,Jy d=h:=by
 unfold Qw;rw[List.find?_eq_none]
 constructor
 ·rintro h1 ⟨d,hd,e⟩;exact h1 d hd (by simp[hz d hd,e])
 ·rintro h1 d hd h2;simp only[YAs,Qg]at h2;exact h1 ⟨d,hd,h2.2⟩
structure Lev (X:Fs) (hv:List Ba) (i:Nat):Prop where
 l0:1≤i→∀t∈X,YN hv (JY t)
 l1:2≤i→∀t∈X,∀x∈t,YN hv (if x.kind=1 then bx (JW x.ents) else Xp x.data)
 l2:3≤i→∀t∈X,∀x∈t,x.kind≠1→∀o∈Xo x.data,YN hv o
 l3:4≤i→∀t∈X,∀x∈t,x.kind≠1→∀o∈Qn x.data,YN hv o
def IA{K:Kn}{l:List YI}:(Xe K l).length≤l.length:=List.length_filter_le _ _
def jz{K:Kn}{d:Ba} (hd:d.size≤4096):(Vd K d).length≤64:=by
 have h1:=GH (d:=d);have h2:=GJ (d:=d);have m1:=IA (K:=K) (l:=(Xo d).map Jy);have m2:=IA (K:=K) (l:=(Qn d).map Jy);rw[YAU]at m1 m2;unfold Vd
 cases K (Jy (Xp d)) with
 | none=>simp
 | some r =>
   dsimp only;split <;> omega
def zD{K:Kn}{X:Fs} (hm:XQ X=true):(M1 K X).length≤60000:=by
 obtain⟨_,h2,h3,_⟩:=IL hm
 have a:∀ {t:IX},(∀x∈t,XF x=true)→(t.flatMap (Sg K)).length≤64*t.length:=by
  intro t
  induction t with
  | nil=>intro _;simp
  | cons x r ih =>
    intro h;have h1:=ih fun y hy=>h y (by simp[hy])
    have h2:(Sg K x).length≤64:=by
     unfold Sg;split
     ·have:=IA (K:=K) (l:=[Z5 x]);simp at this;omega
     ·exact jz (VY (h x (by simp))).1
    rw[YAK,YAR,YAS];omega
 have b:∀ {Y:Fs},(∀t∈Y,Xa t=true)→(M1 K Y).length≤2048*Y.length:=by
  intro Y
  induction Y with
  | nil=>intro _;simp[M1]
  | cons t r ih =>
    intro h;have h1:=ih fun y hy=>h y (by simp[hy]);obtain⟨_,q2,q3⟩:=VJ (h t (by simp));have h2:=a q2;unfold M1 at h1 ⊢;rw[YAK,YAR,YAS];omega
 have:=b h3;omega
def round{X:Fs}{hv:List Ba}{i:Nat} (hm:XQ X=true) (hn:Cf (Y6 X)) (hsub:∀o∈hv,o∈MM X) (hlev:Lev X hv i) :
 D5 (Qw hv) (QC X)=(X,[],0)∨∃ws,D5 (Qw hv) (QC X)=([],ws,1501)∧ws≠[]∧ws.length≤60000∧i<4∧(∀w∈ws,∃o∈MM X,Qw (Y6 X) w=some o∧Jy o=w) ∧
  ∀hv',(∀o∈hv,o∈hv')→(∀w∈ws,∃o∈hv',Jy o=w)→Lev X hv' (i+1):=by
 have hz:∀o∈hv,o.size≤65536:=fun o ho=>Rv hm (hsub o ho)
 have hkr:∀o∈MM X,Sj (Qw hv) o:=fun o ho=>by
  cases hk:Qw hv (Jy o) with
  | none=>exact .inr hk
  | some d =>
    obtain⟨h1,h2⟩:=PJ hk;have:=hn d (Ic.2 (hsub d h1)) o (Ic.2 ho) h2;subst this;exact .inl hk
 have hkn:∀ {o:Ba},Qw hv (Jy o)=none↔¬YN hv o:=fun{o}=>E5 hz;have hin:∀ {w:YI},(∃o∈MM X,Jy o=w)→∃o∈MM X,Qw (Y6 X) w=some o∧Jy o=w:=fun⟨o,ho,e⟩=>⟨o,ho,by rw[←e];exact qD hn (Ic.2 ho) (Rv hm ho),e⟩;have stay:∀ {hv':List Ba} {o:Ba},(∀o∈hv,o∈hv')→YN hv o→YN hv' o:=fun hs ⟨d,hd,e⟩=>⟨d,hs d hd,e⟩;have all:∀ {o:Ba},o∈MM X↔∃t∈X,(∃x∈t,o∈WD x)∨o=JY t:=U9;rw[qH hm hkr];by_cases hms:Xe (Qw hv) (QC X)=[]
 case neg=>
  rw[Jf hms]
  have hi:i=0:=by
   by_cases h:1≤i
   ·exfalso
    apply hms;rw[YAI];intro a ha;obtain⟨h1,h2⟩:=Wj.1 ha;unfold QC at h1;obtain⟨t,ht,rfl⟩:=List.mem_map.1 h1;exact hkn.1 h2 (hlev.l0 h t ht)
   ·omega
  subst hi;refine .inr ⟨_,rfl,fun h=>hms (VZ.1 h).2,?_,by omega,fun w hw =>?_,fun hv' hs hw =>?_⟩
  ·have h1:=QE (L:=([]:List YI)) (xs:=Xe (Qw hv) (QC X));have h2:=IA (K:=Qw hv) (l:=QC X);have h3:(QC X).length=X.length:=by unfold QC;rw[YAU]
   have h4:=(IL hm).2.1;simp only[YAV]at h1;omega
  ·have hw:=(Yh.1 hw).resolve_left (by simp);obtain⟨h1,_⟩:=Wj.1 hw;unfold QC at h1;obtain⟨t,ht,rfl⟩:=List.mem_map.1 h1;exact hin ⟨_,all.2 ⟨t,ht,.inr rfl⟩,rfl⟩
  ·refine⟨fun _ t ht =>?_,fun h=>by omega,fun h=>by omega,fun h=>by omega⟩
   cases hk:Qw hv (Jy (JY t)) with
   | none =>
     obtain⟨o,ho,e⟩:=hw (Jy (JY t)) (Yh.2 (.inr (Wj.2 ⟨by unfold QC;exact YAc ht,hk⟩)));exact⟨o,ho,e⟩
   | some d =>
     obtain⟨h1,h2⟩:=PJ hk;exact⟨d,hs d h1,h2⟩
 rw[Jd (c:=Xe (Qw hv) (QC X)≠[]) (by simp[hms])]
 have h0:∀t∈X,YN hv (JY t):=fun t ht=>by
  by_cases hk:YN hv (JY t)
  ·exact hk
  ·have:Jy (JY t)∈Xe (Qw hv) (QC X):=Wj.2 ⟨by unfold QC;exact YAc ht,hkn.2 hk⟩;rw[hms]at this;simp at this
 by_cases hst:M1 (Qw hv) X=[]
 ·rw[Jd (c:=M1 (Qw hv) X≠[]) (by simp[hst])];exact .inl rfl
 rw[Jf (c:=M1 (Qw hv) X≠[]) hst];have inW:∀ {t:IX} {x:Nd} {w:YI},t∈X→x∈t→w∈Sg (Qw hv) x→w∈JD [] (M1 (Qw hv) X):=fun ht hx hw=>Yh.2 (.inr (List.mem_flatMap.2 ⟨_,ht,List.mem_flatMap.2 ⟨_,hx,hw⟩⟩))
 have dirW:∀ {x:Nd},x.kind=1→(¬YN hv (bx (JW x.ents))→Jy (bx (JW x.ents))∈Sg (Qw hv) x)∧∀w∈Sg (Qw hv) x,w=Jy (bx (JW x.ents))∧¬YN hv (bx (JW x.ents)):=fun{x} hk=>by
  have e:Sg (Qw hv) x=Xe (Qw hv) [Jy (bx (JW x.ents))]:=by
   unfold Sg;rw[Jf hk];unfold Z5;rw[Jf hk]
  rw[e];refine⟨fun h=>Wj.2 ⟨by simp,hkn.2 h⟩,fun w hw =>?_⟩;obtain⟨h1,h2⟩:=Wj.1 hw;simp only[YAd]at h1;subst h1;exact⟨rfl,hkn.1 h2⟩
 have fileW:∀ {x:Nd},x.kind≠1→Sg (Qw hv) x=Vd (Qw hv) x.data:=fun{x} hk=>by unfold Sg;rw[Jd hk]
 have isM:∀ {os:List Ba} {w:YI},w∈Xe (Qw hv) (os.map Jy)→∃o∈os,Jy o=w∧¬YN hv o:=fun{os w} hw=>by
  obtain⟨h1,h2⟩:=Wj.1 hw;obtain⟨o,ho,rfl⟩:=List.mem_map.1 h1;exact⟨o,ho,rfl,hkn.1 h2⟩
 have toM:∀ {os:List Ba} {o:Ba},o∈os→¬YN hv o→Jy o∈Xe (Qw hv) (os.map Jy):=fun{os o} ho hk=>Wj.2 ⟨YAc ho,hkn.2 hk⟩;have notin:∀ {a:YI} {l:List YI},l=[]→a∈l→False:=fun h ha=>by rw[h]at ha;simp at ha
 have tc:∀d:Ba,(¬YN hv (Xp d)∧Vd (Qw hv) d=[Jy (Xp d)])∨(YN hv (Xp d)∧Vd (Qw hv) d=Xe (Qw hv) ((Xo d).map Jy)∧Xe (Qw hv) ((Xo d).map Jy)≠[])∨(YN hv (Xp d)∧(∀o∈Xo d,YN hv o)∧Vd (Qw hv) d=Xe (Qw hv) ((Qn d).map Jy)):=fun d=>by
  unfold Vd
  cases hk:Qw hv (Jy (Xp d)) with
  | none=>exact .inl ⟨hkn.1 hk,rfl⟩
  | some r =>
    have hkR:YN hv (Xp d):=by
     by_cases h:YN hv (Xp d)
     ·exact h
     ·rw[hkn.2 h]at hk;simp at hk
    dsimp only;by_cases hI:Xe (Qw hv) ((Xo d).map Jy)=[]
    ·rw[Jd (by simp[hI])]
     exact .inr (.inr ⟨hkR,fun o ho=>by
      by_cases h:YN hv o
      ·exact h
      ·exact(notin hI (toM ho h)).elim,rfl⟩)
    ·rw[Jf hI];exact .inr (.inl ⟨hkR,rfl,hI⟩)
 have allIn:∀ {t:IX} {x:Nd} {o:Ba},t∈X→x∈t→o∈WD x→o∈MM X:=fun ht hx ho=>all.2 ⟨_,ht,.inl ⟨_,hx,ho⟩⟩;have ndF:∀ {x:Nd},x.kind≠1→WD x=Qn x.data++Xo x.data++[Xp x.data]:=fun hk=>by unfold WD;rw[Jd hk]
 have ndD:∀ {x:Nd},x.kind=1→WD x=[bx (JW x.ents)]:=fun hk=>by unfold WD;rw[Jf hk]
 have hi4:i<4:=by
  by_cases h:i<4
  ·exact h
  ·exfalso
   apply hst;rw[YAI];intro w hw;unfold M1 at hw;obtain⟨t,ht,hw⟩:=List.mem_flatMap.1 hw;obtain⟨x,hx,hw⟩:=List.mem_flatMap.1 hw;have l1:=hlev.l1 (by omega) t ht x hx;by_cases hk:x.kind=1
   ·rw[Jf hk]at l1;exact((dirW hk).2 w hw).2 l1
   ·rw[Jd hk]at l1;rw[fileW hk]at hw;rcases tc x.data with⟨h1,_⟩ | ⟨_,h2,_⟩ | ⟨_,_,h3⟩
    ·exact h1 l1
    ·rw[h2]at hw;obtain⟨o,ho,_,hno⟩:=isM hw;exact hno (hlev.l2 (by omega) t ht x hx hk o ho)
    ·rw[h3]at hw;obtain⟨o,ho,_,hno⟩:=isM hw;exact hno (hlev.l3 (by omega) t ht x hx hk o ho)
 refine .inr ⟨_,rfl,fun h=>hst (VZ.1 h).2,?_,hi4,fun w hw =>?_,fun hv' hs hw =>?_⟩
 ·have h1:=QE (L:=([]:List YI)) (xs:=M1 (Qw hv) X);have h2:=zD (K:=Qw hv) hm;simp only[YAV]at h1;omega
 ·have hw:=(Yh.1 hw).resolve_left (by simp);unfold M1 at hw;obtain⟨t,ht,hw⟩:=List.mem_flatMap.1 hw;obtain⟨x,hx,hw⟩:=List.mem_flatMap.1 hw;apply hin;by_cases hk:x.kind=1
  ·exact⟨bx (JW x.ents),allIn ht hx (by rw[ndD hk];simp),((dirW hk).2 w hw).1.symm⟩
  ·rw[fileW hk]at hw;rcases tc x.data with⟨_,h2⟩ | ⟨_,h2,_⟩ | ⟨_,_,h2⟩
   ·rw[h2]at hw;simp only[YAd]at hw;exact⟨Xp x.data,allIn ht hx (by rw[ndF hk];simp),hw.symm⟩
   ·rw[h2]at hw;obtain⟨o,ho,e,_⟩:=isM hw;exact⟨o,allIn ht hx (by rw[ndF hk];simp[ho]),e⟩
   ·rw[h2]at hw;obtain⟨o,ho,e,_⟩:=isM hw;exact⟨o,allIn ht hx (by rw[ndF hk];simp[ho]),e⟩
 ·have get:∀ {t:IX} {x:Nd} {o:Ba},t∈X→x∈t→(¬YN hv o→Jy o∈Sg (Qw hv) x)→YN hv' o:=fun{t x o} ht hx h=>by
   by_cases hk:YN hv o
   ·exact stay hs hk
   ·obtain⟨d,hd,e⟩:=hw _ (inW ht hx (h hk));exact⟨d,hd,e⟩
  refine⟨fun _ t ht=>stay hs (h0 t ht),fun _ t ht x hx =>?_,fun hi t ht x hx hk o ho =>?_,fun hi t ht x hx hk o ho =>?_⟩
  ·by_cases hk:x.kind=1
   ·rw[Jf hk];exact get ht hx (dirW hk).1
   ·rw[Jd hk];refine get ht hx fun hno =>?_;rw[fileW hk];rcases tc x.data with⟨_,h2⟩ | ⟨h1,_⟩ | ⟨h1,_⟩
    ·rw[h2];simp
    ·exact absurd h1 hno
    ·exact absurd h1 hno
  ·have l1:=hlev.l1 (by omega) t ht x hx;rw[Jd hk]at l1;refine get ht hx fun hno =>?_;rw[fileW hk];rcases tc x.data with⟨h1,_⟩ | ⟨_,h2,_⟩ | ⟨_,h2,_⟩
   ·exact absurd l1 h1
   ·rw[h2];exact toM ho hno
   ·exact absurd (h2 o ho) hno
  ·have l1:=hlev.l1 (by omega) t ht x hx;rw[Jd hk]at l1;refine get ht hx fun hno =>?_;rw[fileW hk];rcases tc x.data with⟨h1,_⟩ | ⟨_,_,h3⟩ | ⟨_,_,h2⟩
   ·exact absurd l1 h1
   ·exfalso
    apply h3;rw[YAI];intro w hw;obtain⟨o,ho,_,hno⟩:=isM hw;exact hno (hlev.l2 (by omega) t ht x hx hk o ho)
   ·rw[h2];exact toM ho hno
def UT{h:Ja}{T T':Nat}{k k':Kd}{u v:Jn}{xs:List k.Ty}{ys:List k'.Ty} (r:JR h T k u xs) (r':JR h T' k' v ys) (hT:T≠T'):∀q∈own u,q∉own v:=fun q hq=>by
 rcases r with⟨e,_⟩ | ⟨b,zs,e,_,_,e4⟩
 ·rw[e]at hq;simp[own]at hq
 ·have:q=b:=by unfold own at hq;rw[e]at hq;simpa using hq
  subst this;exact YD r' e4 hT
def ZA1.s{s:Jn}{L:List Ba}{x:Ba}{h:Ja}{K:Jn→Hp} (r:JR h Jt .s s L) (hl:L.length≤1000000)
 (hK:∀s' h',JR h' Jt .s s' (Xt L x)→Jc (own s) h h'→(∀q∈own s',q∈own s∨h.size≤q)→K s' h'):ZA1.C s x h K:=by
 apply ZA1.c;unfold ZA1.m;have rl:=r.len;refine JF (fun(y:Int×Unit) (h1:Ja)=>h1=h∧∃n:Nat,y.1=n∧n≤L.length∧x∉L.take n) (fun(y:Int×Unit) _=>L.length-y.1.toNat) ?_ ?_
 ·exact⟨rfl,0,rfl,YAr _,by simp⟩
 rintro⟨(i:Int),_⟩ h1 ⟨rfl,n,e,hn,hni⟩;dsimp only at e ⊢;subst e;by_cases hlt:n<L.length
 ·rw[Jf (show decide ((n:Int)<(s.len:Int))=true from dT (by omega))];have hw:Jr ((n:Int)+1)=((n+1:Nat):Int):=w6 (by omega);rw[hw];refine Ix r (x:=L[n]) (by omega) (by simp[hlt]) rfl ?_;by_cases he:L[n]=x
  ·rw[Jf (by simpa using he)];have:Xt L x=L:=by unfold Xt;rw[Jf (he ▸ YAQ hlt)]
   rw[this]at hK;exact hK s h1 r Jc.rfl fun q hq => .inl hq
  ·rw[Jd (by simpa using he)];refine⟨⟨rfl,n+1,rfl,by omega,?_⟩,by simp;omega⟩;rw[YAi hlt];intro hm;rcases List.mem_append.1 hm with h | h
   ·exact hni h
   ·simp at h;exact he h.symm
 ·rw[Jd (show¬decide ((n:Int)<(s.len:Int))=true by simp;omega)];obtain rfl:n=L.length:=by omega
  rw[YAh (YAn _)]at hni;have:Xt L x=L++[x]:=by unfold Xt;rw[Jd hni]
  rw[this]at hK;exact Vi (by_:=16) r rfl (by omega) fun s2 h2 k2 r2 o2=>hK s2 h2 r2 k2 o2
def ZDk.s{c:UInt8}{hs:Jn}{L:List YI}{h:Ja}{K:Ba→Hp} (g:Q5 HK hs L h) (hl:L.length≤10000) (hK:∀h',Jc [] h h'→K (Xu c L) h'):ZDk.C ⟨#[c]⟩ hs h K:=by
 apply ZDk.c;unfold ZDk.m;have gl:=g.len;rw[gl];refine ZAA.s (x:=L.length) (n:=1) (by decide) (by decide) (by omega) fun h1 k1 =>?_;have hb:(⟨(be L.length 1).toArray⟩:Ba)=bx [UInt8.ofNat L.length]:=by rw[be1];rfl
 rw[hb];show JS (bx [c]) (bx [UInt8.ofNat L.length]) _;refine YX (by simp) ?_;refine JF (fun(y:Ba×Int×Unit) (h2:Ja)=>∃n:Nat,y.2.1=n∧n≤L.length∧Jc [] h h2∧y.1=bx ([c]++[UInt8.ofNat L.length]++(L.take n).flatMap (·.toList))) (fun(y:Ba×Int×Unit) _=>L.length-y.2.1.toNat) ?_ ?_
 ·exact⟨0,rfl,YAr _,k1,by simp⟩
 ·rintro⟨(a:Ba),(i:Int),_⟩ h2 ⟨n,e,hn,k2,ea⟩;dsimp only at e ea ⊢;subst e;subst ea;by_cases hlt:n<L.length
  ·rw[Jf (show decide ((n:Int)<(L.length:Int))=true from dT (by omega))];have hw:Jr ((n:Int)+1)=((n+1:Nat):Int):=w6 (by omega);rw[hw];refine JK (g.keep (by decide) k2) (x:=L[n]) (by omega) (by simp[hlt]) rfl ?_;refine ZAZ.s fun h3 k3 =>?_
   have fl:((L.take n).flatMap (·.toList)).length≤32*L.length:=by
    rw[qo,YAX];omega
   refine YX (b:=L[n].toList) (by simp only[YAR,YAS,YAV,Vector.length_toList];omega) ?_;refine⟨⟨n+1,rfl,by omega,k2.n k3,?_⟩,by simp;omega⟩;rw[YAi hlt];simp only[YAJ,YAK,YAL,YAD,YAB]
  ·rw[Jd (show¬decide ((n:Int)<(L.length:Int))=true by simp;omega)];obtain rfl:n=L.length:=by omega
   rw[YAh (YAn _)];exact hK h2 k2
def S0{α : Type}{l:List α}{lo n:Nat}:(l.take (min l.length (lo+n))).drop lo=(l.drop lo).take n:=by
 rw[List.drop_take];by_cases h:lo+n≤l.length
 ·rw[Nat.min_eq_right h]
  congr 1;omega
 ·rw[Nat.min_eq_left (by omega),YAh (by rw[YAT];exact YAn _),YAh (by rw[YAT];omega)]
def yb{d:Ba}{n:Nat} (h:n<(Qn d).length):(Qn d)[n]=Y0 ((d.data.toList.drop (n*64)).take 64):=by
 have hl:n<((Ql 64 d.data.toList).map Y0).length:=h;show((Ql 64 d.data.toList).map Y0)[n]'hl=_;rw[YAP,WW]
def yc{d:Ba}{n:Nat} (h:n<(Xo d).length):(Xo d)[n]=Xu 73 ((((Qn d).map Jy).drop (n*8)).take 8):=by
 have hl:n<((Ql 8 ((Qn d).map Jy)).map (Xu 73)).length:=h;show((Ql 8 ((Qn d).map Jy)).map (Xu 73))[n]'hl=_;rw[YAP,WW]
def ZB0.s{d:Ba}{h:Ja}{K:Kd.Ty (.ar 32 .u8)→Jn→Int→Hp} (hd:d.size≤4096)
 (hK:∀o h',Jc [] h h'→JR h' Jt .s o (Zz d)→(∀q∈own o,h.size≤q)→K (Jy (Xp d)) o 0 h'):ZB0.C d h K:=by
 apply ZB0.c;unfold ZB0.m;refine Ji fun b1 h1 hb1 k1 e1 hs1 =>?_;have e1:h1[b1]? = some (Jg Jh HK (Vector.replicate 32 0)):=e1;rw[Jd (show¬decide ((d.size:Int)>4096)=true by simp;omega)];have lB:=GH (d:=d);have lI:=GJ (d:=d);have dl:d.data.toList.length=d.size:=rfl;have hdx:d=bx d.data.toList:=Vm.symm;have z1:=k1.1;refine JF (fun(y:Jn×Jn×Int×Unit) (h3:Ja)=>∃n:Nat,y.2.2.1=((n*64:Nat):Int)∧n≤(Qn d).length∧Jc [] h1 h3∧JR h3 Jt .s y.1 (JD [] ((Qn d).take n))∧(∀q∈own y.1,h1.size≤q)∧JR h3 Jh HK y.2.1 (((Qn d).take n).map Jy)∧∀q∈own y.2.1,h1.size≤q) (fun(y:Jn×Jn×Int×Unit) _=>d.size-y.2.2.1.toNat) ?_ ?_
 ·exact⟨0,rfl,YAr _,Jc.rfl,JR.nil,by simp[own],JR.nil,by simp[own]⟩
 rintro⟨(u:Jn),(v:Jn),(ii:Int),_⟩ h3 ⟨n,e,hn,k3,ru,ou,rv,ov⟩;dsimp only at e ru ou rv ov ⊢;subst e;by_cases hlt:n<(Qn d).length
 ·rw[Jf (show decide (((n*64:Nat):Int)<(d.size:Int))=true from dT (by omega))];have hw:Jr (((n*64:Nat):Int)+64)=(((n+1)*64:Nat):Int):=w6 (by omega);have hmn:RV (d.size:Int) (((n+1)*64:Nat):Int)=((min d.size (n*64+64):Nat):Int):=by unfold RV;split <;> omega
  rw[hw,hmn];refine⟨by omega,by omega,by omega,?_⟩
  have hex:d.extract ((n*64:Nat):Int).toNat ((min d.size (n*64+64):Nat):Int).toNat=bx ((d.data.toList.drop (n*64)).take 64):=by
   rw[YAl,YAl]
   conv=>lhs;rw[hdx]
   rw[Zo,Js,S0]
  rw[hex];show JS (bx [66]) (bx _) _;refine YX (by simp only[YAS,YAV,YAX];omega) ?_;have hB:=yb hlt;have hx:bx ([66]++(d.data.toList.drop (n*64)).take 64)=(Qn d)[n]:=by rw[hB];rfl
  rw[hx]
  have hsz:((Qn d)[n]).size≤65536:=by
   rw[hB,Un,YAX];omega
  have hol:=QE (L:=([]:List Ba)) (xs:=(Qn d).take n);rw[YAX]at hol;simp only[YAV]at hol;refine ZA1.s ru (by omega) fun u4 h4 r4 k4 o4 =>?_;refine ZAj.s hsz fun h5 k5 =>?_;have rv5:=(rv.keep k4 (UT rv ru (by decide))).keep k5 (by simp);have ru5:=r4.keep k5 (by simp);refine Vi (by_:=32) rv5 rfl (by simp only[YAU,YAX];omega) fun v7 h7 k7 r7 o7 =>?_;have z3:=k3.1;have z4:=k4.1;have z5:=k5.1;refine⟨⟨n+1,rfl,by omega,((k3.new k4 ou).n k5).new k7 ov,?_,fun q hq =>?_,?_,fun q hq =>?_⟩,by simp;omega⟩
  ·rw[Uu hlt];exact ru5.keep k7 (UT ru5 rv5 (by decide))
  ·rcases o4 q hq with h | h
   ·exact ou q h
   ·omega
  ·rw[YAi hlt,YAY];exact r7
  ·rcases o7 q hq with h | h
   ·exact ov q h
   ·omega
 rw[Jd (show¬decide (((n*64:Nat):Int)<(d.size:Int))=true from dn (by omega))];obtain rfl:n=(Qn d).length:=by omega
 rw[YAh (YAn _)]at ru rv;have z3:=k3.1;have rvl:=rv.len;rw[YAU]at rvl;refine JF (fun(y:Jn×Jn×Int×Unit) (h8:Ja)=>∃m:Nat,y.2.2.1=((m*8:Nat):Int)∧m≤(Xo d).length∧Jc [] h1 h8∧h3.size≤h8.size∧JR h8 Jt .s y.1 (JD (JD [] (Qn d)) ((Xo d).take m))∧(∀q∈own y.1,h1.size≤q)∧JR h8 Jh HK y.2.1 (((Xo d).take m).map Jy)∧(∀q∈own y.2.1,h3.size≤q)∧JR h8 Jh HK v ((Qn d).map Jy)) (fun(y:Jn×Jn×Int×Unit) _=>(Qn d).length-y.2.2.1.toNat) ?_ ?_
 ·exact⟨0,rfl,YAr _,k3,YAn _,ru,ou,JR.nil,by simp[own],rv⟩
 rintro⟨(u2:Jn),(w:Jn),(ii:Int),_⟩ h8 ⟨m,e,hm,k8,z8,ru8,ou8,rw8,ow8,rv8⟩;dsimp only at e ru8 ou8 rw8 ow8 ⊢;subst e;have hol1:=QE (L:=([]:List Ba)) (xs:=Qn d);have hol2:=QE (L:=JD [] (Qn d)) (xs:=(Xo d).take m);rw[YAX]at hol2;simp only[YAV]at hol1;have vlt:=rv.lt;by_cases hlt:m<(Xo d).length
 ·rw[Jf (show decide (((m*8:Nat):Int)<(v.len:Int))=true from dT (by omega))];have hw:Jr (((m*8:Nat):Int)+8)=(((m+1)*8:Nat):Int):=w6 (by omega);have hmn:RV (v.len:Int) (((m+1)*8:Nat):Int)=((min (Qn d).length (m*8+8):Nat):Int):=by unfold RV;split <;> omega
  rw[hw,hmn];have hvc:=rv8.cap;rw[YAU]at hvc
  obtain⟨bb,hva⟩:∃bb,v.a=some ⟨bb,0⟩:=by
   rcases rv8 with⟨e,_⟩ | ⟨bb,zs,e,_⟩
   ·rw[e]at rvl;simp at rvl;omega
   ·exact⟨bb,e⟩
  refine Cv (lo:=m*8) (hi:=min (Qn d).length (m*8+8)) (mx:=v.cap) hva (by omega) (by omega) (by omega) fun l hl1 hl2 _ =>?_;have hlo:m*8<v.cap:=by omega
  have gsub:=T1 (c:=v.cap-m*8) rv8 hva (lo:=m*8) (hi:=min (Qn d).length (m*8+8)) (by omega) (by rw[YAU];omega);rw[hl2 hlo]
  have hsl:(((Qn d).map Jy).take (min (Qn d).length (m*8+8))).drop (m*8)=(((Qn d).map Jy).drop (m*8)).take 8:=by
   have:=S0 (l:=(Qn d).map Jy) (lo:=m*8) (n:=8);rw[YAU]at this;exact this
  rw[hsl]at gsub;refine ZDk.s (c:=73) gsub (by rw[YAX];omega) fun h9 k9 =>?_;have hI:=yc hlt;rw[←hI]
  have hsz:((Xo d)[m]).size≤65536:=by
   rw[hI,Zt,YAX];omega
  have ru9:=ru8.keep k9 (by simp);have rw9:=rw8.keep k9 (by simp);have rv9:=rv8.keep k9 (by simp);refine ZA1.s ru9 (by omega) fun u10 h10 r10 k10 o10 =>?_;refine ZAj.s hsz fun h11 k11 =>?_;have rw11:=(rw9.keep k10 (UT rw9 ru9 (by decide))).keep k11 (by simp);have rv11:=(rv9.keep k10 (UT rv9 ru9 (by decide))).keep k11 (by simp);have ru11:=r10.keep k11 (by simp);refine Vi (by_:=32) rw11 rfl (by simp only[YAU,YAX];omega) fun w13 h13 k13 r13 o13 =>?_;have z9:=k9.1;have z10:=k10.1;have z11:=k11.1;have z13:=k13.1;refine⟨⟨m+1,rfl,by omega,(((k8.n k9).new k10 ou8).n k11).new k13 (fun q hq=>by have:=ow8 q hq;omega),by omega,?_,fun q hq =>?_,?_,fun q hq =>?_,?_⟩,by simp;omega⟩
  ·rw[Uu hlt];exact ru11.keep k13 (UT ru11 rw11 (by decide))
  ·rcases o10 q hq with h | h
   ·exact ou8 q h
   ·omega
  ·rw[YAi hlt,YAY];exact r13
  ·rcases o13 q hq with h | h
   ·exact ow8 q h
   ·omega
  ·exact rv11.keep k13 (fun q hq hm=>by have h1:=vlt q hq;have h2:=ow8 q hm;omega)
 rw[Jd (show¬decide (((m*8:Nat):Int)<(v.len:Int))=true from dn (by omega))];obtain rfl:m=(Xo d).length:=by omega
 rw[YAh (YAn _)]at ru8 rw8;refine ZDk.s (c:=82) rw8.seg (by simp;omega) fun h14 k14 =>?_;have hsz:(Xp d).size≤65536:=by unfold Xp;rw[Zt];simp;omega
 show ZA1.C u2 (Xp d) h14 _;refine ZA1.s (ru8.keep k14 (by simp)) (by have:=QE (L:=JD [] (Qn d)) (xs:=Xo d);omega) fun u15 h15 r15 k15 o15 =>?_;show ZAj.C (Xp d) h15 _;refine ZAj.s hsz fun h16 k16 =>?_;have k116:=((k8.n k14).new k15 ou8).n k16;refine JL (k116.g e1) fun h17 k17 e17 hs17=>Jb (Je e17) ?_
 have hO:Xt (JD (JD [] (Qn d)) (Xo d)) (Xp d)=Zz d:=by
  unfold Zz;rw[Q2,Q2,WQ]
 rw[hO]at r15;have z14:=k14.1;have z18:=k8.1;have z1':=Jl e1;refine hK u15 h17 ((k1.n k116).new k17 (by simp;omega)) ((r15.keep k16 (by simp)).keep k17 (fun q hq hm =>?_)) fun q hq =>?_
 ·simp at hm;subst hm;rcases o15 _ hq with h | h
  ·have:=ou8 _ h;omega
  ·omega
 ·rcases o15 q hq with h | h
  ·have:=ou8 q h;omega
  ·omega
def yX{v:WN.Ty} (h:Yr (Qv v)=true):U6 v=true:=by
 unfold Yr at h;unfold U6;simp only[YAs,Qg]at h ⊢;obtain⟨⟨h1,h2⟩,h3⟩:=h;have e1:iN v=(Qv v).num:=rfl;have e2:iK v=(Qv v).kind:=rfl;have e3:iM v=(Qv v).mode:=rfl;have e4:iL v=(Qv v).links:=rfl;have e5:iS v=(Qv v).size:=rfl;rw[e1,e2,e3,e4,e5];generalize Qv v=x at *;refine⟨⟨⟨h1,h2⟩,?_⟩,?_⟩
 ·split at h3 <;> omega
 ·by_cases hk:x.kind=1
  ·rw[Jf hk]at h3;simp[hk];omega
  ·simp[hk]
def ZCy.s{s:Jn}{vs:List WN.Ty}{h:Ja}{K:Bool→Hp} (g:Q5 WN s vs h) (hm:XB (vs.map Qv)=true)
 (hK:∀h',Jc [] h h'→K true h'):ZCy.C s h K:=by
 apply ZCy.c;unfold ZCy.m;have gl:=g.len;have hlen:=(Gy hm).2;rw[YAU]at hlen;have hall:∀j (hj:j<vs.length),U6 vs[j]=true:=fun j hj=>yX ((Gy hm).1 _ (YAc (YAQ hj)))
 have hr:∀j (hj:j+1<vs.length),(Qv vs[j]).num<(Qv vs[j+1]).num:=fun j hj=>by
  have h1:Ww (vs.map Qv)=true:=by
   unfold XB at hm;rw[YAs]at hm;exact hm.2
  have:=(W8 (vs.map Qv)).1 h1 j (by simpa using hj);simpa using this
 refine JF (fun(y:Int×Unit) (h1:Ja)=>∃n:Nat,y.1=n∧n≤vs.length∧Jc [] h h1) (fun(y:Int×Unit) _=>vs.length-y.1.toNat) ?_ ?_
 ·exact⟨0,rfl,YAr _,Jc.rfl⟩
 rintro⟨(i:Int),_⟩ h1 ⟨n,e,hn,k1⟩;dsimp only at e ⊢;subst e;by_cases hlt:n<vs.length
 ·rw[Jf (show decide ((n:Int)<(s.len:Int))=true from dT (by omega))];have hw:Jr ((n:Int)+1)=((n+1:Nat):Int):=w6 (by omega);rw[hw];refine Vs ?_;refine Qd (fun y h'=>y.1=false∧Jc [] h h') ?_ ?_
  ·refine JK (g.keep (by decide) k1) (x:=vs[n]) (by omega) (by simp[hlt]) rfl ?_;refine ZBk.s fun h4 k4 =>?_;have k04:=k1.n k4;rw[hall n hlt,Jd (by simp)];by_cases h0:0<n
   ·rw[Jf (show decide ((n:Int)>0)=true from dT (by omega))];have hw1:Jr ((n:Int)-1)=((n-1:Nat):Int):=w6 (by omega);rw[hw1];have g4:=g.keep (by decide) k04;have hp:n-1<vs.length:=by omega
    refine Xx g4 (x:=vs[n-1]) (by omega) (by simp[hp]) rfl fun l hl=>Jb (ST hl).1 ?_;refine Xx g4 (x:=vs[n]) (by omega) (by simp[hlt]) rfl fun l' hl'=>Jb (ST hl').1 ?_;have:=hr (n-1) (by omega);have e1:n-1+1=n:=by omega
    simp only[e1]at this;exact⟨dF (show¬(Qv vs[n-1]).num≥(Qv vs[n]).num by omega),k04⟩
   ·rw[Jd (show¬decide ((n:Int)>0)=true from dn (by omega))];exact⟨rfl,k04⟩
  ·rintro⟨(y:Bool),_⟩ h3 ⟨hy,k3⟩;dsimp only at hy;subst hy;rw[Jd (by simp)];exact⟨⟨n+1,rfl,by omega,k3⟩,by simp;omega⟩
 ·rw[Jd (show¬decide ((n:Int)<(s.len:Int))=true from dn (by omega))];exact hK h1 k1
def Rz{x n:Nat}:(⟨(be x n).toArray⟩:Ba)=bx (be x n):=rfl
def ZCz.s{s:Jn}{vs:List WN.Ty}{h:Ja}{K:Ba→Int→Hp} (g:Q5 WN s vs h) (hm:XB (vs.map Qv)=true)
 (hK:∀h',Jc [] h h'→K (bx (XA (vs.map Qv))) 0 h'):ZCz.C s h K:=by
 apply ZCz.c;unfold ZCz.m;have gl:=g.len;obtain⟨hall,hlen⟩:=Gy hm;rw[YAU]at hlen;refine ZCy.s g hm fun h1 k1 =>?_;rw[Jd (by simp),gl];refine ZAA.s (x:=vs.length) (n:=1) (by decide) (by decide) (by omega) fun h2 k2 =>?_;rw[Rz];show JS (bx [84]) (bx (be vs.length 1)) _;refine YX (by simp[Jj]) ?_;have k02:=k1.n k2;refine JF (fun(y:Ba×Int×Unit) (h3:Ja)=>∃n:Nat,y.2.1=n∧n≤vs.length∧Jc [] h h3∧y.1=bx ([84]++be vs.length 1++((vs.map Qv).take n).flatMap Xn)) (fun(y:Ba×Int×Unit) _=>vs.length-y.2.1.toNat) ?_ ?_
 ·exact⟨0,rfl,YAr _,k02,by simp⟩
 rintro⟨(a:Ba),(i:Int),_⟩ h3 ⟨n,e,hn,k3,ea⟩;dsimp only at e ea ⊢;subst e;subst ea;by_cases hlt:n<vs.length
 ·rw[Jf (show decide ((n:Int)<(vs.length:Int))=true from dT (by omega))];have hw:Jr ((n:Int)+1)=((n+1:Nat):Int):=w6 (by omega);rw[hw];have hxo:=PH (hall (Qv vs[n]) (YAc (YAQ hlt)));have htk:(vs.map Qv).take (n+1)=(vs.map Qv).take n++[Qv vs[n]]:=by rw[YAi (by simpa using hlt),YAP]
  have hfl:(((vs.map Qv).take n).flatMap Xn).length≤1216:=by rw[Iw,YAX,YAU];omega
  refine JK (g.keep (by decide) k3) (x:=vs[n]) (by omega) (by simp[hlt]) rfl ?_;refine Jq fun b h5 hb k5 e5 hs5 =>?_;have e5:h5[b]? = some (Jg QD WN vs[n]):=e5;generalize vs[n]=v at *;obtain⟨f0,f1,f2,f3,f4,f5⟩:=ST (Je e5);have hib:Xn (Qv v)=be (Qv v).num.toNat 1++be (Qv v).kind.toNat 1++be (Qv v).mode.toNat 1++be (Qv v).links.toNat 1++be (Qv v).size.toNat 2++(Qv v).root.toList:=rfl;generalize Qv v=x at *;obtain⟨xn,xk,xm,xl,xs,xr⟩:=x;dsimp only at hxo f0 f1 f2 f3 f4 f5 hib;obtain⟨a1,a2,a3,a4,a5,a6,a7,a8⟩:=hxo;obtain⟨n1,rfl⟩:∃t:Nat,xn=t:=⟨xn.toNat,by omega⟩;obtain⟨n2,rfl⟩:∃t:Nat,xk=t:=⟨xk.toNat,by omega⟩;obtain⟨n3,rfl⟩:∃t:Nat,xm=t:=⟨xm.toNat,by omega⟩;obtain⟨n4,rfl⟩:∃t:Nat,xl=t:=⟨xl.toNat,by omega⟩;obtain⟨n5,rfl⟩:∃t:Nat,xs=t:=⟨xs.toNat,by omega⟩;simp only[YAl]at hib;have st:∀ {k:Kd} {l:Pl} {x:k.Ty} {ha hb:Ja},0<k.size→sm k l x ha→Jc [] ha hb→sm k l x hb:=fun hs e k=>JN hs e k;refine Jb f0 (Jb f1 (Jb f2 (Jb f3 (Jb f4 (Jb f5 ?_)))));refine ZAA.s (x:=n1) (n:=1) (by decide) (by decide) (by omega) fun h6 k6 =>?_;refine⟨st (by decide) f5 k6,st (by decide) f4 k6,st (by decide) f3 k6,st (by decide) f2 k6,st (by decide) f1 k6,?_⟩;rw[Rz];refine YX (by simp only[YAR,YAS,YAV,Jj];omega) ?_;refine ZAA.s (x:=n2) (n:=1) (by decide) (by decide) (by omega) fun h7 k7 =>?_;have k57:=k6.n k7;refine⟨st (by decide) f5 k57,st (by decide) f4 k57,st (by decide) f3 k57,st (by decide) f2 k57,?_⟩;rw[Rz];refine YX (by simp only[YAR,YAS,YAV,Jj];omega) ?_;refine ZAA.s (x:=n3) (n:=1) (by decide) (by decide) (by omega) fun h8 k8 =>?_;have k58:=k57.n k8;refine⟨st (by decide) f5 k58,st (by decide) f4 k58,st (by decide) f3 k58,?_⟩;rw[Rz];refine YX (by simp only[YAR,YAS,YAV,Jj];omega) ?_;refine ZAA.s (x:=n4) (n:=1) (by decide) (by decide) (by omega) fun h9 k9 =>?_;have k59:=k58.n k9;refine⟨st (by decide) f5 k59,st (by decide) f4 k59,?_⟩;rw[Rz];refine YX (by simp only[YAR,YAS,YAV,Jj];omega) ?_;refine ZAA.s (x:=n5) (n:=2) (by decide) (by decide) (by omega) fun h10 k10 =>?_;have k510:=k59.n k10;refine⟨st (by decide) f5 k510,?_⟩;rw[Rz];refine YX (by simp only[YAR,YAS,YAV,Jj];omega) ?_;refine ZAZ.s fun h11 k11 =>?_;refine YX (by simp only[YAR,YAS,YAV,Jj,Vector.length_toList];omega) ?_;refine⟨⟨n+1,rfl,by omega,(k3.n k5).n (k510.n k11),?_⟩,by simp;omega⟩;rw[htk,YAJ];simp only[YAK,YAL,YAD];rw[hib];simp only[YAB]
 ·rw[Jd (show¬decide ((n:Int)<(vs.length:Int))=true from dn (by omega))];obtain rfl:n=vs.length:=by omega
  rw[YAh (by simp)];have:=hK h3 k3;unfold XA at this;rw[YAU]at this;have e84:be 84 1=[84]:=rfl;rw[e84]at this;exact this
def ZDN.s{t0:Jn}{ss:List Jn}{vv:List (List VN)}{X:Fs}{h:Ja}{K:Jn→Jn→Int→Hp} (w:ML h t0 ss vv X) (lens:wB X)
 (hbad:XQ X=false→∀h',Jc [] h h'→K ⟨none,0,0⟩ ⟨none,0,0⟩ 1500 h')
 (hok:XQ X=true→∀h' o1 o2,Jc [] h h'→JR h' Jh HK o1 (QC X)→JR h' Jt .s o2 (Y6 X)→K o1 o2 0 h'):ZDN.C (t0,()) h K:=by
 apply ZDN.c;unfold ZDN.m;refine Ji fun b1 h1 hb1 k1 e1 hs1 =>?_;have e1:h1[b1]? = some (Jg XJ Ug ((t0,()):Ug.Ty)):=e1;refine Jb (Je e1) ?_;refine ZB3.s (w.keep k1) lens fun h2 k2 =>?_;have k02:Jc [] h h2:=k1.n k2
 cases hm:XQ X with
 | false =>
   rw[Jf (by rfl)];exact hbad hm h2 k02
 | true=>
 rw[Jd (by simp)];obtain⟨x1,x2,x3,_⟩:=IL hm;have e2:=k2.g e1;have L0:=w.lens;have z1:=k1.1;have z2:=k2.1;have hb1':b1=h.size:=hb1
 have hflat:∀ {m:Nat},m≤X.length→((X.take m).flatMap Q0).length≤2400*m:=fun{m} hmX=>by
  have:∀(l:Fs),(∀t∈l,Xa t=true)→(l.flatMap Q0).length≤2400*l.length:=by
   intro l
   induction l with
   | nil=>intro _;simp
   | cons a r ih =>
     intro h;have h1:=ih fun x hx=>h x (by simp[hx]);obtain⟨_,q2,q3⟩:=VJ (h a (by simp));have h2:=Yp q2;rw[YAK,YAR,YAS];unfold Q0 at h1 ⊢;rw[YAR,YAS,YAV];omega
  have h1:=this (X.take m) (fun x hx=>x3 x (List.take_subset _ _ hx));rw[YAX]at h1;omega
 refine JF (fun(y:Jn×Jn×Int×Unit) (h3:Ja)=>∃n:Nat,y.2.2.1=n∧n≤X.length∧Jc [] h2 h3∧JR h3 Jt .s y.1 (JD [] ((X.take n).flatMap Q0))∧(∀q∈own y.1,h2.size≤q)∧JR h3 Jh HK y.2.1 ((X.take n).map fun t=>Jy (JY t))∧∀q∈own y.2.1,h2.size≤q) (fun(y:Jn×Jn×Int×Unit) _=>X.length-y.2.2.1.toNat) ?_ ?_
 ·exact⟨0,rfl,YAr _,Jc.rfl,JR.nil,by simp[own],JR.nil,by simp[own]⟩
 rintro⟨(u:Jn),(v:Jn),(ii:Int),_⟩ h3 ⟨n,e,hn,k3,ru,ou,rv,ov⟩;dsimp only at e ru ou rv ov ⊢;subst e;have fld:∀ {hh:Ja},Jc [] h2 hh→sm .sl ((Pl.mk b1 0).fld 0) t0 hh:=fun kk=>Jv (n:=0) (k' := .sl) (kk.g e2) rfl (by decide);refine Jb (fld k3) ?_;by_cases hlt:n<X.length
 case neg=>
  rw[Jd (show¬decide ((n:Int)<(t0.len:Int))=true from dn (by omega))];obtain rfl:n=X.length:=by omega
  rw[YAh (YAn _)]at ru rv;exact hok hm h3 v u (k02.n k3) rv ru
 rw[Jf (show decide ((n:Int)<(t0.len:Int))=true from dT (by omega))];have hwn:Jr ((n:Int)+1)=((n+1:Nat):Int):=w6 (by omega);rw[hwn];have htm:=x3 _ (YAQ hlt);obtain⟨_,tm2,tm3⟩:=VJ htm;have htake:X.take (n+1)=X.take n++[X[n]]:=YAi hlt;have hfl:=hflat (m:=n) hn;have hLl:=QE (L:=([]:List Ba)) (xs:=(X.take n).flatMap Q0);simp only[YAV,Nat.zero_add]at hLl
 have hLn:JD [] ((X.take (n+1)).flatMap Q0)=Xt (JD (JD [] ((X.take n).flatMap Q0)) (X[n].flatMap Qe)) (JY X[n]):=by
  rw[htake,YAJ,Q2];simp only[YAK,YAL,YAD];rw[show Q0 X[n]=X[n].flatMap Qe++[JY X[n]] from rfl,Q2,WQ]
 have hHn:(X.take (n+1)).map (fun t=>Jy (JY t))=(X.take n).map (fun t=>Jy (JY t))++[Jy (JY X[n])]:=by rw[htake,YAY];rfl
 have hHl:((X.take n).map fun t=>Jy (JY t)).length≤24:=by simp;omega
 generalize JD [] ((X.take n).flatMap Q0)=L at ru hLl hLn;generalize ((X.take n).map fun t=>Jy (JY t))=H at rv hHn hHl;have gW:∀hh,Jc [] h hh→∃sl vs,Q5 M7 sl vs hh∧Qq (GL hh) vs X[n]∧sl.len=X[n].length∧∀ {K:Jn→Prop},K sl→ix t0 (n:Int) 1 fun l=>ld .sl l hh K:=fun hh kk=>⟨_,_,(w.keep kk).row hlt,(w.keep kk).nds hlt,((w.keep kk).rlen hlt).1,fun hK=>(w.keep kk).tab hlt hK⟩;generalize X[n]=t at *;have z3:=k3.1;refine JF (fun(y:Jn×Jn×Int×Unit) (h4:Ja)=>∃j:Nat,y.2.2.1=j∧j≤t.length∧Jc [] h2 h4∧JR h4 Jt .s y.1 (JD L ((t.take j).flatMap Qe))∧(∀q∈own y.1,h2.size≤q)∧JR h4 QD WN y.2.1 (((t.take j).map QX).map Z1)∧(∀q∈own y.2.1,h2.size≤q)∧JR h4 Jh HK v H) (fun(y:Jn×Jn×Int×Unit) _=>t.length-y.2.2.1.toNat) ?_ ?_
 ·exact⟨0,rfl,YAr _,k3,ru,ou,JR.nil,by simp[own],rv⟩
 rintro⟨(u4:Jn),(s4:Jn),(ii:Int),_⟩ h4 ⟨j,e,hj,k4,ru4,ou4,rs4,os4,rv4⟩;dsimp only at e ru4 ou4 rs4 os4 ⊢;subst e;have z4:=k4.1;have k04:=k02.n k4;obtain⟨sl,vs,gN,aN,slen,hix⟩:=gW h4 k04;have hfl2:=Yp (l:=t.take j) (fun x hx=>tm2 x (List.take_subset _ _ hx));rw[YAX]at hfl2;have hLl2:=QE (L:=L) (xs:=(t.take j).flatMap Qe);refine Jb (fld k4) (hix ?_);by_cases hlj:j<t.length
 case neg=>
  rw[Jd (show¬decide ((j:Int)<(sl.len:Int))=true from dn (by omega))];obtain rfl:j=t.length:=by omega
  rw[YAh (YAn _)]at ru4 rs4;refine ZCz.s rs4.seg (by rw[TN];exact TO htm) fun h23 k23 =>?_;rw[TN];have hts:=UF tm3;have hfl3:=Yp tm2;have hLl3:=QE (L:=L) (xs:=t.flatMap Qe);show ZA1.C u4 (JY t) h23 _;refine ZA1.s (ru4.keep k23 (by simp)) (by omega) fun u24 h24 r24 k24 o24 =>?_;show ZAj.C (JY t) h24 _;refine ZAj.s (by omega) fun h25 k25 =>?_;have rv25:=((rv4.keep k23 (by simp)).keep k24 (UT (rv4.keep k23 (by simp)) (ru4.keep k23 (by simp)) (by decide))).keep k25 (by simp);have ru25:=r24.keep k25 (by simp);refine Vi (by_:=32) rv25 rfl (by omega) fun v27 h27 k27 r27 o27 =>?_;have z23:=k23.1;have z24:=k24.1;have z25:=k25.1;refine⟨⟨n+1,rfl,by omega,(((k4.n k23).new k24 ou4).n k25).new k27 ov,?_,fun q hq =>?_,?_,fun q hq =>?_⟩,by simp;omega⟩
  ·rw[hLn];exact ru25.keep k27 (UT ru25 rv25 (by decide))
  ·rcases o24 q hq with h | h
   ·exact ou4 q h
   ·omega
  ·rw[hHn];exact r27
  ·rcases o27 q hq with h | h
   ·exact ov q h
   ·omega
 rw[Jf (show decide ((j:Int)<(sl.len:Int))=true from dT (by omega))];have hwj:Jr ((j:Int)+1)=((j+1:Nat):Int):=w6 (by omega);rw[hwj];have hx:=tm2 _ (YAQ hlj);have al:=aN.len;have hjv:j<vs.length:=by omega
 have av:=aN.getI hjv hlj;have htk:t.take (j+1)=t.take j++[t[j]]:=YAi hlj
 have hLn2:JD L ((t.take (j+1)).flatMap Qe)=JD (JD L ((t.take j).flatMap Qe)) (Qe t[j]):=by
  rw[htk,YAJ,Q2];simp
 have hSn:((t.take (j+1)).map QX).map Z1=((t.take j).map QX).map Z1++[Z1 (QX t[j])]:=by rw[htk,YAY,YAY];rfl
 have hSl:(((t.take j).map QX).map Z1).length≤32:=by simp;omega
 have ho:=Ur hx;obtain⟨hz1,hz2,hz3⟩:=VY hx;have hgx:vs[(j:Int).toNat]? = some vs[j]:=by simp[hjv]
 generalize t[j]=x at *;generalize hM:JD L ((t.take j).flatMap Qe)=M at *;generalize ((t.take j).map QX).map Z1=N at *;have u4lt:=ru4.lt;refine Qd (fun y h5=>Jc [] h2 h5∧JR h5 Jt .s y.1 (JD M (Qe x))∧(∀q∈own y.1,h2.size≤q)∧JR h5 QD WN y.2.1 (N++[Z1 (QX x)])∧(∀q∈own y.2.1,h2.size≤q)∧JR h5 Jh HK v H) ?_ ?_
 ·refine Jb (fld k4) (hix ?_);refine JK gN (x:=vs[j]) (by omega) hgx rfl ?_;generalize vs[j]=nv at *;refine Jq fun b2 h7 hb2 k7 e7 hs7 =>?_;have e7:h7[b2]? = some (Jg Vc M7 nv):=e7;obtain⟨f0,f1,f2,f3,f4,f5⟩:=Rp (Je e7);rw[av.n]at f0;rw[av.k]at f1;rw[av.m]at f2;rw[av.l]at f3;rw[av.d]at f4;refine Jb f0 (Jb f1 (Jb f2 (Jb f3 (Jb f4 ?_))));refine Jq fun b3 h9 hb3 k9 e9 hs9 =>?_;have e9:h9[b3]? = some (Jg QD WN ((x.num,(x.kind,(x.mode,(x.links,((x.data.size:Int),(Vector.replicate 32 0,())))))):WN.Ty)):=e9;have k49:Jc [] h4 h9:=k7.n k9;have z9:=k49.1;refine Jb (JN (by decide) f1 k9) ?_;have ru9:=ru4.keep k49 (by simp);have rs9:=rs4.keep k49 (by simp);have rv9:=rv4.keep k49 (by simp);have k29:=k4.n k49;have b3lt:=Jl e9;have hb3':b3=h7.size:=hb3;have b3lo:h4.size≤b3:=by have:=k7.1;omega
  refine Qd (fun y h10=>Jc [] h2 h10∧JR h10 Jt .s y.1 (JD M (Qe x))∧(∀q∈own y.1,h2.size≤q)∧h10[b3]? = some (Jg QD WN (Z1 (QX x)))∧JR h10 QD WN s4 N∧JR h10 Jh HK v H) ?_ ?_
  ·by_cases hk:x.kind=1
   ·rw[Jf (by simpa using hk)];refine Jb (JN (by decide) f5 k9) ?_;refine ZDP.s (av.keep k49 (by simp)).e (by omega) fun h11 k11 =>?_;rw[Jf hz3]
    have hdz:(bx (JW x.ents)).size≤65536:=by
     rw[Js];have h1:=Gv (U4 hz3).2.2;unfold JW;simp only[YAR,Jj];omega
    show ZA1.C u4 (bx (JW x.ents)) h11 _;have ru11:=ru9.keep k11 (by simp);have e11:=k11.g e9;refine ZA1.s ru11 (by omega) fun u12 h12 r12 k12 o12 =>?_;show ZAj.C (bx (JW x.ents)) h12 _;refine ZAj.s hdz fun h13 k13 =>?_;have e13:=k13.g (k12.get e11 (YD ru11 e11 (by decide)));refine Qm (k':=HK) (n:=5) (x':=_) e13 (by decide) M4 ?_;have r13:=r12.keep k13 (by simp);have rs13:=((rs9.keep k11 (by simp)).keep k12 (UT (rs9.keep k11 (by simp)) ru11 (by decide))).keep k13 (by simp);have rv13:=((rv9.keep k11 (by simp)).keep k12 (UT (rv9.keep k11 (by simp)) ru11 (by decide))).keep k13 (by simp)
    have offb:∀ {T:Nat} {kk:Kd} {uu:Jn} {ys:List kk.Ty},JR h13 T kk uu ys→(T≠QD∨∀q∈own uu,q<h4.size)→∀q∈own uu,q∉[b3]:=fun r hT q hq hm=>by
     simp at hm;subst hm;rcases hT with h | h
     ·exact YD r e13 (fun e=>h e.symm) hq
     ·have:=h _ hq;omega
    have z11:=k11.1;refine⟨(((k29.n k11).new k12 ou4).n k13).new Jo (by simp;omega),?_,fun q hq =>?_,?_,rs13.keep Jo (offb rs13 (.inr rs4.lt)),rv13.keep Jo (offb rv13 (.inl (by decide)))⟩
    ·have e:JD M (Qe x)=Xt M (bx (JW x.ents)):=by unfold Qe;rw[Jf hk];rfl
     rw[e];exact r13.keep Jo (offb r13 (.inl (by decide)))
    ·rcases o12 q hq with h | h
     ·exact ou4 q h
     ·omega
    ·refine(Jw e13).trans ?_
     have hd0:x.data.size=0:=by
      obtain⟨_,_,_,_,_,_,q1,_⟩:=PS hx;rw[(q1 hk).1];rfl
     unfold QX Z5 Z1;rw[Jf hk]
   ·rw[Jd (by simpa using hk)];refine Jb (JN (by decide) f4 k9) ?_;refine ZB0.s hz1 fun o h15 k15 r15 o15 =>?_;refine Jq fun b4 h17 hb4 k17 e17 hs17 =>?_;have e17:h17[b4]? = some (Jg Jh HK (Jy (Xp x.data))):=e17;have k917:=k15.n k17;have z917:=k917.1;have rO:=r15.keep k17 (by simp);have rOl:=rO.len;have rOlt:=r15.lt;have z17:=k17.1;have hol:=Tf hz1;refine JF (fun(y:Jn×Int×Unit) (h18:Ja)=>∃k:Nat,y.2.1=k∧k≤(Zz x.data).length∧Jc (own u4) h17 h18∧JR h18 Jt .s y.1 (JD M ((Zz x.data).take k))∧(∀q∈own y.1,q∈own u4∨h17.size≤q)) (fun(y:Jn×Int×Unit) _=>(Zz x.data).length-y.2.1.toNat) ?_ ?_
    ·exact⟨0,rfl,YAr _,Jc.rfl,ru9.keep k917 (by simp),fun q hq => .inl hq⟩
    rintro⟨(w5:Jn),(kk:Int),_⟩ h18 ⟨k,e,hk5,k18,r18,o18⟩;dsimp only at e r18 o18 ⊢;subst e;have nO:∀q∈own o,q∉own u4:=fun q hq hm=>by have h1:=u4lt q hm;have h2:=o15 q hq;omega
    have rO18:=rO.keep k18 nO;have z18:=k18.1;by_cases hlk:k<(Zz x.data).length
    ·rw[Jf (show decide ((k:Int)<(o.len:Int))=true from dT (by omega))];have hwk:Jr ((k:Int)+1)=((k+1:Nat):Int):=w6 (by omega);rw[hwk];refine Ix rO18 (x:=(Zz x.data)[k]) (by omega) (by simp[hlk]) rfl ?_;have hLk:=QE (L:=M) (xs:=(Zz x.data).take k);rw[YAX]at hLk;refine ZA1.s r18 (by omega) fun u19 h19 r19 k19 o19 =>?_;refine⟨⟨k+1,rfl,by omega,k18.then k19 (fun q hq _=>hq) (fun q hq hl=>by rcases o18 q hq with h | h;exact h;omega),by rw[Uu hlk];exact r19,fun q hq =>?_⟩,by simp;omega⟩;rcases o19 q hq with h | h
     ·exact o18 q h
     ·right;omega
    ·rw[Jd (show¬decide ((k:Int)<(o.len:Int))=true from dn (by omega))];obtain rfl:k=(Zz x.data).length:=by omega
     rw[YAh (YAn _)]at r18;have ru17:=ru9.keep k917 (by simp);have e18:=k18.get e17 (YD ru17 e17 (by decide));have e317:=k917.g e9;have e318:=k18.get e317 (YD ru17 e317 (by decide));refine Jb (Je e18) ?_;refine Qm (k':=HK) (n:=5) (x':=_) e318 (by decide) M4 ?_;have rs18:=(rs9.keep k917 (by simp)).keep k18 (UT (rs9.keep k917 (by simp)) ru17 (by decide));have rv18:=(rv9.keep k917 (by simp)).keep k18 (UT (rv9.keep k917 (by simp)) ru17 (by decide))
     have offb:∀ {T:Nat} {kk:Kd} {uu:Jn} {ys:List kk.Ty},JR h18 T kk uu ys→(T≠QD∨∀q∈own uu,q<h4.size)→∀q∈own uu,q∉[b3]:=fun r hT q hq hm=>by
      simp at hm;subst hm;rcases hT with h | h
      ·exact YD r e318 (fun e=>h e.symm) hq
      ·have:=h _ hq;omega
     refine⟨((k29.n k917).new k18 ou4).new Jo (by simp;omega),?_,fun q hq =>?_,?_,rs18.keep Jo (offb rs18 (.inr rs4.lt)),rv18.keep Jo (offb rv18 (.inl (by decide)))⟩
     ·have e:Qe x=Zz x.data:=by unfold Qe;rw[Jd hk]
      rw[e];exact r18.keep Jo (offb r18 (.inl (by decide)))
     ·rcases o18 q hq with h | h
      ·exact ou4 q h
      ·omega
     ·refine(Jw e318).trans ?_;unfold QX Z5 Z1;rw[Jd hk]
  ·rintro⟨(y:Jn),_⟩ h10 ⟨k10,ry,oy,e10,rs10,rv10⟩;dsimp only at ry oy ⊢;refine Jb (Je e10) ?_;refine Vi (by_:=72) rs10 rfl (by omega) fun s22 h22 k22 r22 o22 =>?_;refine⟨k10.new k22 os4,ry.keep k22 (UT ry rs10 (by decide)),oy,r22,fun q hq =>?_,rv10.keep k22 (UT rv10 rs10 (by decide))⟩;rcases o22 q hq with h | h
   ·exact os4 q h
   ·have:=k10.1;omega
 ·rintro⟨(y:Jn),(y2:Jn),_⟩ h5 ⟨k5,ry,oy,rs5,os5,rv5⟩;dsimp only at ry oy rs5 os5 ⊢;exact⟨⟨j+1,rfl,by omega,k5,by rw[hLn2];exact ry,oy,by rw[hSn];exact rs5,os5,rv5⟩,by simp;omega⟩
def Rm(hh:Nat) (x:By):Za:=⟨3,hh,(Yt (XK 2 [bx x])).toList.take 16,(Yt (XK 3 [bx x])).toList,0⟩
def Gz{x:By}:Rm 1 x=(ZX x).k 0:=by
 unfold Rm Sd.k ZX;dsimp only;unfold Hl;generalize Yt (XK 2 [bx x])=a;generalize Yt (XK 3 [bx x])=b
 rfl
def qB{hh:Nat}{x:By} (h1:1≤hh) (h5:hh≤5):Yg (Rm hh x)=true:=by
 unfold Rm;generalize Yt (XK 2 [bx x])=a;generalize Yt (XK 3 [bx x])=b;have ha:(a.toList.take 16).length=16:=by simp
 have hb:b.toList.length=32:=by simp
 unfold Yg Xs;dsimp only;rw[ha,hb];have hp:(0:Int)≤2^hh:=Int.le_of_lt (Int.pow_pos (by decide));have hp2:(0:Int)≤2^(2*hh):=Int.le_of_lt (Int.pow_pos (by decide));simp[Ys,hp,hp2];omega
def gM{v:XU.Ty}{x y:Jn}:Il (Yf.cells ((v,(x,())):Yf.Ty)) 2 (Kd.sl.cells y)=Yf.cells ((v,(y,())):Yf.Ty):=by
 obtain⟨a,b,c⟩:=v
 rfl
def ZAE.s{mv:XU.Ty}{m:Mb}{ss:Jn}{L:List By}{hh:Nat}{h:Ja}{K:Yf.Ty→Jn→Int→Hp} (a:UN h mv m) (hm:QU m=true) (g:Q5 .s ss (L.map bx) h) (hn:(L.length:Int)=m.users) (hh1:1≤hh) (hh5:hh≤5) (hx:∀x∈L,x.length≤1024)
 (hK:∀h' ps ks,Jc [] h h'→JR h' Jt .s ps ((L.map fun x=>Zq (Rm hh x)).map bx)→(∀q∈own ps,h.size≤q)→JR h' JI YF ks (L.map fun x=>UQ (Rm hh x))→(∀q∈own ks,h.size≤q)→K (mv,(ps,())) ks 0 h'):ZAE.C mv ss (hh:Int) h K:=by
 have hmb:=hm;unfold QU at hmb;simp only[YAs,Qg]at hmb;have hL16:L.length≤16:=by have:=hmb.1.1.2;omega
 have hgl:m.groups.length≤9223372036854775807:=by have:=hmb.1.2;omega
 have gl:=g.len;rw[YAU]at gl;apply ZAE.c;unfold ZAE.m;refine Ji fun b1 h1 hb1 k1 e1 hs1 =>?_;have e1:h1[b1]? = some (Jg JT XU mv):=e1;refine Ji fun b2 h2 hb2 k2 e2 hs2 =>?_;have e2:h2[b2]? = some (Jg JP Yf (((0,(⟨none,0,0⟩,())),(⟨none,0,0⟩,())):Yf.Ty)):=e2;have k12:Jc [] h h2:=k1.n k2;have e12:=k2.g e1;have z1:=k1.1;have z2:=k2.1;refine Qd (fun y h'=>y=(false,())∧Jc [] h2 h') ?_ ?_
 ·refine Jb (Je e12) ?_;refine ZAk.s (a.keepU k12) hgl fun h3 k3 =>?_;rw[hm,Jd (by simp)];have e13:=k3.g e12;have f0:sm .i ((Pl.mk b1 0).fld 0) m.users h3:=by rw[←a.u];exact Jv (n:=0) (k' := .i) e13 rfl (by decide)
  refine Jb f0 ?_;rw[Jd (by rw[gl,hn];simp),Jd (by simp;omega)];exact⟨by rw[dF (show¬(hh:Int)>5 by omega)],k3⟩
 rintro _ h3 ⟨rfl,k3⟩;rw[Jd (by simp)];refine Jb (Je (k3.g e12)) ?_;refine Jq fun b3 h4 hb3 k4 e4 hs4 =>?_;have e4:h4[b3]? = some (Jg JP Yf ((mv,(⟨none,0,0⟩,())):Yf.Ty)):=e4;have k24:Jc [] h2 h4:=k3.n k4;have k04:Jc [] h h4:=k12.n k24;have z24:=k3.1;have lb2:b2<h2.size:=by omega
 refine JF (fun(y:Jn×Int×Unit) (h8:Ja)=>∃(n:Nat) (ps:Jn),y.2.1=n∧n≤L.length∧Jc [] h h8∧h8[b2]? = some (Jg JP Yf (((0,(⟨none,0,0⟩,())),(⟨none,0,0⟩,())):Yf.Ty))∧h8[b3]? = some (Jg JP Yf ((mv,(ps,())):Yf.Ty)) ∧
  JR h8 Jt .s ps (((L.take n).map fun x=>Zq (Rm hh x)).map bx)∧(∀q∈own ps,h.size≤q)∧JR h8 JI YF y.1 ((L.take n).map fun x=>UQ (Rm hh x))∧∀q∈own y.1,h.size≤q) (fun(y:Jn×Int×Unit) _=>L.length-y.2.1.toNat) ?_ ?_
 ·exact⟨0,⟨none,0,0⟩,rfl,YAr _,k04,k24.g e2,e4,.inl ⟨rfl,rfl⟩,by simp[own],.inl ⟨rfl,rfl⟩,by simp[own]⟩
 rintro⟨(ks:Jn),(jj:Int),_⟩ h8 ⟨n,ps,e,hnL,k8,e28,e38,rp,op,rk,ok⟩;dsimp only at e rk ok ⊢;subst e;have z8:=k8.1;by_cases hlt:n<L.length
 ·rw[Jf (show decide ((n:Int)<(ss.len:Int))=true from dT (by omega))];have hw:Jr ((n:Int)+1)=((n+1:Nat):Int):=w6 (by omega);rw[hw];have hxl:=hx _ (YAQ hlt);have hidx:(L.map bx)[((n:Nat):Int).toNat]? = some (bx L[n]):=by rw[YAl,YAO,YAN hlt];rfl
  have hte:L.take (n+1)=L.take n++[L[n]]:=YAi hlt;generalize L[n]=x at *;refine JK (g.keep (by decide) k8) (x:=bx x) (by omega) hidx rfl ?_;rw[Jd (show¬decide (((bx x).size:Int)>1024)=true from fun h=>by have:=of_decide_eq_true h;rw[Js]at this;omega)];refine JK (g.keep (by decide) k8) (x:=bx x) (by omega) hidx rfl ?_
  have hl1:∀t,(XK t [bx x]).length≤1000000:=fun t=>by
   unfold XK QT;simp[Jj,WV];omega
  have hl2:lens [bx x]≤65536:=by simp only[lens,YAZ,YAa,YAe,YAf,Js];omega
  refine QN fun bq h10 hbq k10 r10 hs10 =>?_;refine ZCC.s (tag:=2) r10.seg (by decide) hl2 (hl1 2) fun h11 k11 =>?_;have hkey:Rm hh x=⟨3,hh,(Yt (XK 2 [bx x])).toList.take 16,(Yt (XK 3 [bx x])).toList,0⟩:=Eq.refl _;have hkm:=qB (x:=x) hh1 hh5;generalize hkx:Rm hh x=kx at *;generalize Yt (XK 2 [bx x])=va at *;refine Jq fun b4 h13 hb4 k13 e13 hs13 =>?_;have e13:h13[b4]? = some (Jg Jh (.ar 32 .u8) va):=e13;have k8_13:Jc [] h8 h13:=(k10.n k11).n k13;refine JK (g.keep (by decide) (k8.n k8_13)) (x:=bx x) (by omega) hidx rfl ?_;refine QN fun bq2 h14 hbq2 k14 r14 hs14 =>?_;refine ZCC.s (tag:=3) r14.seg (by decide) hl2 (hl1 3) fun h15 k15 =>?_;generalize Yt (XK 3 [bx x])=vb at *;refine Jq fun b5 h17 hb5 k17 e17 hs17 =>?_;have e17:h17[b5]? = some (Jg Jh (.ar 32 .u8) vb):=e17;have k13_17:Jc [] h13 h17:=(k14.n k15).n k17;have e47:=k13_17.g e13;have k8_17:Jc [] h8 h17:=k8_13.n k13_17
  have hcut:∀ {KK:Ba→Prop},KK (bx (va.toList.take 16))→UA (bx va.toList) 0 16 KK:=fun hk=>by
   refine Z9 (lo:=0) (hi:=16) (by decide) (by simp) ?_;rw[YAH];exact hk
  have hval:((3,((hh:Int),(bx (va.toList.take 16),(bx vb.toList,(0,()))))):YF.Ty)=UQ kx:=by rw[hkey];rfl
  refine Qd (fun y h'=>∃b,y=(Pl.mk b 0,())∧h'[b]? = some (Jg JI YF (UQ kx))∧Jc [] h17 h'∧h17.size≤b) ?_ ?_
  ·refine Jb (Je e47) (Jb (Je e17) ⟨?_,?_⟩)
   ·refine ZAZ.s fun h19 k19=>⟨JN (by decide) (Je e17) k19,hcut ⟨?_,?_⟩⟩
    ·refine ZAZ.s fun h20 k20 =>?_;refine Jq fun b6 h22 hb6 k22 e22 hs22 =>?_;have:=(k19.n k20).1;exact⟨b6,rfl,by rw[←hval];exact e22,(k19.n k20).n k22,by omega⟩
    ·refine Ji fun b7 h23 hb7 k23 e23 hs23=>⟨JN (by decide) (Je e17) (k19.n k23),?_⟩;refine ZAZ.s fun h24 k24' =>?_;have:=k19.1;have:=k23.1;refine JL (k24'.g e23) fun h25 k25 e25 hs25 =>?_;exact⟨b7,rfl,by rw[←hval];exact e25,((k19.n k23).n k24').new k25 (by simp;omega),by omega⟩
   ·refine Ji fun b8 h26 hb8 k26 e26 hs26=>⟨JN (by decide) (Je e17) k26,JN (by decide) (Je e47) k26,?_⟩;refine ZAZ.s fun h27 k27=>⟨JN (by decide) (Je e17) (k26.n k27),hcut ?_⟩;refine ZAZ.s fun h28 k28 =>?_;have:=k26.1;refine JL ((k27.n k28).g e26) fun h29 k29 e29 hs29 =>?_;exact⟨b8,rfl,by rw[←hval];exact e29,((k26.n k27).n k28).new k29 (by simp;omega),by omega⟩
  ·rintro _ h18 ⟨bk,rfl,ek,k18,hbk⟩;refine Jb (Je ek) ?_;refine ZB7.s hkm fun h30 k30 =>?_;refine Jb (Je (k30.g ek)) ?_;have k8_30:Jc [] h8 h30:=(k8_17.n k18).n k30;refine QN fun bu h31 hbu k31 r31 hs31 =>?_;refine QI r31.seg (by simp[Kd.size]) ?_;have k8_31:Jc [] h8 h31:=k8_30.n k31;have tl:(L.take n).length=n:=by rw[YAX];omega
   have rk31:=rk.keep k8_31 (by simp);refine X8 (T:=JI) (k:=YF) (ys:=[UQ kx]) rk31 rfl rfl (by rw[YAU,tl];simp;omega) fun s6 h32 r6 k32 o6 =>?_;have e33:h32[b3]? = _:=k32.get (k8_31.g e38) (QL rk31 (k8_31.g e38) (by decide));have e32:h32[b2]? = _:=k32.get (k8_31.g e28) (QL rk31 (k8_31.g e28) (by decide));have rp32:=(rp.keep k8_31 (by simp)).keep k32 (UT (rp.keep k8_31 (by simp)) rk31 (by decide));refine Jb (U8 e33).2.1 ?_;refine QN fun bv h33 hbv k33 r33 hs33 =>?_;refine QI r33.seg (by simp[Kd.size]) ?_;have rp33:=rp32.keep k33 (by simp);refine X8 (T:=Jt) (k := .s) (ys:=[bx (Zq kx)]) rp33 rfl rfl (by rw[YAU,YAU,tl];simp;omega) fun s8 h34 r8 k34 o8 =>?_;have e34:=k34.get (k33.g e33) (QL rp33 (k33.g e33) (by decide));have e24:=k34.get (k33.g e32) (QL rp33 (k33.g e32) (by decide));have r6':=r6.keep k33 (by simp);have r6'':=r6'.keep k34 (UT r6' rp33 (by decide));refine Qm (k:=Yf) (k' := .sl) (n:=2) e34 (by decide) gM ?_;have e35:=Jw (o':=Jg JP Yf ((mv,(s8,())):Yf.Ty)) e34;have k35:Jc [b3] h34 (h34.setIfInBounds b3 (Jg JP Yf ((mv,(s8,())):Yf.Ty))):=Jo;generalize h34.setIfInBounds b3 (Jg JP Yf ((mv,(s8,())):Yf.Ty))=h35 at *;have z831:=k8_31.1;have z32:=k32.1;have z33:=k33.1;have hb3':h2.size≤b3:=by omega
   refine⟨⟨n+1,s8,rfl,by omega,?_,k35.get e24 (by simp;omega),e35,?_,fun q hq =>?_,?_,fun q hq =>?_⟩,by simp;omega⟩
   ·exact((((k8.n k8_31).new k32 ok).n k33).new k34 op).new k35 (by simp;omega)
   ·have:=r8.keep k35 (fun q hq hm=>by simp at hm;subst hm;exact QL r8 e34 (by decide) hq);rw[hte];simpa[hkx] using this
   ·rcases XO o8 q hq with h | h
    ·exact op q h
    ·omega
   ·have:=r6''.keep k35 (fun q hq hm=>by simp at hm;subst hm;exact QL r6'' e34 (by decide) hq);rw[hte];simpa[hkx] using this
   ·rcases XO o6 q hq with h | h
    ·exact ok q h
    ·omega
 ·rw[Jd (show¬decide ((n:Int)<(ss.len:Int))=true from dn (by omega))];obtain rfl:n=L.length:=by omega
  rw[YAg]at rp rk;refine Jb (Je e38) ?_;refine JL e28 fun h36 k36 e36 hs36=>Jb (Je e36) ?_;refine hK h36 ps ks (k8.new k36 (by simp;omega)) (rp.keep k36 fun q hq hm =>?_) op (rk.keep k36 fun q hq hm =>?_) ok
  ·simp at hm;subst hm;exact QL rp e28 (by decide) hq
  ·simp at hm;subst hm;exact QL rk e28 (by decide) hq
structure EB (n0:Nat) (h:Ja) (kv:Yf.Ty) (ks:Jn) (a b:Sd) (x y:Nat):Prop where
 m:Sc n0 h kv.1 Rk
 p:JR h Jt .s kv.2.1 ([a.pub,b.pub].map bx)
 op:∀q∈own kv.2.1,n0≤q
 k:JR h JI YF ks [UQ (a.k x),UQ (b.k y)]
 ok:∀q∈own ks,n0≤q
def EB.at{n0:Nat}{h:Ja}{kv:Yf.Ty}{ks:Jn}{a b:Sd}{x y:Nat} (m:EB n0 h kv ks a b x y):IU h kv (Zh a b):=⟨m.m.at,m.p.seg⟩
def EB.keep{n0:Nat}{h h':Ja}{kv:Yf.Ty}{ks:Jn}{a b:Sd}{x y:Nat}{S:List Nat} (m:EB n0 h kv ks a b x y) (k:Jc S h h') (hS:∀b∈S,b<n0∨∀T,T=XH∨T=Qp∨T=Jt∨T=JI→∀c f,h[b]? ≠ some (.cells c T f)):EB n0 h' kv ks a b x y:=by
 refine⟨m.m.keep k fun b hb =>?_,JZ m.p k m.op fun b hb =>?_,m.op,JZ m.k k m.ok fun b hb =>?_,m.ok⟩
 ·rcases hS b hb with h1 | h1
  ·exact .inl h1
  ·exact .inr fun c f=>⟨h1 _ (by simp) c f,h1 _ (by simp) c f⟩
 ·rcases hS b hb with h1 | h1
  ·exact .inl h1
  ·exact .inr (.inr (h1 _ (by simp)))
 ·rcases hS b hb with h1 | h1
  ·exact .inl h1
  ·exact .inr (.inr (h1 _ (by simp)))
def EB.keep0{n0:Nat}{h h':Ja}{kv:Yf.Ty}{ks:Jn}{a b:Sd}{x y:Nat} (m:EB n0 h kv ks a b x y) (k:Jc [] h h'):EB n0 h' kv ks a b x y:=m.keep k (by simp)
def zb{a b:Nat}:RV (a:Int) (b:Int)=((min a b:Nat):Int):=by unfold RV;split <;> omega
end Go.Proofs.Tryz
