import Derived.Test.YtpfgaleonhihhaaGreatT2
import Derived.Test.YtpfgaleonhihhaaGreatModels3
import Derived.Test.YtpfgaleonhihhaaGreatAl2
import Derived.Test.YtpfgaleonhihhaaGreatT1
set_option linter.defProp false
set_option linter.unusedVariables false
set_option linter.unusedSimpArgs false
set_option maxRecDepth 100000
open List renaming all_eq_true → YAA, append_assoc → YAB, append_nil → YAC, drop_left' → YAD, flatMap_append → YAE, flatMap_cons → YAF, getD_eq_getElem?_getD → YAG, getElem?_eq_getElem → YAH, getElem?_map → YAI, getElem_mem → YAJ, length_append → YAK, length_cons → YAL, length_drop → YAM, length_map → YAN, length_nil → YAO, length_take → YAP, map_append → YAQ, mem_append → YAR, mem_cons → YAS, nil_append → YAT, not_mem_nil → YAU, range_succ → YAV, replicate_succ → YAW, reverse_cons → YAX, take_append_drop → YAY, take_left' → YAZ, take_of_length_le → YAa, take_succ_eq_append_getElem → YAb
open Int renaming natCast_nonneg → YAc, toNat_natCast → YAd, toNat_of_nonneg → YAe
open Nat renaming le_refl → YAf, le_succ → YAg, one_le_two_pow → YAh, pow_le_pow_right → YAi, pow_succ → YAj, zero_add → YAk, zero_le → YAl
open Bool renaming and_eq_true → YAm, false_eq_true → YAn, true_and → YAo
namespace Go.Proofs.Tryz
open Go Go.Al
def DY{us:List Int}{n:Int}:XM us n=true↔us≠[]∧∀j,(hj:j<us.length)→0≤us[j]∧us[j]<n∧(0<j→us[j-1]'(by omega)<us[j]):=by
 unfold XM;simp only[YAm,YAA,Qg,Bool.not_eq_true',List.isEmpty_eq_false_iff]
 constructor
 ·rintro⟨⟨h1,h2⟩,h3⟩;refine⟨h3,fun j hj=>⟨(h1 _ (YAJ hj)).1,(h1 _ (YAJ hj)).2,fun h0 =>?_⟩⟩;have:=(W6 us).1 h2 (j-1) (by omega);simpa[Nat.sub_add_cancel h0] using this
 ·rintro⟨h3,h⟩;refine⟨⟨fun u hu =>?_,(W6 us).2 fun j hj =>?_⟩,h3⟩
  ·obtain⟨j,hj,rfl⟩:=List.mem_iff_getElem.1 hu;exact⟨(h j hj).1,(h j hj).2.1⟩
  ·have:=(h (j+1) hj).2.2 (by omega);simpa using this
def ZAk.s{v:XU.Ty}{m:Mb}{h:Ja}{K:Bool→Hp} (a:UN h v m) (hgl:m.groups.length≤9223372036854775807) (hK:∀h',Jc [] h h'→K (QU m) h'):ZAk.C v h K:=by
 apply ZAk.c;unfold ZAk.m;refine Ji fun b h1 hb k1 e1 hs1 =>?_;have e1:h1[b]? = some (Jg JT XU v):=e1;obtain⟨gs,g1,g2⟩:=a.g;have hu:=a.u;obtain⟨(u:Int),(sl:Jn),⟨⟩⟩:=v;dsimp only at hu g1;subst hu;have f0:sm .i ((Pl.mk b 0).fld 0) m.users h1:=JV (Je e1) (by decide) rfl;have f1:sm .sl ((Pl.mk b 0).fld 1) sl h1:=JV (Je e1) (by decide) rfl;have gl:=g1.len;have g2l:=g2.len;have g1':=g1.keep (by decide) k1;refine Qd (fun y h'=>h'=h1∧y.1=decide (m.users<1∨16<m.users∨8<m.groups.length)) ?_ ?_
 ·refine Jb f0 ?_;by_cases c1:m.users<1
  ·rw[Jf (by simpa using c1)];exact⟨rfl,by simp[c1]⟩
  rw[Jd (by simpa using c1)];refine Jb f0 ?_;by_cases c2:m.users>16
  ·rw[Jf (by simpa using c2)];exact⟨rfl,by simp[c2]⟩
  rw[Jd (by simpa using c2)];refine Jb f1 ⟨rfl,?_⟩;have:(sl.len:Int)=(m.groups.length:Int):=by omega
  rw[this];by_cases c3:8<m.groups.length
  ·rw[dT (by omega),dT (by omega)]
  ·rw[dF (by omega),dF (by omega)]
 rintro⟨(y:Bool),_⟩ h2 ⟨rfl,ey⟩;dsimp only at ey ⊢;rw[ey];by_cases hc:m.users<1∨16<m.users∨8<m.groups.length
 ·rw[Jf (dT hc)]
  have:QU m=false:=by
   unfold QU;rcases hc with h | h | h
   ·rw[dF (p:=1≤m.users) (by omega)];rfl
   ·rw[dF (p:=m.users≤16) (by omega)];simp
   ·rw[dF (p:=m.groups.length≤8) (by omega)];simp
  rw[←this];exact hK _ k1
 rw[Jd (by rw[Qg];exact hc)]
 have hmb:QU m=m.groups.all fun g=>XM g m.users:=by
  unfold QU;rw[dT (by omega),dT (by omega),dT (by omega)];rfl
 refine JF (fun(y:Int×Unit) (h2':Ja)=>h2'=h2∧∃n:Nat,y.1=n∧n≤m.groups.length∧∀j,(hj:j<m.groups.length)→j<n→XM m.groups[j] m.users=true) (fun(y:Int×Unit) _=>m.groups.length-y.1.toNat) ?_ ?_
 ·exact⟨rfl,0,rfl,YAl _,fun j _ h=>by omega⟩
 ·rintro⟨(i:Int),_⟩ h3 ⟨rfl,n,e,hn,hall⟩;dsimp only at e ⊢;subst e;have hw:Jr ((n:Int)+1)=((n+1:Nat):Int):=w6 (by omega);rw[hw];refine Jb f1 ?_;by_cases hlt:n<m.groups.length
  ·rw[Jf (show decide ((n:Int)<(sl.len:Int))=true from dT (by omega))];have hg:n<gs.length:=by omega
   refine Jb f1 ?_;refine JK g1' (x:=gs[n]) (by omega) (by simp[hg]) rfl ?_;obtain⟨gr,grl⟩:=g2.getI hg hlt;have gr':=gr.keep (by decide) k1;have grlen:=gr.len
   have bad:XM m.groups[n] m.users=false→K false h3:=fun hb=>by
    have:QU m=false:=by
     rw[hmb,List.all_eq_false];exact⟨_,YAJ hlt,by rw[hb];simp⟩
    rw[←this];exact hK _ k1
   generalize hG:m.groups[n]=G at *;generalize hS:gs[n]=S at *;refine JF (fun(y:Int×Unit) (h2':Ja)=>h2'=h3∧∃q:Nat,y.1=q∧q≤G.length∧∀j,(hj:j<G.length)→j<q→0≤G[j]∧G[j]<m.users∧(0<j→G[j-1]'(by omega)<G[j])) (fun(y:Int×Unit) _=>G.length-y.1.toNat) ?_ ?_
   ·exact⟨rfl,0,rfl,YAl _,fun j _ h=>by omega⟩
   ·rintro⟨(i:Int),_⟩ h4 ⟨rfl,q,e,hq,hall2⟩;dsimp only at e ⊢;subst e;by_cases hlq:q<G.length
    ·rw[Jf (show decide ((q:Int)<(S.len:Int))=true from dT (by omega))];have hwq:Jr ((q:Int)+1)=((q+1:Nat):Int):=w6 (by omega);rw[hwq]
     have no:¬(0≤G[q]∧G[q]<m.users∧(0<q→G[q-1]'(by omega)<G[q]))→XM G m.users=false:=fun hn=>by
      cases hgm:XM G m.users with
      | false=>rfl
      | true=>exact absurd ((DY.1 hgm).2 q hlq) hn
     have hgx:G[(q:Int).toNat]? = some G[q]:=by simp[hlq]
     refine Vs ?_;refine Qd (fun y h'=>h'=h4∧y.1=decide (¬(0≤G[q]∧G[q]<m.users∧(0<q→G[q-1]'(by omega)<G[q])))) ?_ ?_
     ·refine JK gr' (x:=G[q]) (by omega) hgx rfl ?_;by_cases c1:G[q]<0
      ·rw[Jf (by simpa using c1)];exact⟨rfl,by rw[dT];rintro⟨h,_⟩;omega⟩
      rw[Jd (by simpa using c1)];refine JK gr' (x:=G[q]) (by omega) hgx rfl (Jb f0 ?_);by_cases c2:G[q]≥m.users
      ·rw[Jf (by simpa using c2)];exact⟨rfl,by rw[dT];rintro⟨_,h,_⟩;omega⟩
      rw[Jd (by simpa using c2)];by_cases c3:0<q
      ·rw[Jf (by simpa using c3)];have hp:Jr ((q:Int)-1)=((q-1:Nat):Int):=w6 (by omega);rw[hp];refine JK gr' (x:=G[q-1]'(by omega)) (by omega) (by rw[YAd,YAH]) rfl ?_;refine JK gr' (x:=G[q]) (by omega) hgx rfl ?_;refine⟨rfl,?_⟩;by_cases c4:G[q-1]'(by omega)≥G[q]
       ·rw[dT c4,dT];rintro⟨_,_,h⟩;have:=h c3;omega
       ·rw[dF c4,dF];exact fun h=>h ⟨by omega,by omega,fun _=>by omega⟩
      ·rw[Jd (by simp;omega)];refine⟨rfl,?_⟩;dsimp only;rw[dF];exact fun h=>h ⟨by omega,by omega,fun h=>absurd h c3⟩
     ·rintro⟨(y:Bool),_⟩ h5 ⟨rfl,ey⟩;dsimp only at ey ⊢;rw[ey];by_cases hb:(0≤G[q]∧G[q]<m.users∧(0<q→G[q-1]'(by omega)<G[q]))
      ·rw[Jd (by rw[Qg];exact fun h=>h hb)];refine⟨⟨by first | rfl | trivial,q+1,rfl,by omega,fun j hj hjq =>?_⟩,by simp;omega⟩;by_cases hje:j=q
       ·subst hje;exact hb
       ·exact hall2 j hj (by omega)
      ·rw[Jf (dT hb)];exact bad (no hb)
    ·rw[Jd (show¬decide ((q:Int)<(S.len:Int))=true by simp;omega)];by_cases hz:G.length=0
     ·rw[Jf (by simp;omega)];refine bad ?_;have:G=[]:=List.length_eq_zero_iff.1 hz;subst this;rfl
     ·rw[Jd (by simp;omega)];refine⟨⟨by first | rfl | trivial,n+1,rfl,by omega,fun j hj hjn =>?_⟩,by simp;omega⟩;by_cases hje:j=n
      ·subst hje;rw[hG];exact DY.2 ⟨fun h=>hz (by rw[h];rfl),fun p hp=>hall2 p hp (by omega)⟩
      ·exact hall j hj (by omega)
  ·rw[Jd (show¬decide ((n:Int)<(sl.len:Int))=true by simp;omega)]
   have:QU m=true:=by
    rw[hmb,YAA];intro g hg;obtain⟨j,hj,rfl⟩:=List.mem_iff_getElem.1 hg;exact hall j hj (by omega)
   rw[←this];exact hK _ k1
def ZBA.s{v:XU.Ty}{m:Mb}{h:Ja}{K:Int→Hp} (a:UN h v m) (hm:QU m=true) (hK:∀h',Jc [] h h'→K (Qx m) h'):ZBA.C v h K:=by
 apply ZBA.c;unfold ZBA.m;refine Ji fun b h1 hb k1 e1 hs1 =>?_;have e1:h1[b]? = some (Jg JT XU v):=e1;obtain⟨gs,g1,g2⟩:=a.g;have hu:=a.u;obtain⟨(u:Int),(sl:Jn),⟨⟩⟩:=v;dsimp only at hu g1;subst hu;refine Jb (k := .i) (x:=m.users) (JV (Je e1) (by decide) rfl) (Jb (k := .sl) (x:=sl) (JV (Je e1) (by decide) rfl) ?_);have gl:=g1.len;have g2l:=g2.len;unfold QU at hm;simp only[YAm,Qg]at hm;obtain⟨⟨⟨m1,m2⟩,m3⟩,_⟩:=hm;rw[JE (by omega) (by omega)];have:m.users+(sl.len:Int)=Qx m:=by unfold Qx;omega
 rw[this];exact hK _ k1
def X9(m:Mb):Fs:=[⟨1,1,1,1,⟨#[]⟩,[]⟩]::List.replicate ((Qx m).toNat-1) []
def qT{h:Ja}:GL h ((1,(1,(1,(1,(⟨#[]⟩,((⟨none,0,0⟩:Jn),())))))):VN) ⟨1,1,1,1,⟨#[]⟩,[]⟩:=⟨rfl,rfl,rfl,rfl,rfl,(JR.nil (T:=QZ)).seg⟩
def UZ{α β : Type}{R : α → β → Prop}{a : α}{b : β} (h:R a b):∀n,Qq R (List.replicate n a) (List.replicate n b)
 | 0=>trivial
 | n+1=>by rw[YAW,YAW];exact⟨h,UZ h n⟩
def ZDK.s{v:XU.Ty}{m:Mb}{h:Ja}{K:Ug.Ty→Int→Hp} (a:UN h v m) (hgl:m.groups.length≤9223372036854775807)
 (hno:QU m=false→∀h',Jc [] h h'→K ((⟨none,0,0⟩:Jn),()) 1500 h')
 (hK:QU m=true→∀h' t0 ss vv,Jc [] h h'→ML h' t0 ss vv (X9 m)→K (t0,()) 0 h'):ZDK.C v h K:=by
 apply ZDK.c;unfold ZDK.m;refine Ji fun b1 h1 hb1 k1 e1 hs1 =>?_;have e1:h1[b1]? = some (Jg JT XU v):=e1;refine Ji fun b2 h2 hb2 k2 e2 hs2 =>?_;have e2:h2[b2]? = some (Jg XJ Ug ((⟨none,0,0⟩:Jn),())):=e2;have k02:Jc [] h h2:=k1.n k2;have c1:=k2.g e1;refine Jb (Je c1) ?_;refine ZAk.s (a.keep k02) hgl fun h3 k3 =>?_;have k03:=k02.n k3
 cases hm:QU m with
 | false =>
   rw[Jf (by rfl)];refine Ep (y:=(((⟨none,0,0⟩:Jn),()):Ug.Ty)) (k3.g e2) fun h4 k4 e4 hs4 =>?_;exact hno hm h4 (k03.new k4 (by simp;omega))
 | true =>
   rw[Jd (by simp)];refine Jb (Je (k3.g c1)) ?_;refine ZBA.s (a.keep k03) hm fun h5 k5 =>?_
   have hp:1≤Qx m∧Qx m≤24:=by
    unfold QU at hm;simp only[YAm,Qg]at hm;obtain⟨⟨⟨m1,m2⟩,m3⟩,_⟩:=hm;unfold Qx;omega
   obtain⟨n,hn⟩:∃n:Nat,Qx m=((n+1:Nat):Int):=⟨(Qx m).toNat-1,by omega⟩;rw[hn];refine Up (by omega) (by omega) fun b h6 hb6 k6 r6 hs6 =>?_;refine Jq fun b3 h8 hb3 k8 e8 hs8 =>?_;have e8:h8[b3]? = some (Jg XJ Ug ((⟨some ⟨b,0⟩,n+1,n+1⟩:Jn),())):=e8;refine Jb (k := .sl) (x:=(⟨some ⟨b,0⟩,n+1,n+1⟩:Jn)) (JV (Je e8) (by decide) rfl) ?_;refine QN fun bq h9 hbq k9 r9 hs9 =>?_;have r69:=(r6.keep k8 (by simp)).keep k9 (by simp);have s8:=k8.1;have s9:=k9.1;refine U7 (i:=0) (k := .sl) (x:=(⟨some ⟨bq,0⟩,1,1⟩:Jn)) r69 (by omega) (by simp) rfl fun h10 k10 r10 =>?_;have hown:own (⟨some ⟨b,0⟩,n+1,n+1⟩:Jn)=[b]:=rfl;refine Jb (Je (k10.get (k9.g e8) (by rw[hown];simp;omega))) ?_;have s5:=k5.1;have s3:=k3.1;have l2:=Jl e2;have k310:Jc [] h3 h10:=(((k5.n k6).n k8).n k9).new k10 (fun q hq=>by rw[hown]at hq;simp at hq;omega);refine Ep (k310.g (k3.g e2)) fun h11 k11 e11 hs11 =>?_;refine hK hm h11 _ (⟨some ⟨bq,0⟩,1,1⟩::List.replicate n ⟨none,0,0⟩) ([(1,(1,(1,(1,(⟨#[]⟩,((⟨none,0,0⟩:Jn),()))))))]::List.replicate n []) ((k03.n k310).new k11 (by simp;omega)) ⟨?_,?_,?_⟩
   ·have:(List.replicate (n+1) (Kd.zero .sl)).set (0:Int).toNat (⟨some ⟨bq,0⟩,1,1⟩:Jn)=⟨some ⟨bq,0⟩,1,1⟩::List.replicate n ⟨none,0,0⟩:=by
     rw[YAW];rfl
    rw[←this];exact(r10.keep k11 (by rw[hown];simp;omega)).seg
   ·refine⟨((r9.keep k10 (by rw[hown];simp[own];omega)).keep k11 (by simp[own];omega)).seg,UZ (R:=fun s vs=>Q5 M7 s vs h11) (JR.nil (T:=Vc)).seg n⟩
   ·unfold X9;have:(Qx m).toNat-1=n:=by omega
    rw[this];exact⟨⟨qT,trivial⟩,UZ trivial n⟩
def cC:Cl:=⟨3,⟨#[47,102]⟩,⟨#[]⟩,⟨#[]⟩,0,9,0⟩
def cD:Cl:=⟨2,⟨#[47,100]⟩,⟨#[]⟩,⟨#[]⟩,0,0,1⟩
section
variable {h:Ja}{b:Nat}{a:An}
end
abbrev Tj:Kd := .ag (.pr .i (.pr .i (.pr .i (.pr .i (.pr .i (.pr (.ar 32 .u8) .un))))))
def iN(x:Tj.Ty):Int:=x.1
def iK(x:Tj.Ty):Int:=x.2.1
def iM(x:Tj.Ty):Int:=x.2.2.1
def iL(x:Tj.Ty):Int:=x.2.2.2.1
def iS(x:Tj.Ty):Int:=x.2.2.2.2.1
def U6(x:Tj.Ty):Bool:=Ce (iN x) (iK x) (iM x) (iL x)&&decide (0≤iS x)&&decide (iS x≤4096)&&(decide (iK x≠1)||decide (iS x=0))
def gK{l:Pl}{v:Tj.Ty}{h:Ja} (e:sm Tj l v h):sm .i (l.fld 0) (iN v) h∧sm .i (l.fld 1) (iK v) h∧sm .i (l.fld 2) (iM v) h∧sm .i (l.fld 3) (iL v) h∧sm .i (l.fld 4) (iS v) h∧sm (.ar 32 .u8) (l.fld 5) v.2.2.2.2.2.1 h:=
 ⟨JV e (by decide) rfl,JV e (by decide) rfl,JV e (by decide) rfl,JV e (by decide) rfl,JV e (by decide) rfl,JV e (by decide) (by
  show(([Value.int .i64 v.1]++([Value.int .i64 v.2.1]++([Value.int .i64 v.2.2.1]++([Value.int .i64 v.2.2.2.1]++([Value.int .i64 v.2.2.2.2.1]++((Kd.ar 32 .u8).cells v.2.2.2.2.2.1++[])))))).drop 5).take (Kd.ar 32 .u8).size=_;simp only[List.singleton_append,List.drop_succ_cons,List.drop_zero,YAC];rw[YAa (by rw[Kd.cells_length];exact YAf _)])⟩
def wU{a b:Int}{P Q:Prop} (h1:b≤a→P) (h2:a<b→Q):if decide (a≥b)=true then P else Q:=by
 by_cases h:b≤a
 ·rw[Jf (by simpa using h)];exact h1 h
 ·rw[Jd (by simpa using h)];exact h2 (by omega)
def wV{a b:Int}{P Q:Prop} (h1:a≤b→P) (h2:b<a→Q):if decide (a≤b)=true then P else Q:=by
 by_cases h:a≤b
 ·rw[Jf (by simpa using h)];exact h1 h
 ·rw[Jd (by simpa using h)];exact h2 (by omega)
def PI{a b:Int}{P Q:Prop} (h1:a=b→P) (h2:a≠b→Q):if decide (a=b)=true then P else Q:=by
 by_cases h:a=b
 ·rw[Jf (by simpa using h)];exact h1 h
 ·rw[Jd (by simpa using h)];exact h2 h
def ZBk.s{x:Tj.Ty}{h:Ja}{K:Bool→Hp} (hK:∀h',Jc [] h h'→K (U6 x) h'):ZBk.C x h K:=by
 apply ZBk.c;unfold ZBk.m;refine Ji fun b1 h1 hb1 k1 e1 hs1 =>?_;obtain⟨f0,f1,f2,f3,f4,_⟩:=gK (Je e1);refine JH (U6 x,()) h1 ?_ (hK h1 k1);unfold U6 Ce;generalize iN x=n at *;generalize iK x=k at *;generalize iM x=m at *;generalize iL x=l at *;generalize iS x=s at *
 repeat' first | with_reducible refine Jb f0 ?_ | with_reducible refine Jb f1 ?_ | with_reducible refine Jb f2 ?_ | with_reducible refine Jb f3 ?_ | with_reducible refine Jb f4 ?_ | with_reducible refine wU (fun hc =>?_) (fun hc =>?_) | with_reducible refine wV (fun hc =>?_) (fun hc =>?_) | with_reducible refine PI (fun hc =>?_) (fun hc =>?_)
 all_goals
  refine⟨Prod.ext ?_ rfl,by first | rfl | trivial⟩;dsimp only;show(_:Bool)=_;rw[Bool.eq_iff_iff];simp only[Qg,YAm,Bool.or_eq_true,YAn]
  clear f0 f1 f2 f3 f4 e1 hK
  simp only[Kd.Ty,false_iff]at *;omega
def ZCX.s{v:VN}{x:Nd}{h:Ja}{K:Bool→Hp} (a:GL h v x) (hl:x.ents.length≤9223372036854775807) (hK:∀h',Jc [] h h'→K (XF x) h'):ZCX.C v h K:=by
 apply ZCX.c;unfold ZCX.m;refine Ji fun b1 h1 hb1 k1 e1 hs1 =>?_;obtain⟨f0,f1,f2,f3,f4,f5⟩:=Rp (Je e1);rw[a.n]at f0;rw[a.k]at f1;rw[a.m]at f2;rw[a.l]at f3;rw[a.d]at f4;refine Jb f0 (Jb f1 (Jb f2 (Jb f3 ?_)));refine Jq fun b2 h3 hb2 k3 e3 hs3 =>?_;have k03:Jc [] h h3:=k1.n k3;have g:=fun{n:Nat} {k:Kd} {y:k.Ty} (h':Ja) (kk:Jc [] h1 h') (hk:0<k.size) (e:sm k ((Pl.mk b1 0).fld n) y h1)=>JN hk e kk;refine Qd (fun y h'=>Jc [] h3 h'∧y.1 = !(My x&&decide (x.data.size≤4096)&&QS x.ents)) ?_ ?_
 ·refine Jb (Je e3) ?_;refine ZBk.s fun h5 k5 =>?_
  have hi:U6 (x.num,(x.kind,(x.mode,(x.links,(0,(Vector.replicate 32 0,()))))))=My x:=by
   unfold U6 My;show(Ce x.num x.kind x.mode x.links&&decide ((0:Int)≤0)&&decide ((0:Int)≤4096)&&(decide (x.kind≠1)||decide ((0:Int)=0)))=_;simp
  rw[hi]
  cases hn:My x with
  | false=>rw[Jf (by rfl)];exact⟨k5,rfl⟩
  | true =>
    rw[Jd (by simp)];have k15:Jc [] h1 h5:=k3.n k5;refine Jb (g h5 k15 (by decide) f4) ?_;by_cases hd:x.data.size≤4096
    ·rw[Jd (by simp;omega)];refine Jb (g h5 k15 (by decide) f5) ?_;refine ZCU.s ((a.e.keep (by decide) k1).keep (by decide) k15) hl fun h6 k6=>⟨k5.n k6,?_⟩;rw[dT hd];rfl
    ·rw[Jf (by simp;omega)];exact⟨k5,by rw[dF hd];rfl⟩
 ·rintro⟨(y:Bool),_⟩ h4 ⟨k4,ey⟩;dsimp only at ey ⊢;have k14:Jc [] h1 h4:=k3.n k4;have k04:Jc [] h h4:=k03.n k4;rw[ey]
  cases hb:(My x&&decide (x.data.size≤4096)&&QS x.ents) with
  | false =>
    rw[Jf (by rfl)]
    have:XF x=false:=by
     unfold XF
     cases hn:My x with
     | false=>rfl
     | true =>
       rw[hn]at hb;simp only[YAo]at hb ⊢;split
       ·by_cases hd:x.data=⟨#[]⟩
        ·rw[hd]at hb;have h0:(⟨#[]⟩:Ba).size=0:=rfl;rw[h0]at hb;simp only[dT (show(0:Nat)≤4096 by omega),YAo]at hb;rw[hb];simp
        ·simp[hd]
       ·by_cases he:x.ents=[]
        ·rw[he,show QS []=true from rfl]at hb;simp only[Bool.and_true]at hb;rw[hb];rfl
        ·simp[he]
    have:=hK h4 k04
    simp_all
  | true =>
    rw[Jd (by simp)];simp only[YAm,Qg]at hb;obtain⟨⟨h1',h2⟩,h3'⟩:=hb;refine Jb (g h4 k14 (by decide) f1) ?_;have hK:=hK h4 k04;unfold XF at hK;rw[h1',h3']at hK;by_cases hk:x.kind=1
    ·rw[Jf (by simpa using hk)];rw[Jf hk]at hK;refine Jb (g h4 k14 (by decide) f4) ?_;simpa using hK
    ·rw[Jd (by simpa using hk)];rw[Jd hk,dT h2]at hK;refine Jb (g h4 k14 (by decide) f5) ?_;have gl:=a.e.len
     have:decide (((Cz v).len:Int)=0)=decide (x.ents=[]):=by
      rw[gl]
      cases x.ents with
      | nil=>rfl
      | cons=>simp;omega
     rw[this];simpa using hK
section
variable {t0:Jn}{ss:List Jn}{vv:List (List VN)}{X:Fs}{h:Ja}
def ML.lens(w:ML h t0 ss vv X):t0.len=X.length∧ss.length=X.length∧vv.length=X.length:=by
 have h1:=w.t.len;have h2:=w.r.len;have h3:=w.n.len;exact⟨by omega,by omega,by omega⟩
def ML.tab(w:ML h t0 ss vv X){o:Nat} (ho:o<X.length){K:Jn→Prop} (hK:K (ss[o]'(by have:=w.lens;omega))):ix t0 (o:Int) 1 fun l=>ld .sl l h K:=by
 have:=w.lens;exact JK w.t (x:=ss[o]'(by omega)) (by omega) (by first | (simp;done) | (simp;omega)) rfl hK
def ML.row(w:ML h t0 ss vv X){o:Nat} (ho:o<X.length):Q5 M7 (ss[o]'(by have:=w.lens;omega)) (vv[o]'(by have:=w.lens;omega)) h:=by
 have:=w.lens;exact w.r.getI (by omega) (by omega)
def ML.nds(w:ML h t0 ss vv X){o:Nat} (ho:o<X.length):Qq (GL h) (vv[o]'(by have:=w.lens;omega)) X[o]:=by
 have:=w.lens;exact w.n.getI (by omega) ho
def ML.rlen(w:ML h t0 ss vv X){o:Nat} (ho:o<X.length):(ss[o]'(by have:=w.lens;omega)).len=(X[o]).length∧(vv[o]'(by have:=w.lens;omega)).length=(X[o]).length:=by
 have h1:=(w.row ho).len;have h2:=(w.nds ho).len;exact⟨by omega,h2⟩
def ML.nd(w:ML h t0 ss vv X){o j:Nat} (ho:o<X.length) (hj:j<(X[o]).length){K:VN→Prop} (hK:∀v,GL h v (X[o])[j]→K v):ix (ss[o]'(by have:=w.lens;omega)) (j:Int) 6 fun l=>ld M7 l h K:=by
 have h1:=w.rlen ho;exact JK (w.row ho) (x:=(vv[o]'(by have:=w.lens;omega))[j]'(by omega)) (by omega) (by first | (simp;done) | (simp;omega)) rfl (hK _ ((w.nds ho).getI (by omega) hj))
def ML.ndl(w:ML h t0 ss vv X){o j:Nat} (ho:o<X.length) (hj:j<(X[o]).length){K:Pl→Prop} (hK:∀l v,sm M7 l v h→GL h v (X[o])[j]→K l):ix (ss[o]'(by have:=w.lens;omega)) (j:Int) 6 fun l=>K l:=by
 have h1:=w.rlen ho;refine Xx (w.row ho) (x:=(vv[o]'(by have:=w.lens;omega))[j]'(by omega)) (by omega) (by first | (simp;done) | (simp;omega)) rfl fun l hl=>hK l _ hl ((w.nds ho).getI (by omega) hj)
def ZD1.s{r:Rf}{K:Int→Hp} (w:ML h t0 ss vv X) (hl:∀t∈X,t.length≤9223372036854775807)
 (hN:Zw X r=none→∀h',Jc [] h h'→K (-1) h')
 (hS:∀o j,(ho:o<X.length)→(hj:j<(X[o]).length)→r.1=(o:Int)→Zw X r=some (X[o])[j]→∀h',Jc [] h h'→K (j:Int) h'):ZD1.C (t0,()) r h K:=by
 obtain⟨(ro:Int),(rn:Int),⟨⟩⟩:=r;apply ZD1.c;unfold ZD1.m;refine Ji fun b1 h1 hb1 k1 e1 hs1 =>?_;have e1:h1[b1]? = some (Jg XJ Ug ((t0,()):Ug.Ty)):=e1;refine Ji fun b2 h2 hb2 k2 e2 hs2 =>?_;have e2:h2[b2]? = some (Jg GG RF ((ro,(rn,())):RF.Ty)):=e2;have e1:=k2.g e1;have k02:Jc [] h h2:=k1.n k2;have w2:=w.keep k02;have f0:sm .sl ((Pl.mk b1 0).fld 0) t0 h2:=JV (Je e1) (by decide) rfl;have fo:sm .i ((Pl.mk b2 0).fld 0) ro h2:=JV (Je e2) (by decide) rfl;have fn:sm .i ((Pl.mk b2 0).fld 1) rn h2:=JV (Je e2) (by decide) rfl;have L:=w2.lens;by_cases hr:0≤ro∧ro<X.length
 ·refine JH (false,()) h2 ?_ ?_
  ·refine Jb fo ?_;rw[Jd (show¬decide (ro<0)=true by simp;omega)];refine Jb fo (Jb f0 ⟨?_,by first | rfl | trivial⟩);rw[dF (show¬ro≥(t0.len:Int) by omega)]
  rw[Jd (by simp)];obtain⟨o,rfl⟩:∃o:Nat,ro=o:=⟨ro.toNat,by omega⟩;have ho:o<X.length:=by omega
  have hlo:=hl _ (YAJ ho);have rl:=w2.rlen ho;refine JF (fun(y:Int×Unit) (h3:Ja)=>h3=h2∧∃n:Nat,y.1=n∧n≤(X[o]).length∧∀j,(hj:j<(X[o]).length)→j<n→decide ((X[o])[j].num=rn)=false) (fun(y:Int×Unit) _=>(X[o]).length-y.1.toNat) ?_ ?_
  ·exact⟨rfl,0,rfl,by omega,fun j hj h=>by omega⟩
  ·rintro⟨(i:Int),_⟩ h3 ⟨rfl,n,e,hn,hall⟩;dsimp only at e ⊢;subst e;refine Jb f0 (Jb fo (w2.tab ho ?_));by_cases hlt:n<(X[o]).length
   ·rw[Jf (show decide ((n:Int)<((ss[o]'(by omega)).len:Int))=true from dT (by omega))];have hw:Jr ((n:Int)+1)=((n+1:Nat):Int):=w6 (by omega);rw[hw];refine Jb f0 (Jb fo (w2.tab ho ?_));refine w2.ndl ho hlt fun l v hsm ha =>?_;have g:=(Rp hsm).1;rw[ha.n]at g;refine Jb g (Jb fn ?_);by_cases hq:(X[o])[n].num=rn
    ·rw[Jf (show decide ((X[o])[n].num=rn)=true from dT hq)];refine hS o n ho hlt rfl ?_ h3 k02;unfold Zw;rw[Ra ho];exact Pv hlt hall (dT hq)
    ·rw[Jd (show¬decide ((X[o])[n].num=rn)=true by simpa using hq)];refine⟨⟨by first | rfl | trivial,n+1,rfl,by omega,fun j hj hjn =>?_⟩,by simp;omega⟩;by_cases hje:j=n
     ·subst hje;exact dF hq
     ·exact hall j hj (by omega)
   ·rw[Jd (show¬decide ((n:Int)<((ss[o]'(by omega)).len:Int))=true by simp;omega)];refine hN ?_ h3 k02;unfold Zw;rw[Ra ho];exact SM fun j hj=>hall j hj (by omega)
 ·refine JH (true,()) h2 ?_ ?_
  ·refine Jb fo ?_;by_cases h0:ro<0
   ·rw[Jf (show decide (ro<0)=true from dT h0)];exact⟨rfl,by first | rfl | trivial⟩
   ·rw[Jd (show¬decide (ro<0)=true by simp;omega)];refine Jb fo (Jb f0 ⟨?_,by first | rfl | trivial⟩);rw[dT (show ro≥(t0.len:Int) by omega)]
  rw[Jf (by rfl)];refine hN ?_ h2 k02;unfold Zw Tb;rw[Jd hr];rfl
def P9{t:IX}:Xa t=true↔∀j,(hj:j<t.length)→XF t[j]=true∧(0<j→(t[j-1]'(by omega)).num<t[j].num):=by
 unfold Xa;rw[YAm,W7,YAA]
 constructor
 ·rintro⟨h1,h2⟩ j hj;refine⟨h2 _ (YAJ hj),fun h0 =>?_⟩;have:=h1 (j-1) (by omega);have e:j-1+1=j:=by omega
  simp only[e]at this;exact this
 ·intro hh;refine⟨fun j hj =>?_,fun x hx =>?_⟩
  ·exact(hh (j+1) hj).2 (by omega)
  ·obtain⟨j,hj,rfl⟩:=List.getElem_of_mem hx;exact(hh j hj).1
def ZB3.s{K:Bool→Hp} (w:ML h t0 ss vv X) (hl:wB X) (hK:∀h',Jc [] h h'→K (XQ X) h'):ZB3.C (t0,()) h K:=by
 apply ZB3.c;unfold ZB3.m;refine Ji fun b1 h1 hb1 k1 e1 hs1 =>?_;have e1:h1[b1]? = some (Jg XJ Ug ((t0,()):Ug.Ty)):=e1;have w1:=w.keep k1;have L:=w1.lens;have f0:∀h',Jc [] h1 h'→sm .sl ((Pl.mk b1 0).fld 0) t0 h':=fun h' k=>JV (Je (k.g e1)) (by decide) rfl;by_cases hlen:1≤X.length∧X.length≤24
 case neg=>
  refine JH (true,()) h1 ?_ ?_
  ·refine Jb (f0 h1 Jc.rfl) ?_;by_cases h0:X.length<1
   ·rw[Jf (show decide ((t0.len:Int)<1)=true from dT (by omega))];exact⟨rfl,by first | rfl | trivial⟩
   ·rw[Jd (show¬decide ((t0.len:Int)<1)=true by simp;omega)];refine Jb (f0 h1 Jc.rfl) ⟨?_,by first | rfl | trivial⟩;rw[dT (show(t0.len:Int)>24 by omega)]
  rw[Jf (by rfl)]
  have hm:XQ X=false:=by
   cases hm:XQ X with
   | false=>rfl
   | true=>have:=IL hm;exact absurd ⟨this.1,this.2.1⟩ hlen
  rw[hm]at hK;exact hK h1 k1
 refine JH (false,()) h1 ?_ ?_
 ·refine Jb (f0 h1 Jc.rfl) ?_;rw[Jd (show¬decide ((t0.len:Int)<1)=true by simp;omega)];refine Jb (f0 h1 Jc.rfl) ⟨?_,by first | rfl | trivial⟩;rw[dF (show¬(t0.len:Int)>24 by omega)]
 rw[Jd (by simp)]
 have bad:∀o,(ho:o<X.length)→Xa X[o]=false→∀h',Jc [] h h'→K false h':=fun o ho hb h' k=>by
  have hm:XQ X=false:=by
   cases hm:XQ X with
   | false=>rfl
   | true=>have:=(IL hm).2.2.1 _ (YAJ ho);rw[hb]at this;simp at this
  rw[hm]at hK;exact hK h' k
 refine JF (fun(y:Int×Unit) (h3:Ja)=>∃n:Nat,y.1=n∧n≤X.length∧Jc [] h1 h3∧∀j,(hj:j<X.length)→j<n→Xa X[j]=true) (fun(y:Int×Unit) _=>X.length-y.1.toNat) ?_ ?_
 ·exact⟨0,rfl,by omega,Jc.rfl,fun j hj h=>by omega⟩
 ·rintro⟨(i:Int),_⟩ h3 ⟨n,e,hn,k3,hall⟩;dsimp only at e ⊢;subst e;have k03:Jc [] h h3:=k1.n k3;refine Jb (f0 h3 k3) ?_;by_cases hlt:n<X.length
  ·rw[Jf (show decide ((n:Int)<(t0.len:Int))=true from dT (by omega))];have hw:Jr ((n:Int)+1)=((n+1:Nat):Int):=w6 (by omega);rw[hw];have w3:=w1.keep k3;refine Jb (f0 h3 k3) (w3.tab hlt ?_);have rl:=w3.rlen hlt;have hlo:=(hl.2 _ (YAJ hlt)).1;refine JF (fun(y:Int×Unit) (h4:Ja)=>∃q:Nat,y.1=q∧q≤(X[n]).length∧Jc [] h1 h4∧∀j,(hj:j<(X[n]).length)→j<q→XF (X[n])[j]=true∧(0<j→((X[n])[j-1]'(by omega)).num<(X[n])[j].num)) (fun(y:Int×Unit) _=>(X[n]).length-y.1.toNat) ?_ ?_
   ·exact⟨0,rfl,by omega,k3,fun j hj h=>by omega⟩
   ·rintro⟨(i:Int),_⟩ h4 ⟨q,e,hq,k4,hall2⟩;dsimp only at e ⊢;subst e;have w4:=w1.keep k4;have k04:Jc [] h h4:=k1.n k4;by_cases hlq:q<(X[n]).length
    ·rw[Jf (show decide ((q:Int)<((ss[n]'(by omega)).len:Int))=true from dT (by omega))];have hwq:Jr ((q:Int)+1)=((q+1:Nat):Int):=w6 (by omega);rw[hwq]
     have no:¬(XF (X[n])[q]=true∧(0<q→((X[n])[q-1]'(by omega)).num<(X[n])[q].num))→Xa X[n]=false:=fun hno=>by
      cases hm:Xa X[n] with
      | false=>rfl
      | true=>exact absurd (P9.1 hm q hlq) hno
     refine Qd (fun _ h'=>Jc [] h1 h'∧XF (X[n])[q]=true∧(0<q→((X[n])[q-1]'(by omega)).num<(X[n])[q].num)) ?_ ?_
     ·refine Qd (fun y h'=>Jc [] h1 h'∧y.1 = !decide (XF (X[n])[q]=true∧(0<q→((X[n])[q-1]'(by omega)).num<(X[n])[q].num))) ?_ ?_
      ·refine w4.nd hlt hlq fun v ha =>?_;refine ZCX.s ha (hl.2 _ (YAJ hlt) |>.2 _ (YAJ hlq)) fun h7 k7 =>?_;have k17:Jc [] h1 h7:=k4.n k7;have w7:=w1.keep k17
       cases hm:XF (X[n])[q] with
       | false=>rw[Jf (by rfl)];exact⟨k17,by simp⟩
       | true =>
         rw[Jd (by simp)];by_cases h0:0<q
         ·rw[Jf (show decide ((q:Int)>0)=true from dT (by omega))];have hwm:Jr ((q:Int)-1)=((q-1:Nat):Int):=w6 (by omega);rw[hwm];refine w7.ndl hlt (show q-1<(X[n]).length by omega) fun l v hs ha =>?_;have g:=(Rp hs).1;rw[ha.n]at g;refine Jb g ?_;refine w7.ndl hlt hlq fun l v hs ha =>?_;have g':=(Rp hs).1;rw[ha.n]at g';refine Jb g' ⟨k17,?_⟩;by_cases hlt2:((X[n])[q-1]'(by omega)).num<(X[n])[q].num
          ·have hd:true=true∧(0<q→((X[n])[q-1]'(by omega)).num<(X[n])[q].num):=⟨rfl,fun _=>hlt2⟩;rw[dT hd];show decide (((X[n])[q-1]'(by omega)).num≥(X[n])[q].num)=false;exact dF (show¬((X[n])[q].num≤((X[n])[q-1]'(by omega)).num) by omega)
          ·have hd:¬(true=true∧(0<q→((X[n])[q-1]'(by omega)).num<(X[n])[q].num)):=fun h=>hlt2 (h.2 h0);rw[dF hd];show decide (((X[n])[q-1]'(by omega)).num≥(X[n])[q].num)=true;exact dT (show(X[n])[q].num≤((X[n])[q-1]'(by omega)).num by omega)
         ·rw[Jd (show¬decide ((q:Int)>0)=true by simp;omega)];refine⟨k17,?_⟩;rw[dT (⟨rfl,fun h=>absurd h h0⟩:true=true∧(0<q→((X[n])[q-1]'(by omega)).num<(X[n])[q].num))]
          rfl
      ·rintro⟨(y:Bool),_⟩ h6 ⟨k6,ey⟩;dsimp only at ey ⊢;rw[ey];by_cases hok:XF (X[n])[q]=true∧(0<q→((X[n])[q-1]'(by omega)).num<(X[n])[q].num)
       ·rw[dT hok,Jd (by simp)];exact⟨k6,hok⟩
       ·rw[dF hok,Jf (by rfl)];exact bad n hlt (no hok) h6 (k1.n k6)
     ·rintro⟨⟩ h5 ⟨k5,hok⟩;refine⟨⟨q+1,rfl,by omega,k5,fun j hj hjq =>?_⟩,by simp;omega⟩;by_cases hje:j=q
      ·subst hje;exact hok
      ·exact hall2 j hj (by omega)
    ·rw[Jd (show¬decide ((q:Int)<((ss[n]'(by omega)).len:Int))=true by simp;omega)];refine⟨⟨n+1,rfl,by omega,k4,fun j hj hjn =>?_⟩,by simp;omega⟩;by_cases hje:j=n
     ·subst hje;exact P9.2 fun p hp=>hall2 p hp (by omega)
     ·exact hall j hj (by omega)
  ·rw[Jd (show¬decide ((n:Int)<(t0.len:Int))=true by simp;omega)];have w3:=w1.keep k3;refine Jb (Je (k3.g e1)) ?_
   have all:X.all Xa=true:=List.all_eq_true.2 fun t ht=>by
    obtain⟨j,hj,rfl⟩:=List.getElem_of_mem ht;exact hall j hj (by omega)
   have hst:XQ X=(match Zw X UK with | some x=>decide (x.kind=1) | none=>false):=by
    unfold XQ;rw[all,dT hlen.1,dT hlen.2];rfl
   refine ZD1.s w3 (fun t ht=>(hl.2 t ht).1) (fun hnone h8 k8 =>?_) fun o j ho hj hro hfi h8 k8 =>?_
   ·rw[show Zw X UK=none from hnone]at hst;have k08:Jc [] h h8:=k03.n k8;refine JH (false,()) h8 ?_ ?_
    ·rw[Jd (by decide)];exact⟨rfl,by first | rfl | trivial⟩
    ·rw[hst]at hK;exact hK h8 k08
   ·have k08:Jc [] h h8:=k03.n k8;have k18:Jc [] h1 h8:=k3.n k8;have w8:=w1.keep k18;have ho0:o=0:=by have:(0:Int)=(o:Int):=hro;omega
    subst ho0;rw[show Zw X UK=some (X[0])[j] from hfi]at hst;refine JH (decide ((X[0])[j].kind=1),()) h8 ?_ ?_
    ·rw[Jf (show decide ((j:Int)≥0)=true from dT (by omega))];refine Jb (f0 h8 k18) ?_
     have ht:=w8.tab ho (K:=fun x=>ix x (j:Int) 6 fun l6=>ld .i (l6.fld 1) h8 fun x14=>(decide (x14=(1:Int)),())=(decide ((X[0])[j].kind=1),())∧h8=h8) (w8.ndl ho hj fun l v hs ha=>by
      have g:=(Rp hs).2.1;rw[ha.k]at g;exact Jb g ⟨rfl,rfl⟩)
     exact ht
    ·rw[hst]at hK;exact hK h8 k08
end
def Cb:∀ {ds:List Nat}{h:Ja}{K:Hp},(∀d∈ds,h[d]? = some (.deferred (some [])))→ds.Nodup→(∀h',Jc ds h h'→K h')→lv ds h K
 | [],h,K,_,_,hK=>hK h Jc.rfl
 | d :: r, h, K, hd, hn, hK => by
   obtain⟨h1,h2⟩:=List.nodup_cons.1 hn;refine⟨hd d (by simp),Cb (fun q hq=>Z0 (hd q (by simp[hq])) (fun e=>h1 (e ▸ hq))) h2 fun h' k'=>hK h' (Jo.then k' (fun q hq _ =>?_) (fun q hq _=>by simp[hq]))⟩;simp at hq;simp[hq]
def TO{t:IX} (h:Xa t=true):XB (t.map QX)=true:=by
 obtain⟨h1,h2,h3⟩:=VJ h;unfold XB;rw[YAm]
 constructor
 ·rw[YAA];intro y hy;obtain⟨x,hx,rfl⟩:=List.mem_map.1 hy;obtain⟨a,b,c,d,e,f,g,i⟩:=PS (h2 x hx);unfold Yr Ce QX;have hz:=(VY (h2 x hx)).1
  have:(x.data.size:Int)≤if x.kind=1 then 0 else 4096:=by
   split
   ·rename_i hk
    rw[(g hk).1];decide
   ·omega
  simp[a,b,c,d,e,f,this]
 ·rw[W8];intro j hj;simp only[List.getElem_map];exact(W7 t).1 h1 j (by simpa using hj)
def UF{t:IX} (h:t.length≤32):(JY t).size≤1218:=by
 unfold JY XA;rw[Js];simp only[YAK,Jj,Iw,YAN];omega
def Yp:∀ {l:IX},(∀x∈l,XF x=true)→(l.flatMap Qe).length≤73*l.length
 | [],_=>by simp
 | a :: r, h => by
   have h1:=Yp (l:=r) fun x hx=>h x (by simp[hx]);have h2:=(Ur (h a (by simp))).2;rw[YAF,YAK,YAL];omega
def CA{h:Ja}{b T T':Nat}{k k':Kd}{x:k.Ty}{y:k'.Ty} (e:h[b]? = some (Jg T k x)) (e':h[b]? = some (Jg T' k' y)) (hT:T≠T'):False:=by
 have:=Option.some.inj (e.symm.trans e');unfold Jg at this
 injection this with _ h2 _
 exact hT h2
structure jE (h0:Ja) (b2 b3 b4 c0 l:Nat) (sl:Jn) (ob:Obj) (L:List Ba) (ns:List Gq) (s:Jn) (m:Option Nat) (sN:Jn) (hh:Ja):Prop where
 ls:ZS hh b2 s m L
 rw:JR hh QD WN sN (ns.map Z1)
 e4:hh[b4]? = some (Jg GT .sl sN)
 e3:hh[b3]? = some (Jg Yu .p (some ⟨b2,0⟩))
 ec:hh[c0]? = some (Jg UE .sl sl)
 el:hh[l]? = some ob
 k:Jc [] h0 hh
 n1:l∉Qb b2 s m
 n2:l∉own sN
 lo:∀q∈Qb b2 s m++own sN++[b4,l],h0.size≤q
def MN(b2 b4 l:Nat) (s:Jn) (m:Option Nat) (sN:Jn):List Nat:=Qb b2 s m++own sN++[b4,l]
def jE.keep0{h0 hh h':Ja}{b2 b3 b4 c0 l:Nat}{sl:Jn}{ob:Obj}{L:List Ba}{ns:List Gq}{s:Jn}{m:Option Nat}{sN:Jn} (i:jE h0 b2 b3 b4 c0 l sl ob L ns s m sN hh) (k:Jc [] hh h'):jE h0 b2 b3 b4 c0 l sl ob L ns s m sN h':=
 ⟨i.ls.keep0 k,i.rw.keep k (by simp),k.g i.e4,k.g i.e3,k.g i.ec,k.g i.el,i.k.n k,i.n1,i.n2,i.lo⟩
def jE.lt{h0 hh:Ja}{b2 b3 b4 c0 l:Nat}{sl:Jn}{ob:Obj}{L:List Ba}{ns:List Gq}{s:Jn}{m:Option Nat}{sN:Jn} (i:jE h0 b2 b3 b4 c0 l sl ob L ns s m sN hh):∀q∈MN b2 b4 l s m sN,q<hh.size:=fun q hq=>by
 simp only[MN,YAR,YAS,YAU,or_false]at hq;rcases hq with(h | h) | rfl | rfl
 ·exact i.ls.lt q h
 ·exact i.rw.lt q h
 ·exact Jl i.e4
 ·exact Jl i.el
def jE.turn{h0 hh:Ja}{b2 b3 b4 c0 l:Nat}{sl:Jn}{ob ob':Obj}{L:List Ba}{ns:List Gq}{s:Jn}{m:Option Nat}{sN:Jn} (i:jE h0 b2 b3 b4 c0 l sl ob L ns s m sN hh) (c3:b3≠l) (c4:b4≠l) (cc:c0≠l):jE h0 b2 b3 b4 c0 l sl ob' L ns s m sN (hh.setIfInBounds l ob'):=by
 have ks:Jc [l] hh (hh.setIfInBounds l ob'):=Jo;exact⟨i.ls.keep ks (fun q hq hm=>by simp at hm;subst hm;exact i.n1 hq),i.rw.keep ks (fun q hq hm=>by simp at hm;subst hm;exact i.n2 hq),ks.get i.e4 (by simpa using c4),ks.get i.e3 (by simpa using c3),ks.get i.ec (by simpa using cc),Jw i.el,i.k.new ks (fun q hq=>by simp at hq;subst hq;exact i.lo _ (by simp)),i.n1,i.n2,i.lo⟩
def ZCd.s{t0:Jn}{ss:List Jn}{vv:List (List VN)}{X:Fs}{h:Ja}{K:Jn→Jn→Int→Hp} (w:ML h t0 ss vv X) (sb:∀t∈X,t.length≤9223372036854775807)
 (hbad:XQ X=false→∀h',Jc [] h h'→K ⟨none,0,0⟩ ⟨none,0,0⟩ 1500 h')
 (hok:XQ X=true→∀h' o1 o2,Jc [] h h'→JR h' Jh HK o1 (QC X)→JR h' Jt .s o2 (Y6 X)→(∀q∈own o1,h.size≤q)→(∀q∈own o2,h.size≤q)→K o1 o2 0 h'):ZCd.C (t0,()) h K:=by
 apply ZCd.c;unfold ZCd.m;refine Ji fun b1 h1 hb1 k1 e1 hs1 =>?_;have e1:h1[b1]? = some (Jg XJ Ug ((t0,()):Ug.Ty)):=e1;refine Jb (Je e1) ?_;refine ZDp.s (w.keep k1) sb fun h2 k2 =>?_;have k02:Jc [] h h2:=k1.n k2
 cases hm:XQ X with
 | false =>
   rw[Jf (by rfl)];exact hbad hm h2 k02
 | true=>
 rw[Jd (by simp)];obtain⟨x1,x2,x3,_⟩:=IL hm;refine Ji fun b2 h3 hb2 k3 e3 hs3 =>?_;refine Jq fun b3 h5 hb3 k5 e5 hs5 =>?_;have e5:h5[b3]? = some (Jg Yu .p (some ⟨b2,0⟩)):=e5;have i5:=(ZS.new e3).keep0 k5;have e15:h5[b1]? = some (Jg XJ Ug ((t0,()):Ug.Ty)):=k5.g (k3.g (k2.g e1));refine Jb (JV (k' := .sl) (y:=t0) (n:=0) (Je e15) (by decide) rfl) ?_;have k05:Jc [] h h5:=(k02.n k3).n k5;have L0:=w.lens;refine JF (fun(y:List Nat×Jn×Int×Unit) (h6:Ja)=>∃n s m,y.2.2.1=((n:Nat):Int)∧n≤X.length∧Jc [] h h6∧ZS h6 b2 s m (JD [] ((X.take n).flatMap Q0))∧(∀q∈Qb b2 s m,h.size≤q)∧h6[b3]? = some (Jg Yu .p (some ⟨b2,0⟩))∧JR h6 Jh HK y.2.1 ((X.take n).map fun t=>Jy (JY t))∧(∀q∈own y.2.1,h.size≤q)∧(∀d∈y.1,h6[d]? = some (.deferred (some []))∧h.size≤d)∧y.1.Nodup) (fun(y:List Nat×Jn×Int×Unit) _=>X.length-y.2.2.1.toNat) ?_ ?_
 ·have s2:=k02.1;exact⟨0,⟨none,0,0⟩,none,rfl,YAl _,k05,i5,fun q hq=>by simp[Qb,own]at hq;omega,e5,JR.nil,by simp[own],by simp,List.nodup_nil⟩
 ·rintro⟨(ds:List Nat),(hs:Jn),(i:Int),_⟩ h6 ⟨n,s,m,e,hn,k6,i6,lo6,e36,r6,o6,d6,nd6⟩;dsimp only at e r6 o6 d6 nd6 ⊢;subst e;by_cases hlt:n<X.length
  case neg=>
   rw[Jd (show¬decide ((n:Int)<(t0.len:Int))=true by simp;omega)];obtain rfl:n=X.length:=by omega
   rw[YAa (YAf _)]at i6 r6;refine Jb (Je e36) (Jp (Jb (Jv i6.o rfl (by decide)) ?_));refine Cb (fun d hd=>(d6 d hd).1) nd6 fun h7 k7 =>?_
   have nD:∀ {T:Nat} {k:Kd} {u:Jn} {xs:List k.Ty},JR h6 T k u xs→∀q∈own u,q∉ds:=fun r q hq hm=>by
    have e1:=(d6 q hm).1;rcases r with⟨e,_⟩ | ⟨b,zs,e,_,_,e4⟩
    ·rw[e]at hq;simp[own]at hq
    ·have:q=b:=by unfold own at hq;rw[e]at hq;simpa using hq
     subst this;rw[e4]at e1;simp[QW]at e1
   exact hok hm h7 hs s (k6.new k7 fun d hd=>(d6 d hd).2) (r6.keep k7 (nD r6)) (i6.r.keep k7 (nD i6.r)) o6 (fun q hq=>lo6 q (by simp[Qb,hq]))
  rw[Jf (show decide ((n:Int)<(t0.len:Int))=true from dT (by omega))];have hwn:Jr ((n:Int)+1)=((n+1:Nat):Int):=w6 (by omega);rw[hwn];have w6:=w.keep k6;refine w6.tab hlt ?_;have gW:∀hh,Jc [] h hh→Q5 M7 (ss[n]'(by omega)) (vv[n]'(by omega)) hh∧Qq (GL hh) (vv[n]'(by omega)) X[n]:=fun hh kk=>⟨(w.keep kk).row hlt,(w.keep kk).nds hlt⟩;have htm:=x3 _ (YAJ hlt);obtain⟨_,tm2,tm3⟩:=VJ htm;have htake:X.take (n+1)=X.take n++[X[n]]:=YAb hlt
  have hfl:((X.take n).flatMap Q0).length≤2400*n:=by
   have:∀(l:Fs),(∀t∈l,Xa t=true)→(l.flatMap Q0).length≤2400*l.length:=by
    intro l
    induction l with
    | nil=>intro _;simp
    | cons a r ih =>
      intro h;have h1:=ih fun x hx=>h x (by simp[hx]);obtain⟨_,q2,q3⟩:=VJ (h a (by simp));have h2:=Yp q2;rw[YAF,YAK,YAL];unfold Q0 at h1 ⊢;rw[YAK,YAL,YAO];omega
   have h1:=this (X.take n) (fun x hx=>x3 x (List.take_subset _ _ hx));rw[YAP]at h1;omega
  have hLl:=QE (L:=([]:List Ba)) (xs:=(X.take n).flatMap Q0);simp only[YAO,YAk]at hLl
  have hLn:JD [] ((X.take (n+1)).flatMap Q0)=Xt (JD (JD [] ((X.take n).flatMap Q0)) (X[n].flatMap Qe)) (JY X[n]):=by
   rw[htake,YAE,Q2];simp only[YAF,List.flatMap_nil,YAC];rw[show Q0 X[n]=X[n].flatMap Qe++[JY X[n]] from rfl,Q2,WQ]
  have hHn:(X.take (n+1)).map (fun t=>Jy (JY t))=(X.take n).map (fun t=>Jy (JY t))++[Jy (JY X[n])]:=by rw[htake,YAQ];rfl
  have hHl:((X.take n).map fun t=>Jy (JY t)).length≤24:=by simp;omega
  generalize JD [] ((X.take n).flatMap Q0)=L at i6 hLl hLn;generalize ((X.take n).map fun t=>Jy (JY t))=H at r6 hHn hHl;generalize X[n]=t at *;generalize ss[n]'(by omega)=sl at *;generalize vv[n]'(by omega)=vs at *;refine Ji fun b4 h7 hb4 k7 e7 hs7 =>?_;have e7:h7[b4]? = some (Jg GT .sl ⟨none,0,0⟩):=e7;apply ZDu.c;unfold ZDu.m;refine Ji fun c0 h8 hc0 k8 ec hs8 =>?_;have ec:h8[c0]? = some (Jg UE .sl sl):=ec;have k68:Jc [] h6 h8:=k7.n k8;have k08:Jc [] h h8:=k6.n k68;refine⟨⟨ZAu.n,ZAu.fn,_,_,rfl,by kernel_rfl,by kernel_rfl,by kernel_rfl⟩,fun o hyd =>?_⟩;generalize hl:h8.size+1=l at hyd ⊢;have kH:Jc [] h8 ((h8.push (.deferred (some []))).push (o .ready)):=Ju.trans Ju;have hsz8:(h8.push (.deferred (some []))).size=h8.size+1:=by simp
  have eL:((h8.push (.deferred (some []))).push (o .ready))[l]? = some (o .ready):=by rw[←hl,←hsz8];exact JA
  have eN:((h8.push (.deferred (some []))).push (o .ready))[h8.size]? = some (.deferred (some [])):=Yq JA;have szH:((h8.push (.deferred (some []))).push (o .ready)).size=h8.size+2:=by simp
  generalize ((h8.push (.deferred (some []))).push (o .ready))=H8 at kH eL eN szH ⊢;have k6H:Jc [] h6 H8:=k68.n kH;have k0H:Jc [] h H8:=k08.n kH;have lt3:=Jl e36;have lt2:=i6.lt;have s0:=k6.1;have c3:b3≠l:=by omega
  have c4:b4≠l:=by omega
  have cc:c0≠l:=by omega
  have iH:jE h b2 b3 b4 c0 l sl (o .ready) L [] s m ⟨none,0,0⟩ H8:=
   ⟨i6.keep0 k6H,JR.nil,kH.g (k8.g e7),k6H.g e36,kH.g ec,eL,k0H,fun hq=>by have:=lt2 l hq;omega,by simp[own],fun q hq=>by
    simp only[own,YAC,YAR,YAS,YAU,or_false]at hq;rcases hq with h | h | h
    ·exact lo6 q h
    ·omega
    ·omega⟩
  refine Qr (aa:=[yv l,Kd.p.val (some ⟨c0,0⟩)]) (by rfl) ?_;show ZAu.C (yv l) ⟨c0,0⟩ H8 _;refine ZAu.s (sl:=sl) (vs:=vs) (t:=t) (L0:=L) (W0:=MN b2 b4 l s m ⟨none,0,0⟩) (fun L ns W hh=>∃s m sN,jE h b2 b3 b4 c0 l sl (o .ready) L ns s m sN hh∧W=MN b2 b4 l s m sN) tm2 tm3 (by omega) ?_ ?_ ?_ ⟨s,m,_,iH,rfl⟩ ?_
  ·rintro L ns W hh ⟨s,m,sN,i,rfl⟩;exact⟨i.ec,(gW hh i.k).1,(gW hh i.k).2,i.lt⟩
  ·rintro L ns W hh hh' ⟨s,m,sN,i,rfl⟩ kk;exact⟨s,m,sN,i.keep0 kk,rfl⟩
  ·rintro L ns W hh ob b x K' ⟨s,m,sN,i,rfl⟩ hLb hNb hK';refine hyd ((ob,(b,(Z1 x,()))),()) hh K' i.el ?_;refine Jq fun b5 h14 hb5 k14 e14 hs14 =>?_;have e14:h14[b5]? = some (Jg IN gk ((ob,(b,(Z1 x,()))):gk.Ty)):=e14;have i14:=i.keep0 k14;have ltW:=i.lt;refine⟨i14.el,?_⟩;have i10:=i14.turn (ob':=o .busy) c3 c4 cc;have k10:Jc [l] h14 (h14.setIfInBounds l (o .busy)):=Jo;have z10:(h14.setIfInBounds l (o .busy)).size=h14.size:=by simp
   have n5l:b5≠l:=by have:=ltW l (by simp[MN]);omega
   have e10:=k10.get e14 (by simpa using n5l);generalize h14.setIfInBounds l (o .busy)=h10 at i10 k10 z10 e10 ⊢;have l5:b5=hh.size:=hb5;have nfp:b5∉Qb b2 s m:=fun hq=>by have:=ltW b5 (by simp[MN,hq]);omega
   refine Vs (Jb (Je i10.e3) (Jb (Jv e10 rfl (by decide)) ?_));refine ZAF.s i10.ls (by omega) fun h16 s' m' i16 k16 f16 =>?_;have e16:=k16.get e10 nfp;refine Jb (Jv (n:=1) (k' := .b) (y:=b) e16 rfl (by decide)) ?_;have a4:=k16.get i10.e4 (i10.ls.off i10.e4 (by decide) (by decide));have a3:=k16.get i10.e3 (i10.ls.off i10.e3 (by decide) (by decide));have ac:=k16.get i10.ec (i10.ls.off i10.ec (by decide) (by decide));have al:=k16.get i10.el i10.n1;have ar:=i10.rw.keep k16 (i10.ls.offRow i10.rw (by decide) (by decide));have lo1:∀q∈Qb b2 s m,h.size≤q:=fun q hq=>i.lo q (by simp[hq]);have z1:=i.k.1;have z2:=k14.1;have z3:=k16.1;have ll:=ltW l (by simp[MN])
   have n1':l∉Qb b2 s' m':=fun hq=>by
    rcases f16 l hq with h | h
    ·exact i10.n1 h
    ·omega
   have i16':jE h b2 b3 b4 c0 l sl (o .busy) (Xt L ob) ns s' m' sN h16:=⟨i16,ar,a4,a3,ac,al,i10.k.new k16 lo1,n1',i10.n2,fun q hq=>by
    simp only[YAR,YAS,YAU,or_false]at hq;rcases hq with(hq | hq) | hq
    ·rcases f16 q hq with h | h
     ·exact lo1 q h
     ·omega
    ·exact i.lo q (by simp[hq])
    ·exact i.lo q (by simp[hq])⟩
   have kA:Jc (MN b2 b4 l s m sN) hh h16:=(k14.then k10 (by simp) (fun q hq _=>by simp at hq;subst hq;simp[MN])).then k16 (fun q hq _=>hq) (fun q hq _=>by simp[MN,hq])
   have wA:∀q∈MN b2 b4 l s' m' sN,q∈MN b2 b4 l s m sN∨hh.size≤q:=fun q hq=>by
    simp only[MN,YAR,YAS,YAU,or_false]at hq ⊢;rcases hq with(hq | hq) | hq
    ·rcases f16 q hq with h | h
     ·exact .inl (.inl (.inl h))
     ·right;omega
    ·exact .inl (.inl (.inr hq))
    ·exact .inl (.inr hq)
   refine Vs ?_
   cases b with
   | false =>
     rw[Jd (by simp)];refine⟨i16'.el,hK' _ _ ⟨s',m',sN,i16'.turn c3 c4 cc,rfl⟩ (kA.then Jo (fun q hq _=>hq) (fun q hq _=>by simp at hq;subst hq;simp[MN])) wA⟩
   | true =>
     rw[Jf rfl];refine Jb (Je i16'.e4) ?_;refine Jb (JV (k':=WN) (y:=Z1 x) (n:=2) (Je e16) (by decide) ?_) ?_
     ·have:(gk.cells ((ob,(true,(Z1 x,()))):gk.Ty)).drop 2=WN.cells (Z1 x)++[]:=rfl;rw[this,YAC];exact YAa (by rw[Kd.cells_length];exact YAf _)
     refine Vi (by_:=72) i16'.rw rfl (by simp only[YAN];omega) fun sN' h19 k19 r19 o19 =>?_;have q4:=k19.get i16'.e4 (YD i16'.rw i16'.e4 (by decide));refine JL q4 fun h20 k20 e20 hs20 =>?_;have k1620:Jc (b4::own sN) h16 h20:=k19.then k20 (fun q hq _=>by simp[hq]) (fun q hq _=>by simp at hq;simp[hq]);have n4ls:b4∉Qb b2 s' m':=i16.off a4 (by decide) (by decide);have nrls:∀q∈own sN,q∉Qb b2 s' m':=i16.offRow ar (by decide) (by decide)
     have x3':b3∉b4::own sN:=fun hq=>by
      rcases List.mem_cons.1 hq with h | h
      ·subst h;exact CA a3 a4 (by decide)
      ·exact YD ar a3 (by decide) h
     have xc':c0∉b4::own sN:=fun hq=>by
      rcases List.mem_cons.1 hq with h | h
      ·subst h;exact CA ac a4 (by decide)
      ·exact YD ar ac (by decide) h
     have xl':l∉b4::own sN:=fun hq=>by
      rcases List.mem_cons.1 hq with h | h
      ·exact c4 h.symm
      ·exact i10.n2 h
     have lo2:∀q∈b4::own sN,h.size≤q:=fun q hq=>by
      rcases List.mem_cons.1 hq with h | h
      ·subst h;exact i.lo _ (by simp)
      ·exact i.lo q (by simp[h])
     have n4':b4∉own sN':=YD r19 q4 (by decide)
     have i20:jE h b2 b3 b4 c0 l sl (o .busy) (Xt L ob) (ns++[x]) s' m' sN' h20:=⟨i16.keep k1620 (fun q hq hm=>by
      rcases List.mem_cons.1 hm with h | h
      ·subst h;exact n4ls hq
      ·exact nrls q h hq),by
       rw[YAQ];exact r19.keep k20 (fun q hq hm=>by simp at hm;subst hm;exact n4' hq),e20,k1620.get a3 x3',k1620.get ac xc',k1620.get al xl',i16'.k.new k1620 lo2,n1',fun hq=>by
      rcases o19 l hq with h | h
      ·exact i10.n2 h
      ·omega,fun q hq=>by
      simp only[YAR,YAS,YAU,or_false]at hq;rcases hq with(hq | hq) | hq
      ·exact i16'.lo q (by simp[hq])
      ·rcases o19 q hq with h | h
       ·exact i.lo q (by simp[h])
       ·omega
      ·exact i.lo q (by simp[hq])⟩
     refine⟨i20.el,?_⟩;rw[Jf rfl]at hK'
     refine hK' _ _ ⟨s',m',sN',i20.turn c3 c4 cc,rfl⟩ ((kA.then k1620 (fun q hq _=>hq) (fun q hq _=>by
      rcases List.mem_cons.1 hq with h | h
      ·subst h;simp[MN]
      ·simp[MN,h])).then Jo (fun q hq _=>hq) (fun q hq _=>by simp at hq;subst hq;simp[MN])) fun q hq =>?_
     have hq2:q∈MN b2 b4 l s' m' sN∨q∈own sN':=by
      simp only[MN,YAR,YAS,YAU,or_false]at hq ⊢;rcases hq with(hq | hq) | hq
      ·exact .inl (.inl (.inl hq))
      ·exact .inr hq
      ·exact .inl (.inr hq)
     rcases hq2 with h | h
     ·exact wA q h
     ·rcases o19 q h with h | h
      ·left;simp[MN,h]
      ·right;omega
  ·rintro h9 W' ⟨s9,m9,sN,i9,rfl⟩ k9 f9;refine .inl ⟨i9.el,?_⟩;have i11:=i9.turn (ob':=o (.over false)) c3 c4 cc;have k11:Jc [l] h9 (h9.setIfInBounds l (o (.over false))):=Jo;have z11:(h9.setIfInBounds l (o (.over false))).size=h9.size:=by simp
   generalize h9.setIfInBounds l (o (.over false))=h11 at i11 k11 z11 ⊢;have lH:=iH.lt
   have nH:∀q,q<h6.size→q∉Qb b2 s m→q∉MN b2 b4 l s m ⟨none,0,0⟩:=fun q hq hn hm=>by
    simp only[MN,own,YAC,YAR,YAS,YAU,or_false]at hm;rcases hm with h | h | h
    ·exact hn h
    ·omega
    ·omega
   have kH11:Jc (MN b2 b4 l s m ⟨none,0,0⟩) H8 h11:=k9.then k11 (fun q hq _=>hq) (fun q hq _=>by simp at hq;subst hq;simp[MN]);have stay:∀(q:Nat) (ob:Obj),h6[q]? = some ob→q∉Qb b2 s m→h11[q]? = some ob:=fun q ob e hn=>kH11.get (k6H.g e) (nH q (Jl e) hn);have r11:JR h11 Jh HK hs H:=(r6.keep k6H (by simp)).keep kH11 (fun q hq=>nH q (r6.lt q hq) (i6.offRow r6 (by decide) (by decide) q hq))
   have dOff:∀d,h6[d]? = some (.deferred (some []))→d∉Qb b2 s m:=fun d e hq=>by
    simp only[Qb,YAS,YAR]at hq;rcases hq with rfl | hq | hq
    ·rw[i6.o]at e;simp[Jg]at e
    ·rcases i6.r with⟨e',_⟩ | ⟨b,zs,e',_,_,e4⟩
     ·rw[e']at hq;simp[own]at hq
     ·have:d=b:=by unfold own at hq;rw[e']at hq;simpa using hq
      subst this;rw[e4]at e;simp[QW]at e
    ·cases hmm:m with
     | none=>rw[hmm]at hq;simp at hq
     | some r =>
       have:=i6.m;rw[hmm]at this hq;obtain⟨es,c,e1,_⟩:=this;simp at hq;subst hq;unfold PR S2 at e1;rw[e]at e1;simp at e1
   have eN11:h11[h8.size]? = some (.deferred (some [])):=kH11.get eN (fun hm=>by
    simp only[MN,own,YAC,YAR,YAS,YAU,or_false]at hm;rcases hm with h | h | h
    ·have:=lt2 _ h;omega
    ·omega
    ·omega)
   refine Jb (Je i11.e4) ?_;have gN:=i11.rw.seg
   have hmv:(t.map QX).map (Qv∘Z1)=t.map QX:=by
    rw[show(Qv∘Z1)=id from funext fun x=>rfl,List.map_id]
   refine ZD8.s gN (by simp;omega) fun h21 k21 =>?_;rw[List.map_map,hmv,TO htm];simp only[if_true];have hts:=UF tm3;show ZAQ.C (JY t) h21 _;refine ZAQ.s (by omega) fun h22 k22 =>?_;refine Jq fun b6 h24 hb6 k24 e24 hs24 =>?_;have e24:h24[b6]? = some (Jg Jh HK (Jy (JY t))):=e24;have kk:Jc [] h11 h24:=(k21.n k22).n k24;have i24:=i11.keep0 kk;have hO:=QE (L:=L) (xs:=t.flatMap Qe);have hO2:=Yp tm2;refine Jb (Je i24.e3) ?_;show ZAF.C (some ⟨b2,0⟩) (JY t) h24 _;refine ZAF.s i24.ls (by omega) fun h25 s25 m25 i25 k25 f25 =>?_;have e25:=k25.get e24 (i24.ls.off e24 (by decide) (by decide));refine Jb (Je e25) ?_;have r24:=r11.keep kk (by simp);have r25:=r24.keep k25 (i24.ls.offRow r24 (by decide) (by decide));refine Vi (by_:=32) r25 rfl (by omega) fun s27 h27 k27 r27 o27 =>?_;have z21:=kk.1;have z25:=k25.1;have zH:=kH11.1;have z6:=k6H.1;have lo11:∀q∈Qb b2 s9 m9,h.size≤q:=fun q hq=>i11.lo q (by simp[hq])
   have stay2:∀(q:Nat),h11[q]? = some (.deferred (some []))→h27[q]? = some (.deferred (some [])):=fun q e=>by
    have e24':=kk.g e
    have e25':=k25.get e24' (fun hq=>by
     simp only[Qb,YAS,YAR]at hq;rcases hq with rfl | hq | hq
     ·rw[i24.ls.o]at e24';simp[Jg]at e24'
     ·rcases i24.ls.r with⟨e',_⟩ | ⟨b,zs,e',_,_,e4⟩
      ·rw[e']at hq;simp[own]at hq
      ·have:q=b:=by unfold own at hq;rw[e']at hq;simpa using hq
       subst this;rw[e4]at e24';simp[QW]at e24'
     ·cases hmm:m9 with
      | none=>rw[hmm]at hq;simp at hq
      | some r =>
        have:=i24.ls.m;rw[hmm]at this hq;obtain⟨es,c,e1,_⟩:=this;simp at hq;subst hq;unfold PR S2 at e1;rw[e24']at e1;simp at e1)
    exact k27.get e25' (fun hq=>by
     rcases r25 with⟨e',_⟩ | ⟨b,zs,e',_,_,e4⟩
     ·rw[e']at hq;simp[own]at hq
     ·have:q=b:=by unfold own at hq;rw[e']at hq;simpa using hq
      subst this;rw[e4]at e25';simp[QW]at e25')
   have e325:=k25.get i24.e3 (i24.ls.off i24.e3 (by decide) (by decide));refine⟨⟨n+1,s25,m25,rfl,by omega,?_,?_,?_,?_,?_,?_,?_,?_⟩,by simp;omega⟩
   ·exact((i11.k.n kk).new k25 lo11).new k27 o6
   ·rw[hLn];exact i25.keep k27 (fun q hq hm=>i25.offRow r25 (by decide) (by decide) q hm hq)
   ·intro q hq;rcases f25 q hq with h | h
    ·exact lo11 q h
    ·have:=i11.k.1;omega
   ·exact k27.get e325 (YD r25 e325 (by decide))
   ·rw[hHn];exact r27
   ·intro q hq;rcases o27 q hq with h | h
    ·exact o6 q h
    ·have:=i11.k.1;omega
   ·intro d hd;rcases List.mem_cons.1 hd with rfl | hd
    ·exact⟨stay2 _ eN11,by have:=k08.1;omega⟩
    ·exact⟨stay2 _ (stay d _ (d6 d hd).1 (dOff d (d6 d hd).1)),(d6 d hd).2⟩
   ·refine List.nodup_cons.2 ⟨fun hd =>?_,nd6⟩;have:=Jl (d6 _ hd).1;have:=k68.1;omega
def E6{os:List Ba}{d:Ba}{x:YI} (hd:d.size≤65536):Qw (os++[d]) x=match Qw os x with | some y=>some y | none=>if Jy d=x then some d else none:=by
 unfold Qw;rw[List.find?_append]
 cases List.find? (fun d=>decide (d.size≤65536)&&decide (Jy d=x)) os with
 | some y=>rfl
 | none =>
   simp only[Option.none_or,List.find?_cons,List.find?_nil];by_cases h:Jy d=x
   ·rw[Jf h,dT hd,dT h];rfl
   ·rw[Jd h,dF h,Bool.and_false]
def MX{l:List UInt8} (h:l.length=32):(hv l).toList=l:=by
 unfold hv;rw[dif_pos h];simp[Vector.toList]
def RL{z:YI}:hv z.toList=z:=by
 apply Vector.toList_inj.1;rw[MX (by simp)]
def wJ{a b:List UInt8}:bx a=bx b↔a=b:=by
 constructor
 ·intro h;have:=congrArg (fun x:Ba=>x.data.toList) h;simpa[bx] using this
 ·rintro rfl;rfl
def zC{T:Nat}{s:Jn}{l:List UInt8}{h:Ja}{K:Pl→Prop} (g:Q5 .u8 s l h) (hl:l.length=32) (hK:∀p,sm HK p (hv l) h→K p):32≤s.len∧Qa s.a K:=by
 refine⟨by rw[g.len];omega,?_⟩;obtain⟨p,hp,e⟩:=g.el 0 (l[0]'(by omega)) (by simp);refine⟨p,hp,hK p ?_⟩;have:=P6 (s:=s) (g.blk p hp) (fun i x hi=>by obtain⟨l',hl',e⟩:=g.el i x hi;rw[hp]at hl';cases hl';exact e);rw[hl]at this;show Qz h p 32=some ((hv l).toList.flatMap Kd.u8.cells);rw[MX hl];simpa[Kd.size] using this
def TF{K:Kn}{n:Nat}{L:Vg}{i:Nat}{x:YI}{r:List YI}:Vr K n L i (x::r)=((Uq K 73 L x (min 8 (n-i*8))).1++(Vr K n (Uq K 73 L x (min 8 (n-i*8))).2 (i+1) r).1,(Vr K n (Uq K 73 L x (min 8 (n-i*8))).2 (i+1) r).2):=rfl
def TK{K:Kn}{n:Nat}{L:Vg}{i:Nat}{x:YI}{r:List YI}:Zk K n L i (x::r)=match K x with
 | none=>Zk K n ⟨Xt L.want x,L.bad⟩ (i+1) r
 | some s=>if TH (min 64 (n-i*64)) s=true then(s.data.toList.drop 1++(Zk K n L (i+1) r).1,(Zk K n L (i+1) r).2) else Zk K n ⟨L.want,true⟩ (i+1) r:=rfl
def vQ(l:List UInt8):Int×Int×List UInt8:=if l.length<2 then(0,300,l) else((JU (l.take 2):Int),0,l.drop 2)
def jH(l:List UInt8):YI×Int×List UInt8:=if l.length<32 then(Vector.replicate 32 0,300,l) else(hv (l.take 32),0,l.drop 32)
def xC(l:List UInt8):List UInt8:=(MB (MB (MB (MB l).2.2).2.2).2.2).2.2
def vP(l:List UInt8):WN.Ty×Int×List UInt8:=
 (((MB l).1,((MB (MB l).2.2).1,((MB (MB (MB l).2.2).2.2).1,((MB (MB (MB (MB l).2.2).2.2).2.2).1,((vQ (xC l)).1,((jH (vQ (xC l)).2.2).1,())))))),(jH (vQ (xC l)).2.2).2.1,(jH (vQ (xC l)).2.2).2.2)
def ZAV.s{r:Nat}{l:List UInt8}{h:Ja}{K:Kd.Ty (.ar 32 .u8)→Int→Hp} (i:XR h r l) (hK:∀h',Jc [r] h h'→XR h' r (jH l).2.2→K (jH l).1 (jH l).2.1 h'):ZAV.C (some ⟨r,0⟩) h K:=by
 apply ZAV.c;unfold ZAV.m;refine Ji fun b1 h1 hb1 k1 e1 hs1 =>?_;have lr:=Jl i.o;have nb:b1≠r:=by omega
 rw[Jd (by simp)];unfold jH at hK;refine ZAt.s (n:=32) (i.keep k1 (by simp)) (fun hl =>?_) (fun hl h3 k3 i3 =>?_)
 ·rw[Jf hl]at hK;rw[Jf (by rfl)];refine JL e1 fun h4 k4 e4 hs4=>Jb (Je e4) ?_;have i4:=(i.keep k1 (by simp)).keep k4 (by simpa using nb.symm);exact hK h4 ((k1.then k4 (by simp) (fun q hq hl=>by simp at hq;omega))) i4
 ·rw[Jd (by omega)]at hK;rw[Jd (by simp)];refine Cr fun s5 h5 k5 g5 w5 c5 hs5 _ =>?_;rw[WV]at g5;refine zC (T:=0) g5 (by rw[YAP];omega) fun p hp=>Jb hp ?_;refine JL (k5.g (k3.get e1 (by simpa using nb))) fun h6 k6 e6 hs6=>Jb (Je e6) ?_;have i6:=(i3.keep k5 (by simp)).keep k6 (by simpa using nb.symm);refine hK h6 (((k1.then (U:=[r]) k3 (by simp) (fun x hx _=>hx)).then k5 (fun x hx _=>hx) (by simp)).then k6 (fun x hx _=>hx) (fun q hq hl=>by simp at hq;omega)) i6
def rdJ:Nat→List UInt8→List WN.Ty→List WN.Ty×Int
 | 0,_,acc=>(acc,0)
 | n+1,l,acc=>if (vP l).2.1≠0 then([],(vP l).2.1) else rdJ n (vP l).2.2 (acc++[(vP l).1])
def MR{x:Nat} (h:x<65536):JU (be x 2)=x:=by
 have:be x 2=[UInt8.ofNat (x/256),UInt8.ofNat x]:=by simp[be,YAV]
 rw[this];simp only[JU,List.foldl_cons,List.foldl_nil,UInt8.toNat_ofNat'];omega
def vp{x:Nat}{r:List UInt8} (h:x<65536):vQ (be x 2++r)=((x:Int),0,r):=by
 unfold vQ;rw[Jd (by rw[YAK,Jj];omega),YAZ Jj,YAD Jj,MR h]
def xB{z:YI}{r:List UInt8}:jH (z.toList++r)=(z,0,r):=by
 unfold jH;have hl:z.toList.length=32:=by simp
 rw[Jd (by rw[YAK,hl];omega),YAZ hl,YAD hl,RL]
def zt{x:Gq}{r:List UInt8} (h:Yr x=true):vP (Xn x++r)=(Z1 x,0,r):=by
 obtain⟨a1,a2,a3,a4,a5,a6,a7,a8⟩:=PH h;obtain⟨n,k,m,l,s,z⟩:=x;dsimp only at *;obtain⟨n,rfl⟩:∃t:Nat,n=t:=⟨n.toNat,by omega⟩;obtain⟨k,rfl⟩:∃t:Nat,k=t:=⟨k.toNat,by omega⟩;obtain⟨m,rfl⟩:∃t:Nat,m=t:=⟨m.toNat,by omega⟩;obtain⟨l,rfl⟩:∃t:Nat,l=t:=⟨l.toNat,by omega⟩;obtain⟨s,rfl⟩:∃t:Nat,s=t:=⟨s.toNat,by omega⟩
 have e:Xn ⟨n,k,m,l,s,z⟩++r=be n 1++(be k 1++(be m 1++(be l 1++(be s 2++(z.toList++r))))):=by
  unfold Xn;simp only[YAd,YAB]
 have e1:=VG (x:=n) (r:=be k 1++(be m 1++(be l 1++(be s 2++(z.toList++r))))) (by omega);have e2:=VG (x:=k) (r:=be m 1++(be l 1++(be s 2++(z.toList++r)))) (by omega);have e3:=VG (x:=m) (r:=be l 1++(be s 2++(z.toList++r))) (by omega);have e4:=VG (x:=l) (r:=be s 2++(z.toList++r)) (by omega);have e5:=vp (x:=s) (r:=z.toList++r) (by omega);unfold vP xC;rw[e];simp only[e1,e2,e3,e4,e5,xB]
 rfl
def TZ:∀(xs:List Gq) (r:List UInt8) (acc:List WN.Ty),(∀x∈xs,Yr x=true)→rdJ xs.length (xs.flatMap Xn++r) acc=(acc++xs.map Z1,0)
 | [],r,acc,_=>by simp[rdJ]
 | e :: t, r, acc, h => by
   have he:=zt (r:=t.flatMap Xn++r) (h e (by simp));rw[YAF,YAB,YAL];simp only[rdJ];rw[he];simp only[ne_eq,not_true_eq_false,if_false];rw[TZ t r (acc++[Z1 e]) (fun x hx=>h x (by simp[hx]))];simp
def TN{xs:List Gq}:(xs.map Z1).map Qv=xs:=by
 rw[List.map_map,show(Qv∘Z1)=id from funext fun x=>rfl,List.map_id]
structure YV where
 kind:Int
 user:Int
 frm:Int
 ents:List X6
 wants:List Qh
 objs:List By
def Yy(e:X6):By:=be (putE e).length 2++putE e
def XS(s:By):By:=be s.length 2++s
def ZK(m:YV):By:=[77,71]++be m.kind.toNat 1++be m.user.toNat 1++be m.frm.toNat 2
def JQ(m:YV):By:=ZK m++be m.ents.length 1++m.ents.flatMap Yy++be m.wants.length 1++(m.wants.flatMap fun z=>z.toList)++be m.objs.length 1++m.objs.flatMap XS
def YB(m:YV):Bool:=decide (0≤m.kind)&&(decide (m.kind≤6)&&(decide (0≤m.user)&&(decide (m.user≤255)&&(decide (0≤m.frm)&&(decide (m.frm≤65535)&&(decide (m.ents.length≤255)&&(m.ents.all JJ&&(decide (m.wants.length≤255)&&(decide (m.objs.length≤255)&&m.objs.all fun s=>decide (s.length≤65535))))))))))
def Q3(m:YV):Bool:=YB m&&decide ((JQ m).length≤65536)
def QY{α : Type} (f:By→Option α × By):Nat→By→List α → List α × By
 | 0,l,acc=>(acc,l)
 | n + 1, l, acc => match (f l).1 with
   | none=>([],(f l).2)
   | some x=>QY f n (f l).2 (acc++[x])
def Qt(l:By):Int×By:=if l.length<1 then(0,l) else((JU (l.take 1):Int),l.drop 1)
def ZC(l:By):Int×By:=if l.length<2 then(0,l) else((JU (l.take 2):Int),l.drop 2)
def MZ(l:By):Option Int×By:=if l.length<2 then(none,l) else(some (JU (l.take 2):Int),l.drop 2)
def WE(l:By):Option Qh×By:=if l.length<32 then(none,l) else(some (hv (l.take 32)),l.drop 32)
def XP(l:By):Option By×By:=if l.length<2 then(none,l) else if (l.drop 2).length<JU (l.take 2) then(none,l) else(some ((l.drop 2).take (JU (l.take 2))),(l.drop 2).drop (JU (l.take 2)))
def wb(z:Option Qh):Qh:=match z with | some x=>x | none=>Vector.replicate 32 0
def yK(z:Option By):By:=match z with | some x=>x | none=>[]
def GN(s:By):X6:=
 let u:=Qt (s.drop 2)
 let q:=ZC u.2
 let n:=Qt q.2
 let v:=QY MZ n.1.toNat n.2 []
 let r:=WE v.2
 let k:=Qt r.2
 let t:=QY WE k.1.toNat k.2 []
 ⟨u.1,q.1,v.1,wb r.1,t.1,yK (XP t.2).1⟩
def UP(s:By):Option X6:=if 2≤s.length∧JJ (GN s)=true∧putE (GN s)=s then some (GN s) else none
def IT(l:By):Option X6×By:=match(XP l).1 with | none=>(none,(XP l).2) | some s=>(UP s,(XP l).2)
def US(s:By):YV:=
 let k:=Qt (s.drop 2)
 let u:=Qt k.2
 let f:=ZC u.2
 let a:=Qt f.2
 let es:=QY IT a.1.toNat a.2 []
 let b:=Qt es.2
 let ws:=QY WE b.1.toNat b.2 []
 let c:=Qt ws.2
 ⟨k.1,u.1,f.1,es.1,ws.1,(QY XP c.1.toNat c.2 []).1⟩
def W3(s:By):Option YV:=if 2≤s.length∧s.length≤65536∧Q3 (US s)=true∧JQ (US s)=s then some (US s) else none
def yG{x:Nat} (h:x<256):JU (be x 1)=x:=by
 simp[be,JU];omega
def Y8{x:Nat}{r:By} (h:x<256):Qt (be x 1++r)=((x:Int),r):=by
 have hl:(be x 1).length=1:=Jj;unfold Qt;rw[Jd (by simp[Jj]),YAZ hl,YAD hl,yG h]
def TX{x:Nat}{r:By} (h:x<65536):ZC (be x 2++r)=((x:Int),r):=by
 have hl:(be x 2).length=2:=Jj;unfold ZC;rw[Jd (by simp[Jj]),YAZ hl,YAD hl,MR h]
def xA{x:Nat}{r:By} (h:x<65536):MZ (be x 2++r)=(some (x:Int),r):=by
 have hl:(be x 2).length=2:=Jj;unfold MZ;rw[Jd (by simp[Jj]),YAZ hl,YAD hl,MR h]
def Mn{z:Qh}{r:By}:WE (z.toList++r)=(some z,r):=by
 have h:=xB (z:=z) (r:=r);unfold jH at h;unfold WE;have hl:¬(z.toList++r).length<32:=by simp
 rw[Jd hl]at h ⊢;simp only[Prod.mk.injEq]at h;rw[h.1,h.2.2]
def Ge{s r:By} (h:s.length<65536):XP (XS s++r)=(some s,r):=by
 have hl:(be s.length 2).length=2:=Jj;unfold XP XS;rw[YAB,Jd (by simp[Jj]),YAZ hl,YAD hl,MR h,Jd (by simp),YAZ rfl,YAD rfl]
def WR{α : Type}{f:By→Option α × By}{g : α → By}{p : α → Prop} (hf:∀x r,p x→f (g x++r)=(some x,r)):∀(xs:List α) (r:By) (acc:List α),(∀x∈xs,p x)→QY f xs.length (xs.flatMap g++r) acc=(acc++xs,r)
 | [],r,acc,_=>by simp[QY]
 | x :: t, r, acc, h => by
   rw[YAL,YAF,YAB];unfold QY;rw[hf x _ (h x List.mem_cons_self)];dsimp only;rw[WR hf t r _ fun y hy=>h y (List.mem_cons_of_mem _ hy)];simp
def PZ{e:X6} (h:JJ e=true):(putE e).length<65536:=by
 unfold JJ at h;simp only[YAm,Qg]at h;have:=VR h.1;unfold putE;simp only[YAK,Jj];omega
def xp{e:X6} (h:JJ e=true):GN (putE e)=e:=by
 have h':=h;unfold JJ QG XW at h';simp only[YAm,Qg]at h';obtain⟨⟨c1,c2,c3,c4,⟨c5,c6,c7⟩,c8,c9⟩,c10⟩:=h'
 have hd:(putE e).drop 2=be e.user.toNat 1++(be e.seq.toNat 2++(be e.vec.length 1++((e.vec.flatMap fun x=>be x.toNat 2)++(e.root.toList++(be e.tables.length 1++((e.tables.flatMap fun z=>z.toList)++(XS e.sign++[]))))))):=by
  unfold putE YZ XS;simp only[YAB,YAC]
  rfl
 have hv:∀x r,XT x=true→MZ (be x.toNat 2++r)=(some x,r):=fun x r hx=>by
  unfold XT at hx;simp only[YAm,Qg]at hx;rw[xA (by omega),YAe hx.1]
 have e1:∀r,QY MZ e.vec.length ((e.vec.flatMap fun x=>be x.toNat 2)++r) []=(e.vec,r):=fun r=>by
  rw[WR hv _ _ _ (List.all_eq_true.1 c5)];rfl
 have e2:∀r,QY WE e.tables.length ((e.tables.flatMap fun z=>z.toList)++r) []=(e.tables,r):=fun r=>by
  rw[WR (p:=fun _=>True) (fun x r _=>Mn) _ _ _ (fun _ _=>trivial)];rfl
 unfold GN;rw[hd];dsimp only;rw[Y8 (by omega)];dsimp only;rw[TX (by omega)];dsimp only;rw[Y8 (by omega)];dsimp only;rw[YAd,e1];dsimp only;rw[Mn];dsimp only;rw[Y8 (by omega)];dsimp only;rw[YAd,e2];dsimp only;rw[Ge (by omega)];have u1:((e.user.toNat:Nat):Int)=e.user:=YAe c1;have u2:((e.seq.toNat:Nat):Int)=e.seq:=YAe (by omega);rw[u1,u2]
 rfl
def SR{e:X6} (h:JJ e=true):UP (putE e)=some e:=by
 unfold UP;rw[xp h,Jf ⟨by unfold putE YZ;simp,h,rfl⟩]
def RJ{s:By}{e:X6} (h:UP s=some e):JJ e=true∧putE e=s:=by
 unfold UP at h;split at h
 ·rename_i hc
  cases h
  exact⟨hc.2.1,hc.2.2⟩
 ·cases h
def Ck{e:X6}{r:By} (h:JJ e=true):IT (Yy e++r)=(some e,r):=by
 have:=Ge (s:=putE e) (r:=r) (PZ h);unfold IT;unfold XS at this;unfold Yy;rw[this];dsimp only;rw[SR h]
def xq{m:YV} (h:YB m=true):US (JQ m)=m:=by
 have h':=h;unfold YB at h';simp only[YAm,Qg]at h';obtain⟨c1,c2,c3,c4,c5,c6,c7,c8,c9,c10,c11⟩:=h'
 have hd:(JQ m).drop 2=be m.kind.toNat 1++(be m.user.toNat 1++(be m.frm.toNat 2++(be m.ents.length 1++(m.ents.flatMap Yy++(be m.wants.length 1++((m.wants.flatMap fun z=>z.toList)++(be m.objs.length 1++(m.objs.flatMap XS++[])))))))):=by
  unfold JQ ZK;simp only[YAB,YAC]
  rfl
 have e1:∀r,QY IT m.ents.length (m.ents.flatMap Yy++r) []=(m.ents,r):=fun r=>by
  rw[WR (p:=fun e=>JJ e=true) (fun x r hx=>Ck hx) _ _ _ (List.all_eq_true.1 c8)];rfl
 have e2:∀r,QY WE m.wants.length ((m.wants.flatMap fun z=>z.toList)++r) []=(m.wants,r):=fun r=>by
  rw[WR (p:=fun _=>True) (fun x r _=>Mn) _ _ _ (fun _ _=>trivial)];rfl
 have e3:∀r,QY XP m.objs.length (m.objs.flatMap XS++r) []=(m.objs,r):=fun r=>by
  rw[WR (p:=fun s=>s.length<65536) (fun x r hx=>Ge hx) _ _ _ (fun s hs=>by have:=List.all_eq_true.1 c11 s hs;simp at this;omega)];rfl
 unfold US;rw[hd];dsimp only;rw[Y8 (by omega)];dsimp only;rw[Y8 (by omega)];dsimp only;rw[TX (by omega)];dsimp only;rw[Y8 (by omega)];dsimp only;rw[YAd,e1];dsimp only;rw[Y8 (by omega)];dsimp only;rw[YAd,e2];dsimp only;rw[Y8 (by omega)];dsimp only;rw[YAd,e3];have u1:((m.kind.toNat:Nat):Int)=m.kind:=YAe (by omega);have u2:((m.user.toNat:Nat):Int)=m.user:=YAe (by omega);have u3:((m.frm.toNat:Nat):Int)=m.frm:=YAe (by omega);rw[u1,u2,u3]
def W4{m:YV} (h:Q3 m=true):W3 (JQ m)=some m:=by
 have h':=h;unfold Q3 at h';simp only[YAm,Qg]at h';unfold W3;rw[xq h'.1,Jf ⟨by unfold JQ ZK;simp,h'.2,h,rfl⟩]
def Gx{s:By}{m:YV} (h:W3 s=some m):Q3 m=true∧JQ m=s:=by
 unfold W3 at h;split at h
 ·rename_i hc
  cases h
  exact⟨hc.2.2.1,hc.2.2.2⟩
 ·cases h
def Ym{α : Type} (f:By→Option α × By):Nat→By→List α → Option (List α × By)
 | 0,l,acc=>some (acc,l)
 | n + 1, l, acc => match (f l).1 with
   | none=>none
   | some x=>Ym f n (f l).2 (acc++[x])
def yP(u q:Int) (v:List Int) (z:Qh) (t:List Qh) (l:By):Option X6:=match(XP l).1 with
 | none=>none
 | some s=>if JJ ⟨u,q,v,z,t,s⟩=true∧(XP l).2=[] then some ⟨u,q,v,z,t,s⟩ else none
def qe(u q:Int) (v:List Int) (l:By):Option X6:=match(WE l).1 with
 | none=>none
 | some z => if (WE l).2.length < 1 then none else match Ym WE (Qt (WE l).2).1.toNat (Qt (WE l).2).2 [] with
   | none=>none
   | some (t,r)=>yP u q v z t r
def yn(s:By):Option X6:=
 if s.length<6∨s.take 2≠[65,69] then none else
 match Ym MZ (Qt (ZC (Qt (s.drop 2)).2).2).1.toNat (Qt (ZC (Qt (s.drop 2)).2).2).2 [] with
 | none=>none
 | some (v,l)=>qe (Qt (s.drop 2)).1 (ZC (Qt (s.drop 2)).2).1 v l
def yH{l:By} (h:l.length=1):be (JU l) 1=l:=by
 obtain⟨a,rfl⟩:∃a,l=[a]:=by
  match l,h with
  | [a],_=>exact⟨a,rfl⟩
 simp[be,JU]
def To{l:By} (h:l.length=2):be (JU l) 2=l:=by
 obtain⟨a,b,rfl⟩:∃a b,l=[a,b]:=by
  match l,h with
  | [a,b],_=>exact⟨a,b,rfl⟩
 have hb:=b.toNat_lt;have h2:be (JU [a,b]) 2=[UInt8.ofNat (JU [a,b]/256^1),UInt8.ofNat (JU [a,b]/256^0)]:=by simp[be,YAV]
 have hv:JU [a,b]=a.toNat*256+b.toNat:=by simp[JU]
 rw[h2,hv];have e1:(a.toNat*256+b.toNat)/256^1=a.toNat:=by omega
 rw[e1,Nat.pow_zero,Nat.div_one]
 have e2:UInt8.ofNat (a.toNat*256+b.toNat)=b:=by
  apply UInt8.toNat_inj.1;rw[UInt8.toNat_ofNat'];omega
 rw[e2,UInt8.ofNat_toNat]
def WM{l:By} (h:1≤l.length):0≤(Qt l).1∧(Qt l).1<256∧l=be (Qt l).1.toNat 1++(Qt l).2:=by
 have hl:(l.take 1).length=1:=by simp;omega
 have hv:=VP (l.take 1);rw[hl]at hv;unfold Qt;rw[Jd (by omega)];dsimp only;refine⟨by omega,by omega,?_⟩;rw[YAd,yH hl,YAY]
def TY{l:By} (h:2≤l.length):0≤(ZC l).1∧(ZC l).1<65536∧l=be (ZC l).1.toNat 2++(ZC l).2:=by
 have hl:(l.take 2).length=2:=by simp;omega
 have hv:=VP (l.take 2);rw[hl]at hv;unfold ZC;rw[Jd (by omega)];dsimp only;refine⟨by omega,by omega,?_⟩;rw[YAd,To hl,YAY]
def zn{l:By}{x:Int} (h:(MZ l).1=some x):0≤x∧l=be x.toNat 2++(MZ l).2:=by
 unfold MZ at h ⊢;by_cases hc:l.length<2
 ·rw[Jf hc]at h;cases h
 ·rw[Jd hc]at h ⊢;have hl:(l.take 2).length=2:=by simp;omega
  dsimp only at h ⊢
  cases h
  refine⟨by omega,?_⟩;rw[YAd,To hl,YAY]
def TV{l:By}{x:Qh} (h:(WE l).1=some x):True∧l=x.toList++(WE l).2:=by
 unfold WE at h ⊢;by_cases hc:l.length<32
 ·rw[Jf hc]at h;cases h
 ·rw[Jd hc]at h ⊢;have hl:(l.take 32).length=32:=by simp;omega
  dsimp only at h ⊢
  cases h
  refine⟨trivial,?_⟩;rw[MX hl,YAY]
def Gd{l s:By} (h:(XP l).1=some s):s.length≤65535∧l=XS s++(XP l).2:=by
 unfold XP at h ⊢;by_cases hc:l.length<2
 ·rw[Jf hc]at h;cases h
 ·rw[Jd hc]at h ⊢;have hl:(l.take 2).length=2:=by simp;omega
  have hv:=VP (l.take 2);rw[hl]at hv;by_cases hd:(l.drop 2).length<JU (l.take 2)
  ·rw[Jf hd]at h;cases h
  ·rw[Jd hd]at h ⊢;dsimp only at h ⊢
   cases h
   have hsl:((l.drop 2).take (JU (l.take 2))).length=JU (l.take 2):=by rw[YAP];omega
   refine⟨by omega,?_⟩;unfold XS;rw[hsl,To hl,YAB,YAY,YAY]
def Cm{l:By}{e:X6} (h:(IT l).1=some e):JJ e=true∧l=Yy e++(IT l).2:=by
 unfold IT at h ⊢
 cases ht:(XP l).1 with
 | none=>rw[ht]at h;cases h
 | some s =>
   rw[ht]at h;dsimp only at h ⊢;obtain⟨a,b⟩:=RJ h;obtain⟨c,d⟩:=Gd ht;refine⟨a,?_⟩;unfold Yy;rw[b];exact d
def V7{α : Type}{f:By→Option α × By}{g : α → By}{p : α → Prop} (hf:∀x r,p x→f (g x++r)=(some x,r)):∀(xs:List α) (r:By) (acc:List α),(∀x∈xs,p x)→Ym f xs.length (xs.flatMap g++r) acc=some (acc++xs,r)
 | [],r,acc,_=>by simp[Ym]
 | x :: t, r, acc, h => by
   rw[YAL,YAF,YAB];unfold Ym;rw[hf x _ (h x List.mem_cons_self)];dsimp only;rw[V7 hf t r _ fun y hy=>h y (List.mem_cons_of_mem _ hy)];simp
def V8{α : Type}{f:By→Option α × By}{g : α → By}{p : α → Prop} (hf:∀l x,(f l).1=some x→p x∧l=g x++(f l).2):∀(n:Nat) (l:By) (acc ys:List α) (r:By),Ym f n l acc=some (ys,r)→∃xs,ys=acc++xs∧xs.length=n∧(∀x∈xs,p x)∧l=xs.flatMap g++r
 | 0, l, acc, ys, r, h => by
   simp only[Ym,Option.some.injEq,Prod.mk.injEq]at h;exact⟨[],by simp[h.1],rfl,by simp,by simp[h.2]⟩
 | n + 1, l, acc, ys, r, h => by
   unfold Ym at h
   cases hx:(f l).1 with
   | none=>rw[hx]at h;cases h
   | some x =>
     rw[hx]at h;obtain⟨xs,e1,e2,e3,e4⟩:=V8 hf n _ _ _ _ h;obtain⟨px,el⟩:=hf l x hx;refine⟨x::xs,by rw[e1];simp,by simp[e2],fun y hy =>?_,?_⟩
     ·rcases List.mem_cons.1 hy with rfl | hy
      ·exact px
      ·exact e3 y hy
     ·rw[YAF,YAB,←e4];exact el
def yQ{e:X6} (h:JJ e=true):yn (putE e)=some e:=by
 have h':=h;unfold JJ QG XW at h';simp only[YAm,Qg]at h';obtain⟨⟨c1,c2,c3,c4,⟨c5,c6,c7⟩,c8,c9⟩,c10⟩:=h'
 have hd:(putE e).drop 2=be e.user.toNat 1++(be e.seq.toNat 2++(be e.vec.length 1++((e.vec.flatMap fun x=>be x.toNat 2)++(e.root.toList++(be e.tables.length 1++((e.tables.flatMap fun z=>z.toList)++(XS e.sign++[]))))))):=by
  unfold putE YZ XS;simp only[YAB,YAC]
  rfl
 have hv:∀x r,XT x=true→MZ (be x.toNat 2++r)=(some x,r):=fun x r hx=>by
  unfold XT at hx;simp only[YAm,Qg]at hx;rw[xA (by omega),YAe hx.1]
 have e1:∀r,Ym MZ e.vec.length ((e.vec.flatMap fun x=>be x.toNat 2)++r) []=some (e.vec,r):=fun r=>by
  rw[V7 hv _ _ _ (List.all_eq_true.1 c5)];rfl
 have e2:∀r,Ym WE e.tables.length ((e.tables.flatMap fun z=>z.toList)++r) []=some (e.tables,r):=fun r=>by
  rw[V7 (p:=fun _=>True) (fun x r _=>Mn) _ _ _ (fun _ _=>trivial)];rfl
 have u1:((e.user.toNat:Nat):Int)=e.user:=YAe c1;have u2:((e.seq.toNat:Nat):Int)=e.seq:=YAe (by omega)
 have ht:(putE e).take 2=[65,69]:=by
  unfold putE YZ;simp only[YAB]
  rfl
 have hl:6≤(putE e).length:=by
  unfold putE YZ;simp only[YAK,Jj,YAL,YAO];omega
 unfold yn;rw[Jd (by rw[ht];simp;omega),hd,Y8 (by omega)];dsimp only;rw[TX (by omega)];dsimp only;rw[Y8 (by omega)];dsimp only;rw[YAd,e1];dsimp only;unfold qe;rw[Mn];dsimp only;rw[Jd (by simp[Jj]),Y8 (by omega)];dsimp only;rw[YAd,e2];dsimp only;unfold yP;rw[Ge (by omega)];dsimp only;rw[u1,u2,Jf ⟨h,rfl⟩]
def wM(s:By):yn s=UP s:=by
 cases hg:UP s with
 | some e =>
   obtain⟨a,b⟩:=RJ hg;rw[←b,yQ a]
 | none =>
   cases hd:yn s with
   | none=>rfl
   | some e =>
     exfalso
     suffices h:JJ e=true∧putE e=s by
      rw[←h.2,SR h.1]at hg;cases hg
     unfold yn at hd;split at hd
     ·cases hd
     rename_i hc
     have hl:6≤s.length:=Nat.le_of_not_lt fun hh=>hc (.inl hh);have ht:s.take 2=[65,69]:=Decidable.not_not.1 fun hh=>hc (.inr hh);obtain⟨u0,u1,eu⟩:=WM (l:=s.drop 2) (by simp;omega)
     have lu:(Qt (s.drop 2)).2.length=s.length-3:=by
      have:=congrArg List.length eu;simp only[YAK,Jj,YAM]at this;omega
     obtain⟨q0,q1,eq⟩:=TY (l:=(Qt (s.drop 2)).2) (by omega)
     have lq:(ZC (Qt (s.drop 2)).2).2.length=s.length-5:=by
      have:=congrArg List.length eq;simp only[YAK,Jj]at this;omega
     obtain⟨n0,n1,en⟩:=WM (l:=(ZC (Qt (s.drop 2)).2).2) (by omega);generalize (Qt (s.drop 2))=U at *;generalize (ZC U.2)=Q at *;generalize (Qt Q.2)=N at *;split at hd
     ·cases hd
     rename_i v l hv
     obtain⟨xs,e1,e2,e3,e4⟩:=V8 (g:=fun x=>be x.toNat 2) (p:=fun x=>0≤x) (fun l x h=>zn h) _ _ _ _ _ hv;rw[YAT]at e1;subst e1;unfold qe at hd;split at hd
     ·cases hd
     rename_i z hz
     obtain⟨_,ez⟩:=TV hz;split at hd
     ·cases hd
     rename_i hk
     obtain⟨k0,k1,ek⟩:=WM (l:=(WE l).2) (by omega);split at hd
     ·cases hd
     rename_i t r hr
     obtain⟨ts,f1,f2,f3,f4⟩:=V8 (g:=fun x:Qh=>x.toList) (p:=fun x=>True) (fun l x h=>TV h) _ _ _ _ _ hr;rw[YAT]at f1;subst f1;unfold yP at hd;split at hd
     ·cases hd
     rename_i sg hsg
     obtain⟨g1,g2⟩:=Gd hsg;split at hd
     ·rename_i hm
      cases hd
      refine⟨hm.1,?_⟩;have hs:s=[65,69]++s.drop 2:=by rw[←ht,YAY]
      rw[hs,eu,eq,en,e4,ez,ek,f4,g2,hm.2];unfold putE YZ XS;dsimp only;rw[e2,f2];simp only[YAB,YAC]
     ·cases hd
def CX(k u f:Int) (es:List X6) (ws:List Qh) (l:By):Option YV:=if l.length<1 then none else match Ym XP (Qt l).1.toNat (Qt l).2 [] with
 | none=>none
 | some (os,r)=>if r=[]∧0≤k∧k≤6 then some ⟨k,u,f,es,ws,os⟩ else none
def EQ(k u f:Int) (es:List X6) (l:By):Option YV:=if l.length<1 then none else match Ym WE (Qt l).1.toNat (Qt l).2 [] with
 | none=>none
 | some (ws,r)=>CX k u f es ws r
def CW(k u f:Int) (l:By):Option YV:=if l.length<1 then none else match Ym IT (Qt l).1.toNat (Qt l).2 [] with
 | none=>none
 | some (es,r)=>EQ k u f es r
def Se(s:By):Option YV:=
 if 65536<s.length∨s.length<6∨s.take 2≠[77,71] then none else
 CW (Qt (s.drop 2)).1 (Qt (Qt (s.drop 2)).2).1 (ZC (Qt (Qt (s.drop 2)).2).2).1 (ZC (Qt (Qt (s.drop 2)).2).2).2
def Sy{m:YV}:(JQ m).drop 2=be m.kind.toNat 1++(be m.user.toNat 1++(be m.frm.toNat 2++(be m.ents.length 1++(m.ents.flatMap Yy++(be m.wants.length 1++((m.wants.flatMap fun z=>z.toList)++(be m.objs.length 1++(m.objs.flatMap XS++[])))))))):=by
 unfold JQ ZK;simp only[YAB,YAC]
 rfl
def yR{m:YV} (h:Q3 m=true):Se (JQ m)=some m:=by
 have h0:=h;unfold Q3 at h0;simp only[YAm,Qg]at h0;obtain⟨h0,hsz⟩:=h0;have h':=h0;unfold YB at h';simp only[YAm,Qg]at h';obtain⟨c1,c2,c3,c4,c5,c6,c7,c8,c9,c10,c11⟩:=h'
 have e1:∀r,Ym IT m.ents.length (m.ents.flatMap Yy++r) []=some (m.ents,r):=fun r=>by
  rw[V7 (p:=fun e=>JJ e=true) (fun x r hx=>Ck hx) _ _ _ (List.all_eq_true.1 c8)];rfl
 have e2:∀r,Ym WE m.wants.length ((m.wants.flatMap fun z=>z.toList)++r) []=some (m.wants,r):=fun r=>by
  rw[V7 (p:=fun _=>True) (fun x r _=>Mn) _ _ _ (fun _ _=>trivial)];rfl
 have e3:∀r,Ym XP m.objs.length (m.objs.flatMap XS++r) []=some (m.objs,r):=fun r=>by
  rw[V7 (p:=fun s=>s.length<65536) (fun x r hx=>Ge hx) _ _ _ (fun s hs=>by have:=List.all_eq_true.1 c11 s hs;simp at this;omega)];rfl
 have u1:((m.kind.toNat:Nat):Int)=m.kind:=YAe (by omega);have u2:((m.user.toNat:Nat):Int)=m.user:=YAe (by omega);have u3:((m.frm.toNat:Nat):Int)=m.frm:=YAe (by omega)
 have ht:(JQ m).take 2=[77,71]:=by
  unfold JQ ZK;simp only[YAB]
  rfl
 have hl:6≤(JQ m).length:=by
  unfold JQ ZK;simp only[YAK,Jj,YAL,YAO];omega
 unfold Se;rw[Jd (by rw[ht];simp;omega),Sy,Y8 (by omega)];dsimp only;rw[Y8 (by omega)];dsimp only;rw[TX (by omega)];dsimp only;unfold CW;rw[Jd (by simp[Jj]),Y8 (by omega)];dsimp only;rw[YAd,e1];dsimp only;unfold EQ;rw[Jd (by simp[Jj]),Y8 (by omega)];dsimp only;rw[YAd,e2];dsimp only;unfold CX;rw[Jd (by simp[Jj]),Y8 (by omega)];dsimp only;rw[YAd,e3];dsimp only;rw[u1,u2,u3,Jf ⟨rfl,c1,c2⟩]
def wN(s:By):Se s=W3 s:=by
 cases hg:W3 s with
 | some m =>
   obtain⟨a,b⟩:=Gx hg;rw[←b,yR a]
 | none =>
   cases hd:Se s with
   | none=>rfl
   | some m =>
     exfalso
     suffices h:Q3 m=true∧JQ m=s by
      rw[←h.2,W4 h.1]at hg;cases hg
     unfold Se at hd;split at hd
     ·cases hd
     rename_i hc
     have hl0:s.length≤65536:=Nat.le_of_not_lt fun hh=>hc (.inl hh);have hl:6≤s.length:=Nat.le_of_not_lt fun hh=>hc (.inr (.inl hh));have ht:s.take 2=[77,71]:=Decidable.not_not.1 fun hh=>hc (.inr (.inr hh));obtain⟨k0,k1,ek⟩:=WM (l:=s.drop 2) (by simp;omega)
     have lk:(Qt (s.drop 2)).2.length=s.length-3:=by
      have:=congrArg List.length ek;simp only[YAK,Jj,YAM]at this;omega
     obtain⟨u0,u1,eu⟩:=WM (l:=(Qt (s.drop 2)).2) (by omega)
     have lu:(Qt (Qt (s.drop 2)).2).2.length=s.length-4:=by
      have:=congrArg List.length eu;simp only[YAK,Jj]at this;omega
     obtain⟨f0,f1,ef⟩:=TY (l:=(Qt (Qt (s.drop 2)).2).2) (by omega);generalize (Qt (s.drop 2))=K at *;generalize (Qt K.2)=U at *;generalize (ZC U.2)=F at *;unfold CW at hd;split at hd
     ·cases hd
     obtain⟨a0,a1,ea⟩:=WM (l:=F.2) (by omega);split at hd
     ·cases hd
     rename_i es l1 hes
     obtain⟨xs,x1,x2,x3,x4⟩:=V8 (g:=Yy) (p:=fun x=>JJ x=true) (fun l x h=>Cm h) _ _ _ _ _ hes;rw[YAT]at x1;subst x1;unfold EQ at hd;split at hd
     ·cases hd
     obtain⟨b0,b1,eb⟩:=WM (l:=l1) (by omega);split at hd
     ·cases hd
     rename_i ws l2 hws
     obtain⟨ys,y1,y2,y3,y4⟩:=V8 (g:=fun x:Qh=>x.toList) (p:=fun x=>True) (fun l x h=>TV h) _ _ _ _ _ hws;rw[YAT]at y1;subst y1;unfold CX at hd;split at hd
     ·cases hd
     obtain⟨d0,d1,ed⟩:=WM (l:=l2) (by omega);split at hd
     ·cases hd
     rename_i os l3 hos
     obtain⟨zs,z1,z2,z3,z4⟩:=V8 (g:=XS) (p:=fun x=>x.length≤65535) (fun l x h=>Gd h) _ _ _ _ _ hos;rw[YAT]at z1;subst z1;split at hd
     ·rename_i hm
      cases hd
      have hb:JQ ⟨K.1,U.1,F.1,es,ws,os⟩=s:=by
       have hs:s=[77,71]++s.drop 2:=by rw[←ht,YAY]
       rw[hs,ek,eu,ef,ea,x4,eb,y4,ed,z4,hm.1];unfold JQ ZK;dsimp only;rw[x2,y2,z2];simp only[YAB,YAC]
      refine⟨?_,hb⟩;unfold Q3;rw[hb,dT hl0,Bool.and_true];unfold YB;simp only[YAm,Qg];refine⟨hm.2.1,hm.2.2,u0,by omega,f0,by omega,by omega,List.all_eq_true.2 x3,by omega,by omega,List.all_eq_true.2 fun x hx=>dT (z3 x hx)⟩
     ·cases hd
def clone_int.s{es:Jn}{xs:List (Kd.Ty .i)}{h:Ja}{K:Jn→Hp} (g:Q5 .i es xs h) (hl:xs.length*8≤140737488355328)
 (hK:∀s' h',Jc [] h h'→JR h' Qp .i s' xs→(∀b∈own s',h.size≤b)→K s' h'):ZAi.C es h K:=by
 apply ZAi.c;unfold ZAi.m;have hlen:=g.len;by_cases ha':es.isNil=true
 ·rw[Jf ha'];have ha:=Jn.a_nil ha'
  have:xs=[]:=by
   cases xs with
   | nil=>rfl
   | cons x r=>obtain⟨l,hl,_⟩:=g.el 0 x (by simp);rw[ha]at hl;simp at hl
  subst this;exact hK _ _ Jc.rfl JR.nil (by simp[own])
 ·rw[Jd ha'];show JB es (es.len*1) (h.push (QW Qp .i [])) _;refine QI (g.keep (by decide) Ju) (by rw[hlen];rfl) ?_;refine X8 (ys:=xs) (JR.of_new (zs:=[]) (b:=h.size) JA rfl rfl rfl) hlen rfl (by simp only[YAO,YAk,hlen];exact hl) fun s' h' r k o =>?_;refine hK s' h' (Ju.new k (by simp[own])) (by simpa using r) fun b hb =>?_;rcases XO o b hb with e | e
  ·simp[own]at e;omega
  ·rw[e];simp
def clone_str.s{es:Jn}{xs:List (Kd.Ty .s)}{h:Ja}{K:Jn→Hp} (g:Q5 .s es xs h) (hl:xs.length*16≤140737488355328)
 (hK:∀s' h',Jc [] h h'→JR h' Jt .s s' xs→(∀b∈own s',h.size≤b)→K s' h'):ZAf.C es h K:=by
 apply ZAf.c;unfold ZAf.m;have hlen:=g.len;by_cases ha':es.isNil=true
 ·rw[Jf ha'];have ha:=Jn.a_nil ha'
  have:xs=[]:=by
   cases xs with
   | nil=>rfl
   | cons x r=>obtain⟨l,hl,_⟩:=g.el 0 x (by simp);rw[ha]at hl;simp at hl
  subst this;exact hK _ _ Jc.rfl JR.nil (by simp[own])
 ·rw[Jd ha'];show JB es (es.len*1) (h.push (QW Jt .s [])) _;refine QI (g.keep (by decide) Ju) (by rw[hlen];rfl) ?_;refine X8 (ys:=xs) (JR.of_new (zs:=[]) (b:=h.size) JA rfl rfl rfl) hlen rfl (by simp only[YAO,YAk,hlen];exact hl) fun s' h' r k o =>?_;refine hK s' h' (Ju.new k (by simp[own])) (by simpa using r) fun b hb =>?_;rcases XO o b hb with e | e
  ·simp[own]at e;omega
  ·rw[e];simp
def clone_hash.s{es:Jn}{xs:List (Kd.Ty (.ar 32 .u8))}{h:Ja}{K:Jn→Hp} (g:Q5 (.ar 32 .u8) es xs h) (hl:xs.length*32≤140737488355328)
 (hK:∀s' h',Jc [] h h'→JR h' Jh (.ar 32 .u8) s' xs→(∀b∈own s',h.size≤b)→K s' h'):ZAS.C es h K:=by
 apply ZAS.c;unfold ZAS.m;have hlen:=g.len;by_cases ha':es.isNil=true
 ·rw[Jf ha'];have ha:=Jn.a_nil ha'
  have:xs=[]:=by
   cases xs with
   | nil=>rfl
   | cons x r=>obtain⟨l,hl,_⟩:=g.el 0 x (by simp);rw[ha]at hl;simp at hl
  subst this;exact hK _ _ Jc.rfl JR.nil (by simp[own])
 ·rw[Jd ha'];show JB es (es.len*32) (h.push (QW Jh (.ar 32 .u8) [])) _;refine QI (g.keep (by decide) Ju) (by rw[hlen];rfl) ?_;refine X8 (ys:=xs) (JR.of_new (zs:=[]) (b:=h.size) JA rfl rfl rfl) hlen rfl (by simp only[YAO,YAk,hlen];exact hl) fun s' h' r k o =>?_;refine hK s' h' (Ju.new k (by simp[own])) (by simpa using r) fun b hb =>?_;rcases XO o b hb with e | e
  ·simp[own]at e;omega
  ·rw[e];simp
def DD{h:Ja}{T T':Nat}{k k':Kd}{u v:Jn}{xs:List k.Ty}{ys:List k'.Ty} (r:JR h T k u xs) (r':JR h T' k' v ys) (hT:T≠T'):∀q∈own u,q∉own v:=fun q hq=>by
 rcases r with⟨e,_⟩ | ⟨b,zs,e,_,_,e4⟩
 ·rw[e]at hq;simp[own]at hq
 ·have:q=b:=by unfold own at hq;rw[e]at hq;simpa using hq
  subst this;exact QL r' e4 hT
def equal_int.s{s1 s2:Jn}{xs ys:List Int}{h:Ja}{K:Bool→Hp} (g1:Q5 .i s1 xs h) (g2:Q5 .i s2 ys h) (hl:xs.length≤9223372036854775806) (hK:K (decide (xs=ys)) h):ZBF.C s1 s2 h K:=by
 apply ZBF.c;unfold ZBF.m;have l1:=g1.len;have l2:=g2.len;by_cases hle:xs.length=ys.length
 ·rw[Jd (by rw[l1,l2,hle];simp)];refine JF (fun(y:Int×Unit) (h1:Ja)=>h1=h∧∃t:Nat,y.1=t∧t≤xs.length∧xs.take t=ys.take t) (fun(y:Int×Unit) _=>xs.length-y.1.toNat) ?_ ?_
  ·exact⟨rfl,0,rfl,YAl _,by simp⟩
  rintro⟨(i:Int),_⟩ h1 ⟨rfl,t,e,ht,hall⟩;dsimp only at e ⊢;subst e;by_cases hlt:t<xs.length
  ·rw[Jf (show decide ((t:Int)<(s1.len:Int))=true from dT (by omega))];refine JK g1 (x:=xs[t]) (by omega) (by simp[hlt]) rfl ?_;refine JK g2 (x:=ys[t]'(by omega)) (by omega) (by rw[YAd];exact YAH (by omega)) rfl ?_;by_cases hx:xs[t]=ys[t]'(by omega)
   ·rw[Jd (by simp[hx])];have hw:Jr ((t:Int)+1)=((t+1:Nat):Int):=w6 (by omega);rw[hw];refine⟨⟨rfl,t+1,rfl,by omega,?_⟩,by simp;omega⟩;rw[YAb hlt,YAb (show t<ys.length by omega),hall,hx]
   ·rw[Jf (by simpa using hx)];have:decide (xs=ys)=false:=dF fun e=>hx (by subst e;rfl);rw[this]at hK;exact hK
  ·rw[Jd (show¬decide ((t:Int)<(s1.len:Int))=true from dn (by omega))];rw[YAa (by omega),YAa (by omega)]at hall;rw[dT hall]at hK;exact hK
 ·rw[Jf (by rw[l1,l2];simp;omega)];have:decide (xs=ys)=false:=dF fun e=>hle (by rw[e]);rw[this]at hK;exact hK
structure VM (h:Ja) (v:JO.Ty) (e:X6):Prop where
 u:v.1=e.user
 q:v.2.1=e.seq
 w:JR h Qp .i v.2.2.1 e.vec
 r:v.2.2.2.1=e.root
 t:JR h Jh (.ar 32 .u8) v.2.2.2.2.1 e.tables
 s:v.2.2.2.2.2.1=bx e.sign
def VM.at{h:Ja}{v:JO.Ty}{e:X6} (a:VM h v e):Ue h v e:=⟨a.u,a.q,a.w.seg,a.r,a.t.seg,a.s⟩
def Uc(v:JO.Ty):List Nat:=own v.2.2.1++own v.2.2.2.2.1
def VM.keep{h h':Ja}{v:JO.Ty}{e:X6}{S:List Nat} (a:VM h v e) (k:Jc S h h') (hS:∀b∈Uc v,b∉S):VM h' v e:=
 ⟨a.u,a.q,a.w.keep k (fun b hb=>hS b (by unfold Uc;simp[hb])),a.r,a.t.keep k (fun b hb=>hS b (by unfold Uc;simp[hb])),a.s⟩
def zZ{v:JO.Ty}{y:Jn}:Il (JO.cells v) 2 (Kd.sl.cells y)=JO.cells ((v.1,(v.2.1,(y,v.2.2.2))):JO.Ty):=rfl
def ql{v:JO.Ty}{y:Jn}:Il (JO.cells v) 35 (Kd.sl.cells y)=JO.cells ((v.1,(v.2.1,(v.2.2.1,(v.2.2.2.1,(y,v.2.2.2.2.2))))):JO.Ty):=by
 have l3:((Kd.ar 32 .u8).cells v.2.2.2.1).length=32:=Kd.cells_length ..
 have e0:∀w:Jn×Ba×Unit,JO.cells ((v.1,(v.2.1,(v.2.2.1,(v.2.2.2.1,w)))):JO.Ty)=((Kd.i.cells v.1++(Kd.i.cells v.2.1++Kd.sl.cells v.2.2.1))++(Kd.ar 32 .u8).cells v.2.2.2.1)++(Kd.sl.cells w.1++(Kd.s.cells w.2.1++[])):=fun w=>by
  rw[YAB];rfl
 have e1:=e0 v.2.2.2.2;have e2:=e0 (y,v.2.2.2.2.2);rw[e2];have e1:JO.cells v=_:=e1;rw[e1];have l35:((Kd.i.cells v.1++(Kd.i.cells v.2.1++Kd.sl.cells v.2.2.1))++(Kd.ar 32 .u8).cells v.2.2.2.1).length=35:=by rw[YAK,l3];rfl
 generalize ((Kd.i.cells v.1++(Kd.i.cells v.2.1++Kd.sl.cells v.2.2.1))++(Kd.ar 32 .u8).cells v.2.2.2.1)=A at *;unfold Il;rw[YAZ l35,←List.drop_drop,YAD l35,YAB]
 rfl
def ZCI.s{v:JO.Ty}{e:X6}{h:Ja}{K:JO.Ty→Hp} (a:Ue h v e) (hv:e.vec.length*8≤140737488355328) (ht:e.tables.length*32≤140737488355328)
 (hK:∀v' h',Jc [] h h'→VM h' v' e→(∀b∈Uc v',h.size≤b)→K v' h'):ZCI.C v h K:=by
 apply ZCI.c;unfold ZCI.m;refine Ji fun b1 h1 hb1 k1 e1 hs1 =>?_;have e1:h1[b1]? = some (Jg Jk JO v):=e1;refine Ji fun b2 h2 hb2 k2 e2 hs2 =>?_;have e2:h2[b2]? = some (Jg Jk JO _):=e2;have e12:=k2.g e1;have a2:=(a.keep k1).keep k2;refine Jb (ZH e12).2.2.1 (Jb (ZH e12).2.2.2.2.1 ?_);refine clone_int.s a2.w hv fun s3 h3 k3 r3 o3 =>?_;refine⟨(ZH (k3.g e12)).2.2.2.2.1,?_⟩;refine clone_hash.s (a2.keep k3).t ht fun s4 h4 k4 r4 o4 =>?_;have k24:Jc [] h2 h4:=k3.n k4;have e14:=k24.g e12;have e24:=k24.g e2;have z1:=k1.1;have z2:=k2.1;have z3:=k3.1;refine Qm (k:=JO) (k' := .sl) (n:=2) e14 (by decide) zZ ?_;have e5:=Jw (o':=Jg Jk JO ((v.1,(v.2.1,(s3,v.2.2.2))):JO.Ty)) e14;have k5:Jc [b1] h4 (h4.setIfInBounds b1 (Jg Jk JO ((v.1,(v.2.1,(s3,v.2.2.2))):JO.Ty))):=Jo;generalize h4.setIfInBounds b1 (Jg Jk JO ((v.1,(v.2.1,(s3,v.2.2.2))):JO.Ty))=h5 at e5 k5 ⊢;refine Qm (k:=JO) (k' := .sl) (n:=35) e5 (by decide) ql ?_;dsimp only;have e6:=Jw (o':=Jg Jk JO ((v.1,(v.2.1,(s3,(v.2.2.2.1,(s4,v.2.2.2.2.2))))):JO.Ty)) e5;have k6:Jc [b1] h5 (h5.setIfInBounds b1 (Jg Jk JO ((v.1,(v.2.1,(s3,(v.2.2.2.1,(s4,v.2.2.2.2.2))))):JO.Ty))):=Jo;generalize h5.setIfInBounds b1 (Jg Jk JO ((v.1,(v.2.1,(s3,(v.2.2.2.1,(s4,v.2.2.2.2.2))))):JO.Ty))=h6 at e6 k6 ⊢;refine Jb (Je e6) ?_;have n21:b2≠b1:=by have:=Jl e1;omega
 have e26:=k6.get (k5.get e24 (by simpa using n21)) (by simpa using n21);refine JL e26 fun h7 k7 e7 hs7=>Jb (Je e7) ?_;have off:∀ {T:Nat} {k:Kd} {u:Jn} {L:List k.Ty} {hh:Ja} {b:Nat} {x:JO.Ty},JR hh T k u L→hh[b]? = some (Jg Jk JO x)→T≠Jk→∀q∈own u,q∉[b]:=fun r e hT q hq hm=>by simp at hm;subst hm;exact QL r e (fun h=>hT h.symm) hq
 have mv:∀ {T:Nat} {k:Kd} {u:Jn} {L:List k.Ty},JR h4 T k u L→T≠Jk→JR h7 T k u L:=fun r hT=>by
  have r5:=r.keep k5 (off r e14 hT);have r6:=r5.keep k6 (off r5 e5 hT);exact r6.keep k7 (off r6 e26 hT)
 refine hK _ h7 ?_ ⟨a.u,a.q,mv (r3.keep k4 (by simp)) (by decide),a.r,mv r4 (by decide),a.s⟩ fun b hb =>?_
 ·exact((((k1.n k2).n k24).new k5 (by simp;omega)).new k6 (by simp;omega)).new k7 (by simp;omega)
 ·unfold Uc at hb;rcases List.mem_append.1 hb with hb | hb
  ·have:=o3 b hb;omega
  ·have:=o4 b hb;omega
def Sc(n0:Nat) (h:Ja) (v:XU.Ty) (m:Mb):Prop:=v.1=m.users∧∃gs,JR h XH .sl v.2.1 gs∧(∀q∈own v.2.1,n0≤q)∧Qq (fun s us=>JR h Qp .i s us∧(∀q∈own s,n0≤q)∧us.length*8≤140737488355328) gs m.groups
def Sc.at{n0:Nat}{h:Ja}{v:XU.Ty}{m:Mb} (a:Sc n0 h v m):UN h v m:=by
 obtain⟨u,gs,r,_,al⟩:=a;exact⟨u,gs,r.seg,Qq.mono (fun s us x=>⟨x.1.seg,by have:=x.2.2;omega⟩) al⟩
def Sc.keep{n0:Nat}{h h':Ja}{v:XU.Ty}{m:Mb}{S:List Nat} (a:Sc n0 h v m) (k:Jc S h h') (hS:∀b∈S,b<n0∨∀c f,h[b]? ≠ some (.cells c XH f)∧h[b]? ≠ some (.cells c Qp f)):Sc n0 h' v m:=by
 obtain⟨u,gs,r,o,al⟩:=a
 have kp:∀ {T:Nat} {k:Kd} {s:Jn} {L:List k.Ty},JR h T k s L→(∀q∈own s,n0≤q)→T=XH∨T=Qp→JR h' T k s L:=fun{T k' s L} r o hT=>r.keep k fun b hb hm=>by
  rcases hS b hm with h1 | h1
  ·have:=o b hb;omega
  ·rcases r with⟨e,_⟩ | ⟨b',zs,e,_,_,e4⟩
   ·rw[e]at hb;simp[own]at hb
   ·have:b=b':=by unfold own at hb;rw[e]at hb;simpa using hb
    subst this;rcases hT with rfl | rfl
    ·exact(h1 _ _).1 e4
    ·exact(h1 _ _).2 e4
 exact⟨u,gs,kp r o (.inl rfl),o,Qq.mono (fun s us x=>⟨kp x.1 x.2.1 (.inr rfl),x.2⟩) al⟩
def ZCr.s{mv:XU.Ty}{m:Mb}{h:Ja}{K:XU.Ty→Hp} (am:UN h mv m) (hb:m.groups.length*24≤140737488355328) (hg:∀g∈m.groups,g.length*8≤140737488355328)
 (hK:∀h' mv',Jc [] h h'→Sc h.size h' mv' m→K mv' h'):ZCr.C mv h K:=by
 obtain⟨hu,gs,ggs,gal⟩:=am;obtain⟨(u:Int),(gl:Jn),⟨⟩⟩:=mv;have hu:u=m.users:=hu;have ggs:Q5 .sl gl gs h:=ggs;apply ZCr.c;unfold ZCr.m;refine Ji fun b1 h1 hb1 k1 e1 hs1 =>?_;have e1:h1[b1]? = some (Jg JT XU ((u,(gl,())):XU.Ty)):=e1;refine Ji fun b2 h2 hb2 k2 e2 hs2 =>?_;have e2:h2[b2]? = some (Jg JT XU ((0,((⟨none,0,0⟩:Jn),())):XU.Ty)):=e2;have e1:=k2.g e1;refine Jb (k := .i) (x:=u) (JV (Je e1) (by decide) rfl) ?_;refine Jq fun b3 h4 hb3 k4 e4 hs4 =>?_;have e4:h4[b3]? = some (Jg JT XU ((u,((⟨none,0,0⟩:Jn),())):XU.Ty)):=e4;have e1:=k4.g e1;have e2:=k4.g e2;have k04:Jc [] h h4:=(k1.n k2).n k4;have gsl:=ggs.len;have gal':=gal.len;refine Jb (k := .sl) (x:=gl) (JV (Je e1) (by decide) rfl) ?_;refine JF (fun(y:Int×Unit) (h5:Ja)=>∃n:Nat,y.1=n∧n≤m.groups.length∧Jc [] h h5∧h4.size≤h5.size∧h5[b1]? = some (Jg JT XU ((u,(gl,())):XU.Ty))∧h5[b2]? = some (Jg JT XU ((0,((⟨none,0,0⟩:Jn),())):XU.Ty))∧∃s us,h5[b3]? = some (Jg JT XU ((u,(s,())):XU.Ty))∧JR h5 XH .sl s us∧(∀q∈own s,h4.size≤q)∧Qq (fun s' us=>JR h5 Qp .i s' us∧(∀q∈own s',h4.size≤q)) us (m.groups.take n)) (fun(y:Int×Unit) _=>m.groups.length-y.1.toNat) ?_ ?_
 ·exact⟨0,rfl,by omega,k04,YAf _,e1,e2,⟨none,0,0⟩,[],e4,JR.nil,by simp[own],jR⟩
 rintro⟨(i:Int),_⟩ h5 ⟨n,e,hn,k5,z5,g1,g2,s,us,g3,r5,o5,a5⟩;dsimp only at e ⊢;subst e;have z04:=k04.1;have z1:=k1.1;have z2:=k2.1;by_cases hlt:n<m.groups.length
 case neg=>
  rw[Jd (show¬decide ((n:Int)<(gl.len:Int))=true from dn (by omega))];obtain rfl:n=m.groups.length:=by omega
  rw[List.take_length]at a5;refine Jb (Je g3) ?_;refine JL (y:=((u,(s,())):XU.Ty)) g2 fun h6 k6 e6 hs6 =>?_;refine Jb (Je e6) ?_;have off:∀ {T:Nat} {k:Kd} {u:Jn} {L:List k.Ty},JR h5 T k u L→T≠JT→∀q∈own u,q∉[b2]:=fun r hT q hq hm=>by simp at hm;subst hm;exact QL r g2 (fun e=>hT e.symm) hq
  refine hK h6 _ (k5.new k6 (by simp;omega)) ⟨hu,us,r5.keep k6 (off r5 (by decide)),fun q hq=>by have:=o5 q hq;omega,Qq.monoM (fun u _ g hg' r=>⟨r.1.keep k6 (off r.1 (by decide)),fun q hq=>by have:=r.2 q hq;omega,hg g hg'⟩) a5⟩
 rw[Jf (show decide ((n:Int)<(gl.len:Int))=true from dT (by omega))];have hwn:Jr ((n:Int)+1)=((n+1:Nat):Int):=w6 (by omega);rw[hwn];have hgn:n<gs.length:=by omega
 refine JK (ggs.keep (by decide) k5) (x:=gs[n]) (by omega) (by rw[YAd];exact YAH hgn) rfl ?_;refine Jb (k := .sl) (x:=s) (JV (Je g3) (by decide) rfl) ?_;have hgx:=gal.getI hgn hlt;have hg8:=hg _ (YAJ hlt);refine clone_int.s (hgx.1.keep (by decide) k5) hg8 fun s2 h7 k7 r7 o7 =>?_;have g37:=k7.g g3;refine⟨JV (Je g37) (by decide) rfl,?_⟩;refine Sw ?_;have k8:Jc [] h7 (h7.push (QW XH .sl [s2])):=Ju;have e8:(h7.push (QW XH .sl [s2]))[h7.size]? = some (QW XH .sl [s2]):=JA;have hz8:h7.size<(h7.push (QW XH .sl [s2])).size:=by simp
 generalize hbv:h7.size=bv at e8 hz8;generalize (h7.push (QW XH .sl [s2]))=h8 at k8 e8 hz8 ⊢;have k58:Jc [] h5 h8:=k7.n k8;refine⟨JV (Je (k58.g g3)) (by decide) rfl,?_⟩;refine Vy (k := .sl) (xs:=[s2]) e8 rfl (i:=0) (j:=1) (by simp) rfl (by simp) ?_;have r8:=r5.keep k58 (by simp);have al:=a5.len;rw[YAP]at al;refine X8 (T:=XH) (k := .sl) (ys:=[s2]) r8 rfl (by simp[Kd.cells]) (by simp only[List.length_singleton];omega) fun s4 h9 r9 k9 o9 =>?_;have g38:=k58.g g3;have g39:=k9.get g38 (QL r8 g38 (by decide));have g19:=k9.get (k58.g g1) (QL r8 (k58.g g1) (by decide));have g29:=k9.get (k58.g g2) (QL r8 (k58.g g2) (by decide));refine Qm (k:=XU) (k' := .sl) (y:=s4) (n:=1) (x:=((u,(s,())):XU.Ty)) (x':=((u,(s4,())):XU.Ty)) g39 (by decide) rfl ?_;have e10:=Jw (o':=Jg JT XU ((u,(s4,())):XU.Ty)) g39;have k10:Jc [b3] h9 (h9.setIfInBounds b3 (Jg JT XU ((u,(s4,())):XU.Ty))):=Jo;generalize h9.setIfInBounds b3 (Jg JT XU ((u,(s4,())):XU.Ty))=h10 at e10 k10;have off:∀ {T:Nat} {k:Kd} {u:Jn} {L:List k.Ty},JR h9 T k u L→T≠JT→∀q∈own u,q∉[b3]:=fun r hT q hq hm=>by simp at hm;subst hm;exact QL r g39 (fun e=>hT e.symm) hq
 have rr:∀ {u:Jn} {L:List Int},JR h8 Qp .i u L→JR h10 Qp .i u L:=fun r=>by
  have r9':=r.keep k9 (DD r r8 (by decide));exact r9'.keep k10 (off r9' (by decide))
 have z7:=k7.1;have z58:=k58.1;have z9:=k9.1;have z10:=k10.1;refine⟨⟨n+1,rfl,by omega,((k5.n k58).new k9 fun q hq=>by have:=o5 q hq;omega).new k10 (by simp;omega),by omega,k10.get g19 (by simp;omega),k10.get g29 (by simp;omega),s4,us++[s2],e10,r9.keep k10 (off r9 (by decide)),fun q hq =>?_,?_⟩,by simp;omega⟩
 ·rcases XO o9 q hq with e | e
  ·exact o5 q e
  ·omega
 ·rw[YAb hlt];exact Qq.app (a5.mono fun _ _ r=>⟨rr (r.1.keep k58 (by simp)),r.2⟩) ⟨⟨rr (r7.keep k8 (by simp)),fun q hq=>by have:=o7 q hq;omega⟩,trivial⟩
def RQ(s:By):Qh:=Yt (0::s)
def VW(a b:Qh):Qh:=Yt (1::(a.toList++b.toList))
def yO:Nat→Nat→Nat→Nat
 | 0,_,k=>k
 | f+1,n,k=>if 2*k<n then yO f n (2*k) else k
def G1(n:Nat):Nat:=yO n n 1
def DT{n b:Nat} (h1:2^b<n) (h2:n≤2^(b+1)):∀ {f j:Nat},j≤b→b-j<f→yO f n (2^j)=2^b
 | 0,j,hj,hf=>by omega
 | f + 1, j, hj, hf => by
   unfold yO;by_cases e:j=b
   ·subst e;rw[YAj]at h2;rw[Jd (by omega)]
   ·have h3:2^(j+1)≤2^b:=YAi (by decide) (by omega);have h4:2*2^j=2^(j+1):=by rw[YAj,Nat.mul_comm]
    rw[h4,Jf (by omega)];exact DT h1 h2 (by omega) (by omega)
def EO{n b:Nat} (h1:2^b<n) (h2:n≤2^(b+1)):G1 n=2^b:=by
 have:b<2^b:=Nat.lt_two_pow_self;exact DT (j:=0) h1 h2 (by omega) (by omega)
def qc{n:Nat} (h:2≤n):∃b,2^b<n∧n≤2^(b+1):=by
 refine⟨(n-1).log2,?_,?_⟩
 ·have:=Nat.log2_self_le (n:=n-1) (by omega);omega
 ·have:=Nat.lt_log2_self (n:=n-1);omega
def EP{n:Nat} (h:2≤n):1≤G1 n∧G1 n<n:=by
 obtain⟨b,h1,h2⟩:=qc h;rw[EO h1 h2];exact⟨YAh,h1⟩
def GQ:Nat→List By→Qh
 | 0,_=>Yt []
 | f+1,ls=>if ls.length=0 then Yt [] else if ls.length=1 then RQ (ls.getD 0 []) else VW (GQ f (ls.take (G1 ls.length))) (GQ f (ls.drop (G1 ls.length)))
def Uy:∀ {f g:Nat}{ls:List By},ls.length≤f→ls.length≤g→GQ f ls=GQ g ls
 | 0,0,ls,_,_=>rfl
 | 0, g + 1, ls, h, _ => by
   have h0:ls.length=0:=by omega
   unfold GQ;rw[Jf h0]
 | f + 1, 0, ls, _, h => by
   have h0:ls.length=0:=by omega
   unfold GQ;rw[Jf h0]
 | f + 1, g + 1, ls, hf, hg => by
   unfold GQ;by_cases h0:ls.length=0
   ·rw[Jf h0,Jf h0]
   rw[Jd h0,Jd h0];by_cases h1:ls.length=1
   ·rw[Jf h1,Jf h1]
   rw[Jd h1,Jd h1];have hc:=EP (n:=ls.length) (by omega);rw[Uy (f:=f) (g:=g) (ls:=ls.take (G1 ls.length)) (by rw[YAP];omega) (by rw[YAP];omega),Uy (f:=f) (g:=g) (ls:=ls.drop (G1 ls.length)) (by rw[YAM];omega) (by rw[YAM];omega)]
def XD(ls:List By):Qh:=GQ ls.length ls
def jp:XD []=Yt []:=rfl
def R4{s:By}:XD [s]=RQ s:=rfl
def R3{ls:List By} (h:2≤ls.length):XD ls=VW (XD (ls.take (G1 ls.length))) (XD (ls.drop (G1 ls.length))):=by
 have hc:=EP h;have e:ls.length=(ls.length-1)+1:=by omega
 have e0:XD ls=GQ ((ls.length-1)+1) ls:=by unfold XD;rw[←e]
 rw[e0];unfold GQ;rw[Jd (by omega),Jd (by omega)];unfold XD;rw[Uy (f:=ls.length-1) (g:=(ls.take (G1 ls.length)).length) (by rw[YAP];omega) (YAf _),Uy (f:=ls.length-1) (g:=(ls.drop (G1 ls.length)).length) (by rw[YAM];omega) (YAf _)]
def MD{l1 l2:List By}{b:Nat} (h1:l1.length=2^b) (h2:0<l2.length) (h3:l2.length≤2^b):XD (l1++l2)=VW (XD l1) (XD l2):=by
 have hp:1≤2^b:=YAh;have hl:(l1++l2).length=l1.length+l2.length:=YAK;have hc:G1 (l1++l2).length=2^b:=EO (by omega) (by rw[YAj];omega);rw[R3 (by omega),hc,YAZ h1,YAD h1]
def Io:List (Nat×Qh)→List By→Prop
 | [],ls=>ls=[]
 | y::rest,ls=>∃b l1 l2,y.1=2^b∧ls=l1++l2∧l2.length=2^b∧y.2=XD l2∧(∀z∈rest,2^(b+1)≤z.1)∧Io rest l1
def V5:Nat→Qh→List (Nat×Qh)→List (Nat×Qh)
 | n,r,[]=>[(n,r)]
 | n,r,y::rest=>if y.1=n then V5 (2*n) (VW y.2 r) rest else(n,r)::y::rest
def Pe:Qh→List (Nat×Qh)→Qh
 | acc,[]=>acc
 | acc,y::rest=>Pe (VW y.2 acc) rest
def JaU:List (Nat×Qh)→Qh
 | []=>Yt []
 | y::rest=>Pe y.2 rest
def PX:∀ {row:List (Nat×Qh)}{ls lx:List By}{b:Nat},Io row ls→lx.length=2^b→(∀y∈row,2^b≤y.1)→Io (V5 (2^b) (XD lx) row) (ls++lx)
 | [], ls, lx, b, h, hl, _ => by
   have h:ls=[]:=h;subst h;exact⟨b,[],lx,rfl,rfl,hl,rfl,by simp,rfl⟩
 | y :: rest, ls, lx, b, h, hl, hy => by
   obtain⟨c,l1,l2,e1,e2,e3,e4,e5,e6⟩:=h;unfold V5;by_cases e:y.1=2^b
   ·rw[Jf e];have hb:l2.length=2^b:=by omega
    have hbc:2^(c+1)=2^(b+1):=by rw[YAj,YAj];omega
    have hp:1≤2^b:=YAh;rw[e4,←MD (b:=b) hb (by omega) (by omega),show 2*2^b=2^(b+1) by rw[YAj,Nat.mul_comm],e2,YAB];exact PX e6 (by rw[YAK,hb,hl,YAj];omega) fun z hz=>by rw[←hbc];exact e5 z hz
   ·rw[Jd e];have h1:=hy y (by simp)
    have hcb:b<c:=by
     rcases Nat.lt_trichotomy b c with h | h | h
     ·exact h
     ·rw[h]at e;exact absurd e1 e
     ·have:2^c<2^b:=Nat.pow_lt_pow_right (by decide) h;omega
    have h2:2^(b+1)≤2^c:=YAi (by decide) (by omega);refine⟨b,ls,lx,rfl,rfl,hl,rfl,fun z hz =>?_,⟨c,l1,l2,e1,e2,e3,e4,e5,e6⟩⟩;rcases List.mem_cons.1 hz with rfl | hz
    ·omega
    ·have:=e5 z hz;have h3:2^c≤2^(c+1):=YAi (by decide) (by omega);omega
def Ry:∀ {row:List (Nat×Qh)}{ls lx:List By},Io row ls→0<lx.length→(∀y∈row,lx.length≤y.1)→Pe (XD lx) row=XD (ls++lx)
 | [], ls, lx, h, _, _ => by
   have h:ls=[]:=h;subst h;rfl
 | y :: rest, ls, lx, h, h0, hy => by
   obtain⟨c,l1,l2,e1,e2,e3,e4,e5,e6⟩:=h;unfold Pe;have h1:=hy y (by simp);rw[e4,←MD (b:=c) e3 h0 (by omega),e2,YAB];refine Ry e6 (by rw[YAK];omega) fun z hz =>?_;have:=e5 z hz;rw[YAj]at this;rw[YAK];omega
def jx{row:List (Nat×Qh)}{ls:List By} (h:Io row ls):JaU row=XD ls:=by
 cases row with
 | nil =>
   have h:ls=[]:=h;subst h;rfl
 | cons y rest =>
   obtain⟨c,l1,l2,e1,e2,e3,e4,e5,e6⟩:=h;show Pe y.2 rest=XD ls;have hp:1≤2^c:=YAh;rw[e4,e2];refine Ry e6 (by omega) fun z hz =>?_;have:=e5 z hz;rw[YAj]at this;omega
def ZDD.s{u v:Kd.Ty (.ar 32 .u8)}{h:Ja}{K:Kd.Ty (.ar 32 .u8)→Hp} (hK:∀h',Jc [] h h'→K (VW u v) h'):ZDD.C u v h K:=by
 apply ZDD.c;unfold ZDD.m;refine Ji fun b1 h1 hb1 k1 e1 hs1 =>?_;refine Ji fun b2 h2 hb2 k2 e2 hs2 =>?_;refine Ji fun b3 h3 hb3 k3 e3 hs3 =>?_;have e13:=k3.g (k2.g e1);have e23:=k3.g e2;refine⟨by decide,by decide,by decide,?_⟩;have g:Q5 .u8 ⟨some ⟨b1,0⟩,32,32⟩ (Vector.toList u) h3:=Wt e13;refine Xb g fun q hq =>?_;have hu:(Vector.toList u).length=32:=by simp
 have hv:(Vector.toList v).length=32:=by simp
 show JS (bx [1]) (bx (Vector.toList u)) _;refine JM (by rw[hu];decide) ?_;refine⟨by decide,by decide,by decide,?_⟩;have g2:Q5 .u8 ⟨some ⟨b2,0⟩,32,32⟩ (Vector.toList v) h3:=Wt e23;refine Xb g2 fun q2 hq2 =>?_;show JS _ (bx (Vector.toList v)) _;refine JM (by rw[YAK,hu,hv];decide) ?_;refine ZBc.t (by rw[Js,YAK,YAK,hu,hv];decide) fun h4 k4 =>?_;rw[Yx];refine JL (k4.g e3) fun h5 k5 e5 hs5=>Jb (Je e5) ?_;have z1:=k1.1;have z2:=k2.1;exact hK h5 ((((k1.n k2).n k3).n k4).new k5 (by simp;omega))
def ZDi.s{s:By}{h:Ja}{K:Kd.Ty (.ar 32 .u8)→Hp} (hs:s.length≤900000) (hK:∀h',Jc [] h h'→K (RQ s) h'):ZDi.C (bx s) h K:=by
 apply ZDi.c;unfold ZDi.m;refine Ji fun b1 h1 hb1 k1 e1 hs1 =>?_;show JS (bx [0]) (bx s) _;refine JM (by simp;omega) ?_;refine ZBc.t (by rw[Js];simp;omega) fun h4 k4 =>?_;rw[Yx];refine JL (k4.g e1) fun h5 k5 e5 hs5=>Jb (Je e5) ?_;exact hK h5 ((k1.n k4).new k5 (by simp;omega))
def ZDX.s{h:Ja}{K:Kd.Ty (.ar 32 .u8)→Hp} (hK:∀h',Jc [] h h'→K (Yt []) h'):ZDX.C ⟨none,0,0⟩ h K:=by
 apply ZDX.c;unfold ZDX.m;refine Ji fun b1 h1 hb1 k1 e1 hs1 =>?_;rw[Jf (show decide (((0:Nat):Int)=0)=true from rfl)];show ZBc.C (bx []) h1 _;refine ZBc.t (by simp[Js]) fun h4 k4 =>?_;rw[Yx];refine JL (k4.g e1) fun h5 k5 e5 hs5=>Jb (Je e5) ?_;exact hK h5 ((k1.n k4).new k5 (by simp;omega))
abbrev Sm:Kd := .ag (.pr .i (.pr (.ar 32 .u8) .un))
def MJ(x:Nat×Qh):Sm.Ty:=((x.1:Int),(x.2,()))
abbrev WH:Kd := .ag (.pr .sl (.pr .i .un))
structure Uh (n0:Nat) (h:Ja) (t:Nat) (ls:List By):Prop where
 e:∃(s:Jn) (row:List (Nat×Qh)),h[t]? = some (Jg Qj WH (s,((ls.length:Int),())))∧JR h Qu Sm s (row.reverse.map MJ)∧Io row ls∧(∀b∈own s,n0≤b)
 l:n0≤t
def Uh.keep{n0 t:Nat}{h h':Ja}{ls:List By}{S:List Nat} (a:Uh n0 h t ls) (k:Jc S h h') (hS:∀b∈S,b<n0∨∀c f,h[b]? ≠ some (.cells c Qu f)∧h[b]? ≠ some (.cells c Qj f)):Uh n0 h' t ls:=by
 obtain⟨⟨s,row,e,r,p,o⟩,l⟩:=a;refine⟨⟨s,row,k.get e fun hm =>?_,r.keep k fun b hb hm =>?_,p,o⟩,l⟩
 ·rcases hS t hm with h1 | h1
  ·omega
  ·exact(h1 _ _).2 e
 ·rcases hS b hm with h1 | h1
  ·have:=o b hb;omega
  ·rcases r with⟨e,_⟩ | ⟨b',zs,e,_,_,e4⟩
   ·rw[e]at hb;simp[own]at hb
   ·have:b=b':=by unfold own at hb;rw[e]at hb;simpa using hb
    subst this;exact(h1 _ _).1 e4
def jD{l:Pl}{x:Nat×Qh}{h:Ja} (e:sm Sm l (MJ x) h):sm .i (l.fld 0) (x.1:Int) h∧sm (.ar 32 .u8) (l.fld 1) x.2 h:=by
 refine⟨JV e (by decide) rfl,JV e (by decide) ?_⟩;have l3:((Kd.ar 32 .u8).cells x.2).length=32:=Kd.cells_length ..;have:(Sm.cells (MJ x)).drop 1=(Kd.ar 32 .u8).cells x.2++[]:=rfl;rw[this];exact YAZ l3
def CP{acc:Qh}{y:Nat×Qh}{rest:List (Nat×Qh)}:Pe acc (y::rest)=Pe (VW y.2 acc) rest:=by rw[Pe]
def Mk:∀ {row:List (Nat×Qh)}{ls:List By},Io row ls→row.length≤ls.length
 | [],ls,_=>YAl _
 | y :: rest, ls, h => by
   obtain⟨b,l1,l2,_,e2,e3,_,_,e6⟩:=h;have:=Mk e6;have hp:1≤2^b:=YAh;rw[e2,YAK,YAL];omega
def ZA2.s{n0 t:Nat}{ls:List By}{h:Ja}{K:Kd.Ty (.ar 32 .u8)→Hp} (a:Uh n0 h t ls) (hl:ls.length≤1000000) (hK:∀h',Jc [] h h'→K (XD ls) h'):ZA2.C (some ⟨t,0⟩) h K:=by
 obtain⟨⟨s,row,e,r,p,o⟩,l⟩:=a;rw[←jx p]at hK;apply ZA2.c;unfold ZA2.m;refine Ji fun b1 h1 hb1 k1 e1 hs1 =>?_;rw[Jd (by simp)];have fs:∀ {hh:Ja},hh[t]? = some (Jg Qj WH (s,((ls.length:Int),())))→sm .sl ((Pl.mk t 0).fld 0) s hh:=fun e=>Jv (n:=0) (k' := .sl) e rfl (by decide);have et1:=k1.g e;have r1:=r.keep k1 (by simp);have rl:s.len=row.length:=by rw[r.len];simp
 refine Jp (Jb (fs et1) ?_)
 cases hrow:row with
 | nil =>
   rw[hrow]at rl hK;rw[Jf (show decide ((s.len:Int)=0)=true from dT (by rw[rl];rfl))];refine ZDX.s fun h3 k3 =>?_;refine JL (k3.g e1) fun h4 k4 e4 hs4=>Jb (Je e4) ?_;exact hK h4 ((k1.n k3).new k4 (by simp;omega))
 | cons y rest =>
   rw[hrow]at rl hK r1;have rl:s.len=rest.length+1:=rl;rw[Jd (show¬decide ((s.len:Int)=0)=true from dn (by omega))];have hpk:=Mk p;rw[hrow,YAL]at hpk;refine Jp (Jb (fs et1) (Jp (Jb (fs et1) ?_)));have hw1:Jr ((s.len:Int)-1)=(rest.length:Int):=w6 (by omega);have hw2:Jr ((s.len:Int)-2)=(rest.length:Int)-1:=w6 (by omega);rw[hw1]
   have hget:∀i,(hi:i<rest.length)→(((y::rest).reverse.map MJ))[i]? = some (MJ (rest[rest.length-1-i]'(by omega))):=fun i hi=>by
    rw[YAI,YAX,List.getElem?_append_left (by simp;omega),List.getElem?_reverse hi];rw[YAH (by omega)];rfl
   have hgl:(((y::rest).reverse.map MJ))[rest.length]? = some (MJ y):=by
    rw[YAI,YAX,List.getElem?_append_right (by simp)];simp
   refine Xx r1.seg (x:=MJ y) (by omega) (by rw[YAd];exact hgl) rfl fun l4 hl4 =>?_;refine Jb (jD hl4).2 ?_;refine Ji fun b2 h5 hb2 k5 e5 hs5 =>?_;have et5:=k5.g et1;refine⟨JN (by decide) (jD hl4).2 k5,fs et5,fs et5,?_⟩;refine JL e5 fun h6 k6 e6 hs6 =>?_;have n2:b2≠t:=by have:=Jl et1;omega
   have k16:Jc [] h1 h6:=k5.new k6 (by simp;omega);have et6:=k16.g et1;refine Jp (Jb (fs et6) ?_);rw[hw2];have zb2:h1.size≤b2:=by omega
   refine JF (fun(z:Int×Unit) (h7:Ja)=>∃(i:Nat) (acc:Qh),z.1=(rest.length:Int)-1-(i:Int)∧i≤rest.length∧Jc [] h1 h7∧h7[b2]? = some (Jg Jh (.ar 32 .u8) acc)∧Pe acc (rest.drop i)=Pe y.2 rest) (fun(z:Int×Unit) _=>(z.1+1).toNat) ?_ ?_
   ·exact⟨0,y.2,by simp,YAl _,k16,e6,rfl⟩
   rintro⟨(jj:Int),_⟩ h7 ⟨i,acc,ej,hi,k7,e7,hb⟩;dsimp only at ej ⊢;subst ej;have et7:=k7.g et1;by_cases hlt:i<rest.length
   ·rw[Jf (show decide ((rest.length:Int)-1-(i:Int)≥0)=true from dT (by omega))];refine Jp (Jb (fs et7) ?_);have hx:=hget (rest.length-1-i) (by omega);have hii:rest.length-1-(rest.length-1-i)=i:=by omega
    simp only[hii]at hx;refine Xx (r1.keep k7 (by simp)).seg (x:=MJ rest[i]) (by omega) (by rw[show((rest.length:Int)-1-(i:Int)).toNat=rest.length-1-i by omega];exact hx) rfl fun l7 hl7 =>?_;refine Jb (jD hl7).2 (Jb (Je e7) ?_);refine ZDD.s fun h8 k8 =>?_;refine JL (k8.g e7) fun h9 k9 e9 hs9 =>?_;have hw:Jr ((rest.length:Int)-1-(i:Int)-1)=(rest.length:Int)-1-((i+1:Nat):Int):=w6 (by omega);rw[hw];refine⟨⟨i+1,VW rest[i].2 acc,rfl,by omega,(k7.n k8).new k9 (by simp;omega),e9,?_⟩,by omega⟩;rw[←hb,List.drop_eq_getElem_cons hlt,CP]
   ·rw[Jd (show¬decide ((rest.length:Int)-1-(i:Int)≥0)=true from dn (by omega))];rw[List.drop_of_length_le (by omega)]at hb;have hb:acc=Pe y.2 rest:=hb;refine Jb (Je e7) ?_;refine JL (k7.g e1) fun h10 k10 e10 hs10=>Jb (Je e10) ?_;rw[hb];exact hK h10 ((k1.n k7).new k10 (by simp;omega))
def zB{h:Ja}{T sz:Nat}{k:Kd}{s:Jn}{xs:List k.Ty}{x:k.Ty}{K:Jn→Prop} (r:JR h T k s (xs++[x])) (hK:∀s',JR h T k s' xs→own s'=own s→K s'):R9 s 0 (xs.length:Int) (s.cap:Int) sz K:=by
 rcases r with⟨_,e⟩ | ⟨b,zs,e1,e2,e3,e4⟩
 ·simp at e
 rw[YAK,List.length_singleton]at e2 e3;refine xR (lo:=0) (hi:=xs.length) (mx:=s.cap) e1 (by omega) (by omega) (YAf _) fun l hl _ h0 =>?_;have:=h0 rfl;subst this;refine hK _ (.inr ⟨b,x::zs,rfl,by simp,by simp;omega,by rw[e4];simp⟩) ?_;unfold own;rw[e1]
def Eb:∀ {row:List (Nat×Qh)}{ls:List By},Io row ls→∀y∈row,y.1≤ls.length
 | [],ls,_,y,hy=>by simp at hy
 | z :: rest, ls, h, y, hy => by
   obtain⟨b,l1,l2,e1,e2,e3,_,_,e6⟩:=h;rw[e2,YAK];rcases List.mem_cons.1 hy with rfl | hy
   ·omega
   ·have:=Eb e6 y hy;omega
def xt{n:Nat}{r:Qh}{y:Nat×Qh}{rest:List (Nat×Qh)} (h:y.1=n):V5 n r (y::rest)=V5 (2*n) (VW y.2 r) rest:=by rw[V5,Jf h]
def xu{n:Nat}{r:Qh}{y:Nat×Qh}{rest:List (Nat×Qh)} (h:y.1≠n):V5 n r (y::rest)=(n,r)::y::rest:=by rw[V5,Jd h]
def ji{n:Nat}{r:Qh}:V5 n r []=[(n,r)]:=by rw[V5]
def ZBb.s{n0 t:Nat}{ls:List By}{s:By}{h:Ja}{K:Hp} (a:Uh n0 h t ls) (hs:s.length≤900000) (hl:ls.length≤1000000) (hn0:n0≤h.size) (hK:∀h',Jc [t] h h'→Uh n0 h' t (ls++[s])→K h'):ZBb.C (some ⟨t,0⟩) (bx s) h K:=by
 obtain⟨⟨sl,row,et,r,p,o⟩,l⟩:=a
 have pp:=PX (b:=0) (lx:=[s]) p rfl (fun y hy=>by
  cases row with
  | nil=>simp at hy
  | cons z rest =>
    have:∀ {row:List (Nat×Qh)} {ls:List By},Io row ls→∀y∈row,1≤y.1:=by
     intro row
     induction row with
     | nil=>intro ls _ y hy;simp at hy
     | cons z rest ih =>
       intro ls h y hy;obtain⟨b,l1,l2,e1,e2,e3,_,_,e6⟩:=h;rcases List.mem_cons.1 hy with rfl | hy
       ·rw[e1];exact YAh
       ·exact ih e6 y hy
    exact this p y hy)
 rw[R4,Nat.pow_zero]at pp;have hrl:=Mk p;have hle:=Eb p;apply ZBb.c;unfold ZBb.m;rw[Jd (by simp)];refine ZDi.s hs fun h1 k1 =>?_;generalize RQ s=lf at *;refine Jq fun b1 h3 hb1 k3 e3 hs3 =>?_;have e3:h3[b1]? = some (Jg Qu Sm (MJ (1,lf))):=e3;have k03:Jc [] h h3:=k1.n k3;have et3:=k03.g et;have fs:∀ {hh:Ja} {sl:Jn} {m:Int},hh[t]? = some (Jg Qj WH (sl,(m,())))→sm .sl ((Pl.mk t 0).fld 0) sl hh:=fun e=>Jv (n:=0) (k' := .sl) e rfl (by decide);refine Jp (Jb (fs et3) ?_);have r3:=r.keep k03 (by simp);have rlen:sl.len=row.length:=by rw[r.len];simp
 refine QI r3.seg (by rw[rlen];simp[Kd.size]) ?_;refine X8 (T:=Qu) (k:=Sm) (xs:=[]) (ys:=row.reverse.map MJ) (.inl ⟨rfl,rfl⟩) (by simp[rlen]) rfl (by simp only[YAO];omega) fun s4 h4 r4 k4 o4 =>?_;have k4:Jc [] h3 h4:=k4;have r4:JR h4 Qu Sm s4 (row.reverse.map MJ):=r4;have z1:=k1.1;have z3:=k3.1;have z4:=k4.1
 have own4:∀b∈own s4,h3.size≤b:=fun b hb=>by
  rcases XO o4 b hb with h | h
  ·simp[own]at h
  ·omega
 have zb1:h.size≤b1∧b1<h3.size:=by have:=Jl e3;omega
 have k04:Jc [] h h4:=k03.n k4;refine JF (fun(y:Jn×Unit) (h5:Ja)=>∃(n:Nat) (z:Qh) (row':List (Nat×Qh)),JR h5 Qu Sm y.1 (row'.reverse.map MJ)∧own y.1=own s4∧Jc [] h h5∧h4.size≤h5.size∧h5[b1]? = some (Jg Qu Sm (MJ (n,z)))∧V5 n z row'=V5 1 lf row∧(∀x∈row',x∈row)∧row'.length≤ls.length∧n≤4000000) (fun(y:Jn×Unit) _=>y.1.len) ?_ ?_
 ·exact⟨1,lf,row,r4,rfl,k04,YAf _,k4.g e3,rfl,fun x hx=>hx,hrl,by omega⟩
 rintro⟨(s5:Jn),_⟩ h5 ⟨n,z,row',r5,o5,k5,z5,e5,hp,hsub,hrl',hn⟩;dsimp only at r5 o5 ⊢;have et5:=k5.g et;have fb:∀ {hh:Ja} {n:Nat} {z:Qh},hh[b1]? = some (Jg Qu Sm (MJ (n,z)))→_:=fun e=>jD (Je e);have nb1:b1∉own s5:=by rw[o5];exact fun hm=>by have:=own4 b1 hm;omega
 have hlen5:s5.len=row'.length:=by rw[r5.len];simp
 have fin:∀hh,hh=h5→V5 n z row'=(n,z)::row'→ld Sm (Pl.mk b1 0) hh (fun x9=>bs Qu Sm [x9] hh fun s3 h9=>JB s3 (s3.len*33) h9 fun cs2=>ap Qu Sm 40 s5 s3.len cs2 h9 fun s4 h10=>Qa (some (Pl.mk t 0)) fun l4=>st .sl (l4.fld 0) s4 h10 fun h11=>Qa (some (Pl.mk t 0)) fun l5=>ld .i (l5.fld 1) h11 fun x10=>Qa (some (Pl.mk t 0)) fun l6=>st .i (l6.fld 1) (Jr (x10+1)) h11 fun h12=>K h12):=by
  rintro hh rfl hpu;refine Jb (Je e5) ?_;refine QN fun b6 h6 hb6 k6 r6 hs6 =>?_;refine QI r6.seg (by simp[Kd.size]) ?_;have r56:=r5.keep k6 (by simp);refine X8 (T:=Qu) (k:=Sm) (xs:=row'.reverse.map MJ) (ys:=[MJ (n,z)]) r56 rfl rfl (by simp;omega) fun s7 h7 r7 k7 o7 =>?_;have et7:=k7.get (k6.g et5) (QL r56 (k6.g et5) (by decide));have z6:=k6.1;have z7:=k7.1;have k07:Jc [] h h7:=(k5.n k6).new k7 (by rw[o5];intro q hq;have:=own4 q hq;omega);refine Jp ?_;refine Qm (k:=WH) (k' := .sl) (n:=0) (x':=((s7,((ls.length:Int),())):WH.Ty)) et7 (by decide) rfl ?_;have e8:=Jw (o':=Jg Qj WH ((s7,((ls.length:Int),())):WH.Ty)) et7;have k8:Jc [t] h7 (h7.setIfInBounds t (Jg Qj WH ((s7,((ls.length:Int),())):WH.Ty))):=Jo;generalize h7.setIfInBounds t (Jg Qj WH ((s7,((ls.length:Int),())):WH.Ty))=h8 at e8 k8 ⊢;refine Jp (Jb (Jv (n:=1) (k' := .i) (y:=(ls.length:Int)) e8 rfl (by decide)) (Jp ?_));have hw:Jr ((ls.length:Int)+1)=(((ls++[s]).length:Nat):Int):=by rw[JE (by omega) (by omega)];simp
  rw[hw];refine Qm (k:=WH) (k' := .i) (n:=1) (x':=((s7,((((ls++[s]).length:Nat):Int),())):WH.Ty)) e8 (by decide) rfl ?_;have e9:=Jw (o':=Jg Qj WH ((s7,((((ls++[s]).length:Nat):Int),())):WH.Ty)) e8;have k9:Jc [t] h8 (h8.setIfInBounds t (Jg Qj WH ((s7,((((ls++[s]).length:Nat):Int),())):WH.Ty))):=Jo;generalize h8.setIfInBounds t (Jg Qj WH ((s7,((((ls++[s]).length:Nat):Int),())):WH.Ty))=h9 at e9 k9 ⊢;have off:∀ {hh:Ja} {x:WH.Ty} {L:List Sm.Ty},JR hh Qu Sm s7 L→hh[t]? = some (Jg Qj WH x)→∀q∈own s7,q∉[t]:=fun r e q hq hm=>by simp at hm;subst hm;exact QL r e (by decide) hq
  have r8:=r7.keep k8 (off r7 et7);have r9:=r8.keep k9 (off r8 e8);have kk:Jc [t] h h9:=(k07.then k8 (by simp) (fun x hx _=>hx)).then k9 (fun x hx _=>hx) (fun x hx _=>hx);refine hK h9 kk ⟨⟨s7,(n,z)::row',e9,?_,?_,fun b hb =>?_⟩,l⟩
  ·rw[YAX,YAQ];exact r9
  ·rw[←hpu,hp];exact pp
  ·rcases XO o7 b hb with h | h
   ·rw[o5]at h;have:=own4 b h;omega
   ·omega
 cases row' with
 | nil =>
   refine JH (false,()) h5 ?_ ?_
   ·rw[Jd (show¬decide ((s5.len:Int)>0)=true from fun h=>by have:=of_decide_eq_true h;rw[hlen5]at this;simp at this)];exact⟨rfl,rfl⟩
   ·rw[Jd (by simp)];exact fin h5 rfl ji
 | cons y rest =>
   have hlen5:s5.len=rest.length+1:=hlen5;have hw1:Jr ((s5.len:Int)-1)=(rest.length:Int):=by rw[JE (by omega) (by simp at hrl';omega)];omega
   have hrv:(y::rest).reverse.map MJ=rest.reverse.map MJ++[MJ y]:=by rw[YAX,YAQ];rfl
   rw[hrv]at r5
   have hgl:(rest.reverse.map MJ++[MJ y])[((rest.length:Int)).toNat]? = some (MJ y):=by
    rw[YAd,List.getElem?_append_right (by simp)];simp
   have hyn:y.1≤1000000:=by have:=hle y (hsub y (by simp));omega
   rw[hw1];refine JH (decide (y.1=n),()) h5 ?_ ?_
   ·rw[Jf (show decide ((s5.len:Int)>0)=true from dT (by omega))];refine Xx r5.seg (x:=MJ y) (by omega) hgl rfl fun l2 hl2 =>?_;refine Jb (jD hl2).1 (Jb (fb e5).1 ?_);refine⟨?_,rfl⟩;have:decide ((y.1:Int)=(n:Int))=decide (y.1=n):=decide_eq_decide.2 (by omega);show(decide ((y.1:Int)=(n:Int)),())=_;rw[this]
   by_cases hyn':y.1=n
   ·rw[Jf (by simpa using hyn')];refine Jb (fb e5).1 ?_;refine Xx r5.seg (x:=MJ y) (by omega) hgl rfl fun l3 hl3 =>?_;refine Jb (jD hl3).2 (Jb (fb e5).2 ?_);refine ZDD.s fun h7 k7 =>?_;refine⟨(fb (k7.g e5)).1,?_⟩;have hw2:Jr (2*(n:Int))=((2*n:Nat):Int):=w6 (by omega);have e57:=k7.g e5;show st Sm (Pl.mk b1 0) (Jr (2*(n:Int)),(VW y.2 z,())) h7 _;rw[hw2];refine JL e57 fun h8 k8 e8 hs8 =>?_;have r57:=(r5.keep k7 (by simp)).keep k8 (fun q hq hm=>by simp at hm;subst hm;exact nb1 hq);have hrr:(rest.reverse.map MJ).length=rest.length:=by simp
    rw[←hrr];refine zB r57 fun s9 r9 o9 =>?_;rw[xt hyn']at hp;have z7:=k7.1;have z8:=k8.1;refine⟨⟨2*n,VW y.2 z,rest,r9,by rw[o9,o5],(k5.n k7).new k8 (by simp;omega),by omega,e8,hp,fun x hx=>hsub x (by simp[hx]),by simp at hrl';omega,by omega⟩,?_⟩;show s9.len<s5.len;rw[r9.len,hlen5,hrr];omega
   ·rw[Jd (by simpa using hyn')];rw[←hrv]at r5;exact fin h5 rfl (xu hyn')
abbrev Yf:Kd := .ag (.pr XU (.pr .sl .un))
abbrev Sb:Kd := .ag (.pr Yf (.pr .sl (.pr .sl (.pr .p .un))))
structure Cn where
 m:Mb
 pubs:List By
 begin:List Qh
 all:List X6
structure ZA (C:Cn):Prop where
 m:QU C.m=true
 p:(C.pubs.length:Int)=C.m.users
 p60:∀s∈C.pubs,s.length=60
 b:(C.begin.length:Int)=Qx C.m
 a:∀e∈C.all,JJ e=true∧(e.vec.length:Int)=C.m.users∧(e.tables.length:Int)=Qx C.m
 n:C.all.length≤256
structure YK (n0:Nat) (h:Ja) (c t:Nat) (mv:XU.Ty) (ps bs es:Jn) (J0:List JO.Ty) (C:Cn):Prop where
 e:h[c]? = some (Jg QA Sb (((mv,(ps,())),(bs,(es,(some ⟨t,0⟩,())))):Sb.Ty))
 lc:n0≤c
 m:Sc n0 h mv C.m
 p:JR h Jt .s ps (C.pubs.map bx)
 op:∀q∈own ps,n0≤q
 b:JR h Jh (.ar 32 .u8) bs C.begin
 ob:∀q∈own bs,n0≤q
 a:JR h Jk JO es J0
 oa:∀q∈own es,n0≤q
 x:Qq (fun v e=>VM h v e∧∀q∈Uc v,n0≤q) J0 C.all
 t:Uh n0 h t (C.all.map putE)
def wC(n0:Nat) (h:Ja) (ps es:Jn) (b:Nat):Prop:=
 b<n0∨(b∉own ps∧b∉own es∧∀T,T=QA∨T=XH∨T=Qp∨T=Jh∨T=Qu∨T=Qj→∀c f,h[b]? ≠ some (.cells c T f))
def JZ{n0 T:Nat}{h h':Ja}{k:Kd}{s:Jn}{xs:List k.Ty}{S:List Nat} (r:JR h T k s xs) (kk:Jc S h h') (o:∀q∈own s,n0≤q) (hS:∀b∈S,b<n0∨b∉own s∨∀c f,h[b]? ≠ some (.cells c T f)):JR h' T k s xs:=r.keep kk fun b hb hm=>by
 rcases hS b hm with h1 | h1 | h1
 ·have:=o b hb;omega
 ·exact h1 hb
 ·rcases r with⟨e,_⟩ | ⟨b',zs,e,_,_,e4⟩
  ·rw[e]at hb;simp[own]at hb
  ·have:b=b':=by unfold own at hb;rw[e]at hb;simpa using hb
   subst this;exact h1 _ _ e4
def YK.keep{n0 c t:Nat}{h h':Ja}{mv:XU.Ty}{ps bs es:Jn}{J0:List JO.Ty}{C:Cn}{S:List Nat} (i:YK n0 h c t mv ps bs es J0 C) (k:Jc S h h') (hS:∀b∈S,wC n0 h ps es b):YK n0 h' c t mv ps bs es J0 C:=by
 have tg:∀ {T:Nat},T=QA∨T=XH∨T=Qp∨T=Jh∨T=Qu∨T=Qj→∀b∈S,b<n0∨∀c f,h[b]? ≠ some (.cells c T f):=fun hT b hb=>by
  rcases hS b hb with h1 | h1
  ·exact .inl h1
  ·exact .inr (h1.2.2 _ hT)
 have tr:∀ {T:Nat} (s:Jn),T=QA∨T=XH∨T=Qp∨T=Jh∨T=Qu∨T=Qj→∀b∈S,b<n0∨b∉own s∨∀c f,h[b]? ≠ some (.cells c T f):=fun s hT b hb=>by
  rcases tg hT b hb with h1 | h1
  ·exact .inl h1
  ·exact .inr (.inr h1)
 refine⟨k.get i.e fun hm =>?_,i.lc,i.m.keep k fun b hb =>?_,JZ i.p k i.op fun b hb =>?_,i.op,JZ i.b k i.ob (tr _ (by simp)),i.ob,JZ i.a k i.oa fun b hb =>?_,i.oa,?_,i.t.keep k fun b hb =>?_⟩
 ·rcases tg (T:=QA) (by simp) c hm with h1 | h1
  ·have:=i.lc;omega
  ·exact h1 _ _ i.e
 ·rcases tg (T:=XH) (by simp) b hb with h1 | h1
  ·exact .inl h1
  ·rcases tg (T:=Qp) (by simp) b hb with h2 | h2
   ·exact .inl h2
   ·exact .inr fun c f=>⟨h1 c f,h2 c f⟩
 ·rcases hS b hb with h1 | h1
  ·exact .inl h1
  ·exact .inr (.inl h1.1)
 ·rcases hS b hb with h1 | h1
  ·exact .inl h1
  ·exact .inr (.inl h1.2.1)
 ·refine Qq.mono (fun v e x=>⟨⟨x.1.u,x.1.q,JZ x.1.w k (fun q hq=>x.2 q (by unfold Uc;simp[hq])) (tr _ (by simp)),x.1.r,JZ x.1.t k (fun q hq=>x.2 q (by unfold Uc;simp[hq])) (tr _ (by simp)),x.1.s⟩,x.2⟩) i.x
 ·rcases tg (T:=Qu) (by simp) b hb with h1 | h1
  ·exact .inl h1
  ·rcases tg (T:=Qj) (by simp) b hb with h2 | h2
   ·exact .inl h2
   ·exact .inr fun c f=>⟨h1 c f,h2 c f⟩
def YK.keep0{n0 c t:Nat}{h h':Ja}{mv:XU.Ty}{ps bs es:Jn}{J0:List JO.Ty}{C:Cn} (i:YK n0 h c t mv ps bs es J0 C) (k:Jc [] h h'):YK n0 h' c t mv ps bs es J0 C:=i.keep k (by simp)
section
variable {n0 c t:Nat}{h:Ja}{mv:XU.Ty}{ps bs es:Jn}{J0:List JO.Ty}{C:Cn}
def YK.fu(i:YK n0 h c t mv ps bs es J0 C):sm .i (((((Pl.mk c 0).fld 0).fld 0).fld 0)) mv.1 h:=Jv (n:=0) (k' := .i) i.e rfl (by decide)
def YK.fm(i:YK n0 h c t mv ps bs es J0 C):sm XU (((Pl.mk c 0).fld 0).fld 0) mv h:=JV (Je i.e) (by decide) rfl
def YK.fp(i:YK n0 h c t mv ps bs es J0 C):sm .sl (((Pl.mk c 0).fld 0).fld 2) ps h:=Jv (n:=2) (k' := .sl) i.e rfl (by decide)
def YK.fb(i:YK n0 h c t mv ps bs es J0 C):sm .sl ((Pl.mk c 0).fld 3) bs h:=Jv (n:=3) (k' := .sl) i.e rfl (by decide)
def YK.fa(i:YK n0 h c t mv ps bs es J0 C):sm .sl ((Pl.mk c 0).fld 4) es h:=Jv (n:=4) (k' := .sl) i.e rfl (by decide)
def YK.ft(i:YK n0 h c t mv ps bs es J0 C):sm .p ((Pl.mk c 0).fld 5) (some ⟨t,0⟩) h:=Jv (n:=5) (k' := .p) i.e rfl (by decide)
def YK.al(i:YK n0 h c t mv ps bs es J0 C):es.len=C.all.length:=by rw[i.a.len,i.x.len]
end
def Xm(C:Cn):List Int:=match C.all.getLast? with
 | none=>List.replicate C.m.users.toNat 0
 | some e=>e.vec
def Qi(C:Cn):List Qh:=match C.all.getLast? with
 | none=>C.begin
 | some e=>e.tables
def Q6(C:Cn) (u:Int):List Int:=(Xm C).set u.toNat ((Xm C).getD u.toNat 0+1)
def Wz(C:Cn) (e:X6):Bool:=(List.range (Qi C).length).all fun(p:Nat)=>Cc C.m e.user (p:Int)||decide (e.tables.getD p (Vector.replicate 32 0)=(Qi C).getD p (Vector.replicate 32 0))
def ZA.u{C:Cn} (o:ZA C):1≤C.m.users∧C.m.users≤16∧C.m.groups.length≤8:=by
 have:=o.m;unfold QU at this;simp only[YAm,Qg]at this;exact⟨this.1.1.1,this.1.1.2,this.1.2⟩
def GC{e:X6} (h:JJ e=true):e.vec.all XT=true∧1≤e.vec.length∧e.vec.length≤16∧e.tables.length≤24:=by
 unfold JJ QG XW at h;simp only[YAm,Qg]at h;obtain⟨⟨_,_,_,_,⟨h1,h2,h3⟩,h4,h5⟩,_⟩:=h;exact⟨h1,h2,h3,h5⟩
def ZA.v{C:Cn} (o:ZA C):((Xm C).length:Int)=C.m.users∧(∀x∈Xm C,0≤x∧x≤256)∧((Qi C).length:Int)=Qx C.m:=by
 obtain⟨u1,u2,u3⟩:=o.u;unfold Xm Qi
 cases hg:C.all.getLast? with
 | none =>
   refine⟨by rw[List.length_replicate];omega,fun x hx =>?_,o.b⟩;obtain⟨_,rfl⟩:=List.mem_replicate.1 hx;omega
 | some e =>
   obtain⟨h1,h2,h3⟩:=o.a e (List.mem_of_getLast? hg);refine⟨h2,fun x hx =>?_,h3⟩;have:=List.all_eq_true.1 (GC h1).1 x hx;unfold XT at this;simpa using this
section
variable {n0 c t:Nat}{h:Ja}{mv:XU.Ty}{ps bs es:Jn}{J0:List JO.Ty}{C:Cn}
def chain_last.s{K:Jn→Jn→Hp} (i:YK n0 h c t mv ps bs es J0 C) (o:ZA C) (hK:∀h' s1 s2,Jc [] h h'→Q5 .i s1 (Xm C) h'→Q5 (.ar 32 .u8) s2 (Qi C) h'→K s1 s2 h'):ZBv.C (some ⟨c,0⟩) h K:=by
 apply ZBv.c;unfold ZBv.m;obtain⟨u1,u2,u3⟩:=o.u;have al:=i.al;have on:=o.n;unfold Xm Qi at hK;refine Jp (Jb i.fa ?_);by_cases h0:C.all.length=0
 ·rw[Jf (show decide ((es.len:Int)=0)=true from dT (by omega))];have hnil:C.all=[]:=List.length_eq_zero_iff.1 h0;rw[hnil]at hK;have hu:mv.1=((C.m.users.toNat:Nat):Int):=i.m.1.trans (YAe (by omega)).symm;refine Jp (Jb i.fu (Jp (Jb i.fb ?_)));rw[hu];refine Up (by omega) (by omega) fun b h1 hb k1 r1 hs1 =>?_;exact⟨(i.keep0 k1).fb,hK h1 _ _ k1 r1.seg (i.b.seg.keep (by decide) k1)⟩
 ·rw[Jd (show¬decide ((es.len:Int)=0)=true from dn (by omega))];refine Jp (Jb i.fa (Jp (Jb i.fa ?_)));have hw:Jr ((es.len:Int)-1)=((C.all.length-1:Nat):Int):=w6 (by omega);rw[hw];have el:=i.x.len;have hx:=i.x.getI (i:=C.all.length-1) (by omega) (by omega)
  have hg:C.all.getLast? = some (C.all[C.all.length-1]'(by omega)):=by
   rw[List.getLast?_eq_getElem?,YAH (by omega)]
  rw[hg]at hK;refine Xx i.a.seg (x:=J0[C.all.length-1]'(by omega)) (by omega) (by rw[YAd];exact YAH (by omega)) rfl fun l hl =>?_;generalize J0[C.all.length-1]'(by omega)=v at *;generalize C.all[C.all.length-1]'(by omega)=e at *;have f2:sm .sl (l.fld 2) v.2.2.1 h:=JV hl (by decide) rfl;have l3:((Kd.ar 32 .u8).cells v.2.2.2.1).length=32:=Kd.cells_length ..
  have c35:(JO.cells v).drop 35=Kd.sl.cells v.2.2.2.2.1++(Kd.s.cells v.2.2.2.2.2.1++[]):=by
   have c3:(JO.cells v).drop 3=(Kd.ar 32 .u8).cells v.2.2.2.1++(Kd.sl.cells v.2.2.2.2.1++(Kd.s.cells v.2.2.2.2.2.1++[])):=rfl;have:(JO.cells v).drop 35=((JO.cells v).drop 3).drop 32:=by rw[List.drop_drop]
   rw[this,c3,YAD l3]
  have f35:sm .sl (l.fld 35) v.2.2.2.2.1 h:=JV hl (by decide) (by rw[c35];rfl);refine Jp (Jb f2 (Jp (Jb f35 ?_)));exact hK h _ _ Jc.rfl hx.1.w.seg hx.1.t.seg
def chain_next.s{u:Int}{K:Jn→Hp} (i:YK n0 h c t mv ps bs es J0 C) (o:ZA C) (hu:0≤u) (hu':u<C.m.users) (hK:∀h' s,Jc [] h h'→JR h' Qp .i s (Q6 C u)→(∀q∈own s,h.size≤q)→K s h'):ZCP.C (some ⟨c,0⟩) u h K:=by
 apply ZCP.c;unfold ZCP.m;obtain⟨u1,u2,u3⟩:=o.u;obtain⟨v1,v2,v3⟩:=o.v;refine chain_last.s i o fun h1 s1 s2 k1 g1 g2 =>?_;refine clone_int.s g1 (by omega) fun s3 h2 k2 r2 o2 =>?_;have z1:=k1.1;have z2:=k2.1;have hl:u.toNat<(Xm C).length:=by omega
 have hg:(Xm C)[u.toNat]? = some ((Xm C)[u.toNat]):=YAH hl;have hd:(Xm C).getD u.toNat 0=(Xm C)[u.toNat]:=by rw[YAG,hg];rfl
 unfold Q6 at hK;rw[hd]at hK;have hb:=v2 _ (YAJ hl);refine Ix r2 hu hg rfl ?_;rw[JE (by omega) (by omega)];refine U7 r2 hu (by omega) rfl fun h3 k3 r3 =>?_;exact hK h3 s3 ((k1.n k2).new k3 fun q hq=>by have:=o2 q hq;omega) r3 fun q hq=>by have:=o2 q hq;omega
def chain_tables.s{b:Nat}{v:JO.Ty}{e:X6}{K:Bool→Hp} (i:YK n0 h c t mv ps bs es J0 C) (o:ZA C) (eb:h[b]? = some (Jg Jk JO v)) (a:Ue h v e) (ht:(e.tables.length:Int)=Qx C.m) (hK:∀h',Jc [] h h'→K (Wz C e) h'):ZBr.C (some ⟨c,0⟩) (some ⟨b,0⟩) h K:=by
 apply ZBr.c;unfold ZBr.m;obtain⟨u1,u2,u3⟩:=o.u;obtain⟨v1,v2,v3⟩:=o.v;have hpr:Qx C.m≤24:=by unfold Qx;omega
 refine chain_last.s i o fun h1 s1 s2 k1 g1 g2 =>?_;have gl:=g2.len;unfold Wz at hK;have htl:e.tables.length=(Qi C).length:=by omega
 generalize Qi C=T at *;refine JF (fun(y:Int×Unit) (h2:Ja)=>∃n:Nat,y.1=n∧n≤T.length∧Jc [] h1 h2∧((List.range n).all fun(p:Nat)=>Cc C.m e.user (p:Int)||decide (e.tables.getD p (Vector.replicate 32 0)=T.getD p (Vector.replicate 32 0)))=true) (fun(y:Int×Unit) _=>T.length-y.1.toNat) ?_ ?_
 ·exact⟨0,rfl,YAl _,Jc.rfl,by simp⟩
 rintro⟨(jj:Int),_⟩ h2 ⟨n,en,hn,k2,hall⟩;dsimp only at en ⊢;subst en;have k02:Jc [] h h2:=k1.n k2;by_cases hlt:n<T.length
 ·rw[Jf (show decide ((n:Int)<(s2.len:Int))=true from dT (by omega))];have hw:Jr ((n:Int)+1)=((n+1:Nat):Int):=w6 (by omega);rw[hw];have d1:e.tables.getD n (Vector.replicate 32 0)=e.tables[n]'(by omega):=by rw[YAG,YAH (by omega)];rfl
  have d2:T.getD n (Vector.replicate 32 0)=T[n]:=by rw[YAG,YAH hlt];rfl
  refine Qd (fun _ h'=>Jc [] h1 h'∧(Cc C.m e.user (n:Int)||decide (e.tables.getD n (Vector.replicate 32 0)=T.getD n (Vector.replicate 32 0)))=true) ?_ ?_
  ·refine Qd (fun y h'=>Jc [] h1 h'∧y=(!(Cc C.m e.user (n:Int)||decide (e.tables.getD n (Vector.replicate 32 0)=T.getD n (Vector.replicate 32 0))),())) ?_ ?_
   ·refine Jp (Jb (i.keep0 k02).fm (Jp (Jb (ZH (k02.g eb)).1 ?_)));rw[a.u];refine ZDf.s (i.keep0 k02).m.at o.m fun h5 k5 =>?_;have k15:Jc [] h1 h5:=k2.n k5;have k05:Jc [] h h5:=k1.n k15
    cases hm:Cc C.m e.user (n:Int) with
    | true=>rw[Jd (by simp)];exact⟨k15,rfl⟩
    | false =>
      rw[Jf (by rfl)];refine Jp (Jb (ZH (k05.g eb)).2.2.2.2.1 ?_);refine JK (a.keep k05).t (x:=e.tables[n]'(by omega)) (by omega) (by rw[YAd];exact YAH (by omega)) rfl ?_;refine JK (g2.keep (by decide) k15) (x:=T[n]) (by omega) (by rw[YAd];exact YAH hlt) rfl ?_;refine⟨k15,?_⟩;rw[d1,d2,Bool.false_or]
      have:Kd.beq (.ar 32 .u8) (e.tables[n]'(by omega)) T[n]=decide ((e.tables[n]'(by omega))=T[n]):=by
       have hb:=WU (k := .ar 32 .u8) rfl (x:=e.tables[n]'(by omega)) (y:=T[n]);by_cases hx:e.tables[n]'(by omega)=T[n]
       ·rw[dT hx];exact hb.2 hx
       ·rw[dF hx]
        cases hc:Kd.beq (.ar 32 .u8) (e.tables[n]'(by omega)) T[n] with
        | true=>exact absurd (hb.1 hc) hx
        | false=>rfl
      rw[this]
   ·rintro _ h4 ⟨k4,rfl⟩
    cases hb:(Cc C.m e.user (n:Int)||decide (e.tables.getD n (Vector.replicate 32 0)=T.getD n (Vector.replicate 32 0))) with
    | true=>rw[Jd (by simp)];exact⟨k4,rfl⟩
    | false =>
      rw[Jf (by rfl)];have:=hK h4 (k1.n k4)
      have hf:((List.range T.length).all fun(p:Nat)=>Cc C.m e.user (p:Int)||decide (e.tables.getD p (Vector.replicate 32 0)=T.getD p (Vector.replicate 32 0)))=false:=by
       rw[List.all_eq_false];exact⟨n,List.mem_range.2 hlt,by rw[hb];simp⟩
      rw[hf]at this;exact this
  ·rintro _ h3 ⟨k3,hb⟩;refine⟨⟨n+1,rfl,by omega,k3,?_⟩,by simp;omega⟩;rw[YAV,List.all_append,hall];simpa using hb
 ·rw[Jd (show¬decide ((n:Int)<(s2.len:Int))=true from dn (by omega))];obtain rfl:n=T.length:=by omega
  have:=hK h2 k02;rw[hall]at this;exact this
end
def PB(C:Cn) (e:X6):Bool:=JJ e&&(decide ((e.vec.length:Int)=C.m.users)&&(decide ((e.tables.length:Int)=Qx C.m)&&decide (C.all.length<256)))
def Vj(C:Cn) (e:X6):Int:=
 if PB C e=true then
  if e.seq=(C.all.length:Int)+1 then
   if e.user<C.m.users then
    if e.vec=Q6 C e.user then
     if e.root=XD (C.all.map putE) then
      if Wz C e=true then
       if Eu e (C.pubs.getD e.user.toNat [])=0 then 0 else 2006
      else 2005
     else 2004
    else 2003
   else 2002
  else 2001
 else 2000
def xy{e:X6} (h:JJ e=true):0≤e.user∧e.user<16:=by
 unfold JJ QG at h;simp only[YAm,Qg]at h;exact⟨h.1.1,h.1.2.1⟩
section
variable {n0 c t:Nat}{h:Ja}{mv:XU.Ty}{ps bs es:Jn}{J0:List JO.Ty}{C:Cn}
def chain_Check.s{v:JO.Ty}{e:X6}{K:Int→Hp} (i:YK n0 h c t mv ps bs es J0 C) (o:ZA C) (a:Ue h v e) (hl:e.vec.length≤9223372036854775806) (hK:∀h',Jc [] h h'→K (Vj C e) h'):ZCA.C (some ⟨c,0⟩) v h K:=by
 apply ZCA.c;unfold ZCA.m;have on:=o.n;obtain⟨u1,u2,u3⟩:=o.u;have al:=i.al;unfold Vj at hK;refine Ji fun b1 h1 hb1 k1 e1 hs1 =>?_;have e1:h1[b1]? = some (Jg Jk JO v):=e1;rw[Jd (by simp)];refine Jb (Je e1) ?_;refine ZB8.s (a.keep k1) hl fun h2 k2 =>?_;have k12:Jc [] h1 h2:=k2;have wl:v.2.2.1.len=e.vec.length:=a.w.len;have tl:v.2.2.2.2.1.len=e.tables.length:=a.t.len;have hmu:mv.1=C.m.users:=i.m.1
 refine Qd (fun _ h'=>Jc [] h1 h'∧(if PB C e=true then
  if e.seq=(C.all.length:Int)+1 then
   if e.user<C.m.users then
    if e.vec=Q6 C e.user then
     if e.root=XD (C.all.map putE) then
      if Wz C e=true then
       if Eu e (C.pubs.getD e.user.toNat [])=0 then(0:Int) else 2006
      else 2005
     else 2004
    else 2003
   else 2002
  else 2001
 else 2000)=0) ?_ (fun _ h3 ⟨k3,h0⟩=>by
  have:=hK h3 (k1.n k3);rw[h0]at this;exact this)
 refine Qd (fun y h'=>Jc [] h1 h'∧y=(!PB C e,())) ?_ ?_
 ·unfold PB
  cases hp:JJ e with
  | false=>rw[Jf (show(!decide ((if false=true then(0:Int) else 1900)=0))=true from rfl)];exact⟨k2,rfl⟩
  | true =>
    rw[Jd (show¬(!decide ((if true=true then(0:Int) else 1900)=0))=true by decide),YAo];have i2:=i.keep0 (k1.n k2);have e2:=k2.g e1;refine Jb (ZH e2).2.2.1 (Jp (Jb i2.fu ?_));rw[wl,hmu];by_cases hv:(e.vec.length:Int)=C.m.users
    ·rw[Jd (by simp[hv]),dT hv,YAo];refine Jb (ZH e2).2.2.2.2.1 (Jp (Jb i2.fm ?_));refine ZAX.s i2.m.at o.m fun h5 k5 =>?_;have i5:=i2.keep0 k5;refine⟨(ZH (k5.g e2)).2.2.2.2.1,?_⟩;rw[tl];by_cases ht:(e.tables.length:Int)=Qx C.m
     ·rw[Jd (by simp[ht]),dT ht,YAo];refine Jp (Jb i5.fa ?_);refine⟨k2.n k5,?_⟩;rw[al]
      have:decide ((C.all.length:Int)≥256) = !decide (C.all.length<256):=by
       by_cases hc:C.all.length<256
       ·rw[dT hc,dF (by omega)];rfl
       ·rw[dF hc,dT (by omega)];rfl
      rw[this]
     ·rw[Jf (by simpa using ht),dF ht];exact⟨k2.n k5,rfl⟩
    ·rw[Jf (by simpa using hv),dF hv];exact⟨k2,rfl⟩
 rintro _ h4 ⟨k4,rfl⟩;have i4:=i.keep0 (k1.n k4);have e4:=k4.g e1;have a4:=a.keep (k1.n k4);rcases Decidable.em (¬(PB C e=true)) with c0 | c0
 ·rw[Jd c0]at hK;replace c0:PB C e=false:=by simpa using c0
  rw[c0,Jf (by rfl)];exact hK h4 (k1.n k4)
 replace c0:=Decidable.not_not.1 c0;rw[c0,Jd (by simp)];rw[Jf c0]at hK;rw[Jf rfl];unfold PB at c0;simp only[YAm,Qg]at c0;obtain⟨hp,hv,ht,hn⟩:=c0;obtain⟨hu0,hu16⟩:=xy hp;refine Jb (ZH e4).2.1 (Jp (Jb i4.fa ?_));have hws:Jr ((es.len:Int)+1)=(C.all.length:Int)+1:=w6 (by omega);rw[a.q,hws];rcases Decidable.em (¬(e.seq=(C.all.length:Int)+1)) with c1 | c1
 ·rw[Jd c1]at hK;rw[Jf (by simpa using c1)];exact hK h4 (k1.n k4)
 replace c1:=Decidable.not_not.1 c1;rw[Jd (by simp[c1])];rw[Jf c1]at hK;rw[Jf c1];refine Jb (ZH e4).1 (Jp (Jb i4.fu ?_));rw[a.u,hmu];rcases Decidable.em (¬(e.user<C.m.users)) with c2 | c2
 ·rw[Jd c2]at hK;rw[Jf (show decide (e.user≥C.m.users)=true from dT (by omega))];exact hK h4 (k1.n k4)
 replace c2:=Decidable.not_not.1 c2;rw[Jd (show¬decide (e.user≥C.m.users)=true from dn (by omega))];rw[Jf c2]at hK;rw[Jf c2];refine Jb (ZH e4).2.2.1 (Jb (ZH e4).1 ?_);rw[a.u];refine chain_next.s i4 o hu0 c2 fun h6 s6 k6 r6 o6 =>?_;refine⟨(ZH (k6.g e4)).2.2.1,?_⟩;have k16:Jc [] h1 h6:=k4.n k6;refine equal_int.s (a4.keep k6).w r6.seg (by omega) ?_;rcases Decidable.em (¬(e.vec=Q6 C e.user)) with c3 | c3
 ·rw[Jd c3]at hK;rw[dF c3,Jf (by rfl)];exact hK h6 (k1.n k16)
 replace c3:=Decidable.not_not.1 c3;rw[dT c3,Jd (by simp)];rw[Jf c3]at hK;rw[Jf c3];have e6:=k16.g e1;have i6:=i.keep0 (k1.n k16);refine Jb (ZH e6).2.2.2.1 (Jp (Jb i6.ft ?_));refine ZA2.s i6.t (by rw[YAN];omega) fun h8 k8 =>?_;have k18:Jc [] h1 h8:=k16.n k8;have e8:=k18.g e1;refine⟨(ZH e8).2.2.2.1,?_⟩;rw[a.r];generalize hR:XD (C.all.map putE)=R at *
 have hbq:Kd.beq (.ar 32 .u8) e.root R=decide (e.root=R):=by
  have hb:=WU (k := .ar 32 .u8) rfl (x:=e.root) (y:=R);by_cases hx:e.root=R
  ·rw[dT hx];exact hb.2 hx
  ·rw[dF hx]
   cases hc:Kd.beq (.ar 32 .u8) e.root R with
   | true=>exact absurd (hb.1 hc) hx
   | false=>rfl
 rw[hbq];rcases Decidable.em (¬(e.root=R)) with c4 | c4
 ·rw[Jd c4]at hK;rw[dF c4,Jf (by rfl)];exact hK h8 (k1.n k18)
 replace c4:=Decidable.not_not.1 c4;rw[dT c4,Jd (by simp)];rw[Jf c4]at hK;rw[Jf c4];have i8:=i.keep0 (k1.n k18);refine chain_tables.s i8 o e8 (a.keep (k1.n k18)) ht fun h9 k9 =>?_;have k19:Jc [] h1 h9:=k18.n k9;rcases Decidable.em (¬(Wz C e=true)) with c5 | c5
 ·rw[Jd c5]at hK;replace c5:Wz C e=false:=by simpa using c5
  rw[c5,Jf (by rfl)];exact hK h9 (k1.n k19)
 replace c5:=Decidable.not_not.1 c5;rw[c5,Jd (by simp)];rw[Jf c5]at hK;rw[Jf rfl];have e9:=k19.g e1;have i9:=i.keep0 (k1.n k19);refine Jb (Je e9) (Jp (Jb i9.fp (Jb (ZH e9).1 ?_)));rw[a.u];have hpl:e.user.toNat<C.pubs.length:=by have:=o.p;omega
 have hpg:C.pubs.getD e.user.toNat []=C.pubs[e.user.toNat]:=by rw[YAG,YAH hpl];rfl
 rw[hpg]at hK;rw[hpg];refine JK i9.p.seg (x:=bx C.pubs[e.user.toNat]) hu0 (by rw[YAI,YAH hpl];rfl) rfl ?_;refine ZCu.s (a.keep (k1.n k19)) hl fun h10 k10 =>?_;have k110:Jc [] h1 h10:=k19.n k10;generalize Eu e C.pubs[e.user.toNat]=w at *;by_cases c6:w=0
 ·rw[Jd (by simp[c6])];exact⟨k110,Jf c6⟩
 ·rw[Jf (by simpa using c6)];rw[Jd c6]at hK;exact hK h10 (k1.n k110)
end
def EL{C:Cn}{e:X6} (o:ZA C) (h:Vj C e=0):ZA { C with all:=C.all++[e] }∧JJ e=true∧C.all.length<256:=by
 unfold Vj at h;by_cases c0:PB C e=true
 ·unfold PB at c0;simp only[YAm,Qg]at c0;obtain⟨hp,hv,ht,hn⟩:=c0;refine⟨⟨o.m,o.p,o.p60,o.b,fun x hx =>?_,by simp;omega⟩,hp,hn⟩;rcases List.mem_append.1 hx with hx | hx
  ·exact o.a x hx
  ·simp only[List.mem_singleton]at hx;subst hx;exact⟨hp,hv,ht⟩
 ·rw[Jd c0]at h;simp at h
section
variable {n0 c t:Nat}{h:Ja}{mv:XU.Ty}{ps bs es:Jn}{J0:List JO.Ty}{C:Cn}
def YK.rest{h':Ja}{S:List Nat} (i:YK n0 h c t mv ps bs es J0 C) (k:Jc S h h') (hS:∀b∈S,b∉own ps∧∀T,T=XH∨T=Qp∨T=Jh→∀c f,h[b]? ≠ some (.cells c T f)) :
 Sc n0 h' mv C.m∧JR h' Jt .s ps (C.pubs.map bx)∧JR h' Jh (.ar 32 .u8) bs C.begin∧Qq (fun v e=>VM h' v e∧∀q∈Uc v,n0≤q) J0 C.all:=by
 have tr:∀ {T:Nat} (s:Jn),T=XH∨T=Qp∨T=Jh→∀b∈S,b<n0∨b∉own s∨∀c f,h[b]? ≠ some (.cells c T f):=fun s hT b hb => .inr (.inr ((hS b hb).2 _ hT));refine⟨i.m.keep k fun b hb => .inr fun c f=>⟨(hS b hb).2 _ (by simp) c f,(hS b hb).2 _ (by simp) c f⟩,JZ i.p k i.op fun b hb => .inr (.inl (hS b hb).1),JZ i.b k i.ob (tr _ (by simp)),?_⟩;exact Qq.mono (fun v e x=>⟨⟨x.1.u,x.1.q,JZ x.1.w k (fun q hq=>x.2 q (by unfold Uc;simp[hq])) (tr _ (by simp)),x.1.r,JZ x.1.t k (fun q hq=>x.2 q (by unfold Uc;simp[hq])) (tr _ (by simp)),x.1.s⟩,x.2⟩) i.x
def QR{b T:Nat}{o:Obj}{T':Nat}{c':Array Value}{f':Nat×Nat} (e:h[b]? = some (.cells c' T' f')) (hT:T≠T'):∀c f,h[b]? ≠ some (.cells c T f):=fun c f e'=>by
 have:=Option.some.inj (e.symm.trans e')
 injection this with _ h2 _
 exact hT h2.symm
def chain_Add.s{v:JO.Ty}{e:X6}{K:Int→Hp} (i:YK n0 h c t mv ps bs es J0 C) (o:ZA C) (a:Ue h v e) (hl:e.vec.length≤9223372036854775806)
 (hbad:Vj C e≠0→∀h',Jc [] h h'→K (Vj C e) h')
 (hok:Vj C e=0→∀h' es' evs',Jc ([c,t]++own es) h h'→YK n0 h' c t mv ps bs es' evs' { C with all:=C.all++[e] }→(∀q∈own es',q∈own es∨h.size≤q)→K 0 h'):ZCp.C (some ⟨c,0⟩) v h K:=by
 apply ZCp.c;unfold ZCp.m;have lc:=Jl i.e;have hn0:n0≤h.size:=by have:=i.lc;omega
 refine Ji fun b1 h1 hb1 k1 e1 hs1 =>?_;have e1:h1[b1]? = some (Jg Jk JO v):=e1;refine Jb (Je e1) ?_;refine chain_Check.s (i.keep0 k1) o (a.keep k1) hl fun h2 k2 =>?_;have k02:Jc [] h h2:=k1.n k2;by_cases hc:Vj C e=0
 case neg=>
  rw[Jf (by simpa using hc)];exact hbad hc h2 k02
 replace hok:=hok hc;obtain⟨_,hp,hn⟩:=EL o hc;rw[hc,Jd (by simp)];have e2:=k2.g e1;have a2:=a.keep k02;have i2:=i.keep0 k02;obtain⟨_,_,pv,pt⟩:=GC hp;refine Jb (Je e2) ?_;refine ZB8.s a2 hl fun h3 k3 =>?_;rw[hp,Jf rfl];have k03:Jc [] h h3:=k02.n k3;have i3:=i.keep0 k03;refine Jp (Jb i3.fa (Jb (Je (k3.g e2)) ?_));refine ZCI.s (a.keep k03) (by omega) (by omega) fun v' h4 k4 r4 o4 =>?_;have k04:Jc [] h h4:=k03.n k4;refine⟨(i.keep0 k04).fa,?_⟩;refine QN fun b5 h5 hb5 k5 r5 hs5 =>?_;have k05:Jc [] h h5:=k04.n k5;have i5:=i.keep0 k05;refine⟨i5.fa,?_⟩;refine QI r5.seg (by simp[Kd.size]) ?_;have el:=i.x.len;refine X8 (T:=Jk) (k:=JO) (ys:=[v']) i5.a rfl rfl (by simp;omega) fun es' h6 r6 k6 o6 =>?_;have z3:=k03.1;have z4:=k4.1;have z5:=k05.1;have z6:=k6.1;have lt5:∀q∈own es,q<h.size:=i.a.lt;have tn:∃x,h5[t]? = some (Jg Qj WH x):=by obtain⟨⟨s,row,e,_⟩,_⟩:=i5.t;exact⟨_,e⟩
 obtain⟨tx,et5⟩:=tn;have nct:c≠t:=YT i5.e et5 (by decide);have nce:c∉own es:=QL i5.a i5.e (by decide);have nte:t∉own es:=QL i5.a et5 (by decide)
 have ltt:t<h.size:=by
  obtain⟨⟨s,row,e,_⟩,_⟩:=i.t;exact Jl e
 have e6:=k6.get i5.e nce;have et6:=k6.get et5 nte;refine Jp ?_;refine Qm (k:=Sb) (k' := .sl) (n:=4) (x':=(((mv,(ps,())),(bs,(es',(some ⟨t,0⟩,())))):Sb.Ty)) e6 (by decide) rfl ?_;have e7:=Jw (o':=Jg QA Sb (((mv,(ps,())),(bs,(es',(some ⟨t,0⟩,())))):Sb.Ty)) e6;have k7:Jc [c] h6 (h6.setIfInBounds c (Jg QA Sb (((mv,(ps,())),(bs,(es',(some ⟨t,0⟩,())))):Sb.Ty))):=Jo;generalize h6.setIfInBounds c (Jg QA Sb (((mv,(ps,())),(bs,(es',(some ⟨t,0⟩,())))):Sb.Ty))=h7 at e7 k7 ⊢;refine Jp (Jb (Jv (n:=5) (k' := .p) (y:=some ⟨t,0⟩) e7 rfl (by decide)) ?_);have k57:Jc (c::own es) h5 h7:=k6.then k7 (fun x hx _=>by simp[hx]) (fun x hx _=>by simp at hx;simp[hx])
 have t7:Uh n0 h7 t (C.all.map putE):=i5.t.keep k57 fun b hb => .inr fun cc f=>by
  rcases List.mem_cons.1 hb with rfl | hb
  ·exact⟨QR (o:=Jg QA Sb (((mv,(ps,())),(bs,(es,(some ⟨t,0⟩,())))):Sb.Ty)) i5.e (by decide) cc f,QR (o:=Jg QA Sb (((mv,(ps,())),(bs,(es,(some ⟨t,0⟩,())))):Sb.Ty)) i5.e (by decide) cc f⟩
  ·exact⟨fun e'=>QL i5.a e' (by decide) hb,fun e'=>QL i5.a e' (by decide) hb⟩
 have hpl:(putE e).length≤20000:=by
  have hb:=VR (e:=e) (by unfold JJ at hp;simp only[YAm]at hp;exact hp.1);unfold JJ at hp;simp only[YAm,Qg]at hp;unfold putE;simp only[YAK,Jj];omega
 refine ZBb.s t7 (by omega) (by rw[YAN];omega) (by have:=k57.1;omega) fun h8 k8 t8 =>?_;have k58:Jc ([c,t]++own es) h5 h8:=k57.then k8 (fun x hx _=>by simp at hx ⊢;rcases hx with h | h <;> simp[h]) (fun x hx _=>by simp at hx;simp[hx])
 obtain⟨m8,p8,b8,x8⟩:=i5.rest k58 fun b hb=>by
  simp only[List.cons_append,YAT,YAS]at hb;rcases hb with rfl | rfl | hb
  ·exact⟨QL i5.p i5.e (by decide),fun T hT=>QR (o:=Jg QA Sb (((mv,(ps,())),(bs,(es,(some ⟨t,0⟩,())))):Sb.Ty)) i5.e (by rcases hT with rfl | rfl | rfl <;> decide)⟩
  ·exact⟨QL i5.p et5 (by decide),fun T hT=>QR (o:=Jg Qj WH tx) et5 (by rcases hT with rfl | rfl | rfl <;> decide)⟩
  ·exact⟨DD i5.a i5.p (by decide) b hb,fun T hT cc f e'=>QL i5.a e' (by rcases hT with rfl | rfl | rfl <;> decide) hb⟩
 have nce':c∉own es':=QL r6 e6 (by decide);have nte':t∉own es':=QL r6 et6 (by decide);have r8:=(r6.keep k7 (fun q hq hm=>by simp at hm;subst hm;exact nce' hq)).keep k8 (fun q hq hm=>by simp at hm;subst hm;exact nte' hq)
 have fo:∀q∈own es',q∈own es∨h.size≤q:=fun q hq=>by
  rcases XO o6 q hq with h | h
  ·exact .inl h
  ·right;omega
 refine hok h8 es' (J0++[v']) (k05.then k58 (by simp) (fun x hx _=>hx)) ⟨k8.get e7 (by simpa using nct),i.lc,m8,p8,i.op,b8,i.ob,r8,fun q hq =>?_,?_,?_⟩ fo
 ·rcases fo q hq with h | h
  ·exact i.oa q h
  ·omega
 ·refine Qq.app x8 ⟨⟨(r4.keep k5 (by simp)).keep k58 fun q hq hm =>?_,fun q hq =>?_⟩,trivial⟩
  ·have:=o4 q hq;simp only[List.cons_append,YAT,YAS]at hm;rcases hm with rfl | rfl | hm
   ·omega
   ·omega
   ·have:=lt5 q hm;omega
  ·have:=o4 q hq;omega
 ·rw[YAQ];exact t8
end
def Ws(m:YV):By:=if Q3 m=true then JQ m else []
def WC{α : Type} (mk:List α → YV):List α → List α → List α
 | acc,[]=>acc
 | acc,x::r=>if Q3 (mk (acc++[x]))=true then WC mk (acc++[x]) r else acc
def qw(os:List Ba) (d:Ba):Bool:=(Qw os (Jy d)).isSome
def putO(os:List Ba) (d:Ba):List Ba:=if 4096<d.size then os else if qw os d=true then os else if 1024≤os.length then os else os++[d]
def ZJ(os:List Ba) (acc:List YI) (d:Ba):List YI:=if qw os d=true then acc else Xt acc (Jy d)
def Iu(os l:List Ba):Bool:=l.all (fun d=>decide (d.size≤4096))&&decide ((l.foldl (ZJ os) []).length+os.length≤1024)
structure Vh where
 C:Cn
 os:List Ba
 holder:Int
 left:Int
def VI(v:Vh) (k u:Int):YV:=⟨k,u,(v.C.all.length:Int),[],[],[]⟩
def qk(v:Vh) (u:Int) (es:List X6):YV:=⟨1,u,(v.C.all.length:Int),es,[],[]⟩
def wk(u:Int) (os:List By):YV:=⟨3,u,0,[],[],os⟩
def I4(v:Vh) (m:YV):By×Vh:=if 0≤v.holder∧v.holder≠m.user then(Ws (VI v 6 m.user),v) else(Ws (qk v m.user (WC (qk v m.user) [] (v.C.all.drop m.frm.toNat))),{ v with holder:=m.user,left:=10 })
def PA(os:List Ba) (z:Qh):By:=match Qw os z with | some d=>d.data.toList | none=>[]
def yj(v:Vh) (m:YV):By:=if 64<m.wants.length then [] else Ws (wk m.user (WC (wk m.user) [] (m.wants.map (PA v.os))))
def ZU(v:Vh) (m:YV):Bool:=match m.ents with
 | [e]=>decide (e.user=m.user)&&(Iu v.os (m.objs.map bx)&&decide (Vj v.C e=0))
 | _=>false
def addV(v:Vh) (m:YV):Vh:={ v with C:={ v.C with all:=v.C.all++m.ents },os:=(m.objs.map bx).foldl putO v.os,holder := -1 }
def Rj(v:Vh) (m:YV):By×Vh:=if v.holder≠m.user then(Ws (VI v 6 m.user),v) else if ZU v m=true then(Ws (VI (addV v m) 5 m.user),addV v m) else(Ws (VI v 6 m.user),{ v with holder := -1 })
def Y2(v:Vh) (s:By):By×Vh:=match W3 s with
 | none=>([],v)
 | some m=>if v.C.m.users≤m.user then([],v) else if m.kind=0 then I4 v m else if m.kind=2 then(yj v m,v) else if m.kind=4 then Rj v m else([],v)
def IO(v:Vh) (n:Int):Int×Vh:=if n<0∨1000<n then(2300,v) else if v.left-n≤0 then(0,{ v with holder := -1,left:=0 }) else(0,{ v with left:=v.left-n })
structure Wf (v:Vh):Prop where
 c:ZA v.C
 o:v.os.length≤1024
 z:∀d∈v.os,d.size≤65536
 h : -1≤v.holder
 l : -1000≤v.left∧v.left≤10
 t:0≤v.holder→1≤v.left
def gZ{P:Prop}:(0:Int) ≤ -1→P:=fun h=>absurd h (by decide)
def zj{os:List Ba}{d:Ba} (h1:os.length≤1024) (h2:∀d∈os,d.size≤65536):(putO os d).length≤1024∧∀x∈putO os d,x.size≤65536:=by
 unfold putO;split
 ·exact⟨h1,h2⟩
 split
 ·exact⟨h1,h2⟩
 split
 ·exact⟨h1,h2⟩
 ·refine⟨by simp;omega,fun x hx =>?_⟩;rcases List.mem_append.1 hx with h | h
  ·exact h2 x h
  ·simp at h;subst h;omega
def P0:∀ {l os:List Ba},os.length≤1024→(∀d∈os,d.size≤65536)→(l.foldl putO os).length≤1024∧∀x∈l.foldl putO os,x.size≤65536
 | [],os,h1,h2=>⟨h1,h2⟩
 | d :: r, os, h1, h2 => by
   have:=zj (d:=d) h1 h2;exact P0 (l:=r) (os:=putO os d) this.1 this.2
def CJ{v:Vh}{m:YV} (h:ZU v m=true):∃e,m.ents=[e]∧e.user=m.user∧Iu v.os (m.objs.map bx)=true∧Vj v.C e=0:=by
 unfold ZU at h;split at h
 ·rename_i e he
  simp only[YAm,Qg]at h;exact⟨e,he,h.1,h.2.1,h.2.2⟩
 ·cases h
def Es{v:Vh}{s:By} (o:Wf v):Wf (Y2 v s).2∧(Y2 v s).2.C.m=v.C.m∧(Y2 v s).2.C.pubs=v.C.pubs∧(Y2 v s).2.C.all.length≤v.C.all.length+1:=by
 unfold Y2
 cases hg:W3 s with
 | none=>exact⟨o,rfl,rfl,YAg _⟩
 | some m =>
   dsimp only;have hu:=(Gx hg).1;unfold Q3 YB at hu;simp only[YAm,Qg]at hu;have u0:=hu.1.2.2.1;split
   ·exact⟨o,rfl,rfl,YAg _⟩
   split
   ·unfold I4;split
    ·exact⟨o,rfl,rfl,YAg _⟩
    ·exact⟨⟨o.c,o.o,o.z,by show -1≤m.user;omega,by show -1000≤(10:Int)∧(10:Int)≤10;decide,fun _=>by show(1:Int)≤10;decide⟩,rfl,rfl,YAg _⟩
   split
   ·exact⟨o,rfl,rfl,YAg _⟩
   split
   ·unfold Rj;split
    ·exact⟨o,rfl,rfl,YAg _⟩
    split
    ·rename_i ha
     obtain⟨e,he,_,_,hc⟩:=CJ ha;have:=EL o.c hc;have hp:=P0 (l:=m.objs.map bx) o.o o.z;refine⟨⟨?_,hp.1,hp.2,by show(-1:Int) ≤ -1;decide,o.l,gZ⟩,rfl,rfl,?_⟩
     ·show ZA { v.C with all:=v.C.all++m.ents };rw[he];exact this.1
     ·show(v.C.all++m.ents).length≤_;rw[he];simp
    ·exact⟨⟨o.c,o.o,o.z,by show(-1:Int) ≤ -1;decide,o.l,gZ⟩,rfl,rfl,YAg _⟩
   ·exact⟨o,rfl,rfl,YAg _⟩
def xY{v:Vh}{n:Int} (o:Wf v):Wf (IO v n).2∧(IO v n).2.C=v.C:=by
 have ol:=o.l;unfold IO;split
 ·exact⟨o,rfl⟩
 split
 ·exact⟨⟨o.c,o.o,o.z,by show(-1:Int) ≤ -1;decide,by show -1000≤(0:Int)∧(0:Int)≤10;decide,gZ⟩,rfl⟩
 ·exact⟨⟨o.c,o.o,o.z,o.h,by show -1000≤v.left-n∧v.left-n≤10;omega,fun _=>by show 1≤v.left-n;omega⟩,rfl⟩
def ZAB.g{h:Ja}{w n:Nat}{x:Int}{s:Jn}{bs:By}{K:Int→Hp} (i:MQ h w s bs) (hn:n=1∨n=2∨n=4) (hb:bs.length≤65536)
 (hbad:∀e h',e≠0→Jc [] h h'→¬(0≤x∧x<((256^n:Nat):Int)∧bs.length+n≤65536)→K e h')
 (hK:0≤x→x<((256^n:Nat):Int)→bs.length+n≤65536→∀h' s',Jc (w::own s) h h'→MQ h' w s' (bs++be x.toNat n)→(∀b∈own s',b∈own s∨h.size≤b)→K 0 h'):ZAB.C (some ⟨w,0⟩) x n h K:=by
 by_cases hx:0≤x∧x<((256^n:Nat):Int)
 ·obtain⟨m,rfl⟩:∃m:Nat,x=m:=⟨x.toNat,by omega⟩;have hx2:m<256^n:=by have:=hx.2;omega
  by_cases hl:bs.length+n≤65536
  ·refine ZAB.s i hn hx2 hl fun h' s' k' i' o'=>hK hx.1 hx.2 hl h' s' k' ?_ o';rw[YAd];exact i'
  ·apply ZAB.c;unfold ZAB.m;simp only[reduceCtorEq,decide_false,YAn,if_false];refine ZA3.s hn hx2 fun h1 k1 =>?_;simp only[Bool.not_true,YAn,if_false];show ZAN.C _ _ (h1.push (QW Jt .s [⟨(be m n).toArray⟩])) _;have hl1:lens [(⟨(be m n).toArray⟩:Ba)]=n:=by simp[lens,ByteArray.size,Jj]
   have i1:=i.keep k1 (by simp) (by simp);have i2:=i1.keep (Ju (o:=QW Jt .s [⟨(be m n).toArray⟩])) (by simp) (by simp);have lw:=Jl i1.o;have ls:=i1.r.lt;refine ZAN.s (T:=Jt) i2 (parts:=[⟨(be m n).toArray⟩]) (JR.of_new (zs:=[]) (b:=h1.size) (by rw[YAC];exact JA) rfl rfl rfl) ?_ ?_ hb ?_ (by simp only[YAL,YAO];omega) (fun hgt=>hbad 302 _ (by decide) (k1.n Ju) (fun hh=>hl hh.2.2)) fun hle h' s' k' i' o'=>absurd (by rw[hl1]at hle;exact hle) hl
   ·intro b hb;simp[own]at hb;omega
   ·intro b hb hm;simp[own]at hb;have:=ls b hm;omega
   ·intro p hp;simp only[YAS,YAU,or_false]at hp;subst hp;rw[ZF];omega
 ·apply ZAB.c;unfold ZAB.m;simp only[reduceCtorEq,decide_false,YAn,if_false];refine ZA3.bad hn hx ?_;rw[Jf (by rfl)];exact hbad _ h (by decide) Jc.rfl fun hh=>hx ⟨hh.1,hh.2.1⟩
def ZAG.g{h:Ja}{w n:Nat}{s:Jn}{bs:By}{x:By}{K:Int→Hp} (i:MQ h w s bs) (hn:n=1∨n=2∨n=4) (hb:bs.length≤65536)
 (hbad:∀e h',e≠0→Jc [] h h'→¬(x.length<256^n∧bs.length+n+x.length≤65536)→K e h')
 (hK:x.length<256^n→bs.length+n+x.length≤65536→∀h' s',Jc (w::own s) h h'→MQ h' w s' (bs++(be x.length n++x))→(∀b∈own s',b∈own s∨h.size≤b)→K 0 h'):ZAG.C (some ⟨w,0⟩) (bx x) n h K:=by
 have hsz:(bx x).size=x.length:=Js;by_cases hx:x.length<256^n
 ·by_cases hl:bs.length+n+x.length≤65536
  ·refine ZAG.s i hn (by rw[hsz];exact hx) (by rw[hsz];exact hl) fun h' s' k' i' o'=>hK hx hl h' s' k' ?_ o';rw[hsz,Yx]at i';exact i'
  ·apply ZAG.c;unfold ZAG.m;simp only[reduceCtorEq,decide_false,YAn,if_false];rw[hsz];refine ZA3.s hn hx fun h1 k1 =>?_;simp only[Bool.not_true,YAn,if_false];show ZAN.C _ _ (h1.push (QW Jt .s [⟨(be x.length n).toArray⟩,bx x])) _
   have hl1:lens [(⟨(be x.length n).toArray⟩:Ba),bx x]=n+x.length:=by
    have:(⟨(be x.length n).toArray⟩:Ba).size=n:=ZF;simp only[lens,List.map_cons,List.map_nil,List.sum_cons,List.sum_nil,this,hsz];omega
   have i1:=i.keep k1 (by simp) (by simp);have i2:=i1.keep (Ju (o:=QW Jt .s [⟨(be x.length n).toArray⟩,bx x])) (by simp) (by simp);have lw:=Jl i1.o;have ls:=i1.r.lt;have hx4:x.length<4294967296:=by rcases hn with rfl | rfl | rfl <;> omega
   refine ZAN.s (T:=Jt) i2 (parts:=[⟨(be x.length n).toArray⟩,bx x]) (JR.of_new (zs:=[]) (b:=h1.size) (by rw[YAC];exact JA) rfl rfl rfl) ?_ ?_ hb ?_ (by simp only[YAL,YAO];omega) (fun hgt=>hbad 302 _ (by decide) (k1.n Ju) (fun hh=>hl hh.2)) fun hle h' s' k' i' o'=>absurd (by rw[hl1]at hle;omega) hl
   ·intro b hb;simp[own]at hb;omega
   ·intro b hb hm;simp[own]at hb;have:=ls b hm;omega
   ·intro p hp;rcases List.mem_cons.1 hp with e | e
    ·subst e;rw[ZF];omega
    ·simp only[YAS,YAU,or_false]at e;subst e;rw[hsz];omega
 ·apply ZAG.c;unfold ZAG.m;simp only[reduceCtorEq,decide_false,YAn,if_false];rw[hsz];refine ZA3.bad hn (fun hh=>hx (by have:=hh.2;omega)) ?_;rw[Jf (by rfl)];exact hbad _ h (by decide) Jc.rfl fun hh=>hx hh.1
def ZAD.g{h:Ja}{w:Nat}{s:Jn}{bs:By}{z:YI}{K:Int→Hp} (i:MQ h w s bs) (hb:bs.length≤65536)
 (hbad:∀e h',e≠0→Jc [] h h'→¬bs.length+32≤65536→K e h')
 (hK:bs.length+32≤65536→∀h' s',Jc (w::own s) h h'→MQ h' w s' (bs++z.toList)→(∀b∈own s',b∈own s∨h.size≤b)→K 0 h'):ZAD.C (some ⟨w,0⟩) z h K:=by
 by_cases hl:bs.length+32≤65536
 ·exact ZAD.s i hl (hK hl)
 apply ZAD.c;unfold ZAD.m;refine Ji fun b1 h1 hb1 k1 e1 hs1 =>?_;have e1:h1[b1]? = some (Jg Jh HK z):=e1;rw[Jd (by simp)];refine⟨by decide,by decide,by decide,?_⟩;have g1:Q5 .u8 ⟨some ⟨b1,0⟩,32,32⟩ z.toList h1:=Wt e1;refine Xb g1 fun q _ =>?_;refine QN fun b2 h2 hb2 k2 r2 hs2 =>?_;have i2:=(i.keep k1 (by simp) (by simp)).keep k2 (by simp) (by simp);have lw:=Jl i.o;have ls:=i.r.lt;have s1:=k1.1;have l1:lens [(⟨z.toList.toArray⟩:Ba)]=32:=by simp[lens,ByteArray.size]
 refine ZAN.s (T:=Jt) i2 (parts:=[⟨z.toList.toArray⟩]) r2 ?_ ?_ hb ?_ (by simp) (fun hgt=>hbad 302 _ (by decide) (k1.n k2) hl) fun hle h' s' k' i' o'=>absurd (by rw[l1]at hle;exact hle) hl
 ·intro b hb;simp[own]at hb;omega
 ·intro b hb hm;simp[own]at hb;have:=ls b hm;omega
 ·intro p hp;simp only[YAS,YAU,or_false]at hp;subst hp;show z.toList.toArray.size≤_;simp
def NW.numG{h0 h:Ja}{w n:Nat}{x:Int}{s:Jn}{bs:By}{K:Int→Hp} (q:NW h0 h w s bs) (hn:n=1∨n=2∨n=4) (hb:bs.length≤65536)
 (hbad:∀e h',e≠0→Jc [] h h'→¬(0≤x∧x<((256^n:Nat):Int)∧bs.length+n≤65536)→K e h')
 (hK:0≤x→x<((256^n:Nat):Int)→bs.length+n≤65536→∀h' s',NW h0 h' w s' (bs++be x.toNat n)→Jc (w::own s) h h'→(∀b,b<h.size→b∉w::own s→b∉w::own s')→K 0 h'):ZAB.C (some ⟨w,0⟩) x n h K:=
 ZAB.g q.i hn hb hbad fun a b c h' s' k' i' o'=>hK a b c h' s' (q.step k' i' o') k' (V0 o')
def NW.textG{h0 h:Ja}{w n:Nat}{x:By}{s:Jn}{bs:By}{K:Int→Hp} (q:NW h0 h w s bs) (hn:n=1∨n=2∨n=4) (hb:bs.length≤65536)
 (hbad:∀e h',e≠0→Jc [] h h'→¬(x.length<256^n∧bs.length+n+x.length≤65536)→K e h')
 (hK:x.length<256^n→bs.length+n+x.length≤65536→∀h' s',NW h0 h' w s' (bs++(be x.length n++x))→Jc (w::own s) h h'→(∀b,b<h.size→b∉w::own s→b∉w::own s')→K 0 h'):ZAG.C (some ⟨w,0⟩) (bx x) n h K:=
 ZAG.g q.i hn hb hbad fun a b h' s' k' i' o'=>hK a b h' s' (q.step k' i' o') k' (V0 o')
def NW.hashG{h0 h:Ja}{w:Nat}{z:YI}{s:Jn}{bs:By}{K:Int→Hp} (q:NW h0 h w s bs) (hb:bs.length≤65536)
 (hbad:∀e h',e≠0→Jc [] h h'→¬bs.length+32≤65536→K e h')
 (hK:bs.length+32≤65536→∀h' s',NW h0 h' w s' (bs++z.toList)→Jc (w::own s) h h'→(∀b,b<h.size→b∉w::own s→b∉w::own s')→K 0 h'):ZAD.C (some ⟨w,0⟩) z h K:=
 ZAD.g q.i hb hbad fun a h' s' k' i' o'=>hK a h' s' (q.step k' i' o') k' (V0 o')
abbrev Xh:Kd := .ag (.pr .i (.pr .i (.pr .i (.pr .sl (.pr .sl (.pr .sl .un))))))
structure Sl (h:Ja) (v:Xh.Ty) (J0:List JO.Ty) (m:YV):Prop where
 k:v.1=m.kind
 u:v.2.1=m.user
 f:v.2.2.1=m.frm
 e:Q5 JO v.2.2.2.1 J0 h
 x:Qq (Ue h) J0 m.ents
 w:Q5 (.ar 32 .u8) v.2.2.2.2.1 m.wants h
 o:Q5 .s v.2.2.2.2.2.1 (m.objs.map bx) h
structure vI (m:YV):Prop where
 v:∀e∈m.ents,e.vec.length≤9223372036854775806
 e:m.ents.length≤9223372036854775806
 w:m.wants.length≤9223372036854775806
 o:m.objs.length≤9223372036854775806
def Sl.keep{h h':Ja}{v:Xh.Ty}{J0:List JO.Ty}{m:YV} (a:Sl h v J0 m) (k:Jc [] h h'):Sl h' v J0 m:=
 ⟨a.k,a.u,a.f,a.e.keep (by decide) k,a.x.mono fun _ _ r=>r.keep k,a.w.keep (by decide) k,a.o.keep (by decide) k⟩
def Z4{h:Ja}{b:Nat}{v:Xh.Ty} (e:h[b]? = some (Jg JC Xh v)):sm .i ((Pl.mk b 0).fld 0) v.1 h∧sm .i ((Pl.mk b 0).fld 1) v.2.1 h∧sm .i ((Pl.mk b 0).fld 2) v.2.2.1 h∧sm .sl ((Pl.mk b 0).fld 3) v.2.2.2.1 h∧sm .sl ((Pl.mk b 0).fld 4) v.2.2.2.2.1 h∧sm .sl ((Pl.mk b 0).fld 5) v.2.2.2.2.2.1 h:=
 ⟨Jv e rfl (by decide),Jv e rfl (by decide),Jv e rfl (by decide),Jv e rfl (by decide),Jv e rfl (by decide),Jv e rfl (by decide)⟩
section
variable {T w b:Nat}{h0 h:Ja}{s:Jn}{bs:By}
def BW.numG{n:Nat}{x:Int}{K:Int→Hp} (i:BW T h0 h w b s bs) (hn:n=1∨n=2∨n=4) (hb:bs.length≤65536)
 (hbad:∀e h',e≠0→Jc [] h0 h'→¬(0≤x∧x<((256^n:Nat):Int)∧bs.length+n≤65536)→K e h')
 (hK:0≤x→x<((256^n:Nat):Int)→bs.length+n≤65536→∀h' s',BW T h0 h' w b s' (bs++be x.toNat n)→K 0 h'):ZAB.C (some ⟨w,0⟩) x n h K:=
 i.q.numG hn hb (fun e h' he k hh=>hbad e h' he (i.q.k.n k) hh) fun a1 a2 a3 h' s' q' k' o'=>hK a1 a2 a3 h' s' ⟨q',k'.get i.e i.n,o' b (Jl i.e) i.n⟩
def BW.textG{n:Nat}{x:By}{K:Int→Hp} (i:BW T h0 h w b s bs) (hn:n=1∨n=2∨n=4) (hb:bs.length≤65536)
 (hbad:∀e h',e≠0→Jc [] h0 h'→¬(x.length<256^n∧bs.length+n+x.length≤65536)→K e h')
 (hK:x.length<256^n→bs.length+n+x.length≤65536→∀h' s',BW T h0 h' w b s' (bs++(be x.length n++x))→K 0 h'):ZAG.C (some ⟨w,0⟩) (bx x) n h K:=
 i.q.textG hn hb (fun e h' he k hh=>hbad e h' he (i.q.k.n k) hh) fun a1 a2 h' s' q' k' o'=>hK a1 a2 h' s' ⟨q',k'.get i.e i.n,o' b (Jl i.e) i.n⟩
def BW.hashG{z:Qh}{K:Int→Hp} (i:BW T h0 h w b s bs) (hb:bs.length≤65536)
 (hbad:∀e h',e≠0→Jc [] h0 h'→¬bs.length+32≤65536→K e h')
 (hK:bs.length+32≤65536→∀h' s',BW T h0 h' w b s' (bs++z.toList)→K 0 h'):ZAD.C (some ⟨w,0⟩) z h K:=
 i.q.hashG hb (fun e h' he k hh=>hbad e h' he (i.q.k.n k) hh) fun a1 h' s' q' k' o'=>hK a1 h' s' ⟨q',k'.get i.e i.n,o' b (Jl i.e) i.n⟩
def Gw{α : Type}{f : α → By} (l:List α) (t:Nat):((l.take t).flatMap f).length≤(l.flatMap f).length:=by
 have:l.flatMap f=(l.take t).flatMap f++(l.drop t).flatMap f:=by rw[←YAE,YAY]
 rw[this,YAK];omega
def XY{α : Type}{f : α → By}{l:List α}{t:Nat} (h:t<l.length):(l.take (t+1)).flatMap f=(l.take t).flatMap f++f l[t]:=by
 rw[YAb h,YAE];simp
def I7{α : Type}{f : α → By}{l:List α}{t:Nat}{bs:By} (h:t<l.length) (ho:65536<bs.length+((l.take t).flatMap f).length+(f l[t]).length):¬(bs++l.flatMap f).length≤65536:=by
 have h1:=Gw (f:=f) l (t+1);rw[XY h,YAK]at h1;rw[YAK];omega
def Dc{sl:Jn}{J0:List JO.Ty}{E:List X6}{K:Int→Hp} (i:BW T h0 h w b s bs) (g:Q5 JO sl J0 h0) (x:Qq (Ue h0) J0 E) (hv:∀e∈E,e.vec.length≤9223372036854775806) (hn:E.length≤255) (hb:bs.length≤65536)
 (hbad:∀e h',e≠0→Jc [] h0 h'→¬((∀e∈E,JJ e=true)∧(bs++E.flatMap Yy).length≤65536)→K e h')
 (hok:(∀e∈E,JJ e=true)→(bs++E.flatMap Yy).length≤65536→∀h' s',BW T h0 h' w b s' (bs++E.flatMap Yy)→K 0 h'):ZBf.C sl (.func (.func ZDG.n) #[] #[Kd.p.val (some (Pl.mk b 0))]) h K:=by
 apply ZBf.c;unfold ZBf.m;have gl:=g.len;have xl:=x.len;refine JF (fun(y:Int×Unit) (h1:Ja)=>∃(t:Nat) (s1:Jn),y.1=t∧t≤E.length∧BW T h0 h1 w b s1 (bs++(E.take t).flatMap Yy)∧(∀e∈E.take t,JJ e=true)∧(bs++(E.take t).flatMap Yy).length≤65536) (fun(y:Int×Unit) _=>E.length-y.1.toNat) ?_ ?_
 ·exact⟨0,s,rfl,YAl _,by simpa using i,by simp,by simpa using hb⟩
 rintro⟨(jj:Int),_⟩ h1 ⟨t,s1,e,ht,i1,hp,hl⟩;dsimp only at e ⊢;subst e;by_cases hlt:t<E.length
 ·rw[Jf (show decide ((t:Int)<(sl.len:Int))=true from dT (by omega))];have het:t<J0.length:=by omega
  have at0:Ue h0 J0[t] E[t]:=x.getI het hlt;refine JK (g.keep (by decide) i1.q.k) (x:=J0[t]) (by omega) (by simp[het]) rfl ?_;refine Jq fun b2 h2 hb2 k2 e2 hs2 =>?_;refine Jb (Je e2) ?_;refine Qr (aa:=[JO.val J0[t],Kd.p.val (some (Pl.mk b 0))]) (by rfl) ?_;show ZDG.C J0[t] ⟨b,0⟩ h2 _;apply ZDG.c;unfold ZDG.m;refine Ji fun b3 h3 hb3 k3 e3 hs3 =>?_;refine Jb (Je e3) ?_;have k03:Jc [] h0 h3:=(i1.q.k.n k2).n k3;have i3:=(i1.keep k2 (by simp)).keep k3 (by simp);refine ZB8.s (at0.keep k03) (hv _ (YAJ hlt)) fun h4 k4 =>?_;have i4:=i3.keep k4 (by simp)
  cases hm:JJ E[t] with
  | false =>
    have hno:¬((∀e∈E,JJ e=true)∧(bs++E.flatMap Yy).length≤65536):=fun hh=>by
     have:=hh.1 _ (YAJ hlt);rw[hm]at this;cases this
    rw[Jd (show¬false=true by simp),Jd (show¬false=true by simp),Jf (by decide)];dsimp only;rw[Jf (by decide)];exact hbad 1900 h4 (by decide) (k03.n k4) hno
  | true =>
    rw[Jf rfl,Jf rfl,Jd (by decide)];refine Jb (Je i4.e) ?_;have hz:=PZ hm;have hml:(Yy E[t]).length=2+(putE E[t]).length:=by unfold Yy;rw[YAK,Jj]
    have hll:(bs++(E.take t).flatMap Yy).length=bs.length+((E.take t).flatMap Yy).length:=YAK;refine i4.textG (n:=2) (by decide) hl (fun e' h' he k' hh =>?_) fun _ h5 h' s' i5 =>?_
    ·dsimp only;rw[Jf (by simpa using he)];refine hbad e' h' he k' fun hx=>I7 hlt ?_ hx.2;have:¬(bs++(E.take t).flatMap Yy).length+2+(putE E[t]).length≤65536:=fun h'=>hh ⟨hz,h'⟩;omega
    ·dsimp only;rw[Jd (by decide)];have hw:Jr ((t:Int)+1)=((t+1:Nat):Int):=w6 (by omega);rw[hw]
     have hfe:bs++(E.take (t+1)).flatMap Yy=bs++(E.take t).flatMap Yy++(be (putE E[t]).length 2++putE E[t]):=by
      rw[XY hlt,←YAB];rfl
     refine⟨⟨t+1,s',rfl,by omega,by rw[hfe];exact i5,fun e hem =>?_,by rw[hfe];simp only[YAK,Jj]at h5 ⊢;omega⟩,by simp;omega⟩;rw[YAb hlt]at hem;rcases List.mem_append.1 hem with h' | h'
     ·exact hp e h'
     ·simp at h';subst h';exact hm
 ·rw[Jd (show¬decide ((t:Int)<(sl.len:Int))=true from dn (by omega))];have:t=E.length:=by omega
  rw[this,YAa (YAf _)]at i1 hp hl;exact hok hp hl h1 s1 i1
def Dd{sl:Jn}{Z:List Qh}{K:Int→Hp} (i:BW T h0 h w b s bs) (g:Q5 (.ar 32 .u8) sl Z h0) (hn:Z.length≤255) (hb:bs.length≤65536)
 (hbad:∀e h',e≠0→Jc [] h0 h'→¬(bs++Z.flatMap fun z=>z.toList).length≤65536→K e h')
 (hok:(bs++Z.flatMap fun z=>z.toList).length≤65536→∀h' s',BW T h0 h' w b s' (bs++Z.flatMap fun z=>z.toList)→K 0 h'):ZAp.C sl (.func (.func ZAD.n) #[Kd.p.val (some (Pl.mk w 0))] #[]) h K:=by
 apply ZAp.c;unfold ZAp.m;have gl:=g.len;refine JF (fun(y:Int×Unit) (h1:Ja)=>∃(t:Nat) (s1:Jn),y.1=t∧t≤Z.length∧BW T h0 h1 w b s1 (bs++(Z.take t).flatMap fun z=>z.toList)∧(bs++(Z.take t).flatMap fun z=>z.toList).length≤65536) (fun(y:Int×Unit) _=>Z.length-y.1.toNat) ?_ ?_
 ·exact⟨0,s,rfl,YAl _,by simpa using i,by simpa using hb⟩
 rintro⟨(jj:Int),_⟩ h1 ⟨t,s1,e,ht,i1,hl⟩;dsimp only at e ⊢;subst e;by_cases hlt:t<Z.length
 ·rw[Jf (show decide ((t:Int)<(sl.len:Int))=true from dT (by omega))];refine JK (g.keep (by decide) i1.q.k) (x:=Z[t]) (by omega) (by simp[hlt]) rfl ?_;refine Jq fun b2 h2 hb2 k2 e2 hs2 =>?_;refine Jb (Je e2) ?_;refine Qr (aa:=[Kd.p.val (some (Pl.mk w 0)),(Kd.ar 32 .u8).val Z[t]]) (by rfl) ?_;show ZAD.C (some ⟨w,0⟩) Z[t] h2 _;have hll:(bs++(Z.take t).flatMap fun z=>z.toList).length=bs.length+((Z.take t).flatMap fun z=>z.toList).length:=YAK;have zl:(Z[t]).toList.length=32:=by simp
  refine(i1.keep k2 (by simp)).hashG hl (fun e' h' he k' hh =>?_) fun h5 h' s' i5 =>?_
  ·rw[Jf (by simpa using he)];refine hbad e' h' he k' fun hx=>I7 (f:=fun z:Qh=>z.toList) hlt ?_ hx;omega
  ·rw[Jd (by decide)];have hw:Jr ((t:Int)+1)=((t+1:Nat):Int):=w6 (by omega);rw[hw]
   have hfe:bs++((Z.take (t+1)).flatMap fun z=>z.toList)=bs++((Z.take t).flatMap fun z=>z.toList)++Z[t].toList:=by
    rw[XY (f:=fun z:Qh=>z.toList) hlt,←YAB]
   exact⟨⟨t+1,s',rfl,by omega,by rw[hfe];exact i5,by rw[hfe,YAK,zl];omega⟩,by simp;omega⟩
 ·rw[Jd (show¬decide ((t:Int)<(sl.len:Int))=true from dn (by omega))];have:t=Z.length:=by omega
  rw[this,YAa (YAf _)]at i1 hl;exact hok hl h1 s1 i1
def De{sl:Jn}{O:List By}{K:Int→Hp} (i:BW T h0 h w b s bs) (g:Q5 .s sl (O.map bx) h0) (hn:O.length≤255) (hb:bs.length≤65536)
 (hbad:∀e h',e≠0→Jc [] h0 h'→¬((∀x∈O,x.length≤65535)∧(bs++O.flatMap XS).length≤65536)→K e h')
 (hok:(∀x∈O,x.length≤65535)→(bs++O.flatMap XS).length≤65536→∀h' s',BW T h0 h' w b s' (bs++O.flatMap XS)→K 0 h'):ZCR.C sl (.func (.func ZDJ.n) #[] #[Kd.p.val (some (Pl.mk b 0))]) h K:=by
 apply ZCR.c;unfold ZCR.m;have gl:=g.len;rw[YAN]at gl;refine JF (fun(y:Int×Unit) (h1:Ja)=>∃(t:Nat) (s1:Jn),y.1=t∧t≤O.length∧BW T h0 h1 w b s1 (bs++(O.take t).flatMap XS)∧(∀e∈O.take t,e.length≤65535)∧(bs++(O.take t).flatMap XS).length≤65536) (fun(y:Int×Unit) _=>O.length-y.1.toNat) ?_ ?_
 ·exact⟨0,s,rfl,YAl _,by simpa using i,by simp,by simpa using hb⟩
 rintro⟨(jj:Int),_⟩ h1 ⟨t,s1,e,ht,i1,hp,hl⟩;dsimp only at e ⊢;subst e;by_cases hlt:t<O.length
 ·rw[Jf (show decide ((t:Int)<(sl.len:Int))=true from dT (by omega))];refine JK (g.keep (by decide) i1.q.k) (x:=bx O[t]) (by omega) (by simp[hlt]) rfl ?_;refine Qr (aa:=[Kd.s.val (bx O[t]),Kd.p.val (some (Pl.mk b 0))]) (by rfl) ?_;show ZDJ.C (bx O[t]) ⟨b,0⟩ h1 _;apply ZDJ.c;unfold ZDJ.m;refine Jb (Je i1.e) ?_;have hml:(XS O[t]).length=2+(O[t]).length:=by unfold XS;rw[YAK,Jj]
  have hll:(bs++(O.take t).flatMap XS).length=bs.length+((O.take t).flatMap XS).length:=YAK;refine i1.textG (n:=2) (by decide) hl (fun e' h' he k' hh =>?_) fun h4 h5 h' s' i5 =>?_
  ·dsimp only;rw[Jf (by simpa using he)];refine hbad e' h' he k' fun hx =>?_;by_cases hz:O[t].length≤65535
   ·refine I7 hlt ?_ hx.2;have:¬(bs++(O.take t).flatMap XS).length+2+O[t].length≤65536:=fun h'=>hh ⟨by omega,h'⟩;omega
   ·exact hz (hx.1 _ (YAJ hlt))
  ·dsimp only;rw[Jd (by decide)];have hw:Jr ((t:Int)+1)=((t+1:Nat):Int):=w6 (by omega);rw[hw]
   have hfe:bs++(O.take (t+1)).flatMap XS=bs++(O.take t).flatMap XS++(be O[t].length 2++O[t]):=by
    rw[XY hlt,←YAB];rfl
   refine⟨⟨t+1,s',rfl,by omega,by rw[hfe];exact i5,fun e hem =>?_,by rw[hfe];simp only[YAK,Jj]at h5 ⊢;omega⟩,by simp;omega⟩;rw[YAb hlt]at hem;rcases List.mem_append.1 hem with h' | h'
   ·exact hp e h'
   ·simp at h';subst h';omega
 ·rw[Jd (show¬decide ((t:Int)<(sl.len:Int))=true from dn (by omega))];have:t=O.length:=by omega
  rw[this,YAa (YAf _)]at i1 hp hl;exact hok hp hl h1 s1 i1
end
def ZBL.s{k:Int}{h:Ja}{K:Int→Int→Int→Hp} (hK:K ((((Ys k).getD (0,0,0)).1:Nat):Int) ((((Ys k).getD (0,0,0)).2.1:Nat):Int) ((((Ys k).getD (0,0,0)).2.2:Nat):Int) h):ZBL.C k h K:=by
 apply ZBL.c;unfold ZBL.m;unfold Ys at hK;by_cases h3:k=3
 ·rw[Jf (by simpa using h3)];rw[Jf h3]at hK;exact hK
 rw[Jd (by simpa using h3)];rw[Jd h3]at hK;by_cases h4:k=4
 ·rw[Jf (by simpa using h4)];rw[Jf h4]at hK;exact hK
 rw[Jd (by simpa using h4)];rw[Jd h4]at hK;exact hK
def ZCf.s{id:By}{q:Int}{h:Ja}{K:Bool→Hp} (hK:K (W5 id q) h):ZCf.C (bx id) q h K:=by
 apply ZCf.c;unfold ZCf.m;unfold W5 at hK;refine JH (decide (id.length=16)&&decide (0≤q)&&decide (q≤4294967295),()) h ?_ hK;by_cases h16:id.length=16
 ·rw[Jf (show decide (((bx id).size:Int)=16)=true from dT (by rw[Js];omega)),dT h16];by_cases h0:0≤q
  ·rw[Jf (show decide (q≥0)=true from dT h0),dT h0];exact⟨rfl,rfl⟩
  ·rw[Jd (show¬decide (q≥0)=true from fun h=>h0 (of_decide_eq_true h)),dF h0];exact⟨rfl,rfl⟩
 ·rw[Jd (show¬decide (((bx id).size:Int)=16)=true from fun h=>h16 (by have:=of_decide_eq_true h;rw[Js]at this;omega)),dF h16];exact⟨rfl,rfl⟩
def ZDC.s{l:By}{h:Ja}{K:Ba→Hp} (hl:l.length≤1000000) (hK:∀h',Jc [] h h'→K (bx (Hl l)) h'):ZDC.C (bx l) h K:=by
 apply ZDC.c;unfold ZDC.m;refine ZBS.s (by omega) fun h1 k1 =>?_;unfold Hl at hK;generalize Yt l=v at *;exact ZAZ.s fun h2 k2=>hK h2 (k1.n k2)
def ZBw.s{hd seed:By}{i:Nat}{h:Ja}{K:Ba→Hp} (hl:hd.length+seed.length≤900000) (hi:i<65536) (hK:∀h',Jc [] h h'→K (bx (V3 hd i seed)) h'):ZBw.C (bx hd) (i:Int) (bx seed) h K:=by
 apply ZBw.c;unfold ZBw.m;refine ZAA.s (n:=2) (by decide) (by decide) (by omega) fun h1 k1 =>?_;show JS (bx hd) (bx (be i 2)) _;refine JM (by rw[Jj];omega) ?_;show JS _ (bx [255]) _;refine JM (by rw[YAK,Jj];simp;omega) ?_;refine JM (by rw[YAK,YAK,Jj];simp;omega) ?_;refine ZDC.s (by simp only[YAK,Jj,YAL,YAO];omega) fun h2 k2 =>?_;exact hK h2 (k1.n k2)
def ZC6.s{p s:By}{i fr to:Nat}{h:Ja}{K:Ba→Hp} (hp:p.length≤1000) (hs:s.length≤1000) (hi:i<65536) (hf:fr≤to) (ht:to≤256) (hK:∀h',Jc [] h h'→K (bx (Xj p i fr (to-fr) s)) h'):ZC6.C (bx p) (i:Int) (fr:Int) (to:Int) (bx s) h K:=by
 apply ZC6.c;unfold ZC6.m;refine JF (fun(y:Ba×Int×Unit) (h1:Ja)=>∃n:Nat,y.2.1=((fr+n:Nat):Int)∧fr+n≤to∧Jc [] h h1∧y.1=bx (Xj p i fr n s)∧(Xj p i fr n s).length≤1000) (fun(y:Ba×Int×Unit) _=>to-y.2.1.toNat) ?_ ?_
 ·exact⟨0,rfl,hf,Jc.rfl,rfl,hs⟩
 rintro⟨(a:Ba),(jj:Int),_⟩ h1 ⟨n,e,hn,k1,ea,hl⟩;dsimp only at e ea ⊢;subst e;subst ea;by_cases hlt:fr+n<to
 ·rw[Jf (show decide (((fr+n:Nat):Int)<(to:Int))=true from dT (by omega))];have hw:Jr (((fr+n:Nat):Int)+1)=((fr+(n+1):Nat):Int):=w6 (by omega);rw[hw];refine ZAA.s (n:=2) (by decide) (by decide) (by omega) fun h2 k2 =>?_;show JS (bx p) (bx (be i 2)) _;refine JM (by rw[Jj];omega) ?_;refine ZAA.s (n:=1) (by decide) (by decide) (by omega) fun h3 k3 =>?_;show JS _ (bx (be (fr+n) 1)) _;refine JM (by rw[YAK,Jj,Jj];omega) ?_;refine JM (by rw[YAK,YAK,Jj,Jj];omega) ?_;refine ZDC.s (by simp only[YAK,Jj];omega) fun h4 k4 =>?_
  have e3:Hl (p++be i 2++be (fr+n) 1++Xj p i fr n s)=Xj p i fr (n+1) s:=by
   rw[UB,show be (fr+n) 1=[UInt8.ofNat (fr+n)] by simp[be]]
  rw[e3];refine⟨⟨n+1,rfl,by omega,((k1.n k2).n k3).n k4,rfl,by rw[UB,X7];decide⟩,by simp;omega⟩
 ·rw[Jd (show¬decide (((fr+n:Nat):Int)<(to:Int))=true from dn (by omega))];have:n=to-fr:=by omega
  rw[this];exact hK h1 k1
def Ip(h:Ja) (T:Nat) (s:Jn) (l:By):Prop:=
 JR h T .u8 s l∨∃b zs,s.a=some ⟨b,0⟩∧s.len=l.length∧s.cap=l.length+zs.length∧h[b]? = some (.cells ((l++zs).flatMap Kd.u8.cells).toArray T (s.cap,s.cap+1))
def Ip.len{h:Ja}{T:Nat}{s:Jn}{l:By} (r:Ip h T s l):s.len=l.length:=by
 rcases r with r | ⟨b,zs,_,e,_⟩
 ·exact r.len
 ·exact e
def Ip.keep{h h':Ja}{T:Nat}{s:Jn}{l:By}{S:List Nat} (r:Ip h T s l) (k:Jc S h h') (hn:∀b∈own s,b∉S):Ip h' T s l:=by
 rcases r with r | ⟨b,zs,e,e1,e2,e3⟩
 ·exact .inl (r.keep k hn)
 ·exact .inr ⟨b,zs,e,e1,e2,k.get e3 (hn b (by unfold own;rw[e];simp))⟩
def P3{T:Nat}{l:By}{h:Ja}{K:Jn→Hp} (hK:∀s h',Jc [] h h'→Ip h' T s l→own s=[h.size]→K s h'):js T (bx l) h K:=by
 intro c hc _;rw[Js]at hc;refine hK _ _ Ju (.inr ⟨h.size,List.replicate (c-l.length) 0,rfl,Js,by simp;omega,?_⟩) rfl;rw[JA,YAE,Yx,Js]
 rfl
def Ip.seg{h:Ja}{T:Nat}{s:Jn}{l:By} (r:Ip h T s l):Q5 .u8 s l h:=by
 rcases r with r | ⟨b,zs,e,e1,e2,e3⟩
 ·exact r.seg
 ·refine⟨e1,fun i x hx=>⟨⟨b,0⟩,e,?_⟩,fun p hp =>?_⟩
  ·have hi:i<l.length:=by
    rcases Nat.lt_or_ge i l.length with h | h
    ·exact h
    ·rw[List.getElem?_eq_none h]at hx;simp at hx
   have e2:(h.push (QW T .u8 (l++zs)))[h.size]? = some (QW T .u8 (l++zs)):=JA;have rr:JR (h.push (QW T .u8 (l++zs))) T .u8 ⟨some ⟨h.size,0⟩,l.length,l.length+zs.length⟩ l:=JR.of_new e2 rfl rfl (by simp);obtain⟨p,hp,hs⟩:=rr.seg.el i x hx
   cases hp
   unfold sm Qz at hs ⊢;rw[e2]at hs;rw[e3];exact hs
  ·rw[e]at hp
   cases hp
   exact⟨_,_,_,e3,YAl _⟩
def apS{T by_ n:Nat}{h:Ja}{s:Jn}{xs ys:By}{cs:List Value}{K:Jn→Hp} (r:Ip h T s xs) (hn:n=ys.length) (hc:cs=ys.flatMap Kd.u8.cells) (hb:(xs.length+n)*by_≤140737488355328)
 (hK:∀s' h',Ip h' T s' (xs++ys)→Jc (own s) h h'→(s'.a=s.a∨s'.a=some ⟨h.size,0⟩)→K s' h'):ap T .u8 by_ s n cs h K:=by
 rcases r with r | ⟨b,zs,e,e1,e2,e3⟩
 ·exact X8 r hn hc hb fun s' h' r k o=>hK s' h' (.inl r) k o
 subst hn;subst hc;unfold ap;have lx:=M3 xs;have ly:=M3 ys;have lz:=M3 zs;by_cases hle:s.len+ys.length≤s.cap
 ·rw[Jf hle];simp only[e];refine⟨_,T,s.cap,s.cap+1,e3,?_,.inr (.inl ?_),?_⟩
  ·simp only[List.size_toArray,YAE,YAK,Kd.size];omega
  ·simp only[Kd.size];omega
  ·refine hK _ _ (.inr ⟨b,zs.drop ys.length,rfl,by simp[e1],by simp;omega,?_⟩) (by unfold own;rw[e];exact Jo) (.inl e.symm);rw[Jw e3]
   congr 2
   unfold Xz
   congr 1
   simp only[Kd.size,YAk,Nat.mul_one];rw[YAE,YAE,YAE,e1,ly];rw[YAZ lx]
   congr 1
   rw[List.drop_append,List.drop_eq_nil_of_le (by omega),YAT,lx,Nat.add_sub_cancel_left]
   have:∀(n:Nat) (l:By),(l.flatMap Kd.u8.cells).drop n=(l.drop n).flatMap Kd.u8.cells:=by
    intro n
    induction n with
    | zero=>intro l;rfl
    | succ n ih =>
      intro l
      cases l with
      | nil=>rfl
      | cons a r=>exact ih r
   exact this _ _
 ·rw[Jd hle];refine⟨growslice_fits (by omega) (by rw[e1];exact hb),?_⟩;refine QI (Ip.seg (.inr ⟨b,zs,e,e1,e2,e3⟩)) (by rw[e1]) ?_;intro c hc _;refine hK _ _ (.inl (.inr ⟨h.size,List.replicate (c-(s.len+ys.length)) 0,rfl,by simp[e1],by simp;omega,?_⟩)) (Ju.weak (by simp)) (.inr rfl);rw[JA]
  congr 2
  rw[YAE,YAE]
  rfl
def Dj{k:Int}{w p ls:Nat} (h:Ys k=some (w,p,ls)):((w,p,ls)=(4,67,4)∨(w,p,ls)=(8,34,0))∧4≤w∧w≤8∧34≤p∧p≤67∧2^w≤256∧1≤2^w∧256/w≤p∧Jr (QQ 1 (w:Int)-1)=((2^w-1:Nat):Int):=by
 have hc:(w,p,ls)=(4,67,4)∨(w,p,ls)=(8,34,0):=by
  rcases Zu h with⟨_,h⟩ | ⟨_,h⟩
  ·exact .inl h
  ·exact .inr h
 refine⟨hc,?_⟩;rcases hc with h | h <;> cases h <;> decide
def Sx{l:By}:(bx l).data.toList.flatMap Kd.u8.cells=l.flatMap Kd.u8.cells:=by rw[Yx]
def Px{f:Nat→By} (hf:∀i,(f i).length=32) (n:Nat):((List.range n).flatMap f).length=32*n:=RH hf n
def ZB2.s{kind:Int}{id seed:By}{q w p ls:Nat}{h:Ja}{K:Kd.Ty (.ar 32 .u8)→Int→Hp} (hk:Ys kind=some (w,p,ls)) (hid:id.length=16) (hq:q≤4294967295) (hs:seed.length=32)
 (hK:∀v h',Vector.toList v=TU w p (JX id q) seed→Jc [] h h'→K v 0 h'):ZB2.C kind (bx id) (q:Int) (bx seed) h K:=by
 obtain⟨hc,w4,w8,p34,p67,h2a,h2b,hpl,hmost⟩:=Dj hk;apply ZB2.c;unfold ZB2.m;refine Ji fun b1 h1 hb1 k1 e1 hs1 =>?_;refine ZBL.s ?_;rw[hk];simp only[Option.getD_some];have hmay:W5 id (q:Int)=true:=by unfold W5;simp[hid];omega
 refine JH (false,()) h1 ?_ ?_
 ·rw[Jd (show¬decide ((w:Int)=0)=true from dn (by omega))];refine ZCf.s ?_;rw[hmay,Jd (by simp)];refine⟨?_,rfl⟩;rw[Js,hs];rfl
 rw[Jd (by simp)];refine ZAA.s (n:=4) (by decide) (by decide) (by omega) fun h6 k6 =>?_;show JS (bx id) (bx (be q 4)) _;refine JM (by rw[Jj];omega) ?_;have hhl:(JX id q).length=20:=by unfold JX;rw[YAK,Jj,hid]
 rw[show id++be q 4=JX id q from rfl];show JS (bx (JX id q)) (bx [128,128]) _;refine JM (by rw[hhl];decide) ?_;refine P3 fun s3 h7 k7 r7 o7 =>?_;have k17:Jc [] h1 h7:=k6.n k7;have sl:∀i,(Xj (JX id q) i 0 (2^w-1) (V3 (JX id q) i seed)).length=32:=fun i=>Wa V4;have z7:=k7.1;have o7':∀x∈own s3,h6.size≤x:=fun x hx=>by rw[o7]at hx;simp at hx;omega
 have z6:=k6.1;have lt1:=Jl e1;refine JF (fun(y:Jn×Int×Unit) (h8:Ja)=>∃n:Nat,y.2.1=n∧n≤p∧Jc [] h1 h8∧Ip h8 Q7 y.1 (JX id q++[128,128]++(List.range n).flatMap fun i=>Xj (JX id q) i 0 (2^w-1) (V3 (JX id q) i seed))∧∀x∈own y.1,h1.size≤x) (fun(y:Jn×Int×Unit) _=>p-y.2.1.toNat) ?_ ?_
 ·exact⟨0,rfl,YAl _,k17,by simpa using r7,fun x hx=>by have:=o7' x hx;omega⟩
 rintro⟨(s8:Jn),(jj:Int),_⟩ h8 ⟨n,e,hn,k8,r8,o8⟩;dsimp only at e r8 o8 ⊢;subst e;by_cases hlt:n<p
 ·rw[Jf (show decide ((n:Int)<(p:Int))=true from dT (by omega))];refine⟨YAc w,?_⟩;refine ZBw.s (by omega) (by omega) fun h9 k9 =>?_;rw[hmost];have pl:=V4 (hd:=JX id q) (seed:=seed) (i:=n);refine ZC6.s (fr:=0) (by omega) (by omega) (by omega) (by omega) (by omega) fun h10 k10 =>?_;rw[Nat.sub_zero,Sx,Js];have k810:Jc [] h8 h10:=k9.n k10;refine apS (r8.keep k810 (by simp)) rfl rfl (by rw[YAK,YAK,hhl,Px sl,sl];simp;omega) fun s11 h11 r11 k11 o11 =>?_;have hw:Jr ((n:Int)+1)=((n+1:Nat):Int):=w6 (by omega);rw[hw];have z810:=k810.1;have z18:=k8.1;refine⟨⟨n+1,rfl,by omega,(k8.n k810).new k11 o8,?_,fun x hx =>?_⟩,by simp;omega⟩
  ·rw[YAV,YAE,←YAB];simpa using r11
  ·rcases XO o11 x hx with h | h
   ·exact o8 x h
   ·omega
 ·rw[Jd (show¬decide ((n:Int)<(p:Int))=true from dn (by omega))];obtain rfl:n=p:=by omega
  refine Xb r8.seg fun q' _ =>?_
  have hlen:(JX id q++[128,128]++(List.range n).flatMap fun i=>Xj (JX id q) i 0 (2^w-1) (V3 (JX id q) i seed)).length≤3000:=by
   rw[YAK,YAK,hhl,Px sl];simp;omega
  refine ZBS.s (l:=JX id q++[128,128]++(List.range n).flatMap fun i=>Xj (JX id q) i 0 (2^w-1) (V3 (JX id q) i seed)) (by omega) fun h12 k12 =>?_;unfold TU Hl at hK;generalize Yt (JX id q++[128,128]++(List.range n).flatMap fun i=>Xj (JX id q) i 0 (2^w-1) (V3 (JX id q) i seed))=V at *;have k112:Jc [] h1 h12:=k8.n k12;refine JL (k112.g e1) fun h13 k13 e13 hs13=>Jb (Je e13) ?_;exact hK V h13 rfl ((k1.n k112).new k13 (by simp;omega))
def ZCi.s{s:By}{i w:Nat}{h:Ja}{K:Int→Hp} (hw:w=4∨w=8) (hi:i≤100) (hl:i*w+w≤8*s.length) (hK:K ((Qc s i w:Nat):Int) h):ZCi.C (bx s) (i:Int) (w:Int) h K:=by
 apply ZCi.c;unfold ZCi.m;have hmost:Jr (QQ 1 (w:Int)-1)=((2^w-1:Nat):Int):=by rcases hw with rfl | rfl <;> decide
 have hnw:i*w≤800:=by rcases hw with rfl | rfl <;> omega
 have hat:Jr ((i:Int)*(w:Int))=((i*w:Nat):Int):=by rw[JE (by rw[←Int.natCast_mul];omega) (by rw[←Int.natCast_mul];omega)];exact(Int.natCast_mul i w).symm
 have hdv:Jr (((i*w:Nat):Int).tdiv 8)=((i*w/8:Nat):Int):=by
  rw[Int.tdiv_eq_ediv_of_nonneg (by omega),JE (by omega) (by omega)];omega
 have hmd:(((i*w:Nat):Int)).tmod 8=((i*w%8:Nat):Int):=by
  rw[Int.tmod_eq_emod_of_nonneg (by omega)];omega
 have hr8:i*w%8+w≤8:=by rcases hw with rfl | rfl <;> omega
 have hw48:4≤w∧w≤8:=by rcases hw with rfl | rfl <;> decide
 have hsh:Jr (Jr (8-(w:Int))-((i*w%8:Nat):Int))=((8-w-i*w%8:Nat):Int):=by
  rw[JE (n:=8-(w:Int)) (by omega) (by omega),JE (by omega) (by omega)];omega
 rw[hat,hdv];refine⟨by decide,?_⟩;have hqi:i*w/8<s.length:=by omega
 refine Z2 hqi ⟨by decide,?_⟩;rw[hmd,hsh,hmost];refine⟨YAc _,YAc _,?_⟩
 have hby:s[i*w/8]=s.getD (i*w/8) 0:=by
  rw[YAG,YAH hqi];rfl
 rw[hby];have hbl:=(s.getD (i*w/8) 0).toNat_lt;rw[Pn hbl hw (by omega)];exact hK
def zI{w n:Nat}{q:By} (h2:2^w≤256):ZT w ((List.range n).map fun i=>Qc q i w)≤255*n:=by
 unfold ZT
 induction n with
 | zero=>simp
 | succ n ih =>
   rw[YAV,YAQ,YAQ,List.sum_append];simp only[List.map_cons,List.map_nil,List.sum_cons,List.sum_nil];omega
def ZDH.s{kind:Int}{hd c msg:By}{w p ls:Nat}{h:Ja}{K:Jn→Hp} (hk:Ys kind=some (w,p,ls)) (hl:hd.length+c.length+msg.length≤900000)
 (hK:∀h' s,Jc [] h h'→JR h' Qp .i s ((Ga w p ls hd c msg).map fun d=>((d:Nat):Int))→K s h'):ZDH.C kind (bx hd) (bx c) (bx msg) h K:=by
 obtain⟨hc,w4,w8,p34,p67,h2a,h2b,hpl,hmost⟩:=Dj hk;have hw:w=4∨w=8:=by rcases hc with h | h <;> cases h <;> simp
 have h256:256/w*w=256:=by rcases hw with rfl | rfl <;> decide
 have h64:256/w≤64∧p-256/w≤3∧(p-256/w)*w≤16∧ls≤4:=by rcases hc with h | h <;> cases h <;> decide
 apply ZDH.c;unfold ZDH.m;refine ZBL.s ?_;rw[hk];simp only[Option.getD_some];show JS (bx hd) (bx [129,129]) _;refine JM (by simp;omega) ?_;refine JM (by simp;omega) ?_;refine JM (by simp;omega) ?_;refine ZDC.s (by simp;omega) fun h2 k2 =>?_;unfold Ga Vn X3 at hK;have hql:(Hl (hd++[129,129]++c++msg)).length=32:=X7;generalize Hl (hd++[129,129]++c++msg)=q at *;have hdv:Jr ((256:Int).tdiv (w:Int))=((256/w:Nat):Int):=by rcases hw with rfl | rfl <;> decide
 have hsl1:QQ 1 (w:Int)=((2^w:Nat):Int):=by rcases hw with rfl | rfl <;> decide
 refine JF (fun(y:Int×Jn×Int×Unit) (h3:Ja)=>∃n:Nat,y.2.2.1=n∧n≤256/w∧y.1=((ZT w ((List.range n).map fun i=>Qc q i w):Nat):Int)∧Jc [] h h3∧JR h3 Qp .i y.2.1 (((List.range n).map fun i=>Qc q i w).map fun d=>((d:Nat):Int))∧∀x∈own y.2.1,h.size≤x) (fun(y:Int×Jn×Int×Unit) _=>256/w-y.2.2.1.toNat) ?_ ?_
 ·exact⟨0,rfl,YAl _,rfl,k2,.inl ⟨rfl,rfl⟩,by simp[own]⟩
 rintro⟨(sm:Int),(s3:Jn),(jj:Int),_⟩ h3 ⟨n,e,hn,es,k3,r3,o3⟩;dsimp only at e es r3 o3 ⊢;subst e;subst es;have hsb:=zI (w:=w) (n:=n) (q:=q) h2a;refine⟨show(w:Int)≠0 by omega,?_⟩;by_cases hlt:n<256/w
 ·rw[Jf (show decide ((n:Int)<Jr ((256:Int).tdiv (w:Int)))=true from dT (by rw[hdv];omega))]
  have hnw:n*w+w≤256:=by
   have:(n+1)*w≤256/w*w:=Nat.mul_le_mul_right _ hlt;rw[Nat.add_mul,Nat.one_mul,h256]at this;exact this
  refine ZCi.s hw (by omega) (by omega) ?_;refine⟨YAc w,?_⟩;refine QN fun b5 h5 hb5 k5 r5 hs5 =>?_;refine QI r5.seg (by simp[Kd.size]) ?_;refine X8 (T:=Qp) (k := .i) (ys:=[((Qc q n w:Nat):Int)]) (r3.keep k5 (by simp)) rfl rfl (by simp;omega) fun s6 h6 r6 k6 o6 =>?_;have hdl:=Ul (s:=q) (i:=n) (w:=w);have hrs:(List.range (n+1)).map (fun j=>Qc q j w)=(List.range n).map (fun j=>Qc q j w)++[Qc q n w]:=by rw[YAV,YAQ];rfl
  have hsO:ZT w ((List.range (n+1)).map fun j=>Qc q j w)=ZT w ((List.range n).map fun j=>Qc q j w)+(2^w-1-Qc q n w):=by
   rw[hrs];unfold ZT;simp
  have hw1:Jr ((n:Int)+1)=((n+1:Nat):Int):=w6 (by omega);rw[hw1,hsl1];have z3:=k3.1;have z5:=k5.1;refine⟨⟨n+1,rfl,by omega,?_,(k3.n k5).new k6 o3,?_,fun x hx =>?_⟩,by simp;omega⟩
  ·rw[hsO];generalize ZT w ((List.range n).map fun j=>Qc q j w)=S at *;generalize Qc q n w=d at *;generalize 2^w=W at *;rw[JE (n:=(S:Int)+(W:Int)) (by omega) (by omega),JE (n:=(S:Int)+(W:Int)-1) (by omega) (by omega),JE (by omega) (by omega)];omega
  ·rw[hrs,YAQ];exact r6
  ·rcases XO o6 x hx with h | h
   ·exact o3 x h
   ·omega
 ·rw[Jd (show¬decide ((n:Int)<Jr ((256:Int).tdiv (w:Int)))=true from fun h=>by have:=of_decide_eq_true h;rw[hdv]at this;omega)];obtain rfl:n=256/w:=by omega
  refine⟨YAc ls,?_⟩;generalize hA:(List.range (256/w)).map (fun i=>Qc q i w)=A at *;have hAl:A.length=256/w:=by rw[←hA];simp
  generalize hS:ZT w A=S at *
  have hSb:S*2^ls≤261120:=by
   have h1:2^ls≤2^4:=YAi (by decide) h64.2.2.2;have h2:S≤16320:=by omega
   have h3:S*2^ls≤16320*2^4:=Nat.mul_le_mul h2 h1;omega
  rw[Vb (by omega) (by omega)];refine ZAA.s (n:=2) (by decide) (by decide) (by omega) fun h7 k7 =>?_;have k07:Jc [] h h7:=k3.n k7;generalize hT:be (S*2^ls) 2=T at *;have hTl:T.length=2:=by rw[←hT,Jj]
  refine JF (fun(y:Jn×Int×Unit) (h8:Ja)=>∃n:Nat,y.2.1=n∧n≤p-256/w∧Jc [] h h8∧JR h8 Qp .i y.1 ((A++(List.range n).map fun i=>Qc T i w).map fun d=>((d:Nat):Int))∧∀x∈own y.1,h.size≤x) (fun(y:Jn×Int×Unit) _=>p-256/w-y.2.1.toNat) ?_ ?_
  ·exact⟨0,rfl,YAl _,k07,by simpa using r3.keep k7 (by simp),o3⟩
  rintro⟨(s8:Jn),(jj:Int),_⟩ h8 ⟨n,e,hn2,k8,r8,o8⟩;dsimp only at e r8 o8 ⊢;subst e;have hl8:s8.len=256/w+n:=by rw[r8.len];simp[hAl]
  by_cases hlt2:n<p-256/w
  ·rw[Jf (show decide ((s8.len:Int)<(p:Int))=true from dT (by omega))]
   have hnw:n*w+w≤16:=by
    have:(n+1)*w≤(p-256/w)*w:=Nat.mul_le_mul_right _ hlt2;rw[Nat.add_mul,Nat.one_mul]at this;omega
   show ZCi.C (bx T) (n:Int) (w:Int) h8 _;refine ZCi.s hw (by omega) (by omega) ?_;refine QN fun b5 h5 hb5 k5 r5 hs5 =>?_;refine QI r5.seg (by simp[Kd.size]) ?_;refine X8 (T:=Qp) (k := .i) (ys:=[((Qc T n w:Nat):Int)]) (r8.keep k5 (by simp)) rfl rfl (by simp[hAl];omega) fun s6 h6 r6 k6 o6 =>?_;have hw1:Jr ((n:Int)+1)=((n+1:Nat):Int):=w6 (by omega);rw[hw1];have z3:=k8.1;have z5:=k5.1;refine⟨⟨n+1,rfl,by omega,(k8.n k5).new k6 o8,?_,fun x hx =>?_⟩,by simp;omega⟩
   ·rw[YAV];simpa using r6
   ·rcases XO o6 x hx with h | h
    ·exact o8 x h
    ·omega
  ·rw[Jd (show¬decide ((s8.len:Int)<(p:Int))=true from dn (by omega))];obtain rfl:n=p-256/w:=by omega
   exact hK h8 s8 k8 r8
end Go.Proofs.Tryz
