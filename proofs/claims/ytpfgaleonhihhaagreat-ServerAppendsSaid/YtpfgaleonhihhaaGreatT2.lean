import Derived.Test.YtpfgaleonhihhaaGreatT1
import Derived.Lib.Overlaps
import Derived.Shelf.Strings.Search2
set_option linter.defProp false
set_option linter.unusedVariables false
set_option linter.unusedSimpArgs false
set_option maxRecDepth 100000
open List renaming all_eq_true → YAA, append_assoc → YAB, append_nil → YAC, drop_drop → YAD, drop_eq_nil_of_le → YAE, flatMap_append → YAF, flatMap_cons → YAG, flatMap_nil → YAH, getD_eq_getElem?_getD → YAI, getElem?_eq_getElem → YAJ, getElem?_eq_none → YAK, getElem_map → YAL, getElem_mem → YAM, length_append → YAN, length_cons → YAO, length_drop → YAP, length_map → YAQ, length_nil → YAR, length_take → YAS, map_append → YAT, mem_append → YAU, mem_cons → YAV, not_mem_nil → YAW, take_of_length_le → YAX, take_subset → YAY, take_succ_eq_append_getElem → YAZ, take_zero → YAa
open Int renaming tmod_eq_emod_of_nonneg → YAb, toNat_natCast → YAc, toNat_of_nonneg → YAd
open Nat renaming add_mul → YAe, le_refl → YAf, min_eq_left → YAg, min_eq_right → YAh, mul_comm → YAi, mul_le_mul_left → YAj, zero_le → YAk
open Bool renaming and_eq_true → YAl, true_and → YAm
open UInt8 renaming toNat_ofNat' → YAn
open Vector renaming getElem_setIfInBounds → YAo, length_toList → YAp
namespace Go.Proofs.Tryz
open Go Go.Al
def Pp(e:UI):Int:=e.2.1.1
def Po(e:UI):Int:=e.2.1.2.1
def QP(e:UI):List UInt8:=be e.1.size 1++e.1.data.toList++be (Pp e).toNat 1++be (Po e).toNat 1
def JW(es:List UI):List UInt8:=be 68 1++be es.length 1++es.flatMap QP
def Tw{e:UI} (h:XV e=true):1≤e.1.size∧e.1.size≤24∧0≤Pp e∧Pp e<24∧1≤Po e∧Po e≤32:=by
 unfold XV YH Gg at h;simp only[YAl,Qg]at h;obtain⟨⟨⟨⟨⟨⟨a,b⟩,_⟩,_⟩,_⟩,_⟩,⟨⟨c,d⟩,e⟩,f⟩:=h;exact⟨a,b,c,d,e,f⟩
def U4{xs:List UI} (h:QS xs=true):xs.length≤32∧Vw xs=true∧∀e∈xs,XV e=true:=by
 unfold QS at h;simp only[YAl,Qg]at h;exact⟨h.1.1,h.1.2,List.all_eq_true.1 h.2⟩
def Tv{e:UI}:(QP e).length=e.1.size+3:=by
 have:e.1.data.toList.length=e.1.size:=rfl;simp only[QP,YAN,Jj,this];omega
def Gv:∀ {xs:List UI},(∀e∈xs,XV e=true)→(xs.flatMap QP).length≤27*xs.length
 | [],_=>by simp
 | x :: r, h => by
   have h1:=Gv (xs:=r) fun e he=>h e (by simp[he]);have h2:=Tw (h x (by simp));rw[YAG,YAN,Tv,YAO];omega
def Td{xs:List UI}{t:Nat} (h:t<xs.length):(xs.take (t+1)).flatMap QP=(xs.take t).flatMap QP++QP xs[t]:=by
 rw[YAZ h];simp only[YAF,YAG,YAH,YAC]
def ZEB.s{es:Jn}{xs:List UI}{h:Ja}{K:Ba→Int→Hp} (g:Q5 DE es xs h)
 (hK:∀h',Jc [] h h'→K (if QS xs=true then⟨(JW xs).toArray⟩ else⟨#[]⟩) (if QS xs=true then 0 else 1300) h'):ZEB.C es h K:=by
 apply ZEB.c;unfold ZEB.m;have hlen:=g.len;refine ZDx.s g fun h1 k1 =>?_
 cases hm:QS xs with
 | false =>
   rw[Jf (by rfl)];rw[hm]at hK;exact hK _ k1
 | true =>
   rw[Jd (by simp)];rw[hm]at hK;simp only[if_true]at hK;obtain⟨hl,_,hall⟩:=U4 hm;refine ZBl.s fun h2 k2 w2 =>?_;have q2:NW h h2 h1.size ⟨none,0,0⟩ []:=⟨k1.n k2,w2,k1.1,by simp[own]⟩;generalize h1.size=w at q2 ⊢;refine q2.num (x:=68) (n:=1) (.inl rfl) (by decide) (by simp) fun h3 s3 q3 k3 _ =>?_;rw[hlen];refine q3.num (x:=xs.length) (n:=1) (.inl rfl) (by omega) (by simp[Jj]) fun h4 s4 q4 k4 _ =>?_;refine JF (fun(y:Int×Unit) (h5:Ja)=>0≤y.1∧y.1≤xs.length∧∃s5,NW h h5 w s5 (be 68 1++be xs.length 1++(xs.take y.1.toNat).flatMap QP)) (fun(y:Int×Unit) _=>xs.length-y.1.toNat) ?_ ?_
   ·exact⟨by simp,by simp,s4,by simpa using q4⟩
   ·rintro⟨(i:Int),_⟩ h5 ⟨i0,i1,s5,q5⟩;dsimp only at *;split
    ·rename_i hlt
     have hlt:i<xs.length:=by simpa using hlt
     obtain⟨t,rfl⟩:∃t:Nat,i=t:=⟨i.toNat,by omega⟩;have ht:t<xs.length:=by omega
     have hw:Jr ((t:Int)+1)=(t:Int)+1:=JE (by omega) (by omega);rw[hw];simp only[YAc]at q5;have hent:=Tw (hall xs[t] (YAM ht));have hfl:=Gv (xs:=xs.take t) (fun e he=>hall e (YAY _ _ he));have hfl2:(xs.take t).length≤32:=by simp;omega
     have htl:((xs.take t).flatMap QP).length≤864:=by omega
     refine JK (x:=xs[t]) (g.keep (by decide) q5.k) i0 (by simp[ht]) rfl ?_;refine XN (Yb JA ?_);have kb:Jc [] h5 ((h5.push (Jg QZ DE (⟨#[]⟩,((0,(0,())),())))).setIfInBounds h5.size (Jg QZ DE xs[t])):=Ju.new Jo (by simp);have hb:((h5.push (Jg QZ DE (⟨#[]⟩,((0,(0,())),())))).setIfInBounds h5.size (Jg QZ DE xs[t]))[h5.size]? = some (Jg QZ DE xs[t]):=Jw JA;have q6:=q5.keep kb (by simp);have nb:h5.size∉w::own s5:=q5.out (.inr ⟨by have:=Jl q5.i.o;omega,fun hm=>by have:=q5.i.r.lt _ hm;omega⟩);have hbs:=Jl hb;have hle5:=q5.k.1;generalize h5.size=b at *;generalize ((h5.push (Jg QZ DE (⟨#[]⟩,((0,(0,())),())))).setIfInBounds b (Jg QZ DE xs[t]))=h6 at *;have hfe:=Td ht;generalize xs[t]=e at *;refine⟨e.1,WJ (Je hb),?_⟩;refine q6.text (n:=1) (.inl rfl) (by omega) (by simp only[YAN,Jj];omega) fun h7 s7 q7 k7 o7 =>?_;have hb7:=k7.get hb nb;have nb7:b∉w::own s7:=o7 b hbs nb;refine⟨Pp e,ER (Je hb7),?_⟩;obtain⟨o,ho⟩:∃o:Nat,Pp e=o:=⟨(Pp e).toNat,by omega⟩;rw[ho];refine q7.num (x:=o) (n:=1) (.inl rfl) (by omega) (by simp only[YAN,Jj];have:e.1.data.toList.length=e.1.size:=rfl;omega) fun h8 s8 q8 k8 _ =>?_;have hb8:=k8.get hb7 nb7;refine⟨Po e,Tu (Je hb8),?_⟩;obtain⟨m,hm'⟩:∃m:Nat,Po e=m:=⟨(Po e).toNat,by omega⟩;rw[hm'];refine q8.num (x:=m) (n:=1) (.inl rfl) (by omega) (by simp only[YAN,Jj];have:e.1.data.toList.length=e.1.size:=rfl;omega) fun h9 s9 q9 k9 _ =>?_;refine⟨⟨by omega,by omega,s9,?_⟩,by omega⟩;rw[show((t:Int)+1).toNat=t+1 by omega,hfe]
     have he:QP e=be e.1.size 1++e.1.data.toList++be o 1++be m 1:=by
      unfold QP;rw[ho,hm'];simp only[YAc]
     rw[he];simpa only[YAB] using q9
    ·rename_i hge
     have hge:¬i<xs.length:=by simpa using hge
     obtain rfl:i=xs.length:=by omega
     simp only[YAc]at q5;rw[YAX (YAf _)]at q5;refine ZAK.s q5.i ?_;exact hK _ q5.k
def ZDP.s{es:Jn}{xs:List UI}{h:Ja}{K:Ba→Int→Hp} (g:Q5 DE es xs h) (hl0:xs.length≤9223372036854775807)
 (hK:∀h',Jc [] h h'→K (if QS xs=true then⟨(JW xs).toArray⟩ else⟨#[]⟩) (if QS xs=true then 0 else 1300) h'):ZDP.C es h K:=by
 apply ZDP.c;unfold ZDP.m;have hlen:=g.len;refine ZCU.s g hl0 fun h1 k1 =>?_
 cases hm:QS xs with
 | false =>
   rw[Jf (by rfl)];rw[hm]at hK;exact hK _ k1
 | true =>
   rw[Jd (by simp)];rw[hm]at hK;simp only[if_true]at hK;obtain⟨hl,_,hall⟩:=U4 hm;rw[hlen];refine ZAA.s (x:=xs.length) (n:=1) (by decide) (by decide) (by omega) fun h2 k2 =>?_;refine Zl (by rw[ZF];decide) ?_
   have e68:((⟨#[68]⟩:Ba).data.toList++(⟨(be xs.length 1).toArray⟩:Ba).data.toList)=be 68 1++be xs.length 1:=by
    simp only[List.toList_toArray]
    rfl
   rw[e68];have kk2:=k1.n k2;refine JF (fun(y:Ba×Int×Unit) (h3:Ja)=>0≤y.2.1∧y.2.1≤xs.length∧Jc [] h h3∧y.1=⟨(be 68 1++be xs.length 1++(xs.take y.2.1.toNat).flatMap QP).toArray⟩) (fun(y:Ba×Int×Unit) _=>xs.length-y.2.1.toNat) ?_ ?_
   ·exact⟨by simp,by simp,kk2,by simp⟩
   ·rintro⟨(s:Ba),(i:Int),_⟩ h3 ⟨i0,i1,k3,hs⟩;dsimp only at *;split
    ·rename_i hlt
     have hlt:i<xs.length:=by simpa using hlt
     obtain⟨t,rfl⟩:∃t:Nat,i=t:=⟨i.toNat,by omega⟩;have ht:t<xs.length:=by omega
     have hw:Jr ((t:Int)+1)=(t:Int)+1:=JE (by omega) (by omega);rw[hw];simp only[YAc]at hs;have hent:=Tw (hall xs[t] (YAM ht));have hfl:=Gv (xs:=xs.take t) (fun e he=>hall e (YAY _ _ he));have hfl2:(xs.take t).length≤32:=by simp;omega
     have htl:((xs.take t).flatMap QP).length≤864:=by omega
     have hfe:=Td ht;obtain⟨l,hl1,hx⟩:=Wx (g.keep (by decide) k3) ht;have hx:sm DE ⟨l.b,l.o+(t:Int).toNat*3⟩ xs[t] h3:=hx;have hes:(t:Int)<es.len:=by omega
     generalize xs[t]=e at *;obtain⟨o,ho⟩:∃o:Nat,Pp e=o:=⟨(Pp e).toNat,by omega⟩;obtain⟨m,hm'⟩:∃m:Nat,Po e=m:=⟨(Po e).toNat,by omega⟩;refine⟨l,hl1,i0,hes,e.1,WJ hx,l,hl1,i0,hes,e.1,WJ hx,l,hl1,i0,hes,Pp e,ER hx,l,hl1,i0,hes,Po e,Tu hx,?_⟩;refine ZAA.s (x:=e.1.size) (n:=1) (by decide) (by decide) (by omega) fun h4 k4 =>?_;have hx4:=Zj hx k4 (by simp);have hel:e.1.data.toList.length=e.1.size:=rfl;refine⟨Tu hx4,ER hx4,WJ hx4,?_⟩;have hsl:s.data.toList=be 68 1++be xs.length 1++(xs.take t).flatMap QP:=by rw[hs]
     have hss:s.size=2+((xs.take t).flatMap QP).length:=by rw[hs,Ui];simp only[YAN,Jj]
     refine Zl (by rw[ZF];omega) ?_;refine Zl (by rw[Ui];simp only[YAN,hsl,Jj];omega) ?_;rw[ho];refine ZAA.s (x:=o) (n:=1) (by decide) (by decide) (by omega) fun h5 k5 =>?_;have hx5:=Zj hx4 k5 (by simp);refine⟨Tu hx5,WJ hx5,?_⟩;refine Zl (by rw[Ui,ZF];simp only[YAN,hsl,Jj];omega) ?_;rw[hm'];refine ZAA.s (x:=m) (n:=1) (by decide) (by decide) (by omega) fun h6 k6 =>?_;have hx6:=Zj hx5 k6 (by simp);refine⟨WJ hx6,?_⟩;refine Zl (by rw[Ui,ZF];simp only[YAN,hsl,Jj];omega) ?_;refine⟨⟨by omega,by omega,((k3.n k4).n k5).n k6,?_⟩,by omega⟩;rw[show((t:Int)+1).toNat=t+1 by omega,hfe]
     have he:QP e=be e.1.size 1++e.1.data.toList++be o 1++be m 1:=by
      unfold QP;rw[ho,hm'];simp only[YAc]
     rw[he,hsl];simp only[YAB]
    ·rename_i hge
     have hge:¬i<xs.length:=by simpa using hge
     obtain rfl:i=xs.length:=by omega
     simp only[YAc]at hs;rw[YAX (YAf _)]at hs;rw[hs];exact hK _ k3
def Sv:∀ {x y z:List UInt8},Op.bytesLess x y=true→Op.bytesLess y z=true→Op.bytesLess x z=true
 | x,y,[],_,h=>by cases y <;> simp[Op.bytesLess]at h
 | x,[],c::z,h,_=>by cases x <;> simp[Op.bytesLess]at h
 | [],b::y,c::z,_,_=>rfl
 | a :: x, b :: y, c :: z, h1, h2 => by
   unfold Op.bytesLess at *;simp only[Bool.or_eq_true,Qg,YAl,beq_iff_eq]at *;rcases h1 with h1 | ⟨rfl,h1⟩ <;> rcases h2 with h2 | ⟨rfl,h2⟩
   ·exact .inl (UInt8.lt_trans h1 h2)
   ·exact .inl h1
   ·exact .inl h2
   ·exact .inr ⟨rfl,Sv h1 h2⟩
def lt_trans{x y z:Ba} (h1:Wp x y=true) (h2:Wp y z=true):Wp x z=true:=Sv h1 h2
def wZ{i j:Nat} (h:i+j<9223372036854775808):Jr ((Gk .shr (VL (Jr ((i:Int)+(j:Int)))) ((1:UInt64).toNat:Int)).toNat:Int)=(((i+j)/2:Nat):Int):=by
 have h1:Jr ((i:Int)+(j:Int))=((i+j:Nat):Int):=w6 (by omega)
 have h2:(VL ((i+j:Nat):Int)).toNat=i+j:=by
  have:=WT ((i+j:Nat):Int);rw[IntKind.wrap_u64]at this;omega
 have e1:(((1:UInt64).toNat:Int))=1:=by decide
 rw[h1,e1];unfold Gk;simp only[h2]
 have h3:(((i+j:Nat):Int)).fdiv (2^(min (1:Int).toNat 64))=(((i+j)/2:Nat):Int):=by
  rw[show min (1:Int).toNat 64=1 by decide,Int.fdiv_eq_ediv_of_nonneg _ (by decide)];omega
 rw[h3]
 have h4:(VL (((i+j)/2:Nat):Int)).toNat=(i+j)/2:=by
  have:=WT (((i+j)/2:Nat):Int);rw[IntKind.wrap_u64]at this;omega
 rw[h4,JE (by omega) (by omega)]
def MB:List UInt8→Int×Int×List UInt8
 | []=>(0,300,[])
 | b::r=>((b.toNat:Int),0,r)
def vo:List UInt8→List UInt8×Int×List UInt8
 | []=>([],300,[])
 | b::r=>if b.toNat≤r.length then(r.take b.toNat,0,r.drop b.toNat) else([],300,b::r)
def vO(l:List UInt8):UI×Int×List UInt8:=
 ((bx (vo l).1,(((MB (vo l).2.2).1,((MB (MB (vo l).2.2).2.2).1,())),())),(MB (MB (vo l).2.2).2.2).2.1,(MB (MB (vo l).2.2).2.2).2.2)
def rdM:Nat→List UInt8→List UI→List UI×Int
 | 0,_,acc=>(acc,0)
 | n+1,l,acc=>if (vO l).2.1≠0 then([],(vO l).2.1) else rdM n (vO l).2.2 (acc++[(vO l).1])
def be1{x:Nat}:be x 1=[UInt8.ofNat x]:=by simp[be]
def VG{x:Nat}{r:List UInt8} (h:x<256):MB (be x 1++r)=((x:Int),0,r):=by
 rw[be1];simp only[List.singleton_append,MB];have:(UInt8.ofNat x).toNat=x:=by rw[YAn];omega
 rw[this]
def zr{e:UI}{r:List UInt8} (h:XV e=true):vO (QP e++r)=(e,0,r):=by
 have hb:=Tw h;have hl:e.1.data.toList.length=e.1.size:=rfl
 have ht:vo (QP e++r)=(e.1.data.toList,0,be (Pp e).toNat 1++(be (Po e).toNat 1++r)):=by
  unfold QP;rw[be1 (x:=e.1.size)];simp only[YAB,List.singleton_append,List.cons_append,List.nil_append,vo];have hs:(UInt8.ofNat e.1.size).toNat=e.1.size:=by rw[YAn];omega
  rw[hs,Jf (by rw[YAN,hl];omega)];rw[List.take_left' hl,List.drop_left' hl]
 unfold vO;rw[ht];simp only;rw[VG (by omega)];simp only;rw[VG (by omega)];simp only;rw[Vm];obtain⟨(n:Ba),⟨(a:Int),(c:Int),_⟩,_⟩:=e;simp only[Pp,Po]at hb ⊢;rw[YAd hb.2.2.1,YAd (by have:=hb.2.2.2.2.1;omega)]
def T0:∀(es:List UI) (r:List UInt8) (acc:List UI),(∀e∈es,XV e=true)→rdM es.length (es.flatMap QP++r) acc=(acc++es,0)
 | [],r,acc,_=>by simp[rdM]
 | e :: t, r, acc, h => by
   have he:=zr (r:=t.flatMap QP++r) (h e (by simp));rw[YAG,YAB,YAO];simp only[rdM];rw[he];simp only[ne_eq,not_true_eq_false,if_false];rw[T0 t r (acc++[e]) (fun x hx=>h x (by simp[hx]))];simp
def ZCO.s{e:Int}{h:Ja}{K:Int→Hp} (hK:K e h):ZCO.C e h K:=ZCO.c e hK
def zk{xs ys:List UI} (hx:QS xs=true) (hy:QS ys=true) (e:bx (JW xs)=bx (JW ys)):xs=ys:=by
 obtain⟨lx,_,ax⟩:=U4 hx;obtain⟨ly,_,ay⟩:=U4 hy;have h1:=T0 xs [] [] ax;have h2:=T0 ys [] [] ay
 have e0:JW xs=JW ys:=by
  have:=congrArg (fun x:Ba=>x.data.toList) e;simpa[bx] using this
 have e1:MB (JW xs)=MB (JW ys):=by rw[e0]
 have p1:∀zs:List UI,JW zs=be 68 1++(be zs.length 1++(zs.flatMap QP++[])):=fun zs=>by simp[JW]
 rw[p1 xs,p1 ys,VG (by decide),VG (by decide)]at e1;have e2:=congrArg (fun x=>MB x.2.2) e1;simp only at e2;rw[VG (by omega),VG (by omega)]at e2;simp only[Prod.mk.injEq]at e2;have hl:xs.length=ys.length:=by omega
 rw[hl,e2.2.2,h2]at h1;simpa using (congrArg Prod.fst h1).symm
abbrev jM:Kd := .ag (.pr .s (.pr .i .un))
structure Zb (h:Ja) (r:Nat) (l:List UInt8):Prop where
 ex:∃(s:Ba) (a:Nat),h[r]? = some (Jg Q4 jM (s,((a:Int),())))∧l=s.data.toList.drop a∧a≤s.size∧s.size≤9223372036854775807
structure yr (h:Ja) (r:Nat) (s:Ba) (a:Nat):Prop where
 o:h[r]? = some (Jg Q4 jM (s,((a:Int),())))
 ha:a≤s.size
 hs:s.size≤9223372036854775807
def yr.rr{h:Ja}{r:Nat}{s:Ba}{a:Nat} (i:yr h r s a):Zb h r (s.data.toList.drop a):=⟨s,a,i.o,rfl,i.ha,i.hs⟩
def Zb.keep{h h':Ja}{r:Nat}{l:List UInt8}{S:List Nat} (i:Zb h r l) (k:Jc S h h') (hn:r∉S):Zb h' r l:=by
 obtain⟨s,a,e,q⟩:=i.ex;exact⟨s,a,k.get e hn,q⟩
def ZDZ.s0{n:Nat}{h:Ja}{K:Bool→Hp} (hn:n=1∨n=2∨n=4) (hK:K true h):ZDZ.C 0 n h K:=by
 apply ZDZ.c;unfold ZDZ.m;refine JH (true,()) h ?_ hK;rcases hn with rfl | rfl | rfl
 ·rw[Jf (by decide),Jf (by decide)];exact⟨by decide,by kernel_rfl,by first | rfl | trivial⟩
 ·rw[Jd (by decide),Jf (by decide),Jf (by decide)];exact⟨by decide,by kernel_rfl,by first | rfl | trivial⟩
 ·rw[Jd (by decide),Jd (by decide),Jf (by decide),Jf (by decide)];exact⟨by decide,by kernel_rfl,by first | rfl | trivial⟩
def ZB9.s{r:Nat}{l:List UInt8}{h:Ja}{K:Int→Hp} (i:Zb h r l) (hK:K (l.length:Int) h):ZA9.C (some ⟨r,0⟩) h K:=by
 apply ZA9.c;unfold ZA9.m;obtain⟨s,a,e,rfl,ha,hs⟩:=i.ex;refine⟨_,rfl,s,Jv e rfl (by decide),_,rfl,(a:Int),Jv e rfl (by decide),?_⟩;dsimp only;have hl:s.data.toList.length=s.size:=rfl
 have:Jr ((s.size:Int)-(a:Int))=((s.data.toList.drop a).length:Int):=by
  rw[JE (by omega) (by omega),YAP,hl];omega
 rw[this];exact hK
def ref1_Num.q{r n a:Nat}{s:Ba}{l:List UInt8}{h:Ja}{K:Int→Int→Hp} (i:yr h r s a) (el:l=s.data.toList.drop a) (hn:n=1∨n=2∨n=4) (hbad:l.length<n→K 0 300 h)
 (hok:n≤l.length→∀h',Jc [r] h h'→yr h' r s (a+n)→K (JU (l.take n)) 0 h'):ZAJ.C (some ⟨r,0⟩) n h K:=by
 apply ZAJ.c;unfold ZAJ.m;refine ZDZ.s0 hn ?_;rw[Jd (by simp)];refine ZB9.s i.rr ?_;rw[←el];by_cases hl:l.length<n
 ·rw[Jf (by simp;omega)];exact hbad hl
 ·rw[Jd (by simp;omega)];have hle:n≤l.length:=by omega
  have htl:(l.take n).length=n:=by simp;omega
  refine JF (fun(y:Int×Int×Unit) (h2:Ja)=>h2=h∧0≤y.2.1∧y.2.1≤n∧y.1=(JU ((l.take n).take y.2.1.toNat):Nat)) (fun(y:Int×Int×Unit) _=>n-y.2.1.toNat) ?_ ?_
  ·exact⟨rfl,by simp,by simp,by simp[JU]⟩
  ·rintro⟨(p:Int),(q:Int),_⟩ h2 ⟨rfl,q0,q1,hp⟩;dsimp only at *;obtain⟨e,ha,hs⟩:=i;subst el;have hsl:s.data.toList.length=s.size:=rfl;have hdl:(s.data.toList.drop a).length=s.size-a:=by rw[YAP,hsl]
   split
   ·rename_i hlt
    have hlt:q<n:=by simpa using hlt
    obtain⟨t,rfl⟩:∃t:Nat,q=t:=⟨q.toNat,by omega⟩;have ht:t<((s.data.toList.drop a).take n).length:=by omega
    have hw:Jr ((t:Int)+1)=(t:Int)+1:=JE (by omega) (by omega);rw[hw];refine⟨by decide,_,rfl,s,Jv e rfl (by decide),_,rfl,(a:Int),Jv e rfl (by decide),?_⟩;dsimp only;have hwa:Jr ((a:Int)+(t:Int))=((a+t:Nat):Int):=w6 (by omega);rw[hwa];refine G9 (by omega) ?_;have hge:s.data.toList[a+t]'(by omega)=((s.data.toList.drop a).take n)[t]:=by rw[List.getElem_take,List.getElem_drop]
    rw[hge];simp only[YAc]at hp;have hv:=VP (((s.data.toList.drop a).take n).take t);have hv2:(((s.data.toList.drop a).take n).take t).length≤3:=by simp;omega
    have hv3:(256:Nat)^(((s.data.toList.drop a).take n).take t).length≤256^3:=Nat.pow_le_pow_right (by decide) hv2;have hv4:(256:Nat)^3=16777216:=by decide
    rw[hp,RY (by omega),←Pg ht];refine⟨⟨by first | rfl | trivial,by omega,by omega,?_⟩,by omega⟩;rw[show((t:Int)+1).toNat=t+1 by omega]
   ·rename_i hge
    have hge:¬q<n:=by simpa using hge
    obtain rfl:q=n:=by omega
    simp only[YAc]at hp;rw[YAX (by omega)]at hp;rw[hp];refine⟨_,rfl,(a:Int),Jv e rfl (by decide),_,rfl,?_⟩;dsimp only;have hwa:Jr ((a:Int)+(n:Int))=((a+n:Nat):Int):=w6 (by omega);rw[hwa];refine Qm (x':=(s,(((a+n:Nat):Int),()))) e (by decide) rfl ?_;exact hok hle _ Jo ⟨Jw e,by omega,hs⟩
def ref1_Num.s{r n:Nat}{l:List UInt8}{h:Ja}{K:Int→Int→Hp} (i:Zb h r l) (hn:n=1∨n=2∨n=4) (hbad:l.length<n→K 0 300 h)
 (hok:n≤l.length→∀h',Jc [r] h h'→Zb h' r (l.drop n)→K (JU (l.take n)) 0 h'):ZAJ.C (some ⟨r,0⟩) n h K:=by
 obtain⟨s,a,e,rfl,ha,hs⟩:=i.ex;refine ref1_Num.q ⟨e,ha,hs⟩ rfl hn hbad fun hl h' k' i'=>hok hl h' k' ?_;have:=i'.rr;rw[YAD];exact this
def ref1_Text.s{r n:Nat}{l:List UInt8}{h:Ja}{K:Ba→Int→Hp} (i:Zb h r l) (hn:n=1∨n=2∨n=4)
 (hbad:∀h',Jc [r] h h'→Zb h' r l→(n≤l.length→(l.drop n).length<JU (l.take n))→K ⟨#[]⟩ 300 h')
 (hok:n≤l.length→JU (l.take n)≤(l.drop n).length→∀h',Jc [r] h h'→Zb h' r ((l.drop n).drop (JU (l.take n)))→K (bx ((l.drop n).take (JU (l.take n)))) 0 h'):ZBI.C (some ⟨r,0⟩) n h K:=by
 apply ZBI.c;unfold ZBI.m;obtain⟨s,a,e0,rfl,ha0,hs⟩:=i.ex;refine⟨_,rfl,(a:Int),Jv e0 rfl (by decide),?_⟩;refine ref1_Num.q ⟨e0,ha0,hs⟩ rfl hn (fun hl =>?_) (fun hl h2 k2 i2 =>?_)
 ·rw[Jf (by rfl)];exact hbad _ Jc.rfl i (fun hh=>by omega)
 ·rw[Jd (by simp)];refine ZB9.s i2.rr ?_;obtain⟨e,ha,_⟩:=i2;have hsl:s.data.toList.length=s.size:=rfl;have hdl:(s.data.toList.drop (a+n)).length=s.size-(a+n):=by rw[YAP,hsl]
  generalize hv:JU ((s.data.toList.drop a).take n)=v at *;rw[YAD]at hbad hok;by_cases hc:(s.data.toList.drop (a+n)).length<v
  ·rw[Jf (by simp only[Qg];omega)];refine⟨_,rfl,?_⟩;refine Qm (x':=(s,((a:Int),()))) e (by decide) rfl ?_;exact hbad _ (k2.then Jo (fun x hx _=>hx) (fun x hx _=>hx)) ⟨s,a,Jw e,rfl,ha0,hs⟩ fun _=>hc
  ·rw[Jd (by simp only[Qg];omega)];have hc:v≤(s.data.toList.drop (a+n)).length:=by omega
   refine⟨_,rfl,s,Jv e rfl (by decide),_,rfl,((a+n:Nat):Int),Jv e rfl (by decide),_,rfl,((a+n:Nat):Int),Jv e rfl (by decide),?_⟩;dsimp only;have hw:Jr (((a+n:Nat):Int)+(v:Int))=((a+n+v:Nat):Int):=w6 (by omega);rw[hw];refine⟨by omega,by omega,by omega,_,rfl,((a+n:Nat):Int),Jv e rfl (by decide),_,rfl,?_⟩;dsimp only;rw[hw];refine Qm (x':=(s,(((a+n+v:Nat):Int),()))) e (by decide) rfl ?_
   have hx:s.extract ((a+n:Nat):Int).toNat ((a+n+v:Nat):Int).toNat=bx ((s.data.toList.drop (a+n)).take v):=by
    have:s.extract ((a+n:Nat):Int).toNat ((a+n+v:Nat):Int).toNat=(bx s.data.toList).extract ((a+n:Nat):Int).toNat ((a+n+v:Nat):Int).toNat:=by rw[Vm]
    rw[this,Zo];simp only[YAc];rw[List.drop_take,Nat.add_sub_cancel_left]
   rw[hx];exact hok hl hc _ (k2.then Jo (fun x hx _=>hx) (fun x hx _=>hx)) ⟨s,a+n+v,Jw e,by rw[YAD],by omega,hs⟩
def ofNat_toNat(b:UInt8):UInt8.ofNat b.toNat=b:=by
 apply UInt8.toNat_inj.1;rw[YAn];have:=b.toNat_lt;omega
structure Nd where
 num:Int
 kind:Int
 mode:Int
 links:Int
 data:Ba
 ents:List UI
structure Mb where
 users:Int
 groups:List (List Int)
abbrev Rf:=RF.Ty
abbrev StK:Kd := .ag (.pr RF (.pr .i (.pr .i (.pr .i (.pr .i .un)))))
abbrev JaH:=StK.Ty
structure An where
 code:Int
 stat:JaH
 data:Ba
 names:List Ba
structure Cl where
 op:Int
 path:Ba
 other:Ba
 data:Ba
 at_:Int
 n:Int
 as_:Int
abbrev IX:=List Nd
abbrev Fs:=List IX
def rf(o n:Int):Rf:=(o,(n,()))
def UK:Rf:=rf 0 1
def Ig:List Int→Bool
 | x::y::r=>decide (x<y)&&Ig (y::r)
 | _=>true
def XM(us:List Int) (n:Int):Bool:=us.all (fun u=>decide (0≤u)&&decide (u<n))&&Ig us && !us.isEmpty
def QU(m:Mb):Bool:=decide (1≤m.users)&&decide (m.users≤16)&&decide (m.groups.length≤8)&&m.groups.all fun g=>XM g m.users
def Qx(m:Mb):Int:=m.users+m.groups.length
def Cc(m:Mb) (u p:Int):Bool:=
 if u<0∨m.users≤u∨p<0∨Qx m≤p then false else if p<m.users then decide (u=p) else(m.groups.getD (p-m.users).toNat []).contains u
def Ce(n k m l:Int):Bool:=decide (1≤n)&&decide (n≤32)&&(decide (k=0)||decide (k=1))&&(decide (m=0)||decide (m=1))&&decide (1≤l)&&decide (l≤32)
def My(x:Nd):Bool:=Ce x.num x.kind x.mode x.links
def XF(x:Nd):Bool:=My x&&(if x.kind=1 then decide (x.data=⟨#[]⟩)&&QS x.ents else decide (x.data.size≤4096)&&decide (x.ents=[]))
def ZP:IX→Bool
 | x::y::r=>decide (x.num<y.num)&&ZP (y::r)
 | _=>true
def Xa(t:IX):Bool:=ZP t&&t.all XF
def Tb(X:Fs) (o:Int):IX:=if 0≤o∧o<X.length then X.getD o.toNat [] else []
def Zw(X:Fs) (r:Rf):Option Nd:=(Tb X r.1).find? fun x=>decide (x.num=r.2.1)
def XQ(X:Fs):Bool:=decide (1≤X.length)&&decide (X.length≤24)&&X.all Xa&&(match Zw X UK with | some x=>decide (x.kind=1) | none=>false)
def Gj(X:Fs) (o:Int) (t:IX):Fs:=if 0≤o∧o<X.length then X.set o.toNat t else X
structure Wk where
 m:Mb
 X:Fs
 user:Int
 c:Cl
 w0:List Ba
 w1:List Ba
abbrev YI:=Vector UInt8 32
def Xt{α : Type} [DecidableEq α] (L:List α) (x : α):List α := if x∈L then L else L++[x]
def JD{α : Type} [DecidableEq α] (L xs:List α):List α := xs.foldl Xt L
def Q2{α : Type} [DecidableEq α]{L xs ys:List α}:JD L (xs++ys)=JD (JD L xs) ys:=by simp[JD]
def Z6{α : Type} [DecidableEq α]{L:List α}:JD L []=L:=rfl
def WQ{α : Type} [DecidableEq α]{L:List α}{x : α}:JD L [x]=Xt L x:=rfl
def Uu{α : Type} [DecidableEq α]{L xs:List α}{i:Nat} (hi:i<xs.length):JD L (xs.take (i+1))=Xt (JD L (xs.take i)) xs[i]:=by
 rw[YAZ hi,Q2,WQ]
def qJ{α : Type} [DecidableEq α]{L:List α}{x y : α}:y∈Xt L x↔y∈L∨y=x:=by
 unfold Xt;split
 ·rename_i h
  constructor
  ·exact .inl
  ·rintro(h1 | rfl) <;> assumption
 ·simp
def Yh{α : Type} [DecidableEq α]{y : α}:∀ {xs L:List α},y∈JD L xs↔y∈L∨y∈xs
 | [],L=>by simp[JD]
 | x :: r, L => by
   show y∈JD (Xt L x) r↔_;rw[Yh,qJ,YAV];exact or_assoc
def Ea{α : Type} [DecidableEq α]{L:List α}{x : α}:(Xt L x).length≤L.length+1:=by
 unfold Xt;split <;> simp
def QE{α : Type} [DecidableEq α]:∀ {xs L:List α},(JD L xs).length≤L.length+xs.length
 | [],L=>by simp[JD]
 | x :: r, L => by
   have h1:=QE (xs:=r) (L:=Xt L x);have h2:=Ea (L:=L) (x:=x);show(JD (Xt L x) r).length≤_;simp only[YAO];omega
def Ql{α : Type} (n:Nat) (xs:List α):List (List α):=(List.range ((xs.length+n-1)/n)).map fun i=>(xs.drop (i*n)).take n
def XX{α : Type}{n:Nat}{xs:List α}:(Ql n xs).length=(xs.length+n-1)/n:=by simp[Ql]
def WW{α : Type}{n i:Nat}{xs:List α} (hi:i<(Ql n xs).length):(Ql n xs)[i]=(xs.drop (i*n)).take n:=by simp[Ql]
def Xu(c:UInt8) (hs:List YI):Ba:=bx ([c,UInt8.ofNat hs.length]++hs.flatMap (·.toList))
def Y0(c:List UInt8):Ba:=bx (66::c)
def Qn(d:Ba):List Ba:=(Ql 64 d.data.toList).map Y0
def Xo(d:Ba):List Ba:=(Ql 8 ((Qn d).map Jy)).map (Xu 73)
def Xp(d:Ba):Ba:=Xu 82 ((Xo d).map Jy)
def Zz(d:Ba):List Ba:=JD [] (Qn d++Xo d++[Xp d])
def GH{d:Ba}:(Qn d).length=(d.size+63)/64:=by
 unfold Qn;rw[YAQ,XX];rfl
def GJ{d:Ba}:(Xo d).length=((Qn d).length+7)/8:=by
 unfold Xo;rw[YAQ,XX,YAQ];rfl
def Zt{c:UInt8}{hs:List YI}:(Xu c hs).size=2+32*hs.length:=by
 unfold Xu;rw[Js,YAN]
 have:(hs.flatMap (·.toList)).length=32*hs.length:=by
  induction hs with
  | nil=>rfl
  | cons h r ih=>rw[YAG,YAN,ih,YAO];simp;omega
 rw[this];rfl
def Un{c:List UInt8}:(Y0 c).size=1+c.length:=by unfold Y0;rw[Js];simp;omega
structure Gq where
 num:Int
 kind:Int
 mode:Int
 links:Int
 size:Int
 root:YI
 deriving DecidableEq
def Yr(x:Gq):Bool:=Ce x.num x.kind x.mode x.links&&decide (0≤x.size)&&decide (x.size≤if x.kind=1 then 0 else 4096)
def Ww:List Gq→Bool
 | x::y::r=>decide (x.num<y.num)&&Ww (y::r)
 | _=>true
def XB(ns:List Gq):Bool:=ns.all Yr&&Ww ns
def Xn(x:Gq):List UInt8:=be x.num.toNat 1++be x.kind.toNat 1++be x.mode.toNat 1++be x.links.toNat 1++be x.size.toNat 2++x.root.toList
def XA(ns:List Gq):List UInt8:=be 84 1++be ns.length 1++ns.flatMap Xn
def Qe(x:Nd):List Ba:=if x.kind=1 then [bx (JW x.ents)] else Zz x.data
def Z5(x:Nd):YI:=if x.kind=1 then Jy (bx (JW x.ents)) else Jy (Xp x.data)
def QX(x:Nd):Gq:=⟨x.num,x.kind,x.mode,x.links,x.data.size,Z5 x⟩
def JY(t:IX):Ba:=bx (XA (t.map QX))
def Q0(t:IX):List Ba:=t.flatMap Qe++[JY t]
def QC(X:Fs):List YI:=X.map fun t=>Jy (JY t)
def Y6(X:Fs):List Ba:=JD [] (X.flatMap Q0)
def Qw(os:List Ba) (h:YI):Option Ba:=os.find? fun d=>decide (d.size≤65536)&&decide (Jy d=h)
structure Vg where
 want:List YI
 bad:Bool
abbrev Kn:=YI→Option Ba
def hv(l:List UInt8):YI:=if h:l.length=32 then⟨l.toArray,by simp[h]⟩ else Vector.replicate 32 0
def qx(l:List UInt8):List YI:=(List.range (l.length/32)).map fun i=>hv ((l.drop (i*32)).take 32)
def qz(c:UInt8) (many:Nat) (s:Ba):Bool:=decide (s.size=2+many*32)&&decide (s.data.toList.take 2=[c,UInt8.ofNat many])
def Uq(K:Kn) (c:UInt8) (l:Vg) (h:YI) (many:Nat):List YI×Vg:=
 match K h with
 | none=>([],⟨Xt l.want h,l.bad⟩)
 | some s=>if qz c many s=true then(qx (s.data.toList.drop 2),l) else([],⟨l.want,true⟩)
def Vr(K:Kn) (many:Nat):Vg→Nat→List YI→List YI×Vg
 | l,_,[]=>([],l)
 | l,i,h::r=>((Uq K 73 l h (min 8 (many-i*8))).1++(Vr K many (Uq K 73 l h (min 8 (many-i*8))).2 (i+1) r).1,(Vr K many (Uq K 73 l h (min 8 (many-i*8))).2 (i+1) r).2)
def TH(n:Nat) (s:Ba):Bool:=decide (s.size=1+n)&&decide (s.data.toList.take 1=[66])
def Zk(K:Kn) (size:Nat):Vg→Nat→List YI→List UInt8×Vg
 | l,_,[]=>([],l)
 | l, i, h :: r => match K h with
   | none=>Zk K size ⟨Xt l.want h,l.bad⟩ (i+1) r
   | some s=>if TH (min 64 (size-i*64)) s=true then(s.data.toList.drop 1++(Zk K size l (i+1) r).1,(Zk K size l (i+1) r).2) else Zk K size ⟨l.want,true⟩ (i+1) r
def Vg.err(l:Vg) (form none_:Int):Int:=if l.bad=true then form else if l.want=[] then 0 else none_
def Vg.wants(l:Vg):List YI:=if l.bad=true then [] else l.want
def Te(K:Kn) (root:YI) (size:Int):Ba×List YI×Int:=
 if size<0∨4096<size then(⟨#[]⟩,[],1200) else
 let n:=(size.toNat+63)/64
 let a:=Uq K 82 ⟨[],false⟩ root ((n+7)/8)
 if a.2.err 1200 1201≠0 then(⟨#[]⟩,a.2.wants,a.2.err 1200 1201) else
 let b:=Vr K n a.2 0 a.1
 if b.2.err 1200 1201≠0 then(⟨#[]⟩,b.2.wants,b.2.err 1200 1201) else
 let c:=Zk K size.toNat b.2 0 b.1
 if c.2.err 1200 1201≠0 then(⟨#[]⟩,c.2.wants,c.2.err 1200 1201) else
 (bx c.1,[],0)
def YD{T T' b:Nat}{k:Kd}{s:Jn}{L:List k.Ty}{h:Ja}{c:Array Value}{f:Nat×Nat} (r:JR h T k s L) (e:h[b]? = some (.cells c T' f)) (hT:T'≠T):b∉own s:=fun hm=>by
 rcases r with⟨rfl,_⟩ | ⟨b',zs,ea,_,_,eh⟩
 ·simp[own]at hm
 ·have:b=b':=by unfold own at hm;rw[ea]at hm;simpa using hm
  subst this;rw[e]at eh;simp only[Option.some.injEq,QW,Obj.cells.injEq]at eh;exact hT eh.2.1
def TP{k e:Kd}{h:Ja}{K:Nat→Hp} (hK:∀r h',r=h.size→Jc [] h h'→PR k e r [] 0 h'→h'.size=h.size+1→K r h'):vc h K:=hK _ _ rfl Ju JA (by simp)
def TL{k e:Kd}{r:Nat}{es:List (k.Ty×e.Ty×Nat)}{c:Nat}{key:k.Ty}{h:Ja}{K:Option e.Ty→Option (Hp)→Prop} (hm:PR k e r es c h) (hK:K (Zi k e key es) (some (PR k e r es c))):lk k e (some r) key h K:=⟨es,c,hm,hK⟩
def Df{k e:Kd}{r:Nat}{es:List (k.Ty×e.Ty×Nat)}{c:Nat}{key:k.Ty}{v:e.Ty}{h:Ja}{K:Hp} (hm:PR k e r es c h) (hK:∀h' c',Jc [r] h h'→PR k e r (GM k e key v c es) c' h'→h'.size=h.size→K h'):mu k e (some r) key v h K:=
 ⟨r,es,c,rfl,hm,hK _ _ Jo (Jw hm) (by simp)⟩
def Zs{k e:Kd}{r:Nat}{es:List (k.Ty×e.Ty×Nat)}{c:Nat}{h:Ja} (hm:PR k e r es c h){b:Nat}{cs:Array Value}{T:Nat}{f:Nat×Nat} (eb:h[b]? = some (.cells cs T f)):r≠b:=fun hh=>by
 subst hh;unfold PR S2 at hm;rw[eb]at hm;simp at hm
def WL{k e:Kd}{r:Nat}{es:List (k.Ty×e.Ty×Nat)}{c:Nat}{h:Ja} (hm:PR k e r es c h){T:Nat}{k':Kd}{s:Jn}{xs:List k'.Ty} (rr:JR h T k' s xs):r∉own s:=fun hh=>by
 rcases rr with⟨e1,_⟩ | ⟨b,zs,e1,_,_,e4⟩
 ·rw[e1]at hh;simp[own]at hh
 ·have:r=b:=by unfold own at hh;rw[e1]at hh;simpa using hh
  exact Zs hm e4 this
def TQ{k e:Kd}{r:Nat}{es:List (k.Ty×e.Ty×Nat)}{c:Nat}{h:Ja} (hm:PR k e r es c h):r<h.size:=Jl hm
def ZO{k e:Kd}{r:Nat}{es:List (k.Ty×e.Ty×Nat)}{c:Nat}{h h':Ja}{S:List Nat} (hm:PR k e r es c h) (kk:Jc S h h') (hn:r∉S):PR k e r es c h':=kk.get hm hn
def In(k:Kd) (h:Ja) (m:Option Nat) (L:List k.Ty):Prop:=
 match m with
 | none=>L=[]
 | some r=>∃es c,PR k .b r es c h∧∀x,(Zi k .b x es=some true∧x∈L)∨(Zi k .b x es=none∧x∉L)
def In.keep{k:Kd}{h h':Ja}{m:Option Nat}{L:List k.Ty}{S:List Nat} (a:In k h m L) (kk:Jc S h h') (hn:∀r∈m.toList,r∉S):In k h' m L:=by
 cases m with
 | none=>exact a
 | some r =>
   obtain⟨es,c,e1,e2⟩:=a;exact⟨es,c,ZO e1 kk (hn r (by simp)),e2⟩
def In.add{k:Kd} (hk:k.pk=true){h:Ja}{r c c':Nat}{es:List (k.Ty×Bool×Nat)}{L:List k.Ty}{y:k.Ty} (a:∀x,(Zi k .b x es=some true∧x∈L)∨(Zi k .b x es=none∧x∉L)) (hm:PR k .b r (GM k .b y true c es) c' h):In k h (some r) (L++[y]):=by
 refine⟨_,_,hm,fun x =>?_⟩;rw[Mg hk];by_cases e:k.beq x y=true
 ·rw[Jf e];exact .inl ⟨rfl,by rw[(WU hk).1 e];simp⟩
 ·rw[Jd e];have ne:x≠y:=fun q=>e ((WU hk).2 q);rcases a x with⟨h1,h2⟩ | ⟨h1,h2⟩
  ·exact .inl ⟨h1,by simp[h2]⟩
  ·exact .inr ⟨h1,by simp[h2,ne]⟩
abbrev zQ:Kd := .ag (.pr .sl (.pr .m .un))
def Qb(b:Nat) (s:Jn) (m:Option Nat):List Nat:=b::(own s++m.toList)
structure ZS (h:Ja) (b:Nat) (s:Jn) (m:Option Nat) (L:List Ba):Prop where
 o:h[b]? = some (Jg X5 zQ (s,(m,())))
 r:JR h Jt .s s L
 m:In .s h m L
def ZS.keep{h h':Ja}{b:Nat}{s:Jn}{m:Option Nat}{L:List Ba}{S:List Nat} (i:ZS h b s m L) (k:Jc S h h') (hn:∀q∈Qb b s m,q∉S):ZS h' b s m L:=
 ⟨k.get i.o (hn b (by simp[Qb])),i.r.keep k fun q hq=>hn q (by simp[Qb,hq]),i.m.keep k fun q hq=>hn q (by simp only[Qb,YAV,YAU];exact .inr (.inr hq))⟩
def ZS.keep0{h h':Ja}{b:Nat}{s:Jn}{m:Option Nat}{L:List Ba} (i:ZS h b s m L) (k:Jc [] h h'):ZS h' b s m L:=i.keep k (by simp)
def ZS.lt{h:Ja}{b:Nat}{s:Jn}{m:Option Nat}{L:List Ba} (i:ZS h b s m L):∀q∈Qb b s m,q<h.size:=fun q hq=>by
 simp only[Qb,YAV,YAU]at hq;rcases hq with rfl | hq | hq
 ·exact Jl i.o
 ·exact i.r.lt q hq
 ·cases hm:m with
  | none=>rw[hm]at hq;simp at hq
  | some r =>
    have:=i.m;rw[hm]at this hq;obtain⟨es,c,e1,_⟩:=this;simp at hq;subst hq;exact TQ e1
def ZS.new{h:Ja}{b:Nat} (e:h[b]? = some (Jg X5 zQ ((⟨none,0,0⟩,(none,())):zQ.Ty))):ZS h b ⟨none,0,0⟩ none []:=⟨e,JR.nil,rfl⟩
def ZS.off{h:Ja}{b:Nat}{s:Jn}{m:Option Nat}{L:List Ba} (i:ZS h b s m L){q:Nat}{cs:Array Value}{T:Nat}{f:Nat×Nat} (e:h[q]? = some (.cells cs T f)) (h1:T≠X5) (h2:T≠Jt):q∉Qb b s m:=fun hq=>by
 simp only[Qb,YAV,YAU]at hq;rcases hq with rfl | hq | hq
 ·have:=i.o;rw[e]at this;unfold Jg at this;simp at this;exact h1 this.2.1
 ·exact YD i.r e h2 hq
 ·cases hm:m with
  | none=>rw[hm]at hq;simp at hq
  | some r =>
    have:=i.m;rw[hm]at this hq;obtain⟨es,c,e1,_⟩:=this;simp at hq;subst hq;exact Zs e1 e rfl
def ZS.offRow{h:Ja}{b:Nat}{s:Jn}{m:Option Nat}{L:List Ba} (i:ZS h b s m L){T:Nat}{k:Kd}{u:Jn}{xs:List k.Ty} (r:JR h T k u xs) (h1:T≠X5) (h2:T≠Jt):∀q∈own u,q∉Qb b s m:=fun q hq=>by
 rcases r with⟨e1,_⟩ | ⟨b,zs,e1,_,_,e4⟩
 ·rw[e1]at hq;simp[own]at hq
 ·have:q=b:=by unfold own at hq;rw[e1]at hq;simpa using hq
  subst this;exact i.off e4 h1 h2
def ZAF.s{h:Ja}{b:Nat}{s:Jn}{m:Option Nat}{L:List Ba}{x:Ba}{K:Hp} (i:ZS h b s m L) (hl:L.length≤100000)
 (hK:∀h' s' m',ZS h' b s' m' (Xt L x)→Jc (Qb b s m) h h'→(∀q∈Qb b s' m',q∈Qb b s m∨h.size≤q)→K h'):ZAF.C (some ⟨b,0⟩) x h K:=by
 apply ZAF.c;unfold ZAF.m;refine Jp (Jb (Jv i.o rfl (by decide)) ?_);refine Qd (fun _ h1=>∃r,ZS h1 b s (some r) L∧Jc [b] h h1∧(r∈m.toList∨h.size≤r)) ?_ ?_
 ·cases m with
  | none =>
    rw[Jf (by rfl)];refine TP (k := .s) (e := .b) fun r h1 hr k1 e1 hs1=>Jp ?_;have i1:=i.keep0 k1;refine Qm (k' := .m) (n:=1) (x':=(s,(some r,()))) i1.o (by decide) rfl ?_;have hL:L=[]:=i.m;subst hL;refine⟨r,⟨Jw i1.o,i1.r.keep Jo ?_,⟨[],0,ZO e1 Jo (by simp;exact Zs e1 i1.o),fun x => .inr ⟨rfl,by simp⟩⟩⟩,k1.then Jo (by simp) (by simp),.inr (by omega)⟩;intro q hq hm;simp at hm;subst hm;exact YD i1.r i1.o (by decide) hq
  | some r =>
    rw[Jd (by simp)];exact⟨r,i,Jc.rfl,.inl (by simp)⟩
 ·rintro _ h1 ⟨r,i1,k1,hr⟩;refine Jp (Jb (Jv i1.o rfl (by decide)) ?_);obtain⟨es,c,e1,e2⟩:=i1.m;refine TL e1 ?_
  have hfp:∀q∈Qb b s (some r),q∈Qb b s m∨h.size≤q:=fun q hq=>by
   simp only[Qb,YAV,YAU,Option.toList_some,YAW,or_false]at hq ⊢;rcases hq with h | h | rfl
   ·exact .inl (.inl h)
   ·exact .inl (.inr (.inl h))
   ·rcases hr with h | h
    ·exact .inl (.inr (.inr h))
    ·exact .inr h
  have kb:Jc (Qb b s m) h h1:=k1.weak (by simp[Qb]);refine Vs ?_;rcases e2 x with⟨f1,f2⟩ | ⟨f1,f2⟩
  ·rw[Jd (by rw[f1];simp)];have:Xt L x=L:=by unfold Xt;rw[Jf f2]
   rw[this]at hK;exact hK h1 s (some r) i1 kb hfp
  ·rw[Jf (by rw[f1];simp)];have ho:Xt L x=L++[x]:=by unfold Xt;rw[Jd f2]
   rw[ho]at hK;refine Jp (Jb (Jv i1.o rfl (by decide)) ?_);refine Df e1 fun h2 c' k2 m2 hs2 =>?_;have o2:=k2.get i1.o (by simp;exact fun h=>Zs e1 i1.o h.symm);have r2:=i1.r.keep k2 (fun q hq hm=>by simp at hm;subst hm;exact WL e1 i1.r hq);refine Jp (Jb (Jv o2 rfl (by decide)) ?_);refine Vi (by_:=16) r2 rfl (by omega) fun s3 h3 k3 r3 o3=>Jp ?_;have nb:b∉own s:=fun hq=>YD r2 o2 (by decide) hq;have nr:r∉own s:=WL m2 r2;have ob:=k3.get o2 nb;refine Qm (k' := .sl) (n:=0) (x':=(s3,(some r,()))) ob (by decide) rfl ?_;have m3:=ZO m2 k3 nr;have hrb:r≠b:=Zs m3 ob;have nb3:b∉own s3:=fun hq=>YD r3 ob (by decide) hq;refine hK _ s3 (some r) ⟨Jw ob,r3.keep Jo (fun q hq hm=>by simp at hm;subst hm;exact nb3 hq),In.add rfl e2 (ZO m3 Jo (by simpa using hrb))⟩ ?_ ?_
   ·have k12:Jc (Qb b s m) h h2:=kb.then k2 (fun q hq _=>hq) (fun q hq hlt=>by simp at hq;subst hq;rcases hfp q (by simp[Qb]) with h | h;exact h;omega);have k13:Jc (Qb b s m) h h3:=k12.then k3 (fun q hq _=>hq) (fun q hq _=>by simp[Qb,hq]);exact k13.then Jo (fun q hq _=>hq) (fun q hq _=>by simp at hq;subst hq;simp[Qb])
   ·intro q hq;simp only[Qb,YAV,YAU,Option.toList_some,YAW,or_false]at hq;rcases hq with h | h | h
    ·exact .inl (by simp[Qb,h])
    ·rcases o3 q h with h | h
     ·exact .inl (by simp[Qb,h])
     ·right;have:=k1.1;omega
    ·exact hfp q (by simp[Qb,h])
abbrev HK:Kd := .ar 32 .u8
def jT{T by_ sz:Nat}{k:Kd}{s:Jn}{xs:List k.Ty}{x:k.Ty}{h:Ja}{K:Jn→Hp}{P:Hp} (r:JR h T k s xs) (hs:sz=k.size) (hl:(xs.length+1)*by_≤140737488355328)
 (hP:∀h',Jc [] h h'→P h')
 (hK:∀s' h',Jc (own s) h h'→JR h' T k s' (xs++[x])→(∀q∈own s',q∈own s∨h.size≤q)→K s' h') :
 bs T k [x] h fun s1 h1=>P h1∧JB s1 (s1.len*sz) h1 fun cs=>ap T k by_ s s1.len cs h1 K:=by
 refine Sw ?_;subst hs;refine⟨hP _ Ju,?_⟩;have r8:=r.keep (Ju (o:=QW T k [x])) (by simp);refine Vy (xs:=[x]) JA rfl (i:=0) (j:=1) (by simp) rfl (by simp) ?_;refine X8 (ys:=[x]) r8 rfl rfl hl fun s9 h9 r9 k9 o9 =>?_;refine hK s9 h9 ((Ju (o:=QW T k [x])).then k9 (by simp) (fun x hx _=>hx)) r9 fun q hq =>?_;rcases XO o9 q hq with h' | h'
 ·exact .inl h'
 ·right;simp at h';omega
def ZAq.s{x:UInt32}{k:Nat}{h:Ja}{K:UInt32→Hp} (hk:k≤32) (hK:K (rr x k) h):ZAq.C x k h K:=by
 apply ZAq.c;unfold ZAq.m;have hw:Jr (32-(k:Int))=((32-k:Nat):Int):=w6 (by omega);rw[hw];refine⟨by omega,by omega,?_⟩;rw[UInt32.or_comm];exact hK
def jQ(a b c d:UInt32):((a+b)+c)+d=((a+c)+b)+d:=by rw[UInt32.add_assoc a b c,UInt32.add_comm b c,←UInt32.add_assoc]
def ZBj.s{z:Vector UInt32 8}{l:List UInt8}{h:Ja}{K:Kd.Ty (.ar 8 .u32)→Hp} (hl:l.length=64) (hK:∀h',Jc [] h h'→K (IQ l z) h'):ZBj.C z (bx l) h K:=by
 apply ZBj.c;unfold ZBj.m;refine Ji fun b1 h1 hb1 k1 e1 hs1 =>?_;refine Ji fun b2 h2 hb2 k2 e2 hs2 =>?_;refine Jq fun b3 h4 hb3 k4 e4 hs4 =>?_;have e4:h4[b3]? = some (Jg Jx (.ar 64 .u32) kk):=e4;refine Ji fun b4 h5 hb4 k5 e5 hs5 =>?_;have c1:h5[b1]? = some (Jg QK (.ar 8 .u32) z):=k5.g (k4.g (k2.g e1));have c2:h5[b2]? = some (Jg QK (.ar 8 .u32) (Vector.replicate 8 (0:UInt32))):=k5.g (k4.g e2);have c3:=k5.g e4;have e5:h5[b4]? = some (Jg Jx (.ar 64 .u32) (Vector.replicate 64 (0:UInt32))):=e5;have k05:Jc [] h h5:=((k1.n k2).n k4).n k5;have e24:(((24:UInt64).toNat:Int))=24:=by decide
 have e16:(((16:UInt64).toNat:Int))=16:=by decide
 have e8:(((8:UInt64).toNat:Int))=8:=by decide
 have e3:(((3:UInt64).toNat:Int))=3:=by decide
 have e10:(((10:UInt64).toNat:Int))=10:=by decide
 rw[e24,e16,e8,e3,e10]
 clear e24 e16 e8 e3 e10
 refine JF (fun(y:Int×Unit) (h3:Ja)=>∃t:Nat,y.1=t∧t≤16∧Jc [b4] h5 h3∧∃w:Vector UInt32 64,h3[b4]? = some (Jg Jx (.ar 64 .u32) w)∧w.toList=Ud l t++List.replicate (64-t) 0) (fun(y:Int×Unit) _=>16-y.1.toNat) ?_ ?_
 ·exact⟨0,rfl,by decide,Jc.rfl,_,e5,by simp[Ud]⟩
 ·rintro⟨(i:Int),_⟩ h6 ⟨t,e,ht,k6,w,hw,hwl⟩;dsimp only at e ⊢;subst e;by_cases hlt:t<16
  ·rw[Jf (show decide ((t:Int)<16)=true from dT (by omega))];have w0:Jr (4*(t:Int))=((4*t:Nat):Int):=w6 (by omega);have w1:Jr (((4*t:Nat):Int)+1)=((4*t+1:Nat):Int):=w6 (by omega);have w2:Jr (((4*t:Nat):Int)+2)=((4*t+2:Nat):Int):=w6 (by omega);have w3:Jr (((4*t:Nat):Int)+3)=((4*t+3:Nat):Int):=w6 (by omega);have w4:Jr ((t:Int)+1)=((t+1:Nat):Int):=w6 (by omega);rw[w0,w1,w2,w3,w4];refine Z2 (by omega) ⟨by decide,?_⟩;refine Z2 (by omega) ⟨by decide,?_⟩;refine Z2 (by omega) ⟨by decide,?_⟩;refine Z2 (by omega) ⟨by omega,by omega,?_⟩;rw[show(⟨b4,0+(t:Int).toNat*1⟩:Pl)=⟨b4,0+t*Kd.u32.size⟩ by rw[YAc];rfl];refine Pa (i:=t) hw (by omega) ⟨⟨t+1,rfl,by omega,k6.then Jo (fun x hx _=>hx) (fun x hx _=>hx),_,Jw hw,?_⟩,by simp;omega⟩;refine IK (by omega) hwl ?_;rw[Jf hlt];unfold yk;simp only[YAI,YAJ (show 4*t<l.length by omega),YAJ (show 4*t+1<l.length by omega),YAJ (show 4*t+2<l.length by omega),YAJ (show 4*t+3<l.length by omega),Option.getD_some]
  ·rw[Jd (show¬decide ((t:Int)<16)=true by simp;omega)];have ht16:t=16:=by omega
   subst ht16;refine JF (fun(y:Int×Unit) (h3:Ja)=>∃t:Nat,y.1=t∧16≤t∧t≤64∧Jc [b4] h5 h3∧∃w:Vector UInt32 64,h3[b4]? = some (Jg Jx (.ar 64 .u32) w)∧w.toList=Ud l t++List.replicate (64-t) 0) (fun(y:Int×Unit) _=>64-y.1.toNat) ?_ ?_
   ·exact⟨16,rfl,by decide,by decide,k6,w,hw,hwl⟩
   ·clear hw hwl k6 w hlt ht h6
    rintro⟨(i:Int),_⟩ h8 ⟨t,e,ht1,ht,k6,w,hw,hwl⟩;dsimp only at e ⊢;subst e;by_cases hlt:t<64
    ·rw[Jf (show decide ((t:Int)<64)=true from dT (by omega))];have w15:Jr ((t:Int)-15)=((t-15:Nat):Int):=w6 (by omega);have w2:Jr ((t:Int)-2)=((t-2:Nat):Int):=w6 (by omega);have w16:Jr ((t:Int)-16)=((t-16:Nat):Int):=w6 (by omega);have w7:Jr ((t:Int)-7)=((t-7:Nat):Int):=w6 (by omega);have w4:Jr ((t:Int)+1)=((t+1:Nat):Int):=w6 (by omega);rw[w15,w2,w16,w7,w4]
     have at_:∀j,(hj:j<t)→sm .u32 ⟨b4,0+((j:Nat):Int).toNat*1⟩ ((Ud l t).getD j 0) h8:=fun j hj=>by
      rw[←Cs hwl hj (by omega),YAc];exact Vl (i:=j) hw (by omega)
     have s15:=at_ (t-15) (by omega);have s2:=at_ (t-2) (by omega);have s16:=at_ (t-16) (by omega);have s7:=at_ (t-7) (by omega);refine⟨by omega,by omega,_,s15,by omega,by omega,_,s15,by omega,by omega,_,s15,by decide,?_⟩;refine ZAq.s (k:=7) (by decide) ⟨s15,s15,?_⟩;refine ZAq.s (k:=18) (by decide) ⟨s15,?_⟩;refine⟨by omega,by omega,_,s2,by omega,by omega,_,s2,by omega,by omega,_,s2,by decide,?_⟩;refine ZAq.s (k:=17) (by decide) ⟨s2,s2,?_⟩;refine ZAq.s (k:=19) (by decide) ⟨s2,?_⟩;refine⟨by omega,by omega,_,s16,by omega,by omega,_,s7,by omega,by omega,?_⟩;rw[show(⟨b4,0+(t:Int).toNat*1⟩:Pl)=⟨b4,0+t*Kd.u32.size⟩ by rw[YAc];rfl];refine Pa (i:=t) hw (by omega) ⟨⟨t+1,rfl,by omega,by omega,k6.then Jo (fun x hx _=>hx) (fun x hx _=>hx),_,Jw hw,?_⟩,by simp;omega⟩;exact IK hlt hwl (by rw[Jd (by omega),jQ];rfl)
    ·rw[Jd (show¬decide ((t:Int)<64)=true by simp;omega)];have ht64:t=64:=by omega
     subst ht64;have hwl:w.toList=Ud l 64:=by simpa using hwl
     have d1:=k6.get c1 (by simp;omega);have d2:=k6.get c2 (by simp;omega);have d3:=k6.get c3 (by simp;omega);have k08:Jc [] h h8:=k05.new k6 (by have:=k05.1;simp;omega);have l8:=k6.1;refine⟨z,Je (k := .ar 8 .u32) d1,?_⟩;refine Jq fun b5 h15 hb5 k15 e15 hs15 =>?_;have e15:h15[b5]? = some (Jg QK (.ar 8 .u32) z):=e15;have f1:=k15.g d1;have f2:=k15.g d2;have f3:=k15.g d3;have f4:=k15.g hw;refine JF (fun(y:Int×Unit) (h9:Ja)=>∃t:Nat,y.1=t∧t≤64∧Jc [b5] h15 h9∧h9[b5]? = some (Jg QK (.ar 8 .u32) (IF (Ud l 64) z t))) (fun(y:Int×Unit) _=>64-y.1.toNat) ?_ ?_
     ·exact⟨0,rfl,by decide,Jc.rfl,e15⟩
     ·rintro⟨(i:Int),_⟩ h16 ⟨t,e,ht',k16,hz⟩;dsimp only at e ⊢;subst e;have g1:=k16.get f1 (by simp;omega);have g2:=k16.get f2 (by simp;omega);have g3:=k16.get f3 (by simp;omega);have g4:=k16.get f4 (by simp;omega);by_cases hlt2:t<64
      ·rw[Jf (show decide ((t:Int)<64)=true from dT (by omega))];have w4:Jr ((t:Int)+1)=((t+1:Nat):Int):=w6 (by omega);rw[w4];have hr:IF (Ud l 64) z (t+1)=rnd (kk.toList.getD t 0) ((Ud l 64).getD t 0) (IF (Ud l 64) z t):=rfl;generalize IF (Ud l 64) z t=v at hz hr;have a:∀j,(hj:j<8)→sm .u32 ⟨b5,0+j*1⟩ v[j] h16:=fun j hj=>Vl (k := .u32) (i:=j) hz hj;have s0:=a 0 (by decide);have s1:=a 1 (by decide);have s2:=a 2 (by decide);have s3:=a 3 (by decide);have s4:=a 4 (by decide);have s5:=a 5 (by decide);have s6:=a 6 (by decide);have s7:=a 7 (by decide)
       have sk:sm .u32 ⟨b3,0+((t:Nat):Int).toNat*1⟩ (kk.toList.getD t 0) h16:=by
        rw[←wc hlt2,YAc];exact Vl (k := .u32) (i:=t) g3 hlt2
       have sw:sm .u32 ⟨b4,0+((t:Nat):Int).toNat*1⟩ ((Ud l 64).getD t 0) h16:=by
        rw[←Jai hwl hlt2,YAc];exact Vl (k := .u32) (i:=t) g4 hlt2
       refine⟨by decide,by decide,_,s4,by decide,by decide,_,s4,by decide,by decide,_,s4,?_⟩;refine ZAq.s (k:=6) (by decide) ⟨s4,s4,?_⟩;refine ZAq.s (k:=11) (by decide) ⟨s4,?_⟩;refine ZAq.s (k:=25) (by decide) ?_;refine⟨by decide,by decide,_,s7,by decide,by decide,_,s4,by decide,by decide,_,s5,by decide,by decide,_,s4,by decide,by decide,_,s6,by omega,by omega,_,sk,by omega,by omega,_,sw,by decide,by decide,_,s0,by decide,by decide,_,s0,by decide,by decide,_,s0,?_⟩;refine ZAq.s (k:=2) (by decide) ⟨s0,s0,?_⟩;refine ZAq.s (k:=13) (by decide) ⟨s0,?_⟩;refine ZAq.s (k:=22) (by decide) ?_;refine⟨by decide,by decide,_,s0,by decide,by decide,_,s1,by decide,by decide,_,s0,by decide,by decide,_,s2,by decide,by decide,_,s1,by decide,by decide,_,s2,by decide,by decide,_,s0,by decide,by decide,_,s1,by decide,by decide,_,s2,by decide,by decide,_,s3,by decide,by decide,_,s4,by decide,by decide,_,s5,by decide,by decide,_,s6,?_⟩;refine Yb (k := .ar 8 .u32) (x':=rnd (kk.toList.getD t 0) ((Ud l 64).getD t 0) v) hz ?_;refine⟨⟨t+1,rfl,by omega,k16.then Jo (fun x hx _=>hx) (fun x hx _=>hx),?_⟩,by simp;omega⟩;rw[hr];exact Jw hz
      ·rw[Jd (show¬decide ((t:Int)<64)=true by simp;omega)];have ht64:t=64:=by omega
       subst ht64;have hturn:IQ l z=Vector.zipWith (· + ·) z (IF (Ud l 64) z 64):=rfl;generalize IF (Ud l 64) z 64=v at hz hturn;have k016:Jc [] h h16:=(k08.n k15).new k16 (by have:=k08.1;simp;omega);refine JF (fun(y:Int×Unit) (h17:Ja)=>∃t:Nat,y.1=t∧t≤8∧Jc [b1] h16 h17∧∃z':Vector UInt32 8,h17[b1]? = some (Jg QK (.ar 8 .u32) z')∧∀j:Nat,(hj:j<8)→z'[j]=if j<t then z[j]+v[j] else z[j]) (fun(y:Int×Unit) _=>8-y.1.toNat) ?_ ?_
       ·exact⟨0,rfl,by decide,Jc.rfl,z,g1,fun j hj=>by rw[Jd (by omega)]⟩
       ·rintro⟨(i:Int),_⟩ h24 ⟨t,e,ht8,k24,z',hz',hall⟩;dsimp only at e ⊢;subst e;by_cases hlt3:t<8
        ·rw[Jf (show decide ((t:Int)<8)=true from dT (by omega))];have w4:Jr ((t:Int)+1)=((t+1:Nat):Int):=w6 (by omega);rw[w4];have hz24:=k24.get hz (by simp;omega)
         have q1:sm .u32 ⟨b1,0+((t:Nat):Int).toNat*1⟩ z[t] h24:=by
          have:=Vl (k := .u32) (i:=t) hz' hlt3;rw[hall t hlt3,Jd (by omega)]at this;rw[YAc];exact this
         have q2:sm .u32 ⟨b5,0+((t:Nat):Int).toNat*1⟩ v[t] h24:=by
          rw[YAc];exact Vl (k := .u32) (i:=t) hz24 hlt3
         refine⟨by omega,by omega,_,q1,by omega,by omega,_,q2,by omega,by omega,?_⟩;rw[show(⟨b1,0+(t:Int).toNat*1⟩:Pl)=⟨b1,0+t*Kd.u32.size⟩ by rw[YAc];rfl];refine Pa (k := .u32) (i:=t) (y:=z[t]+v[t]) hz' hlt3 ?_;refine⟨⟨t+1,rfl,by omega,k24.then Jo (fun x hx _=>hx) (fun x hx _=>hx),_,Jw hz',fun j hj =>?_⟩,by simp;omega⟩;rw[YAo hj];split
         ·rename_i e3;subst e3;rw[Jf (by omega)]
         ·rename_i e3
          rw[hall j hj];by_cases h5:j<t
          ·rw[Jf h5,Jf (by omega)]
          ·rw[Jd h5,Jd (by omega)]
        ·rw[Jd (show¬decide ((t:Int)<8)=true by simp;omega)]
         have hz8:z'=IQ l z:=by
          rw[hturn];apply Vector.ext;intro j hj;rw[hall j hj,Jf (by omega)];simp
         rw[hz8]at hz';refine⟨_,Je (k := .ar 8 .u32) hz',?_⟩;refine Yb (k := .ar 8 .u32) (x':=IQ l z) (k24.get g2 (by simp;omega)) ?_;refine⟨_,Je (k := .ar 8 .u32) (Jw (k24.get g2 (by simp;omega))),?_⟩;refine hK _ ((k016.new k24 (by simp;omega)).new Jo (by simp;omega))
def ZAZ.s{z:Vector UInt8 32}{h:Ja}{K:Ba→Hp} (hK:∀h',Jc [] h h'→K (bx z.toList) h'):ZAZ.C z h K:=by
 apply ZAZ.c;unfold ZAZ.m;refine Ji fun b h1 hb k1 e1 hs1 =>?_;have e1:h1[b]? = some (Jg Jh (.ar 32 .u8) z):=e1;refine⟨by decide,by decide,by decide,?_⟩;have g:Q5 .u8 ⟨some ⟨b,0⟩,32,32⟩ z.toList h1:=Wt e1;exact Xb g fun q _=>hK h1 k1
def WV(l:List UInt8):(bx l).data.toList=l:=by simp[bx]
def xP(l:List UInt8):Wg ((ZB l++Wl l.length).length/64) (ZB l++Wl l.length) (Wg (l.length/64) l z0)=GW z0 (l++Wl l.length):=by
 unfold GW;obtain⟨h1,h2⟩:=Tn l (Wl l.length);rw[h1,Ph,h2,Pi (l.length/64) l (Wl l.length) z0 (by omega)]
def xj(n:Nat):(Wl n).length=(119-n%64)%64+9:=by unfold Wl;simp[Jj]
def ZBS.s{l:List UInt8}{h:Ja}{K:Kd.Ty (.ar 32 .u8)→Hp} (hl:l.length≤1000000000) (hK:∀h',Jc [] h h'→K (Yt l) h'):ZBS.C (bx l) h K:=by
 apply ZBS.c;unfold ZBS.m;refine Ji fun b1 h1 hb1 k1 e1 hs1 =>?_;have e1:h1[b1]? = some (Jg Jh (.ar 32 .u8) (Vector.replicate 32 (0:UInt8))):=e1;refine Jq fun b2 h3 hb2 k3 e3 hs3 =>?_;have e3:h3[b2]? = some (Jg QK (.ar 8 .u32) z0):=e3;have k03:Jc [] h h3:=k1.n k3;have c1:=k3.g e1;refine⟨by decide,?_⟩;rw[Js]
 have hq0:Jr ((Jr ((l.length:Int).tdiv 64))*64)=((64*(l.length/64):Nat):Int):=by
  rw[Int.tdiv_eq_ediv_of_nonneg (by omega),JE (n:=(l.length:Int)/64) (by omega) (by omega),JE (by omega) (by omega)];omega
 rw[hq0];refine JF (fun(y:Int×Unit) (h4:Ja)=>∃t:Nat,y.1=((64*t:Nat):Int)∧t≤l.length/64∧Jc [b2] h3 h4∧h4[b2]? = some (Jg QK (.ar 8 .u32) (Wg t l z0))) (fun(y:Int×Unit) _=>l.length-y.1.toNat) ?_ ?_
 ·exact⟨0,rfl,by omega,Jc.rfl,e3⟩
 ·rintro⟨(i:Int),_⟩ h4 ⟨t,e,ht,k4,hz⟩;dsimp only at e ⊢;subst e;have k04:Jc [] h h4:=k03.new k4 (by have:=k1.1;simp;omega);by_cases hlt:t<l.length/64
  ·rw[Jf (show decide (((64*t:Nat):Int)<((64*(l.length/64):Nat):Int))=true from dT (by omega))];have hw:Jr (((64*t:Nat):Int)+64)=((64*(t+1):Nat):Int):=w6 (by omega);rw[hw];refine⟨_,Je (k := .ar 8 .u32) hz,?_⟩;refine⟨by omega,by omega,by rw[Js];omega,?_⟩;rw[YAc,YAc,Zo]
   have hc:(l.take (64*(t+1))).drop (64*t)=(l.drop (64*t)).take 64:=by
    rw[List.drop_take];congr 1;omega
   rw[hc];refine ZBj.s (by rw[YAS,YAP];omega) fun h5 k5 =>?_;rw[←Gt];have hz5:=k5.g hz;refine Yb (k := .ar 8 .u32) (x':=Wg (t+1) l z0) hz5 ?_;exact⟨⟨t+1,rfl,by omega,(k4.then k5 (fun q hq _=>hq) (by simp)).then Jo (fun q hq _=>hq) (fun q hq _=>hq),Jw hz5⟩,by omega⟩
  ·rw[Jd (show¬decide (((64*t:Nat):Int)<((64*(l.length/64):Nat):Int))=true by simp;omega)];have htq:t=l.length/64:=by omega
   subst htq;refine⟨by omega,by omega,by rw[Js];omega,?_⟩;rw[YAc,YAc,Zo,YAX (YAf _)];have hr:l.drop (64*(l.length/64))=ZB l:=rfl;rw[hr];have hrl:=UY l;refine Zl (by rw[Js];show _+1≤_;omega) ?_;have h3e:(⟨((bx (ZB l)).data.toList++(⟨#[128]⟩:Ba).data.toList).toArray⟩:Ba)=bx (ZB l++[128]):=by rw[WV];rfl
   rw[h3e]
   have hpd:(Jr (120-(((bx (ZB l++[128])).size:Int).tmod 64))).tmod 64=(((119-l.length%64)%64:Nat):Int):=by
    rw[Js,YAN,List.length_singleton,hrl];have a1:((l.length%64+1:Nat):Int).tmod 64=(((l.length%64+1)%64:Nat):Int):=by rw[YAb (by omega)];omega
    rw[a1,JE (by omega) (by omega),YAb (by omega)];omega
   rw[hpd];have hbe:Jr ((l.length:Int)*8)=((l.length*8:Nat):Int):=w6 (by omega);rw[hbe];have hpad:Wl l.length=[128]++(List.replicate ((119-l.length%64)%64) 0++be (l.length*8) 8):=rfl;have hpl:=xj l.length;generalize hq:(119-l.length%64)%64=q at hpad hpl;have hq64:q<64:=by omega
   refine⟨fun y h7=>y.1=bx (ZB l++Wl l.length)∧Jc [] h4 h7,?_,?_⟩
   ·refine⟨by decide,by decide,?_,?_⟩
    ·refine Up (n:=q) (by omega) (by omega) fun b8 h8 hb8 k8 r8 hs8 =>?_;refine Xb (xs:=List.replicate q (0:UInt8)) r8.seg fun q1 hq1 =>?_;refine Zl (by rw[Js];simp[ByteArray.size];omega) ?_;refine ZAA.s (by decide) (by decide) (by omega) fun h9 k9 =>?_;refine hq1 [] h9 k9 (by simp) _ ?_;refine Zl (by simp[ByteArray.size,bx,Jj];omega) ?_;refine⟨?_,k8.n k9⟩;show _=bx (ZB l++Wl l.length);rw[hpad];simp[bx]
    ·refine ZAA.s (by decide) (by decide) (by omega) fun h10 k10 =>?_;refine Up (n:=q) (by omega) (by omega) fun b8 h11 hb8 k11 r11 hs11 =>?_;refine We (xs:=List.replicate q (0:UInt8)) r11.seg fun q2 =>?_;refine Zl (by rw[Js];simp[ByteArray.size];omega) ?_;refine Zl (by simp[ByteArray.size,bx,Jj];omega) ?_;refine⟨?_,k10.n k11⟩;show _=bx (ZB l++Wl l.length);rw[hpad];simp[bx]
   ·rintro⟨(tx:Ba),_⟩ h7 ⟨ex,k7⟩;dsimp only at ex ⊢;subst ex
    have hTl:(ZB l++Wl l.length).length=64*((ZB l++Wl l.length).length/64):=by
     rw[YAN,hrl,hpl];omega
    have hfold:=xP l;rw[Js];generalize hT:ZB l++Wl l.length=T at hTl hfold ⊢;have hTb:T.length≤200:=by rw[←hT,YAN,hrl,hpl];omega
    generalize Wg (l.length/64) l z0=zq at hz hfold;have k07:Jc [] h h7:=k04.n k7;refine JF (fun(y:Int×Unit) (h8:Ja)=>∃t:Nat,y.1=((64*t:Nat):Int)∧t≤T.length/64∧Jc [b2] h7 h8∧h8[b2]? = some (Jg QK (.ar 8 .u32) (Wg t T zq))) (fun(y:Int×Unit) _=>T.length-y.1.toNat) ?_ ?_
    ·exact⟨0,rfl,by omega,Jc.rfl,k7.g hz⟩
    ·rintro⟨(i:Int),_⟩ h12 ⟨t,e,ht2,k12,hz12⟩;dsimp only at e ⊢;subst e;by_cases hlt2:t<T.length/64
     ·rw[Jf (show decide (((64*t:Nat):Int)<(T.length:Int))=true from dT (by omega))];have hw:Jr (((64*t:Nat):Int)+64)=((64*(t+1):Nat):Int):=w6 (by omega);rw[hw];refine⟨_,Je (k := .ar 8 .u32) hz12,?_⟩;refine⟨by omega,by omega,by rw[Js];omega,?_⟩;rw[YAc,YAc,Zo]
      have hc:(T.take (64*(t+1))).drop (64*t)=(T.drop (64*t)).take 64:=by
       rw[List.drop_take];congr 1;omega
      rw[hc];refine ZBj.s (by rw[YAS,YAP];omega) fun h13 k13 =>?_;rw[←Gt];have hz13:=k13.g hz12;refine Yb (k := .ar 8 .u32) (x':=Wg (t+1) T zq) hz13 ?_;exact⟨⟨t+1,rfl,by omega,(k12.then k13 (fun q hq _=>hq) (by simp)).then Jo (fun q hq _=>hq) (fun q hq _=>hq),Jw hz13⟩,by omega⟩
     ·rw[Jd (show¬decide (((64*t:Nat):Int)<(T.length:Int))=true by simp;omega)];have htq:t=T.length/64:=by omega
      subst htq;rw[hfold]at hz12;have hsha:Yt l=jh (GW z0 (l++Wl l.length)):=rfl;generalize GW z0 (l++Wl l.length)=zz at hz12 hsha;have s1:=k1.1;have k012:Jc [] h h12:=k07.new k12 (by simp;omega);refine Ji fun b3 h15 hb3 k15 e15 hs15 =>?_;have e15:h15[b3]? = some (Jg Jh (.ar 32 .u8) (Vector.replicate 32 (0:UInt8))):=e15;have hz15:=k15.g hz12;have k115:Jc [] h h15:=k012.n k15;have l12:=Jl hz12;have c12:=k12.get (k7.g (k4.get c1 (by simp;omega))) (by simp;omega);have l1:=Jl c12;refine JF (fun(y:Int×Unit) (h16:Ja)=>∃t:Nat,y.1=t∧t≤32∧Jc [b3] h15 h16∧∃v:Vector UInt8 32,h16[b3]? = some (Jg Jh (.ar 32 .u8) v)∧∀j:Nat,(hj:j<32)→v[j]=if j<t then xi zz j else 0) (fun(y:Int×Unit) _=>32-y.1.toNat) ?_ ?_
      ·exact⟨0,rfl,by decide,Jc.rfl,_,e15,fun j hj=>by rw[Jd (by omega)];simp⟩
      ·rintro⟨(i:Int),_⟩ h16 ⟨t,e,ht32,k16,v,hv,hall⟩;dsimp only at e ⊢;subst e;by_cases hlt3:t<32
       ·rw[Jf (show decide ((t:Int)<32)=true from dT (by omega))];have o16:=k16.get hz15 (by simp;omega);have hw1:Jr ((t:Int)+1)=((t+1:Nat):Int):=w6 (by omega)
        have hdv:Jr ((t:Int).tdiv 4)=((t/4:Nat):Int):=by
         rw[show(t:Int).tdiv 4=((t/4:Nat):Int) by rw[Int.tdiv_eq_ediv_of_nonneg (by omega)];omega,JE (by omega) (by omega)]
        have hmd:Jr (24-(Jr (8*((t:Int).tmod 4))))=((24-8*(t%4):Nat):Int):=by
         rw[show(t:Int).tmod 4=((t%4:Nat):Int) by rw[YAb (by omega)];omega,JE (n:=8*((t%4:Nat):Int)) (by omega) (by omega),JE (by omega) (by omega)];omega
        rw[hw1,hdv,hmd]
        have q1:sm .u32 ⟨b2,0+((t/4:Nat):Int).toNat*1⟩ (zz.toList.getD (t/4) 0) h16:=by
         have:=Vl (k := .u32) (i:=t/4) o16 (by omega);rw[YAc]
         have e:zz[t/4]'(by omega)=zz.toList.getD (t/4) 0:=by
          rw[YAI,YAJ (by simp;omega)];simp
         rw[←e];exact this
        refine⟨by decide,by omega,by omega,_,q1,by decide,by omega,by omega,by omega,?_⟩;rw[show(⟨b3,0+(t:Int).toNat*1⟩:Pl)=⟨b3,0+t*Kd.u8.size⟩ by rw[YAc];rfl];refine Pa (k := .u8) (y:=xi zz t) hv hlt3 ?_;refine⟨⟨t+1,rfl,by omega,k16.then Jo (fun x hx _=>hx) (fun x hx _=>hx),_,Jw hv,fun j hj =>?_⟩,by simp;omega⟩;rw[YAo hj];split
        ·rename_i e3;subst e3;rw[Jf (by omega)]
        ·rename_i e3
         rw[hall j hj];by_cases h5:j<t
         ·rw[Jf h5,Jf (by omega)]
         ·rw[Jd h5,Jd (by omega)]
       ·rw[Jd (show¬decide ((t:Int)<32)=true by simp;omega)]
        have hvo:v=Yt l:=by
         rw[hsha];apply Vector.ext;intro j hj;rw[hall j hj,Jf (by omega)];unfold jh;simp
        refine⟨v,Je (k := .ar 32 .u8) hv,?_⟩;have c16:=k16.get (k15.g c12) (by simp;omega);refine Yb (k := .ar 32 .u8) (x':=v) c16 ?_;refine⟨v,Je (k := .ar 32 .u8) (Jw c16),?_⟩;rw[hvo];exact hK _ ((k115.new k16 (by simp;have:=k012.1;omega)).new Jo (by simp;omega))
def ZCC.s{tag:Nat}{ps:List Ba}{sp:Jn}{h:Ja}{K:Kd.Ty (.ar 32 .u8)→Int→Hp} (g:Q5 .s sp ps h) (ht:tag≤4) (hs:lens ps≤65536) (hlen:(XK tag ps).length≤1000000)
 (hK:∀h',Jc [] h h'→K (Yt (XK tag ps)) 0 h'):ZCC.C tag sp h K:=by
 apply ZCC.c;unfold ZCC.m;refine Ji fun b1 h1 hb1 k1 e1 hs1 =>?_;have e1:h1[b1]? = some (Jg Jh (.ar 32 .u8) (Vector.replicate 32 (0:UInt8))):=e1;refine JH (false,()) h1 ?_ ?_
 ·rw[Jd (by simp)];exact⟨by simp;omega,by first | rfl | trivial⟩
 rw[Jd (by simp)];refine QN fun b2 h4 hb2 k4 r4 hs4 =>?_;have gl:=g.len;have hpn:=Uv ps;have htl:(XK tag ps).length=1+(ps.flatMap QT).length:=by unfold XK;rw[YAO];omega
 refine JF (fun(y:Int×Jn×Int×Unit) (h5:Ja)=>∃t:Nat,y.2.2.1=t∧t≤ps.length∧y.1=((lens (ps.take t):Nat):Int)∧Jc [] h1 h5∧JR h5 Q7 .u8 y.2.1 (UInt8.ofNat tag::(ps.take t).flatMap QT)∧∀q∈own y.2.1,h1.size≤q) (fun(y:Int×Jn×Int×Unit) _=>ps.length-y.2.2.1.toNat) ?_ ?_
 ·refine⟨0,rfl,YAk _,rfl,k4,?_,by simp[own];omega⟩;have:Gm (tag:Int)=UInt8.ofNat tag:=Zm tag;simp only[YAa,YAH];rw[←this];exact r4
 ·rintro⟨(tot:Int),(sl:Jn),(i:Int),_⟩ h5 ⟨t,e,htl',et,k5,r5,o5⟩;dsimp only at e et r5 o5 ⊢;subst e;subst et;have g5:=(g.keep (by decide) k1).keep (by decide) k5;by_cases hlt:t<ps.length
  ·rw[Jf (show decide ((t:Int)<(sp.len:Int))=true from dT (by omega))];have hle:lens (ps.take (t+1))≤lens ps:=GA (t+1);have hst:=Me hlt;have hgx:ps[(t:Int).toNat]? = some ps[t]:=by simp[hlt]
   refine JK g5 (by omega) hgx rfl ?_;rw[JE (n:=65536-((lens (ps.take t):Nat):Int)) (by omega) (by omega)];rw[Jd (by simp;omega)];refine JK g5 (by omega) hgx rfl ?_;refine JK g5 (by omega) hgx rfl ?_;refine ZAA.s (n:=4) (by decide) (by decide) (by omega) fun h7 k7 =>?_;have r7:=r5.keep k7 (by simp)
   have hfl:((ps.take (t+1)).flatMap QT).length≤(ps.flatMap QT).length:=by
    conv=>rhs;rw[←List.take_append_drop (t+1) ps,YAF,YAN]
    omega
   rw[UG hlt,YAN]at hfl;have hpl:(QT ps[t]).length=4+ps[t].size:=by unfold QT;rw[YAN,Jj];rfl
   refine X8 (k := .u8) (ys:=be ps[t].size 4) r7 (by rw[Ui]) rfl (by rw[Ui,Jj,YAO];omega) fun s8 h8 r8 k8 o8 =>?_;have k58:Jc [] h1 h8:=(k5.n k7).new k8 o5;refine JK ((g.keep (by decide) k1).keep (by decide) k58) (by omega) hgx rfl ?_;refine X8 (k := .u8) (ys:=ps[t].data.toList) r8 rfl rfl (by rw[YAN,YAO,Jj];omega) fun s9 h9 r9 k9 o9 =>?_
   have own8:∀q∈own s8,h1.size≤q:=fun q hq=>by
    have:=k5.1;have:=k7.1;rcases XO o8 q hq with e | e
    ·exact o5 q e
    ·omega
   have hw1:Jr (((lens (ps.take t):Nat):Int)+(ps[t].size:Int))=((lens (ps.take (t+1)):Nat):Int):=w6 (by omega);have hw2:Jr ((t:Int)+1)=((t+1:Nat):Int):=w6 (by omega);rw[hw1,hw2];refine⟨⟨t+1,rfl,by omega,rfl,k58.new k9 own8,?_,fun q hq =>?_⟩,by simp;omega⟩
   ·have e9:UInt8.ofNat tag::(ps.take (t+1)).flatMap QT=UInt8.ofNat tag::(ps.take t).flatMap QT++be ps[t].size 4++ps[t].data.toList:=by
     rw[UG hlt];unfold QT;simp only[List.cons_append,YAB]
    rw[e9];exact r9
   ·have:=k58.1;rcases XO o9 q hq with e | e
    ·exact own8 q e
    ·omega
  ·rw[Jd (show¬decide ((t:Int)<(sp.len:Int))=true by simp;omega)];have htp:t=ps.length:=by omega
   subst htp;rw[YAX (YAf _)]at r5;refine We r5.seg fun q =>?_;refine ZBS.s (l:=UInt8.ofNat tag::ps.flatMap QT) (by show(XK tag ps).length≤_;omega) fun h10 k10 =>?_;have e10:=k10.g (k5.g e1);refine Yb (k := .ar 32 .u8) (x':=Yt (XK tag ps)) e10 ?_;refine⟨_,Je (k := .ar 32 .u8) (Jw e10),?_⟩;exact hK _ (((k1.n k5).n k10).new Jo (by simp;omega))
def Qq{α β : Type} (R : α → β → Prop):List α → List β → Prop
 | [],[]=>True
 | a::la,b::lb=>R a b∧Qq R la lb
 | _,_=>False
def Qq.len{α β : Type}{R : α → β → Prop}:∀ {la:List α}{lb:List β},Qq R la lb→la.length=lb.length
 | [],[],_=>rfl
 | _::_,_::_,h=>by simp[Qq.len h.2]
def Qq.mono{α β : Type}{R S : α → β → Prop} (f:∀a b,R a b→S a b):∀ {la:List α}{lb:List β},Qq R la lb→Qq S la lb
 | [],[],_=>trivial
 | _::_,_::_,h=>⟨f _ _ h.1,Qq.mono f h.2⟩
def Qq.monoM{α β : Type}{R S : α → β → Prop}:∀ {la:List α}{lb:List β},(∀a∈la,∀b∈lb,R a b→S a b)→Qq R la lb→Qq S la lb
 | [],[],_,_=>trivial
 | a::la,b::lb,f,h=>⟨f a (by simp) b (by simp) h.1,Qq.monoM (fun x hx y hy=>f x (by simp[hx]) y (by simp[hy])) h.2⟩
def Qq.at{α β : Type}{R : α → β → Prop}:∀ {la:List α}{lb:List β}{i:Nat}{a : α}{b : β},Qq R la lb→la[i]? = some a→lb[i]? = some b→R a b
 | a :: la, b :: lb, 0, _, _, h, h1, h2 => by
   simp only[List.getElem?_cons_zero,Option.some.injEq]at h1 h2;subst h1;subst h2;exact h.1
 | a::la,b::lb,i+1,_,_,h,h1,h2=>Qq.at h.2 (by simpa using h1) (by simpa using h2)
def Qq.app{α β : Type}{R : α → β → Prop}:∀ {la:List α}{lb:List β}{la':List α}{lb':List β},Qq R la lb→Qq R la' lb'→Qq R (la++la') (lb++lb')
 | [],[],_,_,_,h=>h
 | _::_,_::_,_,_,h,h'=>⟨h.1,Qq.app h.2 h'⟩
def Qq.getI{α β : Type}{R : α → β → Prop}{la:List α}{lb:List β} (h:Qq R la lb){i:Nat} (h1:i<la.length) (h2:i<lb.length):R la[i] lb[i]:=h.at (YAJ h1) (YAJ h2)
def jR{α β : Type}{R : α → β → Prop}:Qq R [] []:=trivial
abbrev XU:Kd := .ag (.pr .i (.pr .sl .un))
abbrev M7:Kd := .ag (.pr .i (.pr .i (.pr .i (.pr .i (.pr .s (.pr .sl .un))))))
abbrev Ug:Kd := .ag (.pr .sl .un)
structure UN (h:Ja) (v:XU.Ty) (m:Mb):Prop where
 u:v.1=m.users
 g:∃gs,Q5 .sl v.2.1 gs h∧Qq (fun s us=>Q5 .i s us h∧us.length≤9223372036854775807) gs m.groups
abbrev VN:=M7.Ty
def YE(v:VN):Int:=v.1
def wq(v:VN):Int:=v.2.1
def wt(v:VN):Int:=v.2.2.1
def yh(v:VN):Int:=v.2.2.2.1
def wp(v:VN):Ba:=v.2.2.2.2.1
def Cz(v:VN):Jn:=v.2.2.2.2.2.1
structure GL (h:Ja) (v:VN) (x:Nd):Prop where
 n:YE v=x.num
 k:wq v=x.kind
 m:wt v=x.mode
 l:yh v=x.links
 d:wp v=x.data
 e:Q5 DE (Cz v) x.ents h
def GL.keep{h h':Ja}{v:VN}{x:Nd}{S:List Nat} (a:GL h v x) (k:Jc S h h') (hn:∀b∈own (Cz v),b∉S):GL h' v x:=⟨a.n,a.k,a.m,a.l,a.d,a.e.keep' k hn⟩
structure ML (h:Ja) (t0:Jn) (ss:List Jn) (vv:List (List VN)) (X:Fs):Prop where
 t:Q5 .sl t0 ss h
 r:Qq (fun s vs=>Q5 M7 s vs h) ss vv
 n:Qq (Qq (GL h)) vv X
def ML.keep{h h':Ja}{t0:Jn}{ss:List Jn}{vv:List (List VN)}{X:Fs} (w:ML h t0 ss vv X) (k:Jc [] h h'):ML h' t0 ss vv X:=
 ⟨w.t.keep (by decide) k,w.r.mono fun _ _ g=>g.keep (by decide) k,w.n.mono fun _ _ g=>g.mono fun _ _ a=>a.keep k (by simp)⟩
def UN.keep{h h':Ja}{v:XU.Ty}{m:Mb} (a:UN h v m) (k:Jc [] h h'):UN h' v m:=by
 obtain⟨gs,g1,g2⟩:=a.g;exact⟨a.u,gs,g1.keep (by decide) k,g2.mono fun _ _ g=>⟨g.1.keep (by decide) k,g.2⟩⟩
def Rp{l:Pl}{v:VN}{h:Ja} (e:sm M7 l v h):sm .i (l.fld 0) (YE v) h∧sm .i (l.fld 1) (wq v) h∧sm .i (l.fld 2) (wt v) h∧sm .i (l.fld 3) (yh v) h∧sm .s (l.fld 4) (wp v) h∧sm .sl (l.fld 5) (Cz v) h:=
 ⟨JV e (by decide) rfl,JV e (by decide) rfl,JV e (by decide) rfl,JV e (by decide) rfl,JV e (by decide) rfl,JV e (by decide) rfl⟩
def W6:∀xs:List Int,Ig xs=true↔∀j,(h:j+1<xs.length)→xs[j]<xs[j+1]
 | []=>by simp[Ig]
 | [x]=>by simp[Ig]
 | x :: y :: r => by
   unfold Ig;rw[YAl,Qg,W6 (y::r)]
   constructor
   ·rintro⟨h1,h2⟩ j hj
    cases j with
    | zero=>exact h1
    | succ j=>exact h2 j (by simpa using hj)
   ·intro h;exact⟨h 0 (by simp),fun j hj=>h (j+1) (by simpa using hj)⟩
def ZCW.s{us:Jn}{xs:List Int}{n:Int}{h:Ja}{K:Bool→Hp} (g:Q5 .i us xs h) (hl:xs.length≤9223372036854775807) (hK:K (XM xs n) h):ZCW.C us n h K:=by
 apply ZCW.c;unfold ZCW.m;have gl:=g.len;refine JF (fun(y:Int×Unit) (h1:Ja)=>h1=h∧∃t:Nat,y.1=t∧t≤xs.length∧(∀j,(hj:j<xs.length)→j<t→0≤xs[j]∧xs[j]<n∧(0<j→xs[j-1]'(by omega)<xs[j]))) (fun(y:Int×Unit) _=>xs.length-y.1.toNat) ?_ ?_
 ·exact⟨rfl,0,rfl,YAk _,fun j _ h=>by omega⟩
 ·rintro⟨(i:Int),_⟩ h1 ⟨rfl,t,e,ht,hall⟩;dsimp only at e ⊢;subst e;by_cases hlt:t<xs.length
  ·rw[Jf (show decide ((t:Int)<(us.len:Int))=true from dT (by omega))];have hgx:xs[(t:Int).toNat]? = some xs[t]:=by simp[hlt]
   have bad:¬(0≤xs[t]∧xs[t]<n∧(0<t→xs[t-1]'(by omega)<xs[t]))→XM xs n=false:=by
    intro hb
    cases hm:XM xs n with
    | false=>rfl
    | true =>
      unfold XM at hm;simp only[YAl,YAA,Qg]at hm;refine absurd ⟨(hm.1.1 _ (YAM hlt)).1,(hm.1.1 _ (YAM hlt)).2,fun h0 =>?_⟩ hb;have:=(W6 xs).1 hm.1.2 (t-1) (by omega);simpa[Nat.sub_add_cancel h0] using this
   have hnext:(0≤xs[t]∧xs[t]<n∧(0<t→xs[t-1]'(by omega)<xs[t]))→∃t':Nat,Jr ((t:Int)+1)=t'∧t'≤xs.length∧t'=t+1∧(∀j,(hj:j<xs.length)→j<t'→0≤xs[j]∧xs[j]<n∧(0<j→xs[j-1]'(by omega)<xs[j])):=by
    intro hg;refine⟨t+1,by rw[JE (by omega) (by omega)];omega,by omega,rfl,fun j hj hjt =>?_⟩;by_cases hje:j=t
    ·subst hje;exact hg
    ·exact hall j hj (by omega)
   refine Vs ?_;refine JK g (by omega) hgx rfl ?_;by_cases c1:xs[t]<0
   ·refine JH (true,()) h1 (by rw[Jf (by simpa using c1)];exact⟨by first | rfl | trivial,by first | rfl | trivial⟩) ?_;rw[Jf (by rfl)];rw[bad (by rintro⟨h,_⟩;omega)]at hK;exact hK
   by_cases c2:xs[t]≥n
   ·refine JH (true,()) h1 (by rw[Jd (by simpa using c1),Jf (by simpa using c2)];exact⟨by first | rfl | trivial,by first | rfl | trivial⟩) ?_;rw[Jf (by rfl)];rw[bad (by rintro⟨_,h,_⟩;omega)]at hK;exact hK
   by_cases c3:0<t
   ·have hp:Jr ((t:Int)-1)=((t-1:Nat):Int):=w6 (by omega);have hgp:xs[((t-1:Nat):Int).toNat]? = some (xs[t-1]'(by omega)):=by rw[YAc,YAJ]
    by_cases c4:xs[t]≤xs[t-1]'(by omega)
    ·refine JH (true,()) h1 ?_ ?_
     ·rw[Jd (by simpa using c1),Jd (by simpa using c2),Jf (by simpa using c3),hp];refine JK g (by omega) hgp rfl ?_;exact⟨by simp[c4],by first | rfl | trivial⟩
     ·rw[Jf (by rfl)];rw[bad (by rintro⟨_,_,h⟩;have:=h c3;omega)]at hK;exact hK
    ·refine JH (false,()) h1 ?_ ?_
     ·rw[Jd (by simpa using c1),Jd (by simpa using c2),Jf (by simpa using c3),hp];refine JK g (by omega) hgp rfl ?_;exact⟨by simp[c4],by first | rfl | trivial⟩
     ·rw[Jd (by simp)];obtain⟨t',e1,e2,e3,e4⟩:=hnext ⟨by omega,by omega,fun _=>by omega⟩;rw[e1];exact⟨⟨by first | rfl | trivial,t',rfl,e2,e4⟩,by simp;omega⟩
   ·refine JH (false,()) h1 ?_ ?_
    ·rw[Jd (by simpa using c1),Jd (by simpa using c2),Jd (by simp;omega)];exact⟨by first | rfl | trivial,by first | rfl | trivial⟩
    ·rw[Jd (by simp)];obtain⟨t',e1,e2,e3,e4⟩:=hnext ⟨by omega,by omega,fun h=>absurd h c3⟩;rw[e1];exact⟨⟨by first | rfl | trivial,t',rfl,e2,e4⟩,by simp;omega⟩
  ·rw[Jd (show¬decide ((t:Int)<(us.len:Int))=true by simp;omega)]
   have:XM xs n=decide ((us.len:Int)>0):=by
    have h1:(xs.all fun u=>decide (0≤u)&&decide (u<n))=true:=by
     rw[YAA];intro u hu;obtain⟨j,hj,rfl⟩:=List.mem_iff_getElem.1 hu;have:=hall j hj (by omega);simp[this.1,this.2.1]
    have h2:Ig xs=true:=(W6 xs).2 fun j hj=>by
     have:=(hall (j+1) hj (by omega)).2.2 (by omega);simpa using this
    unfold XM;rw[h1,h2,gl]
    cases xs with
    | nil=>rfl
    | cons a b=>simp
   rw[←this];exact hK
def ZB6.s{us:Jn}{xs:List Int}{b:Nat}{v:XU.Ty}{h:Ja}{K:Bool→Hp} (g:Q5 .i us xs h) (hl:xs.length≤9223372036854775807) (e:h[b]? = some (Jg JT XU v)) (hK:K (!XM xs v.1) h):ZB6.C us ⟨b,0⟩ h K:=by
 apply ZB6.c;unfold ZB6.m;obtain⟨(u:Int),(gs:Jn),_⟩:=v;exact⟨u,Jv e rfl (by decide),ZCW.s g hl hK⟩
def YX{a b:List UInt8}{K:Ba→Prop} (h:a.length+b.length≤9223372036854775807) (hK:K (bx (a++b))):JS (bx a) (bx b) K:=by
 refine Zl (by rw[Js,Js];exact h) ?_;have:(⟨((bx a).data.toList++(bx b).data.toList).toArray⟩:Ba)=bx (a++b):=by simp[bx]
 rw[this];exact hK
def xS{h h2:Ja}{b o T T2:Nat}{c:Array Value}{f f2:Nat×Nat}{k:Kd}{x:k.Ty} (e:h[b]? = some (.cells c T f)) (e2:h2[b]? = some (.cells c T2 f2)) (hs:sm k ⟨b,o⟩ x h):sm k ⟨b,o⟩ x h2:=by
 unfold sm Qz at *;rw[e]at hs;rw[e2];exact hs
def Cr{T:Nat}{d:Ba}{h:Ja}{K:Jn→Hp} (hK:∀s h',Jc [] h h'→Q5 .u8 s d.data.toList h'→own s=[h.size]→s.len≤s.cap→h'.size=h.size+1→(∃c f,h'[h.size]? = some (.cells c T f))→K s h'):js T d h K:=by
 intro c hc _;have hl:d.size=d.data.toList.length:=rfl;have e2:(h.push (QW T .u8 (d.data.toList++List.replicate (c-d.size) (0:UInt8))))[h.size]? = some (QW T .u8 (d.data.toList++List.replicate (c-d.size) (0:UInt8))):=JA;have r:JR (h.push (QW T .u8 (d.data.toList++List.replicate (c-d.size) (0:UInt8)))) T .u8 ⟨some ⟨h.size,0⟩,d.size,c⟩ d.data.toList:=JR.of_new e2 rfl rfl (by simp;omega);have g:=r.seg
 have e1:(h.push (.cells (d.data.toList.flatMap Kd.u8.cells++Xl .u8 (c-d.size)).toArray T (c,c+1)))[h.size]? = some (.cells ((d.data.toList++List.replicate (c-d.size) (0:UInt8)).flatMap Kd.u8.cells).toArray T (c,c+1)):=by
  rw[JA,YAF];rfl
 refine hK _ _ Ju ⟨rfl,fun i x hx =>?_,fun l hl' =>?_⟩ rfl hc (by simp) ⟨_,_,e1⟩
 ·obtain⟨l,h1,h2⟩:=g.el i x hx
  cases h1
  exact⟨_,rfl,xS e2 e1 h2⟩
 ·cases hl'
  exact⟨_,_,_,e1,YAk _⟩
def Jab{h:Ja}{l:Pl}{n:Nat}{cs:List Value} (e:Qz h l n=some cs):∃c T f,h[l.b]? = some (.cells c T f)∧l.o+n≤c.size:=by
 unfold Qz at e;split at e
 ·rename_i c T f he
  split at e
  ·exact⟨c,T,f,he,by assumption⟩
  ·simp at e
 ·simp at e
def R7{k:Kd}{s:Jn}{xs:List k.Ty}{h:Ja} (g:Q5 k s xs h){n c:Nat}{w:Wd} (hn:n≤xs.length):Q5 k (@Jn.mk s.a n c w) (xs.take n) h:=
 ⟨by rw[YAS];show n=_;omega,fun i x hx=>g.el i x (by
  by_cases hi:i<n
  ·rw[List.getElem?_take_of_lt hi]at hx;exact hx
  ·rw[YAK (by rw[YAS];omega)]at hx;simp at hx),g.blk⟩
def El{k:Kd}{s:Jn}{xs:List k.Ty}{h:Ja}{n sz:Nat}{K:Jn→Prop} (r:Q5 k s xs h) (hc:s.len≤s.cap) (hn:n≤xs.length) (hK:∀s',own s'=own s→Q5 k s' (xs.take n) h→K s'):R9 s 0 (n:Int) (s.cap:Int) sz K:=by
 have hl:=r.len
 have e:(if (s.cap:Int).toNat=(0:Int).toNat then s.a else s.a.map fun l=>⟨l.b,l.o+(0:Int).toNat*sz⟩)=s.a:=by
  split
  ·rfl
  ·cases s.a <;> simp
 refine⟨by omega,by omega,by omega,by omega,?_⟩;rw[e];refine hK _ (by unfold own;rfl) ?_;simp only[YAc,Int.toNat_zero,Nat.sub_zero];exact R7 r hn
def T3{k:Kd}{s:Jn}{xs:List k.Ty}{h:Ja}{m:Nat}{sz:Nat}{K:Jn→Prop} (g:Q5 k s xs h) (hs:sz=k.size) (hc:s.len≤s.cap) (hm:m≤xs.length) (hK:∀s',Q5 k s' (xs.drop m) h→s'.len≤s'.cap→(∀q∈own s',q∈own s)→K s'):R9 s (m:Int) (s.len:Int) (s.cap:Int) sz K:=by
 subst hs;have hl:=g.len;refine⟨by omega,by omega,by omega,by omega,hK _ ⟨?_,?_,?_⟩ ?_ ?_⟩
 ·simp;omega
 ·intro i x hx
  have hi:m+i<xs.length:=by
   by_cases h:m+i<xs.length
   ·exact h
   ·rw[YAK (by simp;omega)]at hx;simp at hx
  rw[List.getElem?_drop]at hx;obtain⟨l,h1,h2⟩:=g.el (m+i) x hx;simp only[YAc];rw[Jd (by omega),h1];refine⟨_,rfl,?_⟩;show sm k ⟨l.b,l.o+m*k.size+i*k.size⟩ x h;have:l.o+m*k.size+i*k.size=l.o+(m+i)*k.size:=by rw[YAe];omega
  rw[this];exact h2
 ·intro l hl';simp only[YAc]at hl';by_cases hcm:s.cap=m
  ·rw[Jf hcm]at hl';exact g.blk l hl'
  ·rw[Jd hcm]at hl'
   cases ha:s.a with
   | none=>rw[ha]at hl';simp at hl'
   | some l0 =>
     rw[ha]at hl';simp only[Option.map_some,Option.some.injEq]at hl';subst hl'
     cases m with
     | zero =>
       obtain⟨c,T,f,e1,e2⟩:=g.blk l0 ha;exact⟨c,T,f,e1,by simpa using e2⟩
     | succ m =>
       obtain⟨l,h1,h2⟩:=g.el m xs[m] (by simp);rw[ha]at h1
       cases h1
       obtain⟨c,T,f,e1,e2⟩:=Jab h2;refine⟨c,T,f,e1,?_⟩;show l0.o+(m+1)*k.size≤c.size;have:(m+1)*k.size=m*k.size+k.size:=by rw[YAe];omega
       have e2':l0.o+m*k.size+k.size≤c.size:=e2;omega
 ·show(s.len:Int).toNat-(m:Int).toNat≤(s.cap:Int).toNat-(m:Int).toNat;simp only[YAc];omega
 ·intro q hq;unfold own at hq ⊢;simp only[YAc]at hq;by_cases hcm:s.cap=m
  ·rw[Jf hcm]at hq;exact hq
  ·rw[Jd hcm]at hq
   cases ha:s.a with
   | none=>rw[ha]at hq;simp at hq
   | some l0=>rw[ha]at hq;simpa using hq
def ZB1.s{xs:Jn}{L:List (Kd.u8).Ty}{n:Nat}{h:Ja}{K:Jn→Hp} (g:Q5 (Kd.u8) xs L h) (hc:xs.len≤xs.cap) (hn:0<n) (hn':n≤1000) (hl:L.length≤10000)
 (hK:∀s h' ss,Jc [] h h'→JR h' Ta .sl s ss→Qq (fun u c=>Q5 (Kd.u8) u c h) ss (Ql n L)→(∀q∈own s,h.size≤q)→(∀u∈ss,∀q∈own u,q∈own xs)→K s h'):ZB1.C xs n h K:=by
 apply ZB1.c;unfold ZB1.m;refine JF (fun(y:Jn×Jn×Unit) (h1:Ja)=>∃i ss,i≤(Ql n L).length∧Jc [] h h1∧JR h1 Ta .sl y.1 ss∧(∀q∈own y.1,h.size≤q)∧Qq (fun u c=>Q5 (Kd.u8) u c h) ss ((Ql n L).take i)∧Q5 (Kd.u8) y.2.1 (L.drop (i*n)) h∧y.2.1.len≤y.2.1.cap∧(∀q∈own y.2.1,q∈own xs)∧∀u∈ss,∀q∈own u,q∈own xs) (fun(y:Jn×Jn×Unit) _=>y.2.1.len) ?_ ?_
 ·exact⟨0,[],YAk _,Jc.rfl,JR.nil,by simp[own],trivial,by simpa using g,hc,fun q hq=>hq,by simp⟩
 ·rintro⟨o,v,_⟩ h1 ⟨i,ss,hi,k1,r1,o1,a1,g1,c1,w1,u1⟩;dsimp only at r1 o1 g1 c1 w1 ⊢;have gl:=g1.len;rw[YAP]at gl;have hcl:=XX (n:=n) (xs:=L);have hdm:=Nat.div_add_mod (L.length+n-1) n;have hml:=Nat.mod_lt (L.length+n-1) hn;have hQb:(L.length+n-1)/n≤L.length+n-1:=Nat.div_le_self _ _;generalize hQ:(L.length+n-1)/n=Q at hcl hdm hQb;have al:=a1.len;rw[YAS]at al;by_cases h0:0<v.len
  ·rw[Jf (by simpa using h0)]
   have hiQ:i<Q:=by
    by_cases hh:i<Q
    ·exact hh
    ·have:n*Q≤i*n:=by rw[YAi i n];exact YAj _ (by omega)
     omega
   have hm:RV (n:Int) (v.len:Int)=((min n v.len:Nat):Int):=by unfold RV;split <;> omega
   rw[hm];refine El g1 c1 (by rw[YAP];omega) fun s1 p1 g2 =>?_;refine Vi (by_:=24) r1 rfl (by omega) fun s3 h3 k3 r3 o3 =>?_;refine T3 g1 rfl c1 (by rw[YAP];omega) fun s4 g4 c4 p4 =>?_;have kk:Jc [] h h3:=k1.new k3 o1
   have e4:(L.drop (i*n)).drop (min n v.len)=L.drop ((i+1)*n):=by
    rw[YAD,YAe,Nat.one_mul];by_cases hnv:n≤v.len
    ·rw[YAg hnv]
    ·rw[YAh (by omega),YAE (by omega),YAE (by omega)]
   have e2:(L.drop (i*n)).take (min n v.len)=(Ql n L)[i]'(by omega):=by
    rw[WW];by_cases hnv:n≤v.len
    ·rw[YAg hnv]
    ·rw[YAh (by omega),YAX (by rw[YAP];omega),YAX (by rw[YAP];omega)]
   rw[e4]at g4;rw[e2]at g2;have l4:=g4.len;rw[YAP,YAe,Nat.one_mul]at l4;refine⟨⟨i+1,ss++[s1],by omega,kk,r3,fun q hq =>?_,?_,g4,c4,fun q hq=>w1 q (p4 q hq),fun u hu =>?_⟩,?_⟩
   ·rcases o3 q hq with h | h
    ·exact o1 q h
    ·have:=k1.1;omega
   ·rw[YAZ (by omega)];exact a1.app (show Qq _ [s1] [_] from⟨g2,trivial⟩)
   ·rcases List.mem_append.1 hu with h | h
    ·exact u1 u h
    ·rw[List.mem_singleton]at h;subst h;rw[p1];exact w1
   ·show s4.len<v.len;omega
  ·rw[Jd (by simpa using h0)]
   have hiQ:i=Q:=by
    have:i*n≥L.length:=by omega
    by_cases hh:i<Q
    ·have h1:n*(i+1)≤n*Q:=YAj _ hh;rw[Nat.mul_add,Nat.mul_one,YAi n i]at h1;omega
    ·omega
   rw[YAX (by omega)]at a1;exact hK o h1 ss k1 r1 a1 o1 u1
def ZBD.s{xs:Jn}{L:List (HK).Ty}{n:Nat}{h:Ja}{K:Jn→Hp} (g:Q5 (HK) xs L h) (hc:xs.len≤xs.cap) (hn:0<n) (hn':n≤1000) (hl:L.length≤10000)
 (hK:∀s h' ss,Jc [] h h'→JR h' UD .sl s ss→Qq (fun u c=>Q5 (HK) u c h) ss (Ql n L)→(∀q∈own s,h.size≤q)→(∀u∈ss,∀q∈own u,q∈own xs)→K s h'):ZBD.C xs n h K:=by
 apply ZBD.c;unfold ZBD.m;refine JF (fun(y:Jn×Jn×Unit) (h1:Ja)=>∃i ss,i≤(Ql n L).length∧Jc [] h h1∧JR h1 UD .sl y.1 ss∧(∀q∈own y.1,h.size≤q)∧Qq (fun u c=>Q5 (HK) u c h) ss ((Ql n L).take i)∧Q5 (HK) y.2.1 (L.drop (i*n)) h∧y.2.1.len≤y.2.1.cap∧(∀q∈own y.2.1,q∈own xs)∧∀u∈ss,∀q∈own u,q∈own xs) (fun(y:Jn×Jn×Unit) _=>y.2.1.len) ?_ ?_
 ·exact⟨0,[],YAk _,Jc.rfl,JR.nil,by simp[own],trivial,by simpa using g,hc,fun q hq=>hq,by simp⟩
 ·rintro⟨o,v,_⟩ h1 ⟨i,ss,hi,k1,r1,o1,a1,g1,c1,w1,u1⟩;dsimp only at r1 o1 g1 c1 w1 ⊢;have gl:=g1.len;rw[YAP]at gl;have hcl:=XX (n:=n) (xs:=L);have hdm:=Nat.div_add_mod (L.length+n-1) n;have hml:=Nat.mod_lt (L.length+n-1) hn;have hQb:(L.length+n-1)/n≤L.length+n-1:=Nat.div_le_self _ _;generalize hQ:(L.length+n-1)/n=Q at hcl hdm hQb;have al:=a1.len;rw[YAS]at al;by_cases h0:0<v.len
  ·rw[Jf (by simpa using h0)]
   have hiQ:i<Q:=by
    by_cases hh:i<Q
    ·exact hh
    ·have:n*Q≤i*n:=by rw[YAi i n];exact YAj _ (by omega)
     omega
   have hm:RV (n:Int) (v.len:Int)=((min n v.len:Nat):Int):=by unfold RV;split <;> omega
   rw[hm];refine El g1 c1 (by rw[YAP];omega) fun s1 p1 g2 =>?_;refine Vi (by_:=24) r1 rfl (by omega) fun s3 h3 k3 r3 o3 =>?_;refine T3 g1 rfl c1 (by rw[YAP];omega) fun s4 g4 c4 p4 =>?_;have kk:Jc [] h h3:=k1.new k3 o1
   have e4:(L.drop (i*n)).drop (min n v.len)=L.drop ((i+1)*n):=by
    rw[YAD,YAe,Nat.one_mul];by_cases hnv:n≤v.len
    ·rw[YAg hnv]
    ·rw[YAh (by omega),YAE (by omega),YAE (by omega)]
   have e2:(L.drop (i*n)).take (min n v.len)=(Ql n L)[i]'(by omega):=by
    rw[WW];by_cases hnv:n≤v.len
    ·rw[YAg hnv]
    ·rw[YAh (by omega),YAX (by rw[YAP];omega),YAX (by rw[YAP];omega)]
   rw[e4]at g4;rw[e2]at g2;have l4:=g4.len;rw[YAP,YAe,Nat.one_mul]at l4;refine⟨⟨i+1,ss++[s1],by omega,kk,r3,fun q hq =>?_,?_,g4,c4,fun q hq=>w1 q (p4 q hq),fun u hu =>?_⟩,?_⟩
   ·rcases o3 q hq with h | h
    ·exact o1 q h
    ·have:=k1.1;omega
   ·rw[YAZ (by omega)];exact a1.app (show Qq _ [s1] [_] from⟨g2,trivial⟩)
   ·rcases List.mem_append.1 hu with h | h
    ·exact u1 u h
    ·rw[List.mem_singleton]at h;subst h;rw[p1];exact w1
   ·show s4.len<v.len;omega
  ·rw[Jd (by simpa using h0)]
   have hiQ:i=Q:=by
    have:i*n≥L.length:=by omega
    by_cases hh:i<Q
    ·have h1:n*(i+1)≤n*Q:=YAj _ hh;rw[Nat.mul_add,Nat.mul_one,YAi n i]at h1;omega
    ·omega
   rw[YAX (by omega)]at a1;exact hK o h1 ss k1 r1 a1 o1 u1
def qo{L:List YI}:(L.flatMap (·.toList)).length=32*L.length:=by
 induction L with
 | nil=>rfl
 | cons h r ih=>rw[YAG,YAN,ih,YAO];simp;omega
def ZC3.s{c:UInt8}{hs:Jn}{L:List YI}{h:Ja}{K:Ba→Hp} (g:Q5 HK hs L h) (hl:L.length≤10000) (hK:∀h',Jc [] h h'→K (Xu c L) h'):ZC3.C ⟨#[c]⟩ hs h K:=by
 apply ZC3.c;unfold ZC3.m;have gl:=g.len;rw[gl,Zm];refine QN fun b1 h1 hb1 k1 r1 hs1 =>?_;refine Xb r1.seg fun q1 _ =>?_;show JS (bx [c]) (bx [UInt8.ofNat L.length]) _;refine YX (by simp) ?_;have g1:=g.keep (by decide) k1;refine JF (fun(y:Ba×Int×Unit) (h2:Ja)=>∃n:Nat,y.2.1=n∧n≤L.length∧Jc [] h h2∧y.1=bx ([c]++[UInt8.ofNat L.length]++(L.take n).flatMap (·.toList))) (fun(y:Ba×Int×Unit) _=>L.length-y.2.1.toNat) ?_ ?_
 ·exact⟨0,rfl,YAk _,k1,by simp⟩
 ·rintro⟨(a:Ba),(i:Int),_⟩ h2 ⟨n,e,hn,k2,ea⟩;dsimp only at e ea ⊢;subst e;subst ea;by_cases hlt:n<L.length
  ·rw[Jf (show decide ((n:Int)<(L.length:Int))=true from dT (by omega))];have hw:Jr ((n:Int)+1)=((n+1:Nat):Int):=w6 (by omega);rw[hw];refine JK (g.keep (by decide) k2) (x:=L[n]) (by omega) (by simp[hlt]) rfl ?_;refine Jq fun b3 h4 hb3 k4 e4 hs4 =>?_;refine⟨by decide,by decide,by decide,?_⟩;have g4:Q5 .u8 ⟨some ⟨b3,0⟩,32,32⟩ L[n].toList h4:=Wt e4;refine Xb g4 fun q _ =>?_
   have fl:((L.take n).flatMap (·.toList)).length≤32*L.length:=by
    rw[qo,YAS];omega
   refine YX (b:=L[n].toList) (by simp only[YAN,YAO,YAR,YAp];omega) ?_;refine⟨⟨n+1,rfl,by omega,k2.n k4,?_⟩,by simp;omega⟩;rw[YAZ hlt];simp only[YAF,YAG,YAH,YAC,YAB]
  ·rw[Jd (show¬decide ((n:Int)<(L.length:Int))=true by simp;omega)];obtain rfl:n=L.length:=by omega
   rw[YAX (YAf _)];exact hK h2 k2
def ZBn.s{all:Jn}{ss:List Jn}{cs:List (List (Kd.u8).Ty)}{wv:Value}{w:List (Kd.u8).Ty→Ba}{b:Nat}{s:Jn}{m:Option Nat}{L:List Ba}{h:Ja}{K:Jn→Hp}
 (ga:Q5 .sl all ss h) (a:Qq (fun u c=>Q5 (Kd.u8) u c h) ss cs) (i:ZS h b s m L) (na:∀q∈own all,q∉Qb b s m) (nu:∀u∈ss,∀q∈own u,q∉Qb b s m) (hL:L.length+cs.length≤100000)
 (hw:∀u c h1 (Q:Ba→Hp),c∈cs→Q5 (Kd.u8) u c h1→(∀h2,Jc [] h1 h2→Q (w c) h2)→QH pG wv [Kd.sl.val u] .s h1 Q) (hz:∀c∈cs,(w c).size≤65536)
 (hK:∀o h' s' m',JR h' Jh HK o ((cs.map w).map Jy)→(∀q∈own o,h.size≤q)→ZS h' b s' m' (JD L (cs.map w))→Jc (Qb b s m) h h'→(∀q∈Qb b s' m',q∈Qb b s m∨h.size≤q)→K o h'):ZBn.C (some ⟨b,0⟩) all wv h K:=by
 apply ZBn.c;unfold ZBn.m;have gl:=ga.len;have al:=a.len;refine JF (fun(y:Jn×Int×Unit) (h1:Ja)=>∃n s1 m1,y.2.1=((n:Nat):Int)∧n≤cs.length∧JR h1 Jh HK y.1 (((cs.take n).map w).map Jy)∧(∀q∈own y.1,h.size≤q)∧ZS h1 b s1 m1 (JD L ((cs.take n).map w))∧Jc (Qb b s m) h h1∧∀q∈Qb b s1 m1,q∈Qb b s m∨h.size≤q) (fun(y:Jn×Int×Unit) _=>cs.length-y.2.1.toNat) ?_ ?_
 ·exact⟨0,s,m,rfl,YAk _,by simpa using JR.nil,by simp[own],by rw[YAa,List.map_nil,Z6];exact i,Jc.rfl,fun q hq => .inl hq⟩
 ·rintro⟨(o:Jn),(j:Int),_⟩ h1 ⟨n,s1,m1,e,hn,r1,o1,i1,k1,f1⟩;dsimp only at e r1 o1 ⊢;subst e;by_cases hlt:n<cs.length
  ·rw[Jf (show decide ((n:Int)<(all.len:Int))=true from dT (by omega))];have hwn:Jr ((n:Int)+1)=((n+1:Nat):Int):=w6 (by omega);rw[hwn];have hs:n<ss.length:=by omega
   refine JK (ga.keep' k1 na) (x:=ss[n]) (by omega) (by simp[hs]) rfl ?_;have gu:=(a.getI hs hlt).keep' k1 (nu _ (YAM hs));have hz1:=hz _ (YAM hlt);refine hw _ _ _ _ (YAM hlt) gu fun h2 k2 =>?_;refine ZAQ.s hz1 fun h3 k3 =>?_;refine Jq fun b4 h5 hb4 k5 e5 hs5 =>?_;have e5:h5[b4]? = some (Jg Jh HK (Jy (w cs[n]))):=e5;have k15:Jc [] h1 h5:=(k2.n k3).n k5;have i5:=i1.keep0 k15;have hz15:h1.size≤h3.size:=(k2.n k3).1;have hz01:=k1.1;have hoL:=QE (L:=L) (xs:=(cs.take n).map w);rw[YAQ,YAS]at hoL;refine ZAF.s i5 (by omega) fun h6 s6 m6 i6 k6 f6 =>?_;have n4:b4∉Qb b s1 m1:=i5.off e5 (by decide) (by decide);have e6:=k6.get e5 n4;refine Jb (Je e6) ?_;have r5:=r1.keep k15 (by simp);have r6:=r5.keep k6 (i5.offRow r5 (by decide) (by decide));refine Vi (by_:=32) r6 rfl (by simp only[YAQ,YAS];omega) fun s7 h7 k7 r7 o7 =>?_;have k06:Jc (Qb b s m) h h6:=(k1.then k15 (fun q hq _=>hq) (by simp)).then k6 (fun q hq _=>hq) (fun q hq hlt=>by rcases f1 q hq with h | h;exact h;omega);have s16:=k15.1;have s56:=k6.1;refine⟨⟨n+1,s6,m6,rfl,by omega,?_,?_,?_,?_,?_⟩,by simp;omega⟩
   ·rw[YAZ hlt,YAT,YAT];exact r7
   ·intro q hq;rcases o7 q hq with h | h
    ·exact o1 q h
    ·have:=k06.1;omega
   ·have e8:JD L ((cs.take (n+1)).map w)=Xt (JD L ((cs.take n).map w)) (w cs[n]):=by
     rw[YAZ hlt,YAT,Q2];rfl
    rw[e8];exact i6.keep k7 (fun q hq hm=>i6.offRow r6 (by decide) (by decide) q hm hq)
   ·exact k06.then k7 (fun q hq _=>hq) (fun q hq hlt=>by have:=o1 q hq;omega)
   ·intro q hq;rcases f6 q hq with h | h
    ·exact f1 q h
    ·right;omega
  ·rw[Jd (show¬decide ((n:Int)<(all.len:Int))=true by simp;omega)];obtain rfl:n=cs.length:=by omega
   rw[YAX (YAf _)]at r1 i1;exact hK o h1 s1 m1 r1 o1 i1 k1 f1
def ZA6.s{all:Jn}{ss:List Jn}{cs:List (List (HK).Ty)}{wv:Value}{w:List (HK).Ty→Ba}{b:Nat}{s:Jn}{m:Option Nat}{L:List Ba}{h:Ja}{K:Jn→Hp}
 (ga:Q5 .sl all ss h) (a:Qq (fun u c=>Q5 (HK) u c h) ss cs) (i:ZS h b s m L) (na:∀q∈own all,q∉Qb b s m) (nu:∀u∈ss,∀q∈own u,q∉Qb b s m) (hL:L.length+cs.length≤100000)
 (hw:∀u c h1 (Q:Ba→Hp),c∈cs→Q5 (HK) u c h1→(∀h2,Jc [] h1 h2→Q (w c) h2)→QH pG wv [Kd.sl.val u] .s h1 Q) (hz:∀c∈cs,(w c).size≤65536)
 (hK:∀o h' s' m',JR h' Jh HK o ((cs.map w).map Jy)→(∀q∈own o,h.size≤q)→ZS h' b s' m' (JD L (cs.map w))→Jc (Qb b s m) h h'→(∀q∈Qb b s' m',q∈Qb b s m∨h.size≤q)→K o h'):ZA6.C (some ⟨b,0⟩) all wv h K:=by
 apply ZA6.c;unfold ZA6.m;have gl:=ga.len;have al:=a.len;refine JF (fun(y:Jn×Int×Unit) (h1:Ja)=>∃n s1 m1,y.2.1=((n:Nat):Int)∧n≤cs.length∧JR h1 Jh HK y.1 (((cs.take n).map w).map Jy)∧(∀q∈own y.1,h.size≤q)∧ZS h1 b s1 m1 (JD L ((cs.take n).map w))∧Jc (Qb b s m) h h1∧∀q∈Qb b s1 m1,q∈Qb b s m∨h.size≤q) (fun(y:Jn×Int×Unit) _=>cs.length-y.2.1.toNat) ?_ ?_
 ·exact⟨0,s,m,rfl,YAk _,by simpa using JR.nil,by simp[own],by rw[YAa,List.map_nil,Z6];exact i,Jc.rfl,fun q hq => .inl hq⟩
 ·rintro⟨(o:Jn),(j:Int),_⟩ h1 ⟨n,s1,m1,e,hn,r1,o1,i1,k1,f1⟩;dsimp only at e r1 o1 ⊢;subst e;by_cases hlt:n<cs.length
  ·rw[Jf (show decide ((n:Int)<(all.len:Int))=true from dT (by omega))];have hwn:Jr ((n:Int)+1)=((n+1:Nat):Int):=w6 (by omega);rw[hwn];have hs:n<ss.length:=by omega
   refine JK (ga.keep' k1 na) (x:=ss[n]) (by omega) (by simp[hs]) rfl ?_;have gu:=(a.getI hs hlt).keep' k1 (nu _ (YAM hs));have hz1:=hz _ (YAM hlt);refine hw _ _ _ _ (YAM hlt) gu fun h2 k2 =>?_;refine ZAQ.s hz1 fun h3 k3 =>?_;refine Jq fun b4 h5 hb4 k5 e5 hs5 =>?_;have e5:h5[b4]? = some (Jg Jh HK (Jy (w cs[n]))):=e5;have k15:Jc [] h1 h5:=(k2.n k3).n k5;have i5:=i1.keep0 k15;have hz15:h1.size≤h3.size:=(k2.n k3).1;have hz01:=k1.1;have hoL:=QE (L:=L) (xs:=(cs.take n).map w);rw[YAQ,YAS]at hoL;refine ZAF.s i5 (by omega) fun h6 s6 m6 i6 k6 f6 =>?_;have n4:b4∉Qb b s1 m1:=i5.off e5 (by decide) (by decide);have e6:=k6.get e5 n4;refine Jb (Je e6) ?_;have r5:=r1.keep k15 (by simp);have r6:=r5.keep k6 (i5.offRow r5 (by decide) (by decide));refine Vi (by_:=32) r6 rfl (by simp only[YAQ,YAS];omega) fun s7 h7 k7 r7 o7 =>?_;have k06:Jc (Qb b s m) h h6:=(k1.then k15 (fun q hq _=>hq) (by simp)).then k6 (fun q hq _=>hq) (fun q hq hlt=>by rcases f1 q hq with h | h;exact h;omega);have s16:=k15.1;have s56:=k6.1;refine⟨⟨n+1,s6,m6,rfl,by omega,?_,?_,?_,?_,?_⟩,by simp;omega⟩
   ·rw[YAZ hlt,YAT,YAT];exact r7
   ·intro q hq;rcases o7 q hq with h | h
    ·exact o1 q h
    ·have:=k06.1;omega
   ·have e8:JD L ((cs.take (n+1)).map w)=Xt (JD L ((cs.take n).map w)) (w cs[n]):=by
     rw[YAZ hlt,YAT,Q2];rfl
    rw[e8];exact i6.keep k7 (fun q hq hm=>i6.offRow r6 (by decide) (by decide) q hm hq)
   ·exact k06.then k7 (fun q hq _=>hq) (fun q hq hlt=>by have:=o1 q hq;omega)
   ·intro q hq;rcases f6 q hq with h | h
    ·exact f1 q h
    ·right;omega
  ·rw[Jd (show¬decide ((n:Int)<(all.len:Int))=true by simp;omega)];obtain rfl:n=cs.length:=by omega
   rw[YAX (YAf _)]at r1 i1;exact hK o h1 s1 m1 r1 o1 i1 k1 f1
def ZCh.s{u:Jn}{c:List UInt8}{h:Ja}{K:Ba→Hp} (g:Q5 .u8 u c h) (hl:c.length≤1000000) (hK:∀h',Jc [] h h'→K (Y0 c) h'):ZCh.C u h K:=by
 apply ZCh.c;unfold ZCh.m;refine Xb g fun q _ =>?_;show JS (bx [66]) (bx c) _;refine YX (by simp;omega) ?_;exact hK h Jc.rfl
def ZCk.s{u:Jn}{c:List YI}{h:Ja}{K:Ba→Hp} (g:Q5 HK u c h) (hl:c.length≤10000) (hK:∀h',Jc [] h h'→K (Xu 73 c) h'):ZCk.C u h K:=by
 apply ZCk.c;unfold ZCk.m;exact ZC3.s g hl hK
def WO{α : Type}{n:Nat}{xs c:List α} (h:c∈Ql n xs):c.length≤n:=by
 obtain⟨i,hi,rfl⟩:=List.mem_iff_getElem.1 h;rw[WW,YAS];omega
def ye{d:Ba}:Xt (JD (JD [] (Qn d)) ((Ql 8 ((Qn d).map Jy)).map (Xu 73))) (Xp d)=Zz d:=by
 have e:(Ql 8 ((Qn d).map Jy)).map (Xu 73)=Xo d:=by unfold Xo;exact Eq.refl _
 rw[e];unfold Zz;rw[Q2,Q2,WQ]
def ZDF.s{d:Ba}{h:Ja}{K:Kd.Ty (.ar 32 .u8)→Jn→Int→Hp} (hd:d.size≤4096)
 (hK:∀o h',Jc [] h h'→JR h' Jt .s o (Zz d)→(∀q∈own o,h.size≤q)→K (Jy (Xp d)) o 0 h'):ZDF.C d h K:=by
 apply ZDF.c;unfold ZDF.m;refine Ji fun b1 h1 hb1 k1 e1 hs1 =>?_;rw[Jd (show¬decide ((d.size:Int)>4096)=true by simp;omega)];refine Ji fun b2 h3 hb2 k3 e3 hs3 =>?_;have i3:=ZS.new e3;refine Cr fun s1 h4 k4 g4 os1 c1 hs4 ho4 =>?_;have dl:d.data.toList.length=d.size:=rfl;refine ZB1.s g4 c1 (by decide) (by decide) (by omega) fun x2 h5 ss5 k5 r5 a5 o5 u5 =>?_;have i5:=(i3.keep0 k4).keep0 k5;obtain⟨c4,f4,e4⟩:=ho4;have cl:(Ql 64 d.data.toList).length≤64:=by rw[XX];omega
 have k15:Jc [] h h5:=((k1.n k3).n k4).n k5
 refine ZBn.s (cs:=Ql 64 d.data.toList) (w:=Y0) r5.seg (a5.mono fun _ _ g=>g.keep (by decide) k5) i5 (i5.offRow r5 (by decide) (by decide)) (fun u hu q hq=>by
  have:=u5 u hu q hq;rw[os1]at this;simp at this;subst this;exact i5.off (k5.g e4) (by decide) (by decide)) (by simp;omega) (fun u c h1 Q hc g hQ=>Qr rfl (ZCh.s g (by have:=WO hc;omega) hQ)) (fun c hc=>by rw[Un];have:=WO hc;omega) fun x3 h6 s6 m6 r6 o6 i6 k6 f6 =>?_
 have bl:(Qn d).length=(Ql 64 d.data.toList).length:=by unfold Qn;simp
 have lof:∀q∈Qb b2 ⟨none,0,0⟩ none,h.size≤q:=fun q hq=>by simp[Qb,own]at hq;have:=k1.1;omega
 have k06:Jc [] h h6:=k15.new k6 lof;have r6:JR h6 Jh HK x3 ((Qn d).map Jy):=r6;have i6:ZS h6 b2 s6 m6 (JD [] (Qn d)):=i6;refine ZBD.s r6.seg (by have:=r6.cap;have:=r6.len;omega) (by decide) (by decide) (by simp;omega) fun x4 h7 ss7 k7 r7 a7 o7 u7 =>?_;have i7:=i6.keep0 k7;have cl2:(Ql 8 ((Qn d).map Jy)).length≤8:=by rw[XX];simp;omega
 have ol:=QE (L:=([]:List Ba)) (xs:=Qn d);simp only[YAR]at ol;have r67:=r6.keep k7 (by simp);refine ZA6.s (cs:=Ql 8 ((Qn d).map Jy)) (w:=Xu 73) r7.seg (a7.mono fun _ _ g=>g.keep (by decide) k7) i7 (i7.offRow r7 (by decide) (by decide)) (fun u hu q hq=>i7.offRow r67 (by decide) (by decide) q (u7 u hu q hq)) (by omega) (fun u c h1 Q hc g hQ=>Qr rfl (ZCk.s g (by have:=WO hc;omega) hQ)) (fun c hc=>by rw[Zt];have:=WO hc;omega) fun x5 h8 s8 m8 r8 o8 i8 k8 f8 =>?_;have il:(Xo d).length=(Ql 8 ((Qn d).map Jy)).length:=by unfold Xo;simp
 have s56:=k6.1;have s67:=k7.1;have s78:=k8.1;have s05:=k15.1
 have lof6:∀q∈Qb b2 s6 m6,h.size≤q:=fun q hq=>by
  rcases f6 q hq with h | h
  ·exact lof q h
  ·omega
 have k08:Jc [] h h8:=(k06.n k7).new k8 lof6;have r8:JR h8 Jh HK x5 ((Xo d).map Jy):=r8;refine ZC3.s (c:=82) r8.seg (by simp;omega) fun h9 k9 =>?_;have tz:(Xp d).size≤65536:=by unfold Xp;rw[Zt];simp;omega
 refine ZAQ.s (d:=Xp d) tz fun h10 k10 =>?_;refine Jq fun b3 h12 hb3 k12 e12 hs12 =>?_;have e12:h12[b3]? = some (Jg Jh HK (Jy (Xp d))):=e12;have k812:Jc [] h8 h12:=(k9.n k10).n k12;have i12:=i8.keep0 k812;have ol2:=QE (L:=JD ([]:List Ba) (Qn d)) (xs:=(Ql 8 ((Qn d).map Jy)).map (Xu 73));rw[YAQ]at ol2;refine ZAF.s i12 (by omega) fun h13 s13 m13 i13 k13 f13 =>?_;have e13:=k13.get e12 (i12.off e12 (by decide) (by decide));refine Jb (Je e13) (Jp (Jb (Jv i13.o rfl (by decide)) ?_))
 have k18:Jc [] h1 h12:=by
  have a:Jc [] h1 h5:=(k3.n k4).n k5;have lo1:∀q∈Qb b2 ⟨none,0,0⟩ none,h1.size≤q:=fun q hq=>by simp[Qb,own]at hq;omega
  have b:=(a.new k6 lo1).n k7;have a1:=a.1;exact(b.new k8 (fun q hq=>by rcases f6 q hq with h | h;exact lo1 q h;omega)).n k812
 have n1:b1∉Qb b2 s8 m8:=fun hq=>by
  have lo1:∀q∈Qb b2 ⟨none,0,0⟩ none,h1.size≤q:=fun q hq=>by simp[Qb,own]at hq;omega
  have a1:=((k3.n k4).n k5).1;have a2:=k1.1;rcases f8 b1 hq with h | h
  ·rcases f6 b1 h with h | h
   ·have:=lo1 b1 h;omega
   ·omega
  ·omega
 have e1':h13[b1]? = some (Jg Jh HK (Vector.replicate 32 0)):=k13.get (k18.g e1) n1
 have lof8:∀q∈Qb b2 s8 m8,h.size≤q:=fun q hq=>by
  rcases f8 q hq with h | h
  ·exact lof6 q h
  ·omega
 have k013:Jc [] h h13:=(k08.n k812).new k13 lof8;refine JL e1' fun h14 k14 e14 hs14 =>?_;have n113:b1∉Qb b2 s13 m13:=i13.off e1' (by decide) (by decide);have i14:=i13.keep k14 (fun q hq hm=>by simp at hm;subst hm;exact n113 hq);refine⟨Jv i14.o rfl (by decide),Jb (Je e14) ?_⟩;refine hK s13 h14 (k013.new k14 (by simp;omega)) (by rw[←ye];exact i14.r) fun q hq =>?_;rcases f13 q (by simp[Qb,hq]) with h | h
 ·exact lof8 q h
 ·have:=k08.1;have:=k812.1;omega
def ZCe.s{v:XU.Ty}{m:Mb}{h:Ja}{K:Bool→Hp} (a:UN h v m) (hK:∀h',Jc [] h h'→K (QU m) h'):ZCe.C v h K:=by
 apply ZCe.c;unfold ZCe.m;refine Ji fun b h1 hb k1 e1 hs1 =>?_;have e1:h1[b]? = some (Jg JT XU v):=e1;obtain⟨(u:Int),(gs:Jn),_⟩:=v;obtain⟨hu,gl,g1,g2⟩:=a;have hu:u=m.users:=hu;have g1:Q5 .sl gs gl h:=g1;have glen:=g1.len;have l2:=g2.len;have s0:sm .i ((Pl.mk b 0).fld 0) u h1:=Jv e1 rfl (by decide);have s1:sm .sl ((Pl.mk b 0).fld 1) gs h1:=Jv e1 rfl (by decide);have hdef:QU m=(decide (1≤m.users)&&decide (m.users≤16)&&decide (m.groups.length≤8)&&m.groups.all fun g=>XM g m.users):=rfl;by_cases hc:1≤u∧u≤16∧m.groups.length≤8
 ·refine JH (false,()) h1 ?_ ?_
  ·refine⟨_,s0,?_⟩;dsimp only;rw[Jd (by simp;omega)];refine⟨_,s0,?_⟩;dsimp only;rw[Jd (by simp;omega)];refine⟨_,s1,?_⟩;exact⟨by simp;omega,by first | rfl | trivial⟩
  ·rw[Jd (by simp)];refine⟨_,s1,?_⟩;apply ZAY.c;unfold ZAY.m;apply ZAo.c;unfold ZAo.m;refine JF (fun(y:Int×Unit) (h2:Ja)=>h2=h1∧∃t:Nat,y.1=t∧t≤m.groups.length∧∀j,(hj:j<m.groups.length)→j<t→XM m.groups[j] m.users=true) (fun(y:Int×Unit) _=>m.groups.length-y.1.toNat) ?_ ?_
   ·exact⟨rfl,0,rfl,YAk _,fun j _ h=>by omega⟩
   ·rintro⟨(i:Int),_⟩ h2 ⟨rfl,t,e,ht,hall⟩;dsimp only at e ⊢;subst e;by_cases hlt:t<m.groups.length
    ·rw[Jf (show decide ((t:Int)<(gs.len:Int))=true from dT (by omega))];have hgt:t<gl.length:=by omega
     refine JK (g1.keep (by decide) k1) (x:=gl[t]) (by omega) (by simp[hgt]) rfl ?_;have gt:=g2.getI hgt hlt;refine Qr (aa:=[Kd.sl.val gl[t],Kd.p.val (some ⟨b,0⟩)]) (by rfl) ?_;show ZB6.C gl[t] ⟨b,0⟩ h2 _;refine ZB6.s (gt.1.keep (by decide) k1) gt.2 e1 ?_;dsimp only;rw[hu]
     cases hg:XM m.groups[t] m.users with
     | false =>
       rw[Jf (by rfl)]
       have:QU m=false:=by
        rw[hdef]
        have:(m.groups.all fun g=>XM g m.users)=false:=by
         cases ha:m.groups.all fun g=>XM g m.users with
         | false=>rfl
         | true=>rw[YAA]at ha;rw[ha _ (YAM hlt)]at hg;simp at hg
        rw[this];simp
       have hd:(!decide ((t:Int)≥0))=false:=by simp
       rw[hd,←this];exact hK _ k1
     | true =>
       rw[Jd (by simp)];have hw:Jr ((t:Int)+1)=((t+1:Nat):Int):=w6 (by omega);rw[hw];refine⟨⟨by first | rfl | trivial,t+1,rfl,by omega,fun j hj hjt =>?_⟩,by simp;omega⟩;by_cases hje:j=t
       ·subst hje;exact hg
       ·exact hall j hj (by omega)
    ·rw[Jd (show¬decide ((t:Int)<(gs.len:Int))=true by simp;omega)]
     have:QU m=true:=by
      rw[hdef]
      have:(m.groups.all fun g=>XM g m.users)=true:=by
       rw[YAA];intro x hx;obtain⟨j,hj,rfl⟩:=List.mem_iff_getElem.1 hx;exact hall j hj (by omega)
      rw[this];simp;omega
     have hd:(!decide ((-1:Int)≥0))=true:=by simp
     rw[hd,←this];exact hK _ k1
 ·have hf:QU m=false:=by
   rw[hdef]
   cases hh:(decide (1≤m.users)&&decide (m.users≤16)&&decide (m.groups.length≤8)&&m.groups.all fun g=>XM g m.users) with
   | false=>rfl
   | true =>
     simp only[YAl,Qg]at hh;exact absurd ⟨by omega,by omega,hh.1.2⟩ hc
  refine JH (true,()) h1 ?_ ?_
  ·refine⟨_,s0,?_⟩;dsimp only;by_cases c1:u<1
   ·rw[Jf (by simpa using c1)];exact⟨by first | rfl | trivial,by first | rfl | trivial⟩
   rw[Jd (by simpa using c1)];refine⟨_,s0,?_⟩;dsimp only;by_cases c2:u>16
   ·rw[Jf (by simpa using c2)];exact⟨by first | rfl | trivial,by first | rfl | trivial⟩
   rw[Jd (by simpa using c2)];refine⟨_,s1,?_⟩;exact⟨by simp;omega,by first | rfl | trivial⟩
  ·rw[Jf (by rfl),←hf];exact hK _ k1
def wh{m:Mb} (hm:QU m=true):1≤m.users∧m.users≤16∧m.groups.length≤8∧∀g∈m.groups,XM g m.users=true:=by
 unfold QU at hm;simp only[YAl,Qg,YAA]at hm;exact⟨hm.1.1.1,hm.1.1.2,hm.1.2,hm.2⟩
def ZAX.s{v:XU.Ty}{m:Mb}{h:Ja}{K:Int→Hp} (a:UN h v m) (hm:QU m=true) (hK:∀h',Jc [] h h'→K (Qx m) h'):ZAX.C v h K:=by
 apply ZAX.c;unfold ZAX.m;refine Ji fun b h1 hb k1 e1 hs1 =>?_;have e1:h1[b]? = some (Jg JT XU v):=e1;obtain⟨q1,q2,q3,_⟩:=wh hm;obtain⟨(u:Int),(gs:Jn),_⟩:=v;obtain⟨hu,gl,g1,g2⟩:=a;have hu:u=m.users:=hu;have g1:Q5 .sl gs gl h:=g1;have glen:=g1.len;have l2:=g2.len;refine Jb (k := .i) (x:=u) (Jv e1 rfl (by decide)) ?_;refine Jb (k := .sl) (x:=gs) (Jv e1 rfl (by decide)) ?_
 have:Jr (u+(gs.len:Int))=Qx m:=by
  unfold Qx;rw[JE (by omega) (by omega)];omega
 rw[this];exact hK _ k1
def slices_Contains_int.s{us:Jn}{xs:List Int}{x:Int}{h:Ja}{K:Bool→Hp} (g:Q5 .i us xs h) (hl:xs.length≤9223372036854775807) (hK:K (xs.contains x) h):ZAs.C us x h K:=by
 apply ZAs.c;unfold ZAs.m;apply ZBY.c;unfold ZBY.m;have gl:=g.len;refine JF (fun(y:Int×Unit) (h1:Ja)=>h1=h∧∃t:Nat,y.1=t∧t≤xs.length∧∀j,(hj:j<xs.length)→j<t→xs[j]≠x) (fun(y:Int×Unit) _=>xs.length-y.1.toNat) ?_ ?_
 ·exact⟨rfl,0,rfl,YAk _,fun j _ h=>by omega⟩
 ·rintro⟨(i:Int),_⟩ h1 ⟨rfl,t,e,ht,hall⟩;dsimp only at e ⊢;subst e;by_cases hlt:t<xs.length
  ·rw[Jf (show decide ((t:Int)<(us.len:Int))=true from dT (by omega))];refine JK g (x:=xs[t]) (by omega) (by simp[hlt]) rfl ?_;by_cases hx:x=xs[t]
   ·rw[Jf (by simpa using hx)];have:xs.contains x=true:=by rw[List.contains_iff_mem,hx];exact YAM hlt
    have hd:decide ((t:Int)≥0)=true:=by simp
    rw[hd,←this];exact hK
   ·rw[Jd (by simpa using hx)];have hw:Jr ((t:Int)+1)=((t+1:Nat):Int):=w6 (by omega);rw[hw];refine⟨⟨by first | rfl | trivial,t+1,rfl,by omega,fun j hj hjt =>?_⟩,by simp;omega⟩;by_cases hje:j=t
    ·subst hje;exact fun e=>hx e.symm
    ·exact hall j hj (by omega)
  ·rw[Jd (show¬decide ((t:Int)<(us.len:Int))=true by simp;omega)]
   have:xs.contains x=false:=by
    cases hc:xs.contains x with
    | false=>rfl
    | true =>
      rw[List.contains_iff_mem]at hc;obtain⟨j,hj,e⟩:=List.mem_iff_getElem.1 hc;exact absurd e (hall j hj (by omega))
   have hd:decide ((-1:Int)≥0)=false:=by simp
   rw[hd,←this];exact hK
def ZDf.s{v:XU.Ty}{m:Mb}{u p:Int}{h:Ja}{K:Bool→Hp} (a:UN h v m) (hm:QU m=true) (hK:∀h',Jc [] h h'→K (Cc m u p) h'):ZDf.C v u p h K:=by
 apply ZDf.c;unfold ZDf.m;refine Ji fun b h1 hb k1 e1 hs1 =>?_;have e1:h1[b]? = some (Jg JT XU v):=e1;obtain⟨q1,q2,q3,_⟩:=wh hm;have a1:=a.keep k1;have hmem:sm XU (Pl.mk b 0) v h1:=Je e1;have ae:=a;obtain⟨hu,gl,g1,g2⟩:=a;have hu:v.1=m.users:=hu;have glen:=g1.len;have l2:=g2.len
 have s0:∀ {h'},Jc [] h1 h'→sm .i ((Pl.mk b 0).fld 0) m.users h':=fun k=>by
  have e:=k.g e1;obtain⟨(u:Int),(gs:Jn),_⟩:=v;have hu:u=m.users:=hu;rw[←hu];exact Jv e rfl (by decide)
 have s1:∀ {h'},Jc [] h1 h'→sm .sl ((Pl.mk b 0).fld 1) v.2.1 h':=fun k=>by
  have e:=k.g e1;obtain⟨(u:Int),(gs:Jn),_⟩:=v;exact Jv e rfl (by decide)
 refine Qd (fun _ h2=>Jc [] h1 h2∧¬(u<0∨m.users≤u∨p<0∨Qx m≤p)∧¬p<m.users) ?_ ?_
 ·refine Qd (fun y h2=>Jc [] h1 h2∧y.1=decide (u<0∨m.users≤u∨p<0∨Qx m≤p)) ?_ ?_
  ·by_cases c1:u<0
   ·rw[Jf (by simpa using c1)];exact⟨Jc.rfl,by simp[c1]⟩
   rw[Jd (by simpa using c1)];refine⟨_,s0 Jc.rfl,?_⟩;dsimp only;by_cases c2:u≥m.users
   ·rw[Jf (by simpa using c2)];have c2':m.users≤u:=c2;exact⟨Jc.rfl,by simp[c2']⟩
   rw[Jd (by simpa using c2)];by_cases c3:p<0
   ·rw[Jf (by simpa using c3)];exact⟨Jc.rfl,by simp[c3]⟩
   rw[Jd (by simpa using c3)];refine⟨_,hmem,?_⟩;refine ZAX.s a1 hm fun h4 k4=>⟨k4,?_⟩;have c2':¬m.users≤u:=c2;simp[c1,c2',c3]
  ·rintro⟨(g:Bool),_⟩ h2 ⟨k2,e⟩;dsimp only at e ⊢;subst e;by_cases hc:u<0∨m.users≤u∨p<0∨Qx m≤p
   ·rw[Jf (by simpa using hc)];have:Cc m u p=false:=by unfold Cc;rw[Jf hc]
    rw[←this];exact hK _ (k1.n k2)
   ·rw[Jd (by simpa using hc)];refine⟨_,s0 k2,?_⟩;dsimp only;by_cases hp:p<m.users
    ·rw[Jf (by simpa using hp)];have:Cc m u p=decide (u=p):=by unfold Cc;rw[Jd hc,Jf hp]
     rw[←this];exact hK _ (k1.n k2)
    ·rw[Jd (by simpa using hp)];exact⟨k2,hc,hp⟩
 ·rintro _ h2 ⟨k2,hc,hp⟩;refine Jb (s1 k2) (Jb (s0 k2) ?_);have hpr:Qx m=m.users+m.groups.length:=rfl;have hpx:∃t:Nat,p-m.users=t∧t<m.groups.length:=⟨(p-m.users).toNat,by omega,by omega⟩;obtain⟨t,ht,htl⟩:=hpx;rw[JE (by omega) (by omega),ht];have htg:t<gl.length:=by omega
  refine JK ((g1.keep (by decide) k1).keep (by decide) k2) (x:=gl[t]) (by omega) (by simp[htg]) rfl ?_;have gt:=g2.getI htg htl;refine slices_Contains_int.s ((gt.1.keep (by decide) k1).keep (by decide) k2) gt.2 ?_
  have:Cc m u p=m.groups[t].contains u:=by
   unfold Cc;rw[Jd hc,Jd hp,ht,YAc,TB htl]
  rw[←this];exact hK _ (k1.n k2)
def ZBy.s{a b c d:Int}{h:Ja}{K:Bool→Hp} (hK:K (Ce a b c d) h):ZBy.C a b c d h K:=by
 apply ZBy.c;unfold ZBy.m;refine JH (Ce a b c d,()) h ?_ hK;unfold Ce;by_cases h1:1≤a
 ·by_cases h2:a≤32
  ·by_cases h3:b=0
   ·by_cases h4:c=0
    ·by_cases h5:1≤d <;> simp[h1,h2,h3,h4,h5]
    ·by_cases h4':c=1
     ·by_cases h5:1≤d <;> simp[h1,h2,h3,h4',h5]
     ·simp[h1,h2,h3,h4,h4']
   ·by_cases h3':b=1
    ·by_cases h4:c=0
     ·by_cases h5:1≤d <;> simp[h1,h2,h3',h4,h5]
     ·by_cases h4':c=1
      ·by_cases h5:1≤d <;> simp[h1,h2,h3',h4',h5]
      ·simp[h1,h2,h3',h4,h4']
    ·simp[h1,h2,h3,h3']
  ·simp[h1,h2]
 ·simp[h1]
def ZDe.s{l:Pl}{v:VN}{x:Nd}{h:Ja}{K:Bool→Hp} (e:sm M7 l v h) (a:GL h v x) (hK:∀h',Jc [] h h'→K (XF x) h'):ZDe.C (some l) h K:=by
 apply ZDe.c;unfold ZDe.m;obtain⟨f0,f1,f2,f3,f4,f5⟩:=Rp e;rw[a.n]at f0;rw[a.k]at f1;rw[a.m]at f2;rw[a.l]at f3;rw[a.d]at f4;have gl:=a.e.len;refine Jp (Jb f0 (Jp (Jb f1 (Jp (Jb f2 (Jp (Jb f3 ?_)))))));refine ZBy.s ?_;have hd:XF x=(Ce x.num x.kind x.mode x.links&&(if x.kind=1 then decide (x.data=⟨#[]⟩)&&QS x.ents else decide (x.data.size≤4096)&&decide (x.ents=[]))):=rfl
 cases hn:Ce x.num x.kind x.mode x.links with
 | false =>
   rw[Jf (by rfl)];have:XF x=false:=by rw[hd,hn];rfl
   rw[←this];exact hK h Jc.rfl
 | true =>
   rw[Jd (by simp)];refine Jp (Jb f1 ?_);rw[hn,YAm]at hd;by_cases hk:x.kind=1
   ·rw[Jf (by simpa using hk)];rw[Jf hk]at hd;refine Qd (fun y h'=>y.1=XF x∧Jc [] h h') ?_ ?_
    ·refine Jp (Jb f4 ?_);by_cases hdt:x.data=⟨#[]⟩
     ·rw[Jf (by simp[hdt])];refine Jp (Jb f5 ?_);refine ZDx.s a.e fun h3 k3=>⟨?_,k3⟩;rw[hd];simp[hdt]
     ·rw[Jd (by simp[hdt])];exact⟨by rw[hd];simp[hdt],Jc.rfl⟩
    ·rintro⟨(b:Bool),_⟩ h2 ⟨e2,k2⟩;dsimp only at e2 ⊢;rw[e2];exact hK h2 k2
   ·rw[Jd (by simpa using hk)];rw[Jd hk]at hd;refine JH (XF x,()) h ?_ (hK h Jc.rfl);refine Jp (Jb f4 ?_);by_cases hs:x.data.size≤4096
    ·rw[Jf (by simp;omega)];refine Jp (Jb f5 ?_);refine⟨?_,by first | rfl | trivial⟩;rw[hd,gl]
     have:decide ((x.ents.length:Int)=0)=decide (x.ents=[]):=by
      rw[decide_eq_decide]
      cases x.ents with
      | nil=>simp
      | cons a b=>simp;omega
     rw[this];simp[hs]
    ·rw[Jd (by simp;omega)];exact⟨by rw[hd];simp[hs],by first | rfl | trivial⟩
abbrev zg:Value := .func (.func ZAc.n) #[] #[]
def ZAc.s{v:VN}{h:Ja}{K:Int→Hp} (hK:∀h',Jc [] h h'→K (YE v) h'):ZAc.C v h K:=by
 apply ZAc.c;unfold ZAc.m;refine Ji fun b h1 hb k1 e1 hs1 =>?_;have e1:h1[b]? = some (Jg Vc M7 v):=e1;exact Jb (Rp (Je e1)).1 (hK h1 k1)
def YC:List VN→Bool
 | x::y::r=>decide (YE x<YE y)&&YC (y::r)
 | _=>true
def Ux:∀xs:List VN,YC xs=true↔∀j,(h:j+1<xs.length)→YE xs[j]<YE xs[j+1]
 | []=>by simp[YC]
 | [x]=>by simp[YC]
 | x :: y :: r => by
   unfold YC;rw[YAl,Qg,Ux (y::r)]
   constructor
   ·rintro⟨h1,h2⟩ j hj
    cases j with
    | zero=>exact h1
    | succ j=>exact h2 j (by simpa using hj)
   ·intro h;exact⟨h 0 (by simp),fun j hj=>h (j+1) (by simpa using hj)⟩
def Mp{h:Ja}:∀ {vs:List VN}{xs:IX},Qq (GL h) vs xs→YC vs=ZP xs
 | [],[],_=>rfl
 | [v],[x],_=>rfl
 | v :: w :: r, x :: y :: q, a => by
   unfold YC ZP;rw[a.1.n,a.2.1.n,Mp a.2]
 | [_],_::_::_,a=>by simp[Qq]at a
 | _::_::_,[_],a=>by simp[Qq]at a
def GD{xs:List VN} (hr:YC xs=true){i:Nat}:∀ {j:Nat},(hij:i<j)→(hj:j<xs.length)→YE (xs[i]'(by omega))<YE xs[j]
 | 0,hij,_=>by omega
 | j + 1, hij, hj => by
   have h1:=(Ux xs).1 hr j hj;by_cases e:i=j
   ·subst e;exact h1
   ·have:=GD hr (i:=i) (j:=j) (by omega) (by omega);omega
def dir_RisingN.s{s:Jn}{vs:List VN}{h:Ja}{K:Bool→Hp} (g:Q5 M7 s vs h) (hl:vs.length≤9223372036854775807)
 (hK:∀h',Jc [] h h'→K (YC vs) h'):ZBB.C s zg h K:=by
 apply ZBB.c;unfold ZBB.m;have hlen:=g.len;refine JF (fun(y:Int×Unit) (h1:Ja)=>∃t:Nat,y.1=(t:Int)+1∧(t+1≤vs.length∨t=0)∧Jc [] h h1∧∀j,(hj:j+1<vs.length)→j<t→YE vs[j]<YE vs[j+1]) (fun(y:Int×Unit) _=>vs.length-y.1.toNat) ?_ ?_
 ·exact⟨0,rfl,.inr rfl,Jc.rfl,fun j _ h=>by omega⟩
 ·rintro⟨(i:Int),_⟩ h1 ⟨t,e,ht,k1,hall⟩;dsimp only at e ⊢;subst e;by_cases hlt:t+1<vs.length
  ·rw[Jf (show decide ((t:Int)+1<(s.len:Int))=true from dT (by omega))];have hw:Jr ((t:Int)+1+1)=((t+1:Nat):Int)+1:=w6 (by omega);have hw1:Jr ((t:Int)+1-1)=(t:Int):=w6 (by omega);rw[hw,hw1];have g1:=g.keep (by decide) k1;have hlt0:t<vs.length:=by omega
   obtain⟨l0,hl0,hx0⟩:=Wx g1 (i:=t) hlt0;obtain⟨l1,hl1,hx1⟩:=Wx g1 (i:=t+1) hlt;refine⟨l0,hl0,by omega,by omega,vs[t],by rw[YAc];exact hx0,l1,hl1,by omega,by omega,vs[t+1],?_,?_⟩
   ·rw[show((t:Int)+1).toNat=t+1 by omega];exact hx1
   refine Qr (aa:=[M7.val vs[t]]) (by rfl) ?_;show ZAc.C vs[t] h1 _;refine ZAc.s fun h2 k2 =>?_;refine⟨by rw[show((t:Int)+1).toNat=t+1 by omega];exact Zj hx1 k2 (by simp),?_⟩;refine Qr (aa:=[M7.val vs[t+1]]) (by rfl) ?_;show ZAc.C vs[t+1] h2 _;refine ZAc.s fun h3 k3 =>?_;have k13:=(k1.n k2).n k3;by_cases hs:YE vs[t]<YE vs[t+1]
   ·rw[Jd (show¬decide (YE vs[t]≥YE vs[t+1])=true by simp;omega)];refine⟨⟨t+1,rfl,by omega,k13,fun j hj hjt =>?_⟩,by simp;omega⟩;by_cases e:j=t
    ·subst e;exact hs
    ·exact hall j hj (by omega)
   ·rw[Jf (show decide (YE vs[t]≥YE vs[t+1])=true from dT (by omega))]
    have:YC vs=false:=by
     cases hr:YC vs with
     | false=>rfl
     | true=>exact absurd ((Ux vs).1 hr t hlt) hs
    rw[←this];exact hK _ k13
  ·rw[Jd (show¬decide ((t:Int)+1<(s.len:Int))=true by simp;omega)];have:YC vs=true:=(Ux vs).2 fun j hj=>hall j hj (by omega);rw[←this];exact hK _ k1
def Tt(x y:Int):Int:=if x<y then -1 else if x>y then 1 else 0
def cmp_CompareI.s{x y:Int}{h:Ja}{K:Int→Hp} (hK:K (Tt x y) h):ZCq.C x y h K:=by
 apply ZCq.c;unfold ZCq.m;refine ZCc.c _ ?_;unfold ZCc.m;refine ZCc.c _ ?_;unfold ZCc.m;dsimp only;rw[Jd (by simp),Jd (by simp)];unfold Tt at hK;by_cases h1:x<y
 ·rw[Jf (by simpa using h1)];rw[Jf h1]at hK;exact hK
 ·rw[Jd (by simpa using h1)];rw[Jd h1]at hK;by_cases h2:x>y
  ·rw[Jf (by simpa using h2)];rw[Jf h2]at hK;exact hK
  ·rw[Jd (by simpa using h2)];rw[Jd h2]at hK;exact hK
def dir_PlaceN_c1.s{v:VN}{k:Int}{b:Nat}{h:Ja}{K:Int→Hp} (hb:h[b]? = some (Jg WF .f zg)) (hK:∀h',Jc [] h h'→K (Tt (YE v) k) h'):ZAh.C v k ⟨b,0⟩ h K:=by
 apply ZAh.c;unfold ZAh.m;refine Ji fun b1 h1 hb1 k1 e1 hs1 =>?_;have e1:h1[b1]? = some (Jg Vc M7 v):=e1;refine Jb (Je (k1.g hb)) (Jb (Je e1) ?_);refine Qr (aa:=[M7.val v]) (by rfl) ?_;show ZAc.C v h1 _;refine ZAc.s fun h2 k2 =>?_;exact cmp_CompareI.s (hK _ (k1.n k2))
def WZ(vs:List VN) (k:Int) (i:Nat):Bool:=match vs[i]? with | some v=>decide (YE v=k) | none=>false
def dir_PlaceN.s{s:Jn}{xs:List VN}{k:Int}{h:Ja}{K:Int→Bool→Hp} (g:Q5 M7 s xs h) (hl:xs.length≤2305843009213693952)
 (hK:∀(i:Nat) h',Jc [] h h'→i≤xs.length→(YC xs=true→(∀j,(hj:j<xs.length)→j<i→YE xs[j]<k)∧∀j,(hj:j<xs.length)→i≤j→¬YE xs[j]<k)→K i (WZ xs k i) h'):ZBE.C s k zg h K:=by
 apply ZBE.c;unfold ZBE.m;refine Ji fun b h0 hbs k0 hb hs1 =>?_;have hb:h0[b]? = some (Jg WF .f zg):=hb;apply ZAH.c;unfold ZAH.m;have hlen:=g.len;refine JF (fun(y:Int×Int×Unit) (h1:Ja)=>0≤y.1∧y.1≤y.2.1∧y.2.1≤xs.length∧Jc [] h0 h1∧(YC xs=true→(∀j,(hj:j<xs.length)→(j:Int)<y.1→YE xs[j]<k)∧∀j,(hj:j<xs.length)→y.2.1≤(j:Int)→¬YE xs[j]<k)) (fun(y:Int×Int×Unit) _=>(y.2.1-y.1).toNat) ?_ ?_
 ·exact⟨by simp,by rw[hlen];simp,by rw[hlen];simp,Jc.rfl,fun _=>⟨fun j hj hlt=>by dsimp only at hlt;omega,fun j hj hlt=>by dsimp only at hlt;omega⟩⟩
 ·rintro⟨(i:Int),(j:Int),_⟩ h1 ⟨i0,i1,i2,k1,hall⟩;dsimp only at *;have g1:=g.keep (by decide) (k0.n k1);have hb1:=k1.g hb;obtain⟨i,rfl⟩:∃t:Nat,i=t:=⟨i.toNat,by omega⟩;obtain⟨j,rfl⟩:∃t:Nat,j=t:=⟨j.toNat,by omega⟩;split
  ·rename_i hlt
   have hlt:i<j:=by
    have:(i:Int)<j:=by simpa using hlt
    omega
   rw[wZ (by omega)];have hm:(i+j)/2<xs.length:=by omega
   have hm1:i≤(i+j)/2:=by omega
   have hm2:(i+j)/2<j:=by omega
   generalize (i+j)/2=m at *;refine⟨fun y h6=>(0≤y.1∧y.1≤y.2.1∧y.2.1≤xs.length∧Jc [] h0 h6∧(YC xs=true→(∀j,(hj:j<xs.length)→(j:Int)<y.1→YE xs[j]<k)∧∀j,(hj:j<xs.length)→y.2.1≤(j:Int)→¬YE xs[j]<k))∧(y.2.1-y.1).toNat<((j:Int)-(i:Int)).toNat,?_,fun y h6 hh=>hh⟩;refine⟨by decide,?_⟩;refine JK (x:=xs[m]) g1 (by omega) (by simp[hm]) rfl ?_;refine Qr (aa:=[M7.val xs[m],Kd.i.val k,Kd.p.val (some ⟨b,0⟩)]) (by rfl) ?_;show ZAh.C xs[m] k ⟨b,0⟩ h1 _;refine dir_PlaceN_c1.s hb1 fun h2 k2 =>?_;have k12:=k1.n k2;refine Vs ?_;have hw:Jr ((m:Int)+1)=(m:Int)+1:=JE (by omega) (by omega);rw[hw];by_cases hs:YE xs[m]<k
   ·have:Tt (YE xs[m]) k<0:=by unfold Tt;rw[Jf hs];decide
    rw[Jf (by simpa using this)];refine⟨⟨show(0:Int)≤(m:Int)+1 by omega,show(m:Int)+1≤(j:Int) by omega,show(j:Int)≤xs.length by omega,k12,fun hr=>⟨fun q hq hlt =>?_,(hall hr).2⟩⟩,show((j:Int)-((m:Int)+1)).toNat<((j:Int)-(i:Int)).toNat by omega⟩;by_cases e:q=m
    ·subst e;exact hs
    ·have hlt:(q:Int)<(m:Int)+1:=hlt;have:=GD hr (i:=q) (j:=m) (by omega) hm;omega
   ·have:¬Tt (YE xs[m]) k<0:=by unfold Tt;rw[Jd hs];split <;> decide
    rw[Jd (by simpa using this)];refine⟨⟨show(0:Int)≤(i:Int) by omega,show(i:Int)≤(m:Int) by omega,show(m:Int)≤xs.length by omega,k12,fun hr=>⟨(hall hr).1,fun q hq hle =>?_⟩⟩,show((m:Int)-(i:Int)).toNat<((j:Int)-(i:Int)).toNat by omega⟩;by_cases e:q=m
    ·subst e;exact hs
    ·have hle:(m:Int)≤(q:Int):=hle;have:=GD hr (i:=m) (j:=q) (by omega) hq;omega
  ·rename_i hge
   have hge:¬i<j:=by
    have:¬(i:Int)<j:=by simpa using hge
    omega
   have hij:i=j:=by omega
   subst hij;have hlb:YC xs=true→(∀j,(hj:j<xs.length)→j<i→YE xs[j]<k)∧∀j,(hj:j<xs.length)→i≤j→¬YE xs[j]<k:=fun hr=>⟨fun q hq hlt=>(hall hr).1 q hq (by omega),fun q hq hle=>(hall hr).2 q hq (by omega)⟩;refine SU ((i:Int),(WZ xs k i,())) (fun h6=>Jc [] h0 h6) ?_ fun h6 k6=>hK i _ (k0.n k6) (by omega) hlb;by_cases hi:i<xs.length
   ·rw[Jf (by rw[hlen];simpa using hi)];refine JK (x:=xs[i]) g1 (by omega) (by simp[hi]) rfl ?_;refine Qr (aa:=[M7.val xs[i],Kd.i.val k,Kd.p.val (some ⟨b,0⟩)]) (by rfl) ?_;show ZAh.C xs[i] k ⟨b,0⟩ h1 _;refine dir_PlaceN_c1.s hb1 fun h2 k2 =>?_;refine⟨?_,k1.n k2⟩
    have:decide (Tt (YE xs[i]) k=0)=WZ xs k i:=by
     unfold WZ Tt;simp only[hi,YAJ];rw[decide_eq_decide];split
     ·omega
     ·split <;> omega
    rw[this]
   ·rw[Jd (by rw[hlen];simpa using hi)];refine⟨?_,k1⟩;have:WZ xs k i=false:=by unfold WZ;rw[YAK (by omega)]
    rw[this]
def ZAD.s{h:Ja}{w:Nat}{s:Jn}{bs:List UInt8}{z:YI}{K:Int→Hp} (i:MQ h w s bs) (hb:bs.length+32≤65536)
 (hK:∀h' s',Jc (w::own s) h h'→MQ h' w s' (bs++z.toList)→(∀b∈own s',b∈own s∨h.size≤b)→K 0 h'):ZAD.C (some ⟨w,0⟩) z h K:=by
 apply ZAD.c;unfold ZAD.m;refine Ji fun b1 h1 hb1 k1 e1 hs1 =>?_;have e1:h1[b1]? = some (Jg Jh HK z):=e1;rw[Jd (by simp)];refine⟨by decide,by decide,by decide,?_⟩;have g1:Q5 .u8 ⟨some ⟨b1,0⟩,32,32⟩ z.toList h1:=Wt e1;refine Xb g1 fun q _ =>?_;refine QN fun b2 h2 hb2 k2 r2 hs2 =>?_;have i2:=(i.keep k1 (by simp) (by simp)).keep k2 (by simp) (by simp);have lw:=Jl i.o;have ls:=i.r.lt;have s1:=k1.1;have zl:z.toList.length=32:=by simp
 have l1:lens [(⟨z.toList.toArray⟩:Ba)]=32:=by simp[lens,ByteArray.size]
 refine ZAN.s (T:=Jt) i2 (parts:=[⟨z.toList.toArray⟩]) r2 ?_ ?_ (by omega) ?_ (by simp) (fun hgt=>by rw[l1]at hgt;omega) fun _ h' s' k' i' o' =>?_
 ·intro b hb;simp[own]at hb;omega
 ·intro b hb hm;simp[own]at hb;have:=ls b hm;omega
 ·intro p hp;simp only[YAV,YAW,or_false]at hp;subst hp;show z.toList.toArray.size≤_;simp
 ·have e:DP [(⟨z.toList.toArray⟩:Ba)]=z.toList:=by simp[DP]
  rw[e]at i';refine hK h' s' ((k1.then (U:=w::own s) k2 (by simp) (by simp)).then k' (fun x hx _=>hx) (fun x hx _=>hx)) i' fun b hb =>?_;rcases o' b hb with e | e
  ·exact .inl e
  ·right;have:=k2.1;omega
def NW.hash{h0 h:Ja}{w:Nat}{s:Jn}{bs:List UInt8}{z:YI}{K:Int→Hp} (q:NW h0 h w s bs) (hb:bs.length+32≤65536)
 (hK:∀h' s',NW h0 h' w s' (bs++z.toList)→Jc (w::own s) h h'→(∀b,b<h.size→b∉w::own s→b∉w::own s')→K 0 h'):ZAD.C (some ⟨w,0⟩) z h K:=
 ZAD.s q.i hb fun h' s' k' i' o'=>hK h' s' (q.step k' i' o') k' (V0 o')
abbrev WN:Kd := .ag (.pr .i (.pr .i (.pr .i (.pr .i (.pr .i (.pr (.ar 32 .u8) .un))))))
def Qv(v:WN.Ty):Gq:=⟨v.1,v.2.1,v.2.2.1,v.2.2.2.1,v.2.2.2.2.1,v.2.2.2.2.2.1⟩
def Z1(x:Gq):WN.Ty:=(x.num,(x.kind,(x.mode,(x.links,(x.size,(x.root,()))))))
def yN{z:YI}:(HK.cells z++([]:List Value)).take 32=HK.cells z:=by
 rw[YAC];exact YAX (by rw[Kd.cells_length];exact YAf _)
def ST{l:Pl}{v:WN.Ty}{h:Ja} (e:sm WN l v h):sm .i (l.fld 0) (Qv v).num h∧sm .i (l.fld 1) (Qv v).kind h∧sm .i (l.fld 2) (Qv v).mode h∧sm .i (l.fld 3) (Qv v).links h∧sm .i (l.fld 4) (Qv v).size h∧sm HK (l.fld 5) (Qv v).root h:=
 ⟨JV e (by decide) rfl,JV e (by decide) rfl,JV e (by decide) rfl,JV e (by decide) rfl,JV e (by decide) rfl,JV e (by decide) (yN (z:=v.2.2.2.2.2.1))⟩
def ZD4.s{l:Pl}{v:WN.Ty}{h:Ja}{K:Bool→Hp} (e:sm WN l v h) (hK:K (Yr (Qv v)) h):ZD4.C (some l) h K:=by
 apply ZD4.c;unfold ZD4.m;obtain⟨f0,f1,f2,f3,f4,f5⟩:=ST e;generalize Qv v=x at *;refine Jp (Jb f1 ?_);refine JH (if x.kind=1 then 0 else 4096,()) h ?_ ?_
 ·by_cases hk:x.kind=1
  ·rw[Jf (by simpa using hk),Jf hk];exact⟨rfl,rfl⟩
  ·rw[Jd (by simpa using hk),Jd hk];exact⟨rfl,rfl⟩
 ·refine JH (Yr x,()) h ?_ hK;refine Jp (Jb f0 (Jp (Jb f1 (Jp (Jb f2 (Jp (Jb f3 ?_)))))));refine ZBy.s ?_;unfold Yr
  cases hn:Ce x.num x.kind x.mode x.links with
  | false=>rw[Jd (by simp)];exact⟨by simp,rfl⟩
  | true =>
    rw[Jf rfl];refine Jp (Jb f4 ?_);by_cases h0:x.size≥0
    ·rw[Jf (by simpa using h0)];refine Jp (Jb f4 ⟨?_,rfl⟩);have h0':0≤x.size:=h0;simp[h0']
    ·rw[Jd (by simpa using h0)];have h0':¬0≤x.size:=h0;exact⟨by simp[h0'],rfl⟩
def W8:∀xs:List Gq,Ww xs=true↔∀j,(h:j+1<xs.length)→xs[j].num<xs[j+1].num
 | []=>by simp[Ww]
 | [x]=>by simp[Ww]
 | x :: y :: r => by
   unfold Ww;rw[YAl,Qg,W8 (y::r)]
   constructor
   ·rintro⟨h1,h2⟩ j hj
    cases j with
    | zero=>exact h1
    | succ j=>exact h2 j (by simpa using hj)
   ·intro h;exact⟨h 0 (by simp),fun j hj=>h (j+1) (by simpa using hj)⟩
def PH{x:Gq} (h:Yr x=true):1≤x.num∧x.num≤32∧(x.kind=0∨x.kind=1)∧(x.mode=0∨x.mode=1)∧1≤x.links∧x.links≤32∧0≤x.size∧x.size≤4096:=by
 unfold Yr Ce at h;simp only[YAl,Bool.or_eq_true,Qg]at h;obtain⟨⟨⟨⟨⟨⟨⟨a,b⟩,c⟩,d⟩,e⟩,f⟩,g⟩,i⟩:=h;refine⟨a,b,c,d,e,f,g,?_⟩;split at i <;> omega
def Gy{xs:List Gq} (h:XB xs=true):(∀x∈xs,Yr x=true)∧xs.length≤32:=by
 unfold XB at h;rw[YAl,YAA]at h;obtain⟨h1,h2⟩:=h;refine⟨h1,?_⟩;have hr:=(W8 xs).1 h2
 have low:∀j,(hj:j<xs.length)→(j:Int)+1≤xs[j].num:=by
  intro j
  induction j with
  | zero=>intro hj;have:=(PH (h1 _ (YAM hj))).1;omega
  | succ j ih=>intro hj;have:=ih (by omega);have:=hr j hj;omega
 by_cases hl:xs.length≤32
 ·exact hl
 ·have a:=low 32 (by omega);have b:=(PH (h1 _ (YAM (show 32<xs.length by omega)))).2.1;omega
def TG{x:Gq}:(Xn x).length=38:=by
 unfold Xn;simp only[YAN,Jj,YAp]
def Iw{xs:List Gq}:(xs.flatMap Xn).length=38*xs.length:=by
 induction xs with
 | nil=>rfl
 | cons x r ih=>rw[YAG,YAN,ih,TG,YAO];omega
def ZBW.s{v:WN.Ty}{h:Ja}{K:Int→Hp} (hK:∀h',Jc [] h h'→K (Qv v).num h'):ZBW.C v h K:=by
 apply ZBW.c;unfold ZBW.m;refine Ji fun b h1 hb k1 e1 hs1 =>?_;have e1:h1[b]? = some (Jg QD WN v):=e1;exact Jb (ST (Je e1)).1 (hK h1 k1)
def dir_RisingI.s{s:Jn}{vs:List WN.Ty}{h:Ja}{K:Bool→Hp} (g:Q5 WN s vs h) (hl:vs.length≤9223372036854775807)
 (hK:∀h',Jc [] h h'→K (Ww (vs.map Qv)) h'):ZA0.C s (.func (.func ZBW.n) #[] #[]) h K:=by
 apply ZA0.c;unfold ZA0.m;have hlen:=g.len;have hiff:=W8 (vs.map Qv);simp only[YAQ,YAL]at hiff;refine JF (fun(y:Int×Unit) (h1:Ja)=>∃t:Nat,y.1=(t:Int)+1∧(t+1≤vs.length∨t=0)∧Jc [] h h1∧∀j,(hj:j+1<vs.length)→j<t→(Qv vs[j]).num<(Qv vs[j+1]).num) (fun(y:Int×Unit) _=>vs.length-y.1.toNat) ?_ ?_
 ·exact⟨0,rfl,.inr rfl,Jc.rfl,fun j _ h=>by omega⟩
 ·rintro⟨(i:Int),_⟩ h1 ⟨t,e,ht,k1,hall⟩;dsimp only at e ⊢;subst e;by_cases hlt:t+1<vs.length
  ·rw[Jf (show decide ((t:Int)+1<(s.len:Int))=true from dT (by omega))];have hw:Jr ((t:Int)+1+1)=((t+1:Nat):Int)+1:=w6 (by omega);have hw1:Jr ((t:Int)+1-1)=(t:Int):=w6 (by omega);rw[hw,hw1];have g1:=g.keep (by decide) k1;have hlt0:t<vs.length:=by omega
   obtain⟨l0,hl0,hx0⟩:=Wx g1 (i:=t) hlt0;obtain⟨l1,hl1,hx1⟩:=Wx g1 (i:=t+1) hlt;refine⟨l0,hl0,by omega,by omega,vs[t],by rw[YAc];exact hx0,l1,hl1,by omega,by omega,vs[t+1],?_,?_⟩
   ·rw[show((t:Int)+1).toNat=t+1 by omega];exact hx1
   refine Qr (aa:=[WN.val vs[t]]) (by rfl) ?_;show ZBW.C vs[t] h1 _;refine ZBW.s fun h2 k2 =>?_;refine⟨by rw[show((t:Int)+1).toNat=t+1 by omega];exact Zj hx1 k2 (by simp),?_⟩;refine Qr (aa:=[WN.val vs[t+1]]) (by rfl) ?_;show ZBW.C vs[t+1] h2 _;refine ZBW.s fun h3 k3 =>?_;have k13:=(k1.n k2).n k3;by_cases hs:(Qv vs[t]).num<(Qv vs[t+1]).num
   ·rw[Jd (show¬decide ((Qv vs[t]).num≥(Qv vs[t+1]).num)=true by simp;omega)];refine⟨⟨t+1,rfl,by omega,k13,fun j hj hjt =>?_⟩,by simp;omega⟩;by_cases e:j=t
    ·subst e;exact hs
    ·exact hall j hj (by omega)
   ·rw[Jf (show decide ((Qv vs[t]).num≥(Qv vs[t+1]).num)=true from dT (by omega))]
    have:Ww (vs.map Qv)=false:=by
     cases hr:Ww (vs.map Qv) with
     | false=>rfl
     | true=>exact absurd (hiff.1 hr t hlt) hs
    rw[←this];exact hK _ k13
  ·rw[Jd (show¬decide ((t:Int)+1<(s.len:Int))=true by simp;omega)];have:Ww (vs.map Qv)=true:=hiff.2 fun j hj=>hall j hj (by omega);rw[←this];exact hK _ k1
def ZD5.s{s:Jn}{vs:List WN.Ty}{h:Ja}{K:Bool→Hp} (g:Q5 WN s vs h) (hl:vs.length≤9223372036854775807)
 (hK:∀h',Jc [] h h'→K (XB (vs.map Qv)) h'):ZD5.C s h K:=by
 apply ZD5.c;unfold ZD5.m;have hlen:=g.len;refine JF (fun(y:Int×Unit) (h1:Ja)=>h1=h∧∃t:Nat,y.1=t∧t≤vs.length∧∀j,(hj:j<vs.length)→j<t→Yr (Qv vs[j])=true) (fun(y:Int×Unit) _=>vs.length-y.1.toNat) ?_ ?_
 ·exact⟨rfl,0,rfl,YAk _,fun j _ h=>by omega⟩
 ·rintro⟨(i:Int),_⟩ h1 ⟨rfl,t,e,ht,hall⟩;dsimp only at e ⊢;subst e;by_cases hlt:t<vs.length
  ·rw[Jf (show decide ((t:Int)<(s.len:Int))=true from dT (by omega))];have hw:Jr ((t:Int)+1)=((t+1:Nat):Int):=w6 (by omega);rw[hw];refine Xx g (x:=vs[t]) (by omega) (by simp[hlt]) rfl fun l hl =>?_;refine ZD4.s hl ?_
   cases hm:Yr (Qv vs[t]) with
   | false =>
     rw[Jf (by rfl)]
     have:XB (vs.map Qv)=false:=by
      unfold XB;rw[Bool.and_eq_false_iff]
      left
      rw[List.all_eq_false];exact⟨Qv vs[t],List.mem_map_of_mem (YAM hlt),by rw[hm];simp⟩
     rw[←this];exact hK _ Jc.rfl
   | true =>
     rw[Jd (by simp)];refine⟨⟨by first | rfl | trivial,t+1,rfl,by omega,fun j hj hjt =>?_⟩,by simp;omega⟩;by_cases e:j=t
     ·subst e;exact hm
     ·exact hall j hj (by omega)
  ·rw[Jd (show¬decide ((t:Int)<(s.len:Int))=true by simp;omega)];refine dir_RisingI.s g hl fun h3 k3 =>?_
   have:XB (vs.map Qv)=Ww (vs.map Qv):=by
    have ha:(vs.map Qv).all Yr=true:=by
     rw[YAA];intro x hx;obtain⟨v,hv,rfl⟩:=List.mem_map.1 hx;obtain⟨j,hj,rfl⟩:=List.mem_iff_getElem.1 hv;exact hall j hj (by omega)
    unfold XB;rw[ha];rfl
   rw[←this];exact hK _ k3
def ZD8.s{s:Jn}{vs:List WN.Ty}{h:Ja}{K:Ba→Int→Hp} (g:Q5 WN s vs h) (hl:vs.length≤9223372036854775807)
 (hK:∀h',Jc [] h h'→K (if XB (vs.map Qv)=true then bx (XA (vs.map Qv)) else⟨#[]⟩) (if XB (vs.map Qv)=true then 0 else 1400) h'):ZD8.C s h K:=by
 apply ZD8.c;unfold ZD8.m;have hlen:=g.len;refine ZD5.s g hl fun h1 k1 =>?_
 cases hm:XB (vs.map Qv) with
 | false =>
   rw[Jf (by rfl)];rw[hm]at hK;exact hK _ k1
 | true =>
   rw[Jd (by simp)];rw[hm]at hK;simp only[if_true]at hK;obtain⟨hall,hl32⟩:=Gy hm;rw[YAQ]at hl32;refine ZBl.s fun h2 k2 w2 =>?_;have q2:NW h h2 h1.size ⟨none,0,0⟩ []:=⟨k1.n k2,w2,k1.1,by simp[own]⟩;generalize h1.size=w at q2 ⊢;refine q2.num (x:=84) (n:=1) (.inl rfl) (by decide) (by simp) fun h3 s3 q3 k3 _ =>?_;rw[hlen];refine q3.num (x:=vs.length) (n:=1) (.inl rfl) (by omega) (by simp[Jj]) fun h4 s4 q4 k4 _ =>?_;refine JF (fun(y:Int×Unit) (h5:Ja)=>∃t s5,y.1=((t:Nat):Int)∧t≤vs.length∧NW h h5 w s5 (be 84 1++be vs.length 1++((vs.map Qv).take t).flatMap Xn)) (fun(y:Int×Unit) _=>vs.length-y.1.toNat) ?_ ?_
   ·exact⟨0,s4,rfl,YAk _,by simpa using q4⟩
   ·rintro⟨(i:Int),_⟩ h5 ⟨t,s5,e,ht,q5⟩;dsimp only at e ⊢;subst e;by_cases hlt:t<vs.length
    ·rw[Jf (show decide ((t:Int)<(vs.length:Int))=true from dT (by omega))];have hw:Jr ((t:Int)+1)=((t+1:Nat):Int):=w6 (by omega);rw[hw];have hxo:=PH (hall (Qv vs[t]) (List.mem_map_of_mem (YAM hlt)));have htk:(vs.map Qv).take (t+1)=(vs.map Qv).take t++[Qv vs[t]]:=by rw[YAZ (by simpa using hlt),YAL]
     have hfl:(((vs.map Qv).take t).flatMap Xn).length≤1216:=by rw[Iw,YAS,YAQ];omega
     refine JK (g.keep (by decide) q5.k) (x:=vs[t]) (by omega) (by simp[hlt]) rfl ?_;refine Jq fun b h6 hb k6 e6 hs6 =>?_;have e6:h6[b]? = some (Jg QD WN vs[t]):=e6;have q6:=q5.keep k6 (by simp);have nb:b∉w::own s5:=q5.out (.inr ⟨by have:=Jl q5.i.o;omega,fun hm=>by have:=q5.i.r.lt _ hm;omega⟩);obtain⟨f0,f1,f2,f3,f4,f5⟩:=ST (Je e6);refine Jb f0 (Jb f1 (Jb f2 (Jb f3 ?_)));have hib:Xn (Qv vs[t])=be (Qv vs[t]).num.toNat 1++be (Qv vs[t]).kind.toNat 1++be (Qv vs[t]).mode.toNat 1++be (Qv vs[t]).links.toNat 1++be (Qv vs[t]).size.toNat 2++(Qv vs[t]).root.toList:=rfl;generalize hB:be 84 1++be vs.length 1++((vs.map Qv).take t).flatMap Xn=B at q5 q6;have hBl:B.length≤1218:=by rw[←hB];simp only[YAN,Jj];omega
     have nsz:=Jl e6;generalize hv:vs[t]=v at *;generalize hx:Qv v=x at *;refine JF (fun(y:Int×Unit) (h7:Ja)=>∃j s7,y.1=((j:Nat):Int)∧j≤4∧NW h h7 w s7 (B++([x.num,x.kind,x.mode,x.links].take j).flatMap fun z=>be z.toNat 1)∧h7[b]? = some (Jg QD WN v)∧b∉w::own s7∧b<h7.size) (fun(y:Int×Unit) _=>4-y.1.toNat) ?_ ?_
     ·exact⟨0,s5,rfl,by omega,by simpa using q6,e6,nb,nsz⟩
     ·rintro⟨(j:Int),_⟩ h7 ⟨n,s7,e,hn,q7,e7,n7,b7⟩;dsimp only at e ⊢;subst e
      have fl:(([x.num,x.kind,x.mode,x.links].take n).flatMap fun z=>be z.toNat 1).length≤4:=by
       match n,hn with
       | 0,_ | 1,_ | 2,_ | 3,_ | 4,_=>simp[Jj]
      by_cases hn4:n<4
      ·rw[Jf (show decide ((n:Int)<4)=true from dT (by omega))];refine⟨(show(0:Int)≤(n:Int) by omega),(show(n:Int)<4 by omega),?_⟩;have hwn:Jr ((n:Int)+1)=((n+1:Nat):Int):=w6 (by omega);rw[hwn];have hv4:((((((Vector.replicate 4 (0:Int)).setIfInBounds 0 x.num).setIfInBounds 1 x.kind).setIfInBounds 2 x.mode).setIfInBounds 3 x.links).toList)=[x.num,x.kind,x.mode,x.links]:=rfl;rw[hv4]
       have hz:∃z,[x.num,x.kind,x.mode,x.links][n]? = some z∧0≤z∧z<256:=by
        match n,hn4 with
        | 0,_=>exact⟨_,rfl,by omega,by omega⟩
        | 1,_=>exact⟨_,rfl,by omega,by omega⟩
        | 2,_=>exact⟨_,rfl,by omega,by omega⟩
        | 3,_=>exact⟨_,rfl,by omega,by omega⟩
       obtain⟨z,z1,z2,z3⟩:=hz
       have z4:[x.num,x.kind,x.mode,x.links].getD (n:Int).toNat 0=((z.toNat:Nat):Int):=by
        rw[YAc,YAI,z1];show z=_;omega
       rw[z4];refine q7.num (n:=1) (.inl rfl) (by omega) (by simp only[YAN];omega) fun h8 s8 q8 k8 o8 =>?_;refine⟨⟨n+1,s8,rfl,by omega,?_,k8.get e7 n7,o8 b b7 n7,Nat.lt_of_lt_of_le b7 k8.1⟩,by simp;omega⟩
       have:[x.num,x.kind,x.mode,x.links].take (n+1)=[x.num,x.kind,x.mode,x.links].take n++[z]:=by
        rw[List.take_add_one,z1];rfl
       rw[this,YAF,←YAB];simpa using q8
      ·rw[Jd (show¬decide ((n:Int)<4)=true by simp;omega)];obtain rfl:n=4:=by omega
       obtain⟨f0,f1,f2,f3,f4,f5⟩:=ST (Je e7);rw[hx]at f4 f5;refine Jb f4 ?_;have hsz:x.size=((x.size.toNat:Nat):Int):=by omega
       rw[hsz];refine q7.num (n:=2) (.inr (.inl rfl)) (by omega) (by simp only[YAN];omega) fun h8 s8 q8 k8 o8 =>?_;have e8:=k8.get e7 n7;have n8:=o8 b b7 n7;obtain⟨_,_,_,_,_,f5⟩:=ST (Je e8);rw[hx]at f5;refine Jb f5 ?_;refine q8.hash (by simp only[YAN,Jj];omega) fun h9 s9 q9 k9 _ =>?_;refine⟨⟨t+1,s9,rfl,by omega,?_⟩,by simp;omega⟩;rw[htk,YAF,←YAB,hB];simp only[YAG,YAH,YAC];rw[hib];simpa[YAB] using q9
    ·rw[Jd (show¬decide ((t:Int)<(vs.length:Int))=true by simp;omega)];obtain rfl:t=vs.length:=by omega
     rw[YAX (by simp)]at q5;refine ZAK.s q5.i ?_;have:=hK _ q5.k;unfold XA at this;rw[YAQ]at this;exact this
structure X6 where
 user:Int
 seq:Int
 vec:List Int
 root:Qh
 tables:List Qh
 sign:By
def XT(x:Int):Bool:=decide (0≤x)&&decide (x≤256)
def XW(v:List Int):Bool:=v.all XT&&(decide (1≤v.length)&&decide (v.length≤16))
def QG(e:X6):Bool:=decide (0≤e.user)&&(decide (e.user<16)&&(decide (1≤e.seq)&&(decide (e.seq≤256)&&(XW e.vec&&(decide (1≤e.tables.length)&&decide (e.tables.length≤24))))))
def YZ(e:X6):By:=[65,69]++be e.user.toNat 1++be e.seq.toNat 2++be e.vec.length 1++(e.vec.flatMap fun x=>be x.toNat 2)++e.root.toList++be e.tables.length 1++e.tables.flatMap fun z=>z.toList
def JJ(e:X6):Bool:=QG e&&decide (e.sign.length≤8192)
def putE(e:X6):By:=YZ e++(be e.sign.length 2++e.sign)
def Vk(e:X6):By:=(Yt (XK 1 [bx (YZ e)])).toList
def Eu(e:X6) (pub:By):Int:=if JJ e=true then(if Rl pub (Vk e) e.sign=0 then 0 else 1901) else 1900
abbrev JO:Kd := .ag (.pr .i (.pr .i (.pr .sl (.pr (.ar 32 .u8) (.pr .sl (.pr .s .un))))))
structure Ue (h:Ja) (v:JO.Ty) (e:X6):Prop where
 u:v.1=e.user
 q:v.2.1=e.seq
 w:Q5 .i v.2.2.1 e.vec h
 r:v.2.2.2.1=e.root
 t:Q5 (.ar 32 .u8) v.2.2.2.2.1 e.tables h
 s:v.2.2.2.2.2.1=bx e.sign
def Ue.keep{h h':Ja}{v:JO.Ty}{e:X6} (a:Ue h v e) (k:Jc [] h h'):Ue h' v e:=⟨a.u,a.q,a.w.keep (by decide) k,a.r,a.t.keep (by decide) k,a.s⟩
def ZD9.s{s:Jn}{xs:List Int}{h:Ja}{K:Bool→Hp} (g:Q5 .i s xs h) (hl:xs.length≤9223372036854775806) (hK:K (XW xs) h):ZD9.C s h K:=by
 apply ZD9.c;unfold ZD9.m;have gl:=g.len;refine JF (fun(y:Int×Unit) (h1:Ja)=>h1=h∧∃t:Nat,y.1=t∧t≤xs.length∧(xs.take t).all XT=true) (fun(y:Int×Unit) _=>xs.length-y.1.toNat) ?_ ?_
 ·exact⟨rfl,0,rfl,YAk _,by simp⟩
 rintro⟨(i:Int),_⟩ h1 ⟨rfl,t,e,ht,hall⟩;dsimp only at e ⊢;subst e;by_cases hlt:t<xs.length
 ·rw[Jf (show decide ((t:Int)<(s.len:Int))=true from dT (by omega))];have hxe:xs.take (t+1)=xs.take t++[xs[t]]:=YAZ hlt;refine Qd (fun _ h'=>h'=h1∧XT xs[t]=true) ?_ ?_
  ·refine JK g (x:=xs[t]) (by omega) (by simp[hlt]) rfl ?_;refine JH (!XT xs[t],()) h1 ?_ ?_
   ·unfold XT;by_cases h0:xs[t]<0
    ·rw[Jf (dT h0)];exact⟨by rw[dF (show¬0≤xs[t] by omega)];rfl,rfl⟩
    ·rw[Jd (by simpa using h0),dT (show 0≤xs[t] by omega)];refine⟨?_,rfl⟩;by_cases h2:xs[t]>256
     ·rw[dT h2,dF (show¬xs[t]≤256 by omega)];rfl
     ·rw[dF h2,dT (show xs[t]≤256 by omega)];rfl
   ·by_cases hv:XT xs[t]=true
    ·rw[hv,Jd (by simp)];exact⟨rfl,rfl⟩
    ·replace hv:XT xs[t]=false:=by simpa using hv
     rw[hv,Jf (by rfl)]
     have:XW xs=false:=by
      unfold XW
      have:xs.all XT=false:=by
       rw[List.all_eq_false];exact⟨xs[t],YAM _,by rw[hv];simp⟩
      rw[this];rfl
     rw[this]at hK;exact hK
  ·rintro _ h2 ⟨rfl,hv⟩;have hw:Jr ((t:Int)+1)=((t+1:Nat):Int):=w6 (by omega);rw[hw];exact⟨⟨rfl,t+1,rfl,by omega,by rw[hxe,List.all_append,hall];simp[hv]⟩,by simp;omega⟩
 ·rw[Jd (show¬decide ((t:Int)<(s.len:Int))=true from dn (by omega))];have:t=xs.length:=by omega
  rw[this,YAX (YAf _)]at hall;refine JH (XW xs,()) h1 ?_ hK;unfold XW;rw[hall,gl];by_cases h1':1≤xs.length
  ·rw[Jf (show decide ((xs.length:Int)≥1)=true from dT (by omega)),dT h1'];refine⟨?_,rfl⟩;have:decide ((xs.length:Int)≤16)=decide (xs.length≤16):=decide_eq_decide.2 (by omega);rw[this];rfl
  ·rw[Jd (show¬decide ((xs.length:Int)≥1)=true from dn (by omega)),dF h1'];exact⟨rfl,rfl⟩
def ZH{h:Ja}{b:Nat}{v:JO.Ty} (e:h[b]? = some (Jg Jk JO v)):sm .i ((Pl.mk b 0).fld 0) v.1 h∧sm .i ((Pl.mk b 0).fld 1) v.2.1 h∧sm .sl ((Pl.mk b 0).fld 2) v.2.2.1 h∧sm (.ar 32 .u8) ((Pl.mk b 0).fld 3) v.2.2.2.1 h∧sm .sl ((Pl.mk b 0).fld 35) v.2.2.2.2.1 h∧sm .s ((Pl.mk b 0).fld 36) v.2.2.2.2.2.1 h:=by
 have c3:(JO.cells v).drop 3=(Kd.ar 32 .u8).cells v.2.2.2.1++(Kd.sl.cells v.2.2.2.2.1++(Kd.s.cells v.2.2.2.2.2.1++[])):=rfl;have l3:((Kd.ar 32 .u8).cells v.2.2.2.1).length=32:=Kd.cells_length ..
 have c35:(JO.cells v).drop 35=Kd.sl.cells v.2.2.2.2.1++(Kd.s.cells v.2.2.2.2.2.1++[]):=by
  have:(JO.cells v).drop 35=((JO.cells v).drop 3).drop 32:=by rw[YAD]
  rw[this,c3,List.drop_left' l3]
 refine⟨Jv (n:=0) (k' := .i) e rfl (by decide),Jv (n:=1) (k' := .i) e rfl (by decide),Jv (n:=2) (k' := .sl) e rfl (by decide),JV (Je e) (by decide) ?_,JV (Je e) (by decide) ?_,JV (Je e) (by decide) ?_⟩
 ·rw[c3];exact List.take_left' l3
 ·rw[c35];rfl
 ·have:(JO.cells v).drop 36=((JO.cells v).drop 35).drop 1:=by rw[YAD]
  rw[this,c35];rfl
def ZDW.s{b:Nat}{v:JO.Ty}{e:X6}{h:Ja}{K:Bool→Hp} (eb:h[b]? = some (Jg Jk JO v)) (a:Ue h v e) (hl:e.vec.length≤9223372036854775806) (hK:K (QG e) h):ZDW.C (some ⟨b,0⟩) h K:=by
 apply ZDW.c;unfold ZDW.m;obtain⟨f0,f1,f2,f3,f4,f5⟩:=ZH eb;refine JH (QG e,()) h ?_ hK;unfold QG;refine Jp (Jb f0 ?_);rw[a.u];rcases Decidable.em (¬(0≤e.user)) with c1 | c1
 ·rw[Jd (show¬decide (e.user≥0)=true from fun h=>c1 (of_decide_eq_true h)),dF c1];exact⟨rfl,rfl⟩
 replace c1:=Decidable.not_not.1 c1;rw[Jf (show decide (e.user≥0)=true from dT c1),dT c1,YAm];refine Jp (Jb f0 ?_);rw[a.u];rcases Decidable.em (¬(e.user<16)) with c2 | c2
 ·rw[Jd (show¬decide (e.user<16)=true from fun h=>c2 (of_decide_eq_true h)),dF c2];exact⟨rfl,rfl⟩
 replace c2:=Decidable.not_not.1 c2;rw[Jf (show decide (e.user<16)=true from dT c2),dT c2,YAm];refine Jp (Jb f1 ?_);rw[a.q];rcases Decidable.em (¬(1≤e.seq)) with c3 | c3
 ·rw[Jd (show¬decide (e.seq≥1)=true from fun h=>c3 (of_decide_eq_true h)),dF c3];exact⟨rfl,rfl⟩
 replace c3:=Decidable.not_not.1 c3;rw[Jf (show decide (e.seq≥1)=true from dT c3),dT c3,YAm];refine Jp (Jb f1 ?_);rw[a.q];rcases Decidable.em (¬(e.seq≤256)) with c4 | c4
 ·rw[Jd (show¬decide (e.seq≤256)=true from fun h=>c4 (of_decide_eq_true h)),dF c4];exact⟨rfl,rfl⟩
 replace c4:=Decidable.not_not.1 c4;rw[Jf (show decide (e.seq≤256)=true from dT c4),dT c4,YAm];refine Jp (Jb f2 ?_);refine ZD9.s a.w hl ?_;rcases Decidable.em (¬(XW e.vec=true)) with c5 | c5
 ·rw[Jd c5];replace c5:XW e.vec=false:=by simpa using c5
  rw[c5];exact⟨rfl,rfl⟩
 replace c5:=Decidable.not_not.1 c5;rw[Jf c5,c5,YAm];refine Jp (Jb f4 ?_);have tl:(v.2.2.2.2.1).len=e.tables.length:=a.t.len;rw[tl];rcases Decidable.em (¬(1≤e.tables.length)) with c6 | c6
 ·rw[Jd (show¬decide ((e.tables.length:Int)≥1)=true from dn (by omega)),dF c6];exact⟨rfl,rfl⟩
 replace c6:=Decidable.not_not.1 c6;rw[Jf (show decide ((e.tables.length:Int)≥1)=true from dT (by omega)),dT c6,YAm];refine Jp (Jb f4 ?_);rw[tl];have:decide ((e.tables.length:Int)≤24)=decide (e.tables.length≤24):=decide_eq_decide.2 (by omega);rw[this];exact⟨rfl,rfl⟩
structure BW (T:Nat) (h0 h:Ja) (w b:Nat) (s:Jn) (bs:By):Prop where
 q:NW h0 h w s bs
 e:h[b]? = some (Jg T .p (some ⟨w,0⟩))
 n:b∉w::own s
def BW.num{T w b x n:Nat}{h0 h:Ja}{s:Jn}{bs:By}{K:Int→Hp} (i:BW T h0 h w b s bs) (hn:n=1∨n=2∨n=4) (hx:x<256^n) (hb:bs.length+n≤65536)
 (hK:∀h' s',BW T h0 h' w b s' (bs++be x n)→K 0 h'):ZAB.C (some ⟨w,0⟩) (x:Int) (n:Int) h K:=
 i.q.num hn hx hb fun h' s' q' k' o'=>hK h' s' ⟨q',k'.get i.e i.n,o' b (Jl i.e) i.n⟩
def BW.hash{T w b:Nat}{h0 h:Ja}{s:Jn}{bs:By}{z:Qh}{K:Int→Hp} (i:BW T h0 h w b s bs) (hb:bs.length+32≤65536)
 (hK:∀h' s',BW T h0 h' w b s' (bs++z.toList)→K 0 h'):ZAD.C (some ⟨w,0⟩) z h K:=
 i.q.hash hb fun h' s' q' k' o'=>hK h' s' ⟨q',k'.get i.e i.n,o' b (Jl i.e) i.n⟩
def BW.keep{T w b:Nat}{h0 h h':Ja}{s:Jn}{bs:By}{S:List Nat} (i:BW T h0 h w b s bs) (k:Jc S h h') (hs:∀x∈S,h.size≤x):BW T h0 h' w b s bs:=
 ⟨i.q.keep k hs,k.get i.e (fun hm=>by have:=hs b hm;have:=Jl i.e;omega),i.n⟩
def Pw{α : Type}{f : α → By}{c:Nat} (hf:∀x,(f x).length=c) (l:List α):(l.flatMap f).length=c*l.length:=by
 induction l with
 | nil=>simp
 | cons a r ih=>rw[YAG,YAN,ih,hf,YAO,Nat.mul_add];omega
def each_num.s{T w b:Nat}{h0 h:Ja}{s sl:Jn}{bs:By}{xs:List Int}{K:Int→Hp} (i:BW T h0 h w b s bs) (g:Q5 .i sl xs h0) (ok:xs.all XT=true) (hl:xs.length≤16) (hb:bs.length≤1000)
 (hK:∀h' s',BW T h0 h' w b s' (bs++xs.flatMap fun x=>be x.toNat 2)→K 0 h'):ZDU.C sl (.func (.func ZCS.n) #[] #[Kd.p.val (some (Pl.mk b 0))]) h K:=by
 apply ZDU.c;unfold ZDU.m;have gl:=g.len;refine JF (fun(y:Int×Unit) (h1:Ja)=>∃(t:Nat) (s1:Jn),y.1=t∧t≤xs.length∧BW T h0 h1 w b s1 (bs++(xs.take t).flatMap fun x=>be x.toNat 2)) (fun(y:Int×Unit) _=>xs.length-y.1.toNat) ?_ ?_
 ·exact⟨0,s,rfl,YAk _,by simpa using i⟩
 rintro⟨(jj:Int),_⟩ h1 ⟨t,s1,e,ht,i1⟩;dsimp only at e ⊢;subst e;by_cases hlt:t<xs.length
 ·rw[Jf (show decide ((t:Int)<(sl.len:Int))=true from dT (by omega))];refine JK (g.keep (by decide) i1.q.k) (x:=xs[t]) (by omega) (by simp[hlt]) rfl ?_;refine Qr (aa:=[Kd.i.val xs[t],Kd.p.val (some (Pl.mk b 0))]) (by rfl) ?_;show ZCS.C xs[t] ⟨b,0⟩ h1 _;apply ZCS.c;unfold ZCS.m;refine Jb (Je i1.e) ?_;have hx:XT xs[t]=true:=List.all_eq_true.1 ok _ (YAM hlt);unfold XT at hx;simp only[YAl,Qg]at hx;have hxn:xs[t]=((xs[t].toNat:Nat):Int):=by omega
  have hlen:(bs++(xs.take t).flatMap fun x=>be x.toNat 2).length≤1032:=by
   rw[YAN,Pw (c:=2) (fun _=>Jj),YAS];omega
  have hxe:xs.take (t+1)=xs.take t++[xs[t]]:=YAZ hlt;rw[hxn];refine i1.num (n:=2) (by decide) (by omega) (by omega) fun h2 s2 i2 =>?_;dsimp only;rw[Jd (by decide)];have hw:Jr ((t:Int)+1)=((t+1:Nat):Int):=w6 (by omega);rw[hw];refine⟨⟨t+1,s2,rfl,by omega,?_⟩,by simp;omega⟩;rw[hxe,YAF,←YAB];simpa using i2
 ·rw[Jd (show¬decide ((t:Int)<(sl.len:Int))=true from dn (by omega))];have:t=xs.length:=by omega
  rw[this,YAX (YAf _)]at i1;exact hK h1 s1 i1
def each_hash.s{T w b:Nat}{h0 h:Ja}{s sl:Jn}{bs:By}{xs:List Qh}{K:Int→Hp} (i:BW T h0 h w b s bs) (g:Q5 (.ar 32 .u8) sl xs h0) (hl:xs.length≤24) (hb:bs.length≤1000)
 (hK:∀h' s',BW T h0 h' w b s' (bs++xs.flatMap fun z=>z.toList)→K 0 h'):ZAp.C sl (.func (.func ZAD.n) #[Kd.p.val (some (Pl.mk w 0))] #[]) h K:=by
 apply ZAp.c;unfold ZAp.m;have gl:=g.len;refine JF (fun(y:Int×Unit) (h1:Ja)=>∃(t:Nat) (s1:Jn),y.1=t∧t≤xs.length∧BW T h0 h1 w b s1 (bs++(xs.take t).flatMap fun z=>z.toList)) (fun(y:Int×Unit) _=>xs.length-y.1.toNat) ?_ ?_
 ·exact⟨0,s,rfl,YAk _,by simpa using i⟩
 rintro⟨(jj:Int),_⟩ h1 ⟨t,s1,e,ht,i1⟩;dsimp only at e ⊢;subst e;by_cases hlt:t<xs.length
 ·rw[Jf (show decide ((t:Int)<(sl.len:Int))=true from dT (by omega))];refine JK (g.keep (by decide) i1.q.k) (x:=xs[t]) (by omega) (by simp[hlt]) rfl ?_;refine Jq fun b2 h2 hb2 k2 e2 hs2 =>?_;refine Jb (Je e2) ?_;refine Qr (aa:=[Kd.p.val (some (Pl.mk w 0)),(Kd.ar 32 .u8).val xs[t]]) (by rfl) ?_;show ZAD.C (some ⟨w,0⟩) xs[t] h2 _
  have hlen:(bs++(xs.take t).flatMap fun z=>z.toList).length≤1768:=by
   rw[YAN,Pw (c:=32) (fun z=>by simp),YAS];omega
  have hxe:xs.take (t+1)=xs.take t++[xs[t]]:=YAZ hlt;refine(i1.keep k2 (by simp)).hash (by omega) fun h3 s3 i3 =>?_;rw[Jd (by decide)];have hw:Jr ((t:Int)+1)=((t+1:Nat):Int):=w6 (by omega);rw[hw];refine⟨⟨t+1,s3,rfl,by omega,?_⟩,by simp;omega⟩;rw[hxe,YAF,←YAB];simpa using i3
 ·rw[Jd (show¬decide ((t:Int)<(sl.len:Int))=true from dn (by omega))];have:t=xs.length:=by omega
  rw[this,YAX (YAf _)]at i1;exact hK h1 s1 i1
def Rc{xs:List Int}:(xs.flatMap fun x=>be x.toNat 2).length=2*xs.length:=Pw (c:=2) (fun _=>Jj) xs
def VR{e:X6} (hm:QG e=true):(YZ e).length≤1000:=by
 unfold QG XW at hm;simp only[YAl,Qg]at hm;unfold YZ;simp only[YAN,Jj,Pw (c:=2) (fun _=>Jj),Pw (f:=fun z:Qh=>z.toList) (c:=32) (fun z=>YAp ..),YAO,YAR,YAp];omega
def ZC7.s{b:Nat}{v:JO.Ty}{e:X6}{h:Ja}{K:Option Pl→Hp} (eb:h[b]? = some (Jg Jk JO v)) (a:Ue h v e) (hm:QG e=true) (hK:∀h' w s,NW h h' w s (YZ e)→K (some ⟨w,0⟩) h'):ZC7.C (some ⟨b,0⟩) h K:=by
 apply ZC7.c;unfold ZC7.m;have hbl:=VR hm;have hm':=hm;unfold QG at hm';simp only[YAl,Qg]at hm';obtain⟨c1,c2,c3,c4,c5,c6,c7⟩:=hm';unfold XW at c5;simp only[YAl,Qg]at c5;obtain⟨c5,c8,c9⟩:=c5;refine ZBl.s fun h1 k1 i1 =>?_;have q1:NW h h1 h.size ⟨none,0,0⟩ []:=⟨k1,i1,YAf _,by simp[own]⟩;refine Jq fun b2 h3 hb k3 e3 hs3 =>?_;have lt:=Jl i1.o;refine JF (fun(y:Int×Unit) (h4:Ja)=>∃(t:Nat) (s:Jn),y.1=t∧t≤2∧BW X0 h h4 h.size b2 s ([65,69].take t)) (fun(y:Int×Unit) _=>2-y.1.toNat) ?_ ?_
 ·exact⟨0,_,rfl,by decide,⟨q1.keep k3 (by simp),e3,by simp[own];omega⟩⟩
 rintro⟨(jj:Int),_⟩ h4 ⟨t,s4,et,ht,i4⟩;dsimp only at et ⊢;subst et;by_cases hlt:t<2
 ·rw[Jf (show decide ((t:Int)<2)=true from dT (by omega))];refine Jb (Je i4.e) ?_;refine Z2 (l:=[65,69]) (i:=t) (by simpa using hlt) ?_;have hxe:[65,69].take (t+1)=[65,69].take t++[([65,69]:By)[t]]:=YAZ (by simpa using hlt);generalize ([65,69]:By)[t]=ch at *;have hch:=ch.toNat_lt;have hb1:be ch.toNat 1=[ch]:=by simp[be]
  refine i4.num (n:=1) (by decide) (by omega) (by rw[YAS];omega) fun h5 s5 i5 =>?_;rw[hb1,←hxe]at i5;have hw:Jr ((t:Int)+1)=((t+1:Nat):Int):=w6 (by omega);rw[hw];exact⟨⟨t+1,s5,rfl,by omega,i5⟩,by simp;omega⟩
 rw[Jd (show¬decide ((t:Int)<2)=true from dn (by omega))];obtain rfl:t=2:=by omega
 have ff:∀ {hh s bs},BW X0 h hh h.size b2 s bs→_:=fun i=>ZH (i.q.k.g eb);have wl:v.2.2.1.len=e.vec.length:=a.w.len;have tl:v.2.2.2.2.1.len=e.tables.length:=a.t.len;have hu:v.1=((e.user.toNat:Nat):Int):=a.u.trans (YAd c1).symm;have hq:v.2.1=((e.seq.toNat:Nat):Int):=a.q.trans (YAd (by omega)).symm;refine Jb (Je i4.e) (Jp (Jb (ff i4).1 ?_));rw[hu];refine i4.num (n:=1) (by decide) (by omega) (by simp) fun h5 s5 i5 =>?_;refine Jb (Je i5.e) (Jp (Jb (ff i5).2.1 ?_));rw[hq];refine i5.num (n:=2) (by decide) (by omega) (by simp[Jj]) fun h6 s6 i6 =>?_;refine Jb (Je i6.e) (Jp (Jb (ff i6).2.2.1 ?_));rw[wl];refine i6.num (n:=1) (by decide) (by omega) (by simp[Jj]) fun h7 s7 i7 =>?_;refine Jp (Jb (ff i7).2.2.1 ?_);refine each_num.s i7 a.w c5 (by omega) (by simp[Jj]) fun h8 s8 i8 =>?_;refine Jb (Je i8.e) (Jp (Jb (ff i8).2.2.2.1 ?_));rw[a.r];refine i8.hash (by simp only[YAN,Jj,Rc,YAS,YAO,YAR];omega) fun h9 s9 i9 =>?_;refine Jb (Je i9.e) (Jp (Jb (ff i9).2.2.2.2.1 ?_));rw[tl];refine i9.num (n:=1) (by decide) (by omega) (by simp only[YAN,Jj,Rc,YAS,YAO,YAR,YAp];omega) fun h10 s10 i10 =>?_;refine Jp (Jb (ff i10).2.2.2.2.1 (Jb (Je i10.e) ?_));refine each_hash.s i10 a.t c7 (by simp only[YAN,Jj,Rc,YAS,YAO,YAR,YAp];omega) fun h11 s11 i11 =>?_;exact Jb (Je i11.e) (hK h11 h.size s11 i11.q)
def ZB8.s{v:JO.Ty}{e:X6}{h:Ja}{K:Ba→Int→Hp} (a:Ue h v e) (hl:e.vec.length≤9223372036854775806) (hK:∀h',Jc [] h h'→K (if JJ e=true then bx (putE e) else⟨#[]⟩) (if JJ e=true then 0 else 1900) h'):ZB8.C v h K:=by
 apply ZB8.c;unfold ZB8.m;refine Ji fun b1 h1 hb1 k1 e1 hs1 =>?_;have e1:h1[b1]? = some (Jg Jk JO v):=e1;have a1:=a.keep k1;obtain⟨f0,f1,f2,f3,f4,f5⟩:=ZH e1;refine JH (!JJ e,()) h1 ?_ ?_
 ·refine ZDW.s e1 a1 hl ?_;unfold JJ
  cases hm:QG e with
  | false=>rw[Jf (by rfl)];exact⟨rfl,rfl⟩
  | true =>
    rw[Jd (by simp)];refine Jb f5 ?_;rw[a.s];refine⟨?_,rfl⟩
    have:decide (((bx e.sign).size:Int)>8192) = !decide (e.sign.length≤8192):=by
     rw[Js];by_cases hc:e.sign.length≤8192
     ·rw[dT hc,dF (by omega)];rfl
     ·rw[dF hc,dT (by omega)];rfl
    rw[this];rfl
 cases hp:JJ e with
 | false =>
   rw[Jf (by rfl)];rw[hp]at hK;exact hK h1 k1
 | true =>
   rw[Jd (by simp)];rw[hp,Jf rfl,Jf rfl]at hK;unfold JJ at hp;simp only[YAl,Qg]at hp;have hbl:=VR hp.1;refine ZC7.s e1 a1 hp.1 fun h2 w s q =>?_;refine Jb (ZH (q.k.g e1)).2.2.2.2.2 ?_;rw[a.s];refine q.text (n:=2) (by decide) (by rw[Js];omega) (by rw[Js];omega) fun h3 s3 q3 k3 o3 =>?_;rw[Js,Yx]at q3;refine ZAK.s q3.i ?_;exact hK h3 (k1.n q3.k)
def ZCs.s{b:Nat}{v:JO.Ty}{e:X6}{h:Ja}{K:Ba→Hp} (eb:h[b]? = some (Jg Jk JO v)) (a:Ue h v e) (hm:QG e=true) (hK:∀h',Jc [] h h'→K (bx (Vk e)) h'):ZCs.C (some ⟨b,0⟩) h K:=by
 apply ZCs.c;unfold ZCs.m;have hbl:=VR hm;refine ZC7.s eb a hm fun h1 w s q =>?_;refine ZAK.s q.i ?_;refine QN fun b2 h2 hb2 k2 r2 hs2 =>?_;refine ZDv.s (tag:=1) (ps:=[bx (YZ e)]) r2.seg (by decide) (by show lens [bx (YZ e)]≤_;simp[lens,Js];omega) (by simp[XK,QT,Jj,Yx];omega) fun h3 k3 =>?_;obtain⟨u,hu⟩:∃u,Yt (XK 1 [bx (YZ e)])=u:=⟨_,rfl⟩;have hs:Vk e=u.toList:=by unfold Vk;rw[hu]
 rw[hs]at hK;rw[hu];refine Jq fun b4 h4 hb4 k4 e4 hs4 =>?_;refine⟨by decide,by decide,by decide,?_⟩;have g4:Q5 .u8 ⟨some ⟨b4,0⟩,32,32⟩ u.toList h4:=Wt e4;exact Xb g4 fun q' _=>hK h4 (((q.k.n k2).n k3).n k4)
def ZCu.s{v:JO.Ty}{e:X6}{pub:By}{h:Ja}{K:Int→Hp} (a:Ue h v e) (hl:e.vec.length≤9223372036854775806) (hK:∀h',Jc [] h h'→K (Eu e pub) h'):ZCu.C v (bx pub) h K:=by
 apply ZCu.c;unfold ZCu.m;unfold Eu at hK;refine Ji fun b1 h1 hb1 k1 e1 hs1 =>?_;have e1:h1[b1]? = some (Jg Jk JO v):=e1;have a1:=a.keep k1;obtain⟨f0,f1,f2,f3,f4,f5⟩:=ZH e1;refine JH (!JJ e,()) h1 ?_ ?_
 ·refine ZDW.s e1 a1 hl ?_;unfold JJ
  cases hm:QG e with
  | false=>rw[Jf (by rfl)];exact⟨rfl,rfl⟩
  | true =>
    rw[Jd (by simp)];refine Jb f5 ?_;rw[a.s];refine⟨?_,rfl⟩
    have:decide (((bx e.sign).size:Int)>8192) = !decide (e.sign.length≤8192):=by
     rw[Js];by_cases hc:e.sign.length≤8192
     ·rw[dT hc,dF (by omega)];rfl
     ·rw[dF hc,dT (by omega)];rfl
    rw[this];rfl
 cases hp:JJ e with
 | false =>
   rw[Jf (by rfl)];rw[hp]at hK;exact hK h1 k1
 | true =>
   rw[Jd (by simp)];rw[hp,Jf rfl]at hK;unfold JJ at hp;simp only[YAl,Qg]at hp;refine Jb f5 ?_;refine ZCs.s e1 a1 hp.1 fun h2 k2 =>?_;refine⟨(ZH (k2.g e1)).2.2.2.2.2,?_⟩;rw[a.s];refine ZDg.s (by omega) fun h3 k3 =>?_;have:=hK h3 ((k1.n k2).n k3);generalize Rl pub (Vk e) e.sign=r at *;by_cases h0:r=0
   ·rw[Jd (by simp[h0])];rw[Jf h0]at this;exact this
   ·rw[Jf (by simp[h0])];rw[Jd h0]at this;exact this
def Pv{α : Type}{p : α → Bool}:∀ {xs:List α}{t:Nat},(ht:t<xs.length)→(∀j,(hj:j<xs.length)→j<t→p xs[j]=false)→p xs[t]=true→xs.find? p=some xs[t]
 | x :: r, 0, _, _, hp => by
   have hp:p x=true:=hp;simp[hp]
 | x :: r, t + 1, ht, h, hp => by
   have h0:p x=false:=h 0 (by simp) (by omega);have:=Pv (xs:=r) (t:=t) (by simpa using ht) (fun j hj hlt=>by have:=h (j+1) (by simpa using hj) (by omega);simpa using this) (by simpa using hp);simp only[List.find?_cons,h0];rw[this];rfl
def SM{α : Type}{p : α → Bool}{xs:List α} (h:∀j,(hj:j<xs.length)→p xs[j]=false):xs.find? p=none:=by
 rw[List.find?_eq_none];intro x hx;obtain⟨j,hj,rfl⟩:=List.mem_iff_getElem.1 hx;simp[h j hj]
def Dn{h:Ja}{vs:List VN}{t:IX}{k:Int}{i:Nat} (a:Qq (GL h) vs t) (hr:YC vs=true) (lo:∀j,(hj:j<vs.length)→j<i→YE vs[j]<k) (hi:∀j,(hj:j<vs.length)→i≤j→¬YE vs[j]<k) :
 (WZ vs k i=true→∃(h1:i<vs.length) (h2:i<t.length),t.find? (fun x=>decide (x.num=k))=some t[i])∧(WZ vs k i=false→t.find? (fun x=>decide (x.num=k))=none):=by
 have hl:=a.len;have hn:∀j,(h1:j<vs.length)→(h2:j<t.length)→YE vs[j]=t[j].num:=fun j h1 h2=>(a.getI h1 h2).n
 constructor
 ·intro hf;unfold WZ at hf;by_cases hiv:i<vs.length
  ·rw[YAJ hiv]at hf;have hf:YE vs[i]=k:=by simpa using hf
   have hit:i<t.length:=by omega
   refine⟨hiv,hit,Pv hit (fun j hj hlt =>?_) ?_⟩
   ·have:=lo j (by omega) hlt;rw[hn j (by omega) hj]at this;simp;omega
   ·rw[hn i hiv hit]at hf;simp[hf]
  ·rw[YAK (by omega)]at hf;simp at hf
 ·intro hf;refine SM fun j hj =>?_;have hjv:j<vs.length:=by omega
  cases hd:decide (t[j].num=k) with
  | false=>rfl
  | true =>
    have e:YE vs[j]=k:=by rw[hn j hjv hj];exact of_decide_eq_true hd
    exfalso
    by_cases hji:j<i
    ·have:=lo j hjv hji;omega
    ·have hiv:i<vs.length:=by omega
     have h1:=hi i hiv (YAf _)
     have h2:YE vs[i]=k:=by
      by_cases hij:i=j
      ·subst hij;exact e
      ·have:=GD hr (i:=i) (j:=j) (by omega) hjv;omega
     unfold WZ at hf;rw[YAJ hiv]at hf;simp[h2]at hf
def Ra{X:Fs}{o:Nat} (h:o<X.length):Tb X (o:Int)=X[o]:=by
 unfold Tb;rw[Jf (by omega),YAc,TB h]
def ZDY.s{l:Pl}{t0:Jn}{ss:List Jn}{vv:List (List VN)}{X:Fs}{r:Rf}{h:Ja}{K:Option Pl→Hp} (w:ML h t0 ss vv X) (hs:sm .sl (l.fld 0) t0 h) (hr:∀t∈X,ZP t=true∧t.length≤2305843009213693952)
 (hn:Zw X r=none→∀h',Jc [] h h'→K none h')
 (hy:∀(o i:Nat) (h1:o<ss.length) (h2:o<vv.length) (h3:o<X.length) (h4:i<vv[o].length) (h5:i<X[o].length) (lb:Pl),r.1=o→ss[o].a=some lb→GL h vv[o][i] X[o][i]→sm M7 ⟨lb.b,lb.o+i*6⟩ vv[o][i] h→Zw X r=some X[o][i]→X[o][i].num=r.2.1→∀h',Jc [] h h'→K (some ⟨lb.b,lb.o+i*6⟩) h'):ZDY.C (some l) r h K:=by
 apply ZDY.c;unfold ZDY.m;obtain⟨(ow:Int),(nu:Int),⟨⟩⟩:=r;dsimp only at hy;refine Ji fun b h1 hb k1 e1 hs1 =>?_;have e1:h1[b]? = some (Jg GG RF (ow,(nu,()))):=e1;have tl:=w.t.len;have rl:=w.r.len;have nl:=w.n.len;have s0:∀ {h'},Jc [] h1 h'→sm .i ((Pl.mk b 0).fld 0) ow h':=fun k=>JV (Je (k.g e1)) (by decide) rfl;have s1:∀ {h'},Jc [] h1 h'→sm .i ((Pl.mk b 0).fld 1) nu h':=fun k=>JV (Je (k.g e1)) (by decide) rfl;have hs2:∀ {h'},Jc [] h1 h'→sm .sl (l.fld 0) t0 h':=fun k=>Zj hs (k1.n k) (by simp);by_cases hc:0≤ow∧ow<X.length
 case neg=>
  refine JH (true,()) h1 ?_ ?_
  ·refine Jb (s0 Jc.rfl) ?_;by_cases c1:ow<0
   ·rw[Jf (by simpa using c1)];exact⟨by first | rfl | trivial,by first | rfl | trivial⟩
   rw[Jd (by simpa using c1)];refine Jb (s0 Jc.rfl) (Jp (Jb (hs2 Jc.rfl) ?_));rw[show decide (ow≥(t0.len:Int))=true from dT (by omega)];exact⟨by first | rfl | trivial,by first | rfl | trivial⟩
  ·rw[Jf (by rfl)];refine hn ?_ h1 k1;unfold Zw Tb;rw[Jd hc];rfl
 obtain⟨o,ho⟩:∃t:Nat,ow=t:=⟨ow.toNat,by omega⟩;have hoX:o<X.length:=by omega
 have hov:o<vv.length:=by omega
 have hos:o<ss.length:=by omega
 refine JH (false,()) h1 ?_ ?_
 ·refine Jb (s0 Jc.rfl) ?_;rw[Jd (by simp;omega)];refine Jb (s0 Jc.rfl) (Jp (Jb (hs2 Jc.rfl) ?_));exact⟨by simp;omega,by first | rfl | trivial⟩
 rw[Jd (by simp)];refine Jp (Jb (hs2 Jc.rfl) (Jb (s0 Jc.rfl) ?_));rw[ho];have w1:=w.keep k1;refine JK w1.t (x:=ss[o]) (by omega) (by simp[hos]) rfl ?_;refine Jb (s1 Jc.rfl) ?_;have gs:=w.r.getI hos hov;have gn:=w.n.getI hov hoX;have hrN:=hr _ (YAM hoX);have hvl:=gn.len;refine dir_PlaceN.s (gs.keep (by decide) k1) (by omega) fun i h3 k3 hile hb2 =>?_;have hrv:YC vv[o]=true:=by rw[Mp gn];exact hrN.1
 obtain⟨lo,hi⟩:=hb2 hrv;obtain⟨pf1,pf2⟩:=Dn gn hrv lo hi;have hfN:Zw X (ow,(nu,()))=X[o].find? fun x=>decide (x.num=nu):=by unfold Zw;rw[ho,Ra hoX]
 have k13:Jc [] h h3:=k1.n k3
 cases hf:WZ vv[o] nu i with
 | false =>
   rw[Jf (by rfl)];exact hn (by rw[hfN];exact pf2 hf) h3 k13
 | true =>
   rw[Jd (by simp)];obtain⟨hi1,hi2,hfi⟩:=pf1 hf;refine Jp (Jb (hs2 k3) (Jb (s0 k3) ?_));rw[ho];refine JK (w1.t.keep (by decide) k3) (x:=ss[o]) (by omega) (by simp[hos]) rfl ?_;obtain⟨lb,hlb,hsm⟩:=gs.el i vv[o][i] (by simp[hi1]);have hsl:=gs.len;refine⟨lb,hlb,by omega,by omega,?_⟩;rw[YAc]
   have hnum:X[o][i].num=nu:=by
    have:=List.find?_some hfi;simpa using this
   exact hy o i hos hov hoX hi1 hi2 lb ho hlb (gn.getI hi1 hi2) hsm (by rw[hfN];exact hfi) hnum h3 k13
def ZDa.s{h:Ja}{K:Rf→Hp} (hK:∀h',Jc [] h h'→K UK h'):ZDa.C h K:=by
 apply ZDa.c;unfold ZDa.m;refine Ji fun b h1 hb k1 e1 hs1 =>?_;have e1:h1[b]? = some (Jg GG RF (rf 0 0)):=e1;refine Ep (y:=UK) e1 fun h2 k2 e2 hs2 =>?_;exact hK h2 (k1.new k2 (by simp;omega))
def W7:∀xs:IX,ZP xs=true↔∀j,(h:j+1<xs.length)→xs[j].num<xs[j+1].num
 | []=>by simp[ZP]
 | [x]=>by simp[ZP]
 | x :: y :: r => by
   unfold ZP;rw[YAl,Qg,W7 (y::r)]
   constructor
   ·rintro⟨h1,h2⟩ j hj
    cases j with
    | zero=>exact h1
    | succ j=>exact h2 j (by simpa using hj)
   ·intro h;exact⟨h 0 (by simp),fun j hj=>h (j+1) (by simpa using hj)⟩
def PS{x:Nd} (h:XF x=true):1≤x.num∧x.num≤32∧(x.kind=0∨x.kind=1)∧(x.mode=0∨x.mode=1)∧1≤x.links∧x.links≤32∧(x.kind=1→x.data=⟨#[]⟩∧QS x.ents=true)∧(x.kind≠1→x.data.size≤4096∧x.ents=[]):=by
 unfold XF My Ce at h;simp only[YAl,Qg,Bool.or_eq_true]at h;obtain⟨⟨⟨⟨⟨⟨h1,h2⟩,h3⟩,h4⟩,h5⟩,h6⟩,h7⟩:=h;refine⟨h1,h2,h3,h4,h5,h6,fun hk =>?_,fun hk =>?_⟩
 ·rw[Jf hk]at h7;simpa using h7
 ·rw[Jd hk]at h7;simpa using h7
def VY{x:Nd} (h:XF x=true):x.data.size≤4096∧x.ents.length≤32∧QS x.ents=true:=by
 obtain⟨_,_,_,_,_,_,h1,h2⟩:=PS h;by_cases hk:x.kind=1
 ·obtain⟨a,b⟩:=h1 hk;refine⟨by rw[a];decide,(U4 b).1,b⟩
 ·obtain⟨a,b⟩:=h2 hk;exact⟨a,by rw[b];simp,by rw[b];rfl⟩
def VJ{t:IX} (h:Xa t=true):ZP t=true∧(∀x∈t,XF x=true)∧t.length≤32:=by
 unfold Xa at h;simp only[YAl,YAA]at h;refine⟨h.1,h.2,?_⟩
 have hg:∀j,(hj:j<t.length)→(j:Int)+1≤t[j].num:=by
  intro j
  induction j with
  | zero=>intro hj;have:=(PS (h.2 _ (YAM hj))).1;omega
  | succ j ih =>
    intro hj;have h1:=ih (by omega);have h2:=(W7 t).1 h.1 j hj;omega
 by_cases h0:t.length=0
 ·omega
 ·have h1:=hg (t.length-1) (by omega);have h2:=(PS (h.2 _ (YAM (show t.length-1<t.length by omega)))).2.1;omega
def IL{X:Fs} (h:XQ X=true):1≤X.length∧X.length≤24∧(∀t∈X,Xa t=true)∧∃x,Zw X UK=some x∧x.kind=1:=by
 unfold XQ at h;simp only[YAl,Qg,YAA]at h;obtain⟨⟨⟨h1,h2⟩,h3⟩,h4⟩:=h;refine⟨h1,h2,h3,?_⟩
 cases hf:Zw X UK with
 | none=>rw[hf]at h4;simp at h4
 | some x=>rw[hf]at h4;exact⟨x,rfl,by simpa using h4⟩
def ZDp.s{t0:Jn}{ss:List Jn}{vv:List (List VN)}{X:Fs}{h:Ja}{K:Bool→Hp} (w:ML h t0 ss vv X) (hl:∀t∈X,t.length≤9223372036854775807) (hK:∀h',Jc [] h h'→K (XQ X) h'):ZDp.C (t0,()) h K:=by
 apply ZDp.c;unfold ZDp.m;refine Ji fun b h1 hb k1 e1 hs1 =>?_;have e1:h1[b]? = some (Jg XJ Ug (t0,())):=e1;have tl:=w.t.len;have rl:=w.r.len;have nl:=w.n.len;have s0:∀ {h'},Jc [] h1 h'→sm .sl ((Pl.mk b 0).fld 0) t0 h':=fun k=>Jv (k.g e1) rfl (by decide);have hdef:XQ X=(decide (1≤X.length)&&decide (X.length≤24)&&X.all Xa&&(match Zw X UK with | some x=>decide (x.kind=1) | none=>false)):=rfl;by_cases hc:1≤X.length∧X.length≤24
 case neg=>
  have hf:XQ X=false:=by
   rw[hdef];by_cases c1:1≤X.length
   ·have c2:¬X.length≤24:=fun h=>hc ⟨c1,h⟩;simp[c2]
   ·simp[c1]
  refine JH (true,()) h1 ?_ ?_
  ·refine Jb (s0 Jc.rfl) ?_;by_cases c1:(t0.len:Int)<1
   ·rw[Jf (by simpa using c1)];exact⟨by first | rfl | trivial,by first | rfl | trivial⟩
   rw[Jd (by simpa using c1)];refine Jb (s0 Jc.rfl) ?_;exact⟨by simp;omega,by first | rfl | trivial⟩
  ·rw[Jf (by rfl),←hf];exact hK h1 k1
 refine JH (false,()) h1 ?_ ?_
 ·refine Jb (s0 Jc.rfl) ?_;rw[Jd (by simp;omega)];refine Jb (s0 Jc.rfl) ?_;exact⟨by simp;omega,by first | rfl | trivial⟩
 rw[Jd (by simp)];refine Jb (s0 Jc.rfl) ?_
 have bad:(∃t∈X,Xa t=false)→XQ X=false:=by
  rintro⟨t,ht,hf⟩;rw[hdef]
  have:X.all Xa=false:=by
   cases ha:X.all Xa with
   | false=>rfl
   | true=>rw[YAA]at ha;rw[ha t ht]at hf;simp at hf
  rw[this];simp
 refine JF (fun(y:Int×Unit) (h3:Ja)=>∃n:Nat,y.1=n∧n≤X.length∧Jc [] h1 h3∧∀j,(hj:j<X.length)→j<n→Xa X[j]=true) (fun(y:Int×Unit) _=>X.length-y.1.toNat) ?_ ?_
 ·exact⟨0,rfl,YAk _,Jc.rfl,fun j _ h=>by omega⟩
 ·rintro⟨(i:Int),_⟩ h3 ⟨n,e,hn,k3,hall⟩;dsimp only at e ⊢;subst e;have k03:Jc [] h h3:=k1.n k3;have w3:=w.keep k03;by_cases hlt:n<X.length
  ·rw[Jf (show decide ((n:Int)<(t0.len:Int))=true from dT (by omega))];have hns:n<ss.length:=by omega
   have hnv:n<vv.length:=by omega
   refine JK w3.t (x:=ss[n]) (by omega) (by simp[hns]) rfl ?_;have gs:=w3.r.getI hns hnv;have gn:=w3.n.getI hnv hlt;have hvl:=gn.len;have hsl:=gs.len;have hXl:=hl _ (YAM hlt);have hw:Jr ((n:Int)+1)=((n+1:Nat):Int):=w6 (by omega);refine dir_RisingN.s gs (by omega) fun h4 k4 =>?_;rw[Mp gn];have k04:=k03.n k4
   cases hr:ZP X[n] with
   | false =>
     rw[Jf (by rfl),←bad ⟨X[n],YAM hlt,by unfold Xa;rw[hr];rfl⟩];exact hK h4 k04
   | true =>
     rw[Jd (by simp)];refine JF (fun(y:Int×Unit) (h5:Ja)=>∃q:Nat,y.1=q∧q≤X[n].length∧Jc [] h4 h5∧∀j,(hj:j<X[n].length)→j<q→XF X[n][j]=true) (fun(y:Int×Unit) _=>X[n].length-y.1.toNat) ?_ ?_
     ·exact⟨0,rfl,YAk _,Jc.rfl,fun j _ h=>by omega⟩
     ·rintro⟨(i:Int),_⟩ h5 ⟨q,e,hq,k5,hall5⟩;dsimp only at e ⊢;subst e;have k05:=k04.n k5;by_cases hlq:q<X[n].length
      ·rw[Jf (show decide ((q:Int)<(ss[n].len:Int))=true from dT (by omega))];have hqv:q<vv[n].length:=by omega
       obtain⟨l,hl1,hx1⟩:=Wx ((gs.keep (by decide) k4).keep (by decide) k5) (i:=q) hqv;refine⟨l,hl1,by omega,by omega,?_⟩;rw[YAc];refine ZDe.s hx1 (((gn.getI hqv hlq).keep k4 (by simp)).keep k5 (by simp)) fun h6 k6 =>?_
       cases hm:XF X[n][q] with
       | false =>
         have:Xa X[n]=false:=by
          unfold Xa
          have:X[n].all XF=false:=by
           cases ha:X[n].all XF with
           | false=>rfl
           | true=>rw[YAA]at ha;rw[ha _ (YAM hlq)]at hm;simp at hm
          rw[this];simp
         rw[Jf (by rfl),←bad ⟨X[n],YAM hlt,this⟩];exact hK h6 (k05.n k6)
       | true =>
         rw[Jd (by simp)];have hwq:Jr ((q:Int)+1)=((q+1:Nat):Int):=w6 (by omega);rw[hwq];refine⟨⟨q+1,rfl,by omega,k5.n k6,fun j hj hjq =>?_⟩,by simp;omega⟩;by_cases hje:j=q
         ·subst hje;exact hm
         ·exact hall5 j hj (by omega)
      ·rw[Jd (show¬decide ((q:Int)<(ss[n].len:Int))=true by simp;omega)];rw[hw];refine⟨⟨n+1,rfl,by omega,(k3.n k4).n k5,fun j hj hjn =>?_⟩,by simp;omega⟩;by_cases hje:j=n
       ·subst hje;unfold Xa;rw[hr,YAm,YAA];intro x hx;obtain⟨p,hp,rfl⟩:=List.mem_iff_getElem.1 hx;exact hall5 p hp (by omega)
       ·exact hall j hj (by omega)
  ·rw[Jd (show¬decide ((n:Int)<(t0.len:Int))=true by simp;omega)]
   have hta:X.all Xa=true:=by
    rw[YAA];intro x hx;obtain⟨j,hj,rfl⟩:=List.mem_iff_getElem.1 hx;exact hall j hj (by omega)
   have hd2:XQ X=(match Zw X UK with | some x=>decide (x.kind=1) | none=>false):=by
    rw[hdef,hta];simp[hc.1,hc.2]
   refine ZDa.s fun h7 k7 =>?_;have k07:=k03.n k7
   have hris:∀t∈X,ZP t=true∧t.length≤2305843009213693952:=fun t ht=>by
    have:=VJ (List.all_eq_true.1 hta t ht);exact⟨this.1,by omega⟩
   refine ZDY.s (w.keep k07) (s0 (k3.n k7)) hris (fun hnone h8 k8 =>?_) fun o i g1 g2 g3 g4 g5 lb hro hlb hat hsm hfi hnum h8 k8 =>?_
   ·refine JH (false,()) h8 (by rw[Jd (by simp)];exact⟨by first | rfl | trivial,by first | rfl | trivial⟩) ?_;rw[hnone]at hd2;have hd3:XQ X=false:=hd2;have hK':=hK h8 (k07.n k8);rw[hd3]at hK';exact hK'
   ·rw[hfi]at hd2;refine JH (XQ X,()) h8 ?_ (hK h8 (k07.n k8));rw[Jf (by simp)];have f1:=(Rp (Zj hsm k8 (by simp))).2.1;rw[hat.k]at f1;refine Jp (Jb f1 ?_);exact⟨by rw[hd2],by first | rfl | trivial⟩
abbrev gk:Kd := .ag (.pr .s (.pr .b (.pr WN .un)))
def M4{v:WN.Ty}{z:YI}:Il (WN.cells v) 5 (HK.cells z)=WN.cells (v.1,(v.2.1,(v.2.2.1,(v.2.2.2.1,(v.2.2.2.2.1,(z,())))))):=by
 have e:WN.cells v=[.int .i64 v.1,.int .i64 v.2.1,.int .i64 v.2.2.1,.int .i64 v.2.2.2.1,.int .i64 v.2.2.2.2.1]++(HK.cells v.2.2.2.2.2.1++[]):=rfl;have e2:WN.cells (v.1,(v.2.1,(v.2.2.1,(v.2.2.2.1,(v.2.2.2.2.1,(z,()))))))=[.int .i64 v.1,.int .i64 v.2.1,.int .i64 v.2.2.1,.int .i64 v.2.2.2.1,.int .i64 v.2.2.2.2.1]++(HK.cells z++[]):=rfl;have l1:(HK.cells z).length=32:=Kd.cells_length _ _;have l2:(HK.cells v.2.2.2.2.2.1).length=32:=Kd.cells_length _ _;rw[e,e2];unfold Il;rw[l1,YAC,YAC,YAE (by rw[YAN,l2];simp),YAC,List.take_append_of_le_length (by simp),YAX (by simp)]
def jy{d:Ba}:Xp d∈Zz d:=by
 unfold Zz;rw[Yh]
 right;simp
def Tf{d:Ba} (hd:d.size≤4096):(Zz d).length≤73:=by
 have h1:=GH (d:=d);have h2:=GJ (d:=d);have h3:=QE (L:=([]:List Ba)) (xs:=Qn d++Xo d++[Xp d]);unfold Zz;simp only[YAN,YAO,YAR]at h3;omega
def Ur{x:Nd} (h:XF x=true):1≤(Qe x).length∧(Qe x).length≤73:=by
 unfold Qe;split
 ·simp
 ·have:=Tf (VY h).1;exact⟨List.length_pos_of_mem jy,this⟩
def ZAu.s{yl:Value}{c0:Nat}{sl:Jn}{vs:List VN}{t:IX}{h:Ja}{K:Hp}{L0:List Ba}{W0:List Nat} (I:List Ba→List Gq→List Nat→Hp) (ht:∀x∈t,XF x=true) (hl:t.length≤32) (hL:L0.length≤80000)
 (h0:∀ {L ns W h},I L ns W h→h[c0]? = some (Jg UE .sl sl)∧Q5 M7 sl vs h∧Qq (GL h) vs t∧∀q∈W,q<h.size)
 (hst:∀ {L ns W h h'},I L ns W h→Jc [] h h'→I L ns W h')
 (hy:∀ {L ns W h} {o:Ba} {b:Bool} {x:Gq} {K:Bool→Hp},I L ns W h→L.length≤90000→ns.length≤32→(∀h' W',I (Xt L o) (if b=true then ns++[x] else ns) W' h'→Jc W h h'→(∀q∈W',q∈W∨h.size≤q)→K true h')→QH pG yl [gk.val (o,(b,(Z1 x,())))] .b h K)
 (hI:I L0 [] W0 h) (hK:∀h' W',I (JD L0 (t.flatMap Qe)) (t.map QX) W' h'→Jc W0 h h'→(∀q∈W',q∈W0∨h.size≤q)→K h'):ZAu.C yl ⟨c0,0⟩ h K:=by
 apply ZAu.c;unfold ZAu.m;refine Jb (Je (h0 hI).1) ?_;have gl0:=(h0 hI).2.1.len;have al0:=(h0 hI).2.2.1.len;refine JF (fun(y:Int×Unit) (h1:Ja)=>∃j W,y.1=((j:Nat):Int)∧j≤t.length∧I (JD L0 ((t.take j).flatMap Qe)) ((t.take j).map QX) W h1∧Jc W0 h h1∧∀q∈W,q∈W0∨h.size≤q) (fun(y:Int×Unit) _=>t.length-y.1.toNat) ?_ ?_
 ·exact⟨0,W0,rfl,YAk _,by simpa[Z6] using hI,Jc.rfl,fun q hq => .inl hq⟩
 ·rintro⟨(i:Int),_⟩ h1 ⟨j,W,e,hj,i1,k1,w1⟩;dsimp only at e ⊢;subst e;obtain⟨c1,g1,a1,lt1⟩:=h0 i1;by_cases hlt:j<t.length
  ·rw[Jf (show decide ((j:Int)<(sl.len:Int))=true from dT (by omega))];have hw:Jr ((j:Int)+1)=((j+1:Nat):Int):=w6 (by omega);rw[hw];have hvs:j<vs.length:=by omega
   have hx:=ht _ (YAM hlt);have av:=a1.getI hvs hlt;have htake:t.take (j+1)=t.take j++[t[j]]:=YAZ hlt
   have hflen:((t.take j).flatMap Qe).length≤73*j:=by
    have:∀(l:IX),(∀x∈l,XF x=true)→(l.flatMap Qe).length≤73*l.length:=by
     intro l
     induction l with
     | nil=>intro _;simp
     | cons a r ih =>
       intro h;have h1:=ih fun x hx=>h x (by simp[hx]);have h2:=(Ur (h a (by simp))).2;rw[YAG,YAN,YAO];omega
    have h1:=this (t.take j) (fun x hx=>ht x (YAY _ _ hx));rw[YAS]at h1;omega
   have hLl:=QE (L:=L0) (xs:=(t.take j).flatMap Qe);generalize hLe:JD L0 ((t.take j).flatMap Qe)=L at i1 hLl
   have hLn:JD L0 ((t.take (j+1)).flatMap Qe)=JD L (Qe t[j]):=by
    rw[htake,YAF,Q2,hLe];simp
   have hNn:(t.take (j+1)).map QX=(t.take j).map QX++[QX t[j]]:=by rw[htake,YAT];rfl
   have hNl:((t.take j).map QX).length≤j:=by simp;omega
   generalize hNe:(t.take j).map QX=N at i1 hNn hNl;rw[hLn.symm.trans hLn]at *;generalize hxe:t[j]=x at *;obtain⟨hz1,hz2,hz3⟩:=VY hx;have ho:=Ur hx;refine Qd (fun _ h2=>∃W',I (JD L (Qe x)) (N++[QX x]) W' h2∧Jc W h1 h2∧∀q∈W',q∈W∨h1.size≤q) ?_ ?_
   ·refine Jb (Je c1) ?_;refine Xx g1 (x:=vs[j]) (by omega) (by simp[hvs]) rfl fun l hsm =>?_;generalize vs[j]=v at *;obtain⟨f0,f1,f2,f3,f4,f5⟩:=Rp hsm;rw[av.n]at f0;rw[av.k]at f1;rw[av.m]at f2;rw[av.l]at f3;rw[av.d]at f4;refine Jp (Jb f0 (Jp (Jb f1 (Jp (Jb f2 (Jp (Jb f3 ?_)))))));refine Ji fun b1 h3 hb1 k3 e3 hs3 =>?_;refine⟨JN (by decide) f3 k3,JN (by decide) f2 k3,JN (by decide) f1 k3,JN (by decide) f0 k3,?_⟩;refine JL e3 fun h4 k4 e4 hs4 =>?_;have k14:Jc [] h1 h4:=k3.new k4 (by simp;omega);refine Jp (Jb (JN (by decide) f1 k14) ?_);refine Qd (fun y h5=>Jc [] h1 h5∧JR h5 Jt .s y.1 (Qe x)∧(∀q∈own y.1,h1.size≤q)∧h5[b1]? = some (Jg QD WN (Z1 (QX x)))) ?_ ?_
    ·by_cases hk:x.kind=1
     ·rw[Jf (by simpa using hk)];refine Jp (Jb (JN (by decide) f5 k14) ?_);refine ZEB.s (av.keep k14 (by simp)).e fun h6 k6 =>?_;rw[Jf hz3]
      have hdz:(bx (JW x.ents)).size≤65536:=by
       rw[Js];have h1:=Gv (U4 hz3).2.2;unfold JW;simp only[YAN,Jj];omega
      refine ZAQ.s (d:=bx (JW x.ents)) hdz fun h7 k7 =>?_;have k47:Jc [] h4 h7:=k6.n k7;refine Qm (k':=HK) (n:=5) (x':=_) (k47.g e4) (by decide) M4 ?_;have eb:=k47.g e4;refine QN fun b9 h9 hb9 k9 r9 hs9 =>?_;have k8:Jc [] h1 _:=(k14.n k47).new (Jo (h:=h7) (b:=b1) (o:=Jg QD WN (x.num,(x.kind,(x.mode,(x.links,(0,(Jy (bx (JW x.ents)),())))))))) (by simp;omega)
      have hd0:x.data=⟨#[]⟩:=by
       obtain⟨_,_,_,_,_,_,q1,_⟩:=PS hx;exact(q1 hk).1
      refine⟨k8.n k9,?_,?_,?_⟩
      ·unfold Qe;rw[Jf hk];exact r9
      ·intro q hq;have hq':q=b9:=by simpa[own] using hq
       rw[hq',hb9];exact k8.1
      ·refine k9.g ((Jw eb).trans ?_);unfold QX Z5 Z1;rw[Jf hk,hd0]
       rfl
     ·rw[Jd (by simpa using hk)];refine Jp (Jb (JN (by decide) f4 k14) ?_);refine Qm (k' := .i) (n:=4) (x':=(x.num,(x.kind,(x.mode,(x.links,((x.data.size:Int),(Vector.replicate 32 0,()))))))) e4 (by decide) rfl ?_;have e10:=Jw (o':=Jg QD WN (x.num,(x.kind,(x.mode,(x.links,((x.data.size:Int),(Vector.replicate 32 0,()))))))) e4;have k10:Jc [] h1 (h4.setIfInBounds b1 (Jg QD WN (x.num,(x.kind,(x.mode,(x.links,((x.data.size:Int),(Vector.replicate 32 0,())))))))):=k14.new Jo (by simp;omega);generalize h4.setIfInBounds b1 (Jg QD WN (x.num,(x.kind,(x.mode,(x.links,((x.data.size:Int),(Vector.replicate 32 0,())))))))=h10 at e10 k10 ⊢;refine Jp (Jb (JN (by decide) f4 k10) ?_);refine ZDF.s hz1 fun o h11 k11 r11 o11 =>?_;have e11:=k11.g e10;refine Qm (k':=HK) (n:=5) (x':=_) e11 (by decide) M4 ?_;refine⟨(k10.n k11).new Jo (by simp;omega),?_,?_,?_⟩
      ·unfold Qe;rw[Jd hk];exact r11.keep Jo (fun q hq hm=>by simp at hm;subst hm;have:=o11 _ hq;have:=Jl e10;omega)
      ·intro q hq;have:=o11 q hq;have:=k10.1;omega
      ·refine(Jw e11).trans ?_;unfold QX Z5 Z1;rw[Jd hk]
    ·rintro⟨(o:Jn),_⟩ h5 ⟨k5,r5,o5,e5⟩;dsimp only at r5 o5 ⊢;have i5:=hst i1 k5;have rl:=r5.len;have nW:∀q∈own o,q∉W:=fun q hq hm=>by have:=o5 q hq;have:=lt1 q hm;omega
     have nb1:b1∉W:=fun hm=>by have:=lt1 _ hm;omega
     refine JF (fun(y:Int×Unit) (h13:Ja)=>∃k W',y.1=((k:Nat):Int)∧k≤(Qe x).length∧I (JD L ((Qe x).take k)) (if k=(Qe x).length then N++[QX x] else N) W' h13∧Jc W h5 h13∧∀q∈W',q∈W∨h5.size≤q) (fun(y:Int×Unit) _=>(Qe x).length-y.1.toNat) ?_ ?_
     ·exact⟨0,W,rfl,YAk _,by rw[Jd (by omega),YAa,Z6];exact i5,Jc.rfl,fun q hq => .inl hq⟩
     ·rintro⟨(p:Int),_⟩ h13 ⟨k,W',e,hk,i13,k13,w13⟩;dsimp only at e ⊢;subst e;have hLk:=QE (L:=L) (xs:=(Qe x).take k);rw[YAS]at hLk;by_cases hlk:k<(Qe x).length
      ·rw[Jf (show decide ((k:Int)<(o.len:Int))=true from dT (by omega))];have hwk:Jr ((k:Int)+1)=((k+1:Nat):Int):=w6 (by omega);have hwl:Jr ((o.len:Int)-1)=(((Qe x).length-1:Nat):Int):=w6 (by omega);rw[hwk,hwl];refine Ix (r5.keep k13 nW) (x:=(Qe x)[k]) (by omega) (by simp[hlk]) rfl ?_;refine Jb (Je (k13.get e5 nb1)) ?_;rw[Jd (by omega)]at i13;refine hy i13 (by omega) (by omega) fun h14 W2 i14 k14 w14 =>?_;rw[Jd (by simp)];refine⟨⟨k+1,W2,rfl,by omega,?_,k13.then k14 (fun q hq _=>hq) (fun q hq hl=>by rcases w13 q hq with h | h;exact h;omega),fun q hq =>?_⟩,by simp;omega⟩
       ·rw[Uu hlk];by_cases hlast:k+1=(Qe x).length
        ·rw[Jf hlast];rw[Jf (show decide ((k:Int)=(((Qe x).length-1:Nat):Int))=true from dT (by omega))]at i14;exact i14
        ·rw[Jd hlast];rw[Jd (show¬decide ((k:Int)=(((Qe x).length-1:Nat):Int))=true from dn (by omega))]at i14;exact i14
       ·rcases w14 q hq with h | h
        ·exact w13 q h
        ·right;have:=k13.1;omega
      ·rw[Jd (show¬decide ((k:Int)<(o.len:Int))=true by simp;omega)];obtain rfl:k=(Qe x).length:=by omega
       rw[Jf rfl,YAX (YAf _)]at i13;refine⟨W',i13,k5.then k13 (by simp) (fun q hq _=>hq),fun q hq =>?_⟩;rcases w13 q hq with h | h
       ·exact .inl h
       ·right;have:=k5.1;omega
   ·rintro _ h2 ⟨W',i2,k2,w2⟩;refine⟨⟨j+1,W',rfl,by omega,?_,k1.then k2 (fun q hq _=>hq) (fun q hq hl=>by rcases w1 q hq with h | h;exact h;omega),fun q hq =>?_⟩,by simp;omega⟩
    ·rw[hLn,hNn];exact i2
    ·rcases w2 q hq with h | h
     ·exact w1 q h
     ·right;have:=k1.1;omega
  ·rw[Jd (show¬decide ((j:Int)<(sl.len:Int))=true by simp;omega)];obtain rfl:j=t.length:=by omega
   rw[YAX (YAf _)]at i1;exact hK h1 W i1 k1 w1
def MT{a b:List UInt8}:bx a=bx b↔a=b:=
 ⟨fun h=>by have:=congrArg (fun x:Ba=>x.data.toList) h;simpa[bx] using this,fun h=>by rw[h]⟩
section
variable {h0 h:Ja}{w:Nat}{mv:XU.Ty}{t0:Jn}{ss:List Jn}{vv:List (List VN)}{a b:Jn}{W:Wk}
end
section
variable {h0 h:Ja}{w:Nat}{mv:XU.Ty}{t0:Jn}{ss:List Jn}{vv:List (List VN)}{a b:Jn}{W:Wk}
end
section
variable {h0 h:Ja}{w:Nat}{mv:XU.Ty}{t0:Jn}{ss:List Jn}{vv:List (List VN)}{a b:Jn}{W:Wk}
end
section
variable {h0 h:Ja}{w:Nat}{mv:XU.Ty}{t0:Jn}{ss:List Jn}{vv:List (List VN)}{a b:Jn}{W:Wk}
def Mo{xs:IX} (hr:ZP xs=true){i:Nat}:∀ {j:Nat},(hij:i<j)→(hj:j<xs.length)→(xs[i]'(by omega)).num<xs[j].num
 | j + 1, hij, hj => by
   have h1:=(W7 xs).1 hr j hj;by_cases h:i=j
   ·subst h;exact h1
   ·exact Int.lt_trans (Mo hr (by omega) (by omega)) h1
def map_set{t:IX} (hr:ZP t=true){j:Nat} (hj:j<t.length){x':Nd}:(t.map fun x=>if x.num=t[j].num then x' else x)=t.set j x':=by
 refine List.ext_getElem (by simp) fun n h1 h2 =>?_;rw[YAL,List.getElem_set];simp only[YAQ]at h1;by_cases h:j=n
 ·subst h;simp
 ·rw[Jd h,Jd];intro he;by_cases hlt:n<j
  ·have:=Mo hr hlt hj;omega
  ·have:=Mo hr (show j<n by omega) h1;omega
end
section
variable {h0 h:Ja}{w:Nat}{mv:XU.Ty}{t0:Jn}{ss:List Jn}{vv:List (List VN)}{a b:Jn}{W:Wk}
end
section
variable {h0 h:Ja}{w:Nat}{mv:XU.Ty}{t0:Jn}{ss:List Jn}{vv:List (List VN)}{a b:Jn}{W:Wk}
end
section
variable {h0 h:Ja}{w:Nat}{mv:XU.Ty}{t0:Jn}{ss:List Jn}{vv:List (List VN)}{a b:Jn}{W:Wk}
end
section
variable {h0 h:Ja}{w:Nat}{mv:XU.Ty}{t0:Jn}{ss:List Jn}{vv:List (List VN)}{a b:Jn}{W:Wk}
end
section
variable {h0 h:Ja}{w:Nat}{mv:XU.Ty}{t0:Jn}{ss:List Jn}{vv:List (List VN)}{a b:Jn}{W:Wk}
end
section
variable {h0 h:Ja}{w:Nat}{mv:XU.Ty}{t0:Jn}{ss:List Jn}{vv:List (List VN)}{a b:Jn}{W:Wk}
end
section
variable {h0 h:Ja}{w:Nat}{mv:XU.Ty}{t0:Jn}{ss:List Jn}{vv:List (List VN)}{a b:Jn}{W:Wk}
end
def wB(X:Fs):Prop:=X.length≤9223372036854775807∧∀t∈X,t.length≤9223372036854775807∧∀x∈t,x.ents.length≤9223372036854775807
end Go.Proofs.Tryz
