import Derived.Test.YtpfgaleonhihhaaGreatT4
import Derived.Test.YtpfgaleonhihhaaGreatT2
import Derived.Test.YtpfgaleonhihhaaGreatT3
set_option linter.defProp false
set_option linter.unusedVariables false
set_option linter.unusedSimpArgs false
set_option maxRecDepth 100000
open List renaming drop_eq_nil_of_le → YAA, drop_zero → YAB, getElem?_eq_getElem → YAC, getElem_mem → YAD, length_append → YAE, length_cons → YAF, length_drop → YAG, length_map → YAH, length_nil → YAI, length_replicate → YAJ, mem_append → YAK, mem_cons → YAL, not_mem_nil → YAM, take_of_length_le → YAN, take_succ_eq_append_getElem → YAO, take_zero → YAP
open Int renaming toNat_natCast → YAQ, toNat_of_nonneg → YAR
open Nat renaming le_refl → YAS, le_trans → YAT, sub_self → YAU, zero_le → YAV
open Bool renaming and_eq_true → YAW, true_and → YAX
namespace Go.Proofs.Tryz
open Go Go.Al
def ZCZ.s{v:Yf.Ty}{k:DJ}{h:Ja}{K:Bool→Hp} (a:IU h v k) (hl:k.pubs.length≤9223372036854775806) (hgl:k.m.groups.length≤9223372036854775807) (hK:∀h',Jc [] h h'→K (Ya k) h'):ZCZ.C v h K:=by
 apply ZCZ.c;unfold ZCZ.m;refine Ji fun b1 h1 hb1 k1 e1 hs1 =>?_;have e1:h1[b1]? = some (Jg JP Yf v):=e1;have gl:=a.p.len;rw[YAH]at gl;refine Qd (fun y h'=>Jc [] h1 h'∧y=(!(QU k.m&&decide ((k.pubs.length:Int)=k.m.users)),())) ?_ ?_
 ·refine Jb (U8 e1).1 ?_;refine ZAk.s (a.keep k1).m hgl fun h2 k2 =>?_
  cases hm:QU k.m with
  | false=>rw[Jf (by rfl)];exact⟨k2,by simp⟩
  | true =>
    rw[Jd (by simp)];refine Jb (U8 (k2.g e1)).2.1 (Jb (U8 (k2.g e1)).2.2 ⟨k2,?_⟩);rw[gl,a.m.u,YAX]
 rintro _ h2 ⟨k2,rfl⟩;dsimp only;have k02:Jc [] h h2:=k1.n k2
 cases hc:(QU k.m&&decide ((k.pubs.length:Int)=k.m.users)) with
 | false =>
   rw[Jf (by rfl)];have:=hK h2 k02;have hf:Ya k=false:=by unfold Ya;rw[←Bool.and_assoc,hc];rfl
   rw[hf]at this;exact this
 | true =>
   rw[Jd (by simp)];have hfk:Ya k=k.pubs.all fun s=>decide (s.length=60):=by unfold Ya;rw[←Bool.and_assoc,hc];rfl
   rw[hfk]at hK;refine JF (fun(y:Int×Unit) (h4:Ja)=>∃n:Nat,y.1=n∧n≤k.pubs.length∧h4=h2∧((k.pubs.take n).all fun s=>decide (s.length=60))=true) (fun(y:Int×Unit) _=>k.pubs.length-y.1.toNat) ?_ ?_
   ·exact⟨0,rfl,YAV _,rfl,by simp⟩
   rintro⟨(jj:Int),_⟩ h4 ⟨n,e,hn,rfl,hall⟩;dsimp only at e ⊢;subst e;refine Jb (U8 (k2.g e1)).2.1 ?_;by_cases hlt:n<k.pubs.length
   ·rw[Jf (show decide ((n:Int)<(v.2.1.len:Int))=true from dT (by omega))];refine Jb (U8 (k2.g e1)).2.1 ?_;have hidx:(k.pubs.map bx)[((n:Nat):Int).toNat]? = some (bx k.pubs[n]):=by rw[YAQ,List.getElem?_map,YAC hlt];rfl
    refine JK (a.keep k02).p (x:=bx k.pubs[n]) (by omega) hidx rfl ?_;have hte:k.pubs.take (n+1)=k.pubs.take n++[k.pubs[n]]:=YAO hlt;by_cases hx:k.pubs[n].length=60
    ·rw[Jd (by rw[Js];simp;omega)];have hw:Jr ((n:Int)+1)=((n+1:Nat):Int):=w6 (by omega);rw[hw];exact⟨⟨n+1,rfl,by omega,rfl,by rw[hte,List.all_append,hall];simp[hx]⟩,by simp;omega⟩
    ·rw[Jf (by rw[Js];simp;omega)];have:=hK h4 k02
     have hf:(k.pubs.all fun s=>decide (s.length=60))=false:=by
      rw[List.all_eq_false];exact⟨_,YAD hlt,by simpa using hx⟩
     rw[hf]at this;exact this
   ·rw[Jd (show¬decide ((n:Int)<(v.2.1.len:Int))=true from dn (by omega))];obtain rfl:n=k.pubs.length:=by omega
    rw[List.take_length]at hall;rw[hall]at hK;exact hK h4 k02
def Ec{m:Mb} (hm:QU m=true):1≤Qx m∧Qx m≤24∧m.groups.length≤8:=by
 unfold QU at hm;simp only[YAW,Qg]at hm;have:=hm.1.1.1;have:=hm.1.1.2;have:=hm.1.2;unfold Qx;omega
def SH{m:Mb} (hm:QU m=true):wB (X9 m):=by
 obtain⟨p1,p24,g8⟩:=Ec hm;unfold X9;refine⟨by simp only[YAF,YAJ];omega,fun t ht =>?_⟩;rcases List.mem_cons.1 ht with e | e
 ·subst e;exact⟨by simp,fun x hx=>by simp at hx;subst hx;simp⟩
 ·rw[List.eq_of_mem_replicate e];exact⟨by simp,by simp⟩
def ZDO.s{v:XU.Ty}{m:Mb}{h:Ja}{K:Jn→Jn→Hp} (a:UN h v m) (hm:QU m=true) (hK:∀h' o1 o2,Jc [] h h'→JR h' Jh HK o1 (QC (X9 m))→JR h' Jt .s o2 (Y6 (X9 m))→K o1 o2 h'):ZDO.C v h K:=by
 obtain⟨p1,p24,g8⟩:=Ec hm;apply ZDO.c;unfold ZDO.m;refine Ji fun b1 h1 hb1 k1 e1 hs1 =>?_;have e1:h1[b1]? = some (Jg JT XU v):=e1;refine Jb (Je e1) ?_;refine ZDK.s (a.keepU k1) (by omega) (fun hn=>by rw[hm]at hn;simp at hn) fun _ h2 t0 ss vv k2 w =>?_;refine Jq fun b2 h3 hb2 k3 e3 hs3 =>?_;refine Jb (Je e3) ?_;refine ZDN.s (w.keep k3) (SH hm) (fun hn=>by rw[Um p1 p24]at hn;simp at hn) fun _ h4 o1 o2 k4 r1 r2 =>?_;exact hK h4 o1 o2 (((k1.n k2).n k3).n k4) r1 r2
abbrev RcK:Kd := .ag (.pr Yf (.pr .sl (.pr .sl (.pr .sl .un))))
structure Sh (n1:Nat) (h:Ja) (c:Nat) (kv:Yf.Ty) (fs es ls:Jn) (J0:List JO.Ty) (C:Cn):Prop where
 e:h[c]? = some (Jg Wq RcK ((kv,(fs,(es,(ls,())))):RcK.Ty))
 lc:n1≤c
 f:JR h Jh (.ar 32 .u8) fs C.begin
 a:JR h Jk JO es J0
 oa:∀q∈own es,n1≤q
 x:Qq (fun v e=>VM h v e∧∀q∈Uc v,n1≤q) J0 C.all
 l:JR h Jt .s ls ((C.all.map putE).map bx)
 ol:∀q∈own ls,n1≤q
def VF{h:Ja}{b:Nat}{kv:Yf.Ty}{fs es ls:Jn} (e:h[b]? = some (Jg Wq RcK ((kv,(fs,(es,(ls,())))):RcK.Ty))):sm Yf ((Pl.mk b 0).fld 0) kv h∧sm .sl ((Pl.mk b 0).fld 3) fs h∧sm .sl ((Pl.mk b 0).fld 4) es h∧sm .sl ((Pl.mk b 0).fld 5) ls h∧sm XU (((Pl.mk b 0).fld 0).fld 0) kv.1 h∧sm .sl (((Pl.mk b 0).fld 0).fld 2) kv.2.1 h∧sm .i ((((Pl.mk b 0).fld 0).fld 0).fld 0) kv.1.1 h:=by
 have f0:sm Yf ((Pl.mk b 0).fld 0) kv h:=JV (Je e) (by decide) rfl;refine⟨f0,Jv (n:=3) (k' := .sl) e rfl (by decide),Jv (n:=4) (k' := .sl) e rfl (by decide),Jv (n:=5) (k' := .sl) e rfl (by decide),?_,?_,?_⟩
 ·exact JV f0 (by decide) rfl
 ·exact JV f0 (by decide) rfl
 ·exact JV (JV f0 (k':=XU) (n:=0) (y:=kv.1) (by decide) rfl) (by decide) rfl
def ZBz.s{v:Yf.Ty}{k:DJ}{h:Ja}{K:Option Pl→Int→Hp} (a:IU h v k) (hl:k.pubs.length≤9223372036854775806) (hgl:k.m.groups.length≤9223372036854775807)
 (hbad:Ya k=false→∀h',Jc [] h h'→K none 2000 h')
 (hok:Ya k=true→∀h' c fs,Jc [] h h'→Sh h.size h' c v fs ⟨none,0,0⟩ ⟨none,0,0⟩ [] (Us k)→K (some ⟨c,0⟩) 0 h'):ZBz.C v h K:=by
 apply ZBz.c;unfold ZBz.m;refine Ji fun b1 h1 hb1 k1 e1 hs1 =>?_;have e1:h1[b1]? = some (Jg JP Yf v):=e1;refine Jb (Je e1) ?_;refine ZCZ.s (a.keep k1) hl hgl fun h2 k2 =>?_;have k02:Jc [] h h2:=k1.n k2
 cases hm:Ya k with
 | false=>rw[Jf (by rfl)];exact hbad hm h2 k02
 | true =>
   rw[Jd (by simp)];obtain⟨m1,m2,m3,m4,m5,m6⟩:=D2 hm;have e2:=k2.g e1;refine Jb (U8 e2).1 ?_;refine ZDO.s (a.keep k02).m m1 fun h3 o1 o2 k3 r1 r2 =>?_;refine Jb (Je (k3.g e2)) ?_;refine Ji fun c h4 hc k4 e4 hs4 =>?_;have z:=(k02.n k3).1;exact hok hm h4 c o1 ((k02.n k3).n k4) ⟨e4,by omega,r1.keep k4 (by simp),.inl ⟨rfl,rfl⟩,by simp[own],trivial,.inl ⟨rfl,rfl⟩,by simp[own]⟩
section
variable {n1 c:Nat}{h:Ja}{kv:Yf.Ty}{fs es ls:Jn}{J0:List JO.Ty}{C:Cn}
def ref18_Tables.s{K:Jn→Hp} (i:Sh n1 h c kv fs es ls J0 C) (hK:∀s,Q5 (.ar 32 .u8) s (Qi C) h→(∃L,JR h Jh (.ar 32 .u8) s L∧L=Qi C)→K s h) (hn:C.all.length≤256):ZBs.C (some ⟨c,0⟩) h K:=by
 apply ZBs.c;unfold ZBs.m;have al:es.len=C.all.length:=by rw[i.a.len,i.x.len]
 obtain⟨f0,f3,f4,f5,_⟩:=VF i.e;refine Jp (Jb f4 ?_);unfold Qi at hK;by_cases h0:C.all.length=0
 ·rw[Jf (show decide ((es.len:Int)=0)=true from dT (by omega))];have hnil:C.all=[]:=List.length_eq_zero_iff.1 h0;rw[hnil]at hK;refine Jp (Jb f3 ?_);exact hK fs i.f.seg ⟨_,i.f,rfl⟩
 ·rw[Jd (show¬decide ((es.len:Int)=0)=true from dn (by omega))];refine Jp (Jb f4 (Jp (Jb f4 ?_)));have hw:Jr ((es.len:Int)-1)=((C.all.length-1:Nat):Int):=w6 (by omega);rw[hw];have el:=i.x.len;have hx:=i.x.getI (i:=C.all.length-1) (by omega) (by omega)
  have hg:C.all.getLast? = some (C.all[C.all.length-1]'(by omega)):=by
   rw[List.getLast?_eq_getElem?,YAC (by omega)]
  rw[hg]at hK;refine Xx i.a.seg (x:=J0[C.all.length-1]'(by omega)) (by omega) (by rw[YAQ];exact YAC (by omega)) rfl fun l hl =>?_;generalize J0[C.all.length-1]'(by omega)=v at *;generalize C.all[C.all.length-1]'(by omega)=e at *;have l3:((Kd.ar 32 .u8).cells v.2.2.2.1).length=32:=Kd.cells_length ..
  have c35:(JO.cells v).drop 35=Kd.sl.cells v.2.2.2.2.1++(Kd.s.cells v.2.2.2.2.2.1++[]):=by
   have c3:(JO.cells v).drop 3=(Kd.ar 32 .u8).cells v.2.2.2.1++(Kd.sl.cells v.2.2.2.2.1++(Kd.s.cells v.2.2.2.2.2.1++[])):=rfl;have:(JO.cells v).drop 35=((JO.cells v).drop 3).drop 32:=by rw[List.drop_drop]
   rw[this,c3,List.drop_left' l3]
  have f35:sm .sl (l.fld 35) v.2.2.2.2.1 h:=JV hl (by decide) (by rw[c35];rfl);refine Jb f35 ?_;exact hK _ hx.1.t.seg ⟨_,hx.1.t,rfl⟩
end
def xQ{v v':JO.Ty}{kv kv':YF.Ty}{c:Int}{l:Pl}{b:Nat}{h:Ja}{J:Pl→Pl→Int→Hp} (eb:sm JO (Pl.mk b 0) v h) (gl:sm YF l kv h)
 (hS:∀h1 (K':JO.Ty→YF.Ty→Int→Hp),Jc [] h h1→(∀h',Jc [] h1 h'→K' v' kv' c h')→ZA4.C v kv h1 K')
 (hJ:∀p q h',h'[p]? = some (Jg Jk JO v')→h'[q]? = some (Jg JI YF kv')→Jc [] h h'→h.size≤p→h.size≤q→J (Pl.mk p 0) (Pl.mk q 0) c h') :
 (ZA4.C v kv h fun x27 x28 x29 h24=>
 (new Jk JO (0,(0,(⟨none,0,0⟩,((Vector.replicate 32 0),(⟨none,0,0⟩,(⟨#[]⟩,())))))) h24 fun b4 h25=>
 new JI YF (0,(0,(⟨#[]⟩,(⟨#[]⟩,(0,()))))) h25 fun b5 h26=>
 Go.Al.st JO (Pl.mk b4 0) x27 h26 fun h27=>
 Go.Al.st YF (Pl.mk b5 0) x28 h27 fun h28=>
 J (Pl.mk b4 0) (Pl.mk b5 0) x29 h28) ∧
 new JI YF (0,(0,(⟨#[]⟩,(⟨#[]⟩,(0,()))))) h24 fun b6 h29=>
 new Jk JO (0,(0,(⟨none,0,0⟩,((Vector.replicate 32 0),(⟨none,0,0⟩,(⟨#[]⟩,())))))) h29 fun b7 h30=>
 Go.Al.st JO (Pl.mk b7 0) x27 h30 fun h31=>
 Go.Al.st YF (Pl.mk b6 0) x28 h31 fun h32=>
 J (Pl.mk b7 0) (Pl.mk b6 0) x29 h32) ∧
 (new Jk JO (0,(0,(⟨none,0,0⟩,((Vector.replicate 32 0),(⟨none,0,0⟩,(⟨#[]⟩,())))))) h fun b8 h33=>
 sm YF l kv h33∧sm JO (Pl.mk b 0) v h33 ∧
 (ZA4.C v kv h33 fun x30 x31 x32 h34=>
 new JI YF (0,(0,(⟨#[]⟩,(⟨#[]⟩,(0,()))))) h34 fun b9 h35=>
 Go.Al.st JO (Pl.mk b8 0) x30 h35 fun h36=>
 Go.Al.st YF (Pl.mk b9 0) x31 h36 fun h37=>
 J (Pl.mk b8 0) (Pl.mk b9 0) x32 h37) ∧
 new JI YF (0,(0,(⟨#[]⟩,(⟨#[]⟩,(0,()))))) h33 fun b10 h38=>
 sm YF l kv h38∧sm JO (Pl.mk b 0) v h38 ∧
 ZA4.C v kv h38 fun x33 x34 x35 h39=>
 Go.Al.st JO (Pl.mk b8 0) x33 h39 fun h40=>
 Go.Al.st YF (Pl.mk b10 0) x34 h40 fun h41=>
 J (Pl.mk b8 0) (Pl.mk b10 0) x35 h41) ∧
 new JI YF (0,(0,(⟨#[]⟩,(⟨#[]⟩,(0,()))))) h fun b11 h42=>
 sm YF l kv h42∧sm JO (Pl.mk b 0) v h42 ∧
 (ZA4.C v kv h42 fun x36 x37 x38 h43=>
 new Jk JO (0,(0,(⟨none,0,0⟩,((Vector.replicate 32 0),(⟨none,0,0⟩,(⟨#[]⟩,())))))) h43 fun b12 h44=>
 Go.Al.st JO (Pl.mk b12 0) x36 h44 fun h45=>
 Go.Al.st YF (Pl.mk b11 0) x37 h45 fun h46=>
 J (Pl.mk b12 0) (Pl.mk b11 0) x38 h46) ∧
 new Jk JO (0,(0,(⟨none,0,0⟩,((Vector.replicate 32 0),(⟨none,0,0⟩,(⟨#[]⟩,())))))) h42 fun b13 h47=>
 sm YF l kv h47∧sm JO (Pl.mk b 0) v h47 ∧
 ZA4.C v kv h47 fun x39 x40 x41 h48=>
 Go.Al.st JO (Pl.mk b13 0) x39 h48 fun h49=>
 Go.Al.st YF (Pl.mk b11 0) x40 h49 fun h50=>
 J (Pl.mk b13 0) (Pl.mk b11 0) x41 h50:=by
 have fin:∀ {h1:Ja} {p q:Nat} {x:JO.Ty} {y:YF.Ty},Jc [] h h1→h1[p]? = some (Jg Jk JO x)→h1[q]? = some (Jg JI YF y)→p≠q→h.size≤p→h.size≤q →
  Go.Al.st JO (Pl.mk p 0) v' h1 fun h2=>Go.Al.st YF (Pl.mk q 0) kv' h2 fun h3=>J (Pl.mk p 0) (Pl.mk q 0) c h3:=by
  intro h1 p q x y k ep eq ne lp lq;refine JL ep fun h2 k2 e2 hs2 =>?_;refine JL (k2.get eq (by simp;omega)) fun h3 k3 e3 hs3 =>?_;exact hJ p q h3 (k3.get e2 (by simp;omega)) e3 ((k.new k2 (by simp;omega)).new k3 (by simp;omega)) lp lq
 refine⟨?_,?_,?_⟩
 ·refine hS h _ Jc.rfl fun h24 k24=>⟨?_,?_⟩
  ·refine Ji fun b4 h25 hb4 k25 e4 hs4 =>?_;refine Ji fun b5 h26 hb5 k26 e5 hs5 =>?_;have:=k24.1;have:=k25.1;exact fin ((k24.n k25).n k26) (k26.g e4) e5 (by omega) (by omega) (by omega)
  ·refine Ji fun b4 h25 hb4 k25 e4 hs4 =>?_;refine Ji fun b5 h26 hb5 k26 e5 hs5 =>?_;have:=k24.1;have:=k25.1;exact fin ((k24.n k25).n k26) e5 (k26.g e4) (by omega) (by omega) (by omega)
 ·refine Ji fun b8 h33 hb8 k33 e8 hs8=>⟨JN (by decide) gl k33,JN (by decide) eb k33,?_,?_⟩
  ·refine hS h33 _ k33 fun h34 k34 =>?_;refine Ji fun b9 h35 hb9 k35 e9 hs9 =>?_;have:=k33.1;have:=k34.1;have lb:=Jl e8;exact fin ((k33.n k34).n k35) ((k34.n k35).g e8) e9 (by omega) (by omega) (by omega)
  ·refine Ji fun b10 h38 hb10 k38 e10 hs10=>⟨JN (by decide) gl (k33.n k38),JN (by decide) eb (k33.n k38),?_⟩;refine hS h38 _ (k33.n k38) fun h39 k39 =>?_;have:=k33.1;have:=k38.1;have lb:=Jl e8;exact fin ((k33.n k38).n k39) ((k38.n k39).g e8) (k39.g e10) (by omega) (by omega) (by omega)
 ·refine Ji fun b11 h42 hb11 k42 e11 hs11=>⟨JN (by decide) gl k42,JN (by decide) eb k42,?_,?_⟩
  ·refine hS h42 _ k42 fun h43 k43 =>?_;refine Ji fun b12 h44 hb12 k44 e12 hs12 =>?_;have:=k42.1;have:=k43.1;have lb:=Jl e11;exact fin ((k42.n k43).n k44) e12 ((k43.n k44).g e11) (by omega) (by omega) (by omega)
  ·refine Ji fun b13 h47 hb13 k47 e13 hs13=>⟨JN (by decide) gl (k42.n k47),JN (by decide) eb (k42.n k47),?_⟩;refine hS h47 _ (k42.n k47) fun h48 k48 =>?_;have:=k42.1;have:=k47.1;have lb:=Jl e11;exact fin ((k42.n k47).n k48) (k48.g e13) ((k47.n k48).g e11) (by omega) (by omega) (by omega)
def VM.sgn{h:Ja}{v:JO.Ty}{e:X6}{s:By} (a:VM h v e):VM h (GO v s) { e with sign:=s }:=⟨a.u,a.q,a.w,a.r,a.t,Eq.refl _⟩
def Tc{C:Cn}{u:Int}:Wz C (Xi C u (Qi C))=true:=by
 unfold Wz Xi;rw[List.all_eq_true];intro p hp;simp
def UH.last{a b:Sd}{C:Cn} (c:UH a b C) (o:ZA C):(Qi C).length=3:=by
 obtain⟨v1,v2,v3⟩:=o.v;rw[c.m]at v3;have:Qx Rk=3:=by decide
 omega
def ZDs.s{l:By}{h:Ja}{K:Qh→Hp} (hl:l.length≤500000) (hK:∀h',Jc [] h h'→K (RQ l) h'):ZDs.C (bx l) h K:=by
 apply ZDs.c;unfold ZDs.m;refine Ji fun b1 h1 hb1 k1 e1 hs1 =>?_;have e1:h1[b1]? = some (Jg Jh (.ar 32 .u8) (Vector.replicate 32 (0:UInt8))):=e1;show JS (bx [0]) (bx l) _;refine JM (by simp;omega) ?_;refine ZBS.s (l:=[0]++l) (by simp;omega) fun h2 k2 =>?_;unfold RQ at hK;have e0:([0]:By)++l=0::l:=rfl;rw[e0];generalize Yt (0::l)=v at *;refine JL (k2.g e1) fun h3 k3 e3 hs3=>Jb (Je e3) ?_;have:=k1.1;exact hK h3 ((k1.n k2).new k3 (by simp;omega))
def ZDr.s{a b:Qh}{h:Ja}{K:Qh→Hp} (hK:∀h',Jc [] h h'→K (VW a b) h'):ZDr.C a b h K:=by
 apply ZDr.c;unfold ZDr.m;refine Ji fun b1 h1 hb1 k1 e1 hs1 =>?_;have e1:h1[b1]? = some (Jg Jh (.ar 32 .u8) a):=e1;refine Ji fun b2 h2 hb2 k2 e2 hs2 =>?_;have e2:h2[b2]? = some (Jg Jh (.ar 32 .u8) b):=e2;refine Ji fun b3 h3 hb3 k3 e3 hs3 =>?_;have e3:h3[b3]? = some (Jg Jh (.ar 32 .u8) (Vector.replicate 32 (0:UInt8))):=e3;have e23:=k3.g e2;refine Jb (Je ((k2.n k3).g e1)) (Jb (Je e23) ?_);refine ZAZ.s fun h4 k4=>⟨JN (by decide) (Je e23) k4,?_⟩;have la:(Vector.toList a).length=32:=by simp
 have lb:(Vector.toList b).length=32:=by simp
 show JS (bx [1]) _ _;refine JM (by rw[la];decide) ?_;refine ZAZ.s fun h5 k5 =>?_;refine JM (by rw[YAE,la,lb];decide) ?_;refine ZBS.s (l:=[1]++Vector.toList a++Vector.toList b) (by rw[YAE,YAE,la,lb];decide) fun h6 k6 =>?_;unfold VW at hK;have e0:([1]:By)++Vector.toList a++Vector.toList b=1::(Vector.toList a++Vector.toList b):=rfl;rw[e0];generalize Yt (1::(Vector.toList a++Vector.toList b))=v at *;have k36:=(k4.n k5).n k6;refine JL (k36.g e3) fun h7 k7 e7 hs7=>Jb (Je e7) ?_;have:=k1.1;have:=k2.1;exact hK h7 ((((k1.n k2).n k3).n k36).new k7 (by simp;omega))
def ZD2.s{n:Nat}{h:Ja}{K:Int→Hp} (h2:2≤n) (hn:n≤100000) (hK:K ((G1 n:Nat):Int) h):ZD2.C (n:Int) h K:=by
 apply ZD2.c;unfold ZD2.m;obtain⟨b,c1,c2⟩:=qc h2;rw[EO c1 c2]at hK;refine JF (fun(y:Int×Unit) (h1:Ja)=>∃j:Nat,y.1=((2^j:Nat):Int)∧j≤b∧h1=h) (fun(y:Int×Unit) _=>n-y.1.toNat) ?_ ?_
 ·exact⟨0,rfl,YAV _,rfl⟩
 rintro⟨(jj:Int),_⟩ h1 ⟨j,e,hj,rfl⟩;dsimp only at e ⊢;subst e;have hp:2^j≤2^b:=Nat.pow_le_pow_right (by decide) hj;have hp0:=Nat.two_pow_pos j;have hw:Jr (2*((2^j:Nat):Int))=((2*2^j:Nat):Int):=w6 (by omega);have h4:2*2^j=2^(j+1):=by rw[Nat.pow_succ,Nat.mul_comm]
 rw[hw];by_cases hlt:2*2^j<n
 ·rw[Jf (show decide (((2*2^j:Nat):Int)<(n:Int))=true from dT (by omega))];refine⟨⟨j+1,by rw[h4],?_,rfl⟩,?_⟩
  ·by_cases e:j=b
   ·subst e;rw[Nat.pow_succ]at c2;omega
   ·omega
  ·show n-((2*2^j:Nat):Int).toNat<n-((2^j:Nat):Int).toNat;rw[YAQ,YAQ];omega
 ·rw[Jd (show¬decide (((2*2^j:Nat):Int)<(n:Int))=true from dn (by omega))]
  have:j=b:=by
   by_cases e:j=b
   ·exact e
   ·have h3:2^(j+1)≤2^b:=Nat.pow_le_pow_right (by decide) (by omega);omega
  subst this;exact hK
def xO{k:Kd}{s:Jn}{xs:List k.Ty}{h:Ja}{n sz:Nat}{K:Jn→Prop} (r:Q5 k s xs h) (hc:s.len≤s.cap) (hn:n≤xs.length) (hK:∀s',Q5 k s' (xs.take n) h→s'.len≤s'.cap→K s'):R9 s 0 (n:Int) (s.cap:Int) sz K:=by
 have hl:=r.len
 have e:(if (s.cap:Int).toNat=(0:Int).toNat then s.a else s.a.map fun l=>⟨l.b,l.o+(0:Int).toNat*sz⟩)=s.a:=by
  split
  ·rfl
  ·cases s.a <;> simp
 refine⟨by omega,by omega,by omega,by omega,?_⟩;rw[e];refine hK _ ?_ ?_
 ·simp only[YAQ,Int.toNat_zero,Nat.sub_zero];exact R7 r hn
 ·simp only[YAQ,Int.toNat_zero,Nat.sub_zero];omega
def ZBK.t{ls:List By}{s:Jn}{h:Ja}{K:Qh→Hp} (ih:∀(ls':List By) (s':Jn) (h':Ja) (K':Qh→Hp),ls'.length<ls.length→Q5 .s s' (ls'.map bx) h'→s'.len≤s'.cap→(∀l∈ls',l.length≤500000)→(∀h'',Jc [] h' h''→K' (XD ls') h'')→ZBK.C s' h' K')
 (g:Q5 .s s (ls.map bx) h) (hc:s.len≤s.cap) (hl:∀l∈ls,l.length≤500000) (hn:ls.length≤1000) (hK:∀h',Jc [] h h'→K (XD ls) h'):ZBK.C s h K:=by
 have gl:=g.len;rw[YAH]at gl;apply ZBK.c;unfold ZBK.m;refine Ji fun b1 h1 hb1 k1 e1 hs1 =>?_;have e1:h1[b1]? = some (Jg Jh (.ar 32 .u8) (Vector.replicate 32 (0:UInt8))):=e1;obtain⟨R,hR⟩:∃R,XD ls=R:=⟨_,rfl⟩;rw[hR]at hK
 have fin:∀ {v:Qh} {h2:Ja},Jc [] h1 h2→v=R→Go.Al.st (.ar 32 .u8) (Pl.mk b1 0) v h2 fun h3=>ld (.ar 32 .u8) (Pl.mk b1 0) h3 fun x2=>K x2 h3:=fun{v h2} k2 ev=>by
  rw[ev];refine JL (k2.g e1) fun h3 k3 e3 hs3=>Jb (Je e3) ?_;have:=k1.1;exact hK h3 ((k1.n k2).new k3 (by simp;omega))
 by_cases h0:ls.length=0
 ·rw[Jf (show decide ((s.len:Int)=0)=true from dT (by omega))];have hnil:ls=[]:=List.length_eq_zero_iff.1 h0;show ZBS.C (bx []) h1 _;refine ZBS.s (l:=[]) (by decide) fun h2 k2 =>?_;exact fin k2 (by rw[←hR,hnil];exact jp.symm)
 rw[Jd (show¬decide ((s.len:Int)=0)=true from dn (by omega))];by_cases h1':ls.length=1
 ·rw[Jf (show decide ((s.len:Int)=1)=true from dT (by omega))];obtain⟨x,hx⟩:=List.length_eq_one_iff.1 h1';refine JK (i:=0) (g.keep (by decide) k1) (x:=bx x) (by decide) (by rw[hx];rfl) rfl ?_;refine ZDs.s (hl x (by rw[hx];simp)) fun h4 k4 =>?_;exact fin k4 (by rw[←hR,hx];exact R4.symm)
 rw[Jd (show¬decide ((s.len:Int)=1)=true from dn (by omega))];have hcl:=EP (n:=ls.length) (by omega);have e0:=R3 (ls:=ls) (by omega);rw[gl];refine ZD2.s (by omega) (by omega) ?_;refine xO (g.keep (by decide) k1) hc (n:=G1 ls.length) (by rw[YAH];omega) fun s1 g1 c1 =>?_;rw[←gl];refine T3 (m:=G1 s.len) (g.keep (by decide) k1) rfl hc (by rw[YAH,gl];omega) fun s2 g2 c2 _ =>?_;rw[gl]at g2;rw[←List.map_take]at g1;rw[←List.map_drop]at g2;refine ih _ _ _ _ (by rw[List.length_take];omega) g1 c1 (fun l hm=>hl l (List.mem_of_mem_take hm)) fun h7 k7 =>?_;refine ih _ _ _ _ (by rw[YAG];omega) (g2.keep (by decide) k7) c2 (fun l hm=>hl l (List.mem_of_mem_drop hm)) fun h8 k8 =>?_;refine ZDr.s fun h9 k9 =>?_;exact fin ((k7.n k8).n k9) (by rw[←hR];exact e0.symm)
def ZBK.f:∀(f:Nat) (ls:List By) (s:Jn) (h:Ja) (K:Qh→Hp),ls.length≤f→f≤1000→Q5 .s s (ls.map bx) h→s.len≤s.cap→(∀l∈ls,l.length≤500000)→(∀h',Jc [] h h'→K (XD ls) h')→ZBK.C s h K:=by
 intro f
 induction f with
 | zero=>intro ls s h K hf _ g hc hl hK;exact ZBK.t (fun ls' s' h' K' hn=>by omega) g hc hl (by omega) hK
 | succ f ih=>intro ls s h K hf h1 g hc hl hK;exact ZBK.t (fun ls' s' h' K' hn g' hc' hl' hK'=>ih ls' s' h' K' (by omega) (by omega) g' hc' hl' hK') g hc hl (by omega) hK
def ZBK.s{ls:List By}{s:Jn}{h:Ja}{K:Qh→Hp} (g:Q5 .s s (ls.map bx) h) (hc:s.len≤s.cap) (hl:∀l∈ls,l.length≤500000) (hn:ls.length≤1000) (hK:∀h',Jc [] h h'→K (XD ls) h'):ZBK.C s h K:=
 ZBK.f ls.length ls s h K (YAS _) hn g hc hl hK
section
variable {n1 c:Nat}{h:Ja}{kv:Yf.Ty}{fs es ls:Jn}{J0:List JO.Ty}{C:Cn}
def Sh.keep0{h':Ja} (i:Sh n1 h c kv fs es ls J0 C) (k:Jc [] h h'):Sh n1 h' c kv fs es ls J0 C:=
 ⟨k.g i.e,i.lc,i.f.keep k (by simp),i.a.keep k (by simp),i.oa,Qq.mono (fun v e x=>⟨x.1.keep k (by simp),x.2⟩) i.x,i.l.keep k (by simp),i.ol⟩
def Cj{e:X6} (h:JJ e=true):(putE e).length≤20000:=by
 have hm:QG e=true:=by unfold JJ at h;simp only[YAW]at h;exact h.1
 have hs:e.sign.length≤8192:=by unfold JJ at h;simp only[YAW,Qg]at h;exact h.2
 obtain⟨u0,u1,q0,q1,vx,v1,v16,t1,t24⟩:=Tx hm;unfold putE YZ;simp only[YAE,Jj,VU,WX,YAF,YAI];have:(Vector.toList e.root).length=32:=by simp
 omega
def ref18_Root.s{K:Qh→Hp} (i:Sh n1 h c kv fs es ls J0 C) (o:ZA C) (hK:∀h',Jc [] h h'→K (XD (C.all.map putE)) h'):ZBU.C (some ⟨c,0⟩) h K:=by
 apply ZBU.c;unfold ZBU.m;have on:=o.n;refine Ji fun b1 h1 hb1 k1 e1 hs1 =>?_;have e1:h1[b1]? = some (Jg Jh (.ar 32 .u8) (Vector.replicate 32 (0:UInt8))):=e1;have i1:=i.keep0 k1;refine Jp (Jb (VF i1.e).2.2.2.1 ?_);refine ZBK.s i1.l.seg (by rw[i1.l.len];exact i1.l.cap) (fun l hl =>?_) (by rw[YAH];omega) fun h2 k2 =>?_
 ·obtain⟨e,he,rfl⟩:=List.mem_map.1 hl;have:=Cj (o.a e he).1;omega
 ·generalize XD (C.all.map putE)=v at *;refine JL (k2.g e1) fun h3 k3 e3 hs3=>Jb (Je e3) ?_;have:=k1.1;exact hK h3 ((k1.n k2).new k3 (by simp;omega))
def ref18_vec.s{u:Int}{K:Jn→Hp} (i:Sh n1 h c kv fs es ls J0 C) (ka:IU h kv ⟨C.m,C.pubs⟩) (o:ZA C) (hu:0≤u) (hu':u<C.m.users) (hK:∀h' s,Jc [] h h'→JR h' Qp .i s (Q6 C u)→(∀q∈own s,h.size≤q)→K s h'):ZCH.C (some ⟨c,0⟩) u h K:=by
 apply ZCH.c;unfold ZCH.m;obtain⟨u1,u2,u3⟩:=o.u;obtain⟨v1,v2,v3⟩:=o.v;have hmu0:kv.1.1=C.m.users:=ka.m.u;have hmu:kv.1.1=((C.m.users.toNat:Nat):Int):=hmu0.trans (YAR (Int.le_trans (by decide) u1)).symm;refine Jp (Jb (VF i.e).2.2.2.2.2.2 ?_);rw[hmu];refine Up (by omega) (by omega) fun b h1 hb k1 r1 hs1 =>?_;have i1:=i.keep0 k1;have el:es.len=C.all.length:=by rw[i.a.len,i.x.len]
 refine Jp (Jb (VF i1.e).2.2.1 ?_);refine Qd (fun _ h'=>Jc [b] h1 h'∧JR h' Qp .i ⟨some ⟨b,0⟩,C.m.users.toNat,C.m.users.toNat⟩ (Xm C)) ?_ ?_
 ·by_cases h0:C.all.length=0
  ·rw[Jd (show¬decide ((es.len:Int)>0)=true from dn (by omega))];refine⟨Jc.rfl,?_⟩;have hnil:C.all=[]:=List.length_eq_zero_iff.1 h0;unfold Xm;rw[hnil];exact r1
  ·rw[Jf (show decide ((es.len:Int)>0)=true from dT (by omega))];refine Jp (Jb (VF i1.e).2.2.1 (Jp (Jb (VF i1.e).2.2.1 ?_)));have on:=o.n;have hw:Jr ((es.len:Int)-1)=((C.all.length-1:Nat):Int):=w6 (by omega);rw[hw];have xl:=i1.x.len;have hx:=i1.x.getI (i:=C.all.length-1) (by omega) (by omega)
   have hg:C.all.getLast? = some (C.all[C.all.length-1]'(by omega)):=by
    rw[List.getLast?_eq_getElem?,YAC (by omega)]
   have hlv:Xm C=(C.all[C.all.length-1]'(by omega)).vec:=by unfold Xm;rw[hg]
   rw[hlv]at v1 ⊢;refine Xx i1.a.seg (x:=J0[C.all.length-1]'(by omega)) (by omega) (by rw[YAQ];exact YAC (by omega)) rfl fun l hl =>?_;generalize J0[C.all.length-1]'(by omega)=v at *;generalize C.all[C.all.length-1]'(by omega)=e at *;have f2:sm .sl (l.fld 2) v.2.2.1 h1:=JV hl (by decide) rfl;refine Jb f2 ?_;have wl:=hx.1.w.len;have hmin:min v.2.2.1.len C.m.users.toNat=e.vec.length:=by omega
   rw[hmin];refine QI (k := .i) (xs:=e.vec) (s:=v.2.2.1) hx.1.w.seg (by simp[Kd.size]) ?_;rcases r1 with⟨e0,_⟩ | ⟨b',zs,e0,e2,e3,e4⟩
   ·simp at e0
   ·have:b=b':=by simpa using e0
    subst this
    have hzs:zs=[]:=by
     simp at e3;exact e3
    subst hzs;rw[List.append_nil]at e4;refine qb (k := .i) (o:=0) (i:=0) (ys:=e.vec) e4 rfl (by simp) rfl (by rw[YAJ];omega) ⟨Jo,.inr ⟨b,[],rfl,by show C.m.users.toNat=e.vec.length;omega,by show C.m.users.toNat=e.vec.length+0;omega,?_⟩⟩;have hd:(List.replicate C.m.users.toNat Kd.i.zero).drop (0+e.vec.length)=[]:=YAA (by rw[YAJ];omega);rw[YAP,List.nil_append,hd,List.append_nil];exact Jw e4
 rintro _ h2 ⟨k2,r2⟩;have z1:=k1.1;have k02:Jc [] h h2:=k1.new k2 (by simp;omega);have hl:u.toNat<(Xm C).length:=by omega
 have hg:(Xm C)[u.toNat]? = some ((Xm C)[u.toNat]):=YAC hl;have hd:(Xm C).getD u.toNat 0=(Xm C)[u.toNat]:=by rw[List.getD_eq_getElem?_getD,hg];rfl
 unfold Q6 at hK;rw[hd]at hK;have hb:=v2 _ (YAD hl);refine Ix r2 hu hg rfl ?_;rw[JE (by omega) (by omega)];refine U7 r2 hu (by omega) rfl fun h3 k3 r3 =>?_;exact hK h3 _ (k02.new k3 (by simp[own];omega)) r3 (by simp[own];omega)
def ref18_Next.s{u:Int}{ts:Jn}{T:List Qh}{K:JO.Ty→Int→Hp} (i:Sh n1 h c kv fs es ls J0 C) (ka:IU h kv ⟨C.m,C.pubs⟩) (o:ZA C) (g:Q5 (.ar 32 .u8) ts T h) (hT:T.length*32≤140737488355328)
 (hbad:Gb C u T.length=false→∀h',Jc [] h h'→K Ik 2000 h')
 (hok:Gb C u T.length=true→∀v h',Jc [] h h'→VM h' v (Xi C u T)→(∀q∈Uc v,h.size≤q)→K v 0 h'):ZBt.C (some ⟨c,0⟩) u ts h K:=by
 apply ZBt.c;unfold ZBt.m;have on:=o.n;obtain⟨u1,u2,u3⟩:=o.u;have al:es.len=C.all.length:=by rw[i.a.len,i.x.len]
 have gl:=g.len;have hmu:kv.1.1=C.m.users:=ka.m.u;refine Ji fun b1 h1 hb1 k1 e1 hs1 =>?_;have e1:h1[b1]? = some (Jg Jk JO Ik):=e1;refine Qd (fun y h'=>Jc [] h1 h'∧y=(!Gb C u T.length,())) ?_ ?_
 ·unfold Gb;have i1:=i.keep0 k1;by_cases c0:u<0
  ·rw[Jf (dT c0),dF (show¬0≤u by omega)];exact⟨Jc.rfl,rfl⟩
  rw[Jd (by simpa using c0),dT (show 0≤u by omega),YAX];refine Jp (Jb (VF i1.e).2.2.2.2.2.2 ?_);rw[hmu];by_cases c1:u<C.m.users
  ·rw[Jd (show¬decide (u≥C.m.users)=true from dn (by omega)),dT c1,YAX];refine Jp (Jb (VF i1.e).2.2.2.2.1 ?_);refine ZBA.s (ka.keep k1).m o.m fun h5 k5 =>?_;rw[gl];by_cases c2:(T.length:Int)=Qx C.m
   ·rw[Jd (by simp[c2]),dT c2,YAX];refine Jp (Jb (VF (i1.keep0 k5).e).2.2.1 ⟨k5,?_⟩);rw[al]
    have:decide ((C.all.length:Int)≥256) = !decide (C.all.length<256):=by
     by_cases hc:C.all.length<256
     ·rw[dT hc,dF (by omega)];rfl
     ·rw[dF hc,dT (by omega)];rfl
    rw[this]
   ·rw[Jf (by simpa using c2),dF c2];exact⟨k5,rfl⟩
  ·rw[Jf (show decide (u≥C.m.users)=true from dT (by omega)),dF c1];exact⟨Jc.rfl,rfl⟩
 rintro _ h2 ⟨k2,rfl⟩;dsimp only;have k02:Jc [] h h2:=k1.n k2
 cases hm:Gb C u T.length with
 | false =>
   rw[Jf (by rfl)];refine JL (y:=Ik) (k2.g e1) fun h6 k6 e6 hs6=>Jb (Je e6) ?_;have:=k1.1;exact hbad hm h6 (k02.new k6 (by simp;omega))
 | true =>
   rw[Jd (by simp)];replace hok:=hok hm;unfold Gb at hm;simp only[YAW,Qg]at hm;obtain⟨m0,m1,m2,m3⟩:=hm;have i2:=i.keep0 k02;have hw:Jr ((es.len:Int)+1)=(C.all.length:Int)+1:=w6 (by omega);obtain⟨R,hR⟩:∃R,XD (C.all.map putE)=R:=⟨_,rfl⟩;unfold Xi at hok;rw[hR]at hok;have z02:=k02.1;have z1:=k1.1;refine Qd (fun y h'=>y=(0,())∧∃x7 s2,h'[b1]? = some (Jg Jk JO ((u,((C.all.length:Int)+1,(x7,(R,(s2,((⟨#[]⟩:Ba),())))))):JO.Ty))∧Jc [] h h'∧JR h' Qp .i x7 (Q6 C u)∧(∀q∈own x7,h.size≤q)∧JR h' Jh (.ar 32 .u8) s2 T∧∀q∈own s2,h.size≤q) ?_ ?_
   ·have fin:∀ {h9:Ja} {x7 s2:Jn},Jc [] h2 h9→JR h9 Qp .i x7 (Q6 C u)→(∀q∈own x7,h.size≤q)→JR h9 Jh (.ar 32 .u8) s2 T→(∀q∈own s2,h.size≤q) →
     Go.Al.st JO (Pl.mk b1 0) ((u,(Jr ((es.len:Int)+1),(x7,(R,(s2,((⟨#[]⟩:Ba),())))))):JO.Ty) h9 fun h'=>((0,()):Int×Unit)=(0,())∧∃x7 s2,h'[b1]? = some (Jg Jk JO ((u,((C.all.length:Int)+1,(x7,(R,(s2,((⟨#[]⟩:Ba),())))))):JO.Ty))∧Jc [] h h'∧JR h' Qp .i x7 (Q6 C u)∧(∀q∈own x7,h.size≤q)∧JR h' Jh (.ar 32 .u8) s2 T∧∀q∈own s2,h.size≤q:=by
     intro h9 x7 s2 k9 r7 o7 r2 o2;have e9:h9[b1]? = some (Jg Jk JO Ik):=(k2.n k9).g e1;rw[hw];refine JL e9 fun h10 k10 e10 hs10=>⟨rfl,x7,s2,e10,(k02.n k9).new k10 (by simp;omega),r7.keep k10 fun q hq hm =>?_,o7,r2.keep k10 fun q hq hm =>?_,o2⟩
     ·simp at hm;subst hm;exact QL r7 e9 (by decide) hq
     ·simp at hm;subst hm;exact QL r2 e9 (by decide) hq
    have apT:∀ {h8:Ja} {b:Nat} {KK:Jn→Hp},Jc [] h2 h8→h2.size≤b→JR h8 Jh (.ar 32 .u8) ⟨some ⟨b,0⟩,0,0⟩ ([]:List Qh)→(∀s2 h9,Jc [b] h8 h9→JR h9 Jh (.ar 32 .u8) s2 T→(∀q∈own s2,h.size≤q)→KK s2 h9) →
     JB ts (ts.len*32) h8 fun cs1=>ap Jh (.ar 32 .u8) 32 ⟨some ⟨b,0⟩,0,0⟩ ts.len cs1 h8 KK:=by
     intro h8 b KK k8 hb r8 hk;refine QI (g.keep (by decide) (k02.n k8)) (by rw[gl];rfl) ?_;have z8:=k8.1;refine X8 (T:=Jh) (k := .ar 32 .u8) (ys:=T) r8 gl rfl (by rw[gl];simp;omega) fun s2 h9 r9 k9 o9=>hk s2 h9 (by simpa[own] using k9) (by simpa using r9) fun q hq =>?_;rcases XO o9 q hq with h | h
     ·simp[own]at h;omega
     ·omega
    refine Jp (Jb (VF i2.e).2.2.1 ⟨?_,?_⟩)
    ·refine ref18_vec.s i2 (ka.keep k02) o m0 m1 fun h6 s7 k6 r7 o7=>⟨(VF (i2.keep0 k6).e).2.2.1,?_,?_⟩
     ·refine ref18_Root.s (i2.keep0 k6) o fun h7 k7=>⟨(VF ((i2.keep0 k6).keep0 k7).e).2.2.1,?_⟩;rw[hR];refine QN fun b h8 hb8 k8 r8 hs8 =>?_;have k28:Jc [] h2 h8:=(k6.n k7).n k8;have z7:=(k6.n k7).1;refine⟨(VF (i2.keep0 k28).e).2.2.1,apT k28 (by omega) r8 fun s2 h9 k9 r9 o9 =>?_⟩;have k29:=k28.new k9 (by simp;omega);refine⟨(VF (i2.keep0 k29).e).2.2.1,?_⟩;have r78:=(r7.keep k7 (by simp)).keep k8 (by simp);exact fin k29 (r78.keep k9 fun q hq hm=>by simp at hm;subst hm;exact UT r78 r8 (by decide) q hq (by simp[own])) (fun q hq=>by have:=o7 q hq;omega) r9 o9
     ·refine QN fun b h11 hb11 k11 r11 hs11 =>?_;have k2_11:Jc [] h2 h11:=k6.n k11;have z6:=k6.1;refine⟨(VF (i2.keep0 k2_11).e).2.2.1,?_⟩;refine ref18_Root.s (i2.keep0 k2_11) o fun h12 k12 =>?_;have k2_12:=k2_11.n k12;rw[hR];have r12:=r11.keep k12 (by simp);refine⟨(VF (i2.keep0 k2_12).e).2.2.1,apT k2_12 (by omega) r12 fun s2 h9 k9 r9 o9 =>?_⟩;have k29:=k2_12.new k9 (by simp;omega);refine⟨(VF (i2.keep0 k29).e).2.2.1,?_⟩;have r78:=(r7.keep k11 (by simp)).keep k12 (by simp);exact fin k29 (r78.keep k9 fun q hq hm=>by simp at hm;subst hm;exact UT r78 r12 (by decide) q hq (by simp[own])) (fun q hq=>by have:=o7 q hq;omega) r9 o9
    ·refine QN fun b h11 hb11 k11 r11 hs11=>⟨(VF (i2.keep0 k11).e).2.2.1,?_⟩;have i11:=i2.keep0 k11;refine ref18_vec.s i11 (ka.keep (k02.n k11)) o m0 m1 fun h6 s7 k6 r7 o7=>⟨(VF (i11.keep0 k6).e).2.2.1,?_⟩;have k26:=k11.n k6;refine ref18_Root.s (i2.keep0 k26) o fun h12 k12 =>?_;have k2_12:=k26.n k12;rw[hR];have r12:=(r11.keep k6 (by simp)).keep k12 (by simp);have z11:=k11.1;refine⟨(VF (i2.keep0 k2_12).e).2.2.1,apT k2_12 (by omega) r12 fun s2 h9 k9 r9 o9 =>?_⟩;have k29:=k2_12.new k9 (by simp;omega);refine⟨(VF (i2.keep0 k29).e).2.2.1,?_⟩;have r78:=r7.keep k12 (by simp);exact fin k29 (r78.keep k9 fun q hq hm=>by simp at hm;subst hm;exact UT r78 r12 (by decide) q hq (by simp[own])) (fun q hq=>by have:=o7 q hq;omega) r9 o9
   ·rintro _ h5 ⟨rfl,x7,s2,e5,k5,r7,o7,r2,o2⟩;refine Jb (Je e5) ?_;refine hok _ h5 k5 ⟨rfl,rfl,r7,rfl,r2,rfl⟩ fun q hq =>?_;unfold Uc at hq;rcases List.mem_append.1 hq with hq | hq
    ·exact o7 q hq
    ·exact o2 q hq
end
section
variable {n1 c:Nat}{h:Ja}{kv:Yf.Ty}{fs es ls:Jn}{J0:List JO.Ty}{C:Cn}
end
def Dx{d:Sd}{n:Nat} (hn:n<4):ZR (d.k n)=false:=by
 unfold ZR;refine dF ?_;show¬(n:Int)=4;omega
def YK.off{n0 c t:Nat}{h:Ja}{mv:XU.Ty}{ps bs es:Jn}{J0:List JO.Ty}{C:Cn} (i:YK n0 h c t mv ps bs es J0 C):n0≤c∧c<h.size∧n0≤t∧t<h.size∧(∀T,T≠QA→∀cc f,h[c]? ≠ some (.cells cc T f))∧(∀T,T≠Qj→∀cc f,h[t]? ≠ some (.cells cc T f)):=by
 obtain⟨⟨s,row,e,r,p,oo⟩,l⟩:=i.t;refine⟨i.lc,Jl i.e,l,Jl e,fun T hT=>QR (o := .cells #[] 0 (0,0)) i.e hT,fun T hT=>QR (o := .cells #[] 0 (0,0)) e hT⟩
def gO{a b:Sd}{x y:Nat}:([UQ (a.k x),UQ (b.k y)]:List YF.Ty)[(1:Int).toNat]? = some (UQ (b.k y)):=rfl
section
variable {n p:Nat}{h:Ja}{e:X6}{K:Hp}
end
def VM.keepS{h h':Ja}{v:JO.Ty}{e:X6}{S:List Nat} (a:VM h v e) (k:Jc S h h') (hS:∀b∈S,∀T,T=Qp∨T=Jh→∀c f,h[b]? ≠ some (.cells c T f)):VM h' v e:=
 ⟨a.u,a.q,JZ (n0:=0) a.w k (fun _ _=>YAV _) (fun b hb => .inr (.inr (hS b hb _ (by simp)))),a.r,JZ (n0:=0) a.t k (fun _ _=>YAV _) (fun b hb => .inr (.inr (hS b hb _ (by simp)))),a.s⟩
def Gh{T T':Nat}{k:Kd}{s:Jn}{L:List k.Ty}{h:Ja} (r:JR h T k s L) (hT:T≠T'):∀q∈own s,∀cc f,h[q]? ≠ some (.cells cc T' f):=fun q hq cc f e=>QL r e (fun h=>hT h.symm) hq
section
variable {n1 c:Nat}{h:Ja}{kv:Yf.Ty}{fs es ls:Jn}{J0:List JO.Ty}{C:Cn}
end
def EC{k:Kd} {α : Type} (V:Ja→k.Ty → α → Prop) (h:Ja) (x:k.Ty) (er:Int):Option α → Prop
 | none=>er≠0
 | some a=>er=0∧V h x a
def TW{α : Type}{f:By→Option α × By}{l:By}{acc:List α}:QY f 0 l acc=(acc,l):=rfl
def MY{α : Type}{f:By→Option α × By}{n:Nat}{l:By}{acc:List α}:QY f (n+1) l acc=match(f l).1 with | none=>([],(f l).2) | some x=>QY f n (f l).2 (acc++[x]):=rfl
def RS{k:Kd} {α : Type}{T by_ sz r n:Nat}{fv:Value}{f:By→Option α × By}{V:Ja→k.Ty → α → Prop}{OK:Ja→Nat→Prop}{l:By}{h:Ja}{K:Jn→Int→Hp}
 (hsz:sz=k.size) (hby:by_≤1000) (i:XR h r l) (hn:n≤65535)
 (hV:∀h h' S x a,V h x a→Jc S h h'→(∀b∈S,OK h b)→V h' x a)
 (hR:∀h1 rest,XR h1 r rest→OK h1 r) (hS:∀h1 s xs,JR h1 T k s xs→∀q∈own s,OK h1 q)
 (hc:∀h1 rest (K':(Kd.tp (.pr k (.pr .i .un))).Ty→Hp),Jc [r] h h1→XR h1 r rest→(∀x er h2,Jc [r] h1 h2→XR h2 r (f rest).2→EC V h2 x er (f rest).1→K' (x,(er,())) h2)→QH pG fv [] (.tp (.pr k (.pr .i .un))) h1 K')
 (hK:∀s' er vals h',Jc [r] h h'→XR h' r (QY f n l []).2→JR h' T k s' vals→(∀q∈own s',h.size≤q)→Qq (V h') vals (QY f n l []).1→K s' er h') :
 lp (.pr .sl (.pr .i .un)) (fun y1 h1 next1=>
 if (decide (y1.2.1<(n:Int)))=true then(QH pG fv [] (.tp (.pr k (.pr .i .un))) h1 fun x1 h2=>
 if (!(decide (x1.2.1=(0:Int))))=true then K ⟨none,0,0⟩ x1.2.1 h2
 else bs T k [x1.1] h2 fun s1 h3=>
 JB s1 (s1.len*sz) h3 fun cs1=>
 ap T k by_ y1.1 s1.len cs1 h3 fun s2 h4=>
 next1 (s2,Jr (y1.2.1+1),()) h4)
 else K y1.1 0 h1) (⟨none,0,0⟩,0,()) h:=by
 have hrl:=Jl i.o;refine JF (fun(y:Jn×Int×Unit) (h1:Ja)=>∃t rest acc vals,y.2.1=((t:Nat):Int)∧t≤n∧Jc [r] h h1∧XR h1 r rest∧JR h1 T k y.1 vals∧Qq (V h1) vals acc∧vals.length=t∧(∀q∈own y.1,h.size≤q)∧QY f (n-t) rest acc=QY f n l []) (fun(y:Jn×Int×Unit) _=>n-y.2.1.toNat) ?_ ?_
 ·exact⟨0,l,[],[],rfl,YAV _,Jc.rfl,i,JR.nil,trivial,rfl,by simp[own],rfl⟩
 rintro⟨(s:Jn),(j:Int),_⟩ h1 ⟨t,rest,acc,vals,e,ht,k1,i1,r1,a1,hal,ho,hrd⟩;dsimp only at e r1 ho ⊢;subst e;by_cases hlt:t<n
 ·rw[Jf (show decide ((t:Int)<(n:Int))=true from dT (by omega))];have hw:Jr ((t:Int)+1)=((t+1:Nat):Int):=w6 (by omega);rw[hw];have hnt:n-t=(n-(t+1))+1:=by omega
  rw[hnt,MY]at hrd;have hsz1:=k1.1;refine hc h1 rest _ k1 i1 fun x er h2 k2 i2 rv =>?_;dsimp only;have k02:Jc [r] h h2:=k1.then k2 (fun x hx _=>hx) (fun x hx _=>hx);have hro:r∉own s:=fun hm=>by have:=ho r hm;omega
  cases hf:(f rest).1 with
  | none =>
    rw[hf]at rv hrd;rw[Jf (by simpa[EC] using rv)];dsimp only at hrd;have:=hK ⟨none,0,0⟩ er [] h2 k02;rw[←hrd]at this;exact this i2 JR.nil (by simp[own]) trivial
  | some a =>
    rw[hf]at rv hrd;obtain⟨rfl,hva⟩:=rv;rw[Jd (by simp)];dsimp only at hrd;have r2:JR h2 T k s vals:=r1.keep k2 (fun q hq hm=>by simp at hm;subst hm;exact hro hq);have a2:Qq (V h2) vals acc:=a1.mono fun x a hv=>hV _ _ _ _ _ hv k2 fun b hb=>by simp at hb;subst hb;exact hR h1 rest i1
    refine Vi (by_:=by_) r2 hsz (by rw[hal];have:(t+1)*by_≤65535*1000:=Nat.mul_le_mul (by omega) hby;omega) fun s5 h5 k5 r5 o5 =>?_;have i3:=i2.keep k5 hro;refine⟨⟨t+1,(f rest).2,acc++[a],vals++[x],rfl,by omega,k02.then k5 (fun x hx _=>hx) (fun x hx hl=>by have:=ho x hx;omega),i3,r5,?_,by simp;omega,?_,hrd⟩,by simp;omega⟩
    ·refine(a2.mono fun x a hv=>hV _ _ _ _ _ hv k5 fun b hb=>hS h2 s vals r2 b hb).app ?_;exact⟨hV _ _ _ _ _ hva k5 fun b hb=>hS h2 s vals r2 b hb,trivial⟩
    ·intro q hq;rcases o5 q hq with h' | h'
     ·exact ho q h'
     ·have:=k02.1;omega
 ·rw[Jd (show¬decide ((t:Int)<(n:Int))=true by simp;omega)];obtain rfl:t=n:=by omega
  rw[YAU,TW]at hrd;have:=hK s 0 vals h1 k1;rw[←hrd]at this;exact this i1 r1 ho a1
def SY{k:Kd} {α : Type}{T by_ sz r n:Nat}{z0:k.Ty}{fv:Value}{f:By→Option α × By}{V:Ja→k.Ty → α → Prop}{OK:Ja→Nat→Prop}{l:By}{h:Ja}{K:Jn→Int→Hp}
 (hsz:sz=k.size) (hby:by_≤1000) (i:XR h r l) (hn:n≤65535)
 (hV:∀h h' S x a,V h x a→Jc S h h'→(∀b∈S,OK h b)→V h' x a)
 (hR:∀h1 rest,XR h1 r rest→OK h1 r) (hS:∀h1 s xs,JR h1 T k s xs→∀q∈own s,OK h1 q)
 (hc:∀h1 rest (K':(Kd.tp (.pr k (.pr .i .un))).Ty→Hp),Jc [r] h h1→XR h1 r rest→(∀x er h2,Jc [r] h1 h2→XR h2 r (f rest).2→EC V h2 x er (f rest).1→K' (x,(er,())) h2)→QH pG fv [] (.tp (.pr k (.pr .i .un))) h1 K')
 (hK:∀s' er vals h',Jc [r] h h'→XR h' r (QY f n l []).2→JR h' T k s' vals→(∀q∈own s',h.size≤q)→Qq (V h') vals (QY f n l []).1→K s' er h') :
 lp (.pr .sl (.pr .i .un)) (fun y1 h1 next1=>
 if (decide (y1.2.1<(n:Int)))=true then(QH pG fv [] (.tp (.pr k (.pr .i .un))) h1 fun x1 h2=>
 new T k z0 h2 fun b1 h3=>
 Go.Al.st k (Pl.mk b1 0) x1.1 h3 fun h4=>
 if (!(decide (x1.2.1=(0:Int))))=true then K ⟨none,0,0⟩ x1.2.1 h4
 else ld k (Pl.mk b1 0) h4 fun x2=>
 bs T k [x2] h4 fun s1 h5=>
 JB s1 (s1.len*sz) h5 fun cs1=>
 ap T k by_ y1.1 s1.len cs1 h5 fun s2 h6=>
 next1 (s2,Jr (y1.2.1+1),()) h6)
 else K y1.1 0 h1) (⟨none,0,0⟩,0,()) h:=by
 have hrl:=Jl i.o;refine JF (fun(y:Jn×Int×Unit) (h1:Ja)=>∃t rest acc vals,y.2.1=((t:Nat):Int)∧t≤n∧Jc [r] h h1∧XR h1 r rest∧JR h1 T k y.1 vals∧Qq (V h1) vals acc∧vals.length=t∧(∀q∈own y.1,h.size≤q)∧QY f (n-t) rest acc=QY f n l []) (fun(y:Jn×Int×Unit) _=>n-y.2.1.toNat) ?_ ?_
 ·exact⟨0,l,[],[],rfl,YAV _,Jc.rfl,i,JR.nil,trivial,rfl,by simp[own],rfl⟩
 rintro⟨(s:Jn),(j:Int),_⟩ h1 ⟨t,rest,acc,vals,e,ht,k1,i1,r1,a1,hal,ho,hrd⟩;dsimp only at e r1 ho ⊢;subst e;by_cases hlt:t<n
 ·rw[Jf (show decide ((t:Int)<(n:Int))=true from dT (by omega))];have hw:Jr ((t:Int)+1)=((t+1:Nat):Int):=w6 (by omega);rw[hw];have hnt:n-t=(n-(t+1))+1:=by omega
  rw[hnt,MY]at hrd;have hsz1:=k1.1;refine hc h1 rest _ k1 i1 fun x er h2' k2' i2' rv =>?_;dsimp only;refine Jq fun b3 h2 hb3 k23 e3 hs3 =>?_;have k2:Jc [r] h1 h2:=k2'.then k23 (fun x hx _=>hx) (by simp);have i2:=i2'.keep k23 (by simp);have k02:Jc [r] h h2:=k1.then k2 (fun x hx _=>hx) (fun x hx _=>hx);have hro:r∉own s:=fun hm=>by have:=ho r hm;omega
  cases hf:(f rest).1 with
  | none =>
    rw[hf]at rv hrd;rw[Jf (by simpa[EC] using rv)];dsimp only at hrd;have:=hK ⟨none,0,0⟩ er [] h2 k02;rw[←hrd]at this;exact this i2 JR.nil (by simp[own]) trivial
  | some a =>
    rw[hf]at rv hrd;obtain⟨rfl,hva⟩:=rv;rw[Jd (by simp)];refine Jb (Je e3) ?_;dsimp only at hrd;have r2:JR h2 T k s vals:=r1.keep k2 (fun q hq hm=>by simp at hm;subst hm;exact hro hq);have a2:Qq (V h2) vals acc:=a1.mono fun x a hv=>hV _ _ _ _ _ hv k2 fun b hb=>by simp at hb;subst hb;exact hR h1 rest i1
    have hva2:=hV _ _ _ _ _ hva k23 (by simp);refine Vi (by_:=by_) r2 hsz (by rw[hal];have:(t+1)*by_≤65535*1000:=Nat.mul_le_mul (by omega) hby;omega) fun s5 h5 k5 r5 o5 =>?_;have i3:=i2.keep k5 hro;refine⟨⟨t+1,(f rest).2,acc++[a],vals++[x],rfl,by omega,k02.then k5 (fun x hx _=>hx) (fun x hx hl=>by have:=ho x hx;omega),i3,r5,?_,by simp;omega,?_,hrd⟩,by simp;omega⟩
    ·refine(a2.mono fun x a hv=>hV _ _ _ _ _ hv k5 fun b hb=>hS h2 s vals r2 b hb).app ?_;exact⟨hV _ _ _ _ _ hva2 k5 fun b hb=>hS h2 s vals r2 b hb,trivial⟩
    ·intro q hq;rcases o5 q hq with h' | h'
     ·exact ho q h'
     ·have:=k02.1;omega
 ·rw[Jd (show¬decide ((t:Int)<(n:Int))=true by simp;omega)];obtain rfl:t=n:=by omega
  rw[YAU,TW]at hrd;have:=hK s 0 vals h1 k1;rw[←hrd]at this;exact this i1 r1 ho a1
section
variable {r b n:Nat}{l:By}{h:Ja}
def qI(i:XR h r l) (hb:h[b]? = some (Jg XZ .p (some ⟨r,0⟩))) (hne:b≠r) (hn:n≤65535){K:Jn→Int→Hp}
 (hK:∀s' er h',Jc [r] h h'→XR h' r (QY MZ n l []).2→JR h' Qp .i s' (QY MZ n l []).1→(∀q∈own s',h.size≤q)→K s' er h'):ZDV.C n (.func (.func ZCx.n) #[] #[Kd.p.val (some ⟨b,0⟩)]) h K:=by
 apply ZDV.c;unfold ZDV.m;refine RS (k := .i) (f:=MZ) (V:=fun _ x a=>x=a) (OK:=fun _ _=>True) rfl (by decide) i hn (fun _ _ _ _ _ hv _ _=>hv) (fun _ _ _=>trivial) (fun _ _ _ _ _ _=>trivial) (fun h1 rest K' k1 i1 hh =>?_) fun s' er vals h' k' i' r' o' a' =>?_
 ·refine Qr (aa:=[Kd.p.val (some (Pl.mk b 0))]) (by rfl) ?_;show ZCx.C ⟨b,0⟩ h1 fun x e h=>K' (x,(e,())) h;apply ZCx.c;unfold ZCx.m;refine Jb (Je (k1.get hb (by simpa using hne))) ?_;unfold MZ at hh;refine ZAC.s (n:=2) i1 (.inr (.inl rfl)) (fun hl =>?_) (fun hl h' k' i' =>?_)
  ·rw[Jf hl]at hh;exact hh 0 300 h1 Jc.rfl i1 (show(300:Int)≠0 by decide)
  ·rw[Jd (by omega)]at hh;exact hh _ 0 h' k' i' ⟨rfl,rfl⟩
 ·refine hK s' er h' k' i' ?_ o'
  have:∀ {xs ys:List Int},Qq (fun x a=>x=a) xs ys→xs=ys:=fun{xs}=>by
   induction xs with
   | nil=>intro ys h;cases ys with | nil=>rfl | cons=>exact h.elim
   | cons x xs ih=>intro ys h;cases ys with | nil=>exact h.elim | cons y ys=>obtain⟨rfl,h2⟩:=h;rw[ih h2]
  rw[←this a'];exact r'
def RU(i:XR h r l) (hn:n≤65535){K:Jn→Int→Hp}
 (hK:∀s' er h',Jc [r] h h'→XR h' r (QY WE n l []).2→JR h' Jh (.ar 32 .u8) s' (QY WE n l []).1→(∀q∈own s',h.size≤q)→K s' er h'):ZBP.C n (.func (.func ZAV.n) #[Kd.p.val (some ⟨r,0⟩)] #[]) h K:=by
 apply ZBP.c;unfold ZBP.m;refine SY (k := .ar 32 .u8) (f:=WE) (V:=fun _ x a=>x=a) (OK:=fun _ _=>True) rfl (by decide) i hn (fun _ _ _ _ _ hv _ _=>hv) (fun _ _ _=>trivial) (fun _ _ _ _ _ _=>trivial) (fun h1 rest K' k1 i1 hh =>?_) fun s' er vals h' k' i' r' o' a' =>?_
 ·refine Qr (aa:=[Kd.p.val (some (Pl.mk r 0))]) (by rfl) ?_;show ZAV.C (some ⟨r,0⟩) h1 fun x e h=>K' (x,(e,())) h;refine ZAV.s i1 fun h' k' i' =>?_;unfold jH at i' ⊢;unfold WE at hh;by_cases hl:rest.length<32
  ·rw[Jf hl]at hh i' ⊢;exact hh _ 300 h' k' i' (show(300:Int)≠0 by decide)
  ·rw[Jd hl]at hh i' ⊢;exact hh _ 0 h' k' i' ⟨rfl,rfl⟩
 ·refine hK s' er h' k' i' ?_ o'
  have:∀ {xs ys:List Qh},Qq (fun x a=>x=a) xs ys→xs=ys:=fun{xs}=>by
   induction xs with
   | nil=>intro ys h;cases ys with | nil=>rfl | cons=>exact h.elim
   | cons x xs ih=>intro ys h;cases ys with | nil=>exact h.elim | cons y ys=>obtain⟨rfl,h2⟩:=h;rw[ih h2]
  rw[←this a'];exact r'
def C7(i:XR h r l) (hb:h[b]? = some (Jg XZ .p (some ⟨r,0⟩))) (hne:b≠r) (hn:n≤65535){K:Jn→Int→Hp}
 (hK:∀s' er h',Jc [r] h h'→XR h' r (QY XP n l []).2→JR h' Jt .s s' ((QY XP n l []).1.map bx)→(∀q∈own s',h.size≤q)→K s' er h'):ZCL.C n (.func (.func ZDM.n) #[] #[Kd.p.val (some ⟨b,0⟩)]) h K:=by
 apply ZCL.c;unfold ZCL.m;refine RS (k := .s) (f:=XP) (V:=fun _ x a=>x=bx a) (OK:=fun _ _=>True) rfl (by decide) i hn (fun _ _ _ _ _ hv _ _=>hv) (fun _ _ _=>trivial) (fun _ _ _ _ _ _=>trivial) (fun h1 rest K' k1 i1 hh =>?_) fun s' er vals h' k' i' r' o' a' =>?_
 ·refine Qr (aa:=[Kd.p.val (some (Pl.mk b 0))]) (by rfl) ?_;show ZDM.C ⟨b,0⟩ h1 fun x e h=>K' (x,(e,())) h;apply ZDM.c;unfold ZDM.m;refine Jb (Je (k1.get hb (by simpa using hne))) ?_;unfold XP at hh;refine ZAn.s (n:=2) i1 (.inr (.inl rfl)) (fun h' k' i' hx =>?_) (fun hl hc h' k' i' =>?_)
  ·by_cases hl:rest.length<2
   ·rw[Jf hl]at hh;exact hh _ 300 h' k' i' (show(300:Int)≠0 by decide)
   ·rw[Jd hl,Jf (hx (by omega))]at hh;exact hh _ 300 h' k' i' (show(300:Int)≠0 by decide)
  ·rw[Jd (by omega),Jd (by omega)]at hh;exact hh _ 0 h' k' i' ⟨rfl,rfl⟩
 ·refine hK s' er h' k' i' ?_ o'
  have:∀ {xs:List Ba} {ys:List By},Qq (fun x a=>x=bx a) xs ys→xs=ys.map bx:=fun{xs}=>by
   induction xs with
   | nil=>intro ys h;cases ys with | nil=>rfl | cons=>exact h.elim
   | cons x xs ih=>intro ys h;cases ys with | nil=>exact h.elim | cons y ys=>obtain⟨rfl,h2⟩:=h;rw[ih h2];rfl
  rw[←this a'];exact r'
end
def gI{v:JO.Ty}{z:Qh}:Il (JO.cells v) 3 ((Kd.ar 32 .u8).cells z)=JO.cells ((v.1,(v.2.1,(v.2.2.1,(z,v.2.2.2.2)))):JO.Ty):=by
 have l3:∀z:Qh,((Kd.ar 32 .u8).cells z).length=32:=fun z=>Kd.cells_length ..;have e0:∀z:Qh,JO.cells ((v.1,(v.2.1,(v.2.2.1,(z,v.2.2.2.2)))):JO.Ty)=(Kd.i.cells v.1++(Kd.i.cells v.2.1++Kd.sl.cells v.2.2.1))++((Kd.ar 32 .u8).cells z++(Kd.sl.cells v.2.2.2.2.1++(Kd.s.cells v.2.2.2.2.2.1++[]))):=fun z=>rfl;have e1:=e0 v.2.2.2.1;rw[e0 z];have e1:JO.cells v=_:=e1;rw[e1];have la:(Kd.i.cells v.1++(Kd.i.cells v.2.1++Kd.sl.cells v.2.2.1)).length=3:=rfl;generalize (Kd.i.cells v.1++(Kd.i.cells v.2.1++Kd.sl.cells v.2.2.1))=A at *;have q1:=l3 z;have q2:=l3 v.2.2.2.1;generalize (Kd.ar 32 .u8).cells z=Z at *;generalize (Kd.ar 32 .u8).cells v.2.2.2.1=Y at *;generalize (Kd.sl.cells v.2.2.2.2.1++(Kd.s.cells v.2.2.2.2.2.1++[]))=R;unfold Il;rw[List.take_left' la,q1]
 have:(A++(Y++R)).drop (3+32)=R:=by
  rw[←List.append_assoc];exact List.drop_left' (by rw[YAE,la,q2])
 rw[this,List.append_assoc]
section
variable {b:Nat}{v:JO.Ty}{h:Ja}{K:Hp} (e:h[b]? = some (Jg Jk JO v))
include e
def gD{x:Int} (hK:∀h',Jc [b] h h'→h'[b]? = some (Jg Jk JO ((x,v.2):JO.Ty))→h'.size=h.size→K h'):Go.Al.st .i ((Pl.mk b 0).fld 0) x h K:=
 Qm (k:=JO) (x':=((x,v.2):JO.Ty)) (k' := .i) (n:=0) e (by decide) rfl (hK _ Jo (Jw e) (by simp))
def gE{x:Int} (hK:∀h',Jc [b] h h'→h'[b]? = some (Jg Jk JO ((v.1,(x,v.2.2)):JO.Ty))→h'.size=h.size→K h'):Go.Al.st .i ((Pl.mk b 0).fld 1) x h K:=
 Qm (k:=JO) (x':=((v.1,(x,v.2.2)):JO.Ty)) (k' := .i) (n:=1) e (by decide) rfl (hK _ Jo (Jw e) (by simp))
def gF{x:Jn} (hK:∀h',Jc [b] h h'→h'[b]? = some (Jg Jk JO ((v.1,(v.2.1,(x,v.2.2.2))):JO.Ty))→h'.size=h.size→K h'):Go.Al.st .sl ((Pl.mk b 0).fld 2) x h K:=
 Qm (k:=JO) (k' := .sl) (n:=2) e (by decide) zZ (hK _ Jo (Jw e) (by simp))
def gG{x:Qh} (hK:∀h',Jc [b] h h'→h'[b]? = some (Jg Jk JO ((v.1,(v.2.1,(v.2.2.1,(x,v.2.2.2.2)))):JO.Ty))→h'.size=h.size→K h'):Go.Al.st (.ar 32 .u8) ((Pl.mk b 0).fld 3) x h K:=
 Qm (k:=JO) (k' := .ar 32 .u8) (n:=3) e (by decide) gI (hK _ Jo (Jw e) (by simp))
def zX{x:Jn} (hK:∀h',Jc [b] h h'→h'[b]? = some (Jg Jk JO ((v.1,(v.2.1,(v.2.2.1,(v.2.2.2.1,(x,v.2.2.2.2.2))))):JO.Ty))→h'.size=h.size→K h'):Go.Al.st .sl ((Pl.mk b 0).fld 35) x h K:=
 Qm (k:=JO) (k' := .sl) (n:=35) e (by decide) ql (hK _ Jo (Jw e) (by simp))
def zY{x:By} (hK:∀h',Jc [b] h h'→h'[b]? = some (Jg Jk JO ((v.1,(v.2.1,(v.2.2.1,(v.2.2.2.1,(v.2.2.2.2.1,(bx x,())))))):JO.Ty))→h'.size=h.size→K h'):Go.Al.st .s ((Pl.mk b 0).fld 36) (bx x) h K:=
 Qm (k:=JO) (k' := .s) (n:=36) e (by decide) EV (hK _ Jo (Jw e) (by simp))
end
section
variable {r:Nat}{l:By}{h:Ja}
def Mz{K:Int→Int→Hp} (i:XR h r l) (hK:∀er h',Jc [r] h h'→XR h' r (Qt l).2→K (Qt l).1 er h'):ZAC.C (some ⟨r,0⟩) 1 h K:=by
 unfold Qt at hK;refine ZAC.s (n:=1) i (.inl rfl) (fun hl =>?_) (fun hl h' k' i' =>?_)
 ·rw[Jf hl]at hK;exact hK 300 h Jc.rfl i
 ·rw[Jd (by omega)]at hK;exact hK 0 h' k' i'
def wj{K:Int→Int→Hp} (i:XR h r l) (hK:∀er h',Jc [r] h h'→XR h' r (ZC l).2→K (ZC l).1 er h'):ZAC.C (some ⟨r,0⟩) 2 h K:=by
 unfold ZC at hK;refine ZAC.s (n:=2) i (.inr (.inl rfl)) (fun hl =>?_) (fun hl h' k' i' =>?_)
 ·rw[Jf hl]at hK;exact hK 300 h Jc.rfl i
 ·rw[Jd (by omega)]at hK;exact hK 0 h' k' i'
def gJ{K:Kd.Ty (.ar 32 .u8)→Int→Hp} (i:XR h r l) (hK:∀er h',Jc [r] h h'→XR h' r (WE l).2→K (wb (WE l).1) er h'):ZAV.C (some ⟨r,0⟩) h K:=by
 refine ZAV.s i fun h' k' i' =>?_;unfold jH at i' ⊢;unfold WE at hK;by_cases hl:l.length<32
 ·rw[Jf hl]at hK i' ⊢;exact hK _ h' k' i'
 ·rw[Jd hl]at hK i' ⊢;exact hK _ h' k' i'
def wo{K:Ba→Int→Hp} (i:XR h r l) (hK:∀er h',Jc [r] h h'→XR h' r (XP l).2→(er=0↔(XP l).1≠none)→K (bx (yK (XP l).1)) er h'):ZAn.C (some ⟨r,0⟩) 2 h K:=by
 unfold XP at hK;refine ZAn.s (n:=2) i (.inr (.inl rfl)) (fun h' k' i' hx =>?_) (fun hl hc h' k' i' =>?_)
 ·by_cases hl:l.length<2
  ·rw[Jf hl]at hK;exact hK 300 h' k' i' ⟨fun h=>absurd h (by decide),fun h=>absurd rfl h⟩
  ·rw[Jd hl,Jf (hx (by omega))]at hK;exact hK 300 h' k' i' ⟨fun h=>absurd h (by decide),fun h=>absurd rfl h⟩
 ·rw[Jd (by omega),Jd (by omega)]at hK;exact hK 0 h' k' i' ⟨fun _=>by simp,fun _=>rfl⟩
def Z8:0≤(Qt l).1∧(Qt l).1≤255:=by
 by_cases h:1≤l.length
 ·have:=WM h;omega
 ·unfold Qt;rw[Jf (by omega)];exact⟨Int.le_refl 0,by show(0:Int)≤255;decide⟩
def vm:0≤(ZC l).1∧(ZC l).1≤65535:=by
 by_cases h:2≤l.length
 ·have:=TY h;omega
 ·unfold ZC;rw[Jf (by omega)];exact⟨Int.le_refl 0,by show(0:Int)≤65535;decide⟩
end
def V6{α : Type}{f:By→Option α × By}:∀(n:Nat) (l:By) (acc:List α),(QY f n l acc).1.length≤acc.length+n
 | 0,l,acc=>by rw[TW];simp
 | n + 1, l, acc => by
   rw[MY];split
   ·simp
   ·have:=V6 (f:=f) n (f l).2 (acc++[by assumption]);simp at this ⊢;omega
def ZDh.s{s:By}{h:Ja}{K:JO.Ty→Int→Hp} (hz:s.length≤9223372036854775807)
 (hK:∀v er h',Jc [] h h'→EC VM h' v er (UP s)→(∀q∈Uc v,h.size≤q)→K v er h'):ZDh.C (bx s) h K:=by
 apply ZDh.c;unfold ZDh.m;refine Ji fun b1 h1 hb1 k1 e1 hs1 =>?_;have e1:h1[b1]? = some (Jg Jk JO Ik):=e1;have z1:=k1.1;rw[Js];by_cases hl:s.length<2
 ·rw[Jf (dT (by omega))];refine JL e1 fun h2 k2 e2 hs2=>Jb (Je e2) ?_;refine hK _ 1900 h2 (k1.new k2 (by simp;omega)) ?_ (by intro q hq;simp[Uc,own]at hq);have:UP s=none:=by unfold UP;rw[Jd (fun hh=>by omega)]
  rw[this];exact show(1900:Int)≠0 by decide
 rw[Jd (by simp;omega)];refine⟨by decide,by omega,by rw[Js];omega,?_⟩;rw[Zo,YAQ,YAN (YAS _),show(2:Int).toNat=2 from rfl];refine ZBe.s fun h3 k3 i3 =>?_;rw[Yx]at i3;have l3:=Jl i3.o;generalize hr:h1.size=r at *;refine Jq fun b2 h5 hb2 k5 e5 hs5 =>?_;have e5:h5[b2]? = some (Jg XZ .p (some ⟨r,0⟩)):=e5;refine Ji fun b3 h6 hb3 k6 e6 hs6 =>?_;have e6:h6[b3]? = some (Jg Jk JO Ik):=e6;have i6:=(i3.keep k5 (by simp)).keep k6 (by simp);have z3:=k3.1;have z5:=k5.1
 have n12:b1≠r∧b2≠r∧b3≠r∧b2≠b3∧b1≠b3∧b1≠b2:=by
  have:=Jl e1;omega
 obtain⟨n1,n2,n3,n4,n5,n6⟩:=n12;have k06:Jc [] h h6:=((k1.n k3).n k5).n k6;have nw:h.size≤b1∧h.size≤r∧h.size≤b2∧h.size≤b3:=by omega
 obtain⟨w1,wr,w2,w3⟩:=nw;have E1:=(k3.n (k5.n k6)).g e1;have E2:=k6.g e5;have kr:∀ {x y:Ja},Jc [] h x→Jc [r] x y→Jc [] h y:=fun a b=>a.new b (by simpa using wr);have kb:∀ {x y:Ja},Jc [] h x→Jc [b3] x y→Jc [] h y:=fun a b=>a.new b (by simpa using w3);refine Jb (Je E2) (Mz i6 fun _ h7 k7 i7 =>?_);refine gD (k7.get e6 (by simpa using n3)) fun h8 k8 e8 hs8 =>?_;have i8:=i7.keep k8 (by simpa using n3.symm);have E2:=k8.get (k7.get E2 (by simpa using n2)) (by simpa using n4);have E1:=k8.get (k7.get E1 (by simpa using n1)) (by simpa using n5);have k08:=kb (kr k06 k7) k8;refine Jb (Je E2) (wj i8 fun _ h9 k9 i9 =>?_);refine gE (k9.get e8 (by simpa using n3)) fun h10 k10 e10 hs10 =>?_;have i10:=i9.keep k10 (by simpa using n3.symm);have E2:=k10.get (k9.get E2 (by simpa using n2)) (by simpa using n4);have E1:=k10.get (k9.get E1 (by simpa using n1)) (by simpa using n5);have k010:=kb (kr k08 k9) k10;refine Jb (Je E2) (Mz i10 fun _ h11 k11 i11 =>?_);have c11:=Z8 (l:=(ZC (Qt (s.drop 2)).2).2);have E2:=k11.get E2 (by simpa using n2);have E1:=k11.get E1 (by simpa using n1);have k011:=kr k010 k11;rw[show(Qt (ZC (Qt (s.drop 2)).2).2).1=(((Qt (ZC (Qt (s.drop 2)).2).2).1.toNat:Nat):Int) by omega];refine qI i11 E2 n2 (by omega) fun sv _ h12 k12 i12 rv ov =>?_;refine gF (k12.get (k11.get e10 (by simpa using n3)) (by simpa using n3)) fun h13 k13 e13 hs13 =>?_;have i13:=i12.keep k13 (by simpa using n3.symm);have k012:=kr k011 k12;have k013:=kb k012 k13;have E2:=k13.get (k12.get E2 (by simpa using n2)) (by simpa using n4);have E1:=k13.get (k12.get E1 (by simpa using n1)) (by simpa using n5);have rv:=rv.keep k13 (fun q hq hm=>by simp at hm;subst hm;exact QL rv (k12.get (k11.get e10 (by simpa using n3)) (by simpa using n3)) (by decide) hq);have ovn:∀q∈own sv,h.size≤q:=fun q hq=>YAT k011.1 (ov q hq);refine Jb (Je E2) (gJ i13 fun _ h14 k14 i14 =>?_);refine gG (k14.get e13 (by simpa using n3)) fun h15 k15 e15 hs15 =>?_;have i15:=i14.keep k15 (by simpa using n3.symm);have k014:=kr k013 k14;have k015:=kb k014 k15;have E2:=k15.get (k14.get E2 (by simpa using n2)) (by simpa using n4);have E1:=k15.get (k14.get E1 (by simpa using n1)) (by simpa using n5);have rv:=rv.keep k14 (fun q hq hm=>by simp at hm;subst hm;exact QL rv i13.o (by decide) hq);have rv:=rv.keep k15 (fun q hq hm=>by simp at hm;subst hm;exact QL rv (k14.get e13 (by simpa using n3)) (by decide) hq);refine Jb (Je E2) (Mz i15 fun _ h16 k16 i16 =>?_);have k016:=kr k015 k16;have E2:=k16.get E2 (by simpa using n2);have E1:=k16.get E1 (by simpa using n1);have rv:=rv.keep k16 (fun q hq hm=>by simp at hm;subst hm;exact QL rv i15.o (by decide) hq);have e16:=k16.get e15 (by simpa using n3);refine Jb (Je E2) ?_;generalize hP:(WE (QY MZ (Qt (ZC (Qt (s.drop 2)).2).2).1.toNat (Qt (ZC (Qt (s.drop 2)).2).2).2 []).2)=P at *;have c16:=Z8 (l:=P.2);rw[show(Qt P.2).1=(((Qt P.2).1.toNat:Nat):Int) by omega];refine RU i16 (by omega) fun st _ h17 k17 i17 rt ot =>?_;have k017:=kr k016 k17;have E2:=k17.get E2 (by simpa using n2);have E1:=k17.get E1 (by simpa using n1);have rv:=rv.keep k17 (fun q hq hm=>by simp at hm;subst hm;exact QL rv i16.o (by decide) hq);have e17:=k17.get e16 (by simpa using n3);have otn:∀q∈own st,h.size≤q:=fun q hq=>YAT k016.1 (ot q hq);refine zX e17 fun h18 k18 e18 hs18 =>?_;have i18:=i17.keep k18 (by simpa using n3.symm);have k018:=kb k017 k18;have E2:=k18.get E2 (by simpa using n4);have E1:=k18.get E1 (by simpa using n5);have rv:=rv.keep k18 (fun q hq hm=>by simp at hm;subst hm;exact QL rv e17 (by decide) hq);have rt:=rt.keep k18 (fun q hq hm=>by simp at hm;subst hm;exact QL rt e17 (by decide) hq);refine Jb (Je E2) (wo i18 fun _ h19 k19 i19 _ =>?_);have k019:=kr k018 k19;have E1:=k19.get E1 (by simpa using n1);have rv:=rv.keep k19 (fun q hq hm=>by simp at hm;subst hm;exact QL rv i18.o (by decide) hq);have rt:=rt.keep k19 (fun q hq hm=>by simp at hm;subst hm;exact QL rt i18.o (by decide) hq);have e19:=k19.get e18 (by simpa using n3);refine zY e19 fun h20 k20 e20 hs20 =>?_;have k020:=kb k019 k20;have E1:=k20.get E1 (by simpa using n5);have rv:=rv.keep k20 (fun q hq hm=>by simp at hm;subst hm;exact QL rv e19 (by decide) hq);have rt:=rt.keep k20 (fun q hq hm=>by simp at hm;subst hm;exact QL rt e19 (by decide) hq);refine Jb (Je e20) ?_;have er:VM h20 (((Qt (s.drop 2)).1,((ZC (Qt (s.drop 2)).2).1,(sv,(wb P.1,(st,(bx (yK (XP (QY WE (Qt P.2).1.toNat (Qt P.2).2 []).2).1),())))))):JO.Ty) (GN s):=⟨rfl,rfl,rv,by unfold GN;dsimp only;rw[hP],by unfold GN;dsimp only;rw[hP];exact rt,by unfold GN;dsimp only;rw[hP]⟩
 have hvl:(GN s).vec.length≤9223372036854775806:=by
  have:=V6 (f:=MZ) (Qt (ZC (Qt (s.drop 2)).2).2).1.toNat (Qt (ZC (Qt (s.drop 2)).2).2).2 [];have hh:(GN s).vec=(QY MZ (Qt (ZC (Qt (s.drop 2)).2).2).1.toNat (Qt (ZC (Qt (s.drop 2)).2).2).2 []).1:=rfl;rw[hh];simp at this;omega
 refine ZB8.s er.at hvl fun h21 k21 =>?_;have k021:=k020.n k21;have E1:=k21.g E1;have e21:=k21.g e20;have er:=er.keep k21 (by simp)
 have hgo:∀q∈Uc (((Qt (s.drop 2)).1,((ZC (Qt (s.drop 2)).2).1,(sv,(wb P.1,(st,(bx (yK (XP (QY WE (Qt P.2).1.toNat (Qt P.2).2 []).2).1),())))))):JO.Ty),h.size≤q:=fun q hq=>by
  unfold Uc at hq;rcases List.mem_append.1 hq with h' | h'
  ·exact ovn q h'
  ·exact otn q h'
 by_cases hg:JJ (GN s)=true∧putE (GN s)=s
 ·have hget:UP s=some (GN s):=by unfold UP;rw[Jf ⟨by omega,hg.1,hg.2⟩]
  refine JH (false,()) h21 ?_ ?_
  ·rw[hg.1,Jf rfl,Jf rfl,Jd (by decide),hg.2];exact⟨by simp,rfl⟩
  rw[Jd (by simp)];refine Jb (Je e21) ?_;refine JL E1 fun h24 k24 e24 hs24=>Jb (Je e24) ?_;refine hK _ 0 h24 (k021.new k24 (by simpa using w1)) ?_ hgo;rw[hget];refine⟨rfl,er.keep k24 fun q hq hm =>?_⟩;simp at hm;subst hm;rcases List.mem_append.1 hq with h' | h'
  ·exact QL er.w E1 (by decide) h'
  ·exact QL er.t E1 (by decide) h'
 ·have hget:UP s=none:=by unfold UP;rw[Jd fun hh=>hg hh.2]
  refine JH (true,()) h21 ?_ ?_
  ·by_cases hp:JJ (GN s)=true
   ·rw[hp,Jf rfl,Jf rfl,Jd (by decide)];have:¬bx (putE (GN s))=bx s:=fun hh=>hg ⟨hp,MT.1 hh⟩;exact⟨by simp[this],rfl⟩
   ·rw[Jd hp,Jd hp,Jf (by decide)];exact⟨rfl,rfl⟩
  rw[Jf (by rfl)];refine JL E1 fun h24 k24 e24 hs24=>Jb (Je e24) ?_;refine hK _ 1900 h24 (k021.new k24 (by simpa using w1)) ?_ (by intro q hq;simp[Uc,own]at hq);rw[hget];exact show(1900:Int)≠0 by decide
structure Y9 (n0:Nat) (h:Ja) (v:Xh.Ty) (J0:List JO.Ty) (m:YV):Prop where
 k:v.1=m.kind
 u:v.2.1=m.user
 f:v.2.2.1=m.frm
 e:JR h Jk JO v.2.2.2.1 J0
 oe:∀q∈own v.2.2.2.1,n0≤q
 x:Qq (fun v e=>VM h v e∧∀q∈Uc v,n0≤q) J0 m.ents
 w:JR h Jh (.ar 32 .u8) v.2.2.2.2.1 m.wants
 ow:∀q∈own v.2.2.2.2.1,n0≤q
 o:JR h Jt .s v.2.2.2.2.2.1 (m.objs.map bx)
 oo:∀q∈own v.2.2.2.2.2.1,n0≤q
def Y9.at{n0:Nat}{h:Ja}{v:Xh.Ty}{J0:List JO.Ty}{m:YV} (a:Y9 n0 h v J0 m):Sl h v J0 m:=⟨a.k,a.u,a.f,a.e.seg,a.x.mono fun _ _ r=>r.1.at,a.w.seg,a.o.seg⟩
def Y9.keep{n0:Nat}{h h':Ja}{v:Xh.Ty}{J0:List JO.Ty}{m:YV}{S:List Nat} (a:Y9 n0 h v J0 m) (k:Jc S h h') (hS:∀b∈S,b<n0∨∀T,T=Jk∨T=Qp∨T=Jh∨T=Jt→∀c f,h[b]? ≠ some (.cells c T f)):Y9 n0 h' v J0 m:=by
 have rk:∀ {T:Nat} {kk:Kd} {s:Jn} {L:List kk.Ty},T=Jk∨T=Qp∨T=Jh∨T=Jt→JR h T kk s L→(∀q∈own s,n0≤q)→JR h' T kk s L:=fun hT r o=>JZ r k o fun b hb=>by
  rcases hS b hb with h1 | h1
  ·exact .inl h1
  ·exact .inr (.inr (h1 _ hT))
 refine⟨a.k,a.u,a.f,rk (by simp) a.e a.oe,a.oe,a.x.mono fun v e x=>⟨⟨x.1.u,x.1.q,rk (by simp) x.1.w fun q hq=>x.2 q (by unfold Uc;simp[hq]),x.1.r,rk (by simp) x.1.t fun q hq=>x.2 q (by unfold Uc;simp[hq]),x.1.s⟩,x.2⟩,rk (by simp) a.w a.ow,a.ow,rk (by simp) a.o a.oo,a.oo⟩
def Y9.keep0{n0:Nat}{h h':Ja}{v:Xh.Ty}{J0:List JO.Ty}{m:YV} (a:Y9 n0 h v J0 m) (k:Jc [] h h'):Y9 n0 h' v J0 m:=a.keep k (by simp)
def gm(n0:Nat) (h:Ja) (v:Xh.Ty) (J0:List JO.Ty) (er:Int):Option YV→Prop
 | none=>er≠0
 | some m=>er=0∧Y9 n0 h v J0 m
section
variable {b:Nat}{v:Xh.Ty}{h:Ja}{K:Hp} (e:h[b]? = some (Jg JC Xh v))
include e
def gV{x:Int} (hK:∀h',Jc [b] h h'→h'[b]? = some (Jg JC Xh ((x,v.2):Xh.Ty))→h'.size=h.size→K h'):Go.Al.st .i ((Pl.mk b 0).fld 0) x h K:=
 Qm (k:=Xh) (x':=((x,v.2):Xh.Ty)) (k' := .i) (n:=0) e (by decide) rfl (hK _ Jo (Jw e) (by simp))
def vd{x:Int} (hK:∀h',Jc [b] h h'→h'[b]? = some (Jg JC Xh ((v.1,(x,v.2.2)):Xh.Ty))→h'.size=h.size→K h'):Go.Al.st .i ((Pl.mk b 0).fld 1) x h K:=
 Qm (k:=Xh) (x':=((v.1,(x,v.2.2)):Xh.Ty)) (k' := .i) (n:=1) e (by decide) rfl (hK _ Jo (Jw e) (by simp))
def gX{x:Int} (hK:∀h',Jc [b] h h'→h'[b]? = some (Jg JC Xh ((v.1,(v.2.1,(x,v.2.2.2))):Xh.Ty))→h'.size=h.size→K h'):Go.Al.st .i ((Pl.mk b 0).fld 2) x h K:=
 Qm (k:=Xh) (x':=((v.1,(v.2.1,(x,v.2.2.2))):Xh.Ty)) (k' := .i) (n:=2) e (by decide) rfl (hK _ Jo (Jw e) (by simp))
def ve{x:Jn} (hK:∀h',Jc [b] h h'→h'[b]? = some (Jg JC Xh ((v.1,(v.2.1,(v.2.2.1,(x,v.2.2.2.2)))):Xh.Ty))→h'.size=h.size→K h'):Go.Al.st .sl ((Pl.mk b 0).fld 3) x h K:=
 Qm (k:=Xh) (x':=((v.1,(v.2.1,(v.2.2.1,(x,v.2.2.2.2)))):Xh.Ty)) (k' := .sl) (n:=3) e (by decide) rfl (hK _ Jo (Jw e) (by simp))
def gY{x:Jn} (hK:∀h',Jc [b] h h'→h'[b]? = some (Jg JC Xh ((v.1,(v.2.1,(v.2.2.1,(v.2.2.2.1,(x,v.2.2.2.2.2))))):Xh.Ty))→h'.size=h.size→K h'):Go.Al.st .sl ((Pl.mk b 0).fld 4) x h K:=
 Qm (k:=Xh) (x':=((v.1,(v.2.1,(v.2.2.1,(v.2.2.2.1,(x,v.2.2.2.2.2))))):Xh.Ty)) (k' := .sl) (n:=4) e (by decide) rfl (hK _ Jo (Jw e) (by simp))
def vf{x:Jn} (hK:∀h',Jc [b] h h'→h'[b]? = some (Jg JC Xh ((v.1,(v.2.1,(v.2.2.1,(v.2.2.2.1,(v.2.2.2.2.1,(x,())))))):Xh.Ty))→h'.size=h.size→K h'):Go.Al.st .sl ((Pl.mk b 0).fld 5) x h K:=
 Qm (k:=Xh) (x':=((v.1,(v.2.1,(v.2.2.1,(v.2.2.2.1,(v.2.2.2.2.1,(x,())))))):Xh.Ty)) (k' := .sl) (n:=5) e (by decide) rfl (hK _ Jo (Jw e) (by simp))
end
def OkE(h:Ja) (b:Nat):Prop:=∀T,T=Qp∨T=Jh→∀c f,h[b]? ≠ some (.cells c T f)
section
variable {r b n:Nat}{l:By}{h:Ja}
def ZB5.t{K:JO.Ty→Int→Hp} (i:XR h r l) (hb:h[b]? = some (Jg XZ .p (some ⟨r,0⟩))) (hne:b≠r)
 (hK:∀v er h',Jc [r] h h'→XR h' r (IT l).2→EC VM h' v er (IT l).1→(∀q∈Uc v,h.size≤q)→K v er h'):ZB5.C ⟨b,0⟩ h K:=by
 apply ZB5.c;unfold ZB5.m;have lr:=Jl i.o;refine Ji fun b1 h1 hb1 k1 e1 hs1 =>?_;have e1:h1[b1]? = some (Jg Jk JO Ik):=e1;have n1:b1≠r:=by omega
 refine Jb (Je (k1.g hb)) ?_;refine wo (i.keep k1 (by simp)) fun er h2 k2 i2 her =>?_;have k02:Jc [r] h h2:=k1.then k2 (by simp) (fun x hx _=>hx);have E2:=k2.get e1 (by simpa using n1);unfold IT at hK
 cases ht:(XP l).1 with
 | none =>
   rw[ht]at hK her;have her:er≠0:=fun hh=>her.1 hh rfl;rw[Jf (by simpa using her)];refine JL E2 fun h3 k3 e3 hs3=>Jb (Je e3) ?_;exact hK Ik er h3 (k02.then k3 (fun x hx _=>hx) (fun x hx hl=>by simp at hx;omega)) (i2.keep k3 (by simpa using n1.symm)) her (by intro q hq;simp[Uc,Ik,own]at hq)
 | some s =>
   rw[ht]at hK her;have her:er=0:=her.2 (by simp);rw[Jd (by simp[her])];have hs:=(Gd ht).1;show ZDh.C (bx s) h2 _;refine ZDh.s (by omega) fun v e4 h4 k4 rv ov =>?_;refine JL (k4.g E2) fun h5 k5 e5 hs5=>Jb (Je e5) ?_;have z02:=k02.1;refine hK v e4 h5 ((k02.then k4 (fun x hx _=>hx) (by simp)).then k5 (fun x hx _=>hx) (fun x hx hl=>by simp at hx;omega)) ((i2.keep k4 (by simp)).keep k5 (by simpa using n1.symm)) ?_ (fun q hq=>YAT z02 (ov q hq));dsimp only
   cases hg:UP s with
   | none=>rw[hg]at rv;exact rv
   | some e =>
     rw[hg]at rv;refine⟨rv.1,rv.2.keepS k5 fun q hq T hT =>?_⟩;simp at hq;subst hq;exact QR (o := .cells #[] 0 (0,0)) (k4.g E2) (by rcases hT with rfl | rfl <;> decide)
def E9{K:Jn→Int→Hp} (i:XR h r l) (hb:h[b]? = some (Jg XZ .p (some ⟨r,0⟩))) (hne:b≠r) (hn:n≤65535)
 (hK:∀s' er vals h',Jc [r] h h'→XR h' r (QY IT n l []).2→JR h' Jk JO s' vals→(∀q∈own s',h.size≤q)→Qq (fun v e=>VM h' v e∧∀q∈Uc v,h.size≤q) vals (QY IT n l []).1→K s' er h'):ZBg.C n (.func (.func ZB5.n) #[] #[Kd.p.val (some ⟨b,0⟩)]) h K:=by
 apply ZBg.c;unfold ZBg.m
 refine SY (k:=JO) (f:=IT) (V:=fun h' v e=>VM h' v e∧∀q∈Uc v,h.size≤q) (OK:=OkE) rfl (by decide) i hn (fun h1 h2 S x a hv k hS=>⟨hv.1.keepS k hS,hv.2⟩)
  (fun h1 rest i1 T hT=>QR (o := .cells #[] 0 (0,0)) i1.o (by rcases hT with rfl | rfl <;> decide)) (fun h1 s xs rr q hq T hT=>Gh rr (by rcases hT with rfl | rfl <;> decide) q hq) (fun h1 rest K' k1 i1 hh =>?_) fun s' er vals h' k' i' r' o' a' =>?_
 ·refine Qr (aa:=[Kd.p.val (some (Pl.mk b 0))]) (by rfl) ?_;show ZB5.C ⟨b,0⟩ h1 fun x e h=>K' (x,(e,())) h;have z1:=k1.1;refine ZB5.t i1 (k1.get hb (by simpa using hne)) hne fun v er h' k' i' rv ov=>hh v er h' k' i' ?_
  cases hg:(IT rest).1 with
  | none=>rw[hg]at rv;exact rv
  | some e=>rw[hg]at rv;exact⟨rv.1,rv.2,fun q hq=>YAT z1 (ov q hq)⟩
 ·exact hK s' er vals h' k' i' r' o' a'
end
def Ee{α : Type}{f:By→Option α × By}{x : α}:∀(n:Nat) (l:By) (acc:List α),x∈(QY f n l acc).1→x∈acc∨∃l',(f l').1=some x
 | 0,l,acc,h => .inl h
 | n + 1, l, acc, h => by
   rw[MY]at h;split at h
   ·simp at h
   ·rename_i y hy
    rcases Ee n _ _ h with h' | h'
    ·rcases List.mem_append.1 h' with h' | h'
     ·exact .inl h'
     ·simp at h';subst h';exact .inr ⟨l,hy⟩
    ·exact .inr h'
def zm{l:By}{e:X6} (h:(IT l).1=some e):JJ e=true:=(Cm h).1
def Ed{e:X6} (h:JJ e=true):e.vec.length≤16∧e.tables.length≤24:=by
 unfold JJ QG XW at h;simp only[YAW,Qg]at h;obtain⟨⟨_,_,_,_,⟨_,_,h7⟩,_,h9⟩,_⟩:=h;exact⟨h7,h9⟩
def vj(s:By):vI (US s):=by
 have c:∀l:By,(Qt l).1.toNat≤255:=fun l=>by have:=Z8 (l:=l);omega
 refine⟨fun e he =>?_,?_,?_,?_⟩
 ·unfold US at he;dsimp only at he;rcases Ee _ _ _ he with h | ⟨l,h⟩
  ·simp at h
  ·have:=(Ed (zm h)).1;omega
 ·unfold US;dsimp only;refine YAT (V6 ..) ?_;have:=c (ZC (Qt (Qt (s.drop 2)).2).2).2;simp;omega
 ·unfold US;dsimp only;refine YAT (V6 ..) ?_;have:=c (QY IT (Qt (ZC (Qt (Qt (List.drop 2 s)).2).2).2).1.toNat (Qt (ZC (Qt (Qt (List.drop 2 s)).2).2).2).2 []).2;simp;omega
 ·unfold US;dsimp only;refine YAT (V6 ..) ?_;simp only[YAI,Nat.zero_add];exact YAT (c _) (by decide)
def ZD3.s{s:By}{h:Ja}{K:Xh.Ty→Int→Hp} (hz:s.length≤9223372036854775807)
 (hK:∀v er J0 h',Jc [] h h'→gm h.size h' v J0 er (W3 s)→K v er h'):ZD3.C (bx s) h K:=by
 apply ZD3.c;unfold ZD3.m;refine Ji fun b1 h1 hb1 k1 e1 hs1 =>?_;have e1:h1[b1]? = some (Jg JC Xh ((0,(0,(0,(⟨none,0,0⟩,(⟨none,0,0⟩,(⟨none,0,0⟩,())))))):Xh.Ty)):=e1;have z1:=k1.1;rw[Js];by_cases hl:s.length<2∨s.length>65536
 ·refine JH (true,()) h1 ?_ ?_
  ·by_cases h2:s.length<2
   ·rw[Jf (dT (by omega))];exact⟨rfl,rfl⟩
   ·rw[Jd (by simp;omega)];exact⟨by simp;omega,rfl⟩
  rw[Jf (by rfl)];refine JL e1 fun h2 k2 e2 hs2=>Jb (Je e2) ?_;refine hK _ 2200 [] h2 (k1.new k2 (by simp;omega)) ?_;have:W3 s=none:=by unfold W3;rw[Jd (fun hh=>by omega)]
  rw[this];exact show(2200:Int)≠0 by decide
 refine JH (false,()) h1 ?_ ?_
 ·rw[Jd (by simp;omega)];exact⟨by simp;omega,rfl⟩
 rw[Jd (by simp)];refine⟨by decide,by omega,by rw[Js];omega,?_⟩;rw[Zo,YAQ,YAN (YAS _),show(2:Int).toNat=2 from rfl];refine ZBe.s fun h3 k3 i3 =>?_;rw[Yx]at i3;have l3:=Jl i3.o;generalize hr:h1.size=r at *;refine Jq fun b2 h5 hb2 k5 e5 hs5 =>?_;have e5:h5[b2]? = some (Jg XZ .p (some ⟨r,0⟩)):=e5;refine Ji fun b3 h6 hb3 k6 e6 hs6 =>?_;have e6:h6[b3]? = some (Jg JC Xh ((0,(0,(0,(⟨none,0,0⟩,(⟨none,0,0⟩,(⟨none,0,0⟩,())))))):Xh.Ty)):=e6;have i6:=(i3.keep k5 (by simp)).keep k6 (by simp);have z3:=k3.1;have z5:=k5.1
 have n12:b1≠r∧b2≠r∧b3≠r∧b2≠b3∧b1≠b3∧b1≠b2:=by
  have:=Jl e1;omega
 obtain⟨n1,n2,n3,n4,n5,n6⟩:=n12;have k06:Jc [] h h6:=((k1.n k3).n k5).n k6;have nw:h.size≤b1∧h.size≤r∧h.size≤b2∧h.size≤b3:=by omega
 obtain⟨w1,wr,w2,w3⟩:=nw;have E1:=(k3.n (k5.n k6)).g e1;have E2:=k6.g e5;have kr:∀ {x y:Ja},Jc [] h x→Jc [r] x y→Jc [] h y:=fun a b=>a.new b (by simpa using wr);have kb:∀ {x y:Ja},Jc [] h x→Jc [b3] x y→Jc [] h y:=fun a b=>a.new b (by simpa using w3);refine Jb (Je E2) (Mz i6 fun _ h7 k7 i7 =>?_);refine gV (k7.get e6 (by simpa using n3)) fun h8 k8 e8 hs8 =>?_;have i8:=i7.keep k8 (by simpa using n3.symm);have E2:=k8.get (k7.get E2 (by simpa using n2)) (by simpa using n4);have E1:=k8.get (k7.get E1 (by simpa using n1)) (by simpa using n5);have k08:=kb (kr k06 k7) k8;refine Jb (Je E2) (Mz i8 fun _ h9 k9 i9 =>?_);refine vd (k9.get e8 (by simpa using n3)) fun h10 k10 e10 hs10 =>?_;have i10:=i9.keep k10 (by simpa using n3.symm);have E2:=k10.get (k9.get E2 (by simpa using n2)) (by simpa using n4);have E1:=k10.get (k9.get E1 (by simpa using n1)) (by simpa using n5);have k010:=kb (kr k08 k9) k10;refine Jb (Je E2) (wj i10 fun _ h11 k11 i11 =>?_);refine gX (k11.get e10 (by simpa using n3)) fun h12 k12 e12 hs12 =>?_;have i12:=i11.keep k12 (by simpa using n3.symm);have E2:=k12.get (k11.get E2 (by simpa using n2)) (by simpa using n4);have E1:=k12.get (k11.get E1 (by simpa using n1)) (by simpa using n5);have k012:=kb (kr k010 k11) k12;refine Jb (Je E2) ?_;apply ZCE.c;unfold ZCE.m;refine Mz i12 fun _ h13 k13 i13 =>?_;have k013:=kr k012 k13;have E2:=k13.get E2 (by simpa using n2);have E1:=k13.get E1 (by simpa using n1);have c13:=Z8 (l:=(ZC (Qt (Qt (s.drop 2)).2).2).2);rw[show(Qt (ZC (Qt (Qt (s.drop 2)).2).2).2).1=(((Qt (ZC (Qt (Qt (s.drop 2)).2).2).2).1.toNat:Nat):Int) by omega];refine E9 i13 E2 n2 (by omega) fun se _ J0 h14 k14 i14 re oe xe =>?_;have k014:=kr k013 k14;have e14:=k14.get (k13.get e12 (by simpa using n3)) (by simpa using n3);have E2:=k14.get E2 (by simpa using n2);have E1:=k14.get E1 (by simpa using n1);refine ve e14 fun h15 k15 e15 hs15 =>?_;have k015:=kb k014 k15;have i15:=i14.keep k15 (by simpa using n3.symm);have E2:=k15.get E2 (by simpa using n4);have E1:=k15.get E1 (by simpa using n5);have z13:=k013.1;have oe:∀q∈own se,h.size≤q:=fun q hq=>YAT z13 (oe q hq);have xe:Qq (fun v e=>VM h14 v e∧∀q∈Uc v,h.size≤q) J0 _:=xe.mono fun v e x=>⟨x.1,fun q hq=>YAT z13 (x.2 q hq)⟩
 have tm:∀ {x:Ja} {w:Xh.Ty},x[b3]? = some (Jg JC Xh w)→∀q∈[b3],∀T,T≠JC→∀c f,x[q]? ≠ some (.cells c T f):=fun ex q hq T hT=>by
  simp at hq;subst hq;exact QR (o := .cells #[] 0 (0,0)) ex hT
 have tr:∀ {x:Ja} {rest:By},XR x r rest→∀q∈[r],∀T,T≠Xy→∀c f,x[q]? ≠ some (.cells c T f):=fun ix q hq T hT=>by
  simp at hq;subst hq;exact QR (o := .cells #[] 0 (0,0)) ix.o hT
 have stepE:∀ {x y:Ja} {S:List Nat} {L:List X6},Jc S x y→(∀q∈S,∀T,T=Jk∨T=Qp∨T=Jh∨T=Jt→∀c f,x[q]? ≠ some (.cells c T f))→JR x Jk JO se J0∧Qq (fun v e=>VM x v e∧∀q∈Uc v,h.size≤q) J0 L→JR y Jk JO se J0∧Qq (fun v e=>VM y v e∧∀q∈Uc v,h.size≤q) J0 L:=fun kk hS a=>
  ⟨JZ (n0:=0) a.1 kk (fun _ _=>YAV _) fun q hq => .inr (.inr (hS q hq _ (by simp))),a.2.mono fun v e x=>⟨x.1.keepS kk fun q hq T hT=>hS q hq T (by rcases hT with rfl | rfl <;> simp),x.2⟩⟩
 have P:=stepE k15 (fun q hq T hT=>tm e14 q hq T (by rcases hT with rfl | rfl | rfl | rfl <;> decide)) ⟨re,xe⟩;refine Jb (Je E2) (Jb (Je E2) ?_);apply ZCN.c;unfold ZCN.m;dsimp only;generalize hM:QY IT (Qt (ZC (Qt (Qt (s.drop 2)).2).2).2).1.toNat (Qt (ZC (Qt (Qt (s.drop 2)).2).2).2).2 []=M at *;refine Mz i15 fun _ h16 k16 i16 =>?_;have k016:=kr k015 k16;have E2:=k16.get E2 (by simpa using n2);have E1:=k16.get E1 (by simpa using n1);have P:=stepE k16 (fun q hq T hT=>tr i15 q hq T (by rcases hT with rfl | rfl | rfl | rfl <;> decide)) P;have c16:=Z8 (l:=M.2);rw[show(Qt M.2).1=(((Qt M.2).1.toNat:Nat):Int) by omega];refine RU i16 (by omega) fun sw _ h17 k17 i17 rw_ ow =>?_;have k017:=kr k016 k17;have e17:=k17.get (k16.get e15 (by simpa using n3)) (by simpa using n3);have E2:=k17.get E2 (by simpa using n2);have E1:=k17.get E1 (by simpa using n1);have P:=stepE k17 (fun q hq T hT=>tr i16 q hq T (by rcases hT with rfl | rfl | rfl | rfl <;> decide)) P;refine gY e17 fun h18 k18 e18 hs18 =>?_;have k018:=kb k017 k18;have i18:=i17.keep k18 (by simpa using n3.symm);have E2:=k18.get E2 (by simpa using n4);have E1:=k18.get E1 (by simpa using n5);have P:=stepE k18 (fun q hq T hT=>tm e17 q hq T (by rcases hT with rfl | rfl | rfl | rfl <;> decide)) P;have rw_:=JZ (n0:=0) rw_ k18 (fun _ _=>YAV _) fun q hq => .inr (.inr (tm e17 q hq _ (by decide)));have z16:=k016.1;have ow:∀q∈own sw,h.size≤q:=fun q hq=>YAT z16 (ow q hq);refine Jb (Je E2) ?_;apply ZDA.c;unfold ZDA.m;dsimp only;generalize hN:QY WE (Qt M.2).1.toNat (Qt M.2).2 []=N at *;refine Mz i18 fun _ h19 k19 i19 =>?_;have k019:=kr k018 k19;have E2:=k19.get E2 (by simpa using n2);have E1:=k19.get E1 (by simpa using n1);have P:=stepE k19 (fun q hq T hT=>tr i18 q hq T (by rcases hT with rfl | rfl | rfl | rfl <;> decide)) P;have rw_:=JZ (n0:=0) rw_ k19 (fun _ _=>YAV _) fun q hq => .inr (.inr (tr i18 q hq _ (by decide)));have c19:=Z8 (l:=N.2);rw[show(Qt N.2).1=(((Qt N.2).1.toNat:Nat):Int) by omega];refine C7 i19 E2 n2 (by omega) fun so _ h20 k20 i20 ro oo =>?_;have k020:=kr k019 k20;have e20:=k20.get (k19.get e18 (by simpa using n3)) (by simpa using n3);have E1:=k20.get E1 (by simpa using n1);have P:=stepE k20 (fun q hq T hT=>tr i19 q hq T (by rcases hT with rfl | rfl | rfl | rfl <;> decide)) P;have rw_:=JZ (n0:=0) rw_ k20 (fun _ _=>YAV _) fun q hq => .inr (.inr (tr i19 q hq _ (by decide)));refine vf e20 fun h21 k21 e21 hs21 =>?_;have k021:=kb k020 k21;have E1:=k21.get E1 (by simpa using n5);have P:=stepE k21 (fun q hq T hT=>tm e20 q hq T (by rcases hT with rfl | rfl | rfl | rfl <;> decide)) P;have rw_:=JZ (n0:=0) rw_ k21 (fun _ _=>YAV _) fun q hq => .inr (.inr (tm e20 q hq _ (by decide)));have ro:=JZ (n0:=0) ro k21 (fun _ _=>YAV _) fun q hq => .inr (.inr (tm e20 q hq _ (by decide)));have z19:=k019.1;have oo:∀q∈own so,h.size≤q:=fun q hq=>YAT z19 (oo q hq);refine Jb (Je e21) ?_
 have hpar:US s=⟨(Qt (s.drop 2)).1,(Qt (Qt (s.drop 2)).2).1,(ZC (Qt (Qt (s.drop 2)).2).2).1,M.1,N.1,(QY XP (Qt N.2).1.toNat (Qt N.2).2 []).1⟩:=by
  unfold US;dsimp only;rw[hM,hN]
 have mr:Y9 h.size h21 (((Qt (s.drop 2)).1,((Qt (Qt (s.drop 2)).2).1,((ZC (Qt (Qt (s.drop 2)).2).2).1,(se,(sw,(so,())))))):Xh.Ty) J0 (US s):=by
  rw[hpar];exact⟨rfl,rfl,rfl,P.1,oe,P.2,rw_,ow,ro,oo⟩
 refine ZCl.s mr.at (vj s) fun h22 k22 =>?_;have k022:=k021.n k22;have E1:=k22.g E1;have e22:=k22.g e21;have mr:=mr.keep0 k22;by_cases hg:Q3 (US s)=true∧JQ (US s)=s
 ·have hget:W3 s=some (US s):=by unfold W3;rw[Jf ⟨by omega,by omega,hg.1,hg.2⟩]
  refine JH (false,()) h22 ?_ ?_
  ·rw[hg.1,Jf rfl,Jf rfl,Jd (by decide),hg.2];exact⟨by simp,rfl⟩
  rw[Jd (by simp)];refine Jb (Je e22) ?_;refine JL E1 fun h24 k24 e24 hs24=>Jb (Je e24) ?_;refine hK _ 0 J0 h24 (k022.new k24 (by simpa using w1)) ?_;rw[hget];refine⟨rfl,mr.keep k24 fun q hq => .inr fun T hT =>?_⟩;simp at hq;subst hq;exact QR (o := .cells #[] 0 (0,0)) E1 (by rcases hT with rfl | rfl | rfl | rfl <;> decide)
 ·have hget:W3 s=none:=by unfold W3;rw[Jd fun hh=>hg hh.2.2]
  refine JH (true,()) h22 ?_ ?_
  ·by_cases hp:Q3 (US s)=true
   ·rw[hp,Jf rfl,Jf rfl,Jd (by decide)];have:¬bx (JQ (US s))=bx s:=fun hh=>hg ⟨hp,MT.1 hh⟩;exact⟨by simp[this],rfl⟩
   ·rw[Jd hp,Jd hp,Jf (by decide)];exact⟨rfl,rfl⟩
  rw[Jf (by rfl)];refine JL E1 fun h24 k24 e24 hs24=>Jb (Je e24) ?_;refine hK _ 2200 [] h24 (k022.new k24 (by simpa using w1)) ?_;rw[hget];exact show(2200:Int)≠0 by decide
section
variable {r:Nat}{l:By}{h:Ja}
def Mt{K:Int→Int→Hp} (i:Zb h r l) (hK:∀er h',Jc [r] h h'→Zb h' r (Qt l).2→(er=0↔1≤l.length)→K (Qt l).1 er h'):ZAJ.C (some ⟨r,0⟩) 1 h K:=by
 unfold Qt at hK;refine ref1_Num.s (n:=1) i (.inl rfl) (fun hl =>?_) (fun hl h' k' i' =>?_)
 ·rw[Jf hl]at hK;exact hK 300 h Jc.rfl i ⟨fun h=>absurd h (by decide),fun h=>by omega⟩
 ·rw[Jd (by omega)]at hK;exact hK 0 h' k' i' ⟨fun _=>hl,fun _=>rfl⟩
def qg{K:Int→Int→Hp} (i:Zb h r l) (hK:∀er h',Jc [r] h h'→Zb h' r (ZC l).2→(er=0↔2≤l.length)→K (ZC l).1 er h'):ZAJ.C (some ⟨r,0⟩) 2 h K:=by
 unfold ZC at hK;refine ref1_Num.s (n:=2) i (.inr (.inl rfl)) (fun hl =>?_) (fun hl h' k' i' =>?_)
 ·rw[Jf hl]at hK;exact hK 300 h Jc.rfl i ⟨fun h=>absurd h (by decide),fun h=>by omega⟩
 ·rw[Jd (by omega)]at hK;exact hK 0 h' k' i' ⟨fun _=>hl,fun _=>rfl⟩
def qh{K:Ba→Int→Hp} (i:Zb h r l) (hK:∀er h',Jc [r] h h'→Zb h' r (XP l).2→(er=0↔(XP l).1≠none)→K (bx (yK (XP l).1)) er h'):ZBI.C (some ⟨r,0⟩) 2 h K:=by
 unfold XP at hK;refine ref1_Text.s (n:=2) i (.inr (.inl rfl)) (fun h' k' i' hx =>?_) (fun hl hc h' k' i' =>?_)
 ·by_cases hl:l.length<2
  ·rw[Jf hl]at hK;exact hK 300 h' k' i' ⟨fun h=>absurd h (by decide),fun h=>absurd rfl h⟩
  ·rw[Jd hl,Jf (hx (by omega))]at hK;exact hK 300 h' k' i' ⟨fun h=>absurd h (by decide),fun h=>absurd rfl h⟩
 ·rw[Jd (by omega),Jd (by omega)]at hK;exact hK 0 h' k' i' ⟨fun _=>by simp,fun _=>rfl⟩
def qf{K:Kd.Ty (.ar 32 .u8)→Int→Hp} (i:Zb h r l) (hK:∀er h',Jc [r] h h'→Zb h' r (WE l).2→(er=0↔(WE l).1≠none)→K (wb (WE l).1) er h'):ZBX.C (some ⟨r,0⟩) h K:=by
 apply ZBX.c;unfold ZBX.m;have i0:=i;obtain⟨s,a,e0,rfl,ha,hs⟩:=i.ex;refine Ji fun b1 h1 hb1 k1 e1 hs1=>Ji fun b2 h2 hb2 k2 e2 hs2 =>?_;have e1:h1[b1]? = some (Jg Jh HK (Vector.replicate 32 0)):=e1;have e2:h2[b2]? = some (Jg Jh HK (Vector.replicate 32 0)):=e2;have k02:Jc [] h h2:=k1.n k2;have lr:=Jl e0;have z1:=k1.1;have nr:b1≠r∧b2≠r∧b1≠b2∧h.size≤b1∧h.size≤b2:=by omega
 obtain⟨n1,n2,n12,w1,w2⟩:=nr;refine ZB9.s (i0.keep k02 (by simp)) ?_;unfold WE at hK;have hsl:s.data.toList.length=s.size:=rfl;by_cases hl:(s.data.toList.drop a).length<32
 ·rw[Jf hl]at hK;rw[Jf (dT (by omega))];refine Jb (Je e2) (JL (k2.g e1) fun h4 k4 e4 hs4=>Jb (Je e4) ?_);exact hK 300 h4 ((k02.new k4 (by simpa using w1)).weak (by simp)) ((i0.keep k02 (by simp)).keep k4 (by simpa using n1.symm)) ⟨fun h=>absurd h (by decide),fun h=>absurd rfl h⟩
 rw[Jd hl]at hK;rw[Jd (show¬decide (((s.data.toList.drop a).length:Int)<32)=true from dn (by omega))];rw[YAG,hsl]at hl;refine⟨by decide,by decide,by decide,?_⟩;have er2:=k02.g e0;refine Jp (Jb (Jv (n:=0) (k' := .s) (y:=s) er2 rfl (by decide)) (Jp (Jb (Jv (n:=1) (k' := .i) (y:=(a:Int)) er2 rfl (by decide)) (Jp (Jb (Jv (n:=1) (k' := .i) (y:=(a:Int)) er2 rfl (by decide)) ?_)))));have hw:Jr ((a:Int)+32)=((a+32:Nat):Int):=w6 (by omega);rw[hw];refine⟨by omega,by omega,by omega,?_⟩
 have hx:s.extract ((a:Int)).toNat (((a+32:Nat):Int)).toNat=bx ((s.data.toList.drop a).take 32):=by
  have:s.extract ((a:Int)).toNat (((a+32:Nat):Int)).toNat=(bx s.data.toList).extract ((a:Int)).toNat (((a+32:Nat):Int)).toNat:=by rw[Vm]
  rw[this,Zo];simp only[YAQ];rw[List.drop_take,Nat.add_sub_cancel_left]
 rw[hx];generalize hg:(s.data.toList.drop a).take 32=L at *;have lL:L.length=32:=by rw[←hg,List.length_take,YAG,hsl];omega
 show cp ⟨some ⟨b2,0⟩,32,32⟩ (min (bx L).size 32) (((bx L).data.toList.take (min (bx L).size 32)).flatMap Kd.u8.cells) h2 _;rw[Js,Yx,lL];refine qb (k := .u8) (i:=0) (ys:=L) (xs:=(Vector.replicate 32 (0:UInt8)).toList) (e:=e2) rfl (by simp) (by show List.flatMap _ (L.take 32)=_;rw[YAN (by omega)]) (by simp[lL]) ?_
 have hrow:((Vector.replicate 32 (0:UInt8)).toList.take 0++L++(Vector.replicate 32 (0:UInt8)).toList.drop (0+L.length))=(hv L).toList:=by
  rw[MX lL,YAA (by rw[lL];simp)];simp
 rw[hrow];have k5:Jc [b2] h2 (h2.setIfInBounds b2 (QW Jh .u8 (hv L).toList)):=Jo;have e5:(h2.setIfInBounds b2 (QW Jh .u8 (hv L).toList))[b2]? = some (Jg Jh HK (hv L)):=Jw e2;show Qa _ _;generalize h2.setIfInBounds b2 (QW Jh .u8 (hv L).toList)=h5 at k5 e5 ⊢;have er5:=k5.get er2 (by simpa using n2.symm);refine Jp (Jb (Jv (n:=1) (k' := .i) (y:=(a:Int)) er5 rfl (by decide)) (Jp ?_));rw[hw];refine Qm (k:=jM) (k' := .i) (n:=1) (x':=((s,(((a+32:Nat):Int),())):jM.Ty)) er5 (by decide) rfl ?_;have k6:Jc [r] h5 (h5.setIfInBounds r (Jg Q4 jM ((s,(((a+32:Nat):Int),())):jM.Ty))):=Jo;have er6:=Jw (o':=Jg Q4 jM ((s,(((a+32:Nat):Int),())):jM.Ty)) er5;generalize h5.setIfInBounds r (Jg Q4 jM ((s,(((a+32:Nat):Int),())):jM.Ty))=h6 at k6 er6 ⊢;refine Jb (Je (k6.get e5 (by simpa using n2))) ?_;refine JL (k6.get (k5.get (k2.g e1) (by simpa using n12)) (by simpa using n1)) fun h7 k7 e7 hs7=>Jb (Je e7) ?_;have k05:Jc [] h h5:=k02.new k5 (by simpa using w2);refine hK 0 h7 ((k05.then k6 (by simp) (fun q hq _=>hq)).then k7 (fun q hq _=>hq) (fun q hq hl=>by simp at hq;omega)) ⟨s,a+32,k7.get er6 (by simpa using n1.symm),by rw[List.drop_drop],by omega,hs⟩ ⟨fun _=>by simp,fun _=>rfl⟩
end
def vn{l:By}:(MZ l).1=(if 2≤l.length then some (ZC l).1 else none)∧(MZ l).2=(ZC l).2:=by
 unfold MZ ZC;by_cases h:l.length<2
 ·rw[Jf h,Jf h,Jd (by omega)];exact⟨rfl,rfl⟩
 ·rw[Jd h,Jd h,Jf (by omega)];exact⟨rfl,rfl⟩
def P2{α : Type}{f:By→Option α × By}{l:By}{acc:List α}:Ym f 0 l acc=some (acc,l):=rfl
def P1{α : Type}{f:By→Option α × By}{n:Nat}{l:By}{acc:List α}:Ym f (n+1) l acc=match(f l).1 with | none=>none | some x=>Ym f n (f l).2 (acc++[x]):=rfl
structure GI (h hh:Ja) (b1 b2 b3:Nat) (v:JO.Ty) (vec:List Int) (tabs:List Qh) (rest:By):Prop where
 k:Jc [] h hh
 e1:hh[b1]? = some (Jg Jk JO Ik)
 r:Zb hh b2 rest
 e3:hh[b3]? = some (Jg Jk JO v)
 w:JR hh Qp .i v.2.2.1 vec
 ow:∀q∈own v.2.2.1,h.size≤q
 t:JR hh Jh HK v.2.2.2.2.1 tabs
 ot:∀q∈own v.2.2.2.2.1,h.size≤q
 n1:h.size≤b1
 n2:h.size≤b2
 n3:h.size≤b3
 n13:b1≠b3
section
variable {h hh h':Ja}{b1 b2 b3:Nat}{v:JO.Ty}{vec:List Int}{tabs:List Qh}{rest:By}
def Zb.o{h:Ja}{r:Nat}{l:List UInt8} (i:Zb h r l):∃x,h[r]? = some (Jg Q4 jM x):=by
 obtain⟨s,a,e,_⟩:=i.ex;exact⟨_,e⟩
def GI.keep0(g:GI h hh b1 b2 b3 v vec tabs rest) (k:Jc [] hh h'):GI h h' b1 b2 b3 v vec tabs rest:=
 ⟨g.k.n k,k.g g.e1,g.r.keep k (by simp),k.g g.e3,g.w.keep k (by simp),g.ow,g.t.keep k (by simp),g.ot,g.n1,g.n2,g.n3,g.n13⟩
def GI.rd{rest':By} (g:GI h hh b1 b2 b3 v vec tabs rest) (k:Jc [b2] hh h') (i:Zb h' b2 rest'):GI h h' b1 b2 b3 v vec tabs rest':=by
 obtain⟨x,ex⟩:=g.r.o;have a1:b1≠b2:=YT g.e1 ex (by decide);have a3:b3≠b2:=YT g.e3 ex (by decide);exact⟨g.k.new k (by simpa using g.n2),k.get g.e1 (by simpa using a1),i,k.get g.e3 (by simpa using a3),g.w.keep k (fun q hq hm=>by simp at hm;subst hm;exact QL g.w ex (by decide) hq),g.ow,g.t.keep k (fun q hq hm=>by simp at hm;subst hm;exact QL g.t ex (by decide) hq),g.ot,g.n1,g.n2,g.n3,g.n13⟩
def GI.st{v':JO.Ty} (g:GI h hh b1 b2 b3 v vec tabs rest) (k:Jc [b3] hh h') (e:h'[b3]? = some (Jg Jk JO v')) (h1:v'.2.2.1=v.2.2.1) (h2:v'.2.2.2.2.1=v.2.2.2.2.1):GI h h' b1 b2 b3 v' vec tabs rest:=by
 obtain⟨x,ex⟩:=g.r.o;have a3:b2≠b3:=YT ex g.e3 (by decide);refine⟨g.k.new k (by simpa using g.n3),k.get g.e1 (by simpa using g.n13),g.r.keep k (by simpa using a3),e,?_,by rw[h1];exact g.ow,?_,by rw[h2];exact g.ot,g.n1,g.n2,g.n3,g.n13⟩
 ·rw[h1];exact g.w.keep k (fun q hq hm=>by simp at hm;subst hm;exact QL g.w g.e3 (by decide) hq)
 ·rw[h2];exact g.t.keep k (fun q hq hm=>by simp at hm;subst hm;exact QL g.t g.e3 (by decide) hq)
def GI.addV{x:Int}{K:Hp} (g:GI h hh b1 b2 b3 v vec tabs rest) (hl:vec.length≤100000) (hK:∀h' v',GI h h' b1 b2 b3 v' (vec++[x]) tabs rest→v'.1=v.1→v'.2.1=v.2.1→v'.2.2.2.1=v.2.2.2.1→v'.2.2.2.2.2.1=v.2.2.2.2.2.1→K h') :
 bs Qp .i [x] hh fun s2 h14=>JB s2 (s2.len*1) h14 fun cs=>ap Qp .i 8 v.2.2.1 s2.len cs h14 fun s3 h15=>Go.Al.st .sl ((Pl.mk b3 0).fld 2) s3 h15 K:=by
 obtain⟨y,ex⟩:=g.r.o;refine Vi (by_:=8) g.w rfl (by omega) fun s3 h3 k3 r3 o3 =>?_;have nb:∀ {b:Nat} {T:Nat} {k:Kd} {z:k.Ty},hh[b]? = some (Jg T k z)→T≠Qp→b∉own v.2.2.1:=fun e hT=>QL g.w e hT;have e3:=k3.get g.e3 (nb g.e3 (by decide));have a3:b2≠b3:=YT ex g.e3 (by decide);refine gF e3 fun h4 k4 e4 hs4 =>?_;have z:=g.k.1;have k0:Jc [] h h4:=(g.k.new k3 g.ow).new k4 (by simpa using g.n3);refine hK h4 _ ⟨k0,k4.get (k3.get g.e1 (nb g.e1 (by decide))) (by simpa using g.n13),(g.r.keep k3 (nb ex (by decide))).keep k4 (by simpa using a3),e4,r3.keep k4 (fun q hq hm=>by simp at hm;subst hm;exact QL r3 e3 (by decide) hq),fun q hq =>?_,?_,g.ot,g.n1,g.n2,g.n3,g.n13⟩ rfl rfl rfl rfl
 ·rcases o3 q hq with h | h
  ·exact g.ow q h
  ·omega
 ·have t3:=g.t.keep k3 (DD g.t g.w (by decide));exact t3.keep k4 (fun q hq hm=>by simp at hm;subst hm;exact QL t3 e3 (by decide) hq)
def GI.addT{x:Qh}{K:Hp} (g:GI h hh b1 b2 b3 v vec tabs rest) (hl:tabs.length≤100000) (hK:∀h' v',GI h h' b1 b2 b3 v' vec (tabs++[x]) rest→v'.1=v.1→v'.2.1=v.2.1→v'.2.2.2.1=v.2.2.2.1→v'.2.2.2.2.2.1=v.2.2.2.2.2.1→K h') :
 bs Jh HK [x] hh fun s2 h14=>JB s2 (s2.len*32) h14 fun cs=>ap Jh HK 32 v.2.2.2.2.1 s2.len cs h14 fun s3 h15=>Go.Al.st .sl ((Pl.mk b3 0).fld 35) s3 h15 K:=by
 obtain⟨y,ex⟩:=g.r.o;refine Vi (by_:=32) g.t rfl (by omega) fun s3 h3 k3 r3 o3 =>?_;have nb:∀ {b:Nat} {T:Nat} {k:Kd} {z:k.Ty},hh[b]? = some (Jg T k z)→T≠Jh→b∉own v.2.2.2.2.1:=fun e hT=>QL g.t e hT;have e3:=k3.get g.e3 (nb g.e3 (by decide));have a3:b2≠b3:=YT ex g.e3 (by decide);refine zX e3 fun h4 k4 e4 hs4 =>?_;have z:=g.k.1;have k0:Jc [] h h4:=(g.k.new k3 g.ot).new k4 (by simpa using g.n3);refine hK h4 _ ⟨k0,k4.get (k3.get g.e1 (nb g.e1 (by decide))) (by simpa using g.n13),(g.r.keep k3 (nb ex (by decide))).keep k4 (by simpa using a3),e4,?_,g.ow,r3.keep k4 (fun q hq hm=>by simp at hm;subst hm;exact QL r3 e3 (by decide) hq),fun q hq =>?_,g.n1,g.n2,g.n3,g.n13⟩ rfl rfl rfl rfl
 ·have w3:=g.w.keep k3 (DD g.w g.t (by decide));exact w3.keep k4 (fun q hq hm=>by simp at hm;subst hm;exact QL w3 e3 (by decide) hq)
 ·rcases o3 q hq with h | h
  ·exact g.ot q h
  ·omega
def GI.bad{K:JO.Ty→Int→Hp} (g:GI h hh b1 b2 b3 v vec tabs rest) (hK:∀h',Jc [] h h'→K Ik 1900 h'):Go.Al.st JO (Pl.mk b1 0) Ik hh fun h3=>ld JO (Pl.mk b1 0) h3 fun x=>K x 1900 h3:=
 JL g.e1 fun h3 k3 e3 hs3=>Jb (Je e3) (hK h3 (g.k.new k3 (by simpa using g.n1)))
end
def ZDq.s{s:By}{h:Ja}{K:JO.Ty→Int→Hp} (hz:s.length≤9223372036854775807)
 (hK:∀v er h',Jc [] h h'→EC VM h' v er (UP s)→(∀q∈Uc v,h.size≤q)→K v er h'):ZDq.C (bx s) h K:=by
 rw[←wM]at hK;apply ZDq.c;unfold ZDq.m;refine Ji fun b1 h1 hb1 k1 e1 hs1 =>?_;have e1:h1[b1]? = some (Jg Jk JO Ik):=e1;have hno:yn s=none→∀h',Jc [] h h'→K Ik 1900 h':=fun hd h' k'=>hK Ik 1900 h' k' (by rw[hd];exact show(1900:Int)≠0 by decide) (by simp[Uc,Ik,own]);have w1:h.size≤b1:=by omega
 rw[Js];by_cases hb:s.length<6∨s.take 2≠[65,69]
 ·have hd:yn s=none:=by unfold yn;rw[Jf hb]
  refine JH (true,()) h1 ?_ ?_
  ·refine D1 (fun _=>⟨rfl,rfl⟩) fun hl=>⟨by decide,by omega,by rw[Js];omega,?_,rfl⟩;rw[Zo];have h2:s.take 2≠[65,69]:=hb.resolve_left (by omega);have:¬bx ((s.take 2).drop 0)=bx [65,69]:=fun e=>h2 (by rw[YAB]at e;exact MT.1 e);show((!decide (bx ((s.take 2).drop 0)=bx [65,69])),())=_;rw[dF this];rfl
  ·rw[Jf (by rfl)];exact JL e1 fun h3 k3 e3 hs3=>Jb (Je e3) (hno hd h3 (k1.new k3 (by simpa using w1)))
 have hl6:6≤s.length:=by omega
 have h2:s.take 2=[65,69]:=by
  cases Classical.em (s.take 2=[65,69]) with
  | inl h=>exact h
  | inr h=>exact absurd (.inr h) hb
 refine JH (false,()) h1 ?_ ?_
 ·refine D1 (fun _=>by omega) fun hl=>⟨by decide,by omega,by rw[Js];omega,?_,rfl⟩;rw[Zo];show((!decide (bx ((s.take 2).drop 0)=bx [65,69])),())=_;rw[YAB,h2,dT rfl];rfl
 rw[Jd (by simp)]
 have hdE:yn s=match Ym MZ (Qt (ZC (Qt (s.drop 2)).2).2).1.toNat (Qt (ZC (Qt (s.drop 2)).2).2).2 [] with
  | none=>none
  | some (v,l)=>qe (Qt (s.drop 2)).1 (ZC (Qt (s.drop 2)).2).1 v l:=by
  unfold yn;rw[Jd hb]
  rfl
 refine Ji fun b2 h3 hb2 k3 e3 hs3=>Ji fun b3 h5 hb3 k5 e5 hs5 =>?_;have e5:h5[b3]? = some (Jg Jk JO Ik):=e5;have i3:Zb h3 b2 (s.drop 2):=⟨bx s,2,e3,by rw[Yx],by rw[Js];omega,by rw[Js];exact hz⟩;have g5:GI h h5 b1 b2 b3 Ik [] [] (s.drop 2):=⟨(k1.n k3).n k5,k5.g (k3.g e1),i3.keep k5 (by simp),e5,.inl ⟨rfl,rfl⟩,by simp[Ik,own],.inl ⟨rfl,rfl⟩,by simp[Ik,own],w1,by omega,by omega,by omega⟩;generalize s.drop 2=l0 at g5 hdE;refine Mt g5.r fun _ h6 k6 i6 _ =>?_;have g6:=g5.rd k6 i6;refine qg g6.r fun _ h7 k7 i7 _ =>?_;have g7:=g6.rd k7 i7;refine Mt g7.r fun _ h8 k8 i8 _ =>?_;have g8:=g7.rd k8 i8;have hu:=Z8 (l:=l0);have hq:=vm (l:=(Qt l0).2);have hn:=Z8 (l:=(ZC (Qt l0).2).2);generalize (Qt l0).1=u at *;generalize (ZC (Qt l0).2).1=q at *;generalize Qt (ZC (Qt l0).2).2=nl at *;obtain⟨n,l1⟩:=nl;dsimp only at *;refine gD g8.e3 fun h9 k9 e9 hs9 =>?_;have g9:=g8.st k9 e9 rfl rfl;refine gE g9.e3 fun h10 k10 e10 hs10 =>?_;have g10:=g9.st k10 e10 rfl rfl;have hnn:((n.toNat:Nat):Int)=n:=YAR hn.1;generalize n.toNat=N at *;subst hnn;refine JF (fun(y:Int×Unit) (hh:Ja)=>∃(t:Nat) (v:JO.Ty) (vec:List Int) (rest:By),y.1=t∧t≤N∧GI h hh b1 b2 b3 v vec [] rest∧vec.length=t∧v.1=u∧v.2.1=q∧Ym MZ N l1 []=Ym MZ (N-t) rest vec) (fun(y:Int×Unit) _=>N-y.1.toNat) ?_ ?_
 ·exact⟨0,_,[],l1,rfl,YAV _,g10,rfl,rfl,rfl,rfl⟩
 rintro⟨(ii:Int),_⟩ h11 ⟨t,v,vec,rest,et,ht,g11,vl,vu,vq,hr⟩;dsimp only at et ⊢;subst et;by_cases hlt:t<N
 ·rw[Jf (show decide ((t:Int)<(N:Int))=true from dT (by omega))];have hw:Jr ((t:Int)+1)=((t+1:Nat):Int):=w6 (by omega);rw[hw];refine qg g11.r fun er h12 k12 i12 her =>?_;have g12:=g11.rd k12 i12;have hwd:=vn (l:=rest);rw[show N-t=(N-t-1)+1 by omega,P1,hwd.1,hwd.2]at hr;by_cases h2:2≤rest.length
  case neg=>
   rw[Jd h2]at hr;rw[Jf (by simpa using fun h=>h2 (her.1 h))];exact g12.bad (hno (by rw[hdE,hr]))
  rw[Jf h2]at hr;rw[Jd (by simpa using her.2 h2)];refine Jb (ZH g12.e3).2.2.1 ?_;refine g12.addV (by omega) fun h16 v' g16 a1 a2 a3 a4 =>?_;exact⟨⟨t+1,v',_,_,rfl,by omega,g16,by simp[vl],by rw[a1,vu],by rw[a2,vq],by rw[hr];rfl⟩,by show N-((t+1:Nat):Int).toNat<N-((t:Nat):Int).toNat;omega⟩
 rw[Jd (show¬decide ((t:Int)<(N:Int))=true from dn (by omega))];obtain rfl:t=N:=by omega
 rw[YAU,P2]at hr;rw[hr]at hdE;dsimp only at hdE
 clear hr
 refine qf g11.r fun er h17 k17 i17 her =>?_;have g17:=g11.rd k17 i17;refine Jq fun b4 h19 hb4 k19 e19 hs19 =>?_;have e19:h19[b4]? = some (Jg Jh HK (wb (WE rest).1)):=e19;have g19:=g17.keep0 k19;have z17:=g17.k.1;refine Mt g19.r fun er2 h20 k20 i20 her2 =>?_;have g20:=g19.rd k20 i20;have hm:=Z8 (l:=(WE rest).2);obtain⟨rx,erx⟩:=g19.r.o;have n42:b4≠b2:=YT e19 erx (by decide);have e20:=k20.get e19 (by simpa using n42);unfold qe at hdE
 cases hh:(WE rest).1 with
 | none =>
   rw[hh]at hdE her;refine JH (true,()) h20 ?_ ?_
   ·rw[Jf (by simpa using fun h=>her.1 h rfl)];exact⟨rfl,rfl⟩
   ·rw[Jf (by rfl)];exact g20.bad (hno hdE)
 | some z=>
 rw[hh]at hdE her e20;have her:er=0:=her.2 (by simp);dsimp only at hdE;by_cases hl1:(WE rest).2.length<1
 ·rw[Jf hl1]at hdE;refine JH (true,()) h20 ?_ ?_
  ·rw[Jd (by simpa using her)];have:er2≠0:=fun h=>by have:=her2.1 h;omega
   exact⟨by rw[dF this];rfl,rfl⟩
  ·rw[Jf (by rfl)];exact g20.bad (hno hdE)
 rw[Jd hl1]at hdE;refine JH (false,()) h20 ?_ ?_
 ·rw[Jd (by simpa using her)];exact⟨by rw[dT (her2.2 (by omega))];rfl,rfl⟩
 rw[Jd (by simp)];generalize Qt (WE rest).2=nl at *;obtain⟨n',l2⟩:=nl;dsimp only at *;refine Jb (Je e20) ?_;refine gG g20.e3 fun h23 k23 e23 hs23 =>?_;have g23:=g20.st k23 e23 rfl rfl;have hnn:((n'.toNat:Nat):Int)=n':=YAR hm.1;generalize n'.toNat=M at *;subst hnn;refine JF (fun(y:Int×Unit) (hh:Ja)=>∃(t:Nat) (v:JO.Ty) (tabs:List Qh) (rest:By),y.1=t∧t≤M∧GI h hh b1 b2 b3 v vec tabs rest∧tabs.length=t∧v.1=u∧v.2.1=q∧v.2.2.2.1=z∧Ym WE M l2 []=Ym WE (M-t) rest tabs) (fun(y:Int×Unit) _=>M-y.1.toNat) ?_ ?_
 ·exact⟨0,_,[],l2,rfl,YAV _,g23,rfl,vu,vq,rfl,rfl⟩
 rintro⟨(ii:Int),_⟩ h24 ⟨t',v4,tabs,rest4,et,ht',g24,tl,vu4,vq4,vz4,hr⟩;dsimp only at et ⊢;subst et;by_cases hlt:t'<M
 ·rw[Jf (show decide ((t':Int)<(M:Int))=true from dT (by omega))];have hw:Jr ((t':Int)+1)=((t'+1:Nat):Int):=w6 (by omega);rw[hw];refine qf g24.r fun er4 h25 k25 i25 her4 =>?_;have g25:=g24.rd k25 i25;refine Jq fun b5 h27 hb5 k27 e27 hs27 =>?_;have e27:h27[b5]? = some (Jg Jh HK (wb (WE rest4).1)):=e27;have g27:=g25.keep0 k27;rw[show M-t'=(M-t'-1)+1 by omega,P1]at hr
  cases hx:(WE rest4).1 with
  | none =>
    rw[hx]at hr her4;rw[Jf (by simpa using fun h=>her4.1 h rfl)];exact g27.bad (hno (by rw[hdE,hr]))
  | some x =>
    rw[hx]at hr her4 e27;rw[Jd (by simpa using her4.2 (by simp))];refine Jb (ZH g27.e3).2.2.2.2.1 (Jb (Je e27) ?_);refine g27.addT (by omega) fun h31 v' g31 a1 a2 a3 a4 =>?_;exact⟨⟨t'+1,v',_,_,rfl,by omega,g31,by simp[tl],by rw[a1,vu4],by rw[a2,vq4],by rw[a3,vz4],by rw[hr];rfl⟩,by show M-((t'+1:Nat):Int).toNat<M-((t':Nat):Int).toNat;omega⟩
 rw[Jd (show¬decide ((t':Int)<(M:Int))=true from dn (by omega))];obtain rfl:t'=M:=by omega
 rw[YAU,P2]at hr;rw[hr]at hdE;dsimp only at hdE;unfold yP at hdE;refine qh g24.r fun er5 h32 k32 i32 her5 =>?_;have g32:=g24.rd k32 i32;obtain⟨sx,hsx⟩:∃sx,yK (XP rest4).1=sx:=⟨_,rfl⟩;rw[hsx];refine zY g32.e3 fun h33 k33 e33 hs33 =>?_;have g33:=g32.st k33 e33 rfl rfl;refine Jb (Je e33) ?_;have ea:VM h33 ((v4.1,(v4.2.1,(v4.2.2.1,(v4.2.2.2.1,(v4.2.2.2.2.1,(bx sx,())))))):JO.Ty) ⟨u,q,vec,z,tabs,sx⟩:=⟨vu4,vq4,g33.w,vz4,g33.t,rfl⟩;refine ZDT.s ea.at (by show vec.length≤_;omega) fun h34 k34 =>?_;have g34:=g33.keep0 k34
 cases hx:(XP rest4).1 with
 | none =>
   rw[hx]at hdE her5;refine JH (true,()) h34 ?_ ?_
   ·rw[Jf (by simpa using fun h=>her5.1 h rfl)];exact⟨rfl,rfl⟩
   ·rw[Jf (by rfl)];exact g34.bad (hno hdE)
 | some x=>
 rw[hx]at hdE her5 hsx;have her5:=her5.2 (by simp);have hsx:x=sx:=hsx;subst hsx;dsimp only at hdE;by_cases hp:JJ ⟨u,q,vec,z,tabs,x⟩=true
 case neg=>
  rw[Jd (fun h=>hp h.1)]at hdE;refine JH (true,()) h34 ?_ ?_
  ·rw[Jd (by simpa using her5),Jd hp,Jf (by decide)];exact⟨rfl,rfl⟩
  ·rw[Jf (by rfl)];exact g34.bad (hno hdE)
 by_cases he:(XP rest4).2=[]
 case neg=>
  rw[Jd (fun h=>he h.2)]at hdE;refine JH (true,()) h34 ?_ ?_
  ·rw[Jd (by simpa using her5),Jf hp,Jd (by simp)];refine ZB9.s g34.r ⟨?_,rfl⟩;have:(XP rest4).2.length≠0:=fun h=>he (List.length_eq_zero_iff.1 h);rw[dF (by omega)];rfl
  ·rw[Jf (by rfl)];exact g34.bad (hno hdE)
 rw[Jf ⟨hp,he⟩]at hdE;refine JH (false,()) h34 ?_ ?_
 ·rw[Jd (by simpa using her5),Jf hp,Jd (by simp)];refine ZB9.s g34.r ⟨?_,rfl⟩;rw[he];rfl
 rw[Jd (by simp)];refine Jb (Je (k34.g e33)) ?_;refine JL g34.e1 fun h38 k38 e38 hs38=>Jb (Je e38) ?_;rw[hdE]at hK;have kf:Jc [] h h38:=g34.k.new k38 (by simpa using g34.n1);have ea34:=ea.keep k34 (by simp);refine hK _ 0 h38 kf ⟨rfl,ea34.keepS k38 fun q hq T hT =>?_⟩ fun q hq =>?_
 ·simp at hq;subst hq;exact QR (o := .cells #[] 0 (0,0)) g34.e1 (by rcases hT with rfl | rfl <;> decide)
 ·rcases List.mem_append.1 hq with h | h
  ·exact g33.ow q h
  ·exact g33.ot q h
structure UW (h:Ja) (b:Nat) (s:Jn) (m:Option Nat) (L:List Qh):Prop where
 o:h[b]? = some (Jg XG zQ (s,(m,())))
 r:JR h Jh HK s L
 m:In HK h m L
def UW.keep{h h':Ja}{b:Nat}{s:Jn}{m:Option Nat}{L:List Qh}{S:List Nat} (i:UW h b s m L) (k:Jc S h h') (hn:∀q∈Qb b s m,q∉S):UW h' b s m L:=
 ⟨k.get i.o (hn b (by simp[Qb])),i.r.keep k fun q hq=>hn q (by simp[Qb,hq]),i.m.keep k fun q hq=>hn q (by simp only[Qb,YAL,YAK];exact .inr (.inr hq))⟩
def UW.keep0{h h':Ja}{b:Nat}{s:Jn}{m:Option Nat}{L:List Qh} (i:UW h b s m L) (k:Jc [] h h'):UW h' b s m L:=i.keep k (by simp)
def UW.lt{h:Ja}{b:Nat}{s:Jn}{m:Option Nat}{L:List Qh} (i:UW h b s m L):∀q∈Qb b s m,q<h.size:=fun q hq=>by
 simp only[Qb,YAL,YAK]at hq;rcases hq with rfl | hq | hq
 ·exact Jl i.o
 ·exact i.r.lt q hq
 ·cases hm:m with
  | none=>rw[hm]at hq;simp at hq
  | some r =>
    have:=i.m;rw[hm]at this hq;obtain⟨es,c,e1,_⟩:=this;simp at hq;subst hq;exact TQ e1
def UW.new{h:Ja}{b:Nat} (e:h[b]? = some (Jg XG zQ ((⟨none,0,0⟩,(none,())):zQ.Ty))):UW h b ⟨none,0,0⟩ none []:=⟨e,JR.nil,rfl⟩
def Rn{h:Ja}{b:Nat}{s:Jn}{m:Option Nat}{L:List Qh}{x:Qh}{K:Hp} (i:UW h b s m L) (hl:L.length≤100000)
 (hK:∀h' s' m',UW h' b s' m' (Xt L x)→Jc (Qb b s m) h h'→(∀q∈Qb b s' m',q∈Qb b s m∨h.size≤q)→K h'):ZAz.C (some ⟨b,0⟩) x h K:=by
 apply ZAz.c;unfold ZAz.m;refine Ji fun bx_ h0 hbx k0 ex hs0 =>?_;have ex:h0[bx_]? = some (Jg Jh HK x):=ex;have i0:=i.keep0 k0;have nx:bx_∉Qb b s m:=fun hq=>by have:=i.lt _ hq;omega
 have nxb:bx_≠b:=fun e=>nx (by simp[Qb,e]);have hT:XG≠Jh:=by decide
 refine Jp (Jb (Jv i0.o rfl (by decide)) ?_);refine Qd (fun _ h1=>∃r,UW h1 b s (some r) L∧Jc [b] h0 h1∧(r∈m.toList∨h0.size≤r)) ?_ ?_
 ·cases m with
  | none =>
    rw[Jf (by rfl)];refine TP (k:=HK) (e := .b) fun r h1 hr k1 e1 hs1=>Jp ?_;have i1:=i0.keep0 k1;refine Qm (k' := .m) (n:=1) (x':=(s,(some r,()))) i1.o (by decide) rfl ?_;have hL:L=[]:=i.m;refine⟨r,⟨Jw i1.o,i1.r.keep Jo ?_,⟨[],0,ZO e1 Jo (by simp;exact Zs e1 i1.o),fun x => .inr ⟨rfl,by rw[hL];simp⟩⟩⟩,k1.then Jo (by simp) (by simp),.inr (by omega)⟩;intro q hq hm;simp at hm;subst hm;exact YD i1.r i1.o hT hq
  | some r =>
    rw[Jd (by simp)];exact⟨r,i0,Jc.rfl,.inl (by simp)⟩
 ·rintro _ h1 ⟨r,i1,k1,hr⟩;have ex1:=k1.get ex (by simpa using nxb);refine Jp (Jb (Jv i1.o rfl (by decide)) (Jb (Je ex1) ?_));obtain⟨es,c,e1,e2⟩:=i1.m;refine TL e1 ?_
  have hrs:r∈m.toList∨h.size≤r:=by
   rcases hr with h | h
   ·exact .inl h
   ·right;have:=k0.1;omega
  have hfp:∀q∈Qb b s (some r),q∈Qb b s m∨h.size≤q:=fun q hq=>by
   simp only[Qb,YAL,YAK,Option.toList_some,YAM,or_false]at hq ⊢;rcases hq with h | h | rfl
   ·exact .inl (.inl h)
   ·exact .inl (.inr (.inl h))
   ·rcases hrs with h | h
    ·exact .inl (.inr (.inr h))
    ·exact .inr h
  have kb:Jc (Qb b s m) h h1:=k0.then k1 (by simp) (by simp[Qb]);refine Vs ?_;rcases e2 x with⟨f1,f2⟩ | ⟨f1,f2⟩
  ·rw[Jd (by rw[f1];simp)];have:Xt L x=L:=by unfold Xt;rw[Jf f2]
   rw[this]at hK;exact hK h1 s (some r) i1 kb hfp
  ·rw[Jf (by rw[f1];simp)];have ho:Xt L x=L++[x]:=by unfold Xt;rw[Jd f2]
   rw[ho]at hK;refine Jp (Jb (Jv i1.o rfl (by decide)) (Jb (Je ex1) ?_));refine Df e1 fun h2 c' k2 m2 hs2 =>?_;have hrb1:r≠b:=Zs e1 i1.o;have hrx:r≠bx_:=Zs e1 ex1;have o2:=k2.get i1.o (by simp;exact fun h=>hrb1 h.symm);have ex2:=k2.get ex1 (by simp;exact fun h=>hrx h.symm);have r2:=i1.r.keep k2 (fun q hq hm=>by simp at hm;subst hm;exact WL e1 i1.r hq);refine Jp (Jb (Jv o2 rfl (by decide)) (Jb (Je ex2) ?_));refine jT (by_:=32) r2 rfl (by omega) (fun h' k'=>Jv (k'.g o2) rfl (by decide)) fun s3 h3 k3 r3 o3=>Jp ?_;have nb:b∉own s:=fun hq=>YD r2 o2 hT hq;have nr:r∉own s:=WL m2 r2;have ob:=k3.get o2 nb;refine Qm (k' := .sl) (n:=0) (x':=(s3,(some r,()))) ob (by decide) rfl ?_;have m3:=ZO m2 k3 nr;have hrb:r≠b:=Zs m3 ob;have nb3:b∉own s3:=fun hq=>YD r3 ob hT hq;refine hK _ s3 (some r) ⟨Jw ob,r3.keep Jo (fun q hq hm=>by simp at hm;subst hm;exact nb3 hq),In.add rfl e2 (ZO m3 Jo (by simpa using hrb))⟩ ?_ ?_
   ·have k12:Jc (Qb b s m) h h2:=kb.then k2 (fun q hq _=>hq) (fun q hq hlt=>by simp at hq;subst hq;rcases hfp q (by simp[Qb]) with h | h;exact h;omega);have k13:Jc (Qb b s m) h h3:=k12.then k3 (fun q hq _=>hq) (fun q hq _=>by simp[Qb,hq]);exact k13.then Jo (fun q hq _=>hq) (fun q hq _=>by simp at hq;subst hq;simp[Qb])
   ·intro q hq;simp only[Qb,YAL,YAK,Option.toList_some,YAM,or_false]at hq;rcases hq with h | h | h
    ·exact .inl (by simp[Qb,h])
    ·rcases o3 q h with h | h
     ·exact .inl (by simp[Qb,h])
     ·right;have:=kb.1;omega
    ·exact hfp q (by simp[Qb,h])
abbrev gp:Kd := .ag (.pr .i (.pr .m .un))
structure Zf (h:Ja) (st r:Nat) (os:List Ba):Prop where
 e:h[st]? = some (Jg P8 gp ((1024,(some r,())):gp.Ty))
 m:∃es c,PR HK .s r es c h∧es.length=os.length∧∀k,Zi HK .s k es=Qw os k
def Zf.keep{h h':Ja}{st r:Nat}{os:List Ba}{S:List Nat} (i:Zf h st r os) (k:Jc S h h') (h1:st∉S) (h2:r∉S):Zf h' st r os:=by
 obtain⟨es,c,a,b,d⟩:=i.m;exact⟨k.get i.e h1,es,c,ZO a k h2,b,d⟩
def Zf.keep0{h h':Ja}{st r:Nat}{os:List Ba} (i:Zf h st r os) (k:Jc [] h h'):Zf h' st r os:=i.keep k (by simp) (by simp)
def PQ{k e:Kd}{r:Nat}{es:List (k.Ty×e.Ty×Nat)}{c:Nat}{h:Ja}{K:Int→Option (Hp)→Prop} (hm:PR k e r es c h) (hK:∀q,K (es.length:Int) q):za (some r) h K:=by
 refine⟨_,c,hm,?_⟩;simp only[List.size_toArray,YAH];exact hK _
def S3{k e:Kd}{key:k.Ty}{v:e.Ty}{c:Nat}:∀ {es:List (k.Ty×e.Ty×Nat)},Zi k e key es=none→(GM k e key v c es).length=es.length+1
 | [],_=>rfl
 | y :: r, h => by
   unfold Zi at h;unfold GM;split at h
   ·cases h
   ·rename_i hb
    rw[Jd hb,YAF,S3 h,YAF]
def ZDb.s{h:Ja}{K:Option Pl→Int→Hp} (hK:∀h' st r,Jc [] h h'→Zf h' st r []→h.size≤st→h.size≤r→K (some ⟨st,0⟩) 0 h'):ZDb.C 1024 h K:=by
 apply ZDb.c;unfold ZDb.m;refine JH (false,()) h ?_ ?_
 ·rw[Jd (by decide)];exact⟨by decide,rfl⟩
 rw[Jd (by simp)];refine TP (k:=HK) (e := .s) fun r h1 hr k1 m1 hs1 =>?_;refine Ji fun b h2 hb k2 e2 hs2 =>?_;exact hK h2 b r (k1.n k2) ⟨e2,[],0,ZO m1 k2 (by simp),rfl,fun k=>rfl⟩ (by omega) (by omega)
section
variable {h:Ja}{st r:Nat}{os:List Ba}
def ZA8.s{z:Qh}{K:Ba→Int→Hp} (i:Zf h st r os) (hK:∀h',Jc [] h h'→K (bx (PA os z)) (if (Qw os z).isSome=true then 0 else 1101) h'):ZA8.C (some ⟨st,0⟩) z h K:=by
 apply ZA8.c;unfold ZA8.m;refine Ji fun b1 h1 hb1 k1 e1 hs1 =>?_;have e1:h1[b1]? = some (Jg Jh HK z):=e1;have i1:=i.keep0 k1;obtain⟨es,c,m1,ml,mk⟩:=i1.m;rw[Jd (by simp)];refine Jp (Jb (Jv i1.e rfl (by decide)) (Jb (Je e1) (TL m1 ?_)));have:=hK h1 k1;unfold PA at this;rw[mk z]
 cases hk:Qw os z with
 | none=>rw[hk]at this;rw[Jf (by rfl)];exact this
 | some d =>
   rw[hk]at this;rw[Jd (by simp)];dsimp only at this;rw[Vm]at this;exact this
def ZBT.s{K:Int→Hp} (i:Zf h st r os) (hK:K (os.length:Int) h):ZBT.C (some ⟨st,0⟩) h K:=by
 apply ZBT.c;unfold ZBT.m;obtain⟨es,c,m1,ml,mk⟩:=i.m;rw[Jd (by simp)];refine Jp (Jb (Jv i.e rfl (by decide)) (PQ m1 fun q =>?_));rw[ml];exact hK
def ZA7.s{d:Ba}{K:Kd.Ty (.ar 32 .u8)→Int→Hp} (i:Zf h st r os) (hK:∀z e h',Jc [r] h h'→Zf h' st r (putO os d)→K z e h'):ZA7.C (some ⟨st,0⟩) d h K:=by
 apply ZA7.c;unfold ZA7.m;unfold putO at hK;refine Ji fun b1 h1 hb1 k1 e1 hs1 =>?_;have i1:=i.keep0 k1
 have hnr:∀ {x:Ja} {q:Nat} {T:Nat} {cs:Array Value} {f:Nat×Nat} {os':List Ba},Zf x st r os'→x[q]? = some (.cells cs T f)→r≠q:=fun i e=>by
  obtain⟨es,c,m1,ml,mk⟩:=i.m;exact Zs m1 e
 rw[Jd (by simp)];by_cases hz:4096<d.size
 ·rw[Jf hz]at hK;rw[Jf (dT (by omega))];refine JL e1 fun h2 k2 e2 hs2=>Jb (Je e2) ?_;have kk:Jc [] h h2:=k1.new k2 (by simp;omega);exact hK _ _ h2 (kk.weak (by simp)) (i.keep0 kk)
 rw[Jd hz]at hK;rw[Jd (by simp;omega)];refine ZAQ.s (by omega) fun h2 k2 =>?_;obtain⟨u,hu⟩:∃u,Jy d=u:=⟨_,rfl⟩;unfold qw at hK;rw[hu]at hK ⊢;refine Jq fun b2 h3 hb2 k3 e3 hs3 =>?_;have e3:h3[b2]? = some (Jg Jh HK u):=e3;have k03:Jc [] h h3:=(k1.n k2).n k3;have i3:=i.keep0 k03;have E1:=(k2.n k3).g e1;have z1:=k2.1;have l1:=Jl e1;have l3:=Jl i.e;obtain⟨es,c,m3,ml,mk⟩:=i3.m;refine Jp (Jb (Jv i3.e rfl (by decide)) (Jb (Je e3) (TL m3 ?_)));rw[mk u]
 have fin:∀(os':List Ba) (x:Ja),Jc [r] h x→Zf x st r os'→x[b1]? = some (Jg Jh HK (Vector.replicate 32 0))→x[b2]? = some (Jg Jh HK u)→(∀z e h',Jc [r] h h'→Zf h' st r os'→K z e h')→ld HK (Pl.mk b2 0) x fun x12=>Go.Al.st HK (Pl.mk b1 0) x12 x fun h10=>ld HK (Pl.mk b1 0) h10 fun x13=>K x13 0 h10:=fun os' x kx ix ex1 ex2 hk=>by
  refine Jb (Je ex2) ?_;refine JL ex1 fun h4 k4 e4 hs4=>Jb (Je e4) ?_;refine hk _ _ h4 (kx.then k4 (fun q hq _=>hq) (fun q hq hl=>by simp at hq;omega)) (ix.keep k4 ?_ ?_)
  ·simp;omega
  ·have:=hnr ix ex1;simpa using this
 cases hk:Qw os u with
 | some y =>
   rw[hk]at hK;refine JH () h3 ?_ ?_
   ·rw[Jd (by simp)];exact⟨rfl,rfl⟩
   ·exact fin os h3 (k03.weak (by simp)) i3 E1 e3 hK
 | none =>
   rw[hk,Jd (by simp)]at hK;by_cases hm:1024≤os.length
   ·rw[Jf hm]at hK;refine⟨fun _ _=>False,?_,fun _ _ h=>h.elim⟩;dsimp only;rw[Jf (by rfl)];refine Jp (Jb (Jv i3.e rfl (by decide)) (PQ m3 fun q=>Jp (Jb (Jv i3.e rfl (by decide)) ?_)));rw[ml,Jf (by simp;omega)];refine JL E1 fun h4 k4 e4 hs4=>Jb (Je e4) ?_;have kk:Jc [] h h4:=k03.new k4 (by simp;omega);exact hK _ _ h4 (kk.weak (by simp)) (i.keep0 kk)
   ·rw[Jd hm]at hK;refine Qd (fun _ x=>Jc [r] h x∧Zf x st r (os++[d])∧x[b1]? = some (Jg Jh HK (Vector.replicate 32 0))∧x[b2]? = some (Jg Jh HK u)) ?_ ?_
    ·rw[Jf (by rfl)];refine Jp (Jb (Jv i3.e rfl (by decide)) (PQ m3 fun q=>Jp (Jb (Jv i3.e rfl (by decide)) ?_)));rw[ml,Jd (by simp;omega)];refine Jp (Jb (Jv i3.e rfl (by decide)) (Jb (Je e3) (Df m3 fun h4 c4 k4 m4 hs4 =>?_)));have hrs:=hnr i3 i3.e;have n1:=hnr i3 E1;have n2:=hnr i3 e3;refine⟨k03.then k4 (by simp) (fun q hq _=>hq),⟨k4.get i3.e (by simpa using hrs.symm),_,c4,m4,?_,fun x =>?_⟩,k4.get E1 (by simpa using n1.symm),k4.get e3 (by simpa using n2.symm)⟩
     ·rw[S3 (by rw[mk u,hk]),YAE,ml];rfl
     ·rw[Mg (k:=HK) rfl,E6 (by omega),hu];by_cases hx:HK.beq x u=true
      ·have:=(WU (k:=HK) rfl).1 hx;rw[Jf hx,this,hk];show _=if u=u then _ else _
       rw[Jf rfl]
      ·have:¬u=x:=fun e=>hx ((WU (k:=HK) rfl).2 e.symm);rw[Jd hx,mk x]
       cases Qw os x with
       | some y'=>rfl
       | none =>
         show _=if u=x then _ else _
         rw[Jd this]
    ·rintro _ x ⟨kx,ix,ex1,ex2⟩;exact fin _ x kx ix ex1 ex2 hK
end
def Y9.own(v:Xh.Ty):List Nat:=Go.Al.own v.2.2.2.1++Go.Al.own v.2.2.2.2.2.1
def Y9.nil{n0:Nat}{h:Ja}{k u f:Int}:Y9 n0 h ((k,(u,(f,(⟨none,0,0⟩,(⟨none,0,0⟩,(⟨none,0,0⟩,())))))):Xh.Ty) [] ⟨k,u,f,[],[],[]⟩:=
 ⟨rfl,rfl,rfl,.inl ⟨rfl,rfl⟩,by simp[Go.Al.own],trivial,.inl ⟨rfl,rfl⟩,by simp[Go.Al.own],.inl ⟨rfl,rfl⟩,by simp[Go.Al.own]⟩
def Y9.putE{n0 b:Nat}{v:Xh.Ty}{J0:List JO.Ty}{m:YV}{x:JO.Ty}{e:X6}{h1 h3:Ja}{s2:Jn}{K:Hp} (eb1:h1[b]? = some (Jg JC Xh v)) (a1:Y9 n0 h1 v J0 m) (hx:VM h1 x e) (ox:∀q∈Uc x,n0≤q) (hn:n0≤h1.size)
 (k3:Jc (Go.Al.own v.2.2.2.1) h1 h3) (r3:JR h3 Jk JO s2 (J0++[x])) (o3:∀q∈Go.Al.own s2,q∈Go.Al.own v.2.2.2.1∨h1.size≤q)
 (hK:∀h' v',Jc (b::Y9.own v) h1 h'→h'[b]? = some (Jg JC Xh v')→Y9 n0 h' v' (J0++[x]) { m with ents:=m.ents++[e] }→(∀q∈Y9.own v',q∈Y9.own v∨h1.size≤q)→K h'):Go.Al.st .sl ((Pl.mk b 0).fld 3) s2 h3 K:=by
 have nb:b∉Go.Al.own v.2.2.2.1:=QL a1.e eb1 (by decide);have eb3:=k3.get eb1 nb;have hS:∀ {q:Nat},q∈Go.Al.own v.2.2.2.1→∀ {T:Nat},Jk≠T→∀c f,h1[q]? ≠ some (.cells c T f):=fun{q} hq {T} hT=>Gh a1.e hT _ hq;refine ve eb3 fun h4 k4 e4 hs4 =>?_;have kk:Jc (b::Go.Al.own v.2.2.2.1) h1 h4:=k3.then k4 (fun q hq _=>by simp[hq]) (fun q hq _=>by simp at hq;simp[hq])
 have tg:∀ {T:Nat},JC≠T→Jk≠T→∀q∈b::Go.Al.own v.2.2.2.1,∀c f,h1[q]? ≠ some (.cells c T f):=fun h1' h2' q hq=>by
  rcases List.mem_cons.1 hq with rfl | hq
  ·exact QR (o := .cells #[] 0 (0,0)) eb1 (fun h=>h1' h.symm)
  ·exact hS hq h2'
 have kp:∀ {w:JO.Ty} {y:X6},VM h1 w y→VM h4 w y:=fun r=>r.keepS kk fun q hq T hT=>by rcases hT with rfl | rfl <;> exact tg (by decide) (by decide) q hq
 have nb3:b∉Go.Al.own s2:=QL r3 eb3 (by decide)
 refine hK h4 _ (kk.weak fun q hq _=>by
  rcases List.mem_cons.1 hq with h | h
  ·simp[h]
  ·simp[Y9.own,h]) e4 ⟨a1.k,a1.u,a1.f,r3.keep k4 (fun q hq hm=>by simp at hm;subst hm;exact nb3 hq),fun q hq =>?_,?_,?_,a1.ow,?_,a1.oo⟩ fun q hq =>?_
 ·rcases o3 q hq with h | h
  ·exact a1.oe q h
  ·omega
 ·exact Qq.app (a1.x.mono fun w y r=>⟨kp r.1,r.2⟩) ⟨⟨kp hx,ox⟩,trivial⟩
 ·exact JZ (n0:=0) a1.w kk (fun _ _=>YAV _) fun q hq => .inr (.inr (tg (by decide) (by decide) q hq))
 ·exact JZ (n0:=0) a1.o kk (fun _ _=>YAV _) fun q hq => .inr (.inr (tg (by decide) (by decide) q hq))
 ·rcases List.mem_append.1 hq with h | h
  ·rcases o3 q h with h | h
   ·exact .inl (by simp[Y9.own,h])
   ·right;omega
  ·exact .inl (by simp only[Y9.own,YAK];exact .inr h)
def ZAv.s{n0 b:Nat}{v:Xh.Ty}{J0:List JO.Ty}{m:YV}{x:JO.Ty}{e:X6}{h:Ja}{K:Hp} (eb:h[b]? = some (Jg JC Xh v)) (a:Y9 n0 h v J0 m) (hx:VM h x e) (ox:∀q∈Uc x,n0≤q) (hn:n0≤h.size) (hl:m.ents.length≤100000)
 (hK:∀h' v',Jc (b::Y9.own v) h h'→h'[b]? = some (Jg JC Xh v')→Y9 n0 h' v' (J0++[x]) { m with ents:=m.ents++[e] }→(∀q∈Y9.own v',q∈Y9.own v∨h.size≤q)→K h'):ZAv.C (some ⟨b,0⟩) x h K:=by
 apply ZAv.c;unfold ZAv.m;refine Ji fun b1 h1 hb1 k1 e1 hs1 =>?_;have e1:h1[b1]? = some (Jg Jk JO x):=e1;have a1:=a.keep0 k1;have eb1:=k1.g eb;refine Jp (Jb (Z4 eb1).2.2.2.1 (Jb (Je e1) ?_));have xl:=a.x.len;have z1:=k1.1;refine jT (by_:=112) a1.e rfl (by omega) (fun h' k'=>(Z4 (k'.g eb1)).2.2.2.1) fun s2 h3 k3 r3 o3=>Jp ?_;refine Y9.putE eb1 a1 (hx.keep k1 (by simp)) ox (by omega) k3 r3 o3 fun h' v' k' e' m' o'=>hK h' v' (k1.then k' (by simp) (fun q hq _=>hq)) e' m' fun q hq =>?_;rcases o' q hq with h | h
 ·exact .inl h
 ·right;omega
def Y9.putO{n0 b:Nat}{v:Xh.Ty}{J0:List JO.Ty}{m:YV}{x:By}{h h3:Ja}{s2:Jn}{K:Hp} (eb:h[b]? = some (Jg JC Xh v)) (a:Y9 n0 h v J0 m) (hn:n0≤h.size)
 (k3:Jc (Go.Al.own v.2.2.2.2.2.1) h h3) (r3:JR h3 Jt .s s2 (m.objs.map bx++[bx x])) (o3:∀q∈Go.Al.own s2,q∈Go.Al.own v.2.2.2.2.2.1∨h.size≤q)
 (hK:∀h' v',Jc (b::Y9.own v) h h'→h'[b]? = some (Jg JC Xh v')→Y9 n0 h' v' J0 { m with objs:=m.objs++[x] }→(∀q∈Y9.own v',q∈Y9.own v∨h.size≤q)→K h'):Go.Al.st .sl ((Pl.mk b 0).fld 5) s2 h3 K:=by
 have nb:b∉Go.Al.own v.2.2.2.2.2.1:=QL a.o eb (by decide);have eb3:=k3.get eb nb;refine vf eb3 fun h4 k4 e4 hs4 =>?_;have kk:Jc (b::Go.Al.own v.2.2.2.2.2.1) h h4:=k3.then k4 (fun q hq _=>by simp[hq]) (fun q hq _=>by simp at hq;simp[hq])
 have tg:∀ {T:Nat},JC≠T→Jt≠T→∀q∈b::Go.Al.own v.2.2.2.2.2.1,∀c f,h[q]? ≠ some (.cells c T f):=fun h1' h2' q hq=>by
  rcases List.mem_cons.1 hq with rfl | hq
  ·exact QR (o := .cells #[] 0 (0,0)) eb (fun h=>h1' h.symm)
  ·exact Gh a.o h2' _ hq
 have kp:∀ {w:JO.Ty} {y:X6},VM h w y→VM h4 w y:=fun r=>r.keepS kk fun q hq T hT=>by rcases hT with rfl | rfl <;> exact tg (by decide) (by decide) q hq
 have nb3:b∉Go.Al.own s2:=QL r3 eb3 (by decide)
 refine hK h4 _ (kk.weak fun q hq _=>by
  rcases List.mem_cons.1 hq with h | h
  ·simp[h]
  ·simp[Y9.own,h]) e4 ⟨a.k,a.u,a.f,?_,a.oe,a.x.mono fun w y r=>⟨kp r.1,r.2⟩,?_,a.ow,?_,fun q hq =>?_⟩ fun q hq =>?_
 ·exact JZ (n0:=0) a.e kk (fun _ _=>YAV _) fun q hq => .inr (.inr (tg (by decide) (by decide) q hq))
 ·exact JZ (n0:=0) a.w kk (fun _ _=>YAV _) fun q hq => .inr (.inr (tg (by decide) (by decide) q hq))
 ·show JR h4 Jt .s s2 ((m.objs++[x]).map bx);rw[List.map_append];exact r3.keep k4 (fun q hq hm=>by simp at hm;subst hm;exact nb3 hq)
 ·rcases o3 q hq with h | h
  ·exact a.oo q h
  ·omega
 ·rcases List.mem_append.1 hq with h | h
  ·exact .inl (by simp only[Y9.own,YAK];exact .inl h)
  ·rcases o3 q h with h | h
   ·exact .inl (by simp only[Y9.own,YAK];exact .inr h)
   ·right;omega
def ZAw.s{n0 b:Nat}{v:Xh.Ty}{J0:List JO.Ty}{m:YV}{x:By}{h:Ja}{K:Hp} (eb:h[b]? = some (Jg JC Xh v)) (a:Y9 n0 h v J0 m) (hn:n0≤h.size) (hl:m.objs.length≤100000)
 (hK:∀h' v',Jc (b::Y9.own v) h h'→h'[b]? = some (Jg JC Xh v')→Y9 n0 h' v' J0 { m with objs:=m.objs++[x] }→(∀q∈Y9.own v',q∈Y9.own v∨h.size≤q)→K h'):ZAw.C (some ⟨b,0⟩) (bx x) h K:=by
 apply ZAw.c;unfold ZAw.m;refine Jp (Jb (Z4 eb).2.2.2.2.2 ?_);exact Vi (by_:=16) a.o rfl (by rw[YAH];omega) fun s2 h3 k3 r3 o3=>Jp (Y9.putO eb a hn k3 r3 o3 hK)
def ZAU.s{v:Xh.Ty}{J0:List JO.Ty}{m:YV}{h:Ja}{K:Ba→Hp} (a:Sl h v J0 m) (o:vI m) (hK:∀h',Jc [] h h'→K (bx (Ws m)) h'):ZAU.C v h K:=by
 apply ZAU.c;unfold ZAU.m;refine Ji fun b1 h1 hb1 k1 e1 hs1 =>?_;have e1:h1[b1]? = some (Jg JC Xh v):=e1;refine Jb (Je e1) ?_;refine ZCl.s (a.keep k1) o fun h2 k2 =>?_;have:=hK h2 (k1.n k2);unfold Ws at this;rw[apply_ite bx]at this;exact this
def ItX{α : Type} (k:Kd) (V:Nat→Ja→k.Ty → α → Prop) (it:Value) (h:Ja) (L:List α):Prop:=
 wO pG it∧∀(l:Nat) (H:Ja) (I:Nat→Hp) (St:Hp) (K:Hp),(∀j hh,I j hh→Jc [] h hh∧H.size≤hh.size)→(∀j hh hh',I j hh→Jc [] hh hh'→I j hh') →
  (∀j hh x K',(hj:j<L.length)→I j hh→V H.size hh x L[j]→(∀h',I (j+1) h'→K' true h')→(∀h',St h'→K' false h')→QH pG (yv l) [k.val x] .b hh K') →
  I 0 H→(∀h',I L.length h'→K h')→(∀h',St h'→K h')→QH pG it [yv l] .un H fun _ h'=>K h'
def CE(n0:Nat) (h:Ja) (v:JO.Ty) (e:X6):Prop:=VM h v e∧∀q∈Uc v,n0≤q
section
variable {n0 c t:Nat}{h:Ja}{mv:XU.Ty}{ps bs es:Jn}{J0:List JO.Ty}{C:Cn}
def chain_From.s{at_:Nat}{K:Value→Hp} (i:YK n0 h c t mv ps bs es J0 C) (o:ZA C) (hat:at_≤1000000)
 (hK:∀it h',Jc [] h h'→ItX JO CE it h' (C.all.drop at_)→K it h'):ZBu.C (some ⟨c,0⟩) (at_:Int) h K:=by
 apply ZBu.c;unfold ZBu.m;refine Ji fun b1 h1 hb1 k1 e1 hs1=>Ji fun b2 h2 hb2 k2 e2 hs2 =>?_;have e1:h1[b1]? = some (Jg MP .p (some ⟨c,0⟩)):=e1;have e2:h2[b2]? = some (Jg Qp .i (at_:Int)):=e2;have k02:Jc [] h h2:=k1.n k2;refine hK _ h2 k02 ⟨⟨ZAr.n,ZAr.fn,_,_,rfl,by kernel_rfl,by kernel_rfl,by kernel_rfl⟩,fun l H I St K' hk hkk hy h0 hend hst =>?_⟩;refine Qr (aa:=[yv l,Kd.p.val (some ⟨b2,0⟩),Kd.p.val (some ⟨b1,0⟩)]) (by rfl) ?_;show ZAr.C (yv l) ⟨b2,0⟩ ⟨b1,0⟩ H _;apply ZAr.c;unfold ZAr.m;have z02:=k02.1;have E1:=k2.g e1;refine Jb (Je ((hk _ _ h0).1.g e2)) ?_;have hmx:vL (at_:Int) 0=((at_:Nat):Int):=by unfold vL;split <;> omega
 rw[hmx];have al:=i.al;have xl:=i.x.len;have on:=o.n;refine JF (fun(y:Int×Unit) (hh:Ja)=>∃j:Nat,y.1=((at_+j:Nat):Int)∧j≤(C.all.drop at_).length∧I j hh) (fun(y:Int×Unit) _=>2000000-y.1.toNat) ?_ ?_
 ·exact⟨0,rfl,YAV _,h0⟩
 rintro⟨(ii:Int),_⟩ hh ⟨j,ej,hj,ij⟩;dsimp only at ej ⊢;subst ej;obtain⟨kh,zH⟩:=hk _ _ ij;have k0h:Jc [] h hh:=k02.n kh;have ih:=i.keep0 k0h;refine Jb (Je (kh.g E1)) (Jp (Jb ih.fa ?_));rw[YAG]at hj;by_cases hlt:at_+j<C.all.length
 case neg=>
  rw[Jd (show¬decide (((at_+j:Nat):Int)<(es.len:Int))=true from dn (by omega))];have:j=(C.all.drop at_).length:=by rw[YAG];omega
  rw[this]at ij;exact hend hh ij
 rw[Jf (show decide (((at_+j:Nat):Int)<(es.len:Int))=true from dT (by omega))];refine Jb (Je (kh.g E1)) (Jp (Jb ih.fa ?_));have hx:=ih.x.getI (i:=at_+j) (by omega) hlt;refine JK ih.a.seg (x:=J0[at_+j]'(by omega)) (by omega) (by rw[YAQ];exact YAC (by omega)) rfl ?_;have ha:=o.a _ (YAD (l:=C.all) hlt);obtain⟨_,_,pv,pt⟩:=GC ha.1;refine ZCI.s hx.1.at (by omega) (by omega) fun v' h3 k3 r3 o3 =>?_;have hd:(C.all.drop at_)[j]'(by rw[YAG];omega)=C.all[at_+j]:=by rw[List.getElem_drop]
 have z0h:=k0h.1;refine hy j h3 v' _ (by rw[YAG];omega) (hkk _ _ _ ij k3) ?_ (fun h' i' =>?_) (fun h' s' =>?_)
 ·rw[hd];exact⟨r3,fun q hq=>by have:=o3 q hq;omega⟩
 ·rw[Jd (by simp)];have hw:Jr (((at_+j:Nat):Int)+1)=((at_+(j+1):Nat):Int):=w6 (by omega);rw[hw];exact⟨⟨j+1,rfl,by rw[YAG];omega,i'⟩,by show 2000000-((at_+(j+1):Nat):Int).toNat<2000000-((at_+j:Nat):Int).toNat;omega⟩
 ·rw[Jf (by rfl)];exact hst h' s'
end
def CE.keepS{n0:Nat}{h h':Ja}{v:JO.Ty}{e:X6}{S:List Nat} (a:CE n0 h v e) (k:Jc S h h') (hS:∀b∈S,∀T,T=Qp∨T=Jh→∀c f,h[b]? ≠ some (.cells c T f)):CE n0 h' v e:=⟨a.1.keepS k hS,a.2⟩
def xz{l:By}:(IT l).1=(match(XP l).1 with | none=>none | some s=>UP s)∧(IT l).2=(XP l).2:=by
 unfold IT
 cases (XP l).1 <;> exact⟨rfl,rfl⟩
def ZBM.s{r:Nat}{l:By}{h:Ja}{K:Jn→Bool→Hp} (i:Zb h r l)
 (hbad:(l.length<1∨Ym IT (Qt l).1.toNat (Qt l).2 []=none)→∀h' rest,Jc [r] h h'→Zb h' r rest→K ⟨none,0,0⟩ false h')
 (hok:∀es rest,1≤l.length→Ym IT (Qt l).1.toNat (Qt l).2 []=some (es,rest)→∀h' s J0,Jc [r] h h'→Zb h' r rest→JR h' Jk JO s J0→(∀q∈own s,h.size≤q)→Qq (CE h.size h') J0 es→K s true h'):ZBM.C (some ⟨r,0⟩) h K:=by
 apply ZBM.c;unfold ZBM.m;refine Mt i fun er h1 k1 i1 her =>?_;have hn:=Z8 (l:=l);have h0:l.length<1→(Qt l).1=0:=fun h=>by unfold Qt;rw[Jf h]
 generalize Qt l=nl at *;obtain⟨n,l1⟩:=nl;dsimp only at *;have hnn:((n.toNat:Nat):Int)=n:=YAR hn.1;generalize n.toNat=N at *;subst hnn;have h0:l.length<1→N=0:=fun h=>Int.ofNat.inj (h0 h);have z1:=k1.1;refine JF (fun(y:Jn×Int×Unit) (hh:Ja)=>∃(t:Nat) (J0:List JO.Ty) (es:List X6) (rest:By),y.2.1=t∧t≤N∧(t=0→y.1=⟨none,0,0⟩)∧Jc [r] h hh∧Zb hh r rest∧JR hh Jk JO y.1 J0∧(∀q∈own y.1,h.size≤q)∧Qq (CE h.size hh) J0 es∧es.length=t∧Ym IT N l1 []=Ym IT (N-t) rest es) (fun(y:Jn×Int×Unit) _=>N-y.2.1.toNat) ?_ ?_
 ·exact⟨0,[],[],l1,rfl,YAV _,fun _=>rfl,k1,i1,.inl ⟨rfl,rfl⟩,by simp[own],trivial,rfl,rfl⟩
 rintro⟨(s:Jn),(ii:Int),_⟩ h2 ⟨t,J0,es,rest,et,ht,tz,k2,i2,r2,o2,x2,tl,hr⟩;dsimp only at et r2 o2 tz ⊢;subst et;by_cases hlt:t<N
 case neg=>
  rw[Jd (show¬decide ((t:Int)<(N:Int))=true from dn (by omega))];obtain rfl:t=N:=by omega
  rw[YAU,P2]at hr;by_cases h1:1≤l.length
  ·rw[dT (her.2 h1)];exact hok es rest h1 hr h2 s J0 k2 i2 r2 o2 x2
  ·rw[dF (fun h=>h1 (her.1 h))];have:=h0 (by omega);rw[tz (by omega)];exact hbad (.inl (by omega)) h2 rest k2 i2
 rw[Jf (show decide ((t:Int)<(N:Int))=true from dT (by omega))];have hw:Jr ((t:Int)+1)=((t+1:Nat):Int):=w6 (by omega);rw[hw];refine⟨_,?_,fun _ _ h=>h⟩;refine qh i2 fun er3 h4 k4 i4 her3 =>?_
 have ht2:(yK (XP rest).1).length≤65535:=by
  cases hx:(XP rest).1 with
  | none=>simp[yK]
  | some x=>exact(Gd hx).1
 refine ZDq.s (by omega) fun v er5 h5 k5 rv ov =>?_;refine Jq fun b1 h7 hb1 k7 e7 hs7 =>?_;have e7:h7[b1]? = some (Jg Jk JO v):=e7;have k27:Jc [r] h2 h7:=(k4.then k5 (fun q hq _=>hq) (by simp)).then k7 (fun q hq _=>hq) (by simp);have k07:Jc [r] h h7:=k2.then k27 (fun q hq _=>hq) (fun q hq _=>hq);have i7:=(i4.keep k5 (by simp)).keep k7 (by simp);rw[show N-t=(N-t-1)+1 by omega,P1]at hr;rw[xz.1,xz.2]at hr
 cases hx:(XP rest).1 with
 | none =>
   rw[hx]at hr her3;refine JH (true,()) h7 ?_ ?_
   ·rw[Jf (by simpa using fun h=>her3.1 h rfl)];exact⟨rfl,rfl⟩
   ·rw[Jf (by rfl)];exact hbad (.inr hr) h7 _ k07 i7
 | some x=>
 rw[hx]at hr her3 rv;have her3:=her3.2 (by simp);dsimp only[yK]at hr rv
 cases hg:UP x with
 | none =>
   rw[hg]at hr rv;have rv:er5≠0:=rv;refine JH (true,()) h7 ?_ ?_
   ·rw[Jd (by simpa using her3)];exact⟨by rw[dF rv];rfl,rfl⟩
   ·rw[Jf (by rfl)];exact hbad (.inr hr) h7 _ k07 i7
 | some e=>
 rw[hg]at hr rv;obtain⟨re,rv⟩:=rv;refine JH (false,()) h7 ?_ ?_
 ·rw[Jd (by simpa using her3)];exact⟨by rw[dT re];rfl,rfl⟩
 rw[Jd (by simp)];refine Jb (Je e7) ?_;obtain⟨rx,erx⟩:=i2.o;have r7:JR h7 Jk JO s J0:=r2.keep k27 fun q hq hm=>by simp at hm;subst hm;exact QL r2 erx (by decide) hq
 have xl:=x2.len;refine Vi (by_:=112) r7 rfl (by omega) fun s2 h10 k10 r10 o10 =>?_;have hS:∀q∈own s,∀T,T=Qp∨T=Jh→∀c f,h7[q]? ≠ some (.cells c T f):=fun q hq T hT=>Gh r7 (by rcases hT with rfl | rfl <;> decide) q hq;obtain⟨rx7,erx7⟩:=i7.o;have i10:=i7.keep k10 (QL r7 erx7 (by decide));have z5:=k2.1;have z4:=k4.1;have z7:=k07.1;have ee:CE h.size h10 v e:=⟨((rv.keep k7 (by simp)).keepS k10 hS),fun q hq=>by have:=ov q hq;omega⟩
 have x7:Qq (CE h.size h7) J0 es:=x2.mono fun a b x=>x.keepS k27 fun q hq T hT=>by
  simp at hq;subst hq;exact QR (o := .cells #[] 0 (0,0)) erx (by rcases hT with rfl | rfl <;> decide)
 refine⟨⟨t+1,J0++[v],es++[e],_,rfl,by omega,fun h=>by omega,k07.then k10 (fun q hq _=>hq) (fun q hq hl=>by have:=o2 q hq;omega),i10,r10,fun q hq =>?_,Qq.app (x7.mono fun a b x=>x.keepS k10 hS) ⟨ee,trivial⟩,by simp[tl],by rw[hr];rfl⟩,by show N-((t+1:Nat):Int).toNat<N-((t:Nat):Int).toNat;omega⟩;rcases o10 q hq with h | h
 ·exact o2 q h
 ·omega
def zd:Xh.Ty:=(0,(0,(0,(⟨none,0,0⟩,(⟨none,0,0⟩,(⟨none,0,0⟩,()))))))
def gU{α β : Type}{R : α → β → Prop}:∀ {la:List α}{lb:List β}{x : α},Qq R la lb→x∈la→∃y,R x y
 | a :: r, b :: s, x, h, hx => by
   rcases List.mem_cons.1 hx with rfl | hx
   ·exact⟨b,h.1⟩
   ·exact gU h.2 hx
structure MI (h hh:Ja) (b1 b2 b3:Nat) (v:Xh.Ty) (J0:List JO.Ty) (m:YV) (rest:By):Prop where
 k:Jc [] h hh
 e1:hh[b1]? = some (Jg JC Xh zd)
 r:Zb hh b2 rest
 e3:hh[b3]? = some (Jg JC Xh v)
 m:Y9 h.size hh v J0 m
 n1:h.size≤b1
 n2:h.size≤b2
 n3:h.size≤b3
 n13:b1≠b3
 d:∀y∈J0,∀q∈own y.2.2.2.2.1,q∉own v.2.2.2.2.1
section
variable {h hh h':Ja}{b1 b2 b3:Nat}{v:Xh.Ty}{J0:List JO.Ty}{m:YV}{rest:By}
def MI.keep0(g:MI h hh b1 b2 b3 v J0 m rest) (k:Jc [] hh h'):MI h h' b1 b2 b3 v J0 m rest:=
 ⟨g.k.n k,k.g g.e1,g.r.keep k (by simp),k.g g.e3,g.m.keep0 k,g.n1,g.n2,g.n3,g.n13,g.d⟩
def MI.rd{rest':By} (g:MI h hh b1 b2 b3 v J0 m rest) (k:Jc [b2] hh h') (i:Zb h' b2 rest'):MI h h' b1 b2 b3 v J0 m rest':=by
 obtain⟨x,ex⟩:=g.r.o;have a1:b1≠b2:=YT g.e1 ex (by decide);have a3:b3≠b2:=YT g.e3 ex (by decide)
 exact⟨g.k.new k (by simpa using g.n2),k.get g.e1 (by simpa using a1),i,k.get g.e3 (by simpa using a3),g.m.keep k (fun q hq=>by
  simp at hq;subst hq;exact .inr fun T hT=>QR (o := .cells #[] 0 (0,0)) ex (by rcases hT with rfl | rfl | rfl | rfl <;> decide)),g.n1,g.n2,g.n3,g.n13,g.d⟩
def MI.st{v':Xh.Ty} (g:MI h hh b1 b2 b3 v J0 m rest) (k:Jc [b3] hh h') (e:h'[b3]? = some (Jg JC Xh v')) (h1:v'.2.2.2=v.2.2.2):MI h h' b1 b2 b3 v' J0 { m with kind:=v'.1,user:=v'.2.1,frm:=v'.2.2.1 } rest:=by
 obtain⟨x,ex⟩:=g.r.o;have a3:b2≠b3:=YT ex g.e3 (by decide)
 have q:=g.m.keep k (fun q hq=>by
  simp at hq;subst hq;exact .inr fun T hT=>QR (o := .cells #[] 0 (0,0)) g.e3 (by rcases hT with rfl | rfl | rfl | rfl <;> decide))
 refine⟨g.k.new k (by simpa using g.n3),k.get g.e1 (by simpa using g.n13),g.r.keep k (by simpa using a3),e,⟨rfl,rfl,rfl,?_,?_,q.x,?_,?_,?_,?_⟩,g.n1,g.n2,g.n3,g.n13,?_⟩ <;> rw[h1]
 ·exact q.e
 ·exact q.oe
 ·exact q.w
 ·exact q.ow
 ·exact q.o
 ·exact q.oo
 ·exact g.d
def MI.setE{s:Jn}{evs':List JO.Ty}{es:List X6}{K:Hp} (g:MI h hh b1 b2 b3 v J0 m rest) (re:JR hh Jk JO s evs') (oe:∀q∈own s,h.size≤q) (x:Qq (CE h.size hh) evs' es) (hd:∀y∈evs',∀q∈own y.2.2.2.2.1,q∉own v.2.2.2.2.1)
 (hK:∀h' v',MI h h' b1 b2 b3 v' evs' { m with ents:=es } rest→K h'):Go.Al.st .sl ((Pl.mk b3 0).fld 3) s hh K:=by
 refine ve g.e3 fun h4 k4 e4 hs4 =>?_;obtain⟨y,ex⟩:=g.r.o;have a3:b2≠b3:=YT ex g.e3 (by decide)
 have tg:∀q∈[b3],∀T,T=Jk∨T=Qp∨T=Jh∨T=Jt→∀c f,hh[q]? ≠ some (.cells c T f):=fun q hq T hT=>by
  simp at hq;subst hq;exact QR (o := .cells #[] 0 (0,0)) g.e3 (by rcases hT with rfl | rfl | rfl | rfl <;> decide)
 have q:=g.m.keep k4 (fun q hq => .inr (tg q hq));exact hK h4 _ ⟨g.k.new k4 (by simpa using g.n3),k4.get g.e1 (by simpa using g.n13),g.r.keep k4 (by simpa using a3),e4,⟨q.k,q.u,q.f,JZ (n0:=0) re k4 (fun _ _=>YAV _) fun q hq => .inr (.inr (tg q hq _ (by simp))),oe,x.mono fun a b x=>x.keepS k4 fun q hq T hT=>tg q hq T (by rcases hT with rfl | rfl <;> simp),q.w,q.ow,q.o,q.oo⟩,g.n1,g.n2,g.n3,g.n13,hd⟩
def MI.addW{x:Qh}{K:Hp} (g:MI h hh b1 b2 b3 v J0 m rest) (hl:m.wants.length≤100000) (hK:∀h' v',MI h h' b1 b2 b3 v' J0 { m with wants:=m.wants++[x] } rest→K h') :
 bs Jh HK [x] hh fun s2 h14=>JB s2 (s2.len*32) h14 fun cs=>ap Jh HK 32 v.2.2.2.2.1 s2.len cs h14 fun s3 h15=>Go.Al.st .sl ((Pl.mk b3 0).fld 4) s3 h15 K:=by
 obtain⟨y,ex⟩:=g.r.o;refine Vi (by_:=32) g.m.w rfl (by omega) fun s3 h3 k3 r3 o3 =>?_;have nb:∀ {b:Nat} {T:Nat} {k:Kd} {z:k.Ty},hh[b]? = some (Jg T k z)→T≠Jh→b∉own v.2.2.2.2.1:=fun e hT=>QL g.m.w e hT;have e3:=k3.get g.e3 (nb g.e3 (by decide));have a3:b2≠b3:=YT ex g.e3 (by decide);refine gY e3 fun h4 k4 e4 hs4 =>?_;have z:=g.k.1;have k0:Jc [] h h4:=(g.k.new k3 g.m.ow).new k4 (by simpa using g.n3)
 have tg:∀q∈[b3],∀T,T=Jk∨T=Qp∨T=Jh∨T=Jt→∀c f,h3[q]? ≠ some (.cells c T f):=fun q hq T hT=>by
  simp at hq;subst hq;exact QR (o := .cells #[] 0 (0,0)) e3 (by rcases hT with rfl | rfl | rfl | rfl <;> decide)
 have kk:∀ {T:Nat} {kd:Kd} {s:Jn} {L:List kd.Ty},T=Jk∨T=Jt→JR hh T kd s L→JR h4 T kd s L:=fun hT r=>by
  have r1:=r.keep k3 (DD r g.m.w (by rcases hT with rfl | rfl <;> decide));exact JZ (n0:=0) r1 k4 (fun _ _=>YAV _) fun q hq => .inr (.inr (tg q hq _ (by rcases hT with rfl | rfl <;> simp)))
 refine hK h4 _ ⟨k0,k4.get (k3.get g.e1 (nb g.e1 (by decide))) (by simpa using g.n13),(g.r.keep k3 (nb ex (by decide))).keep k4 (by simpa using a3),e4,⟨g.m.k,g.m.u,g.m.f,kk (by simp) g.m.e,g.m.oe,Qq.monoM ?_ g.m.x,r3.keep k4 (fun q hq hm=>by simp at hm;subst hm;exact QL r3 e3 (by decide) hq),fun q hq =>?_,kk (by simp) g.m.o,g.m.oo⟩,g.n1,g.n2,g.n3,g.n13,?_⟩
 ·intro a ha b hb p;have r1:=p.1.w.keep k3 (DD p.1.w g.m.w (by decide));have r2:=p.1.t.keep k3 (g.d a ha);exact⟨⟨p.1.u,p.1.q,JZ (n0:=0) r1 k4 (fun _ _=>YAV _) fun q hq => .inr (.inr (tg q hq _ (by simp))),p.1.r,JZ (n0:=0) r2 k4 (fun _ _=>YAV _) fun q hq => .inr (.inr (tg q hq _ (by simp))),p.1.s⟩,p.2⟩
 ·rcases o3 q hq with h | h
  ·exact g.m.ow q h
  ·omega
 ·intro y hy q hq hm;rcases o3 q hm with h | h
  ·exact g.d y hy q hq h
  ·obtain⟨e,he⟩:=gU g.m.x hy;have:=he.1.t.lt q hq;omega
def MI.addO{x:By}{K:Hp} (g:MI h hh b1 b2 b3 v J0 m rest) (hl:m.objs.length≤100000) (hK:∀h' v',MI h h' b1 b2 b3 v' J0 { m with objs:=m.objs++[x] } rest→K h') :
 bs Jt .s [bx x] hh fun s2 h14=>JB s2 (s2.len*1) h14 fun cs=>ap Jt .s 16 v.2.2.2.2.2.1 s2.len cs h14 fun s3 h15=>Go.Al.st .sl ((Pl.mk b3 0).fld 5) s3 h15 K:=by
 obtain⟨y,ex⟩:=g.r.o;refine Vi (by_:=16) g.m.o rfl (by rw[YAH];omega) fun s3 h3 k3 r3 o3 =>?_;have nb:∀ {b:Nat} {T:Nat} {k:Kd} {z:k.Ty},hh[b]? = some (Jg T k z)→T≠Jt→b∉own v.2.2.2.2.2.1:=fun e hT=>QL g.m.o e hT;have e3:=k3.get g.e3 (nb g.e3 (by decide));have a3:b2≠b3:=YT ex g.e3 (by decide);refine vf e3 fun h4 k4 e4 hs4 =>?_;have z:=g.k.1;have k0:Jc [] h h4:=(g.k.new k3 g.m.oo).new k4 (by simpa using g.n3)
 have tg:∀q∈[b3],∀T,T=Jk∨T=Qp∨T=Jh∨T=Jt→∀c f,h3[q]? ≠ some (.cells c T f):=fun q hq T hT=>by
  simp at hq;subst hq;exact QR (o := .cells #[] 0 (0,0)) e3 (by rcases hT with rfl | rfl | rfl | rfl <;> decide)
 have kk:∀ {T:Nat} {kd:Kd} {s:Jn} {L:List kd.Ty},T=Jk∨T=Qp∨T=Jh→JR hh T kd s L→JR h4 T kd s L:=fun hT r=>by
  have r1:=r.keep k3 (DD r g.m.o (by rcases hT with rfl | rfl | rfl <;> decide));exact JZ (n0:=0) r1 k4 (fun _ _=>YAV _) fun q hq => .inr (.inr (tg q hq _ (by rcases hT with rfl | rfl | rfl <;> simp)))
 refine hK h4 _ ⟨k0,k4.get (k3.get g.e1 (nb g.e1 (by decide))) (by simpa using g.n13),(g.r.keep k3 (nb ex (by decide))).keep k4 (by simpa using a3),e4,⟨g.m.k,g.m.u,g.m.f,kk (by simp) g.m.e,g.m.oe,g.m.x.mono fun a b x=>⟨⟨x.1.u,x.1.q,kk (by simp) x.1.w,x.1.r,kk (by simp) x.1.t,x.1.s⟩,x.2⟩,kk (by simp) g.m.w,g.m.ow,?_,fun q hq =>?_⟩,g.n1,g.n2,g.n3,g.n13,g.d⟩
 ·show JR h4 Jt .s s3 ((m.objs++[x]).map bx);rw[List.map_append];exact r3.keep k4 (fun q hq hm=>by simp at hm;subst hm;exact QL r3 e3 (by decide) hq)
 ·rcases o3 q hq with h | h
  ·exact g.m.oo q h
  ·omega
def MI.bad{K:Xh.Ty→Int→Hp} (g:MI h hh b1 b2 b3 v J0 m rest) (hK:∀h',Jc [] h h'→K zd 2200 h'):Go.Al.st Xh (Pl.mk b1 0) zd hh fun h3=>ld Xh (Pl.mk b1 0) h3 fun x=>K x 2200 h3:=
 JL g.e1 fun h3 k3 e3 hs3=>Jb (Je e3) (hK h3 (g.k.new k3 (by simpa using g.n1)))
end
def ZBM.g{r:Nat}{l:By}{h:Ja}{K:Jn→Bool→Hp} (i:Zb h r l)
 (hK:∀(ok:Bool) es rest h' s J0,Jc [r] h h'→Zb h' r rest→JR h' Jk JO s J0→(∀q∈own s,h.size≤q)→Qq (CE h.size h') J0 es→(ok=true→1≤l.length∧Ym IT (Qt l).1.toNat (Qt l).2 []=some (es,rest))→(ok=false→l.length<1∨Ym IT (Qt l).1.toNat (Qt l).2 []=none)→K s ok h'):ZBM.C (some ⟨r,0⟩) h K:=
 ZBM.s i (fun hb h' rest k' i'=>hK false [] rest h' ⟨none,0,0⟩ [] k' i' (.inl ⟨rfl,rfl⟩) (by simp[own]) trivial (by simp) (fun _=>hb))
  fun es rest h1 hr h' s J0 k' i' r' o' x'=>hK true es rest h' s J0 k' i' r' o' x' (fun _=>⟨h1,hr⟩) (by simp)
def R0{l:By} (h:l.length<1):(Qt l).1=0∧(Qt l).2=[]:=by
 have:l=[]:=List.length_eq_zero_iff.1 (by omega);subst this;exact⟨rfl,rfl⟩
def ZBC.s{s:By}{h:Ja}{K:Xh.Ty→Int→Hp} (hz:s.length≤9223372036854775807)
 (hK:∀v er J0 h',Jc [] h h'→gm h.size h' v J0 er (W3 s)→K v er h'):ZBC.C (bx s) h K:=by
 rw[←wN]at hK;apply ZBC.c;unfold ZBC.m;refine Ji fun b1 h1 hb1 k1 e1 hs1 =>?_;have e1:h1[b1]? = some (Jg JC Xh zd):=e1;have hno:Se s=none→∀h',Jc [] h h'→K zd 2200 h':=fun hd h' k'=>hK zd 2200 [] h' k' (by rw[hd];exact show(2200:Int)≠0 by decide);have w1:h.size≤b1:=by omega
 rw[Js];by_cases hb:65536<s.length∨s.length<6∨s.take 2≠[77,71]
 ·have hd:Se s=none:=by unfold Se;rw[Jf hb]
  refine JH (true,()) h1 ?_ ?_
  ·refine jF (fun _=>⟨rfl,rfl⟩) fun hl0=>D1 (fun _=>⟨rfl,rfl⟩) fun hl=>⟨by decide,by omega,by rw[Js];omega,?_,rfl⟩;rw[Zo];have h2:s.take 2≠[77,71]:=(hb.resolve_left (by omega)).resolve_left (by omega);have:¬bx ((s.take 2).drop 0)=bx [77,71]:=fun e=>h2 (by rw[YAB]at e;exact MT.1 e);show((!decide (bx ((s.take 2).drop 0)=bx [77,71])),())=_;rw[dF this];rfl
  ·rw[Jf (by rfl)];exact JL e1 fun h3 k3 e3 hs3=>Jb (Je e3) (hno hd h3 (k1.new k3 (by simpa using w1)))
 have hl6:6≤s.length∧s.length≤65536:=by omega
 have h2:s.take 2=[77,71]:=by
  cases Classical.em (s.take 2=[77,71]) with
  | inl h=>exact h
  | inr h=>exact absurd (.inr (.inr h)) hb
 refine JH (false,()) h1 ?_ ?_
 ·refine jF (fun _=>by omega) fun hl0=>D1 (fun _=>by omega) fun hl=>⟨by decide,by omega,by rw[Js];omega,?_,rfl⟩;rw[Zo];show((!decide (bx ((s.take 2).drop 0)=bx [77,71])),())=_;rw[YAB,h2,dT rfl];rfl
 rw[Jd (by simp)]
 have hdE:Se s=CW (Qt (s.drop 2)).1 (Qt (Qt (s.drop 2)).2).1 (ZC (Qt (Qt (s.drop 2)).2).2).1 (ZC (Qt (Qt (s.drop 2)).2).2).2:=by
  unfold Se;rw[Jd hb]
 refine Ji fun b2 h3 hb2 k3 e3 hs3=>Ji fun b3 h5 hb3 k5 e5 hs5 =>?_;have e5:h5[b3]? = some (Jg JC Xh zd):=e5;have i3:Zb h3 b2 (s.drop 2):=⟨bx s,2,e3,by rw[Yx],by rw[Js];omega,by rw[Js];exact hz⟩;have g5:MI h h5 b1 b2 b3 zd [] ⟨0,0,0,[],[],[]⟩ (s.drop 2):=⟨(k1.n k3).n k5,k5.g (k3.g e1),i3.keep k5 (by simp),e5,Y9.nil,w1,by omega,by omega,by omega,by simp⟩;generalize s.drop 2=l0 at g5 hdE;refine Mt g5.r fun _ h6 k6 i6 _ =>?_;have g6:=g5.rd k6 i6;refine Mt g6.r fun _ h7 k7 i7 _ =>?_;have g7:=g6.rd k7 i7;refine qg g7.r fun _ h8 k8 i8 _ =>?_;have g8:=g7.rd k8 i8;have hk0:=Z8 (l:=l0);generalize (Qt l0).1=k at *;generalize (Qt (Qt l0).2).1=u at *;generalize ZC (Qt (Qt l0).2).2=nl at *;obtain⟨f,l4⟩:=nl;dsimp only at *;refine ZBM.g g8.r fun ok es r1 h9 se J0 k9 i9 re oe xe hgood hbad =>?_;have z8:=g8.k.1;have g9:=g8.rd k9 i9;refine gV g9.e3 fun h10 k10 e10 hs10 =>?_
 have tg:∀ {x:Ja} {y:Xh.Ty},x[b3]? = some (Jg JC Xh y)→∀q∈[b3],∀T,T=Jk∨T=Qp∨T=Jh∨T=Jt→∀c f,x[q]? ≠ some (.cells c T f):=fun e q hq T hT=>by
  simp at hq;subst hq;exact QR (o := .cells #[] 0 (0,0)) e (by rcases hT with rfl | rfl | rfl | rfl <;> decide)
 have kpE:∀ {x y:Ja} {w:Xh.Ty},Jc [b3] x y→x[b3]? = some (Jg JC Xh w)→JR x Jk JO se J0∧Qq (CE h8.size x) J0 es→JR y Jk JO se J0∧Qq (CE h8.size y) J0 es:=fun kk e a=>
  ⟨JZ (n0:=0) a.1 kk (fun _ _=>YAV _) fun q hq => .inr (.inr (tg e q hq _ (by simp))),a.2.mono fun v e' x=>x.keepS kk fun q hq T hT=>tg e q hq T (by rcases hT with rfl | rfl <;> simp)⟩
 have P:=kpE k10 g9.e3 ⟨re,xe⟩;have g10:=g9.st k10 e10 rfl;refine vd g10.e3 fun h11 k11 e11 hs11 =>?_;have P:=kpE k11 g10.e3 P;have g11:=g10.st k11 e11 rfl;refine gX g11.e3 fun h12 k12 e12 hs12 =>?_;have P:=kpE k12 g11.e3 P;have g12:=g11.st k12 e12 rfl;refine g12.setE P.1 (fun q hq=>YAT z8 (oe q hq)) (P.2.mono fun v e x=>⟨x.1,fun q hq=>YAT z8 (x.2 q hq)⟩) (by simp[own,zd]) fun h13 v13 g13 =>?_;dsimp only at g13;refine Mt g13.r fun er11 h14 k14 i14 her11 =>?_;have g14:=g13.rd k14 i14;have hn2:=Z8 (l:=r1);have hs2:=R0 (l:=r1)
 have hgood':ok=true→er11=0→Se s=match Ym WE (Qt r1).1.toNat (Qt r1).2 [] with
  | none=>none
  | some (ws,r)=>CX k u f es ws r:=fun ho he=>by
  obtain⟨q1,q2⟩:=hgood ho;rw[hdE];unfold CW;rw[Jd (by omega),q2];show EQ k u f es r1=_;unfold EQ;have:=her11.1 he;rw[Jd (by omega)]
  rfl
 have hbad':(ok=false∨er11≠0)→Se s=none:=fun hh=>by
  rw[hdE];unfold CW;by_cases q1:l4.length<1
  ·rw[Jf q1]
  rw[Jd q1]
  cases ho:ok with
  | false=>rw[(hbad ho).resolve_left q1]
  | true =>
    obtain⟨_,q2⟩:=hgood ho;rw[q2];show EQ k u f es r1=_;unfold EQ;have h11:er11≠0:=hh.resolve_left (by simp[ho]);have:¬1≤r1.length:=fun h=>h11 (her11.2 h);rw[Jf (by omega)]
 have hshort:er11≠0→r1.length<1:=fun h=>by
  have:¬1≤r1.length:=fun h'=>h (her11.2 h');omega
 generalize Qt r1=nl at *;obtain⟨n2,l5⟩:=nl;dsimp only at *;have hnn:((n2.toNat:Nat):Int)=n2:=YAR hn2.1;generalize n2.toNat=N at *;subst hnn;refine JF (fun(y:Bool×Int×Unit) (hh:Ja)=>∃(t:Nat) (v:Xh.Ty) (ws:List Qh) (rest:By),y.2.1=t∧MI h hh b1 b2 b3 v J0 ⟨k,u,f,es,ws,[]⟩ rest∧ws.length=t∧t≤300∧((y.1=true∧ok=true∧er11=0∧t≤N∧Ym WE N l5 []=Ym WE (N-t) rest ws)∨(Se s=none∧(y.1=false∨er11≠0∧N=0∧rest=[])))) (fun(y:Bool×Int×Unit) _=>1000-y.2.1.toNat) ?_ ?_
 ·refine⟨0,_,[],l5,rfl,g14,rfl,by omega,?_⟩;by_cases ho:ok=true
  ·by_cases he:er11=0
   ·exact .inl ⟨ho,ho,he,YAV _,rfl⟩
   ·have:=hs2 (hshort he);exact .inr ⟨hbad' (.inr he),.inr ⟨he,Int.ofNat.inj this.1,this.2⟩⟩
  ·exact .inr ⟨hbad' (.inl (by simpa using ho)),.inl (by simpa using ho)⟩
 rintro⟨(okf:Bool),(ii:Int),_⟩ h15 ⟨t,v,ws,rest,et,g15,wl,ht3,hst⟩;dsimp only at et hst ⊢;subst et;refine JH (decide (t<N)&&okf,()) h15 ?_ ?_
 ·refine D1 (fun c=>⟨by rw[dT (by omega),YAX],rfl⟩) fun c=>⟨by rw[dF (by omega),Bool.false_and],rfl⟩
 by_cases hrun:t<N∧okf=true
 ·rw[Jf (by rw[dT hrun.1,hrun.2];rfl)]
  have hA:okf=true∧ok=true∧er11=0∧t≤N∧Ym WE N l5 []=Ym WE (N-t) rest ws:=by
   rcases hst with h | ⟨_,h | h⟩
   ·exact h
   ·rw[hrun.2]at h;cases h
   ·omega
  obtain⟨_,a1,a2,a3,hr⟩:=hA;have hw:Jr ((t:Int)+1)=((t+1:Nat):Int):=w6 (by omega);rw[hw];refine qf g15.r fun er h17 k17 i17 her =>?_;have g17:=g15.rd k17 i17;refine Jq fun b4 h19 hb4 k19 e19 hs19 =>?_;have e19:h19[b4]? = some (Jg Jh HK (wb (WE rest).1)):=e19;have g19:=g17.keep0 k19;refine Jb (Z4 g19.e3).2.2.2.2.1 (Jb (Je e19) ?_);refine g19.addW (by show ws.length≤_;omega) fun h22 v' g22 =>?_;rw[show N-t=(N-t-1)+1 by omega,P1]at hr;refine⟨⟨t+1,v',_,_,rfl,g22,by simp[wl],by omega,?_⟩,by show 1000-((t+1:Nat):Int).toNat<1000-((t:Nat):Int).toNat;omega⟩
  cases hx:(WE rest).1 with
  | none =>
    rw[hx]at hr her;refine .inr ⟨?_,.inl (by show decide (er=0)=false;exact dF fun h=>her.1 h rfl)⟩;rw[hgood' a1 a2,hr]
  | some z =>
    rw[hx]at hr her;exact .inl ⟨by show decide (er=0)=true;exact dT (her.2 (by simp)),a1,a2,by omega,by rw[hr];rfl⟩
 rw[Jd (by
  intro hc;simp only[YAW,Qg]at hc;exact hrun hc)]
 refine Mt g15.r fun er17 h23 k23 i23 her17 =>?_;have g23:=g15.rd k23 i23;have hn3:=Z8 (l:=rest);have hs3:=R0 (l:=rest)
 have hst3:(okf=true∧er11=0∧er17=0∧Se s=match Ym XP (Qt rest).1.toNat (Qt rest).2 [] with
  | none=>none
  | some (os,r)=>if r=[]∧0≤k∧k≤6 then some ⟨k,u,f,es,ws,os⟩ else none)∨(Se s=none∧(okf=false∨er11≠0∨er17≠0)∧(okf=true→(Qt rest).1=0)):=by
  rcases hst with⟨a0,a1,a2,a3,hr⟩ | ⟨hd,h | ⟨h1,h2,h3⟩⟩
  ·have:t=N:=by
    have:¬t<N:=fun h=>hrun ⟨h,a0⟩;omega
   subst this;rw[YAU,P2]at hr;have hq:=hgood' a1 a2;rw[hr]at hq;have hq:Se s=CX k u f es ws rest:=hq;unfold CX at hq;by_cases he:er17=0
   ·have:=her17.1 he;rw[Jd (by omega)]at hq;exact .inl ⟨a0,a2,he,hq⟩
   ·have:¬1≤rest.length:=fun h=>he (her17.2 h);rw[Jf (by omega)]at hq;exact .inr ⟨hq,.inr (.inr he),fun _=>(hs3 (by omega)).1⟩
  ·exact .inr ⟨hd,.inl h,fun h'=>by rw[h]at h';cases h'⟩
  ·refine .inr ⟨hd,.inr (.inl h1),fun _=>(hs3 (by rw[h3];decide)).1⟩
 clear hst hrun
 generalize Qt rest=nl at *;obtain⟨n3,l6⟩:=nl;dsimp only at *;have hnn:((n3.toNat:Nat):Int)=n3:=YAR hn3.1;generalize n3.toNat=M at *;subst hnn
 refine JF (fun(y:Bool×Int×Unit) (hh:Ja)=>∃(t:Nat) (v:Xh.Ty) (os:List By) (rest:By),y.2.1=t∧MI h hh b1 b2 b3 v J0 ⟨k,u,f,es,ws,os⟩ rest∧os.length=t∧t≤300∧((y.1=true∧er11=0∧er17=0∧t≤M∧Ym XP M l6 []=Ym XP (M-t) rest os∧Se s=match Ym XP M l6 [] with
  | none=>none
  | some (os,r)=>if r=[]∧0≤k∧k≤6 then some ⟨k,u,f,es,ws,os⟩ else none)∨(Se s=none∧(y.1=false∨er11≠0∨er17≠0)∧(y.1=true→M=0)))) (fun(y:Bool×Int×Unit) _=>1000-y.2.1.toNat) ?_ ?_
 ·refine⟨0,_,[],l6,rfl,g23,rfl,by omega,?_⟩;rcases hst3 with⟨a,b,c,d⟩ | ⟨a,b,c⟩
  ·exact .inl ⟨a,b,c,YAV _,rfl,d⟩
  ·exact .inr ⟨a,b,fun h=>Int.ofNat.inj (c h)⟩
 rintro⟨(okg:Bool),(ii:Int),_⟩ h24 ⟨t',v4,os,rest4,et,g24,ol,ht4,hst4⟩;dsimp only at et hst4 ⊢;subst et;refine JH (decide (t'<M)&&okg,()) h24 ?_ ?_
 ·refine D1 (fun c=>⟨by rw[dT (by omega),YAX],rfl⟩) fun c=>⟨by rw[dF (by omega),Bool.false_and],rfl⟩
 by_cases hrun:t'<M∧okg=true
 ·rw[Jf (by rw[dT hrun.1,hrun.2];rfl)];obtain⟨a0,a1,a2,a3,hr,hd⟩:=hst4.resolve_right (fun⟨_,_,h⟩=>by have:=h hrun.2;omega);have hw:Jr ((t':Int)+1)=((t'+1:Nat):Int):=w6 (by omega);rw[hw];refine qh g24.r fun er h26 k26 i26 her =>?_;have g26:=g24.rd k26 i26;refine Jb (Z4 g26.e3).2.2.2.2.2 ?_;refine g26.addO (by show os.length≤_;omega) fun h29 v' g29 =>?_;rw[show M-t'=(M-t'-1)+1 by omega,P1]at hr;refine⟨⟨t'+1,v',_,_,rfl,g29,by simp[ol],by omega,?_⟩,by show 1000-((t'+1:Nat):Int).toNat<1000-((t':Nat):Int).toNat;omega⟩
  cases hx:(XP rest4).1 with
  | none =>
    rw[hx]at hr her;have hf:decide (er=0)=false:=dF fun h=>her.1 h rfl;refine .inr ⟨?_,.inl hf,fun h =>?_⟩
    ·rw[hd,hr]
    ·have h:decide (er=0)=true:=h;rw[hf]at h;cases h
  | some z =>
    rw[hx]at hr her;exact .inl ⟨by show decide (er=0)=true;exact dT (her.2 (by simp)),a1,a2,by omega,by rw[hr];rfl,hd⟩
 rw[Jd (by
  intro hc;simp only[YAW,Qg]at hc;exact hrun hc)]
 rcases hst4 with⟨a0,a1,a2,a3,hr,hd⟩ | ⟨hd,hw,_⟩
 ·have:t'=M:=by
   have:¬t'<M:=fun h=>hrun ⟨h,a0⟩;omega
  subst this;rw[YAU,P2]at hr;rw[hr]at hd;dsimp only at hd;subst a0;by_cases hfin:rest4=[]∧0≤k∧k≤6
  ·rw[Jf hfin]at hd;obtain⟨q1,q2,q3⟩:=hfin;have F:=(Z4 g24.e3).1;rw[g24.m.k]at F;refine JH (false,()) h24 ?_ ?_
   ·rw[Jd (by simp),Jd (by simpa using a1),Jd (by simpa using a2)];refine ZB9.s g24.r ?_;rw[q1,Jd (by simp)];refine Jb F (D1 (fun c=>by have c:k<0:=c;omega) fun c=>Jb F ⟨?_,rfl⟩);show(decide (k>6),())=_;rw[dF (by omega)]
   rw[Jd (by simp)];refine Jb (Je g24.e3) (JL g24.e1 fun h33 k33 e33 hs33=>Jb (Je e33) ?_);rw[hd]at hK;refine hK _ 0 J0 h33 (g24.k.new k33 (by simpa using g24.n1)) ⟨rfl,g24.m.keep k33 fun q hq =>?_⟩;simp at hq;subst hq;exact .inr fun T hT=>QR (o := .cells #[] 0 (0,0)) g24.e1 (by rcases hT with rfl | rfl | rfl | rfl <;> decide)
  ·rw[Jd hfin]at hd;have F:=(Z4 g24.e3).1;rw[g24.m.k]at F;refine JH (true,()) h24 ?_ ?_
   ·rw[Jd (by simp),Jd (by simpa using a1),Jd (by simpa using a2)];refine ZB9.s g24.r ?_;by_cases q1:rest4=[]
    ·rw[q1,Jd (by simp)];refine Jb F (D1 (fun c=>⟨rfl,rfl⟩) fun c=>Jb F ⟨?_,rfl⟩);show(decide (k>6),())=_;have c:0≤k:=c
     rw[dT (show k>6 by
      have:¬(k≤6):=fun h=>hfin ⟨q1,c,h⟩;omega)]
    ·have:rest4.length≠0:=fun h=>q1 (List.length_eq_zero_iff.1 h);rw[Jf (by simpa using q1)];exact⟨rfl,rfl⟩
   ·rw[Jf (by rfl)];exact g24.bad (hno hd)
 ·refine JH (true,()) h24 ?_ ?_
  ·cases ho:okg with
   | false=>rw[Jf (by rfl)];exact⟨rfl,rfl⟩
   | true =>
     rw[Jd (by simp)];by_cases h1:er11=0
     ·rw[Jd (by simpa using h1)]
      have h7:er17≠0:=by
       rcases hw with h | h | h
       ·rw[ho]at h;cases h
       ·exact absurd h1 h
       ·exact h
      rw[Jf (by simpa using h7)];exact⟨rfl,rfl⟩
     ·rw[Jf (by simpa using h1)];exact⟨rfl,rfl⟩
  ·rw[Jf (by rfl)];exact g24.bad (hno hd)
abbrev Tm:Kd := .ag (.pr .p (.pr .p (.pr .i (.pr .i (.pr .i .un)))))
def server_held.s{b st r:Nat}{os:List Ba}{v:Tm.Ty}{ws:Jn}{W:List Qh}{h:Ja}{K:Value→Hp} (eb:h[b]? = some (Jg Xk Tm v)) (ev:v.2.1=some ⟨st,0⟩) (i:Zf h st r os) (g:Q5 (.ar 32 .u8) ws W h) (hl:W.length≤1000000)
 (hK:∀it h',Jc [] h h'→ItX .s (fun _ _ x a=>x=bx a) it h' (W.map (PA os))→K it h'):ZBq.C (some ⟨b,0⟩) ws h K:=by
 apply ZBq.c;unfold ZBq.m;refine Ji fun b1 h1 hb1 k1 e1 hs1=>Ji fun b2 h2 hb2 k2 e2 hs2 =>?_;have e1:h1[b1]? = some (Jg IM .p (some ⟨b,0⟩)):=e1;have e2:h2[b2]? = some (Jg UD .sl ws):=e2;have k02:Jc [] h h2:=k1.n k2;refine hK _ h2 k02 ⟨⟨ZAg.n,ZAg.fn,_,_,rfl,by kernel_rfl,by kernel_rfl,by kernel_rfl⟩,fun l H I St K' hk hkk hy h0 hend hst =>?_⟩;refine Qr (aa:=[yv l,Kd.p.val (some ⟨b2,0⟩),Kd.p.val (some ⟨b1,0⟩)]) (by rfl) ?_;show ZAg.C (yv l) ⟨b2,0⟩ ⟨b1,0⟩ H _;apply ZAg.c;unfold ZAg.m;have E1:=k2.g e1;refine Jb (Je ((hk _ _ h0).1.g e2)) ?_;have gl:=g.len;refine JF (fun(y:Int×Unit) (hh:Ja)=>∃j:Nat,y.1=((j:Nat):Int)∧j≤W.length∧I j hh) (fun(y:Int×Unit) _=>2000000-y.1.toNat) ?_ ?_
 ·exact⟨0,rfl,YAV _,h0⟩
 rintro⟨(ii:Int),_⟩ hh ⟨j,ej,hj,ij⟩;dsimp only at ej ⊢;subst ej;obtain⟨kh,zH⟩:=hk _ _ ij;have k0h:Jc [] h hh:=k02.n kh;by_cases hlt:j<W.length
 case neg=>
  rw[Jd (show¬decide (((j:Nat):Int)<(ws.len:Int))=true from dn (by omega))];have:j=(W.map (PA os)).length:=by rw[YAH];omega
  rw[this]at ij;exact hend hh ij
 rw[Jf (show decide (((j:Nat):Int)<(ws.len:Int))=true from dT (by omega))];refine JK (g.keep (by decide) k0h) (x:=W[j]) (by omega) (by rw[YAQ];exact YAC hlt) rfl ?_;refine Jq fun b3 h3 hb3 k3 e3 hs3 =>?_;have e3:h3[b3]? = some (Jg Jh HK W[j]):=e3;have kh3:Jc [] h2 h3:=kh.n k3;have k03:Jc [] h h3:=k0h.n k3;refine Jb (Je (kh3.g E1)) (Jp (Jb (Jv (n:=1) (k' := .p) (y:=some ⟨st,0⟩) (k03.g eb) (by rw[←ev];rfl) (by decide)) (Jb (Je e3) ?_)));refine ZA8.s (i.keep0 k03) fun h4 k4 =>?_;refine hy j h4 _ _ (by rw[YAH];omega) (hkk _ _ _ (hkk _ _ _ ij k3) k4) (by rw[List.getElem_map]) (fun h' i' =>?_) (fun h' s' =>?_)
 ·rw[Jd (by simp)];have hw:Jr (((j:Nat):Int)+1)=((j+1:Nat):Int):=w6 (by omega);rw[hw];exact⟨⟨j+1,rfl,by omega,i'⟩,by show 2000000-((j+1:Nat):Int).toNat<2000000-((j:Nat):Int).toNat;omega⟩
 ·rw[Jf (by rfl)];exact hst h' s'
def VT{α : Type}{mk:List α → YV}{L:List α}{j:Nat} (hj:j<L.length) (hp:Q3 (mk (L.take j++[L[j]]))=true):WC mk (L.take j) (L.drop j)=WC mk (L.take (j+1)) (L.drop (j+1)):=by
 rw[List.drop_eq_getElem_cons hj,YAO hj];show(if Q3 (mk (L.take j++[L[j]]))=true then _ else _)=_;rw[Jf hp]
def RD{α : Type}{mk:List α → YV}{L:List α}{j:Nat} (hj:j<L.length) (hp:¬Q3 (mk (L.take j++[L[j]]))=true):WC mk (L.take j) (L.drop j)=L.take j:=by
 rw[List.drop_eq_getElem_cons hj];show(if Q3 (mk (L.take j++[L[j]]))=true then _ else _)=_;rw[Jd hp]
def U0{m:YV} (h:Q3 m=true):Ws m=JQ m:=by unfold Ws;rw[Jf h]
def ZAb.s{k u f:Int}{it:Value}{L:List X6}{h:Ja}{K:Ba→Hp} (hit:ItX JO CE it h L) (hv:∀e∈L,e.vec.length≤9223372036854775806) (hl:L.length≤10000)
 (hK:∀h',Jc [] h h'→K (bx (Ws ((fun acc=>(⟨k,u,f,acc,[],[]⟩:YV)) (WC (fun acc=>(⟨k,u,f,acc,[],[]⟩:YV)) [] L)))) h'):ZAb.C ((k,(u,(f,(⟨none,0,0⟩,(⟨none,0,0⟩,(⟨none,0,0⟩,())))))):Xh.Ty) it (.func (.func ZAv.n) #[] #[]) h K:=by
 apply ZAb.c;unfold ZAb.m;generalize hmk:(fun acc:List X6=>(⟨k,u,f,acc,[],[]⟩:YV))=mk at hK;have mkE:∀acc,mk acc=⟨k,u,f,acc,[],[]⟩:=fun acc=>by rw[←hmk]
 refine Ji fun b1 h1 hb1 k1 e1 hs1=>Ji fun b2 h2 hb2 k2 e2 hs2 =>?_;have e1:h1[b1]? = some (Jg JC Xh ((k,(u,(f,(⟨none,0,0⟩,(⟨none,0,0⟩,(⟨none,0,0⟩,())))))):Xh.Ty)):=e1;have e2:h2[b2]? = some (Jg YS .f (.func (.func ZAv.n) #[] #[])):=e2;have E1:=k2.g e1;have k02:Jc [] h h2:=k1.n k2;refine Jb (Je E1) ?_;refine ZAU.s (Y9.nil (n0:=h.size)).at ⟨by simp,by simp,by simp,by simp⟩ fun h3 k3 =>?_;refine Jq fun b3 h5 hb3 k5 e5 hs5 =>?_;have e5:h5[b3]? = some (Jg Jt .s (bx (Ws (mk [])))):=by rw[mkE];exact e5
 have k03:Jc [] h h3:=k02.n k3;have k05:Jc [] h h5:=k03.n k5;have k25:Jc [] h2 h5:=k3.n k5;have E1:=k25.g E1;have E2:=k25.g e2;have z02:=k02.1;have z03:=k03.1;have z05:=k05.1;have l1:=Jl E1;have l2:=Jl E2;have l3:=Jl e5;have z1:=k1.1;have z25:=k25.1;have z3:=k3.1;have nn:b1≠b2∧b1≠b3∧b2≠b3∧h.size≤b1∧h.size≤b2∧h.size≤b3:=by omega
 obtain⟨n12,n13,n23,w1,w2,w3⟩:=nn;refine Qd (fun y h'=>∃d:Nat,y=([d],())∧h'[d]? = some (.deferred (some []))∧h.size≤d∧d≠b3∧Jc [] h h'∧h'[b3]? = some (Jg Jt .s (bx (Ws (mk (WC mk [] L)))))) ?_ ?_
 ·refine⟨hit.1,fun o hyd =>?_⟩;generalize hl':h5.size+1=l at hyd ⊢;have kH:Jc [] h5 ((h5.push (.deferred (some []))).push (o .ready)):=Ju.trans Ju;have hsz8:(h5.push (.deferred (some []))).size=h5.size+1:=by simp
  have eL:((h5.push (.deferred (some []))).push (o .ready))[l]? = some (o .ready):=by rw[←hl',←hsz8];exact JA
  have eN:((h5.push (.deferred (some []))).push (o .ready))[h5.size]? = some (.deferred (some [])):=Yq JA;have szH:((h5.push (.deferred (some []))).push (o .ready)).size=h5.size+2:=by simp
  generalize ((h5.push (.deferred (some []))).push (o .ready))=H at kH eL eN szH ⊢;generalize hd0:h5.size=d0 at *;have k0H:Jc [] h H:=k05.n kH;have nl:b1≠l∧b2≠l∧b3≠l∧d0≠l∧d0≠b1∧d0≠b3∧h.size≤l∧h.size≤d0∧l<H.size∧b1<H.size∧b2<H.size∧b3<H.size∧d0<H.size:=by omega
  obtain⟨n1l,n2l,n3l,ndl,nd1,nd3,wl,wd,xl,x1,x2,x3,xd⟩:=nl
  refine hit.2 l H (fun j hh=>Jc [] h hh∧H.size≤hh.size∧hh[l]? = some (o .ready)∧hh[d0]? = some (.deferred (some []))∧hh[b2]? = some (Jg YS .f (.func (.func ZAv.n) #[] #[]))∧hh[b3]? = some (Jg Jt .s (bx (Ws (mk (L.take j)))))∧(WC mk [] L=WC mk (L.take j) (L.drop j))∧∃v J0,hh[b1]? = some (Jg JC Xh v)∧Y9 H.size hh v J0 (mk (L.take j)))
   (fun h'=>Jc [] h h'∧h'[l]? = some (o .brk)∧h'[d0]? = some (.deferred (some []))∧h'[b3]? = some (Jg Jt .s (bx (Ws (mk (WC mk [] L)))))) _ ?_ ?_ ?_ ?_ ?_ ?_
  ·rintro j hh ⟨kk,zz,_⟩;exact⟨kk,zz⟩
  ·rintro j hh hh' ⟨a2,a3,a4,a5,a6,a7,a8,v,J0,a9,a10⟩ kk;exact⟨a2.n kk,YAT a3 kk.1,kk.g a4,kk.g a5,kk.g a6,kk.g a7,a8,v,J0,kk.g a9,a10.keep0 kk⟩
  ·rintro j hh x K' hj ⟨a2,a3,a4,a5,a6,a7,a8,v,J0,a9,a10⟩ hx hgo hstop;have zh:=a2.1;have lh:=Jl a4;refine hyd (x,()) hh K' a4 ?_;refine Jq fun b4 h13 hb4 k13 e13 hs13 =>?_;have e13:h13[b4]? = some (Jg Jk JO x):=e13;have n4l:b4≠l:=by omega
   refine⟨k13.g a4,?_⟩;have kl:Jc [l] h13 (h13.setIfInBounds l (o .busy)):=Jo;have el:=Jw (o':=o .busy) (k13.g a4);have e8:=kl.get e13 (by simpa using n4l);generalize h13.setIfInBounds l (o .busy)=h8 at kl el e8 ⊢;have kA:Jc [l] hh h8:=k13.then kl (by simp) (fun q hq _=>hq);have zA:=kA.1;have m8:=a10.keep kA (fun q hq=>by simp at hq;subst hq;exact .inl xl);have q1:=kA.get a9 (by simpa using n1l);have q2:=kA.get a6 (by simpa using n2l);have q3:=kA.get a7 (by simpa using n3l);have qd:=kA.get a5 (by simpa using ndl);have k08:Jc [] h h8:=a2.new kA (by simpa using wl);have hlen:(L.take j).length≤j:=by simp;omega
   refine Jb (Je q2) ?_;refine Jb (Je e8) ?_;refine Qr (aa:=[Kd.p.val (some (Pl.mk b1 0)),JO.val x]) (by rfl) ?_;show ZAv.C (some ⟨b1,0⟩) x h8 _;refine ZAv.s q1 m8 (hx.1.keep kA fun q hq hm=>by simp at hm;have:=hx.2 q hq;omega) hx.2 (by omega) (by rw[mkE];show(L.take j).length≤100000;omega) fun h14 v' k14 e14 m14 o14 =>?_;have hm':{ mk (L.take j) with ents:=(mk (L.take j)).ents++[L[j]] }=mk (L.take j++[L[j]]):=by rw[mkE,mkE]
   rw[hm']at m14
   have ol:∀q∈b1::Y9.own v,q≠l∧q≠d0∧q≠b2∧q≠b3∧h.size≤q:=fun q hq=>by
    rcases List.mem_cons.1 hq with h | h
    ·omega
    ·have:H.size≤q:=by
      rcases List.mem_append.1 h with h | h
      ·exact a10.oe q h
      ·exact a10.oo q h
     omega
   have g:∀ {b:Nat} {ob:Obj},h8[b]? = some ob→(b=l∨b=d0∨b=b2∨b=b3)→h14[b]? = some ob:=fun e hb=>k14.get e fun hm=>by have:=ol _ hm;omega
   have k014:Jc [] h h14:=k08.new k14 fun q hq=>(ol q hq).2.2.2.2;refine Jb (Je e14) ?_
   refine ZCl.s m14.at ⟨fun e he=>hv e (by
    rw[mkE]at he;have he:e∈L.take j++[L[j]]:=he;rcases List.mem_append.1 he with h | h
    ·exact List.take_subset _ _ h
    ·simp at h;subst h;exact YAD hj),by rw[mkE];simp;omega,by rw[mkE];simp,by rw[mkE];simp⟩ fun h15 k15 =>?_
   have k015:Jc [] h h15:=k014.n k15;have z8:=k14.1;have z15:=k15.1;have l15:=k15.g (g el (.inl rfl));have d15:=k15.g (g qd (.inr (.inl rfl)));have c15:=k15.g (g q2 (.inr (.inr (.inl rfl))));have s15:=k15.g (g q3 (.inr (.inr (.inr rfl))));by_cases hp:Q3 (mk (L.take j++[L[j]]))=true
   ·rw[Jf hp,Jf hp,Jd (by simp)];refine JL s15 fun h16 k16 e16 hs16 =>?_;have k016:Jc [] h h16:=k015.new k16 (by simpa using w3);have l16:=k16.get l15 (by simpa using n3l.symm);refine⟨l16,hgo _ ?_⟩;have kr:Jc [l] h16 (h16.setIfInBounds l (o .ready)):=Jo;have lr:=Jw (o':=o .ready) l16;generalize h16.setIfInBounds l (o .ready)=h17 at kr lr ⊢;have z16:=k16.1;have z17:=kr.1;refine⟨k016.new kr (by simpa using wl),by omega,lr,kr.get (k16.get d15 (by simpa using nd3)) (by simpa using ndl),kr.get (k16.get c15 (by simpa using n23)) (by simpa using n2l),?_,?_,v',J0++[x],kr.get (k16.get (k15.g e14) (by simpa using n13)) (by simpa using n1l),?_⟩
    ·rw[YAO hj,U0 hp];exact kr.get e16 (by simpa using n3l)
    ·rw[a8];exact VT hj hp
    ·rw[YAO hj];exact((m14.keep0 k15).keep k16 (fun q hq=>by simp at hq;subst hq;exact .inl x3)).keep kr (fun q hq=>by simp at hq;subst hq;exact .inl xl)
   ·rw[Jd hp,Jd hp,Jf (by decide)];refine⟨l15,hstop _ ?_⟩;have kr:Jc [l] h15 (h15.setIfInBounds l (o .brk)):=Jo;have lr:=Jw (o':=o .brk) l15;generalize h15.setIfInBounds l (o .brk)=h17 at kr lr ⊢;refine⟨k015.new kr (by simpa using wl),lr,kr.get d15 (by simpa using ndl),?_⟩;rw[a8,RD hj hp];exact kr.get s15 (by simpa using n3l)
  ·refine⟨k0H,YAS _,eL,eN,kH.g E2,?_,?_,_,[],kH.g E1,?_⟩
   ·rw[YAP];exact kH.g e5
   ·rw[YAP,YAB]
   ·rw[YAP,mkE];exact Y9.nil
  ·rintro h' ⟨a2,a3,a4,a5,a6,a7,a8,_⟩;refine .inl ⟨a4,?_⟩;have kr:Jc [l] h' (h'.setIfInBounds l (o (.over false))):=Jo;generalize h'.setIfInBounds l (o (.over false))=h17 at kr ⊢;refine⟨d0,rfl,kr.get a5 (by simpa using ndl),wd,nd3,a2.new kr (by simpa using wl),?_⟩;rw[YAN (YAS _)]at a7 a8;rw[YAA (YAS _)]at a8;rw[a8];exact kr.get a7 (by simpa using n3l)
  ·rintro h' ⟨a2,a4,a5,a7⟩;refine .inr (.inr ⟨a4,?_⟩);have kr:Jc [l] h' (h'.setIfInBounds l (o .ovx)):=Jo;generalize h'.setIfInBounds l (o .ovx)=h17 at kr ⊢;exact⟨d0,rfl,kr.get a5 (by simpa using ndl),wd,nd3,a2.new kr (by simpa using wl),kr.get a7 (by simpa using n3l)⟩
 ·rintro _ h6 ⟨d,rfl,ed,wd,nd,k6,e6⟩;refine Jb (Je e6) ?_;refine Cb (by intro q hq;simp at hq;subst hq;exact ed) (by simp) fun h7 k7 =>?_;exact hK h7 (k6.new k7 (by simpa using wd))
def ZAx.s{k u f:Int}{it:Value}{L:List By}{h:Ja}{K:Ba→Hp} (hit:ItX .s (fun _ _ x a=>x=bx a) it h L) (hl:L.length≤10000)
 (hK:∀h',Jc [] h h'→K (bx (Ws ((fun acc=>(⟨k,u,f,[],[],acc⟩:YV)) (WC (fun acc=>(⟨k,u,f,[],[],acc⟩:YV)) [] L)))) h'):ZAx.C ((k,(u,(f,(⟨none,0,0⟩,(⟨none,0,0⟩,(⟨none,0,0⟩,())))))):Xh.Ty) it (.func (.func ZAw.n) #[] #[]) h K:=by
 apply ZAx.c;unfold ZAx.m;generalize hmk:(fun acc:List By=>(⟨k,u,f,[],[],acc⟩:YV))=mk at hK;have mkE:∀acc,mk acc=⟨k,u,f,[],[],acc⟩:=fun acc=>by rw[←hmk]
 refine Ji fun b1 h1 hb1 k1 e1 hs1=>Ji fun b2 h2 hb2 k2 e2 hs2 =>?_;have e1:h1[b1]? = some (Jg JC Xh ((k,(u,(f,(⟨none,0,0⟩,(⟨none,0,0⟩,(⟨none,0,0⟩,())))))):Xh.Ty)):=e1;have e2:h2[b2]? = some (Jg Zy .f (.func (.func ZAw.n) #[] #[])):=e2;have E1:=k2.g e1;have k02:Jc [] h h2:=k1.n k2;refine Jb (Je E1) ?_;refine ZAU.s (Y9.nil (n0:=h.size)).at ⟨by simp,by simp,by simp,by simp⟩ fun h3 k3 =>?_;refine Jq fun b3 h5 hb3 k5 e5 hs5 =>?_;have e5:h5[b3]? = some (Jg Jt .s (bx (Ws (mk [])))):=by rw[mkE];exact e5
 have k03:Jc [] h h3:=k02.n k3;have k05:Jc [] h h5:=k03.n k5;have k25:Jc [] h2 h5:=k3.n k5;have E1:=k25.g E1;have E2:=k25.g e2;have z02:=k02.1;have z03:=k03.1;have z05:=k05.1;have l1:=Jl E1;have l2:=Jl E2;have l3:=Jl e5;have z1:=k1.1;have z25:=k25.1;have z3:=k3.1;have nn:b1≠b2∧b1≠b3∧b2≠b3∧h.size≤b1∧h.size≤b2∧h.size≤b3:=by omega
 obtain⟨n12,n13,n23,w1,w2,w3⟩:=nn;refine Qd (fun y h'=>∃d:Nat,y=([d],())∧h'[d]? = some (.deferred (some []))∧h.size≤d∧d≠b3∧Jc [] h h'∧h'[b3]? = some (Jg Jt .s (bx (Ws (mk (WC mk [] L)))))) ?_ ?_
 ·refine⟨hit.1,fun o hyd =>?_⟩;generalize hl':h5.size+1=l at hyd ⊢;have kH:Jc [] h5 ((h5.push (.deferred (some []))).push (o .ready)):=Ju.trans Ju;have hsz8:(h5.push (.deferred (some []))).size=h5.size+1:=by simp
  have eL:((h5.push (.deferred (some []))).push (o .ready))[l]? = some (o .ready):=by rw[←hl',←hsz8];exact JA
  have eN:((h5.push (.deferred (some []))).push (o .ready))[h5.size]? = some (.deferred (some [])):=Yq JA;have szH:((h5.push (.deferred (some []))).push (o .ready)).size=h5.size+2:=by simp
  generalize ((h5.push (.deferred (some []))).push (o .ready))=H at kH eL eN szH ⊢;generalize hd0:h5.size=d0 at *;have k0H:Jc [] h H:=k05.n kH;have nl:b1≠l∧b2≠l∧b3≠l∧d0≠l∧d0≠b1∧d0≠b3∧h.size≤l∧h.size≤d0∧l<H.size∧b1<H.size∧b2<H.size∧b3<H.size∧d0<H.size:=by omega
  obtain⟨n1l,n2l,n3l,ndl,nd1,nd3,wl,wd,xl,x1,x2,x3,xd⟩:=nl
  refine hit.2 l H (fun j hh=>Jc [] h hh∧H.size≤hh.size∧hh[l]? = some (o .ready)∧hh[d0]? = some (.deferred (some []))∧hh[b2]? = some (Jg Zy .f (.func (.func ZAw.n) #[] #[]))∧hh[b3]? = some (Jg Jt .s (bx (Ws (mk (L.take j)))))∧(WC mk [] L=WC mk (L.take j) (L.drop j))∧∃v J0,hh[b1]? = some (Jg JC Xh v)∧Y9 H.size hh v J0 (mk (L.take j)))
   (fun h'=>Jc [] h h'∧h'[l]? = some (o .brk)∧h'[d0]? = some (.deferred (some []))∧h'[b3]? = some (Jg Jt .s (bx (Ws (mk (WC mk [] L)))))) _ ?_ ?_ ?_ ?_ ?_ ?_
  ·rintro j hh ⟨kk,zz,_⟩;exact⟨kk,zz⟩
  ·rintro j hh hh' ⟨a2,a3,a4,a5,a6,a7,a8,v,J0,a9,a10⟩ kk;exact⟨a2.n kk,YAT a3 kk.1,kk.g a4,kk.g a5,kk.g a6,kk.g a7,a8,v,J0,kk.g a9,a10.keep0 kk⟩
  ·rintro j hh x K' hj ⟨a2,a3,a4,a5,a6,a7,a8,v,J0,a9,a10⟩ hx hgo hstop;have zh:=a2.1;have lh:=Jl a4;refine hyd (x,()) hh K' a4 ?_;refine⟨a4,?_⟩;have kA:Jc [l] hh (hh.setIfInBounds l (o .busy)):=Jo;have el:=Jw (o':=o .busy) a4;generalize hh.setIfInBounds l (o .busy)=h8 at kA el ⊢;have zA:=kA.1;have m8:=a10.keep kA (fun q hq=>by simp at hq;subst hq;exact .inl xl);have q1:=kA.get a9 (by simpa using n1l);have q2:=kA.get a6 (by simpa using n2l);have q3:=kA.get a7 (by simpa using n3l);have qd:=kA.get a5 (by simpa using ndl);have k08:Jc [] h h8:=a2.new kA (by simpa using wl);have hlen:(L.take j).length≤j:=by simp;omega
   refine Jb (Je q2) ?_;rw[hx];refine Qr (aa:=[Kd.p.val (some (Pl.mk b1 0)),Kd.s.val (bx L[j])]) (by rfl) ?_;show ZAw.C (some ⟨b1,0⟩) (bx L[j]) h8 _;refine ZAw.s q1 m8 (by omega) (by rw[mkE];show(L.take j).length≤100000;omega) fun h14 v' k14 e14 m14 o14 =>?_;have hm':{ mk (L.take j) with objs:=(mk (L.take j)).objs++[L[j]] }=mk (L.take j++[L[j]]):=by rw[mkE,mkE]
   rw[hm']at m14
   have ol:∀q∈b1::Y9.own v,q≠l∧q≠d0∧q≠b2∧q≠b3∧h.size≤q:=fun q hq=>by
    rcases List.mem_cons.1 hq with h | h
    ·omega
    ·have:H.size≤q:=by
      rcases List.mem_append.1 h with h | h
      ·exact a10.oe q h
      ·exact a10.oo q h
     omega
   have g:∀ {b:Nat} {ob:Obj},h8[b]? = some ob→(b=l∨b=d0∨b=b2∨b=b3)→h14[b]? = some ob:=fun e hb=>k14.get e fun hm=>by have:=ol _ hm;omega
   have k014:Jc [] h h14:=k08.new k14 fun q hq=>(ol q hq).2.2.2.2;refine Jb (Je e14) ?_;refine ZCl.s m14.at ⟨by rw[mkE];simp,by rw[mkE];simp,by rw[mkE];simp,by rw[mkE];simp;omega⟩ fun h15 k15 =>?_;have k015:Jc [] h h15:=k014.n k15;have z8:=k14.1;have z15:=k15.1;have l15:=k15.g (g el (.inl rfl));have d15:=k15.g (g qd (.inr (.inl rfl)));have c15:=k15.g (g q2 (.inr (.inr (.inl rfl))));have s15:=k15.g (g q3 (.inr (.inr (.inr rfl))));by_cases hp:Q3 (mk (L.take j++[L[j]]))=true
   ·rw[Jf hp,Jf hp,Jd (by simp)];refine JL s15 fun h16 k16 e16 hs16 =>?_;have k016:Jc [] h h16:=k015.new k16 (by simpa using w3);have l16:=k16.get l15 (by simpa using n3l.symm);refine⟨l16,hgo _ ?_⟩;have kr:Jc [l] h16 (h16.setIfInBounds l (o .ready)):=Jo;have lr:=Jw (o':=o .ready) l16;generalize h16.setIfInBounds l (o .ready)=h17 at kr lr ⊢;have z16:=k16.1;have z17:=kr.1;refine⟨k016.new kr (by simpa using wl),by omega,lr,kr.get (k16.get d15 (by simpa using nd3)) (by simpa using ndl),kr.get (k16.get c15 (by simpa using n23)) (by simpa using n2l),?_,?_,v',J0,kr.get (k16.get (k15.g e14) (by simpa using n13)) (by simpa using n1l),?_⟩
    ·rw[YAO hj,U0 hp];exact kr.get e16 (by simpa using n3l)
    ·rw[a8];exact VT hj hp
    ·rw[YAO hj];exact((m14.keep0 k15).keep k16 (fun q hq=>by simp at hq;subst hq;exact .inl x3)).keep kr (fun q hq=>by simp at hq;subst hq;exact .inl xl)
   ·rw[Jd hp,Jd hp,Jf (by decide)];refine⟨l15,hstop _ ?_⟩;have kr:Jc [l] h15 (h15.setIfInBounds l (o .brk)):=Jo;have lr:=Jw (o':=o .brk) l15;generalize h15.setIfInBounds l (o .brk)=h17 at kr lr ⊢;refine⟨k015.new kr (by simpa using wl),lr,kr.get d15 (by simpa using ndl),?_⟩;rw[a8,RD hj hp];exact kr.get s15 (by simpa using n3l)
  ·refine⟨k0H,YAS _,eL,eN,kH.g E2,?_,?_,_,[],kH.g E1,?_⟩
   ·rw[YAP];exact kH.g e5
   ·rw[YAP,YAB]
   ·rw[YAP,mkE];exact Y9.nil
  ·rintro h' ⟨a2,a3,a4,a5,a6,a7,a8,_⟩;refine .inl ⟨a4,?_⟩;have kr:Jc [l] h' (h'.setIfInBounds l (o (.over false))):=Jo;generalize h'.setIfInBounds l (o (.over false))=h17 at kr ⊢;refine⟨d0,rfl,kr.get a5 (by simpa using ndl),wd,nd3,a2.new kr (by simpa using wl),?_⟩;rw[YAN (YAS _)]at a7 a8;rw[YAA (YAS _)]at a8;rw[a8];exact kr.get a7 (by simpa using n3l)
  ·rintro h' ⟨a2,a4,a5,a7⟩;refine .inr (.inr ⟨a4,?_⟩);have kr:Jc [l] h' (h'.setIfInBounds l (o .ovx)):=Jo;generalize h'.setIfInBounds l (o .ovx)=h17 at kr ⊢;exact⟨d0,rfl,kr.get a5 (by simpa using ndl),wd,nd3,a2.new kr (by simpa using wl),kr.get a7 (by simpa using n3l)⟩
 ·rintro _ h6 ⟨d,rfl,ed,wd,nd,k6,e6⟩;refine Jb (Je e6) ?_;refine Cb (by intro q hq;simp at hq;subst hq;exact ed) (by simp) fun h7 k7 =>?_;exact hK h7 (k6.new k7 (by simpa using wd))
def svV(c st:Nat) (v:Vh):Tm.Ty:=(some ⟨c,0⟩,(some ⟨st,0⟩,(v.C.m.users,(v.holder,(v.left,())))))
structure X2 (n0:Nat) (h:Ja) (b c t st r:Nat) (mv:XU.Ty) (ps bs es:Jn) (J0:List JO.Ty) (v:Vh):Prop where
 e:h[b]? = some (Jg Xk Tm (svV c st v))
 c:YK n0 h c t mv ps bs es J0 v.C
 s:Zf h st r v.os
 lb:n0≤b
 ls:n0≤st
 lr:n0≤r
section
variable {n0 b c t st r:Nat}{h:Ja}{mv:XU.Ty}{ps bs es:Jn}{J0:List JO.Ty}{v:Vh}
def X2.keep{h':Ja}{S:List Nat} (i:X2 n0 h b c t st r mv ps bs es J0 v) (k:Jc S h h') (hS:∀q∈S,q<n0∨(wC n0 h ps es q∧q≠b∧q≠st∧q≠r)):X2 n0 h' b c t st r mv ps bs es J0 v:=by
 have nn:∀x,n0≤x→(∀q∈S,q<n0∨q≠x)→x∉S:=fun x hx hh hm=>by
  rcases hh x hm with h | h
  ·omega
  ·exact h rfl
 refine⟨k.get i.e (nn b i.lb fun q hq =>?_),i.c.keep k fun q hq =>?_,i.s.keep k (nn st i.ls fun q hq =>?_) (nn r i.lr fun q hq =>?_),i.lb,i.ls,i.lr⟩
 ·rcases hS q hq with h | h
  ·exact .inl h
  ·exact .inr h.2.1
 ·rcases hS q hq with h | h
  ·exact .inl h
  ·exact h.1
 ·rcases hS q hq with h | h
  ·exact .inl h
  ·exact .inr h.2.2.1
 ·rcases hS q hq with h | h
  ·exact .inl h
  ·exact .inr h.2.2.2
def X2.keep0{h':Ja} (i:X2 n0 h b c t st r mv ps bs es J0 v) (k:Jc [] h h'):X2 n0 h' b c t st r mv ps bs es J0 v:=i.keep k (by simp)
def Zf.ne{h:Ja}{st r:Nat}{os:List Ba} (i:Zf h st r os){q:Nat}{T:Nat}{cs:Array Value}{f:Nat×Nat} (e:h[q]? = some (.cells cs T f)):r≠q:=by
 obtain⟨es,c,m1,ml,mk⟩:=i.m;exact Zs m1 e
def X2.put{h':Ja}{hd lf:Int} (i:X2 n0 h b c t st r mv ps bs es J0 v) (k:Jc [b] h h') (e:h'[b]? = some (Jg Xk Tm (svV c st { v with holder:=hd,left:=lf }))):X2 n0 h' b c t st r mv ps bs es J0 { v with holder:=hd,left:=lf }:=by
 refine⟨e,i.c.keep k fun q hq =>?_,i.s.keep k ?_ ?_,i.lb,i.ls,i.lr⟩
 ·simp at hq;subst hq;exact .inr ⟨QL i.c.p i.e (by decide),QL i.c.a i.e (by decide),fun T hT=>QR (o := .cells #[] 0 (0,0)) i.e (by rcases hT with rfl | rfl | rfl | rfl | rfl | rfl <;> decide)⟩
 ·have:st≠b:=YT i.s.e i.e (by decide);simpa using this
 ·have:=i.s.ne i.e;simpa using this
def xW{x:Tm.Ty}{y:Int}{K:Hp} (e:h[b]? = some (Jg Xk Tm x)) (hK:∀h',Jc [b] h h'→h'[b]? = some (Jg Xk Tm ((x.1,(x.2.1,(x.2.2.1,(y,x.2.2.2.2)))):Tm.Ty))→h'.size=h.size→K h'):Go.Al.st .i ((Pl.mk b 0).fld 3) y h K:=
 Qm (k:=Tm) (x':=((x.1,(x.2.1,(x.2.2.1,(y,x.2.2.2.2)))):Tm.Ty)) (k' := .i) (n:=3) e (by decide) rfl (hK _ Jo (Jw e) (by simp))
def xX{x:Tm.Ty}{y:Int}{K:Hp} (e:h[b]? = some (Jg Xk Tm x)) (hK:∀h',Jc [b] h h'→h'[b]? = some (Jg Xk Tm ((x.1,(x.2.1,(x.2.2.1,(x.2.2.2.1,(y,()))))):Tm.Ty))→h'.size=h.size→K h'):Go.Al.st .i ((Pl.mk b 0).fld 4) y h K:=
 Qm (k:=Tm) (x':=((x.1,(x.2.1,(x.2.2.1,(x.2.2.2.1,(y,()))))):Tm.Ty)) (k' := .i) (n:=4) e (by decide) rfl (hK _ Jo (Jw e) (by simp))
def Ii{x:Tm.Ty} (e:h[b]? = some (Jg Xk Tm x)):sm .p ((Pl.mk b 0).fld 0) x.1 h∧sm .p ((Pl.mk b 0).fld 1) x.2.1 h∧sm .i ((Pl.mk b 0).fld 2) x.2.2.1 h∧sm .i ((Pl.mk b 0).fld 3) x.2.2.2.1 h∧sm .i ((Pl.mk b 0).fld 4) x.2.2.2.2.1 h:=
 ⟨Jv e rfl (by decide),Jv e rfl (by decide),Jv e rfl (by decide),Jv e rfl (by decide),Jv e rfl (by decide)⟩
def server_size.s{K:Int→Hp} (i:X2 n0 h b c t st r mv ps bs es J0 v) (o:ZA v.C) (hK:∀h',Jc [] h h'→K (v.C.all.length:Int) h'):ZAd.C (some ⟨b,0⟩) h K:=by
 apply ZAd.c;unfold ZAd.m;refine Jp (Jb (Ii i.e).1 ?_);refine chain_Log.s i.c o fun x h' k' lr _ =>?_;rw[lr.n];exact hK h' k'
def server_Holder.s{K:Int→Bool→Hp} (i:X2 n0 h b c t st r mv ps bs es J0 v) (hK:K (if v.holder = -1 then 0 else v.holder) (decide (v.holder ≠ -1)) h):ZAy.C (some ⟨b,0⟩) h K:=by
 apply ZAy.c;unfold ZAy.m;have f:=(Ii i.e).2.2.2.1;refine JH (decide (v.holder = -1),()) h ?_ ?_
 ·rw[Jd (by simp)];exact Jp (Jb f ⟨rfl,rfl⟩)
 by_cases hh:v.holder = -1
 ·rw[Jf (by simpa using hh)];rw[Jf hh,dF (by simpa using hh)]at hK;exact hK
 ·rw[Jd (by simpa using hh)];rw[Jd hh,dT hh]at hK;exact Jp (Jb f hK)
def server_Tick.s{n:Int}{K:Int→Hp} (i:X2 n0 h b c t st r mv ps bs es J0 v) (o:Wf v) (hK:∀h',Jc [b] h h'→X2 n0 h' b c t st r mv ps bs es J0 (IO v n).2→K (IO v n).1 h'):ZBQ.C (some ⟨b,0⟩) n h K:=by
 apply ZBQ.c;unfold ZBQ.m;unfold IO at hK;have ol:=o.l;by_cases hn:n<0∨1000<n
 ·rw[Jf hn]at hK;refine⟨fun _ _=>False,?_,fun _ _ h=>h.elim⟩;dsimp only;rw[Jd (by simp)];refine JH (true,()) h ?_ ?_
  ·by_cases h0:n<0
   ·rw[Jf (dT h0)];exact⟨rfl,rfl⟩
   ·rw[Jd (by simpa using h0)];exact⟨by rw[dT (by omega)],rfl⟩
  ·rw[Jf (by rfl)];exact hK h Jc.rfl i
 rw[Jd hn]at hK;refine JH () h ?_ ?_
 ·rw[Jd (by simp)];refine JH (false,()) h ?_ ?_
  ·rw[Jd (by simp;omega)];exact⟨by rw[dF (by omega)],rfl⟩
  ·rw[Jd (by simp)];exact⟨rfl,rfl⟩
 refine Jp (Jb (Ii i.e).2.2.2.2 (Jp ?_));have hw:Jr (v.left-n)=v.left-n:=JE (by omega) (by omega);show Go.Al.st .i ((Pl.mk b 0).fld 4) (Jr (v.left-n)) h _;rw[hw];refine xX i.e fun h1 k1 e1 hs1=>Jp (Jb (Ii e1).2.2.2.2 ?_);have i1:X2 n0 h1 b c t st r mv ps bs es J0 { v with holder:=v.holder,left:=v.left-n }:=i.put k1 e1;by_cases hz:v.left-n≤0
 ·rw[Jf hz]at hK;refine Qd (fun _ h'=>Jc [b] h h'∧X2 n0 h' b c t st r mv ps bs es J0 { v with holder := -1,left:=0 }) ?_ ?_
  ·rw[Jf (dT hz)];refine Jp (xW e1 fun h2 k2 e2 hs2=>Jp (xX e2 fun h3 k3 e3 hs3 =>?_));have kk:Jc [b] h h3:=(k1.then k2 (fun q hq _=>hq) (fun q hq _=>hq)).then k3 (fun q hq _=>hq) (fun q hq _=>hq);exact⟨kk,i.put kk e3⟩
  ·rintro _ h' ⟨k',i'⟩;exact hK h' k' i'
 ·rw[Jd hz]at hK;refine JH () h1 ?_ ?_
  ·rw[Jd (by simpa using hz)];exact⟨rfl,rfl⟩
  ·exact hK h1 k1 i1
def server_fetch.s{mb:Nat}{mw:Xh.Ty}{m:YV}{K:Ba→Hp} (i:X2 n0 h b c t st r mv ps bs es J0 v) (o:Wf v) (em:h[mb]? = some (Jg JC Xh mw)) (hu:mw.2.1=m.user) (hf:mw.2.2.1=m.frm) (f0:0≤m.frm) (f1:m.frm≤65535)
 (hK:∀h',Jc [b] h h'→X2 n0 h' b c t st r mv ps bs es J0 (I4 v m).2→K (bx (I4 v m).1) h'):ZBd.C (some ⟨b,0⟩) (some ⟨mb,0⟩) h K:=by
 apply ZBd.c;unfold ZBd.m;unfold I4 at hK;have oh:=o.h;have on:=o.c.n;have F:=Z4 em;rw[hu,hf]at F;refine JH (decide (v.holder ≠ -1∧v.holder≠m.user),()) h ?_ ?_
 ·refine Jp (Jb (Ii i.e).2.2.2.1 ?_);by_cases h1:v.holder = -1
  ·rw[Jd (by show¬(!decide (v.holder = -1))=true;simpa using h1)];exact⟨by rw[dF (by simp[h1])],rfl⟩
  ·rw[Jf (by show(!decide (v.holder = -1))=true;simpa using h1)];refine Jp (Jb (Ii i.e).2.2.2.1 (Jp (Jb F.2.1 ⟨?_,rfl⟩)));show((!decide (v.holder=m.user)),())=_;by_cases h2:v.holder=m.user
   ·rw[dT h2,dF (by simp[h2])];rfl
   ·rw[dF h2,dT ⟨h1,h2⟩];rfl
 by_cases hc:0≤v.holder∧v.holder≠m.user
 ·rw[Jf hc]at hK;rw[Jf (dT ⟨by omega,hc.2⟩)];refine Jp (Jb F.2.1 ?_);refine server_size.s i o.c fun h1 k1 =>?_;have F1:=Z4 (k1.g em);rw[hu,hf]at F1;refine⟨F1.2.1,?_⟩;refine ZAU.s (Y9.nil (n0:=0)).at ⟨by simp,by simp,by simp,by simp⟩ fun h2 k2 =>?_;have kk:=(k1.n k2);exact hK h2 (kk.weak (by simp)) (i.keep0 kk)
 rw[Jd hc]at hK;rw[Jd (by simp;omega)];have nmb:mb≠b:=YT em i.e (by decide);refine Jp (Jb F.2.1 (Jp ?_));refine xW i.e fun h1 k1 e1 hs1=>Jp (xX e1 fun h2 k2 e2 hs2 =>?_);have k02:Jc [b] h h2:=k1.then k2 (fun q hq _=>hq) (fun q hq _=>hq);have i2:X2 n0 h2 b c t st r mv ps bs es J0 { v with holder:=m.user,left:=10 }:=i.put k02 e2;have em2:=k02.get em (by simpa using nmb)
 have F2:∀h',Jc [] h2 h'→sm .i ((Pl.mk mb 0).fld 1) m.user h'∧sm .i ((Pl.mk mb 0).fld 2) m.frm h':=fun h' k'=>by
  have:=Z4 (k'.g em2);rw[hu,hf]at this;exact⟨this.2.1,this.2.2.1⟩
 have F0:=F2 h2 Jc.rfl;refine Jp (Jb F0.1 (Jp (Jb (Ii i2.e).1 (Jp (Jb F0.2 ?_)))));refine server_size.s i2 o.c fun h3 k3 =>?_;have F3:=F2 h3 k3;refine⟨F3.2,(Ii (i2.keep0 k3).e).1,F3.1,?_⟩;have hfr:m.frm=((m.frm.toNat:Nat):Int):=by omega
 show ZBu.C (some ⟨c,0⟩) m.frm h3 _;rw[hfr];refine chain_From.s (i2.keep0 k3).c o.c (by omega) fun it h4 k4 hit =>?_;have k24:Jc [] h2 h4:=k3.n k4;refine⟨(F2 h4 k24).1,?_⟩;refine ZAb.s hit (fun e he =>?_) (by rw[YAG];show v.C.all.length-_≤_;omega) fun h5 k5 =>?_
 ·have:=o.c.a e (List.drop_subset _ _ he);have:=(GC this.1).2.2.1;omega
 ·have k25:Jc [] h2 h5:=k24.n k5;exact hK h5 (k02.then k25 (fun q hq _=>hq) (by simp)) (i2.keep0 k25)
def server_want.s{mb:Nat}{mw:Xh.Ty}{m:YV}{K:Ba→Hp} (i:X2 n0 h b c t st r mv ps bs es J0 v) (em:h[mb]? = some (Jg JC Xh mw)) (hu:mw.2.1=m.user) (g:Q5 (.ar 32 .u8) mw.2.2.2.2.1 m.wants h)
 (hK:∀h',Jc [] h h'→K (bx (yj v m)) h'):ZBp.C (some ⟨b,0⟩) (some ⟨mb,0⟩) h K:=by
 apply ZBp.c;unfold ZBp.m;unfold yj at hK;have F:=Z4 em;rw[hu]at F;have gl:=g.len;refine Jp (Jb F.2.2.2.2.1 ?_);by_cases hl:64<m.wants.length
 ·rw[Jf hl]at hK;rw[Jf (dT (by omega))];exact hK h Jc.rfl
 rw[Jd hl]at hK;rw[Jd (by simp;omega)];refine Jp (Jb F.2.1 (Jp (Jb F.2.2.2.2.1 ?_)));refine server_held.s i.e rfl i.s g (by omega) fun it h1 k1 hit =>?_;have F1:=Z4 (k1.g em);rw[hu]at F1;refine⟨F1.2.1,?_⟩;refine ZAx.s hit (by rw[YAH];omega) fun h2 k2 =>?_;exact hK h2 (k1.n k2)
def server_Take.g{s:By}{K:Ba→Hp} (i:X2 n0 h b c t st r mv ps bs es J0 v) (o:Wf v) (hz:s.length≤9223372036854775807)
 (hadd:∀m mb mw es' h1,W3 s=some m→m.kind=4→m.user<v.C.m.users→Jc [] h h1→h1[mb]? = some (Jg JC Xh mw)→h.size≤mb→Y9 h.size h1 mw es' m→ZBh.C (some ⟨b,0⟩) (some ⟨mb,0⟩) h1 K)
 (hK:(∀m,W3 s=some m→m.user<v.C.m.users→m.kind≠4)→∀h',Jc [b] h h'→X2 n0 h' b c t st r mv ps bs es J0 (Y2 v s).2→K (bx (Y2 v s).1) h'):ZAO.C (some ⟨b,0⟩) (bx s) h K:=by
 apply ZAO.c;unfold ZAO.m;unfold Y2 at hK;rw[Jd (by simp)];refine ZD3.s hz fun w er evs' h1 k1 res =>?_;refine Jq fun mb h3 hb3 k3 e3 hs3 =>?_;have e3:h3[mb]? = some (Jg JC Xh w):=e3;have k03:Jc [] h h3:=k1.n k3;have i3:=i.keep0 k03;have z1:=k1.1
 cases hg:W3 s with
 | none =>
   rw[hg]at res hK;have res:er≠0:=res;refine JH (true,()) h3 ?_ ?_
   ·rw[Jf (by simpa using res)];exact⟨rfl,rfl⟩
   ·rw[Jf (by rfl)];exact hK (by simp) h3 (k03.weak (by simp)) i3
 | some m =>
   rw[hg]at res hK;obtain⟨rfl,mr⟩:=res;have mr3:=mr.keep0 k3;have F:=Z4 e3;dsimp only at hK;have hm:=(Gx hg).1;unfold Q3 YB at hm;simp only[YAW,Qg]at hm;obtain⟨⟨m1,m2,m3,m4,m5,m6,m7,m8,m9,m10,m11⟩,m12⟩:=hm;refine JH (decide (m.user≥v.C.m.users),()) h3 ?_ ?_
   ·rw[Jd (by simp)];refine Jb F.2.1 (Jp (Jb (Ii i3.e).2.2.1 ⟨?_,rfl⟩));rw[mr.u];rfl
   by_cases hu:v.C.m.users≤m.user
   ·rw[Jf (dT hu)];rw[Jf hu]at hK;exact hK (fun m' hm'=>by cases hm';omega) h3 (k03.weak (by simp)) i3
   rw[Jd (by simpa using hu)];rw[Jd hu]at hK;have F0:=F.1;rw[mr.k]at F0;refine Jb F0 ?_;by_cases q0:m.kind=0
   ·rw[Jf (dT q0)];rw[Jf q0]at hK;refine server_fetch.s (m:=m) i3 o e3 mr.u mr.f m5 m6 fun h4 k4 i4 =>?_;exact hK (fun m' hm'=>by cases hm';omega) h4 (k03.then k4 (by simp) (fun q hq _=>hq)) i4
   rw[Jd (by simpa using q0)];rw[Jd q0]at hK;by_cases q2:m.kind=2
   ·rw[Jf (dT q2)];rw[Jf q2]at hK;refine server_want.s (m:=m) i3 e3 mr.u mr3.w.seg fun h4 k4 =>?_;have kk:=k03.n k4;exact hK (fun m' hm'=>by cases hm';omega) h4 (kk.weak (by simp)) (i.keep0 kk)
   rw[Jd (by simpa using q2)];rw[Jd q2]at hK;by_cases q4:m.kind=4
   ·rw[Jf (dT q4)];exact hadd m mb w evs' h3 hg q4 (by omega) k03 e3 (by omega) mr3
   ·rw[Jd (by simpa using q4)];rw[Jd q4]at hK;exact hK (fun m' hm'=>by cases hm';exact fun _=>q4) h3 (k03.weak (by simp)) i3
def server_Take.q{s:By}{K:Ba→Hp} (i:X2 n0 h b c t st r mv ps bs es J0 v) (o:Wf v) (hz:s.length≤9223372036854775807) (hk:∀m,W3 s=some m→m.kind≠4)
 (hK:∀h',Jc [b] h h'→X2 n0 h' b c t st r mv ps bs es J0 (Y2 v s).2→K (bx (Y2 v s).1) h'):ZAO.C (some ⟨b,0⟩) (bx s) h K:=
 server_Take.g i o hz (fun m mb mw es' h1 hm h4 _ _ _ _ _=>absurd h4 (hk m hm)) (fun _=>hK)
def server_Log.s{K:IW.Ty→Hp} (i:X2 n0 h b c t st r mv ps bs es J0 v) (o:ZA v.C) (hK:∀x h',Jc [] h h'→LgR h' x v.C→(∀q∈Uc x.2.2.1,h.size≤q)→K x h'):ZBi.C (some ⟨b,0⟩) h K:=by
 apply ZBi.c;unfold ZBi.m;refine Ji fun b1 h1 hb1 k1 e1 hs1 =>?_;have e1:h1[b1]? = some (Jg YA IW gQ):=e1;have i1:=i.keep0 k1;rw[Jd (by simp)];refine Jp (Jb (Ii i1.e).1 ?_);refine chain_Log.s i1.c o fun x h2 k2 lr ho =>?_;have e2:=k2.g e1;have z1:=k1.1;have l1:=Jl e1;refine JL e2 fun h3 k3 e3 hs3=>Jb (Je e3) ?_;refine hK x h3 ((k1.n k2).new k3 (by simp;omega)) ⟨lr.n,lr.r,lr.e.keep k3 fun q hq hm =>?_⟩ fun q hq=>by have:=ho q hq;omega
 simp at hm;subst hm;have:=ho q hq;omega
end
def xf{X:Fs} (hm:XQ X=true):(Y6 X).length≤2400*X.length∧X.length≤24:=by
 obtain⟨x1,x2,x3,_⟩:=IL hm
 have:∀(l:Fs),(∀t∈l,Xa t=true)→(l.flatMap Q0).length≤2400*l.length:=by
  intro l
  induction l with
  | nil=>intro _;simp
  | cons a r ih =>
    intro h;have h1:=ih fun x hx=>h x (by simp[hx]);obtain⟨_,q2,q3⟩:=VJ (h a (by simp));have h2:=Yp q2;rw[List.flatMap_cons,YAE,YAF];unfold Q0 at h1 ⊢;rw[YAE,YAF,YAI];omega
 have h1:=this X x3;have h2:=QE (L:=([]:List Ba)) (xs:=X.flatMap Q0);unfold Y6;simp only[YAI,Nat.zero_add]at h2;omega
def Mh(k:DJ):Vh:=⟨Us k,(Y6 (X9 k.m)).foldl putO [],-1,0⟩
def ze{k:DJ} (h:Ya k=true):Wf (Mh k):=
 have:=P0 (l:=Y6 (X9 k.m)) (os:=[]) (by simp) (by simp)
 ⟨qV h,this.1,this.2,by show(-1:Int) ≤ -1;decide,by show -1000≤(0:Int)∧(0:Int)≤10;decide,gZ⟩
def ZCG.s{v:Yf.Ty}{k:DJ}{h:Ja}{K:Option Pl→Int→Hp} (a:IU h v k) (hl:k.pubs.length≤9223372036854775806) (hg:∀g∈k.m.groups,g.length*8≤140737488355328)
 (hbad:Ya k=false→∀h',Jc [] h h'→K none 2300 h')
 (hok:Ya k=true→∀h' n0 b c t st r mv ps bs,Jc [] h h'→h.size≤n0→X2 n0 h' b c t st r mv ps bs ⟨none,0,0⟩ [] (Mh k)→K (some ⟨b,0⟩) 0 h'):ZCG.C v h K:=by
 apply ZCG.c;unfold ZCG.m;refine Ji fun b1 h1 hb1 k1 e1 hs1 =>?_;have e1:h1[b1]? = some (Jg JP Yf v):=e1;have z1:=k1.1;refine Jb (Je e1) ?_;refine ZDt.s (a.keep k1) hl hg (fun hm h2 k2 =>?_) fun hm h2 c t mv ps bs k2 ic =>?_
 ·rw[Jf (by decide)];exact hbad hm h2 (k1.n k2)
 rw[Jd (by simp)];replace hok:=hok hm;obtain⟨m1,m2,m3,m4,m5,m6⟩:=D2 hm;have z2:=k2.1;refine ZDb.s fun h3 st r k3 is ws wr =>?_;have e3:=k3.g (k2.g e1);have k03:Jc [] h h3:=(k1.n k2).n k3;refine Jb (U8 e3).1 ?_;have hpr:1≤Qx k.m∧Qx k.m≤24:=by unfold Qx;omega
 refine ZCV.s (a.keep k03).m (by omega) (fun hn=>by rw[m1]at hn;simp at hn) fun _ h4 t0 ss vv k4 w4 =>?_;refine Jq fun b2 h6 hb2 k6 e6 hs6 =>?_;refine Jb (Je e6) ?_
 have sb:∀t∈X9 k.m,t.length≤9223372036854775807:=fun t ht=>by
  rw[Gu]at ht;rcases List.mem_cons.1 ht with rfl | ht
  ·simp
  ·rw[List.eq_of_mem_replicate ht];simp
 refine ZCd.s (w4.keep k6) sb (fun hn=>by rw[Um hpr.1 hpr.2]at hn;simp at hn) fun _ h7 o1 o2 k7 _ r7 _ f7 =>?_;have k37:Jc [] h3 h7:=(k4.n k6).n k7;have k27:Jc [] h2 h7:=k3.n k37;have ic7:=ic.keep0 k27;have is7:=is.keep0 k37;have e7:=k37.g e3;have rl:=r7.len;unfold Mh at hok;have hbl:=xf (Um hpr.1 hpr.2);generalize Y6 (X9 k.m)=L at *;refine JF (fun(y:Int×Unit) (hh:Ja)=>∃j:Nat,y.1=((j:Nat):Int)∧j≤L.length∧Jc [r] h7 hh∧Zf hh st r ((L.take j).foldl putO [])) (fun(y:Int×Unit) _=>L.length-y.1.toNat) ?_ ?_
 ·exact⟨0,rfl,YAV _,Jc.rfl,is7⟩
 rintro⟨(ii:Int),_⟩ hh ⟨j,ej,hj,kh,ih⟩;dsimp only at ej ⊢;subst ej;have nr1:b1∉[r]:=by have:=is7.ne e7;simpa using this.symm
 have rh:JR hh Jt .s o2 L:=r7.keep kh fun q hq hm=>by
  simp at hm;subst hm;obtain⟨es',c',m',_⟩:=is7.m;exact WL m' r7 hq
 by_cases hlt:j<L.length
 case neg=>
  rw[Jd (show¬decide (((j:Nat):Int)<(o2.len:Int))=true from dn (by omega))];obtain rfl:j=L.length:=by omega
  rw[YAN (YAS _)]at ih;have eh:=kh.get e7 nr1;have fu:sm .i ((((Pl.mk b1 0).fld 0).fld 0)) v.1.1 hh:=(U8 eh).2.2;refine Jb fu ?_;refine Ji fun b h8 hb k8 e8 hs8 =>?_;have k7h:Jc [r] h7 h8:=kh.then k8 (fun q hq _=>hq) (by simp);have hu:v.1.1=k.m.users:=a.m.u;rw[hu]at e8;have z3:=k3.1;have z37:=k37.1;have z8:=kh.1
  have icr:∀q∈[r],wC h1.size h7 ps ⟨none,0,0⟩ q:=fun q hq=>by
   simp at hq;subst hq;obtain⟨es',c',m',_⟩:=is7.m;exact .inr ⟨fun hq=>WL m' ic7.p hq,by simp[own],fun T _ cc f e=>Zs m' e rfl⟩
  refine hok h8 h1.size b c t st r mv ps bs ((k03.n k37).new k7h (by simp;omega)) (by omega) ⟨e8,ic7.keep k7h icr,ih.keep0 k8,by omega,by omega,by omega⟩
 rw[Jf (show decide (((j:Nat):Int)<(o2.len:Int))=true from dT (by omega))];refine JK rh.seg (x:=L[j]) (by omega) (by rw[YAQ];exact YAC hlt) rfl ?_;refine ZA7.s ih fun z e h9 k9 i9 =>?_;have hw:Jr (((j:Nat):Int)+1)=((j+1:Nat):Int):=w6 (by omega);rw[hw];refine⟨⟨j+1,rfl,by omega,kh.then k9 (fun q hq _=>hq) (fun q hq _=>hq),?_⟩,by show L.length-((j+1:Nat):Int).toNat<L.length-((j:Nat):Int).toNat;omega⟩;rw[YAO hlt,List.foldl_append];exact i9
def Ex(v:Vh) (u:Int):By×Vh:=if 0≤v.holder∧v.holder≠u then(JQ ⟨6,u,0,[],[],[]⟩,v) else(JQ ⟨1,u,0,[],[],[]⟩,{ v with holder:=u,left:=10 })
def EW(v:Vh) (u:Int):Int:=if 0≤v.holder∧v.holder≠u then 6 else 1
def PY{k u:Int} (hk:k=0∨k=1∨k=6) (hu:u=0∨u=1):Q3 ⟨k,u,0,[],[],[]⟩=true:=by
 rcases hk with rfl | rfl | rfl <;> rcases hu with rfl | rfl <;> decide
def RC{v:Vh}{u:Int} (hall:v.C.all=[]) (hus:v.C.m.users=2) (hu:u=0∨u=1):Y2 v (JQ ⟨0,u,0,[],[],[]⟩)=Ex v u:=by
 unfold Y2 Ex;rw[W4 (PY (.inl rfl) hu)];dsimp only;rw[Jd (by rw[hus];omega),Jf rfl];unfold I4 VI qk;dsimp only;rw[hall];by_cases hc:0≤v.holder∧v.holder≠u
 ·rw[Jf hc,Jf hc];show(Ws ⟨6,u,0,[],[],[]⟩,v)=_;rw[U0 (PY (.inr (.inr rfl)) hu)]
 ·rw[Jd hc,Jd hc];show(Ws ⟨1,u,0,[],[],[]⟩,_)=_;rw[U0 (PY (.inr (.inl rfl)) hu)]
def qn{v:Vh}{u:Int} (o:Wf v) (hall:v.C.all=[]) (hus:v.C.m.users=2) (hu:u=0∨u=1):Wf (Ex v u).2∧(Ex v u).2.C=v.C:=by
 have:=(Es (s:=JQ ⟨0,u,0,[],[],[]⟩) o).1;rw[RC hall hus hu]at this;refine⟨this,?_⟩;unfold Ex;split <;> rfl
def ms_(k u:Int):Xh.Ty:=(k,(u,(0,(⟨none,0,0⟩,(⟨none,0,0⟩,(⟨none,0,0⟩,()))))))
def Mm{u:Int}{h:Ja}{K:Ba→Int→Hp} (hu:u=0∨u=1) (hK:∀h',Jc [] h h'→K (bx (JQ ⟨0,u,0,[],[],[]⟩)) 0 h'):ZBH.C (ms_ 0 u) h K:=by
 refine ZBH.s (Y9.nil (n0:=0)).at ⟨by simp,by simp,by simp,by simp⟩ fun h' k' =>?_;rw[PY (.inl rfl) hu];exact hK h' k'
def yT{v:Vh}{u:Int}:(Ex v u).1.length≤1000:=by
 unfold Ex;split <;> · show(JQ _).length≤1000;unfold JQ ZK;simp[Jj]
def DX{v:Vh}{u:Int}{h:Ja}{K:Xh.Ty→Int→Hp} (hu:u=0∨u=1) (hK:∀w h',Jc [] h h'→w.1=EW v u→w.2.1=u→w.2.2.1=0→K w 0 h'):ZBC.C (bx (Ex v u).1) h K:=by
 refine ZBC.s (by have:=yT (v:=v) (u:=u);omega) fun w er J0 h' k' res =>?_
 have hg:W3 (Ex v u).1=some ⟨EW v u,u,0,[],[],[]⟩:=by
  unfold Ex EW;split
  ·exact W4 (PY (.inr (.inr rfl)) hu)
  ·exact W4 (PY (.inr (.inl rfl)) hu)
 rw[hg]at res;obtain⟨rfl,m⟩:=res;exact hK w h' k' m.k m.u m.f
section
variable {n0 b c t st r:Nat}{h:Ja}{mv:XU.Ty}{ps bs es:Jn}{J0:List JO.Ty}{v:Vh}
def Ij{u:Int}{K:Ba→Hp} (i:X2 n0 h b c t st r mv ps bs es J0 v) (o:Wf v) (hall:v.C.all=[]) (hus:v.C.m.users=2) (hu:u=0∨u=1)
 (hK:∀h',Jc [b] h h'→X2 n0 h' b c t st r mv ps bs es J0 (Ex v u).2→K (bx (Ex v u).1) h'):ZAO.C (some ⟨b,0⟩) (bx (JQ ⟨0,u,0,[],[],[]⟩)) h K:=by
 have hz:(JQ ⟨0,u,0,[],[],[]⟩).length≤1000:=by unfold JQ ZK;simp[Jj]
 refine server_Take.q i o (by omega) (fun m hm =>?_) fun h' k' i' =>?_
 ·rw[W4 (PY (.inl rfl) hu)]at hm
  cases hm
  show(0:Int)≠4
  decide
 ·rw[RC hall hus hu]at i' ⊢;exact hK h' k' i'
end
def ZAW.s{h:Ja}{K:XU.Ty→Hp} (hK:∀v h',Jc [] h h'→Sc h.size h' v Rk→K v h'):ZAW.C h K:=by
 apply ZAW.c;unfold ZAW.m;refine Ji fun b1 h1 hb1 k1 e1 hs1 =>?_;have e1:h1[b1]? = some (Jg JT XU (((0,(⟨none,0,0⟩,()))):XU.Ty)):=e1;have z1:=k1.1;refine QN fun b2 h2 hb2 k2 r2 hs2 =>?_;refine QN fun b3 h3 hb3 k3 r3 hs3 =>?_;have z2:=k2.1;have e3:=(k2.n k3).g e1;refine JL e3 fun h4 k4 e4 hs4=>Jb (Je e4) ?_;have r2':=r2.keep k3 (by simp);refine hK _ h4 (((k1.n k2).n k3).new k4 (by simp;omega)) ⟨rfl,_,r3.keep k4 fun q hq hm =>?_,fun q hq =>?_,?_⟩
 ·simp at hm;subst hm;exact QL r3 e3 (by decide) hq
 ·simp[own]at hq;omega
 ·refine⟨⟨r2'.keep k4 fun q hq hm =>?_,fun q hq =>?_,by decide⟩,trivial⟩
  ·simp at hm;subst hm;exact QL r2' e3 (by decide) hq
  ·simp[own]at hq;omega
def JaQ{x y:By}{h:Ja}{K:Yf.Ty→Jn→Int→Hp} (hx:x.length≤1024) (hy:y.length≤1024) (hK:∀kv ks h',Jc [] h h'→EB h.size h' kv ks (ZX x) (ZX y) 0 0→K kv ks 0 h') :
 ZAW.C h fun x1 h1=>Go.Al.bs Jt .s [bx x,bx y] h1 fun s1 h2=>ZAE.C x1 s1 1 h2 K:=by
 refine ZAW.s fun cv h1 k1 cm=>QN fun b2 h2 hb2 k2 r2 hs2 =>?_;have z1:=k1.1;have z2:=k2.1;have cm:=cm.keep k2 (by simp);refine ZAE.s (L:=[x,y]) (hh:=1) cm.at (by decide) r2.seg rfl (by decide) (by decide) (fun q hq =>?_) fun h3 ps ks k3 rp op rk ok =>?_
 ·simp only[YAL,YAM,or_false]at hq;rcases hq with rfl | rfl <;> assumption
 ·refine hK _ ks h3 ((k1.n k2).n k3) ⟨cm.keep k3 (by simp),?_,fun q hq =>?_,?_,fun q hq =>?_⟩
  ·simp only[List.map_cons,List.map_nil,Gz]at rp;exact rp
  ·have:=op q hq;omega
  ·simp only[List.map_cons,List.map_nil,Gz]at rk;exact rk
  ·have:=ok q hq;omega
def wi{n1 b1:Nat}{kv:Yf.Ty}{ks:Jn}{A B:Sd}{h:Ja}{K:Option Pl→Int→Hp} (md:EB n1 h kv ks A B 0 0) (hK:∀h' n0 b c t st r mv ps bs,Jc [] h h'→h.size≤n0→X2 n0 h' b c t st r mv ps bs ⟨none,0,0⟩ [] (Mh (Zh A B))→K (some ⟨b,0⟩) 0 h'):ZCG.C kv h K:=
 ZCG.s (k:=Zh A B) md.at (by unfold Zh;simp) (by intro g hg;unfold Zh Rk at hg;simp at hg;subst hg;decide) (fun hn=>by rw[MV]at hn;simp at hn) fun _=>hK
def qU{A B:Sd}:Wf (Mh (Zh A B))∧(Mh (Zh A B)).C.all=[]∧(Mh (Zh A B)).C.m.users=2∧(Mh (Zh A B)).holder = -1:=⟨ze MV,rfl,rfl,rfl⟩
def vg{h:Ja}:IU h ((((0,(⟨none,0,0⟩,())):XU.Ty),(⟨none,0,0⟩,())):Yf.Ty) ⟨⟨0,[]⟩,[]⟩:=⟨⟨rfl,[],(JR.nil (T:=XH)).seg,trivial⟩,JR.nil (T:=Jt).seg⟩
def DL{v:Vh} (h:v.holder = -1):Ex v 1=(JQ ⟨1,1,0,[],[],[]⟩,{ v with holder:=1,left:=10 })∧EW v 1=1:=by
 unfold Ex EW;rw[h];exact⟨rfl,rfl⟩
def qt:W3 [120]=none:=by unfold W3;rw[Jd fun h=>by have:=h.1;simp at this]
def ZDQ.s{h:Ja}{K:Bool→Hp} (hK:∀h',Jc [] h h'→K true h'):ZDQ.C h K:=by
 apply ZDQ.c;unfold ZDQ.m;refine JaQ (x:=[97]) (y:=[98]) (by decide) (by decide) fun kv ks h1 k1 md =>?_;generalize ZX [97]=A at md;generalize ZX [98]=B at md;refine Jq fun p1 h3 hp1 k3 e3 hs3 =>?_;have e3:h3[p1]? = some (Jg JP Yf kv):=e3;refine Jb (Je e3) ?_;have k03:Jc [] h h3:=k1.n k3;refine wi (b1:=0) (md.keep0 k3) fun h4 n0 b c t st r mv ps bs k4 hn0 i4 =>?_;obtain⟨o4,ca,cu,ch⟩:=qU (A:=A) (B:=B);generalize Mh (Zh A B)=v at i4 o4 ca cu ch;have k04:Jc [] h h4:=k03.n k4;refine ZCG.s (k:=⟨⟨0,[]⟩,[]⟩) vg (by simp) (by simp) (fun _ h5 k5 =>?_) (fun hm=>by cases hm);have i5:=i4.keep0 k5;have k05:Jc [] h h5:=k04.n k5;refine JH (false,()) h5 ?_ ?_
 ·refine ZCO.s ?_;rw[Jd (by simp)];exact⟨rfl,rfl⟩
 rw[Jd (by simp)];have lb:=i4.lb;have z05:=k03.1;have kb:∀ {x y:Ja},Jc [] h x→Jc [b] x y→Jc [] h y:=fun a k=>a.new k (by simp;omega);refine Mm (u:=1) (.inr rfl) fun h6 k6 =>?_;refine Mm (u:=0) (.inl rfl) fun h7 k7 =>?_;have i7:=(i5.keep0 k6).keep0 k7;have k07:Jc [] h h7:=(k05.n k6).n k7;refine Ij (u:=1) i7 o4 ca cu (.inr rfl) fun h8 k8 i8 =>?_;obtain⟨o8,c8⟩:=qn (u:=1) o4 ca cu (.inr rfl);refine DX (u:=1) (.inr rfl) fun w9 h9 k9 w1 w2 w3 =>?_;obtain⟨f1,f2⟩:=DL ch;rw[f2]at w1;rw[f1]at i8 o8 c8;generalize hv8:({ v with holder:=1,left:=10 }:Vh)=v8 at i8 o8 c8;have a8:v8.C.all=[]∧v8.C.m.users=2∧v8.holder=1∧v8.left=10:=by rw[←hv8];exact⟨ca,cu,rfl,rfl⟩
 obtain⟨ca8,cu8,ch8,cl8⟩:=a8;refine Jq fun p2 h11 hp2 k11 e11 hs11 =>?_;have e11:h11[p2]? = some (Jg JC Xh w9):=e11;have i11:=(i8.keep0 k9).keep0 k11;have k011:Jc [] h h11:=((kb k07 k8).n k9).n k11;refine Ij (u:=0) i11 o8 ca8 cu8 (.inl rfl) fun h12 k12 i12 =>?_;have f3:Ex v8 0=(JQ ⟨6,0,0,[],[],[]⟩,v8):=by unfold Ex;rw[ch8];rfl
 refine DX (u:=0) (.inl rfl) fun w13 h13 k13 y1 y2 y3 =>?_;have f4:EW v8 0=6:=by unfold EW;rw[ch8];rfl
 rw[f4]at y1;rw[f3]at i12;refine Jq fun p3 h15 hp3 k15 e15 hs15 =>?_;have e15:h15[p3]? = some (Jg JC Xh w13):=e15;have i15:=(i12.keep0 k13).keep0 k15;have k015:Jc [] h h15:=((kb k011 k12).n k13).n k15;have n2b:p2≠b:=YT e11 i11.e (by decide);have e15':=k15.g (k13.g (k12.get e11 (by simpa using n2b)));refine server_Holder.s i15 ?_;rw[ch8,Jd (by decide)];refine server_Tick.s i15 o8 fun h16 k16 i16 =>?_;have f5:IO v8 10=(0,{ v8 with holder := -1,left:=0 }):=by unfold IO;rw[cl8];rfl
 obtain⟨o16,c16⟩:=xY (n:=10) o8;rw[f5]at i16 o16 ⊢;refine server_Holder.s i16 ?_;refine server_Tick.s i16 o16 fun h17 k17 i17 =>?_;have f6:IO ({ v8 with holder := -1,left:=0 }:Vh) (-1)=(2300,{ v8 with holder := -1,left:=0 }):=rfl;rw[f6]at i17 ⊢
 have e17 := k17.get (k16.get e15 (by have : p3 ≠ b := YT e15 i15.e (by decide)
                                      simpa using this)) (by have : p3 ≠ b := YT e15 i15.e (by decide)
                                                             simpa using this)
 have e17':=k17.get (k16.get e15' (by simpa using n2b)) (by simpa using n2b);have k017:Jc [] h h17:=kb (kb k015 k16) k17;have F2:=Z4 e17';have F3:=Z4 e17;rw[w1,w2]at F2;rw[y1]at F3;refine Qd (fun y h'=>y=(true,())∧Jc [] h h') ?_ ?_
 ·refine ZCO.s ?_;rw[Jf (by decide)];refine Jb F2.1 ?_;rw[Jf (by decide)];refine Jb F2.2.1 ?_;rw[Jf (by decide)];refine Jb F3.1 ?_;rw[Jf (by decide),Jf (by decide),Jf (by decide)];refine ZCO.s ?_;rw[Jf (by rfl),Jf (by rfl)];refine ZCO.s ?_;rw[Jf (by rfl)];show ZAO.C (some ⟨b,0⟩) (bx [120]) h17 _;refine server_Take.q i17 o16 (by decide) (fun m hm=>by rw[qt]at hm;cases hm) fun h18 k18 i18 =>?_;have f7:Y2 ({ v8 with holder := -1,left:=0 }:Vh) [120]=([],{ v8 with holder := -1,left:=0 }):=by unfold Y2;rw[qt]
  rw[f7]at i18 ⊢;rw[Jf (show decide (bx []=(⟨#[]⟩:Ba))=true by decide)];refine server_Log.s i18 o16.c fun x h19 k19 lr _=>⟨?_,(kb k017 k18).n k19⟩;have hl:({ v8 with holder := -1,left:=0 }:Vh).C.all=[]:=ca8;rw[lr.n,hl]
  rfl
 ·rintro _ h' ⟨rfl,k'⟩;exact hK h' k'
end Go.Proofs.Tryz
