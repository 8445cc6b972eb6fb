import Derived.Test.YtpfgaleonhihhaaGreatT5
import Derived.Test.YtpfgaleonhihhaaGreatT3
import Derived.Test.YtpfgaleonhihhaaGreatModels4
set_option linter.defProp false
set_option linter.unusedVariables false
set_option linter.unusedSimpArgs false
set_option maxRecDepth 100000
open List renaming all_eq_true → YAA, length_append → YAB, length_cons → YAC, length_map → YAD, length_nil → YAE, mem_append → YAF, mem_cons → YAG, not_mem_nil → YAH, take_of_length_le → YAI, take_succ_eq_append_getElem → YAJ
open Bool renaming and_eq_true → YAK, and_false → YAL, false_and → YAM
namespace Go.Proofs.Tryz
open Go Go.Al
section
variable {n0 b c t st r:Nat}{h:Ja}{mv:XU.Ty}{ps bs es:Jn}{J0:List JO.Ty}{v:Vh}
def I8{os:List Ba}:∀(l:List Ba) (acc:List YI),(l.foldl (ZJ os) acc).length≤acc.length+l.length
 | [],acc=>by simp
 | d :: q, acc => by
   have h1:=I8 (os:=os) q (ZJ os acc d)
   have h2:(ZJ os acc d).length≤acc.length+1:=by
    unfold ZJ;split
    ·omega
    ·exact Ea
   rw[List.foldl_cons,YAC];omega
def server_fit.s{s:Jn}{L:List By}{K:Bool→Hp} (i:X2 n0 h b c t st r mv ps bs es J0 v) (o:v.os.length≤1024) (g:Q5 .s s (L.map bx) h) (hl:L.length≤1000) (hz:∀x∈L,x.length≤65535)
 (hK:∀h',Jc [] h h'→K (Iu v.os (L.map bx)) h'):ZCB.C (some ⟨b,0⟩) s h K:=by
 apply ZCB.c;unfold ZCB.m;refine Ji fun b1 h1 hb1 k1 e1 hs1 =>?_;have e1:h1[b1]? = some (Jg XG zQ ((⟨none,0,0⟩,(none,())):zQ.Ty)):=e1;have gl:=g.len;rw[YAD]at gl;have z1:=k1.1;refine JF (fun(y:Int×Unit) (hh:Ja)=>∃(n:Nat) (ls:Jn) (lm:Option Nat),y.1=n∧n≤L.length∧Jc [] h hh∧UW hh b1 ls lm (((L.map bx).take n).foldl (ZJ v.os) [])∧(∀q∈Qb b1 ls lm,h.size≤q)∧∀x∈L.take n,x.length≤4096) (fun(y:Int×Unit) _=>L.length-y.1.toNat) ?_ ?_
 ·exact⟨0,⟨none,0,0⟩,none,rfl,Nat.zero_le _,k1,UW.new e1,fun q hq=>by simp[Qb,own]at hq;omega,by simp⟩
 rintro⟨(ii:Int),_⟩ h2 ⟨n,ls,lm,en,hn,k2,L2,o2,z2⟩;dsimp only at en ⊢;subst en;have i2:=i.keep0 k2;have fl:=I8 (os:=v.os) ((L.map bx).take n) [];rw[YAE,List.length_take,YAD]at fl;by_cases hlt:n<L.length
 case neg=>
  rw[Jd (show¬decide ((n:Int)<(s.len:Int))=true from dn (by omega))];obtain rfl:n=L.length:=by omega
  rw[YAI (by rw[YAD];exact Nat.le_refl _)]at L2 fl;rw[YAI (Nat.le_refl _)]at z2;have f0:sm .sl ((Pl.mk b1 0).fld 0) ls h2:=Jv L2.o rfl (by decide);refine Jb f0 (Jp (Jb (Ii i2.e).2.1 ?_));refine ZBT.s i2.s ⟨f0,?_⟩;have rl:=L2.r.len;have hw:Jr (1024-(v.os.length:Int))=1024-v.os.length:=JE (by omega) (by omega);rw[hw,rl]
  have hf:Iu v.os (L.map bx)=decide ((((L.map bx).foldl (ZJ v.os) []).length:Int)≤1024-(v.os.length:Int)):=by
   unfold Iu
   have:(L.map bx).all (fun d=>decide (d.size≤4096))=true:=by
    rw[YAA];intro d hd;obtain⟨x,hx,rfl⟩:=List.mem_map.1 hd;rw[Js];exact dT (z2 x hx)
   rw[this,Bool.true_and];by_cases q:((L.map bx).foldl (ZJ v.os) []).length+v.os.length≤1024
   ·rw[dT q,dT (by omega)]
   ·rw[dF q,dF (by omega)]
  rw[←hf];exact hK h2 k2
 rw[Jf (show decide ((n:Int)<(s.len:Int))=true from dT (by omega))];have hw:Jr ((n:Int)+1)=((n+1:Nat):Int):=w6 (by omega);rw[hw];have hin:=List.getElem_mem hlt;have hzz:=hz _ hin
 have htk:(L.map bx).take (n+1)=(L.map bx).take n++[bx L[n]]:=by
  rw[YAJ (by rw[YAD];exact hlt),List.getElem_map]
 have htk2:L.take (n+1)=L.take n++[L[n]]:=YAJ hlt;refine Qd (fun _ hh=>∃ls lm,Jc [] h hh∧UW hh b1 ls lm (((L.map bx).take (n+1)).foldl (ZJ v.os) [])∧(∀q∈Qb b1 ls lm,h.size≤q)∧∀x∈L.take (n+1),x.length≤4096) ?_ ?_
 rotate_left
 ·rintro _ h3 ⟨ls',lm',a1,a2,a3,a4⟩;exact⟨⟨n+1,ls',lm',rfl,by omega,a1,a2,a3,a4⟩,by show L.length-((n+1:Nat):Int).toNat<L.length-((n:Nat):Int).toNat;omega⟩
 refine JK (g.keep (by decide) k2) (x:=bx L[n]) (by omega) (by rw[Int.toNat_natCast,List.getElem?_map,List.getElem?_eq_getElem hlt];rfl) rfl ?_;refine ZAQ.s (by rw[Js];omega) fun h4 k4 =>?_;rw[htk,List.foldl_append];have hfo:ZJ v.os (((L.map bx).take n).foldl (ZJ v.os) []) (bx L[n])=if (Qw v.os (Jy (bx L[n]))).isSome=true then((L.map bx).take n).foldl (ZJ v.os) [] else Xt (((L.map bx).take n).foldl (ZJ v.os) []) (Jy (bx L[n])):=rfl
 simp only[List.foldl_cons,List.foldl_nil];rw[hfo]
 clear hfo
 generalize ((L.map bx).take n).foldl (ZJ v.os) []=F at *;obtain⟨u,hu⟩:∃u,Jy (bx L[n])=u:=⟨_,rfl⟩;rw[hu];refine Jq fun b2 h6 hb2 k6 e6 hs6 =>?_;have e6:h6[b2]? = some (Jg Jh HK u):=e6;have k26:Jc [] h2 h6:=k4.n k6;have k06:Jc [] h h6:=k2.n k26;rw[Js];by_cases hbig:4096<L[n].length
 ·refine JH (true,()) h6 (by rw[Jd (by simp)];exact⟨by rw[dT (by omega)],rfl⟩) ?_;rw[Jf (by rfl)]
  have hf:Iu v.os (L.map bx)=false:=by
   unfold Iu
   have:(L.map bx).all (fun d=>decide (d.size≤4096))=false:=by
    rw[List.all_eq_false];exact⟨bx L[n],List.mem_map.2 ⟨_,hin,rfl⟩,by rw[Js];simp;omega⟩
   rw[this,YAM]
  have:=hK h6 k06;rw[hf]at this;exact this
 refine JH (false,()) h6 (by rw[Jd (by simp)];exact⟨by rw[dF (by omega)],rfl⟩) ?_;rw[Jd (by simp)];have i6:=i.keep0 k06;refine Jp (Jb (Ii i6.e).2.1 (Jb (Je e6) ?_));refine ZA8.s i6.s fun h8 k8 =>?_;have k08:Jc [] h h8:=k06.n k8;have L8:=L2.keep0 (k26.n k8);have e8:=k8.g e6
 have hz4:∀x∈L.take (n+1),x.length≤4096:=fun x hx=>by
  rw[htk2]at hx;rcases List.mem_append.1 hx with h | h
  ·exact z2 x h
  ·simp at h;subst h;omega
 cases hk:(Qw v.os u).isSome with
 | true =>
   refine JH () h8 (by rw[Jd (by decide)];exact⟨rfl,rfl⟩) ?_;exact⟨ls,lm,k08,by rw[Jf rfl];exact L8,o2,hz4⟩
 | false =>
   refine Qd (fun _ hh=>∃ls lm,Jc [] h hh∧UW hh b1 ls lm (Xt F u)∧∀q∈Qb b1 ls lm,h.size≤q) ?_ ?_
   ·rw[Jf (by decide)];refine Jb (Je e8) ?_;refine Rn L8 (by omega) fun h10 ls' lm' L10 k10 o10 =>?_;have z8:=k08.1;refine⟨ls',lm',k08.new k10 o2,L10,fun q hq =>?_⟩;rcases o10 q hq with h | h
    ·exact o2 q h
    ·omega
   ·rintro _ h10 ⟨ls',lm',a1,a2,a3⟩;exact⟨ls',lm',a1,by rw[Jd (by simp)];exact a2,a3,hz4⟩
def X2.sto{h':Ja}{os':List Ba} (i:X2 n0 h b c t st r mv ps bs es J0 v) (k:Jc [r] h h') (s:Zf h' st r os'):X2 n0 h' b c t st r mv ps bs es J0 { v with os:=os' }:=by
 obtain⟨es',c',m',_⟩:=i.s.m;refine⟨k.get i.e (by have:=i.s.ne i.e;simpa using this.symm),i.c.keep k fun q hq =>?_,s,i.lb,i.ls,i.lr⟩;simp at hq;subst hq;exact .inr ⟨fun hq=>WL m' i.c.p hq,fun hq=>WL m' i.c.a hq,fun T _ cc f e=>Zs m' e rfl⟩
def X2.chn{h':Ja}{es':Jn}{evs':List JO.Ty}{C':Cn} (i:X2 n0 h b c t st r mv ps bs es J0 v) (k:Jc ([c,t]++own es) h h') (ic:YK n0 h' c t mv ps bs es' evs' C') (hu:C'.m.users=v.C.m.users):X2 n0 h' b c t st r mv ps bs es' evs' { v with C:=C' }:=by
 obtain⟨_,_,_,_,tc,tt⟩:=i.c.off;obtain⟨es2,c2,m2,_⟩:=i.s.m;have tn:∃x,h[t]? = some (Jg Qj WH x):=by obtain⟨⟨s,row,e,_⟩,_⟩:=i.c.t;exact⟨_,e⟩
 obtain⟨tx,et⟩:=tn
 have nn:∀ {x:Nat} {T:Nat} {kd:Kd} {y:kd.Ty},h[x]? = some (Jg T kd y)→T≠QA→T≠Qj→T≠Jk→x∉[c,t]++own es:=fun e h1 h2 h3 hm=>by
  simp only[YAF,YAG,YAH,or_false]at hm;rcases hm with(rfl | rfl) | hm
  ·exact tc _ h1 _ _ e
  ·exact tt _ h2 _ _ e
  ·exact QL i.c.a e h3 hm
 refine⟨?_,ic,i.s.keep k (nn i.s.e (by decide) (by decide) (by decide)) fun hm =>?_,i.lb,i.ls,i.lr⟩
 ·have:=k.get i.e (nn i.e (by decide) (by decide) (by decide));unfold svV at this ⊢;rw[hu];exact this
 ·simp only[YAF,YAG,YAH,or_false]at hm;rcases hm with(rfl | rfl) | hm
  ·exact Zs m2 i.c.e rfl
  ·exact Zs m2 et rfl
  ·exact WL m2 i.c.a hm
def YL(b c t r:Nat) (es:Jn):List Nat:=[b,c,t,r]++own es
def server_add.s{n1 mb:Nat}{mw:Xh.Ty}{evs':List JO.Ty}{m:YV}{K:Ba→Hp} (i:X2 n0 h b c t st r mv ps bs es J0 v) (o:Wf v) (em:h[mb]? = some (Jg JC Xh mw)) (mr:Y9 n1 h mw evs' m) (hmb:n1≤mb) (hn:∀q∈YL b c t r es,q<n1) (hp:Q3 m=true)
 (hK:∀h' es'' evs'',Jc (YL b c t r es) h h'→X2 n0 h' b c t st r mv ps bs es'' evs'' (Rj v m).2→(∀q∈own es'',q∈own es∨h.size≤q)→K (bx (Rj v m).1) h'):ZBh.C (some ⟨b,0⟩) (some ⟨mb,0⟩) h K:=by
 apply ZBh.c;unfold ZBh.m;unfold Q3 YB at hp;simp only[YAK,Qg,YAA]at hp;obtain⟨⟨m1,m2,m3,m4,m5,m6,m7,m8,m9,m10,m11⟩,m12⟩:=hp;unfold Rj at hK;have F:=Z4 em;rw[mr.u]at F;have nb:∀ {q:Nat},q∈YL b c t r es→q≠mb:=fun hq e=>by have:=hn _ hq;omega
 have fh:sm .i ((Pl.mk b 0).fld 3) v.holder h:=(Ii i.e).2.2.2.1;refine Jp (Jb fh (Jp (Jb F.2.1 ?_)))
 have busy:∀ {h1:Ja} {w:Vh} {es2:Jn} {evs2:List JO.Ty},X2 n0 h1 b c t st r mv ps bs es2 evs2 w→ZA w.C→w.C=v.C→sm .i ((Pl.mk mb 0).fld 1) m.user h1→(∀h2,Jc [] h1 h2→K (bx (Ws (VI v 6 m.user))) h2)→Qa (some ⟨mb,0⟩) fun l12=>ld .i (l12.fld 1) h1 fun x13=>ZAd.C (some ⟨b,0⟩) h1 fun x14 h6=>sm .i (l12.fld 1) x13 h6∧ZAU.C ((6,(x13,(x14,(⟨none,0,0⟩,(⟨none,0,0⟩,(⟨none,0,0⟩,())))))):Xh.Ty) h6 fun x15 h7=>K x15 h7:=by
  intro h1 w es2 evs2 iw ow ew fu hk;refine Jp (Jb fu ?_);refine server_size.s iw ow fun h2 k2=>⟨JN (by decide) fu k2,?_⟩;refine ZAU.s (Y9.nil (n0:=0)).at ⟨by simp,by simp,by simp,by simp⟩ fun h3 k3 =>?_;have:=hk h3 (k2.n k3);unfold VI at this;rw[ew];exact this
 by_cases hmine:v.holder=m.user
 case neg=>
  rw[Jf hmine]at hK;refine JH () h (by rw[Jd (by simpa using hmine)];exact⟨rfl,rfl⟩) ?_;refine JH (true,()) h (by rw[Jf (by simpa using hmine)];exact⟨rfl,rfl⟩) ?_;rw[Jf (by rfl)];exact busy i o.c rfl F.2.1 fun h2 k2=>hK h2 es J0 (k2.weak (by simp)) (i.keep0 k2) fun q hq => .inl hq
 rw[Jd (by simpa using hmine)]at hK;refine Qd (fun _ h1=>Jc [b] h h1∧X2 n0 h1 b c t st r mv ps bs es J0 { v with holder := -1,left:=v.left }) ?_ ?_
 ·rw[Jf (dT hmine)];exact Jp (xW i.e fun h2 k2 e2 hs2=>⟨k2,i.put k2 e2⟩)
 rintro _ h1 ⟨k1,i1⟩;have o1:Wf { v with holder := -1,left:=v.left }:=⟨o.c,o.o,o.z,by show(-1:Int) ≤ -1;decide,o.l,gZ⟩;have k1':Jc (YL b c t r es) h h1:=k1.weak (by simp[YL]);have mrk:∀ {x:Ja},Jc (YL b c t r es) h x→Y9 n1 x mw evs' m:=fun k=>mr.keep k fun q hq => .inl (hn q hq);have emk:∀ {x:Ja},Jc (YL b c t r es) h x→x[mb]? = some (Jg JC Xh mw):=fun k=>k.get em fun hm=>nb hm rfl
 have Fk:∀ {x:Ja},Jc (YL b c t r es) h x→sm .i ((Pl.mk mb 0).fld 1) m.user x∧sm .sl ((Pl.mk mb 0).fld 3) mw.2.2.2.1 x∧sm .sl ((Pl.mk mb 0).fld 5) mw.2.2.2.2.2.1 x:=fun k=>by
  have:=Z4 (emk k);rw[mr.u]at this;exact⟨this.2.1,this.2.2.2.1,this.2.2.2.2.2⟩
 have F1:=Fk k1';have el:=mr.e.len;have xl:=mr.x.len
 have no:ZU v m=false→∀ {h3:Ja},Jc [] h1 h3→∀h4,Jc [] h3 h4→K (bx (Ws (VI v 6 m.user))) h4:=fun ha h3 k3 h4 k4=>by
  have k14:Jc [] h1 h4:=k3.n k4;rw[Jd (by rw[ha];simp)]at hK;exact hK h4 es J0 (k1'.then k14 (fun q hq _=>hq) (by simp)) (i1.keep0 k14) fun q hq => .inl hq
 have fin:ZU v m=false→∀ {h3:Ja},Jc [] h1 h3→Qa (some ⟨mb,0⟩) fun l12=>ld .i (l12.fld 1) h3 fun x13=>ZAd.C (some ⟨b,0⟩) h3 fun x14 h6=>sm .i (l12.fld 1) x13 h6∧ZAU.C ((6,(x13,(x14,(⟨none,0,0⟩,(⟨none,0,0⟩,(⟨none,0,0⟩,())))))):Xh.Ty) h6 fun x15 h7=>K x15 h7:=fun ha h3 k3=>
  busy (i1.keep0 k3) o1.c rfl (Fk (k1'.then k3 (fun q hq _=>hq) (by simp))).1 (no ha k3)
 by_cases h1l:m.ents.length=1
 case neg=>
  have ha:ZU v m=false:=by
   unfold ZU;split
   ·rename_i e he;rw[he]at h1l;simp at h1l
   ·rfl
  refine JH (true,()) h1 ?_ (by rw[Jf (by rfl)];exact fin ha Jc.rfl);rw[Jd (by simpa using hmine)];refine Jp (Jb F1.2.1 ?_);rw[Jf (by simp;omega)];exact⟨rfl,rfl⟩
 obtain⟨e,he⟩:∃e,m.ents=[e]:=by
  match hh:m.ents,h1l with
  | [e],_=>exact⟨e,rfl⟩
 obtain⟨ev,rfl⟩:∃ev,evs'=[ev]:=by
  have hl1:evs'.length=1:=by omega
  match hh:evs',hl1 with
  | [x],_=>exact⟨x,rfl⟩
 have el:mw.2.2.2.1.len=1:=el;have hxx:=mr.x;rw[he]at hxx;rw[he]at xl;have hok:ZU v m=(decide (e.user=m.user)&&(Iu v.os (m.objs.map bx)&&decide (Vj v.C e=0))):=by unfold ZU;rw[he]
 have mr1:=mrk k1';have hix:[ev][((0:Nat):Int).toNat]? = some ev:=rfl;have e0:=hxx.1.1;have hpe:=m8 e (by rw[he];simp);obtain⟨_,_,pv,pt⟩:=GC hpe;have hpe2:e.vec.length≤9223372036854775806:=by omega
 refine Qd (fun y hh=>(y.1=true∧ZU v m=false∧Jc [] h1 hh)∨(y.1=false∧ZU v m=true∧∃es2 evs2,Jc (YL b c t r es) h hh∧X2 n0 hh b c t st r mv ps bs es2 evs2 { v with C:={ v.C with all:=v.C.all++[e] },holder := -1 }∧∀q∈own es2,q∈own es∨h.size≤q)) ?_ ?_
 ·rw[Jd (by simpa using hmine)];refine Jp (Jb F1.2.1 ?_);rw[Jd (by simp;omega)];refine Jp (Jb F1.2.1 (Xx mr1.e.seg (x:=ev) (by decide) hix rfl fun l6 hl6 =>?_))
  have f6:sm .i (l6.fld 0) e.user h1:=by
   have:sm .i (l6.fld 0) ev.1 h1:=JV hl6 (by decide) rfl;rw[e0.u]at this;exact this
  refine Jb f6 (Jp (Jb F1.1 ?_));by_cases hus:e.user=m.user
  case neg=>
   rw[Jf (by simpa using hus)];exact .inl ⟨rfl,by rw[hok,dF hus,YAM],Jc.rfl⟩
  rw[Jd (by simpa using hus)];refine Jp (Jb F1.2.2 ?_);refine server_fit.s i1 o1.o mr1.o.seg (by omega) (fun x hx=>by have:=m11 x hx;simpa using this) fun h4 k4 =>?_;rw[show({ v with holder := -1,left:=v.left }:Vh).os=v.os from rfl]
  cases hf:Iu v.os (m.objs.map bx) with
  | false =>
    rw[Jf (by rfl)];exact .inl ⟨rfl,by rw[hok,hf,YAM,YAL],k4⟩
  | true=>
  rw[Jd (by simp)];have i4:=i1.keep0 k4;have F4:=Fk (k1'.then k4 (fun q hq _=>hq) (by simp));have mr4:=mr1.keep0 k4;have k04:Jc (YL b c t r es) h h4:=k1'.then k4 (fun q hq _=>hq) (by simp);refine Jp (Jb (Ii i4.e).1 (Jp (Jb F4.2.1 (Xx mr4.e.seg (x:=ev) (by decide) hix rfl fun l11 hl11=>Jb hl11 ?_))));have ea4:=(mr4.x.getI (i:=0) (by simp) (by simp[he])).1.at;simp only[he,List.getElem_cons_zero]at ea4;refine chain_Add.s i4.c o1.c ea4 hpe2 (fun hc h5 k5 =>?_) (fun hc h5 es' evs'' k5 ic oo =>?_)
  ·have hc':Vj v.C e≠0:=hc;refine .inl ⟨?_,by rw[hok,dF hc',YAL,YAL],k4.n k5⟩;show(!decide (Vj v.C e=0))=true;rw[dF hc'];rfl
  ·have hc':Vj v.C e=0:=hc;have z4:=k04.1;refine .inr ⟨by simp,by rw[hok,hf,dT hus,dT hc'];rfl,es',evs'',k04.then k5 (fun q hq _=>hq) (fun q hq _=>by simp only[YL,YAF,YAG,YAH,or_false]at hq ⊢;rcases hq with(h | h) | h <;> simp[h]),i4.chn k5 ic rfl,fun q hq =>?_⟩;rcases oo q hq with h | h
   ·exact .inl h
   ·right;omega
 rintro⟨(y:Bool),_⟩ h3 hy;dsimp only at hy ⊢;rcases hy with⟨rfl,ha,k3⟩ | ⟨rfl,ha,es2,evs2,k3,i3,oo⟩
 ·rw[Jf (by rfl)];exact fin ha k3
 rw[Jd (by simp)];rw[Jf ha]at hK;have hc:Vj v.C e=0:=by rw[hok]at ha;simp only[YAK,Qg]at ha;exact ha.2.2
 have oc:=(EL o.c hc).1;refine Jp (Jb (Fk k3).2.2 ?_);have ol:=mr.o.len;rw[YAD]at ol;refine JF (fun(y:Int×Unit) (hh:Ja)=>∃n:Nat,y.1=n∧n≤m.objs.length∧Jc (YL b c t r es) h hh∧X2 n0 hh b c t st r mv ps bs es2 evs2 { v with C:={ v.C with all:=v.C.all++[e] },os:=((m.objs.map bx).take n).foldl putO v.os,holder := -1 }) (fun(y:Int×Unit) _=>m.objs.length-y.1.toNat) ?_ ?_
 ·exact⟨0,rfl,Nat.zero_le _,k3,i3⟩
 rintro⟨(ii:Int),_⟩ h8 ⟨n,en,hn',k8,i8⟩;dsimp only at en ⊢;subst en;by_cases hlt:n<m.objs.length
 ·rw[Jf (show decide ((n:Int)<(mw.2.2.2.2.2.1.len:Int))=true from dT (by omega))];have hw:Jr ((n:Int)+1)=((n+1:Nat):Int):=w6 (by omega);rw[hw];refine JK (mrk k8).o.seg (x:=bx m.objs[n]) (by omega) (by rw[Int.toNat_natCast,List.getElem?_map,List.getElem?_eq_getElem hlt];rfl) rfl ?_;refine Jp (Jb (Ii i8.e).2.1 ?_);refine ZA7.s i8.s fun z er h9 k9 s9 =>?_;refine⟨⟨n+1,rfl,by omega,k8.then k9 (fun q hq _=>hq) (fun q hq _=>by simp at hq;subst hq;simp[YL]),?_⟩,by show m.objs.length-((n+1:Nat):Int).toNat<m.objs.length-((n:Nat):Int).toNat;omega⟩
  have htk:(m.objs.map bx).take (n+1)=(m.objs.map bx).take n++[bx m.objs[n]]:=by
   rw[YAJ (by rw[YAD];exact hlt),List.getElem_map]
  rw[htk,List.foldl_append];exact i8.sto k9 s9
 rw[Jd (show¬decide ((n:Int)<(mw.2.2.2.2.2.1.len:Int))=true from dn (by omega))];obtain rfl:n=m.objs.length:=by omega
 rw[YAI (by rw[YAD];exact Nat.le_refl _)]at i8;have hV:({ v with C:={ v.C with all:=v.C.all++[e] },os:=(m.objs.map bx).foldl putO v.os,holder := -1 }:Vh)=addV v m:=by unfold addV;rw[he]
 rw[hV]at i8;have ocV:ZA (addV v m).C:=by rw[←hV];exact oc
 refine Jp (Jb (Fk k8).1 ?_);refine server_size.s i8 ocV fun h10 k10=>⟨JN (by decide) (Fk k8).1 k10,?_⟩;refine ZAU.s (Y9.nil (n0:=0)).at ⟨by simp,by simp,by simp,by simp⟩ fun h11 k11 =>?_;have k811:Jc [] h8 h11:=k10.n k11;exact hK h11 es2 evs2 (k8.then k811 (fun q hq _=>hq) (by simp)) (i8.keep0 k811) oo
def server_Take.s{s:By}{K:Ba→Hp} (i:X2 n0 h b c t st r mv ps bs es J0 v) (o:Wf v) (hz:s.length≤9223372036854775807)
 (hK:∀h' es' evs',Jc (YL b c t r es) h h'→X2 n0 h' b c t st r mv ps bs es' evs' (Y2 v s).2→(∀q∈own es',q∈own es∨h.size≤q)→K (bx (Y2 v s).1) h'):ZAO.C (some ⟨b,0⟩) (bx s) h K:=by
 refine server_Take.g i o hz (fun m mb mw es' h1 hm h4 hu k1 em hmb mr =>?_) (fun _ h' k' i'=>hK h' es J0 (k'.weak (by simp[YL])) i' fun q hq => .inl hq)
 have hT:Y2 v s=Rj v m:=by
  unfold Y2;rw[hm];dsimp only;rw[Jd (by omega),Jd (by omega),Jd (by omega),Jf h4]
 have z1:=k1.1
 have lt:∀q∈YL b c t r es,q<h.size:=fun q hq=>by
  obtain⟨a1,a2,a3,a4,_⟩:=i.c.off;obtain⟨es',c',m',_⟩:=i.s.m;simp only[YL,YAF,YAG,YAH,or_false]at hq;rcases hq with(rfl | rfl | rfl | rfl) | hq
  ·exact Jl i.e
  ·exact a2
  ·exact a4
  ·exact TQ m'
  ·exact i.c.a.lt q hq
 refine server_add.s (i.keep0 k1) o em mr hmb lt (Gx hm).1 fun h' es2 evs2 k2 i2 oo =>?_;rw[hT]at hK;refine hK h' es2 evs2 (k1.then k2 (by simp) (fun q hq _=>hq)) i2 fun q hq =>?_;rcases oo q hq with h | h
 ·exact .inl h
 ·right;omega
end
def wQ{pub msg:By}:Rl pub msg [120]=600:=by
 unfold Rl;rw[Jd];rintro⟨_,_,_,h⟩;simp at h
def gz{a b:Sd}{C:Cn}{u:Nat} (c:UH a b C) (o:ZA C) (hu:u≤1) (hn:C.all.length<256) (hv:(Q6 C (u:Int)).all XT=true):Vj C { Xi C (u:Int) (Qi C) with sign:=[120] }=2006:=by
 have hT:(Qi C).length=3:=c.last o;have em:QG { Xi C (u:Int) (Qi C) with sign:=[120] }=true:=PU c o hu hT hn hv
 have hp:JJ { Xi C (u:Int) (Qi C) with sign:=[120] }=true:=by
  unfold JJ;rw[em];rfl
 have hf:=SQ c (e:={ Xi C (u:Int) (Qi C) with sign:=[120] }) hp (PT c o) hT hn;have q1:({ Xi C (u:Int) (Qi C) with sign:=[120] }:X6).seq=(C.all.length:Int)+1:=Eq.refl _;have q2:({ Xi C (u:Int) (Qi C) with sign:=[120] }:X6).user=(u:Int):=Eq.refl _;have q3:({ Xi C (u:Int) (Qi C) with sign:=[120] }:X6).vec=Q6 C (u:Int):=Eq.refl _;have q4:({ Xi C (u:Int) (Qi C) with sign:=[120] }:X6).root=XD (C.all.map putE):=Eq.refl _;have q5:({ Xi C (u:Int) (Qi C) with sign:=[120] }:X6).sign=[120]:=Eq.refl _;have ht:Wz C { Xi C (u:Int) (Qi C) with sign:=[120] }=true:=Tc (C:=C) (u:=(u:Int));generalize ({ Xi C (u:Int) (Qi C) with sign:=[120] }:X6)=e at *;unfold Vj;rw[Jf hf,Jf q1,q2,Jf (by rw[c.m];show(u:Int)<2;omega),Jf q3,Jf q4,Jf ht,Jd];unfold Eu;rw[Jf hp,q5,wQ]
 decide
def xx{os:List Ba}{d:Ba}:(putO os d).length≤os.length+1:=by
 unfold putO;split
 ·omega
 split
 ·omega
 split
 ·omega
 ·simp
def RZ:∀(l os:List Ba),(l.foldl putO os).length≤os.length+l.length
 | [],os=>by simp
 | d :: r, os => by
   have h1:=RZ r (putO os d);have h2:=xx (os:=os) (d:=d);rw[List.foldl_cons,YAC];omega
def zf{A B:Sd}:(Mh (Zh A B)).os.length≤4:=by
 have h0:(Mh (Zh A B)).os=(Y6 (X9 Rk)).foldl putO []:=rfl;have h1:=QE (L:=([]:List Ba)) (xs:=(X9 Rk).flatMap Q0);have h2:((X9 Rk).flatMap Q0).length=4:=rfl;have h3:=RZ (Y6 (X9 Rk)) [];unfold Y6 at h3 h0;rw[h0];rw[h2]at h1;simp only[YAE]at h1 h3;omega
def IZ(u:Int) (es:List X6) (os:List By):YV:=⟨4,u,0,es,[],os⟩
def RE:∀(l:List X6),(∀e∈l,JJ e=true)→(l.flatMap Yy).length≤20002*l.length
 | [],_=>by simp
 | e :: r, h => by
   have h1:=RE r fun t ht=>h t (by simp[ht]);have h2:=Cj (h e (by simp));rw[List.flatMap_cons,YAB,YAC,PM];omega
def RG{n:Nat}:∀(l:List By),(∀t∈l,t.length≤n)→(l.flatMap XS).length≤(n+2)*l.length
 | [],_=>by simp
 | z :: r, h => by
   have h1:=RG r fun t ht=>h t (by simp[ht]);have h2:=h z (by simp);rw[List.flatMap_cons,YAB,YAC,PN,Nat.mul_add];omega
def Iq{u:Int}{es:List X6}{os:List By} (hu:u=0∨u=1) (he:∀e∈es,JJ e=true) (h2:es.length≤2) (ho:∀t∈os,t.length≤4097) (h3:os.length≤2):Q3 (IZ u es os)=true:=by
 unfold Q3 YB IZ;simp only[YAK,Qg,YAA,YAE];refine⟨⟨by decide,by decide,by omega,by omega,by decide,by decide,by omega,he,by decide,by omega,fun t ht=>by have:=ho t ht;omega⟩,?_⟩;have f1:=RE es he;have f2:=RG os ho;rw[I2];unfold C9;have h7:=D0 (m:=⟨4,u,0,es,[],os⟩);simp only[YAB,Jj,List.flatMap_nil,YAE,h7];omega
def wm{k u:Int}{n:Nat} (hk:k=5∨k=6) (hu:u=0∨u=1) (hn:n≤1):Q3 ⟨k,u,(n:Int),[],[],[]⟩=true:=by
 have:n=0∨n=1:=by omega
 rcases hk with rfl | rfl <;> rcases hu with rfl | rfl <;> rcases this with rfl | rfl <;> decide
def So{v:Vh}{m:YV} (hp:Q3 m=true) (hk:m.kind=4) (hu:m.user<v.C.m.users):Y2 v (JQ m)=Rj v m:=by
 unfold Y2;rw[W4 hp];dsimp only;rw[Jd (by omega),Jd (by omega),Jd (by omega),Jf hk]
def vB{k u:Int}{n:Nat}:(JQ ⟨k,u,(n:Int),[],[],[]⟩).length≤1000:=by unfold JQ ZK;simp[Jj]
def qu{k u:Int}{n:Nat}{h:Ja}{K:Xh.Ty→Int→Hp} (hk:k=5∨k=6) (hu:u=0∨u=1) (hn:n≤1) (hK:∀w h',Jc [] h h'→w.1=k→w.2.2.1=(n:Int)→K w 0 h'):ZBC.C (bx (JQ ⟨k,u,(n:Int),[],[],[]⟩)) h K:=by
 refine ZBC.s (by have:=vB (k:=k) (u:=u) (n:=n);omega) fun w er J0 h' k' res =>?_;rw[W4 (wm hk hu hn)]at res;obtain⟨rfl,m⟩:=res;exact hK w h' k' m.k m.f
def yD{v:Vh}{m:YV}{fine:Bool} (ha:v.C.all=[]) (hu:m.user=0∨m.user=1) (hh:v.holder = -1∨v.holder=1) (hl:m.ents.length=1∨fine=false) (hf:fine=(decide (v.holder=m.user)&&ZU v m)) :
 ∃v2:Vh,∃n:Nat,Rj v m=(JQ ⟨if fine=true then 5 else 6,m.user,(n:Int),[],[],[]⟩,v2)∧n=(if fine=true then 1 else 0)∧Rj v2 m=(JQ ⟨6,m.user,(n:Int),[],[],[]⟩,v2)∧v2.C.all.length=n∧(v2.holder = -1∨(v2.holder=1∧m.user=0∧v.holder=1)):=by
 have bz:∀(w:Vh) (k:Int) (n:Nat),(k=5∨k=6)→w.C.all.length=n→n≤1→Ws (VI w k m.user)=JQ ⟨k,m.user,(n:Int),[],[],[]⟩:=fun w k n hk hw hn=>by
  unfold VI;rw[hw];exact U0 (wm hk hu hn)
 have h0:v.C.all.length=0:=by rw[ha];rfl
 unfold Rj;by_cases hm:v.holder=m.user
 case neg=>
  rw[dF hm,YAM]at hf;subst hf;rw[Jf hm];refine⟨v,0,by rw[bz v 6 0 (.inr rfl) h0 (by decide)];rfl,rfl,?_,h0,?_⟩
  ·rw[Jf hm,bz v 6 0 (.inr rfl) h0 (by decide)]
  ·omega
 rw[dT hm,Bool.true_and]at hf;rw[Jd (by simpa using hm)]
 cases hq:ZU v m with
 | false =>
   rw[hq]at hf;subst hf;rw[Jd (by simp)];refine⟨{ v with holder := -1 },0,by rw[bz v 6 0 (.inr rfl) h0 (by decide)];rfl,rfl,?_,h0,.inl rfl⟩;rw[Jf (show({ v with holder := -1 }:Vh).holder≠m.user by show(-1:Int)≠m.user;omega)];rw[bz { v with holder := -1 } 6 0 (.inr rfl) h0 (by decide)]
 | true =>
   rw[hq]at hf;subst hf;rw[Jf rfl]
   have h1:(addV v m).C.all.length=1:=by
    show(v.C.all++m.ents).length=1;rw[ha];simpa using hl
   refine⟨addV v m,1,by rw[bz (addV v m) 5 1 (.inl rfl) h1 (by decide)];rfl,rfl,?_,h1,.inl rfl⟩;rw[Jf (show(addV v m).holder≠m.user by show(-1:Int)≠m.user;omega)];rw[bz (addV v m) 6 1 (.inr rfl) h1 (by decide)]
def yW{os:List Ba} (h:os.length≤4):Iu os ([[111]].map bx)=true:=by
 unfold Iu;have h1:=I8 (os:=os) ([[111]].map bx) [];simp only[List.map_cons,List.map_nil,YAC,YAE]at h1 ⊢;rw[show([bx [111]].all fun d=>decide (d.size≤4096))=true from by decide,Bool.true_and];exact dT (by omega)
def wH:By:=List.replicate 4097 0
def DN:wH.length=4097:=List.length_replicate ..
def yV{os:List Ba}:Iu os ([[111],wH].map bx)=false:=by
 unfold Iu
 have:(([[111],wH].map bx).all fun d=>decide (d.size≤4096))=false:=by
  rw[List.all_eq_false];exact⟨bx wH,by simp,by rw[Js,DN];decide⟩
 rw[this,YAM]
def qQ{n1:Nat}{h':Ja}{cv:XU.Ty}{s:Jn}{x y:By}{K':Yf.Ty→Jn→Int→Hp} (hx:x.length≤1024) (hy:y.length≤1024) (hn:n1≤h'.size) (cm:Sc n1 h' cv Rk) (r:JR h' Jt .s s [bx x,bx y])
 (hk:∀kv ks h'',Jc [] h' h''→EB n1 h'' kv ks (ZX x) (ZX y) 0 0→K' kv ks 0 h''):ZAE.C cv s 1 h' K':=by
 refine ZAE.s (L:=[x,y]) (hh:=1) cm.at (by decide) r.seg rfl (by decide) (by decide) (fun q hq =>?_) fun h2 ps ks k2 rp op rk ok =>?_
 ·simp only[YAG,YAH,or_false]at hq;rcases hq with rfl | rfl <;> assumption
 ·refine hk _ ks h2 k2 ⟨cm.keep k2 (by simp),?_,fun q hq =>?_,?_,fun q hq =>?_⟩
  ·simp only[List.map_cons,List.map_nil,Gz]at rp;exact rp
  ·have:=op q hq;omega
  ·simp only[List.map_cons,List.map_nil,Gz]at rk;exact rk
  ·have:=ok q hq;omega
def Sc.low{n0 n1:Nat}{h:Ja}{v:XU.Ty}{m:Mb} (a:Sc n0 h v m) (hn:n1≤n0):Sc n1 h v m:=by
 obtain⟨u,gs,r,o,al⟩:=a;exact⟨u,gs,r,fun q hq=>Nat.le_trans hn (o q hq),Qq.mono (fun s us x=>⟨x.1,fun q hq=>Nat.le_trans hn (x.2.1 q hq),x.2.2⟩) al⟩
abbrev yY:Yf.Ty:=((0,(⟨none,0,0⟩,())),(⟨none,0,0⟩,()))
def qC{x y:By}{h1:Ja}{J:Pl→Jn→Hp} (hx:x.length≤1024) (hy:y.length≤1024)
 (hJ:∀p kv ks h',h'[p]? = some (Jg JP Yf kv)→Jc [] h1 h'→EB h1.size h' kv ks (ZX x) (ZX y) 0 0→J (Pl.mk p 0) ks h') :
 (ZAW.C h1 fun x2 h3=>
 (bs Jt .s [bx x,bx y] h3 fun s3 h4=>
 (ZAE.C x2 s3 1 h4 fun x3 x4 x5 h5=>
 new JP Yf yY h5 fun b1 h6=>
 Go.Al.st Yf (Pl.mk b1 0) x3 h6 fun h7=>
 J (Pl.mk b1 0) x4 h7) ∧
 new JP Yf yY h4 fun b2 h8=>
 ZAE.C x2 s3 1 h8 fun x6 x7 x8 h9=>
 Go.Al.st Yf (Pl.mk b2 0) x6 h9 fun h10=>
 J (Pl.mk b2 0) x7 h10) ∧
 new JP Yf yY h3 fun b3 h11=>
 bs Jt .s [bx x,bx y] h11 fun s4 h12=>
 ZAE.C x2 s4 1 h12 fun x9 x10 x11 h13=>
 Go.Al.st Yf (Pl.mk b3 0) x9 h13 fun h14=>
 J (Pl.mk b3 0) x10 h14) ∧
 (bs Jt .s [bx x,bx y] h1 fun s5 h15=>
 (ZAW.C h15 fun x12 h16=>
 (ZAE.C x12 s5 1 h16 fun x13 x14 x15 h17=>
 new JP Yf yY h17 fun b4 h18=>
 Go.Al.st Yf (Pl.mk b4 0) x13 h18 fun h19=>
 J (Pl.mk b4 0) x14 h19) ∧
 new JP Yf yY h16 fun b5 h20=>
 ZAE.C x12 s5 1 h20 fun x16 x17 x18 h21=>
 Go.Al.st Yf (Pl.mk b5 0) x16 h21 fun h22=>
 J (Pl.mk b5 0) x17 h22) ∧
 new JP Yf yY h15 fun b6 h23=>
 ZAW.C h23 fun x19 h24=>
 ZAE.C x19 s5 1 h24 fun x20 x21 x22 h25=>
 Go.Al.st Yf (Pl.mk b6 0) x20 h25 fun h26=>
 J (Pl.mk b6 0) x21 h26) ∧
 new JP Yf yY h1 fun b7 h27=>
 (ZAW.C h27 fun x23 h28=>
 bs Jt .s [bx x,bx y] h28 fun s6 h29=>
 ZAE.C x23 s6 1 h29 fun x24 x25 x26 h30=>
 Go.Al.st Yf (Pl.mk b7 0) x24 h30 fun h31=>
 J (Pl.mk b7 0) x25 h31) ∧
 bs Jt .s [bx x,bx y] h27 fun s7 h32=>
 ZAW.C h32 fun x27 h33=>
 ZAE.C x27 s7 1 h33 fun x28 x29 x30 h34=>
 Go.Al.st Yf (Pl.mk b7 0) x28 h34 fun h35=>
 J (Pl.mk b7 0) x29 h35:=by
 have fin:∀ {h' h'':Ja} {p:Nat} {kv kv':Yf.Ty} {ks:Jn},Jc [] h1 h'→h'[p]? = some (Jg JP Yf kv')→h1.size≤p→EB h1.size h' kv ks (ZX x) (ZX y) 0 0→Jc [p] h' h''→h''[p]? = some (Jg JP Yf kv)→J (Pl.mk p 0) ks h'':=by
  intro h' h'' p kv kv' ks k e lp md k' e';refine hJ p kv ks h'' e' (k.new k' (by simpa using lp)) (md.keep k' fun q hq =>?_);simp at hq;subst hq;refine .inr fun T hT=>QR (o:=Jg JP Yf kv') e ?_;rcases hT with rfl | rfl | rfl | rfl <;> decide
 have A:∀ {h4:Ja} {cv:XU.Ty} {s:Jn},Jc [] h1 h4→Sc h1.size h4 cv Rk→JR h4 Jt .s s [bx x,bx y]→ZAE.C cv s 1 h4 fun x3 x4 x5 h5=>new JP Yf yY h5 fun b1 h6=>Go.Al.st Yf (Pl.mk b1 0) x3 h6 fun h7=>J (Pl.mk b1 0) x4 h7:=by
  intro h4 cv s k4 cm r;have z4:=k4.1;refine qQ hx hy z4 cm r fun kv ks h5 k5 md =>?_;refine Ji fun p h6 hp k6 e6 hs6 =>?_;have z5:=k5.1;exact JL e6 fun h7 k7 e7 hs7=>fin ((k4.n k5).n k6) e6 (by omega) (md.keep0 k6) k7 e7
 have B:∀ {h4:Ja} {cv:XU.Ty} {s:Jn} {p:Nat},Jc [] h1 h4→Sc h1.size h4 cv Rk→JR h4 Jt .s s [bx x,bx y]→h4[p]? = some (Jg JP Yf yY)→h1.size≤p→ZAE.C cv s 1 h4 fun x3 x4 x5 h5=>Go.Al.st Yf (Pl.mk p 0) x3 h5 fun h7=>J (Pl.mk p 0) x4 h7:=by
  intro h4 cv s p k4 cm r ep lp;have z4:=k4.1;refine qQ hx hy z4 cm r fun kv ks h5 k5 md =>?_;have e5:=k5.g ep;exact JL e5 fun h7 k7 e7 hs7=>fin (k4.n k5) e5 lp md k7 e7
 refine⟨?_,?_,?_⟩
 ·refine ZAW.s fun cv h3 k3 cm=>⟨?_,?_⟩
  ·refine QN fun bq h4 hbq k4 r4 hs4=>⟨?_,?_⟩
   ·exact A (k3.n k4) (cm.keep k4 (by simp)) r4
   ·refine Ji fun p h6 hp k6 e6 hs6 =>?_;have z3:=k3.1;have z4:=k4.1;exact B ((k3.n k4).n k6) ((cm.keep k4 (by simp)).keep k6 (by simp)) (r4.keep k6 (by simp)) e6 (by omega)
  ·refine Ji fun p h6 hp k6 e6 hs6 =>?_;refine QN fun bq h4 hbq k4 r4 hs4 =>?_;have z3:=k3.1;exact B ((k3.n k6).n k4) ((cm.keep k6 (by simp)).keep k4 (by simp)) r4 (k4.g e6) (by omega)
 ·refine QN fun bq h3 hbq k3 r3 hs3=>⟨?_,?_⟩
  ·refine ZAW.s fun cv h4 k4 cm=>⟨?_,?_⟩
   ·exact A (k3.n k4) (cm.low k3.1) (r3.keep k4 (by simp))
   ·refine Ji fun p h6 hp k6 e6 hs6 =>?_;have z3:=k3.1;have z4:=k4.1;exact B ((k3.n k4).n k6) ((cm.low k3.1).keep k6 (by simp)) ((r3.keep k4 (by simp)).keep k6 (by simp)) e6 (by omega)
  ·refine Ji fun p h6 hp k6 e6 hs6 =>?_;refine ZAW.s fun cv h4 k4 cm =>?_;have z3:=k3.1;have z6:=k6.1;exact B ((k3.n k6).n k4) (cm.low (by omega)) ((r3.keep k6 (by simp)).keep k4 (by simp)) (k4.g e6) (by omega)
 ·refine Ji fun p h6 hp k6 e6 hs6=>⟨?_,?_⟩
  ·refine ZAW.s fun cv h3 k3 cm =>?_;refine QN fun bq h4 hbq k4 r4 hs4 =>?_;have z6:=k6.1;exact B ((k6.n k3).n k4) ((cm.low (by omega)).keep k4 (by simp)) r4 (k4.g (k3.g e6)) (by omega)
  ·refine QN fun bq h4 hbq k4 r4 hs4 =>?_;refine ZAW.s fun cv h3 k3 cm =>?_;have z6:=k6.1;have z4:=k4.1;exact B ((k6.n k4).n k3) (cm.low (by omega)) (r4.keep k3 (by simp)) (k3.g (k4.g e6)) (by omega)
structure ApS (h0 h:Ja) (b:Nat) (V:Vh) (turn:Bool) (w:Int) (fine:Bool) (m:YV):Prop where
 e:∃mw J0,h[b]? = some (Jg JC Xh mw)∧Y9 h0.size h mw J0 m
 k:Jc [] h0 h
 p:Q3 m=true
 kd:m.kind=4
 u:m.user=0∨m.user=1
 l:m.ents.length=1∨fine=false
 f:fine=(decide ((if turn=true then(1:Int) else -1)=m.user)&&ZU V m)
 w:m.user=0→w=4
def ZBJ.s{turn:Bool}{wrong:Int}{seed:Ba}{h:Ja}{K:Bool→Hp} (hK:∀h',Jc [] h h'→K true h'):ZBJ.C turn wrong seed h K:=by
 obtain⟨sd,rfl⟩:∃sd:By,seed=bx sd:=⟨seed.data.toList,Vm.symm⟩;apply ZBJ.c;unfold ZBJ.m;refine ZDQ.s fun h1 k1 =>?_;rw[Jd (by simp)];refine Qd (fun y h'=>∃p kv ks,y=(Pl.mk p 0,(ks,()))∧h'[p]? = some (Jg JP Yf kv)∧Jc [] h1 h'∧EB h1.size h' kv ks (ZX ([97]++sd.take 90)) (ZX [98]) 0 0) ?_ ?_
 ·rw[Js,show(90:Int)=((90:Nat):Int) from rfl,zb];refine Z9 (lo:=0) (Nat.zero_le _) (Nat.min_le_left _ _) ?_;have ta:(sd.take (min sd.length 90)).drop 0=sd.take 90:=by rw[List.drop_zero,Nat.min_comm,←List.take_take,List.take_length]
  rw[ta];show JS (bx [97]) _ _;refine JM (by rw[List.length_take];simp;omega) ?_;exact qC (x:=[97]++sd.take 90) (y:=[98]) (J:=fun p ks h'=>∃p' kv ks',((p,(ks,())):Pl×Jn×Unit)=(Pl.mk p' 0,(ks',()))∧h'[p']? = some (Jg JP Yf kv)∧Jc [] h1 h'∧EB h1.size h' kv ks' (ZX ([97]++sd.take 90)) (ZX [98]) 0 0) (by simp;omega) (by decide) fun p kv ks h' e k md=>⟨p,kv,ks,rfl,e,k,md⟩
 rintro _ h2 ⟨pk,kv,ks,rfl,e2,k2,md⟩;generalize ZX ([97]++sd.take 90)=A at md;generalize ZX [98]=B at md;dsimp only;have k02:Jc [] h h2:=k1.n k2;refine Jb (Je e2) ?_;refine wi (b1:=0) md fun h4 n0 b c t st r mv ps bs k4 hn0 i4 =>?_;obtain⟨o4,ca,cu,ch⟩:=qU (A:=A) (B:=B);have hos:=zf (A:=A) (B:=B);have hC:(Mh (Zh A B)).C=Us (Zh A B):=rfl;refine JH (false,()) h4 ?_ ?_
 ·refine ZCO.s ?_;rw[Jd (by simp)];exact⟨rfl,rfl⟩
 rw[Jd (by simp)];refine Jb (Je (k4.g e2)) ?_;have o5:ZA (Us (Zh A B)):=DR;have cc:UH A B (Us (Zh A B)):=gA;have hall:(Us (Zh A B)).all=[]:=rfl;have hmay:=MV (a:=A) (b:=B);have hmm:(Zh A B).m=Rk:=rfl;have hpp:(Zh A B).pubs.length=2:=rfl;have hnv:Q6 (Us (Zh A B)) 1=[0,1]:=by unfold Q6 Xm;rw[hall,cc.m];rfl
 have ka:∀ {h':Ja},Jc [] h4 h'→IU h' kv ⟨(Us (Zh A B)).m,(Us (Zh A B)).pubs⟩:=fun k=>md.at.keep (k4.n k);refine ZBz.s (k:=Zh A B) (md.at.keep k4) (by rw[hpp];decide) (by rw[hmm];decide) (fun hn=>by rw[hmay]at hn;simp at hn) fun _ h6 c2 fs k6 ir =>?_;generalize Mh (Zh A B)=V at *;generalize Us (Zh A B)=C at *;refine ref18_Tables.s ir (fun T2 gT rT =>?_) (by rw[hall];decide);have hT3:(Qi C).length=3:=cc.last o5;show ZBt.C (some ⟨c2,0⟩) ((1:Nat):Int) T2 h6 _;refine ref18_Next.s ir (ka k6) o5 gT (by rw[hT3];decide) (fun hn=>by rw[hT3,zi cc (by decide) (by rw[hall];decide)]at hn;simp at hn) fun _ v h11 k11 er no =>?_;refine Jq fun b2 h13 hb2 k13 e13 hs13 =>?_;have e13:h13[b2]? = some (Jg Jk JO v):=e13;have er13:VM h13 v (Xi C ((1:Nat):Int) (Qi C)):=er.keep k13 (by simp)
 have hvo:(Q6 C ((1:Nat):Int)).all XT=true:=by
  show(Q6 C 1).all XT=true;rw[hnv];decide
 have hem:=PU cc o5 (u:=1) (by decide) hT3 (by rw[hall];decide) hvo;have hvl:(Xi C ((1:Nat):Int) (Qi C)).vec.length=2:=PT cc o5;have hchk:=j8 cc o5 (u:=1) (n:=0) (by decide) hT3 (by rw[hall];decide) hvo (by decide);rw[Jf Tc]at hchk;have hpm:=T5 (d:=B) (n:=0) (by decide) hem;have hchk:Vj C (Uz (Xi C ((1:Nat):Int) (Qi C)) (B.k 0))=0:=hchk;have hchx:Vj C { Xi C ((1:Nat):Int) (Qi C) with sign:=[120] }=2006:=gz cc o5 (by decide) (by rw[hall];decide) hvo
 have hpx:JJ { Xi C ((1:Nat):Int) (Qi C) with sign:=[120] }=true:=by
  unfold JJ;rw[show QG { Xi C ((1:Nat):Int) (Qi C) with sign:=[120] }=true from hem];rfl
 have hsd:Uz (Xi C ((1:Nat):Int) (Qi C)) (B.k 0)={ Xi C ((1:Nat):Int) (Qi C) with sign:=Q9 (B.k 0) (Vk (Xi C ((1:Nat):Int) (Qi C))) }:=rfl;have q1:(Xi C ((1:Nat):Int) (Qi C)).user=1:=rfl;generalize Xi C ((1:Nat):Int) (Qi C)=VO at *;have k6_13:=k11.n k13;have k4_13:Jc [] h4 h13:=k6.n k6_13;have z6:=k6.1;refine Qd (fun(y:Pl×Unit) h'=>∃p,y=(Pl.mk p 0,())∧h'[p]? = some (Jg Jk JO (GO v (Q9 (B.k 0) (Vk VO))))∧Jc [] h13 h') ?_ ?_
 ·refine Jb (Je e13) ?_;have mk13:=(md.keep0 (k4.n k4_13)).k;refine Xx mk13.seg (by decide) gO rfl fun l1 gl=>Jb gl ?_;refine xQ (J:=fun p q c h'=>∃p',((p,()):Pl×Unit)=(Pl.mk p' 0,())∧h'[p']? = some (Jg Jk JO (GO v (Q9 (B.k 0) (Vk VO))))∧Jc [] h13 h') (c:=0) (v':=GO v (Q9 (B.k 0) (Vk VO))) (kv':=UQ { (B.k 0) with next:=(B.k 0).next+1 }) (Je e13) gl (fun h1 K' kk hk =>?_) (fun p q h' ep eq k lp lq=>⟨p,rfl,ep,k⟩);exact ZA4.s (er13.at.keep kk) (by rw[hvl];decide) (P5 (by decide)) (fun hn=>by rw[hem]at hn;simp at hn) (fun _ hn=>by rw[Dx (by decide)]at hn;simp at hn) (fun _ _ h' k'=>hk h' k')
 rintro _ h14 ⟨p,rfl,e14,k14⟩;dsimp only;have es14:VM h14 (GO v (Q9 (B.k 0) (Vk VO))) (Uz VO (B.k 0)):=by rw[hsd];exact(er13.keep k14 (by simp)).sgn
 have ox14:∀q∈Uc (GO v (Q9 (B.k 0) (Vk VO))),h4.size≤q:=fun q hq=>Nat.le_trans z6 (no q hq);have k4_14:Jc [] h4 h14:=k4_13.n k14
 have hxv:∀(y:JO.Ty),y=GO v (Q9 (B.k 0) (Vk VO))→∀ {hh:Ja},VM hh y (Uz VO (B.k 0))→VM hh (GO y [120]) { VO with sign:=[120] }:=fun y hy hh er=>by
  have:=er.sgn (s:=[120]);rw[hsd]at this;exact this
 have us:(Uz VO (B.k 0)).user=1:=q1;generalize GO v (Q9 (B.k 0) (Vk VO))=sv at *;generalize Uz VO (B.k 0)=s at *;refine Jb (Je e14) ?_;refine QN fun g8 h72 hg8 k72 r72 hs72 =>?_;refine QN fun g9 h73 hg9 k73 r73 hs73 =>?_;refine Jq fun b19 h75 hb19 k75 e75 hs75 =>?_;generalize hs8:(⟨some ⟨g8,0⟩,([sv]:List JO.Ty).length,([sv]:List JO.Ty).length⟩:Jn)=s8 at *;generalize hs9:(⟨some ⟨g9,0⟩,([⟨#[111]⟩]:List Ba).length,([⟨#[111]⟩]:List Ba).length⟩:Jn)=s9 at *;have e75:h75[b19]? = some (Jg JC Xh ((4,(1,(0,(s8,(⟨none,0,0⟩,(s9,())))))):Xh.Ty)):=e75;have z4_14:=k4_14.1;have z72:=k72.1;have z73:=k73.1;have k14_75:Jc [] h14 h75:=(k72.n k73).n k75;have k4_75:Jc [] h4 h75:=k4_14.n k14_75
 have mr75:Y9 h4.size h75 ((4,(1,(0,(s8,(⟨none,0,0⟩,(s9,())))))):Xh.Ty) [sv] (IZ 1 [s] [[111]]):=
  ⟨rfl,rfl,rfl,(r72.keep k73 (by simp)).keep k75 (by simp),fun q hq=>by rw[←hs8]at hq;simp[own]at hq;omega,⟨⟨es14.keep k14_75 (by simp),ox14⟩,trivial⟩,.inl ⟨rfl,rfl⟩,by simp[own],r73.keep k75 (by simp),fun q hq=>by rw[←hs9]at hq;simp[own]at hq;omega⟩
 have ep75:=k14_75.g e14;have lb19:h4.size≤b19:=by omega
 have es75:VM h75 sv s:=es14.keep k14_75 (by simp);have hl1:∀ {t:By},t∈[([111]:By)]→t.length≤4097:=fun ht=>by simp at ht;subst ht;decide
 have okV:∀(e:X6) (u:Int) (os:List By),ZU V (IZ u [e] os)=(decide (e.user=u)&&(Iu V.os (os.map bx)&&decide (Vj C e=0))):=fun e u os=>by
  unfold ZU IZ;rw[hC]
 refine Qd (fun(y:Bool×Unit) h'=>∃m,ApS h4 h' b19 V turn (UO wrong 7) y.1 m) ?_ ?_
 ·refine Vs ?_;refine PI (fun c1 =>?_) fun c1=>Vs (PI (fun c2 =>?_) fun c2=>Vs (PI (fun c3 =>?_) fun c3=>Vs (PI (fun c4 =>?_) fun c4 =>?_)))
  ·-- a wrong signature
   refine Jb (Z4 e75).2.2.2.1 ?_;refine C5 (i:=0) (x:=sv) (x':=GO sv [120]) mr75.e (by simp) rfl rfl (by decide) EV fun h78 k78 r78 =>?_;have t8:∀q∈own s8,∀T,T≠Jk→∀cc f,h75[q]? ≠ some (.cells cc T f):=fun q hq T hT=>Gh mr75.e (fun h=>hT h.symm) q hq;refine⟨IZ 1 [{ VO with sign:=[120] }] [[111]],⟨_,[GO sv [120]],k78.get e75 (QL mr75.e e75 (by decide)),⟨rfl,rfl,rfl,r78,mr75.oe,⟨⟨hxv sv rfl (es75.keepS k78 fun q hq T hT=>t8 q hq T (by rcases hT with rfl | rfl <;> decide)),fun q hq=>ox14 q hq⟩,trivial⟩,.inl ⟨rfl,rfl⟩,by simp[own],JZ (n0:=0) mr75.o k78 (fun _ _=>Nat.zero_le _) fun q hq => .inr (.inr (t8 q hq _ (by decide))),mr75.oo⟩⟩,k4_75.new k78 mr75.oe,Iq (.inr rfl) (fun e he=>by simp at he;subst he;exact hpx) (by simp) (fun t ht=>hl1 ht) (by simp),rfl,.inr rfl,.inr rfl,?_,fun h=>absurd h (by show¬(1:Int)=0;decide)⟩;rw[okV,hchx];simp
  ·-- two entries
   refine Jb (Z4 e75).2.2.2.1 (Jb (Je ep75) ?_);refine Vi (by_:=112) mr75.e rfl (by simp) fun s11 h81 k81 r81 o81 =>?_;refine Y9.putE e75 mr75 es75 ox14 k4_75.1 k81 r81 o81 fun h82 v82 k82 e82 m82 o82 =>?_
   have lo:∀q∈b19::Y9.own ((4,(1,(0,(s8,(⟨none,0,0⟩,(s9,())))))):Xh.Ty),h4.size≤q:=fun q hq=>by
    rcases List.mem_cons.1 hq with h | h
    ·omega
    ·rcases List.mem_append.1 h with h | h
     ·exact mr75.oe q h
     ·exact mr75.oo q h
   refine⟨IZ 1 [s,s] [[111]],⟨_,_,e82,m82⟩,k4_75.new k82 lo,Iq (.inr rfl) (fun e he=>by simp at he;subst he;exact hpm) (by simp) (fun t ht=>hl1 ht) (by simp),rfl,.inr rfl,.inr rfl,?_,fun h=>absurd h (by show¬(1:Int)=0;decide)⟩;show false=_;rw[show ZU V (IZ 1 [s,s] [[111]])=false from rfl,YAL]
  ·-- an object that is too large
   refine Jb (Z4 e75).2.2.2.2.2 ?_;show mk Q7 .u8 1 ((4097:Nat):Int) ((4097:Nat):Int) h75 _;refine Up (by decide) (by decide) fun q12 h84 hq12 k84 r84 hs84 =>?_;have e84:=k84.g e75;have m84:=mr75.keep0 k84;refine⟨(Z4 e84).2.2.2.2.2,?_⟩;refine We r84.seg fun q =>?_;show Go.Al.bs Jt .s [bx wH] h84 _;refine jT (by_:=16) m84.o rfl (by simp[IZ]) (fun h' k'=>(Z4 (k'.g e84)).2.2.2.2.2) fun s15 h86 k86 r86 o86 =>?_;have k4_84:Jc [] h4 h84:=k4_75.n k84;refine Y9.putO (x:=wH) e84 m84 k4_84.1 k86 r86 o86 fun h87 v87 k87 e87 m87 o87 =>?_
   have lo:∀q∈b19::Y9.own ((4,(1,(0,(s8,(⟨none,0,0⟩,(s9,())))))):Xh.Ty),h4.size≤q:=fun q hq=>by
    rcases List.mem_cons.1 hq with h | h
    ·omega
    ·rcases List.mem_append.1 h with h | h
     ·exact mr75.oe q h
     ·exact mr75.oo q h
   refine⟨IZ 1 [s] [[111],wH],⟨_,_,e87,m87⟩,k4_84.new k87 lo,Iq (.inr rfl) (fun e he=>by simp at he;subst he;exact hpm) (by simp) (fun t ht =>?_) (by simp),rfl,.inr rfl,.inr rfl,?_,fun h=>absurd h (by show¬(1:Int)=0;decide)⟩
   ·rcases List.mem_cons.1 ht with rfl | ht
    ·decide
    ·simp at ht;subst ht;rw[DN];decide
   ·show false=_;rw[okV,yV];simp
  ·-- another user
   refine vd e75 fun h89 k89 e89 hs89 =>?_
   have m89:=mr75.keep k89 fun q hq=>by
    simp at hq;subst hq;exact .inr fun T hT=>QR (o := .cells #[] 0 (0,0)) e75 (by rcases hT with rfl | rfl | rfl | rfl <;> decide)
   refine⟨IZ 0 [s] [[111]],⟨_,_,e89,⟨rfl,rfl,rfl,m89.e,m89.oe,m89.x,m89.w,m89.ow,m89.o,m89.oo⟩⟩,k4_75.new k89 (by simpa using lb19),Iq (.inl rfl) (fun e he=>by simp at he;subst he;exact hpm) (by simp) (fun t ht=>hl1 ht) (by simp),rfl,.inl rfl,.inr rfl,?_,fun _=>c4⟩;show false=_
   have:decide ((if turn=true then(1:Int) else -1)=(IZ 0 [s] [[111]]).user)=false:=by
    show decide ((if turn=true then(1:Int) else -1)=0)=false
    cases turn <;> rfl
   rw[this,YAM]
  ·refine⟨IZ 1 [s] [[111]],⟨_,_,e75,mr75⟩,k4_75,Iq (.inr rfl) (fun e he=>by simp at he;subst he;exact hpm) (by simp) (fun t ht=>hl1 ht) (by simp),rfl,.inr rfl,.inl rfl,?_,fun h=>absurd h (by show¬(1:Int)=0;decide)⟩;show turn=_;rw[okV,us,hchk,yW hos];show turn=(decide ((if turn=true then(1:Int) else -1)=1)&&_)
   cases turn <;> rfl
 rintro⟨(fine:Bool),_⟩ h76 ⟨m,S⟩;dsimp only at S ⊢;obtain⟨⟨mw,J0,e76,m76⟩,k76,hp,hkd,hu,hl,hf,hw0⟩:=S;have lbb:=i4.lb;have z02:=k02.1;have i76:=i4.keep0 k76;have hbb:h4.size>b:=Jl i4.e
 have hsb:∀q∈YL b c t r ⟨none,0,0⟩,h.size≤q∧q<h4.size:=fun q hq=>by
  obtain⟨a1,a2,a3,a4,_⟩:=i4.c.off;obtain⟨es',c',m',_⟩:=i4.s.m;have:=TQ m';have:=i4.lr;simp only[YL,own,List.append_nil,YAG,YAH,or_false]at hq;rcases hq with rfl | rfl | rfl | rfl <;> omega
 have k0_76:Jc [] h h76:=(k02.n k4).n k76
 have hmb:vI m:=by
  have q:=hp;unfold Q3 YB at q;simp only[YAK,Qg,YAA]at q;obtain⟨⟨_,_,_,_,_,_,a7,a8,a9,a10,_⟩,_⟩:=q;exact⟨fun e he=>by have:=(Ed (a8 e he)).1;omega,by omega,by omega,by omega⟩
 have hbl:(JQ m).length≤65536:=by
  have q:=hp;unfold Q3 at q;simp only[YAK,Qg]at q;exact q.2
 have hmu:m.user<2:=by omega
 refine Qd (fun _ h'=>∃V1:Vh,X2 n0 h' b c t st r mv ps bs ⟨none,0,0⟩ [] V1∧Wf V1∧V1.C=V.C∧V1.os=V.os∧V1.holder=(if turn=true then 1 else -1)∧Jc [] h h'∧Jc [b] h76 h') ?_ ?_
 ·cases turn with
  | false=>rw[Jd (by simp)];exact⟨V,i76,o4,rfl,rfl,ch,k0_76,Jc.rfl⟩
  | true =>
    rw[Jf rfl];refine Mm (u:=1) (.inr rfl) fun h91 k91 =>?_;refine Ij (u:=1) (i76.keep0 k91) o4 ca cu (.inr rfl) fun h92 k92 i92 =>?_;obtain⟨o92,c92⟩:=qn (u:=1) o4 ca cu (.inr rfl);rw[(DL ch).1]at i92 o92;exact⟨_,i92,o92,rfl,rfl,rfl,(k0_76.n k91).new k92 (by simpa using (hsb b (by simp[YL])).1),k91.then k92 (by simp) (fun q hq _=>hq)⟩
 rintro _ h90 ⟨V1,i90,o90,hC1,hO1,hh1,k0_90,k76_90⟩;have n19b:b19≠b:=YT e76 i76.e (by decide);have e90:=k76_90.get e76 (by simpa using n19b);have m90:=m76.keep k76_90 fun q hq=>by simp at hq;subst hq;exact .inl hbb
 refine Jb (Je e90) ?_;refine ZBH.s m90.at hmb fun h93 k93 =>?_;rw[hp,Jf rfl];have i93:=i90.keep0 k93;have k0_93:=k0_90.n k93;have hus1:V1.C.m.users=2:=by rw[hC1];exact cu
 obtain⟨V2,n,f1,f2,f3,f4,f5⟩:=yD (v:=V1) (m:=m) (fine:=fine) (by rw[hC1];exact ca) hu (by rw[hh1];cases turn <;> simp) hl (by
  rw[hf,hh1]
  congr 1
  unfold ZU;rw[hC1,hO1])
 have hT1:Y2 V1 (JQ m)=(JQ ⟨if fine=true then 5 else 6,m.user,(n:Int),[],[],[]⟩,V2):=by rw[So hp hkd (by rw[hus1];exact hmu),f1]
 have o2:=Es (s:=JQ m) o90;rw[hT1]at o2;obtain⟨o94,c94,_,_⟩:=o2;refine server_Take.s i93 o90 (by omega) fun h94 es4 evs4 k94 i94 oo4 =>?_;rw[hT1]at i94 ⊢;have z0_93:=k0_93.1;have k0_94:Jc [] h h94:=k0_93.new k94 fun q hq=>(hsb q hq).1;have hn1:n≤1:=by rw[f2];split <;> omega
 refine qu (by cases fine <;> simp) hu hn1 fun w95 h95 k95 w1 w2 =>?_;refine Jq fun b20 h97 hb20 k97 e97 hs97 =>?_;have e97:h97[b20]? = some (Jg JC Xh w95):=e97;have i97:=(i94.keep0 k95).keep0 k97;have hus2:V2.C.m.users=2:=by rw[c94];exact hus1
 have hT2:Y2 V2 (JQ m)=(JQ ⟨6,m.user,(n:Int),[],[],[]⟩,V2):=by rw[So hp hkd (by rw[hus2];exact hmu),f3]
 refine server_Take.s i97 o94 (by omega) fun h98 es5 evs5 k98 i98 oo5 =>?_;rw[hT2]at i98 ⊢;have z94:=k94.1;have z95:=k95.1;have z97:=k97.1;have z90:=k76.1;have z76:=k76_90.1;have z93:=k93.1
 have lt4:∀q∈YL b c t r es4,h.size≤q∧q<h95.size:=fun q hq=>by
  simp only[YL,YAF]at hq;rcases hq with hq | hq
  ·have:=hsb q (by simp only[YL,YAF];exact .inl hq);omega
  ·have h1:=i94.c.a.lt q hq;rcases oo4 q hq with h2 | h2
   ·simp[own]at h2
   ·omega
 have k0_98:Jc [] h h98:=((k0_94.n k95).n k97).new k98 fun q hq=>(lt4 q hq).1;have e98:=k98.get e97 fun hm=>by have:=(lt4 _ hm).2;omega
 refine qu (.inr rfl) hu hn1 fun w99 h99 k99 y1 y2 =>?_;refine Jq fun b21 h101 hb21 k101 e101 hs101 =>?_;have e101:h101[b21]? = some (Jg JC Xh w99):=e101;have e20:=k101.g (k99.g e98);have i101:=(i98.keep0 k99).keep0 k101;have k0_101:Jc [] h h101:=(k0_98.n k99).n k101;refine server_Holder.s i101 ?_;have F2:=Z4 e20;have F3:=Z4 e101;rw[w1,w2]at F2;rw[y1,y2]at F3;refine JH (if fine=true then 5 else 6,((n:Int),())) h101 ?_ ?_
 ·cases fine with
  | true=>rw[Jf rfl];rw[f2];exact⟨rfl,rfl⟩
  | false=>rw[Jd (by simp)];rw[f2];exact⟨rfl,rfl⟩
 refine Qd (fun y h'=>y=(true,())∧Jc [] h h') ?_ ?_
 rotate_left
 ·rintro _ h' ⟨rfl,k'⟩;exact hK h' k'
 rw[Jf (by rfl),Jf (by rfl)];refine Jb F2.1 ?_;rw[Jf (by simp)];refine Jb F2.2.2.1 ?_;rw[Jf (by simp)];refine Jb F3.1 ?_;rw[Jf (by rfl)];refine Jb F3.2.2.1 ?_;rw[Jf (by simp)];refine server_Log.s i101 o94.c fun x h105 k105 lr _ =>?_;have k0_105:Jc [] h h105:=k0_101.n k105;rw[lr.n,f4,Jf (by simp)];rcases f5 with f5 | ⟨f5,f6,f7⟩
 ·rw[f5,Jf (by decide)];exact⟨rfl,k0_105⟩
 ·rw[f5,Jd (by decide),Jf (dT (hw0 f6))]
  have ht:turn=true:=by
   rw[hh1]at f7
   cases turn with
   | true=>rfl
   | false=>rw[Jd (by simp)]at f7;exact absurd f7 (by decide)
  exact⟨by rw[ht],k0_105⟩
end Go.Proofs.Tryz
