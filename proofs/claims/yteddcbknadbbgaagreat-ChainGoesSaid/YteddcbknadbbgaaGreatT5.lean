import Derived.Test.YteddcbknadbbgaaGreatT4
import Derived.Test.YteddcbknadbbgaaGreatModels4
set_option linter.unusedVariables false
set_option linter.unusedSimpArgs false
set_option maxRecDepth 100000
namespace Go.Proofs.Tryz
open Go Go.Al
theorem Sd.k_succ {d:Sd} {n:Nat}:{ d.k n with next:=(d.k n).next+1 }=d.k (n+1):=by
 unfold Sd.k
 dsimp only
 push_cast
 rfl
theorem go_vec {C:Cn} {u c0 c1:Nat} (hu:u≤1) (hlv:lastVec C=[(c0:Int),(c1:Int)]):nextVec C (u:Int)=[(((if u=0 then c0+1 else c0):Nat):Int),(((if u=0 then c1 else c1+1):Nat):Int)]:=by
 unfold nextVec
 rw[hlv]
 match u,hu with
 | 0,_=>rfl
 | 1,_=>rfl
theorem last_app {C:Cn} {s:Ett}:lastVec { C with all:=C.all++[s] }=s.vec∧lastTab { C with all:=C.all++[s] }=s.tables:=by
 unfold lastVec lastTab
 simp
theorem keys_set {A B:Sd} {u c0 c1:Nat} (hu:u≤1):([hkV (A.k c0),hkV (B.k c1)]:List LkK.Ty).set ((u:Nat):Int).toNat (hkV { (sdOf A B u).k (if u=0 then c0 else c1) with next:=((sdOf A B u).k (if u=0 then c0 else c1)).next+1 })=[hkV (A.k (if u=0 then c0+1 else c0)),hkV (B.k (if u=0 then c1 else c1+1))]:=by
 rw[Sd.k_succ]
 match u,hu with
 | 0,_=>rfl
 | 1,_=>rfl
theorem beq_same {z:HVec}:Kd.beq (.ar 32 .u8) z z=true:=(beq_eq (k := .ar 32 .u8) rfl (x:=z) (y:=z)).2 rfl
theorem IsRc.keepE {n1 c:Nat} {h h':Heap} {kv:KeK.Ty} {fs:Slc} {C:Cn} {S:List Nat} (i:IsRc n1 h c kv fs ⟨none,0,0⟩ ⟨none,0,0⟩ [] C) (hall:C.all=[]) (k:Keep S h h') (hS:∀b∈S,∀T,T=t_almonryref18_Chain∨T=t_api_Hash→∀cc f,h[b]? ≠ some (.cells cc T f)):IsRc n1 h' c kv fs ⟨none,0,0⟩ ⟨none,0,0⟩ [] C:=
 ⟨k.get i.e fun hm=>hS c hm _ (by simp) _ _ i.e,i.lc,row_keepC (n0:=0) i.f k (fun _ _=>Nat.zero_le _) (fun b hb => .inr (.inr (hS b hb _ (by simp)))),.inl ⟨rfl,rfl⟩,by simp[own],by rw[hall];trivial,by rw[hall];exact .inl ⟨rfl,rfl⟩,by simp[own]⟩
theorem row_tag {T T':Nat} {k:Kd} {s:Slc} {L:List k.Ty} {h:Heap} (r:Row h T k s L) (hT:T≠T'):∀q∈own s,∀cc f,h[q]? ≠ some (.cells cc T' f):=fun q hq cc f e=>rowT r e (fun h=>hT h.symm) hq
theorem row_lt {T:Nat} {k:Kd} {s:Slc} {L:List k.Ty} {h:Heap} (r:Row h T k s L):∀q∈own s,q<h.size:=fun q hq=>by
 rcases r with ⟨e,_⟩ | ⟨b,zs,e,_,_,e4⟩
 ·rw[e] at hq;simp[own] at hq
 ·have:q=b:=by unfold own at hq;rw[e] at hq;simpa using hq
  subst this
  exact lt_of_some e4
theorem law20_ChainGoes.s {us:Slc} {users:List Int} {seed:ByteArray} {h:Heap} {K:Bool→Heap→Prop} (gu:Seg .i us users h) (hK:∀h',Keep [] h h'→K true h'):law20_ChainGoes.C us seed h K:=by
 apply law20_ChainGoes.c
 unfold law20_ChainGoes.m
 have gul:=gu.len
 refine law20_awake.s fun h1 k1 =>?_
 rw[if_neg (by simp)]
 rw[←bx_list (s:=seed)]
 show law20_made.C (bx seed.data.toList) (bx [103]) h1 _
 refine law20_made.s fun kv ks h2 k2 md =>?_
 generalize sdA seed.data.toList=A at md
 generalize sdB [103]=B at md
 have z1:=k1.1
 have z2:=k2.1
 refine new_st_gen fun b1 h4 hb1 k4 e4 hs4 =>?_
 have e4:h4[b1]? = some (vobj t_api_Keys KeK kv):=e4
 refine ld_go (sm_all e4) ?_
 have hmay:=clb_may (a:=A) (b:=B)
 have hmm:(clbK A B).m=clb:=rfl
 have hpp:(clbK A B).pubs.length=2:=rfl
 refine chain_New.s (k:=clbK A B) (md.at.keep k4) (by rw[hpp];decide) (by intro g hg;unfold clbK clb at hg;simp at hg;subst hg;decide) (fun hn=>by rw[hmay] at hn;simp at hn) fun _ h5 cb t mv ps bs k5 i5 =>?_
 have o5:CnOk (newC (clbK A B)):=clb_new
 have cc5:ClubC A B (newC (clbK A B)):=clb_c
 have hall:(newC (clbK A B)).all=[]:=rfl
 have hlv0:lastVec (newC (clbK A B))=[((0:Nat):Int),((0:Nat):Int)]:=rfl
 have hlt0:lastTab (newC (clbK A B))=(newC (clbK A B)).begin:=rfl
 have k45:=k4.new k5 (by simp)
 refine jn_at (false,()) h5 ?_ ?_
 ·refine law0_Num.s ?_
  rw[if_neg (by simp)]
  exact ⟨by simp,rfl⟩
 rw[if_neg (by simp)]
 refine ld_go (sm_all (k5.get e4 (by simp))) ?_
 refine ref18_NewChain.s (k:=clbK A B) (md.at.keep k45) (by rw[hpp];decide) (by rw[hmm];decide) (fun hn=>by rw[hmay] at hn;simp at hn) fun _ h8 c2 fs k8 ir =>?_
 generalize newC (clbK A B)=C at *
 refine new_gen fun b2 h9 hb2 k9 e9 hs9 =>?_
 have e9:h9[b2]? = some (vobj t_2_int (.ar 2 .i) (Vector.replicate 2 (0:Int))):=e9
 have k59:=k8.new k9 (by simp)
 have k29:=k45.new k59 (by simp)
 have mk9:=(md.keep0 k29).k
 have okk:=md.ok
 have i9:=i5.keep0 k59
 have ir9:=ir.keep0 k9
 have psl:=row_lt (i5.keep0 k8).p
 have z4:=k4.1
 have z5:=k5.1
 have z8:=k8.1
 have z9:=k9.1
 have off9:=i9.off
 have ksl:=row_lt mk9
 have k09:Keep [] h h9:=(k1.new k2 (by simp)).new k29 (by simp)
 have hb2t:∀T,T≠t_2_int→∀cc f,h9[b2]? ≠ some (.cells cc T f):=fun T hT=>cell_ne (o := .cells #[] 0 (0,0)) e9 hT
 have hUT:∀b∈[cb,t,b2]++own ks,∀T,T=t_almonryref18_Chain∨T=t_api_Hash→∀cc f,h9[b]? ≠ some (.cells cc T f):=fun b hb T hT=>by
  rcases List.mem_append.1 hb with hb | hb
  ·simp only [List.mem_cons,List.not_mem_nil,or_false] at hb
   rcases hb with rfl | rfl | rfl
   ·exact off9.2.2.2.2.1 T (by rcases hT with rfl | rfl <;> decide)
   ·exact off9.2.2.2.2.2 T (by rcases hT with rfl | rfl <;> decide)
   ·exact hb2t T (by rcases hT with rfl | rfl <;> decide)
  ·exact row_tag mk9 (by rcases hT with rfl | rfl <;> decide) b hb
 have hUn:∀b∈[cb,t,b2]++own ks,h.size≤b:=fun b hb=>by
  rcases List.mem_append.1 hb with hb | hb
  ·simp only [List.mem_cons,List.not_mem_nil,or_false] at hb
   rcases hb with rfl | rfl | rfl <;> omega
  ·have:=okk b hb;omega
 refine lp_go (fun (y:Slc×Int×Unit) (hh:Heap)=>∃(n:Nat) (es:Slc) (evs:List EtK.Ty) (D:Cn) (c0 c1:Nat) (z:Vector Int 2),y.2.1=n∧n≤users.length∧n≤4∧Keep ([cb,t,b2]++own ks) h9 hh∧IsCh h4.size hh cb t mv ps bs es evs D∧(∀q∈own es,h9.size≤q)∧CnOk D∧ClubC A B D∧D.all.length=n∧lastVec D=[(c0:Int),(c1:Int)]∧c0+c1=n∧lastTab D=lastTab C ∧
  Row hh t_string .s y.1 ((D.all.map putE).map bx)∧(∀q∈own y.1,h9.size≤q)∧Row hh t_api_HssKey LkK ks [hkV (A.k c0),hkV (B.k c1)]∧hh[b2]? = some (vobj t_2_int (.ar 2 .i) z)∧z[0]=(c0:Int)∧z[1]=(c1:Int)) (fun (y:Slc×Int×Unit) _=>4-y.2.1.toNat) ?_ ?_
 ·exact ⟨0,_,_,C,0,0,Vector.replicate 2 (0:Int),rfl,Nat.zero_le _,by decide,Keep.rfl,i9,by simp[own],o5,cc5,by rw[hall];rfl,hlv0,rfl,rfl,by rw[hall];exact .inl ⟨rfl,rfl⟩,by simp[own],mk9,e9,rfl,rfl⟩
 rintro ⟨(lv:Slc),(jj:Int),_⟩ hh ⟨n,es,evs,D,c0,c1,z,e,hnl,hn4,kU,iD,oes,oD,cD,hDn,hlv,hcc,hlt,rl,ol,rk,ez,hz0,hz1⟩
 dsimp only at e rl ol ⊢
 subst e
 have zU:=kU.1
 refine jn_at (decide (n<users.length∧n<4),()) hh ?_ ?_
 ·by_cases hl:n<users.length
  ·rw[if_pos (show decide ((n:Int)<(us.len:Int))=true by simp;omega)]
   refine ⟨?_,rfl⟩
   by_cases h4:n<4
   ·rw[decide_eq_true (show (n:Int)<4 by omega),decide_eq_true ⟨hl,h4⟩]
   ·rw[decide_eq_false (show ¬(n:Int)<4 by omega),decide_eq_false (fun h=>h4 h.2)]
  ·rw[if_neg (show ¬decide ((n:Int)<(us.len:Int))=true by simp;omega)]
   exact ⟨by simp[hl],rfl⟩
 by_cases hgo:n<users.length∧n<4
 case neg=>
  rw[if_neg (by simpa using hgo)]
  refine hK hh (k09.new kU hUn)
 rw[if_pos (decide_eq_true hgo)]
 have hw:w64 ((n:Int)+1)=((n+1:Nat):Int):=by rw[w64_id (by omega) (by omega)];omega
 rw[hw]
 refine jn_in (fun y hh'=>∃(es:Slc) (evs:List EtK.Ty) (D:Cn) (c0 c1:Nat) (z:Vector Int 2),Keep ([cb,t,b2]++own ks) h9 hh'∧IsCh h4.size hh' cb t mv ps bs es evs D∧(∀q∈own es,h9.size≤q)∧CnOk D∧ClubC A B D∧D.all.length=n+1∧lastVec D=[(c0:Int),(c1:Int)]∧c0+c1=n+1∧lastTab D=lastTab C ∧
  Row hh' t_string .s y.1 ((D.all.map putE).map bx)∧(∀q∈own y.1,h9.size≤q)∧Row hh' t_api_HssKey LkK ks [hkV (A.k c0),hkV (B.k c1)]∧hh'[b2]? = some (vobj t_2_int (.ar 2 .i) z)∧z[0]=(c0:Int)∧z[1]=(c1:Int)) ?_ ?_
 case refine_2=>
  rintro ⟨lv',_⟩ hh' ⟨es,evs,D,c0,c1,z,h1,h2,h3,h4,h5,h6,h7,h8,h9,h10,h11,h12,h13,h14,h15⟩
  exact ⟨⟨n+1,es,evs,D,c0,c1,z,rfl,by omega,by omega,h1,h2,h3,h4,h5,h6,h7,h8,h9,h10,h11,h12,h13,h14,h15⟩,by simp;omega⟩
 have gun:Seg .i us users hh:=(gu.keep (by decide) (k09.new kU hUn))
 refine seg_ix gun (x:=users[n]'hgo.1) (by omega) (by rw[Int.toNat_natCast];exact List.getElem?_eq_getElem hgo.1) rfl ?_
 generalize users[n]'hgo.1=uv at *
 obtain ⟨u,hu,hue⟩:=and_1U (x:=uv)
 rw[hue]
 obtain ⟨cu0,hcu0⟩:∃x,(if u=0 then c0+1 else c0)=x:=⟨_,rfl⟩
 obtain ⟨cu1,hcu1⟩:∃x,(if u=0 then c1 else c1+1)=x:=⟨_,rfl⟩
 obtain ⟨kn,hkn⟩:∃x,(if u=0 then c0 else c1)=x:=⟨_,rfl⟩
 have hsum:cu0+cu1=n+1∧kn<4∧cu0≤4∧cu1≤4:=by
  by_cases h:u=0
  ·rw[if_pos h] at hcu0 hcu1 hkn;omega
  ·rw[if_neg h] at hcu0 hcu1 hkn;omega
 have hzu:z[u]'(by omega)=(kn:Int):=by
  rw[←hkn]
  match u,hu with
  | 0,_=>exact hz0
  | 1,_=>exact hz1
 refine ⟨by omega,by omega,?_⟩
 rw[Int.toNat_natCast]
 refine ld_go (ar_sm ez (by omega)) ?_
 rw[hzu]
 have hwk:w64 ((kn:Int)+1)=((kn+1:Nat):Int):=by rw[w64_id (by omega) (by omega)];omega
 rw[hwk]
 refine ⟨by omega,by omega,?_⟩
 rw[Int.toNat_natCast]
 refine ar_st (k := .i) ez (by omega) ?_
 have hz':(z.setIfInBounds u ((kn+1:Nat):Int))[0]=(cu0:Int)∧(z.setIfInBounds u ((kn+1:Nat):Int))[1]=(cu1:Int):=by
  rw[Vector.getElem_setIfInBounds,Vector.getElem_setIfInBounds,hz0,hz1,←hcu0,←hcu1,←hkn]
  match u,hu with
  | 0,_=>exact ⟨rfl,rfl⟩
  | 1,_=>exact ⟨rfl,rfl⟩
 generalize z.setIfInBounds u ((kn+1:Nat):Int)=z' at *
 have e13:=get_set (o':=vobj t_2_int (.ar 2 .i) z') ez
 have k13:Keep [b2] hh (hh.setIfInBounds b2 (vobj t_2_int (.ar 2 .i) z')):=keep_set
 have hs13:(hh.setIfInBounds b2 (vobj t_2_int (.ar 2 .i) z')).size=hh.size:=by simp
 generalize hh.setIfInBounds b2 (vobj t_2_int (.ar 2 .i) z')=h13 at *
 have offb2:∀T,T≠t_2_int→∀cc f,hh[b2]? ≠ some (.cells cc T f):=fun T hT=>cell_ne (o := .cells #[] 0 (0,0)) ez hT
 have i13:=iD.keep k13 fun b hb=>by
  simp at hb;subst hb
  exact .inr ⟨fun hm=>by have:=psl b hm;omega,rowT iD.a ez (by decide),fun T hT=>offb2 T (by rcases hT with rfl | rfl | rfl | rfl | rfl | rfl <;> decide)⟩
 have rk13:Row h13 t_api_HssKey LkK ks _:=rk.keep k13 fun q hq hm=>by simp at hm;subst hm;exact rowT rk ez (by decide) hq
 have rl13:Row h13 t_string .s lv _:=rl.keep k13 fun q hq hm=>by simp at hm;subst hm;exact rowT rl ez (by decide) hq
 have kU13:Keep ([cb,t,b2]++own ks) h9 h13:=kU.then (U:=[cb,t,b2]++own ks) k13 (fun x hx _=>hx) (fun x hx _=>by simp at hx;subst hx;simp)
 have ir13:=ir9.keepE hall kU13 hUT
 refine ref18_Tables.s ir13 (fun T2 gT rT =>?_) (by rw[hall];decide)
 rw[←hlt] at gT
 have hT3:(lastTab D).length=3:=cD.last oD
 refine chain_Next.s i13 oD gT (by rw[hT3];decide) (fun hn=>by rw[hT3,nxt_may cD hu (by omega)] at hn;simp at hn) fun _ v h15 k15 er no =>?_
 refine new_st_gen fun b3 h17 hb3 k17 e17 hs17 =>?_
 have e17:h17[b3]? = some (vobj t_api_Entry EtK v):=e17
 have er17:EtR h17 v (nextE D (u:Int) (lastTab D)):=er.keep k17 (by simp)
 have hnv:nextVec D (u:Int)=[(cu0:Int),(cu1:Int)]:=by rw[go_vec hu hlv,hcu0,hcu1]
 have hvo:(nextVec D (u:Int)).all vecOk=true:=by
  have v0:vecOk (cu0:Int)=true:=by unfold vecOk;simp only [Bool.and_eq_true,decide_eq_true_eq];omega
  have v1:vecOk (cu1:Int)=true:=by unfold vecOk;simp only [Bool.and_eq_true,decide_eq_true_eq];omega
  rw[hnv]
  simp[v0,v1]
 have hem:=next_may cD oD hu hT3 (by omega) hvo
 have hvl:(nextE D (u:Int) (lastTab D)).vec.length=2:=next_len cD oD
 have hchk:=chk_next cD oD (n:=kn) hu hT3 (by omega) hvo hsum.2.1
 rw[if_pos tabs_same] at hchk
 have hpm:=sgn_may (d:=sdOf A B u) (n:=kn) hsum.2.1 hem
 have q1:(nextE D (u:Int) (lastTab D)).user=(u:Int):=rfl
 have q2:(nextE D (u:Int) (lastTab D)).seq=(D.all.length:Int)+1:=rfl
 have q3:(nextE D (u:Int) (lastTab D)).vec=nextVec D (u:Int):=rfl
 have q4:(nextE D (u:Int) (lastTab D)).root=rootV (D.all.map putE):=rfl
 have hsd:sgnE (nextE D (u:Int) (lastTab D)) ((sdOf A B u).k kn)={ nextE D (u:Int) (lastTab D) with sign:=hssSig ((sdOf A B u).k kn) (sayE (nextE D (u:Int) (lastTab D))) }:=rfl
 have q5:(sgnE (nextE D (u:Int) (lastTab D)) ((sdOf A B u).k kn)).vec=nextVec D (u:Int):=rfl
 have q6:(sgnE (nextE D (u:Int) (lastTab D)) ((sdOf A B u).k kn)).tables=lastTab D:=rfl
 have hag:=chk_again cD hpm (by rw[q5];exact next_len cD oD) (by rw[q6];exact hT3) (by omega) rfl
 generalize nextE D (u:Int) (lastTab D)=ent at *
 generalize sgnE ent ((sdOf A B u).k kn)=s at *
 have k13_17:=k15.new k17 (by simp)
 have rl17:=rl13.keep k13_17 (by simp)
 have hDput:∀l∈D.all.map putE,l.length≤500000:=fun l hl=>by
  obtain ⟨e,he,rfl⟩:=List.mem_map.1 hl
  have:=put_len (oD.a e he).1
  omega
 refine jn_in (fun y h'=>y=(false,())∧Keep [] h17 h') ?_ ?_
 ·refine law0_Num.s ?_
  rw[if_neg (by simp)]
  obtain ⟨f0,f1,f2,f3,f35,f36⟩:=et_f e17
  refine ld_go f1 ?_
  rw[er17.q,q2,hDn,if_neg (by simp)]
  refine ld_go f0 ?_
  rw[er17.u,q1,if_neg (by simp)]
  refine ld_go f3 ?_
  rw[er17.r,q4]
  rw[er17.r,q4] at f3
  refine ref7_Root.s rl17.seg (by rw[rl17.len];exact rl17.cap) hDput (by rw[List.length_map];omega) fun h20 k20=>⟨sm_keep (by decide) f3 k20,?_⟩
  rw[beq_same,if_neg (by simp)]
  obtain ⟨f0,f1,f2,f3,f35,f36⟩:=et_f (k20.get e17 (by simp))
  refine ld_go f2 ?_
  have ez20:=(k13_17.new k20 (by simp)).get e13 (by simp)
  refine ⟨by decide,by decide,?_⟩
  refine ld_go (ar_sm (i:=0) ez20 (by decide)) ?_
  refine ⟨by decide,by decide,?_⟩
  refine ld_go (ar_sm (i:=1) ez20 (by decide)) ?_
  refine bs_gen fun bq h21 hbq k21 r21 hs21=>⟨sm_keep (by decide) f2 k21,?_⟩
  refine law0_SameInts.s (er17.keep (k20.new k21 (by simp)) (by simp)).w.seg r21.seg (by rw[hvl];decide) ?_
  rw[hz'.1,hz'.2,q3,hnv,decide_eq_true rfl]
  exact ⟨rfl,k20.new k21 (by simp)⟩
 rintro _ h18 ⟨rfl,k18⟩
 rw[if_neg (by simp)]
 have k13_18:=k13_17.new k18 (by simp)
 have e18:=k18.get e17 (by simp)
 refine jn_in (fun (y:Pl×Pl×Int×Unit) h'=>∃p q,y=(Pl.mk p 0,Pl.mk q 0,0,())∧h'[p]? = some (vobj t_api_Entry EtK (sgnV v (hssSig ((sdOf A B u).k kn) (sayE ent))))∧h'[q]? = some (vobj t_api_HssKey LkK (hkV { ((sdOf A B u).k kn) with next:=((sdOf A B u).k kn).next+1 }))∧Keep [] h18 h'∧h18.size≤p∧h18.size≤q) ?_ ?_
 ·refine ld_go (sm_all e18) ?_
  have rk18:=rk13.keep k13_18 (by simp)
  have hkey:=key_u (a:=A) (b:=B) (x:=c0) (y:=c1) hu
  rw[hkn] at hkey
  refine seg_ixl rk18.seg (by omega) hkey rfl fun l1 gl=>ld_go gl ?_
  refine sign_blk (J:=fun p q c h'=>∃p' q',((p,q,c,()):Pl×Pl×Int×Unit)=(Pl.mk p' 0,Pl.mk q' 0,0,())∧h'[p']? = some (vobj t_api_Entry EtK (sgnV v (hssSig ((sdOf A B u).k kn) (sayE ent))))∧h'[q']? = some (vobj t_api_HssKey LkK (hkV { ((sdOf A B u).k kn) with next:=((sdOf A B u).k kn).next+1 }))∧Keep [] h18 h'∧h18.size≤p'∧h18.size≤q') (c:=0) (v':=sgnV v (hssSig ((sdOf A B u).k kn) (sayE ent))) (kv':=hkV { ((sdOf A B u).k kn) with next:=((sdOf A B u).k kn).next+1 }) (sm_all e18) gl (fun h1 K' kk hk =>?_) (fun p q h' ep eq k lp lq=>⟨p,q,rfl,ep,eq,k,lp,lq⟩)
  exact ref18_Sign.s ((er17.keep k18 (by simp)).at.keep kk) (by rw[hvl];decide) (seed_may (by omega)) (fun hn=>by rw[hem] at hn;simp at hn) (fun _ hn=>by rw[seed_spent hsum.2.1] at hn;simp at hn) (fun _ _ h' k'=>hk h' k')
 rintro _ h23 ⟨p,q,rfl,ep,eq,k23,lp,lq⟩
 dsimp only
 have k13_23:=k13_18.new k23 (by simp)
 refine ld_go (sm_all eq) ?_
 have rk23:=rk13.keep k13_23 (by simp)
 refine ix_st rk23 (by omega) (by simp;omega) rfl fun h51 k51 rk51 =>?_
 have hks:=keys_set (A:=A) (B:=B) (c0:=c0) (c1:=c1) hu
 rw[hkn] at hks
 rw[hks,hcu0,hcu1] at rk51
 have rl51:Row h51 t_string .s lv _:=(rl13.keep k13_23 (by simp)).keep k51 (tagO (rl13.keep k13_23 (by simp)) rk23 (by decide))
 have i23:=i13.keep0 k13_23
 have i51:=i23.keep k51 fun b hb => .inr ⟨tagO rk23 i23.p (by decide) b hb,tagO rk23 i23.a (by decide) b hb,fun T hT=>row_tag rk23 (by rcases hT with rfl | rfl | rfl | rfl | rfl | rfl <;> decide) b hb⟩
 have ep51:=k51.get ep (rowT rk23 ep (by decide))
 have es51:EtR h51 (sgnV v (hssSig ((sdOf A B u).k kn) (sayE ent))) s:=by
  have:EtR h23 (sgnV v (hssSig ((sdOf A B u).k kn) (sayE ent))) s:=by rw[hsd];exact (er17.keep (k18.new k23 (by simp)) (by simp)).sgn
  exact this.keepT k51 fun b hb T hT=>row_tag rk23 (by rcases hT with rfl | rfl <;> decide) b hb
 have e51z:=k51.get ((k13_23).get e13 (by simp)) (rowT rk23 ((k13_23).get e13 (by simp)) (by decide))
 refine ld_go (sm_all ep51) ?_
 generalize sgnV v (hssSig ((sdOf A B u).k kn) (sayE ent))=sv at *
 have hs2:s.vec.length=2:=by rw[q5,hnv];rfl
 refine chain_Add.s i51 oD es51.at (by rw[hs2];decide) (fun hn=>absurd hchk hn) (fun _ h52 es' evs' k52 i52 hne =>?_)
 obtain ⟨o52,_,_⟩:=chk_ok oD hchk
 have off51:=i51.off
 have tg51:∀b∈[cb,t]++own es,∀T,T≠t_chain_Chain→T≠t_mlog_Tree→T≠t_api_Entry→∀cc f,h51[b]? ≠ some (.cells cc T f):=fun b hb T h1 h2 h3=>by
  rcases List.mem_append.1 hb with hb | hb
  ·simp only [List.mem_cons,List.not_mem_nil,or_false] at hb
   rcases hb with rfl | rfl
   ·exact off51.2.2.2.2.1 T h1
   ·exact off51.2.2.2.2.2 T h2
  ·exact row_tag i51.a (fun h=>h3 h.symm) b hb
 have lt23:h9.size≤h18.size∧h18.size≤h23.size∧h23.size≤h51.size:=⟨by have:=k13_18.1;omega,k23.1,k51.1⟩
 have pne:p∉[cb,t]++own es:=fun hm=>by
  rcases List.mem_append.1 hm with hm | hm
  ·simp only [List.mem_cons,List.not_mem_nil,or_false] at hm
   omega
  ·have h1:=row_lt iD.a p hm
   have:=k13_18.1
   omega
 have ep52:=k52.get ep51 pne
 have es52:EtR h52 sv s:=es51.keepT k52 fun b hb T hT=>tg51 b hb T (by rcases hT with rfl | rfl <;> decide) (by rcases hT with rfl | rfl <;> decide) (by rcases hT with rfl | rfl <;> decide)
 refine ld_go (sm_all ep52) ?_
 refine chain_Add.s i52 o52 es52.at (by rw[hs2];decide) (fun _ h53 k53 =>?_) (fun hn=>by rw[hag] at hn;simp at hn)
 rw[hag]
 refine ld_go (sm_all (k53.get ep52 (by simp))) ?_
 refine ref18_Put.s (es52.keep k53 (by simp)).at (by rw[hs2];decide) fun h54 k54 =>?_
 rw[if_pos hpm]
 refine bs_gen fun bq h55 hbq k55 r55 hs55 =>?_
 refine slCells_seg r55.seg (by simp[Kd.size]) ?_
 have k52_55:=(k53.new k54 (by simp)).new k55 (by simp)
 have rl52:Row h52 t_string .s lv _:=row_keepC (n0:=0) rl51 k52 (fun _ _=>Nat.zero_le _) (fun b hb => .inr (.inr (tg51 b hb _ (by decide) (by decide) (by decide))))
 have rl55:=rl52.keep k52_55 (by simp)
 refine ap_row (T:=t_string) (k := .s) (ys:=[bx (putE s)]) rl55 rfl rfl (by rw[List.length_map,List.length_map];simp;omega) fun s3 h56 r56 k56 o56 =>?_
 have i55:=i52.keep0 k52_55
 have i56:=i55.keep k56 fun b hb => .inr ⟨fun hm=>by have:=ol b hb;have:=psl b hm;omega,tagO rl55 i55.a (by decide) b hb,fun T hT=>row_tag rl55 (by rcases hT with rfl | rfl | rfl | rfl | rfl | rfl <;> decide) b hb⟩
 have hmap:(D.all.map putE).map bx++[bx (putE s)]=(({ D with all:=D.all++[s] }:Cn).all.map putE).map bx:=by simp
 rw[hmap] at r56
 have rk52:Row h52 t_api_HssKey LkK ks _:=row_keepC (n0:=0) rk51 k52 (fun _ _=>Nat.zero_le _) (fun b hb => .inr (.inr (tg51 b hb _ (by decide) (by decide) (by decide))))
 have rk55:=rk52.keep k52_55 (by simp)
 have rk56:=rk55.keep k56 (tagO rk55 rl55 (by decide))
 have e52z:=k52.get e51z fun hm=>tg51 b2 hm t_2_int (by decide) (by decide) (by decide) _ _ e51z
 have e55z:=k52_55.get e52z (by simp)
 have e56z:=k56.get e55z (rowT rl55 e55z (by decide))
 have cD':ClubC A B { D with all:=D.all++[s] }:=⟨cD.m,cD.p,cD.b⟩
 have z13:=k13_23.1
 have z52:=k52.1
 have z55:=k52_55.1
 have kU56:Keep ([cb,t,b2]++own ks) h9 h56:=by
  have a1:Keep ([cb,t,b2]++own ks) h9 h23:=kU13.then (U:=[cb,t,b2]++own ks) k13_23 (fun x hx _=>hx) (by simp)
  have a2:=a1.then (U:=[cb,t,b2]++own ks) k51 (fun x hx _=>hx) (fun x hx _=>List.mem_append.2 (.inr hx))
  have a3:=a2.then (U:=[cb,t,b2]++own ks) k52 (fun x hx _=>hx) (fun x hx hl=>by
   rcases List.mem_append.1 hx with hx | hx
   ·simp only [List.mem_cons,List.not_mem_nil,or_false] at hx
    rcases hx with rfl | rfl <;> simp
   ·have:=oes x hx;omega)
  have a4:=a3.then (U:=[cb,t,b2]++own ks) k52_55 (fun x hx _=>hx) (by simp)
  exact a4.then (U:=[cb,t,b2]++own ks) k56 (fun x hx _=>hx) (fun x hx hl=>by have:=ol x hx;omega)
 have hput':∀l∈({ D with all:=D.all++[s] }:Cn).all.map putE,l.length≤500000:=fun l hl=>by
  obtain ⟨e,he,rfl⟩:=List.mem_map.1 hl
  have:=put_len (o52.a e he).1
  omega
 have hlen':({ D with all:=D.all++[s] }:Cn).all.length=n+1:=by show (D.all++[s]).length=n+1;simp[hDn]
 obtain ⟨la1,la2⟩:=last_app (C:=D) (s:=s)
 generalize ({ D with all:=D.all++[s] }:Cn)=D' at *
 refine jn_in (fun y h'=>y=(false,())∧Keep [] h56 h') ?_ ?_
 ·rw[if_neg (by simp)]
  refine law0_Num.s ?_
  rw[if_neg (by simp)]
  refine law0_Num.s ?_
  rw[if_neg (by simp)]
  refine chain_Log.s i56 o52 fun x h60 k60 lg _ =>?_
  rw[lg.n,hlen',if_neg (by simp)]
  refine chain_Log.s (i56.keep0 k60) o52 fun x' h61 k61 lg' _ =>?_
  have r61:=(r56.keep k60 (by simp)).keep k61 (by simp)
  refine ref7_Root.s r61.seg (by rw[r61.len];exact r61.cap) hput' (by rw[List.length_map];omega) fun h62 k62 =>?_
  rw[lg'.r,beq_same]
  exact ⟨rfl,(k60.new k61 (by simp)).new k62 (by simp)⟩
 ·rintro _ h57 ⟨rfl,k57⟩
  rw[if_neg (by simp)]
  refine ⟨es',evs',D',cu0,cu1,z',kU56.then (U:=[cb,t,b2]++own ks) k57 (fun x hx _=>hx) (by simp),i56.keep0 k57,fun q hq =>?_,o52,cD',hlen',by rw[la1,q5,hnv],hsum.1,by rw[la2,q6,hlt],r56.keep k57 (by simp),fun q hq =>?_,rk56.keep k57 (by simp),k57.get e56z (by simp),hz'.1,hz'.2⟩
  ·rcases hne q hq with h | h
   ·exact oes q h
   ·omega
  ·rcases own_of o56 q hq with h | h
   ·exact ol q h
   ·omega
end Go.Proofs.Tryz
