import Derived.Test.YteddcbknadbbgaaGreatT4
import Derived.Test.YteddcbknadbbgaaGreatT2
import Derived.Test.YteddcbknadbbgaaGreatT3
import Derived.Test.YteddcbknadbbgaaGreatModels3
import Derived.KernelRfl
import Derived.Test.YteddcbknadbbgaaGreatModels4
set_option linter.unusedVariables false
set_option linter.unusedSimpArgs false
set_option maxRecDepth 100000
open List renaming flatMap_cons → YAA, getD_eq_getElem?_getD → YAB, getElem?_eq_getElem → YAC, length_append → YAD, length_drop → YAE, length_map → YAF, length_set → YAG, length_take → YAH, mem_cons → YAI, mem_singleton → YAJ, nil_append → YAK, not_mem_nil → YAL, set_eq_take_append_cons_drop → YAM, take_of_length_le → YAN, take_succ_eq_append_getElem → YAO
open Int renaming toNat_natCast → YAP
open Nat renaming le_refl → YAQ, mul_one → YAR, zero_le → YAS
open Bool renaming and_eq_true → YAT, true_and → YAU
namespace Go.Proofs.Tryz
open Go Go.Al
theorem ZDN.s {l:By} {h:Heap} {K:HVec→Heap→Prop} (hl:l.length≤500000) (hK:∀h',Keep [] h h'→K (leafV l) h'):ZDN.C (bx l) h K:=by
 apply ZDN.c;unfold ZDN.m;refine new_gen fun b1 h1 hb1 k1 e1 hs1 =>?_;have e1:h1[b1]? = some (vobj t_api_Hash (.ar 32 .u8) (Vector.replicate 32 (0:UInt8))):=e1;show sadd (bx [0]) (bx l) _;refine sadd_b (by simp;omega) ?_;refine ZA4.s (l:=[0]++l) (by simp;omega) fun h2 k2 =>?_;unfold leafV at hK;have e0:([0]:By)++l=0::l:=rfl;rw[e0];generalize shaL (0::l)=v at *;refine st_to (k2.g e1) fun h3 k3 e3 hs3=>ld_go (sm_all e3) ?_;have:=k1.1;exact hK h3 ((k1.n k2).new k3 (by simp;omega))
theorem ZDO.s {a b:HVec} {h:Heap} {K:HVec→Heap→Prop} (hK:∀h',Keep [] h h'→K (joinV a b) h'):ZDO.C a b h K:=by
 apply ZDO.c;unfold ZDO.m;refine new_gen fun b1 h1 hb1 k1 e1 hs1 =>?_;have e1:h1[b1]? = some (vobj t_api_Hash (.ar 32 .u8) a):=e1;refine new_gen fun b2 h2 hb2 k2 e2 hs2 =>?_;have e2:h2[b2]? = some (vobj t_api_Hash (.ar 32 .u8) b):=e2;refine new_gen fun b3 h3 hb3 k3 e3 hs3 =>?_;have e3:h3[b3]? = some (vobj t_api_Hash (.ar 32 .u8) (Vector.replicate 32 (0:UInt8))):=e3;have e23:=k3.g e2;refine ld_go (sm_all ((k2.n k3).g e1)) (ld_go (sm_all e23) ?_);refine ZAW.s fun h4 k4=>⟨sm_keep (by decide) (sm_all e23) k4,?_⟩;have la:(Vector.toList a).length=32:=by simp
 have lb:(Vector.toList b).length=32:=by simp
 show sadd (bx [1]) _ _;refine sadd_b (by rw[la];decide) ?_;refine ZAW.s fun h5 k5 =>?_;refine sadd_b (by rw[YAD,la,lb];decide) ?_;refine ZA4.s (l:=[1]++Vector.toList a++Vector.toList b) (by rw[YAD,YAD,la,lb];decide) fun h6 k6 =>?_;unfold joinV at hK;have e0:([1]:By)++Vector.toList a++Vector.toList b=1::(Vector.toList a++Vector.toList b):=rfl;rw[e0];generalize shaL (1::(Vector.toList a++Vector.toList b))=v at *;have k36:=(k4.n k5).n k6;refine st_to (k36.g e3) fun h7 k7 e7 hs7=>ld_go (sm_all e7) ?_;have:=k1.1;have:=k2.1;exact hK h7 ((((k1.n k2).n k3).n k36).new k7 (by simp;omega))
theorem ZDa.s {n:Nat} {h:Heap} {K:Int→Heap→Prop} (h2:2≤n) (hn:n≤100000) (hK:K ((cutN n:Nat):Int) h):ZDa.C (n:Int) h K:=by
 apply ZDa.c;unfold ZDa.m;obtain ⟨b,c1,c2⟩:=cut_ex h2;rw[cut_eq c1 c2] at hK;refine lp_go (fun (y:Int×Unit) (h1:Heap)=>∃j:Nat,y.1=((2^j:Nat):Int)∧j≤b∧h1=h) (fun (y:Int×Unit) _=>n-y.1.toNat) ?_ ?_
 ·exact ⟨0,rfl,YAS _,rfl⟩
 rintro ⟨(jj:Int),_⟩ h1 ⟨j,e,hj,rfl⟩;dsimp only at e ⊢;subst e;have hp:2^j≤2^b:=Nat.pow_le_pow_right (by decide) hj;have hp0:=Nat.two_pow_pos j;have hw:w64 (2*((2^j:Nat):Int))=((2*2^j:Nat):Int):=w6 (by omega);have h4:2*2^j=2^(j+1):=by rw[Nat.pow_succ,Nat.mul_comm]
 rw[hw];by_cases hlt:2*2^j<n
 ·rw[if_pos (show decide (((2*2^j:Nat):Int)<(n:Int))=true from dT (by omega))];refine ⟨⟨j+1,by rw[h4],?_,rfl⟩,?_⟩
  ·by_cases e:j=b
   ·subst e;rw[Nat.pow_succ] at c2;omega
   ·omega
  ·show n-((2*2^j:Nat):Int).toNat<n-((2^j:Nat):Int).toNat;rw[YAP,YAP];omega
 ·rw[if_neg (show ¬decide (((2*2^j:Nat):Int)<(n:Int))=true from dn (by omega))]
  have:j=b:=by
   by_cases e:j=b
   ·exact e
   ·have h3:2^(j+1)≤2^b:=Nat.pow_le_pow_right (by decide) (by omega);omega
  subst this;exact hK
theorem seg_preC {k:Kd} {s:Slc} {xs:List k.Ty} {h:Heap} {n sz:Nat} {K:Slc→Prop} (r:Seg k s xs h) (hc:s.len≤s.cap) (hn:n≤xs.length) (hK:∀s',Seg k s' (xs.take n) h→s'.len≤s'.cap→K s'):slx s 0 (n:Int) (s.cap:Int) sz K:=by
 have hl:=r.len
 have e:(if (s.cap:Int).toNat=(0:Int).toNat then s.a else s.a.map fun l=>⟨l.b,l.o+(0:Int).toNat*sz⟩)=s.a:=by
  split
  ·rfl
  ·cases s.a <;> simp
 refine ⟨by omega,by omega,by omega,by omega,?_⟩;rw[e];refine hK _ ?_ ?_
 ·simp only [YAP,Int.toNat_zero,Nat.sub_zero];exact seg_takeB r hn
 ·simp only [YAP,Int.toNat_zero,Nat.sub_zero];omega
theorem ZA6.t {ls:List By} {s:Slc} {h:Heap} {K:HVec→Heap→Prop} (ih:∀(ls':List By) (s':Slc) (h':Heap) (K':HVec→Heap→Prop),ls'.length<ls.length→Seg .s s' (ls'.map bx) h'→s'.len≤s'.cap→(∀l∈ls',l.length≤500000)→(∀h'',Keep [] h' h''→K' (rootV ls') h'')→ZA6.C s' h' K')
 (g:Seg .s s (ls.map bx) h) (hc:s.len≤s.cap) (hl:∀l∈ls,l.length≤500000) (hn:ls.length≤1000) (hK:∀h',Keep [] h h'→K (rootV ls) h'):ZA6.C s h K:=by
 have gl:=g.len;rw[YAF] at gl;apply ZA6.c;unfold ZA6.m;refine new_gen fun b1 h1 hb1 k1 e1 hs1 =>?_;have e1:h1[b1]? = some (vobj t_api_Hash (.ar 32 .u8) (Vector.replicate 32 (0:UInt8))):=e1;obtain ⟨R,hR⟩:∃R,rootV ls=R:=⟨_,rfl⟩;rw[hR] at hK
 have fin:∀ {v:HVec} {h2:Heap},Keep [] h1 h2→v=R→Go.Al.st (.ar 32 .u8) (Pl.mk b1 0) v h2 fun h3=>ld (.ar 32 .u8) (Pl.mk b1 0) h3 fun x2=>K x2 h3:=fun {v h2} k2 ev=>by
  rw[ev];refine st_to (k2.g e1) fun h3 k3 e3 hs3=>ld_go (sm_all e3) ?_;have:=k1.1;exact hK h3 ((k1.n k2).new k3 (by simp;omega))
 by_cases h0:ls.length=0
 ·rw[if_pos (show decide ((s.len:Int)=0)=true from dT (by omega))];have hnil:ls=[]:=List.length_eq_zero_iff.1 h0;show ZA4.C (bx []) h1 _;refine ZA4.s (l:=[]) (by decide) fun h2 k2 =>?_;exact fin k2 (by rw[←hR,hnil];exact rootV_nil.symm)
 rw[if_neg (show ¬decide ((s.len:Int)=0)=true from dn (by omega))];by_cases h1':ls.length=1
 ·rw[if_pos (show decide ((s.len:Int)=1)=true from dT (by omega))];obtain ⟨x,hx⟩:=List.length_eq_one_iff.1 h1';refine seg_ix (i:=0) (g.keep (by decide) k1) (x:=bx x) (by decide) (by rw[hx];rfl) rfl ?_;refine ZDN.s (hl x (by rw[hx];simp)) fun h4 k4 =>?_;exact fin k4 (by rw[←hR,hx];exact rootV_one.symm)
 rw[if_neg (show ¬decide ((s.len:Int)=1)=true from dn (by omega))];have hcl:=cut_lt (n:=ls.length) (by omega);have e0:=rootV_cut (ls:=ls) (by omega);rw[gl];refine ZDa.s (by omega) (by omega) ?_;refine seg_preC (g.keep (by decide) k1) hc (n:=cutN ls.length) (by rw[YAF];omega) fun s1 g1 c1 =>?_;rw[←gl];refine seg_suf (m:=cutN s.len) (g.keep (by decide) k1) rfl hc (by rw[YAF,gl];omega) fun s2 g2 c2 _ =>?_;rw[gl] at g2;rw[←List.map_take] at g1;rw[←List.map_drop] at g2;refine ih _ _ _ _ (by rw[YAH];omega) g1 c1 (fun l hm=>hl l (List.mem_of_mem_take hm)) fun h7 k7 =>?_;refine ih _ _ _ _ (by rw[YAE];omega) (g2.keep (by decide) k7) c2 (fun l hm=>hl l (List.mem_of_mem_drop hm)) fun h8 k8 =>?_;refine ZDO.s fun h9 k9 =>?_;exact fin ((k7.n k8).n k9) (by rw[←hR];exact e0.symm)
theorem ZA6.f:∀(f:Nat) (ls:List By) (s:Slc) (h:Heap) (K:HVec→Heap→Prop),ls.length≤f→f≤1000→Seg .s s (ls.map bx) h→s.len≤s.cap→(∀l∈ls,l.length≤500000)→(∀h',Keep [] h h'→K (rootV ls) h')→ZA6.C s h K:=by
 intro f
 induction f with
 | zero=>intro ls s h K hf _ g hc hl hK;exact ZA6.t (fun ls' s' h' K' hn=>by omega) g hc hl (by omega) hK
 | succ f ih=>intro ls s h K hf h1 g hc hl hK;exact ZA6.t (fun ls' s' h' K' hn g' hc' hl' hK'=>ih ls' s' h' K' (by omega) (by omega) g' hc' hl' hK') g hc hl (by omega) hK
theorem ZA6.s {ls:List By} {s:Slc} {h:Heap} {K:HVec→Heap→Prop} (g:Seg .s s (ls.map bx) h) (hc:s.len≤s.cap) (hl:∀l∈ls,l.length≤500000) (hn:ls.length≤1000) (hK:∀h',Keep [] h h'→K (rootV ls) h'):ZA6.C s h K:=
 ZA6.f ls.length ls s h K (YAQ _) hn g hc hl hK
section
variable {n1 c:Nat} {h:Heap} {kv:KeK.Ty} {fs es ls:Slc} {evs:List EtK.Ty} {C:Cn}
theorem IsRc.keep0 {h':Heap} (i:IsRc n1 h c kv fs es ls evs C) (k:Keep [] h h'):IsRc n1 h' c kv fs es ls evs C:=
 ⟨k.g i.e,i.lc,i.f.keep k (by simp),i.a.keep k (by simp),i.oa,All2.mono (fun v e x=>⟨x.1.keep k (by simp),x.2⟩) i.x,i.l.keep k (by simp),i.ol⟩
theorem put_len {e:Ett} (h:putMay e=true):(putE e).length≤20000:=by
 have hm:ettMay e=true:=by unfold putMay at h;simp only [YAT] at h;exact h.1
 have hs:e.sign.length≤8192:=by unfold putMay at h;simp only [YAT,decide_eq_true_eq] at h;exact h.2
 obtain ⟨u0,u1,q0,q1,vx,v1,v16,t1,t24⟩:=ett_of hm;unfold putE bodyE;simp only [YAD,be_len,flat2_len,flat32_len,List.length_cons,List.length_nil];have:(Vector.toList e.root).length=32:=by simp
 omega
theorem ref18_Root.s {K:HVec→Heap→Prop} (i:IsRc n1 h c kv fs es ls evs C) (o:CnOk C) (hK:∀h',Keep [] h h'→K (rootV (C.all.map putE)) h'):ZAq.C (some ⟨c,0⟩) h K:=by
 apply ZAq.c;unfold ZAq.m;have on:=o.n;refine new_gen fun b1 h1 hb1 k1 e1 hs1 =>?_;have e1:h1[b1]? = some (vobj t_api_Hash (.ar 32 .u8) (Vector.replicate 32 (0:UInt8))):=e1;have i1:=i.keep0 k1;refine nck_go (ld_go (rc_f i1.e).2.2.2.1 ?_);refine ZA6.s i1.l.seg (by rw[i1.l.len];exact i1.l.cap) (fun l hl =>?_) (by rw[YAF];omega) fun h2 k2 =>?_
 ·obtain ⟨e,he,rfl⟩:=List.mem_map.1 hl;have:=put_len (o.a e he).1;omega
 ·generalize rootV (C.all.map putE)=v at *;refine st_to (k2.g e1) fun h3 k3 e3 hs3=>ld_go (sm_all e3) ?_;have:=k1.1;exact hK h3 ((k1.n k2).new k3 (by simp;omega))
theorem ref18_vec.s {u:Int} {K:Slc→Heap→Prop} (i:IsRc n1 h c kv fs es ls evs C) (ka:KeAt h kv ⟨C.m,C.pubs⟩) (o:CnOk C) (hu:0≤u) (hu':u<C.m.users) (hK:∀h' s,Keep [] h h'→Row h' t_int .i s (nextVec C u)→(∀q∈own s,h.size≤q)→K s h'):ZBV.C (some ⟨c,0⟩) u h K:=by
 apply ZBV.c;unfold ZBV.m;obtain ⟨u1,u2,u3⟩:=o.u;obtain ⟨v1,v2,v3⟩:=o.v;have hmu0:kv.1.1=C.m.users:=ka.m.u;have hmu:kv.1.1=((C.m.users.toNat:Nat):Int):=hmu0.trans (Int.toNat_of_nonneg (Int.le_trans (by decide) u1)).symm;refine nck_go (ld_go (rc_f i.e).2.2.2.2.2.2 ?_);rw[hmu];refine mk_gen (by omega) (by omega) fun b h1 hb k1 r1 hs1 =>?_;have i1:=i.keep0 k1;have el:es.len=C.all.length:=by rw[i.a.len,i.x.len]
 refine nck_go (ld_go (rc_f i1.e).2.2.1 ?_);refine jn_in (fun _ h'=>Keep [b] h1 h'∧Row h' t_int .i ⟨some ⟨b,0⟩,C.m.users.toNat,C.m.users.toNat⟩ (lastVec C)) ?_ ?_
 ·by_cases h0:C.all.length=0
  ·rw[if_neg (show ¬decide ((es.len:Int)>0)=true from dn (by omega))];refine ⟨Keep.rfl,?_⟩;have hnil:C.all=[]:=List.length_eq_zero_iff.1 h0;unfold lastVec;rw[hnil];exact r1
  ·rw[if_pos (show decide ((es.len:Int)>0)=true from dT (by omega))];refine nck_go (ld_go (rc_f i1.e).2.2.1 (nck_go (ld_go (rc_f i1.e).2.2.1 ?_)));have on:=o.n;have hw:w64 ((es.len:Int)-1)=((C.all.length-1:Nat):Int):=w6 (by omega);rw[hw];have xl:=i1.x.len;have hx:=i1.x.getI (i:=C.all.length-1) (by omega) (by omega)
   have hg:C.all.getLast? = some (C.all[C.all.length-1]'(by omega)):=by
    rw[List.getLast?_eq_getElem?,YAC (by omega)]
   have hlv:lastVec C=(C.all[C.all.length-1]'(by omega)).vec:=by unfold lastVec;rw[hg]
   rw[hlv] at v1 ⊢;refine seg_ixl i1.a.seg (x:=evs[C.all.length-1]'(by omega)) (by omega) (by rw[YAP];exact YAC (by omega)) rfl fun l hl =>?_;generalize evs[C.all.length-1]'(by omega)=v at *;generalize C.all[C.all.length-1]'(by omega)=e at *;have f2:sm .sl (l.fld 2) v.2.2.1 h1:=sm_sub hl (by decide) rfl;refine ld_go f2 ?_;have wl:=hx.1.w.len;have hmin:min v.2.2.1.len C.m.users.toNat=e.vec.length:=by omega
   rw[hmin];refine slCells_seg (k := .i) (xs:=e.vec) (s:=v.2.2.1) hx.1.w.seg (by simp[Kd.size]) ?_;rcases r1 with ⟨e0,_⟩ | ⟨b',zs,e0,e2,e3,e4⟩
   ·simp at e0
   ·have:b=b':=by simpa using e0
    subst this
    have hzs:zs=[]:=by
     simp at e3;exact e3
    subst hzs;rw[List.append_nil] at e4;refine cp_row (k := .i) (o:=0) (i:=0) (ys:=e.vec) e4 rfl (by simp) rfl (by rw[List.length_replicate];omega) ⟨keep_set,.inr ⟨b,[],rfl,by show C.m.users.toNat=e.vec.length;omega,by show C.m.users.toNat=e.vec.length+0;omega,?_⟩⟩;have hd:(List.replicate C.m.users.toNat Kd.i.zero).drop (0+e.vec.length)=[]:=List.drop_eq_nil_of_le (by rw[List.length_replicate];omega);rw[List.take_zero,YAK,hd,List.append_nil];exact get_set e4
 rintro _ h2 ⟨k2,r2⟩;have z1:=k1.1;have k02:Keep [] h h2:=k1.new k2 (by simp;omega);have hl:u.toNat<(lastVec C).length:=by omega
 have hg:(lastVec C)[u.toNat]? = some ((lastVec C)[u.toNat]):=YAC hl;have hd:(lastVec C).getD u.toNat 0=(lastVec C)[u.toNat]:=by rw[YAB,hg];rfl
 unfold nextVec at hK;rw[hd] at hK;have hb:=v2 _ (List.getElem_mem hl);refine ix_ld r2 hu hg rfl ?_;rw[w64_id (by omega) (by omega)];refine ix_st r2 hu (by omega) rfl fun h3 k3 r3 =>?_;exact hK h3 _ (k02.new k3 (by simp[own];omega)) r3 (by simp[own];omega)
theorem ref18_Next.s {u:Int} {ts:Slc} {T:List HVec} {K:EtK.Ty→Int→Heap→Prop} (i:IsRc n1 h c kv fs es ls evs C) (ka:KeAt h kv ⟨C.m,C.pubs⟩) (o:CnOk C) (g:Seg (.ar 32 .u8) ts T h) (hT:T.length*32≤140737488355328)
 (hbad:nxtMay C u T.length=false→∀h',Keep [] h h'→K et0 2000 h')
 (hok:nxtMay C u T.length=true→∀v h',Keep [] h h'→EtR h' v (nextE C u T)→(∀q∈etO v,h.size≤q)→K v 0 h'):ZB1.C (some ⟨c,0⟩) u ts h K:=by
 apply ZB1.c;unfold ZB1.m;have on:=o.n;obtain ⟨u1,u2,u3⟩:=o.u;have al:es.len=C.all.length:=by rw[i.a.len,i.x.len]
 have gl:=g.len;have hmu:kv.1.1=C.m.users:=ka.m.u;refine new_gen fun b1 h1 hb1 k1 e1 hs1 =>?_;have e1:h1[b1]? = some (vobj t_api_Entry EtK et0):=e1;refine jn_in (fun y h'=>Keep [] h1 h'∧y=(!nxtMay C u T.length,())) ?_ ?_
 ·unfold nxtMay;have i1:=i.keep0 k1;by_cases c0:u<0
  ·rw[if_pos (dT c0),dF (show ¬0≤u by omega)];exact ⟨Keep.rfl,rfl⟩
  rw[if_neg (by simpa using c0),dT (show 0≤u by omega),YAU];refine nck_go (ld_go (rc_f i1.e).2.2.2.2.2.2 ?_);rw[hmu];by_cases c1:u<C.m.users
  ·rw[if_neg (show ¬decide (u≥C.m.users)=true from dn (by omega)),dT c1,YAU];refine nck_go (ld_go (rc_f i1.e).2.2.2.2.1 ?_);refine ZAR.s (ka.keep k1).m o.m fun h5 k5 =>?_;rw[gl];by_cases c2:(T.length:Int)=prins C.m
   ·rw[if_neg (by simp[c2]),dT c2,YAU];refine nck_go (ld_go (rc_f (i1.keep0 k5).e).2.2.1 ⟨k5,?_⟩);rw[al]
    have:decide ((C.all.length:Int)≥256) = !decide (C.all.length<256):=by
     by_cases hc:C.all.length<256
     ·rw[dT hc,dF (by omega)];rfl
     ·rw[dF hc,dT (by omega)];rfl
    rw[this]
   ·rw[if_pos (by simpa using c2),dF c2];exact ⟨k5,rfl⟩
  ·rw[if_pos (show decide (u≥C.m.users)=true from dT (by omega)),dF c1];exact ⟨Keep.rfl,rfl⟩
 rintro _ h2 ⟨k2,rfl⟩;dsimp only;have k02:Keep [] h h2:=k1.n k2
 cases hm:nxtMay C u T.length with
 | false =>
   rw[if_pos (by rfl)];refine st_to (y:=et0) (k2.g e1) fun h6 k6 e6 hs6=>ld_go (sm_all e6) ?_;have:=k1.1;exact hbad hm h6 (k02.new k6 (by simp;omega))
 | true =>
   rw[if_neg (by simp)];replace hok:=hok hm;unfold nxtMay at hm;simp only [YAT,decide_eq_true_eq] at hm;obtain ⟨m0,m1,m2,m3⟩:=hm;have i2:=i.keep0 k02;have hw:w64 ((es.len:Int)+1)=(C.all.length:Int)+1:=w6 (by omega);obtain ⟨R,hR⟩:∃R,rootV (C.all.map putE)=R:=⟨_,rfl⟩;unfold nextE at hok;rw[hR] at hok;have z02:=k02.1;have z1:=k1.1;refine jn_in (fun y h'=>y=(0,())∧∃x7 s2,h'[b1]? = some (vobj t_api_Entry EtK ((u,((C.all.length:Int)+1,(x7,(R,(s2,((⟨#[]⟩:ByteArray),())))))):EtK.Ty))∧Keep [] h h'∧Row h' t_int .i x7 (nextVec C u)∧(∀q∈own x7,h.size≤q)∧Row h' t_api_Hash (.ar 32 .u8) s2 T∧∀q∈own s2,h.size≤q) ?_ ?_
   ·have fin:∀ {h9:Heap} {x7 s2:Slc},Keep [] h2 h9→Row h9 t_int .i x7 (nextVec C u)→(∀q∈own x7,h.size≤q)→Row h9 t_api_Hash (.ar 32 .u8) s2 T→(∀q∈own s2,h.size≤q) →
     Go.Al.st EtK (Pl.mk b1 0) ((u,(w64 ((es.len:Int)+1),(x7,(R,(s2,((⟨#[]⟩:ByteArray),())))))):EtK.Ty) h9 fun h'=>((0,()):Int×Unit)=(0,())∧∃x7 s2,h'[b1]? = some (vobj t_api_Entry EtK ((u,((C.all.length:Int)+1,(x7,(R,(s2,((⟨#[]⟩:ByteArray),())))))):EtK.Ty))∧Keep [] h h'∧Row h' t_int .i x7 (nextVec C u)∧(∀q∈own x7,h.size≤q)∧Row h' t_api_Hash (.ar 32 .u8) s2 T∧∀q∈own s2,h.size≤q:=by
     intro h9 x7 s2 k9 r7 o7 r2 o2;have e9:h9[b1]? = some (vobj t_api_Entry EtK et0):=(k2.n k9).g e1;rw[hw];refine st_to e9 fun h10 k10 e10 hs10=>⟨rfl,x7,s2,e10,(k02.n k9).new k10 (by simp;omega),r7.keep k10 fun q hq hm =>?_,o7,r2.keep k10 fun q hq hm =>?_,o2⟩
     ·simp at hm;subst hm;exact rowT r7 e9 (by decide) hq
     ·simp at hm;subst hm;exact rowT r2 e9 (by decide) hq
    have apT:∀ {h8:Heap} {b:Nat} {KK:Slc→Heap→Prop},Keep [] h2 h8→h2.size≤b→Row h8 t_api_Hash (.ar 32 .u8) ⟨some ⟨b,0⟩,0,0⟩ ([]:List HVec)→(∀s2 h9,Keep [b] h8 h9→Row h9 t_api_Hash (.ar 32 .u8) s2 T→(∀q∈own s2,h.size≤q)→KK s2 h9) →
     slCells ts (ts.len*32) h8 fun cs1=>ap 45 (.ar 32 .u8) 32 ⟨some ⟨b,0⟩,0,0⟩ ts.len cs1 h8 KK:=by
     intro h8 b KK k8 hb r8 hk;refine slCells_seg (g.keep (by decide) (k02.n k8)) (by rw[gl];rfl) ?_;have z8:=k8.1;refine ap_row (T:=t_api_Hash) (k := .ar 32 .u8) (ys:=T) r8 gl rfl (by rw[gl];simp;omega) fun s2 h9 r9 k9 o9=>hk s2 h9 (by simpa[own] using k9) (by simpa using r9) fun q hq =>?_;rcases own_of o9 q hq with h | h
     ·simp[own] at h;omega
     ·omega
    refine nck_go (ld_go (rc_f i2.e).2.2.1 ⟨?_,?_⟩)
    ·refine ref18_vec.s i2 (ka.keep k02) o m0 m1 fun h6 s7 k6 r7 o7=>⟨(rc_f (i2.keep0 k6).e).2.2.1,?_,?_⟩
     ·refine ref18_Root.s (i2.keep0 k6) o fun h7 k7=>⟨(rc_f ((i2.keep0 k6).keep0 k7).e).2.2.1,?_⟩;rw[hR];refine bs_gen fun b h8 hb8 k8 r8 hs8 =>?_;have k28:Keep [] h2 h8:=(k6.n k7).n k8;have z7:=(k6.n k7).1;refine ⟨(rc_f (i2.keep0 k28).e).2.2.1,apT k28 (by omega) r8 fun s2 h9 k9 r9 o9 =>?_⟩;have k29:=k28.new k9 (by simp;omega);refine ⟨(rc_f (i2.keep0 k29).e).2.2.1,?_⟩;have r78:=(r7.keep k7 (by simp)).keep k8 (by simp);exact fin k29 (r78.keep k9 fun q hq hm=>by simp at hm;subst hm;exact tagO r78 r8 (by decide) q hq (by simp[own])) (fun q hq=>by have:=o7 q hq;omega) r9 o9
     ·refine bs_gen fun b h11 hb11 k11 r11 hs11 =>?_;have k2_11:Keep [] h2 h11:=k6.n k11;have z6:=k6.1;refine ⟨(rc_f (i2.keep0 k2_11).e).2.2.1,?_⟩;refine ref18_Root.s (i2.keep0 k2_11) o fun h12 k12 =>?_;have k2_12:=k2_11.n k12;rw[hR];have r12:=r11.keep k12 (by simp);refine ⟨(rc_f (i2.keep0 k2_12).e).2.2.1,apT k2_12 (by omega) r12 fun s2 h9 k9 r9 o9 =>?_⟩;have k29:=k2_12.new k9 (by simp;omega);refine ⟨(rc_f (i2.keep0 k29).e).2.2.1,?_⟩;have r78:=(r7.keep k11 (by simp)).keep k12 (by simp);exact fin k29 (r78.keep k9 fun q hq hm=>by simp at hm;subst hm;exact tagO r78 r12 (by decide) q hq (by simp[own])) (fun q hq=>by have:=o7 q hq;omega) r9 o9
    ·refine bs_gen fun b h11 hb11 k11 r11 hs11=>⟨(rc_f (i2.keep0 k11).e).2.2.1,?_⟩;have i11:=i2.keep0 k11;refine ref18_vec.s i11 (ka.keep (k02.n k11)) o m0 m1 fun h6 s7 k6 r7 o7=>⟨(rc_f (i11.keep0 k6).e).2.2.1,?_⟩;have k26:=k11.n k6;refine ref18_Root.s (i2.keep0 k26) o fun h12 k12 =>?_;have k2_12:=k26.n k12;rw[hR];have r12:=(r11.keep k6 (by simp)).keep k12 (by simp);have z11:=k11.1;refine ⟨(rc_f (i2.keep0 k2_12).e).2.2.1,apT k2_12 (by omega) r12 fun s2 h9 k9 r9 o9 =>?_⟩;have k29:=k2_12.new k9 (by simp;omega);refine ⟨(rc_f (i2.keep0 k29).e).2.2.1,?_⟩;have r78:=r7.keep k12 (by simp);exact fin k29 (r78.keep k9 fun q hq hm=>by simp at hm;subst hm;exact tagO r78 r12 (by decide) q hq (by simp[own])) (fun q hq=>by have:=o7 q hq;omega) r9 o9
   ·rintro _ h5 ⟨rfl,x7,s2,e5,k5,r7,o7,r2,o2⟩;refine ld_go (sm_all e5) ?_;refine hok _ h5 k5 ⟨rfl,rfl,r7,rfl,r2,rfl⟩ fun q hq =>?_;unfold etO at hq;rcases List.mem_append.1 hq with hq | hq
    ·exact o7 q hq
    ·exact o2 q hq
end
theorem be_beVal {l:By} (h:l.length=4):be (beVal l) 4=l:=by
 rcases l with _ | ⟨a,_ | ⟨b,_ | ⟨c,_ | ⟨d,_ | ⟨e,r⟩⟩⟩⟩⟩
 ·simp at h
 ·simp at h
 ·simp at h
 ·simp at h
 ·have ha:=a.toNat_lt;have hb:=b.toNat_lt;have hc:=c.toNat_lt;have hd:=d.toNat_lt;have e:beVal [a,b,c,d]=((a.toNat*256+b.toNat)*256+c.toNat)*256+d.toNat:=by simp[beVal]
  rw[e];have:∀x,be x 4=[UInt8.ofNat (x/16777216),UInt8.ofNat (x/65536),UInt8.ofNat (x/256),UInt8.ofNat x]:=fun x=>by simp[be,List.range_succ]
  rw[this]
  have u:∀(x:UInt8) (n:Nat),n%256=x.toNat→UInt8.ofNat n=x:=fun x n hn=>by
   apply UInt8.toNat_inj.1;rw[UInt8.toNat_ofNat'];exact hn
  rw[u a _ (by omega),u b _ (by omega),u c _ (by omega),u d _ (by omega)]
 ·simp at h
theorem num_be {l:By} {x:Nat} (hx:x<4294967296) (h:4≤l.length):(numZ l 0=(x:Int))↔l.take 4=be x 4:=by
 rw[numZ_in (by omega),List.drop_zero];have hl:(l.take 4).length=4:=by rw[YAH];omega
 constructor
 ·intro e;have:beVal (l.take 4)=x:=by omega
  rw[←this,be_beVal hl]
 ·intro e;rw[e,be4_val hx]
theorem numZ_drop {l:By} {a n:Nat} (h:a≤l.length):numZ (l.drop a) n=numZ l (a+n):=by
 unfold numZ;rw[YAE,List.drop_drop];by_cases c:n+4≤l.length-a
 ·rw[if_pos c,if_pos (by omega)]
 ·rw[if_neg c,if_neg (by omega)]
theorem ZBn.s {pub msg sig:By} {h:Heap} {K:Int→Heap→Prop} (hpl:pub.length≤9223372036854775807) (hsl:sig.length≤9223372036854775807) (hK:∀h',Keep [] h h'→K (hssV pub msg sig) h'):ZBn.C (bx pub) (bx msg) (bx sig) h K:=by
 apply ZBn.c;unfold ZBn.m;obtain ⟨V,hV⟩:∃v,hssV pub msg sig=v:=⟨_,rfl⟩;rw[hV] at hK;unfold hssV at hV;by_cases hc:pub.length=60∧numZ pub 0=2∧numZ sig 0=1
 case neg=>
  rw[if_neg] at hV
  ·subst hV;refine jn_at (true,()) h ?_ ?_
   ·by_cases c1:pub.length=60
    ·rw[if_neg (by rw[bx_size];simp;omega)];refine ZAh.s (n:=0) hpl (by decide) ?_;by_cases c2:numZ pub 0=2
     ·rw[if_neg (by simp[c2])];refine ZAh.s (n:=0) hsl (by decide) ?_;have c3:¬numZ sig 0=1:=fun h=>hc ⟨c1,c2,h⟩;exact ⟨by rw[dF c3];rfl,rfl⟩
     ·rw[if_pos (by simpa using c2)];exact ⟨rfl,rfl⟩
    ·rw[if_pos (by rw[bx_size];simp;omega)];exact ⟨rfl,rfl⟩
   ·rw[if_pos rfl];exact hK h Keep.rfl
  ·rintro ⟨c1,c2,c3,c4⟩;exact hc ⟨c1,(num_be (x:=2) (by decide) (by omega)).2 c2,(num_be (x:=1) (by decide) c4).2 c3⟩
 obtain ⟨h60,n2,n1⟩:=hc
 have s4:4≤sig.length:=by
  unfold numZ at n1;by_cases c:0+4≤sig.length
  ·omega
  ·rw[if_neg c] at n1;omega
 rw[if_pos ⟨h60,(num_be (x:=2) (by decide) (by omega)).1 n2,(num_be (x:=1) (by decide) s4).1 n1,s4⟩] at hV;refine jn_at (false,()) h ?_ ?_
 ·rw[if_neg (by rw[bx_size];simp;omega)];refine ZAh.s (n:=0) hpl (by decide) ?_;rw[if_neg (by simp[n2])];refine ZAh.s (n:=0) hsl (by decide) ?_;exact ⟨by rw[dT n1];rfl,rfl⟩
 rw[if_neg (by simp)];refine ZAh.s (n:=4) hpl (by decide) ?_;refine ZAh.s (n:=8) hpl (by decide) ?_;refine ZBg.s ?_;have p56:(pub.drop 4).length=56:=by rw[YAE];omega
 have e4:numZ pub 4=numZ (pub.drop 4) 0:=(numZ_drop (l:=pub) (a:=4) (n:=0) (by omega)).symm;have e8:numZ pub 8=numZ (pub.drop 4) 4:=(numZ_drop (l:=pub) (a:=4) (n:=4) (by omega)).symm;rw[e4,e8];by_cases hz:lmsZ (numZ (pub.drop 4) 0) (numZ (pub.drop 4) 4)=0
 ·rw[lms_none p56 hz] at hV;subst hV;refine jn_at (true,()) h ?_ ?_
  ·rw[if_pos (dT (by omega))];exact ⟨rfl,rfl⟩
  ·rw[if_pos rfl];exact hK h Keep.rfl
 obtain ⟨hh,w,p,ls,hg,hk,hze,hgz,hap⟩:=lms_good p56 hz;rw[hap] at hV;unfold PKey.size PKey.oSize at hV;dsimp only at hV;obtain ⟨v1,v5,_⟩:=hgt_ge hg;obtain ⟨_,_,_,_,p67,_⟩:=otsP_c hk;obtain ⟨Z,hZ⟩:∃z,44+32*p+32*hh=z:=⟨_,rfl⟩;rw[show 8+(36+32*p)+32*hh=Z by omega] at hV;rw[hze,hZ];have w1:w64 (4+(Z:Int))=((4+Z:Nat):Int):=w6 (by omega);have w2:w64 (((4+Z:Nat):Int)+56)=((60+Z:Nat):Int):=w6 (by omega);have w3:w64 (60+(Z:Int))=((60+Z:Nat):Int):=w6 (by omega);rw[w1,w2,w3];by_cases hsh:sig.length<4+Z+56
 ·rw[if_pos hsh] at hV;subst hV;refine jn_at (true,()) h ?_ ?_
  ·rw[if_neg (show ¬decide (((Z:Nat):Int)=0)=true from dn (by omega))];exact ⟨by rw[dT (show ((bx sig).size:Int)<((60+Z:Nat):Int) by rw[bx_size];omega)],rfl⟩
  ·rw[if_pos rfl];exact hK h Keep.rfl
 rw[if_neg hsh] at hV;refine jn_at (false,()) h ?_ ?_
 ·rw[if_neg (show ¬decide (((Z:Nat):Int)=0)=true from dn (by omega))];exact ⟨by rw[dF (show ¬((bx sig).size:Int)<((60+Z:Nat):Int) by rw[bx_size];omega)],rfl⟩
 rw[if_neg (by simp)];refine sls_by (lo:=4+Z) (hi:=60+Z) (by omega) (by omega) ?_;rw[show (sig.take (60+Z)).drop (4+Z)=(sig.drop (4+Z)).take 56 by rw[List.drop_take];congr 1;omega];refine sls_from (lo:=4) (by omega) ?_;refine sls_by (lo:=4) (hi:=4+Z) (by omega) (by omega) ?_;rw[show (sig.take (4+Z)).drop 4=(sig.drop 4).take Z by rw[List.drop_take];congr 1;omega];refine ZBB.s (by omega) (by rw[YAH,YAE];omega) fun h8 k8 =>?_;refine sls_from (lo:=60+Z) (by omega) ?_;refine ZBB.s (by rw[YAH,YAE];omega) (by rw[YAE];omega) fun h9 k9 =>?_;have k09:=k8.n k9;generalize lmsV (pub.drop 4) ((sig.drop (4+Z)).take 56) ((sig.drop 4).take Z)=a at *;generalize lmsV ((sig.drop (4+Z)).take 56) msg (sig.drop (60+Z))=b at *;replace hK:=hK h9 k09;by_cases c1:a=500∨b=500
 ·rw[if_pos c1] at hV;subst hV;refine jn_in (fun _ _=>False) ?_ (fun _ _ h=>h.elim);refine jn_at (true,()) h9 ?_ ?_
  ·by_cases ca:a=500
   ·rw[if_pos (dT ca)];exact ⟨rfl,rfl⟩
   ·rw[if_neg (by simpa using ca)];exact ⟨by rw[dT (show b=500 by rcases c1 with h | h;exact absurd h ca;exact h)],rfl⟩
  ·rw[if_pos rfl];exact hK
 rw[if_neg c1] at hV;have ca:a≠500:=fun h=>c1 (.inl h);have cb:b≠500:=fun h=>c1 (.inr h);by_cases c2:a=0∧b=0
 ·rw[if_pos c2] at hV;subst hV;refine jn_in (fun _ h'=>h'=h9) ?_ ?_
  ·refine jn_at (false,()) h9 ?_ ?_
   ·rw[if_neg (by simpa using ca)];exact ⟨by rw[dF cb],rfl⟩
   ·rw[if_neg (by simp)];refine jn_at (false,()) h9 ?_ ?_
    ·rw[if_neg (by simp[c2.1])];exact ⟨by rw[dT c2.2];rfl,rfl⟩
    ·rw[if_neg (by simp)]
  ·rintro _ h' rfl;exact hK
 ·rw[if_neg c2] at hV;subst hV;refine jn_in (fun _ _=>False) ?_ (fun _ _ h=>h.elim);refine jn_at (false,()) h9 ?_ ?_
  ·rw[if_neg (by simpa using ca)];exact ⟨by rw[dF cb],rfl⟩
  ·rw[if_neg (by simp)];refine jn_at (true,()) h9 ?_ ?_
   ·by_cases c3:a=0
    ·rw[if_neg (by simp[c3])];have c4:¬b=0:=fun h=>c2 ⟨c3,h⟩;exact ⟨by rw[dF c4];rfl,rfl⟩
    ·rw[if_pos (by simpa using c3)];exact ⟨rfl,rfl⟩
   ·rw[if_pos rfl];exact hK
theorem ZCC.s {a b:Slc} {xs ys:List Int} {h:Heap} {K:Bool→Heap→Prop} (ga:Seg .i a xs h) (gb:Seg .i b ys h) (hl:xs.length≤9223372036854775807) (hK:K (decide (xs=ys)) h):ZCC.C a b h K:=by
 apply ZCC.c;unfold ZCC.m;have la:=ga.len;have lb:=gb.len;by_cases hlen:xs.length=ys.length
 case neg=>
  rw[if_pos (by simp;omega)];rw[dF (fun e=>hlen (by rw[e]))] at hK;exact hK
 rw[if_neg (by simp;omega)];refine lp_go (fun (y:Int×Unit) (h1:Heap)=>h1=h∧∃n:Nat,y.1=n∧n≤xs.length∧xs.take n=ys.take n) (fun (y:Int×Unit) _=>xs.length-y.1.toNat) ?_ ?_
 ·exact ⟨rfl,0,rfl,by omega,by simp⟩
 rintro ⟨(i:Int),_⟩ h1 ⟨rfl,n,e,hn,ht⟩;dsimp only at e ⊢;subst e;by_cases hlt:n<xs.length
 case neg=>
  rw[if_neg (show ¬decide ((n:Int)<(a.len:Int))=true from dn (by omega))]
  have:xs=ys:=by
   rw[YAN (by omega),YAN (by omega)] at ht;exact ht
  rw[dT this] at hK;exact hK
 rw[if_pos (show decide ((n:Int)<(a.len:Int))=true from dT (by omega))];have hw:w64 ((n:Int)+1)=((n+1:Nat):Int):=w6 (by omega);rw[hw];have hlt':n<ys.length:=by omega
 refine seg_ix ga (x:=xs[n]) (by omega) (by rw[YAP];exact YAC hlt) rfl ?_;refine seg_ix gb (x:=ys[n]) (by omega) (by rw[YAP];exact YAC hlt') rfl ?_;by_cases he:xs[n]=ys[n]
 ·rw[if_neg (by simpa using he)];refine ⟨⟨by first | rfl | trivial,n+1,rfl,by omega,?_⟩,by simp;omega⟩;rw[YAO hlt,YAO hlt',ht,he]
 ·rw[if_pos (by simpa using he)];rw[dF (fun e=>he (by subst e;rfl))] at hK;exact hK
theorem ZCb.s {v:EtK.Ty} {e:Ett} {pub:By} {h:Heap} {K:Int→Heap→Prop} (a:EtAt h v e) (hl:e.vec.length≤9223372036854775806) (hpl:pub.length≤9223372036854775807) (hK:∀h',Keep [] h h'→K (verE e pub) h'):ZCb.C v (bx pub) h K:=by
 apply ZCb.c;unfold ZCb.m;refine new_gen fun b h1 hb k1 e1 hs1 =>?_;have e1:h1[b]? = some (vobj t_api_Entry EtK v):=e1;refine ld_go (sm_all e1) ?_;refine ZCN.s (a.keep k1) hl fun h2 k2 =>?_;have k02:Keep [] h h2:=k1.n k2;unfold verE at hK
 cases hp:putMay e with
 | false =>
   rw[hp] at hK;rw[if_pos (by rfl)];exact hK h2 k02
 | true =>
   rw[hp,if_pos rfl] at hK;rw[if_neg (by simp)];have hm:ettMay e=true:=by unfold putMay at hp;simp only [YAT] at hp;exact hp.1
   have hs:e.sign.length≤8192:=by unfold putMay at hp;simp only [YAT,decide_eq_true_eq] at hp;exact hp.2
   refine ld_go (sm_all (k2.g e1)) ?_;refine ZBu.s (a.keep k02) hl fun h3 k3 =>?_;rw[if_pos hm];obtain ⟨f0,f1,f2,f3,f35,f36⟩:=et_f ((k2.n k3).g e1);rw[a.s] at f36;refine ld_go f36 ?_
   have bl:(bodyE e).length≤60000:=by
    obtain ⟨u0,u1,q0,q1,vx,v1,v16,t1,t24⟩:=ett_of hm;unfold bodyE;simp only [YAD,be_len,flat2_len,flat32_len,List.length_cons,List.length_nil];have:(Vector.toList e.root).length=32:=by simp
    omega
   refine ZB0.s bl fun h4 k4=>⟨sm_keep (by decide) f36 k4,?_⟩;have hS:Hl (tagL 1 [bx (bodyE e)])=sayE e:=Eq.refl _;rw[hS];generalize sayE e=M at *;refine ZBn.s hpl (by omega) fun h5 k5 =>?_;have k05:=((k02.n k3).n k4).n k5;by_cases c:hssV pub M e.sign=0
   ·rw[if_pos c] at hK;rw[if_neg (by simp[c])];exact hK h5 k05
   ·rw[if_neg c] at hK;rw[if_pos (by simpa using c)];exact hK h5 k05
section
variable {n1 c:Nat} {h:Heap} {kv:KeK.Ty} {fs es ls:Slc} {evs:List EtK.Ty} {C:Cn}
theorem ref18_foreign.s {v:EtK.Ty} {e:Ett} {K:Bool→Heap→Prop} (i:IsRc n1 h c kv fs es ls evs C) (ka:KeAt h kv ⟨C.m,C.pubs⟩) (o:CnOk C) (a:EtAt h v e) (ht:(e.tables.length:Int)=prins C.m) (hK:∀h',Keep [] h h'→K (!tabsOk C e) h'):ZBO.C (some ⟨c,0⟩) v h K:=by
 apply ZBO.c;unfold ZBO.m;obtain ⟨u1,u2,u3⟩:=o.u;obtain ⟨v1,v2,v3⟩:=o.v;have hpr:prins C.m≤24:=by unfold prins;omega
 refine new_gen fun b1 h1 hb1 k1 e1 hs1 =>?_;have eb:h1[b1]? = some (vobj t_api_Entry EtK v):=e1;refine ref18_Tables.s (i.keep0 k1) (fun s2 g2 rT =>?_) o.n;have gl:=g2.len;unfold tabsOk at hK;have htl:e.tables.length=(lastTab C).length:=by omega
 generalize lastTab C=T at *;refine lp_go (fun (y:Int×Unit) (h2:Heap)=>∃n:Nat,y.1=n∧n≤T.length∧Keep [] h1 h2∧((List.range n).all fun (p:Nat)=>mIn C.m e.user (p:Int)||decide (e.tables.getD p (Vector.replicate 32 0)=T.getD p (Vector.replicate 32 0)))=true) (fun (y:Int×Unit) _=>T.length-y.1.toNat) ?_ ?_
 ·exact ⟨0,rfl,YAS _,Keep.rfl,by simp⟩
 rintro ⟨(jj:Int),_⟩ h2 ⟨n,en,hn,k2,hall⟩;dsimp only at en ⊢;subst en;have k02:Keep [] h h2:=k1.n k2;by_cases hlt:n<T.length
 ·rw[if_pos (show decide ((n:Int)<(s2.len:Int))=true from dT (by omega))];have hw:w64 ((n:Int)+1)=((n+1:Nat):Int):=w6 (by omega);rw[hw];have d1:e.tables.getD n (Vector.replicate 32 0)=e.tables[n]'(by omega):=by rw[YAB,YAC (by omega)];rfl
  have d2:T.getD n (Vector.replicate 32 0)=T[n]:=by rw[YAB,YAC hlt];rfl
  refine jn_in (fun _ h'=>Keep [] h1 h'∧(mIn C.m e.user (n:Int)||decide (e.tables.getD n (Vector.replicate 32 0)=T.getD n (Vector.replicate 32 0)))=true) ?_ ?_
  ·refine jn_in (fun y h'=>Keep [] h1 h'∧y=(!(mIn C.m e.user (n:Int)||decide (e.tables.getD n (Vector.replicate 32 0)=T.getD n (Vector.replicate 32 0))),())) ?_ ?_
   ·refine ld_go (et_f (k2.g eb)).2.2.2.2.1 ?_;refine seg_ix (a.keep k02).t (x:=e.tables[n]'(by omega)) (by omega) (by rw[YAP];exact YAC (by omega)) rfl ?_;refine seg_ix (g2.keep (by decide) k2) (x:=T[n]) (by omega) (by rw[YAP];exact YAC hlt) rfl ?_;rw[d1,d2];have hb:=beq_eq (k := .ar 32 .u8) rfl (x:=e.tables[n]'(by omega)) (y:=T[n]);by_cases hx:e.tables[n]'(by omega)=T[n]
    ·rw[hb.2 hx,if_neg (by simp),dT hx,Bool.or_true];exact ⟨k2,rfl⟩
    ·have hbf:Kd.beq (.ar 32 .u8) (e.tables[n]'(by omega)) T[n]=false:=by
      cases hc:Kd.beq (.ar 32 .u8) (e.tables[n]'(by omega)) T[n] with
      | true=>exact absurd (hb.1 hc) hx
      | false=>rfl
     rw[hbf,if_pos (by rfl),dF hx,Bool.or_false];have i2:=i.keep0 k02;refine nck_go (ld_go (rc_f i2.e).2.2.2.2.1 (ld_go (et_f (k2.g eb)).1 ?_));rw[a.u];refine ZDY.s (ka.keep k02).m (by show C.m.groups.length≤_;omega) fun h5 k5=>⟨k2.n k5,?_⟩;have hmm:mbMay (⟨C.m,C.pubs⟩:Kys).m=true:=o.m;show (!(mbMay (⟨C.m,C.pubs⟩:Kys).m&&mIn C.m e.user (n:Int)),())=_;rw[hmm,YAU]
   ·rintro _ h4 ⟨k4,rfl⟩
    cases hb:(mIn C.m e.user (n:Int)||decide (e.tables.getD n (Vector.replicate 32 0)=T.getD n (Vector.replicate 32 0))) with
    | true=>rw[if_neg (by simp)];exact ⟨k4,rfl⟩
    | false =>
      rw[if_pos (by rfl)];have:=hK h4 (k1.n k4)
      have hf:((List.range T.length).all fun (p:Nat)=>mIn C.m e.user (p:Int)||decide (e.tables.getD p (Vector.replicate 32 0)=T.getD p (Vector.replicate 32 0)))=false:=by
       rw[List.all_eq_false];exact ⟨n,List.mem_range.2 hlt,by rw[hb];simp⟩
      rw[hf] at this;exact this
  ·rintro _ h3 ⟨k3,hb⟩;refine ⟨⟨n+1,rfl,by omega,k3,?_⟩,by simp;omega⟩;rw[List.range_succ,List.all_append,hall];simpa using hb
 ·rw[if_neg (show ¬decide ((n:Int)<(s2.len:Int))=true from dn (by omega))];obtain rfl:n=T.length:=by omega
  have:=hK h2 k02;rw[hall] at this;exact this
theorem ref18_Check.s {v:EtK.Ty} {e:Ett} {K:Int→Heap→Prop} (i:IsRc n1 h c kv fs es ls evs C) (ka:KeAt h kv ⟨C.m,C.pubs⟩) (o:CnOk C) (a:EtAt h v e) (hl:e.vec.length≤9223372036854775806) (hK:∀h',Keep [] h h'→K (chkC C e) h'):ZBP.C (some ⟨c,0⟩) v h K:=by
 apply ZBP.c;unfold ZBP.m;obtain ⟨u1,u2,u3⟩:=o.u;have on:=o.n;have al:es.len=C.all.length:=by rw[i.a.len,i.x.len]
 have hmu:kv.1.1=C.m.users:=ka.m.u;refine new_gen fun b1 h1 hb1 k1 e1 hs1 =>?_;have e1:h1[b1]? = some (vobj t_api_Entry EtK v):=e1;refine ld_go (sm_all e1) ?_;refine ZCN.s (a.keep k1) hl fun h2 k2 =>?_;have k02:=k1.n k2;have i2:=i.keep0 k02;refine nck_go (ld_go (rc_f i2.e).2.2.2.2.1 ?_);refine new_st_gen fun b2 h4 hb2 k4 e4 hs4 =>?_;have e4:h4[b2]? = some (vobj t_api_Members MbK kv.1):=e4;have k04:=k02.n k4;have k14:Keep [] h1 h4:=k2.n k4;have e14:=k14.g e1;have i4:=i.keep0 k04;have wl:=a.w.len;have tl:=a.t.len;unfold chkC at hK;refine jn_in (fun _ h'=>Keep [] h h'∧(if frmC C e=true then if e.seq=(C.all.length:Int)+1 then if e.user<C.m.users then if e.vec=nextVec C e.user then if e.root=rootV (C.all.map putE) then if tabsOk C e=true then if verE e (C.pubs.getD e.user.toNat [])=0 then 0 else 2006 else 2005 else 2004 else 2003 else 2002 else 2001 else 2000)=(0:Int)) ?_ ?_
 case refine_2=>
  rintro _ h5 ⟨k5,e0⟩;have:=hK h5 k5;rw[e0] at this;exact this
 refine jn_in (fun y h'=>Keep [] h4 h'∧y=(!frmC C e,())) ?_ ?_
 ·unfold frmC
  cases hp:putMay e with
  | false=>rw[if_pos (by rfl)];exact ⟨Keep.rfl,by simp⟩
  | true =>
    rw[if_neg (by simp),YAU];obtain ⟨f0,f1,f2,f3,f35,f36⟩:=et_f e14;refine ld_go f2 ?_;have g0:sm .i ((Pl.mk b2 0).fld 0) C.m.users h4:=by rw[←hmu];exact sm_fld (n:=0) (k' := .i) e4 rfl (by decide)
    refine ld_go g0 ?_;rw[wl];by_cases c1:(e.vec.length:Int)=C.m.users
    ·rw[if_neg (by simp[c1]),dT c1,YAU];refine ld_go f35 (ld_go (sm_all e4) ?_);refine ZAR.s (ka.keep k04).m o.m fun h7 k7=>⟨sm_keep (by decide) f35 k7,?_⟩;rw[tl];by_cases c2:(e.tables.length:Int)=prins C.m
     ·rw[if_neg (by simp[c2]),dT c2,YAU];refine nck_go (ld_go (rc_f (i4.keep0 k7).e).2.2.1 ⟨k7,?_⟩);rw[al]
      have:decide ((C.all.length:Int)≥256) = !decide (C.all.length<256):=by
       by_cases hc:C.all.length<256
       ·rw[dT hc,dF (by omega)];rfl
       ·rw[dF hc,dT (by omega)];rfl
      rw[this]
     ·rw[if_pos (by simpa using c2),dF c2];exact ⟨k7,rfl⟩
    ·rw[if_pos (by simpa using c1),dF c1];exact ⟨Keep.rfl,rfl⟩
 rintro _ h6 ⟨k6,rfl⟩;dsimp only;have k06:=k04.n k6;have e16:=k6.g e14;have i6:=i.keep0 k06;obtain ⟨f0,f1,f2,f3,f35,f36⟩:=et_f e16
 cases hf:frmC C e with
 | false =>
   rw[if_pos (by rfl)];rw[hf] at hK;exact hK h6 k06
 | true =>
   rw[if_neg (by simp)];rw[hf,if_pos rfl] at hK;rw[if_pos rfl];have hf':=hf;unfold frmC at hf';simp only [YAT,decide_eq_true_eq] at hf';obtain ⟨hp,hv,ht,hn⟩:=hf';obtain ⟨pu0,pu1⟩:=put_user hp;refine ld_go f1 (nck_go (ld_go (rc_f i6.e).2.2.1 ?_));have hw:w64 ((es.len:Int)+1)=(C.all.length:Int)+1:=w6 (by omega);rw[a.q,hw];by_cases c1:e.seq=(C.all.length:Int)+1
   case neg=>
    rw[if_pos (by simpa using c1)];rw[if_neg c1] at hK;exact hK h6 k06
   rw[if_neg (by simpa using c1)];rw[if_pos c1] at hK ⊢;have g0:sm .i ((Pl.mk b2 0).fld 0) C.m.users h6:=by rw[←hmu];exact sm_fld (n:=0) (k' := .i) (k6.g e4) rfl (by decide)
   refine ld_go f0 (ld_go g0 ?_);rw[a.u];by_cases c2:e.user<C.m.users
   case neg=>
    rw[if_pos (show decide (e.user≥C.m.users)=true from dT (by omega))];rw[if_neg c2] at hK;exact hK h6 k06
   rw[if_neg (by simpa using c2)];rw[if_pos c2] at hK ⊢;refine ld_go f2 (ld_go f0 ?_);rw[a.u];refine ref18_vec.s i6 (ka.keep k06) o pu0 c2 fun h8 s8 k8 r8 o8=>⟨sm_keep (by decide) f2 k8,?_⟩;have k08:=k06.n k8;refine ZCC.s (a.keep k08).w r8.seg (by omega) ?_;by_cases c3:e.vec=nextVec C e.user
   case neg=>
    rw[dF c3,if_pos (by rfl)];rw[if_neg c3] at hK;exact hK h8 k08
   rw[dT c3,if_neg (by simp)];rw[if_pos c3] at hK ⊢;refine ld_go (sm_keep (by decide) f3 k8) ?_;rw[a.r];have f3':sm (.ar 32 .u8) ((Pl.mk b1 0).fld 3) e.root h8:=by rw[←a.r];exact sm_keep (by decide) f3 k8
   refine ref18_Root.s (i.keep0 k08) o fun h10 k10=>⟨sm_keep (by decide) f3' k10,?_⟩;have k0_10:=k08.n k10;obtain ⟨R,hR⟩:∃R,rootV (C.all.map putE)=R:=⟨_,rfl⟩;rw[hR] at hK ⊢;have hb:=beq_eq (k := .ar 32 .u8) rfl (x:=e.root) (y:=R);by_cases c4:e.root=R
   case neg=>
    have hbf:Kd.beq (.ar 32 .u8) e.root R=false:=by
     cases hc:Kd.beq (.ar 32 .u8) e.root R with
     | true=>exact absurd (hb.1 hc) c4
     | false=>rfl
    rw[hbf,if_pos (by rfl)];rw[if_neg c4] at hK;exact hK h10 k0_10
   rw[hb.2 c4,if_neg (by simp)];rw[if_pos c4] at hK ⊢;have k6_10:Keep [] h6 h10:=k8.n k10;refine ld_go (sm_all (k6_10.g e16)) ?_;refine ref18_foreign.s (i.keep0 k0_10) (ka.keep k0_10) o (a.keep k0_10) ht fun h11 k11 =>?_;have k0_11:=k0_10.n k11
   cases c5:tabsOk C e with
   | false =>
     rw[if_pos (by rfl)];rw[c5,if_neg (by simp)] at hK;exact hK h11 k0_11
   | true =>
     rw[if_neg (by simp)];rw[c5,if_pos rfl] at hK;rw[if_pos rfl];have k6_11:=k6_10.n k11;have e11:=k6_11.g e16;obtain ⟨f0,f1,f2,f3,f35,f36⟩:=et_f e11;refine ld_go (sm_all e11) (nck_go (ld_go (rc_f (i.keep0 k0_11).e).2.2.2.2.2.1 (ld_go f0 ?_)));rw[a.u];have hpl:e.user.toNat<C.pubs.length:=by have:=o.p;omega
     have hgd:C.pubs.getD e.user.toNat []=C.pubs[e.user.toNat]:=by rw[YAB,YAC hpl];rfl
     have h60:=o.p60 _ (List.getElem_mem hpl);refine seg_ix (ka.keep k0_11).p (x:=bx C.pubs[e.user.toNat]) pu0 (by rw[List.getElem?_map,YAC hpl];rfl) rfl ?_;rw[hgd] at hK ⊢;refine ZCb.s (a.keep k0_11) hl (by omega) fun h12 k12 =>?_;have k0_12:=k0_11.n k12;by_cases c6:verE e C.pubs[e.user.toNat]=0
     ·rw[if_neg (by simp[c6])];exact ⟨k0_12,if_pos c6⟩
     ·rw[if_pos (by simpa using c6)];rw[if_neg c6] at hK;exact hK h12 k0_12
end
theorem ZBT.s {a b:Slc} {xs ys:List Int} {h:Heap} {K:Bool→Heap→Prop} (ga:Seg .i a xs h) (gb:Seg .i b ys h) (hl:xs.length≤9223372036854775807) (hK:K (decide (xs=ys)) h):ZBT.C a b h K:=by
 apply ZBT.c;unfold ZBT.m;have la:=ga.len;have lb:=gb.len;by_cases hlen:xs.length=ys.length
 case neg=>
  rw[if_pos (by simp;omega)];rw[dF (fun e=>hlen (by rw[e]))] at hK;exact hK
 rw[if_neg (by simp;omega)];refine lp_go (fun (y:Int×Unit) (h1:Heap)=>h1=h∧∃n:Nat,y.1=n∧n≤xs.length∧xs.take n=ys.take n) (fun (y:Int×Unit) _=>xs.length-y.1.toNat) ?_ ?_
 ·exact ⟨rfl,0,rfl,by omega,by simp⟩
 rintro ⟨(i:Int),_⟩ h1 ⟨rfl,n,e,hn,ht⟩;dsimp only at e ⊢;subst e;by_cases hlt:n<xs.length
 case neg=>
  rw[if_neg (show ¬decide ((n:Int)<(a.len:Int))=true from dn (by omega))]
  have:xs=ys:=by
   rw[YAN (by omega),YAN (by omega)] at ht;exact ht
  rw[dT this] at hK;exact hK
 rw[if_pos (show decide ((n:Int)<(a.len:Int))=true from dT (by omega))];have hw:w64 ((n:Int)+1)=((n+1:Nat):Int):=w6 (by omega);rw[hw];have hlt':n<ys.length:=by omega
 refine seg_ix ga (x:=xs[n]) (by omega) (by rw[YAP];exact YAC hlt) rfl ?_;refine seg_ix gb (x:=ys[n]) (by omega) (by rw[YAP];exact YAC hlt') rfl ?_;by_cases he:xs[n]=ys[n]
 ·rw[if_neg (by simpa using he)];refine ⟨⟨by first | rfl | trivial,n+1,rfl,by omega,?_⟩,by simp;omega⟩;rw[YAO hlt,YAO hlt',ht,he]
 ·rw[if_pos (by simpa using he)];rw[dF (fun e=>he (by subst e;rfl))] at hK;exact hK
theorem seed_spent {d:Sd} {n:Nat} (hn:n<4):spentH (d.k n)=false:=by
 unfold spentH;refine dF ?_;show ¬(n:Int)=4;omega
theorem IsCh.off {n0 c t:Nat} {h:Heap} {mv:MbK.Ty} {ps bs es:Slc} {evs:List EtK.Ty} {C:Cn} (i:IsCh n0 h c t mv ps bs es evs C):n0≤c∧c<h.size∧n0≤t∧t<h.size∧(∀T,T≠t_chain_Chain→∀cc f,h[c]? ≠ some (.cells cc T f))∧(∀T,T≠t_mlog_Tree→∀cc f,h[t]? ≠ some (.cells cc T f)):=by
 obtain ⟨⟨s,row,e,r,p,oo⟩,l⟩:=i.t;refine ⟨i.lc,lt_of_some i.e,l,lt_of_some e,fun T hT=>cell_ne (o := .cells #[] 0 (0,0)) i.e hT,fun T hT=>cell_ne (o := .cells #[] 0 (0,0)) e hT⟩
theorem key_1 {a b:Sd} {x y:Nat}:([hkV (a.k x),hkV (b.k y)]:List LkK.Ty)[(1:Int).toNat]? = some (hkV (b.k y)):=rfl
theorem ifd {a:Int} {P Q:Prop}:(if decide (a=a)=true then P else Q)=P:=if_pos (by simp)
theorem ZCy.s {h:Heap} {K:Bool→Heap→Prop} (hK:∀h',Keep [] h h'→K true h'):ZCy.C h K:=by
 apply ZCy.c;unfold ZCy.m;show ZBv.C (bx []) (bx []) h _;refine ZBv.s fun kv ks h1 k1 md =>?_;generalize sdA []=A at md;generalize sdB []=B at md;have z1:=k1.1;refine new_st_gen fun b1 h3 hb1 k3 e3 hs3 =>?_;have e3:h3[b1]? = some (vobj t_api_Keys KeK kv):=e3;refine ld_go (sm_all e3) ?_;have z3:=k3.1;refine ZCO.s (k:=clbK A B) (md.at.keep k3) (by unfold clbK;simp) (by intro g hg;unfold clbK clb at hg;simp at hg;subst hg;decide) (fun hn=>by rw[clb_may] at hn;simp at hn) fun _ h4 c t mv ps bs k4 i4 =>?_;have o4:CnOk (newC (clbK A B)):=clb_new;have cc:ClubC A B (newC (clbK A B)):=clb_c;have hall:(newC (clbK A B)).all=[]:=rfl;have hlt:lastTab (newC (clbK A B))=(newC (clbK A B)).begin:=rfl;have hnv:nextVec (newC (clbK A B)) ((1:Nat):Int)=[0,1]:=by unfold nextVec lastVec;rw[hall,cc.m];rfl
 have hmay:=clb_may (a:=A) (b:=B);have hmm:(clbK A B).m=clb:=rfl;have hpp:(clbK A B).pubs.length=2:=rfl;have f4:=i4.off;refine ld_go (sm_all (k4.g e3)) ?_;refine ZC0.s (k:=clbK A B) (md.at.keep (k3.n k4)) (by rw[hpp];decide) (fun hn=>by rw[hmay] at hn;simp at hn) fun _ h5 k5 =>?_;refine new_st_gen fun b2 h7 hb2 k7 e7 hs7 =>?_;have e7:h7[b2]? = some (vobj t_api_Log LgK ((0,(rootV [],(et0,()))):LgK.Ty)):=e7;have k47:Keep [] h4 h7:=k5.n k7;have k37:Keep [] h3 h7:=k4.n k47;have z5:=k5.1;refine jn_at (false,()) h7 ?_ ?_
 ·refine ZAX.s ?_;rw[if_neg (by simp)];exact ⟨by simp,rfl⟩
 rw[if_neg (by simp)];refine ld_go (sm_all (k37.g e3)) ?_;refine ZBC.s (k:=clbK A B) (md.at.keep (k3.n k37)) (by rw[hpp];decide) (by rw[hmm];decide) (fun hn=>by rw[hmay] at hn;simp at hn) fun _ h10 c2 fs k10 ir =>?_;generalize hC:newC (clbK A B)=C at *;refine ref18_Tables.s ir (fun T2 gT rT =>?_) (by rw[hall];decide);have hT3:(lastTab C).length=3:=cc.last o4;have k4_10:Keep [] h4 h10:=k47.n k10;show ZBF.C (some ⟨c,0⟩) ((1:Nat):Int) T2 h10 _;refine chain_Next.s (i4.keep0 k4_10) o4 gT (by rw[hT3];decide) (fun hn=>by rw[hT3,nxt_may cc (by decide) (by rw[hall];decide)] at hn;simp at hn) fun _ v h12 k12 er no =>?_;refine new_st_gen fun b3 h14 hb3 k14 e14 hs14 =>?_;have e14:h14[b3]? = some (vobj t_api_Entry EtK v):=e14;have k4_14:Keep [] h4 h14:=(k4_10.n k12).n k14;have k3_14:Keep [] h3 h14:=k4.n k4_14;have er14:EtR h14 v (nextE C ((1:Nat):Int) (lastTab C)):=er.keep k14 (by simp);have hvo:(nextVec C ((1:Nat):Int)).all vecOk=true:=by rw[hnv];decide
 have hem:=next_may cc o4 (u:=1) (by decide) hT3 (by rw[hall];decide) hvo;have hvl:(nextE C ((1:Nat):Int) (lastTab C)).vec.length=2:=next_len cc o4
 have hc0:chkC C (sgnE (nextE C ((1:Nat):Int) (lastTab C)) (B.k 0))=0:=by
  have:=chk_next cc o4 (u:=1) (n:=0) (by decide) hT3 (by rw[hall];decide) hvo (by decide);rw[if_pos tabs_same] at this;exact this
 have hcu:=chk_bare cc o4 (u:=1) (by decide) (by rw[hall];decide) hvo;have hpm:=sgn_may (d:=B) (n:=0) (by decide) hem;have hag:=chk_again cc hpm hvl hT3 (by rw[hall];decide) rfl;have hsd:sgnE (nextE C ((1:Nat):Int) (lastTab C)) (B.k 0)={ nextE C ((1:Nat):Int) (lastTab C) with sign:=hssSig (B.k 0) (sayE (nextE C ((1:Nat):Int) (lastTab C))) }:=rfl
 have hseq:(nextE C ((1:Nat):Int) (lastTab C)).seq=1:=by
  have:(nextE C ((1:Nat):Int) (lastTab C)).seq=(C.all.length:Int)+1:=rfl;rw[this,hall];rfl
 have hvec:(nextE C ((1:Nat):Int) (lastTab C)).vec=[0,1]:=hnv;have hag:chkC { C with all:=C.all++[sgnE (nextE C ((1:Nat):Int) (lastTab C)) (B.k 0)] } (sgnE (nextE C ((1:Nat):Int) (lastTab C)) (B.k 0))=2001:=hag;have hsv:(sgnE (nextE C ((1:Nat):Int) (lastTab C)) (B.k 0)).vec.length=2:=hvl;generalize nextE C ((1:Nat):Int) (lastTab C)=u at *;generalize sgnE u (B.k 0)=s at *;refine jn_in (fun (y:Pl×Unit) h'=>∃p,y=(Pl.mk p 0,())∧h'[p]? = some (vobj t_api_Entry EtK (sgnV v (hssSig (B.k 0) (sayE u))))∧Keep [] h14 h'∧h14.size≤p) ?_ ?_
 ·refine ld_go (sm_all e14) ?_;have mk14:=(md.keep0 (k3.n k3_14)).k;refine seg_ixl mk14.seg (by decide) key_1 rfl fun l1 gl=>ld_go gl ?_;refine sign_blk (J:=fun p q c h'=>∃p',((p,()):Pl×Unit)=(Pl.mk p' 0,())∧h'[p']? = some (vobj t_api_Entry EtK (sgnV v (hssSig (B.k 0) (sayE u))))∧Keep [] h14 h'∧h14.size≤p') (c:=0) (v':=sgnV v (hssSig (B.k 0) (sayE u))) (kv':=hkV { (B.k 0) with next:=(B.k 0).next+1 }) (sm_all e14) gl (fun h1 K' kk hk =>?_) (fun p q h' ep eq k lp lq=>⟨p,rfl,ep,k,lp⟩);exact ZAB.s (er14.at.keep kk) (by rw[hvl];decide) (seed_may (by decide)) (fun hn=>by rw[hem] at hn;simp at hn) (fun _ hn=>by rw[seed_spent (by decide)] at hn;simp at hn) (fun _ _ h' k'=>hk h' k')
 rintro _ h15 ⟨p,rfl,e15,k15,lp⟩;dsimp only;have k4_15:Keep [] h4 h15:=k4_14.n k15;refine ld_go (sm_all e15) ?_;have es15:EtR h15 (sgnV v (hssSig (B.k 0) (sayE u))) s:=by rw[hsd];exact (er14.keep k15 (by simp)).sgn
 generalize sgnV v (hssSig (B.k 0) (sayE u))=sv at *;refine chain_Check.s (i4.keep0 k4_15) o4 es15.at (by rw[hsv];decide) fun h43 k43 =>?_;rw[hc0];have k14_43:Keep [] h14 h43:=k15.n k43;refine ld_go (sm_all (k14_43.g e14)) ?_;have i43:=i4.keep0 (k4_15.n k43);refine chain_Add.s i43 o4 (er14.at.keep k14_43) (by rw[hvl];decide) (fun _ h44 k44 =>?_) (fun hn=>by rw[hcu] at hn;simp at hn);rw[hcu];have k15_44:Keep [] h15 h44:=k43.n k44;refine ld_go (sm_all (k15_44.g e15)) ?_;have es44:=es15.keep k15_44 (by simp);refine chain_Add.s (i43.keep0 k44) o4 es44.at (by rw[hsv];decide) (fun hn=>absurd hc0 hn) (fun _ h45 es' evs' k45 i45 hne =>?_);have lp15:=lt_of_some e15;have z14:=k15.1;have z4_14:=k4_14.1;obtain ⟨o1,o2,o3,o4',o5,o6⟩:=f4;have k45:Keep [c,t] h44 h45:=k45.weak fun b hb _=>by simpa[own] using hb
 have off44:=(i43.keep0 k44).off;have ep45:=k45.get (k15_44.g e15) (by simp;omega)
 have es45:EtR h45 sv s:=es44.keep k45 fun b hb hm=>by
  have:∀T,T=t_int∨T=t_api_Hash→∀cc f,h44[b]? ≠ some (.cells cc T f):=fun T hT=>by
   simp only [YAI,YAL,or_false] at hm;rcases hm with rfl | rfl
   ·exact off44.2.2.2.2.1 T (by rcases hT with rfl | rfl <;> decide)
   ·exact off44.2.2.2.2.2 T (by rcases hT with rfl | rfl <;> decide)
  unfold etO at hb;rcases List.mem_append.1 hb with hb | hb
  ·rcases es44.w with ⟨e,_⟩ | ⟨b',zs,e,_,_,e4⟩
   ·rw[e] at hb;simp[own] at hb
   ·have e0:b=b':=by unfold own at hb;rw[e] at hb;simpa using hb
    subst e0;exact this t_int (by simp) _ _ e4
  ·rcases es44.t with ⟨e,_⟩ | ⟨b',zs,e,_,_,e4⟩
   ·rw[e] at hb;simp[own] at hb
   ·have e0:b=b':=by unfold own at hb;rw[e] at hb;simpa using hb
    subst e0;exact this t_api_Hash (by simp) _ _ e4
 refine ld_go (sm_all ep45) ?_;obtain ⟨o45,_,_⟩:=chk_ok o4 hc0;refine chain_Add.s i45 o45 es45.at (by rw[hsv];decide) (fun _ h46 k46 =>?_) (fun hn=>by rw[hag] at hn;simp at hn);rw[hag];refine ZCO.s (k:=⟨⟨0,[]⟩,[]⟩) ⟨⟨rfl,[],(Row.nil (T:=t_s_int)).seg,trivial⟩,(Row.nil (T:=t_string)).seg⟩ (by decide) (by simp) (fun _ h47 k47 =>?_) (fun hn=>by simp[kysMay,mbMay] at hn);have k45_47:Keep [] h45 h47:=k46.n k47;have k14_45:Keep [c,t] h14 h45:=(k15.n k15_44).then (U:=[c,t]) k45 (by simp) (by simp);have k14_47:Keep [c,t] h14 h47:=k14_45.then (U:=[c,t]) k45_47 (by simp) (by simp);have lb2:=lt_of_some e7;have lb3:=lt_of_some e14;have k7_14:Keep [] h7 h14:=(k10.n k12).n k14;have z7_14:=k7_14.1;have e7':=k14_47.get (k7_14.g e7) (by simp;omega);have e14':=k14_47.get e14 (by simp;omega);have z0:h.size≤h3.size:=by omega
 refine jn_in (fun y h'=>y=(true,())∧Keep [] h47 h') ?_ ?_
 ·refine ZAX.s ?_;rw[ifd];refine ld_go (sm_fld (n:=0) (k' := .i) (y:=(0:Int)) e7' rfl (by decide)) ?_;rw[ifd];refine ZAX.s ?_;rw[ifd];obtain ⟨f0,f1,f2,f3,f35,f36⟩:=et_f e14';refine ld_go f1 ?_;rw[er14.q,hseq,ifd];refine ld_go f2 ?_;refine bs_gen fun bq h51 hbq k51 r51 hs51 =>?_
  have r47:Row h47 t_int .i v.2.2.1 u.vec:=er14.w.keep k14_47 fun b hb hm=>by
   have off14:=(i4.keep0 k4_14).off;rcases er14.w with ⟨e,_⟩ | ⟨b',zs,e,_,_,e4⟩
   ·rw[e] at hb;simp[own] at hb
   ·have e0:b=b':=by unfold own at hb;rw[e] at hb;simpa using hb
    subst e0;simp only [YAI,YAL,or_false] at hm;rcases hm with rfl | rfl
    ·exact off14.2.2.2.2.1 t_int (by decide) _ _ e4
    ·exact off14.2.2.2.2.2 t_int (by decide) _ _ e4
  refine ZBT.s (r47.keep k51 (by simp)).seg r51.seg (by rw[hvl];decide) ?_;rw[hvec,if_pos (by decide)];refine ZAX.s ?_;rw[ifd];refine ZAX.s ?_;rw[ifd];refine ZAX.s ?_;rw[ifd];refine ZAX.s ?_;rw[ifd];refine chain_Log.s (i45.keep0 (k45_47.n k51)) o45 fun x h57 k57 lg _ =>?_;rw[lg.n];rw[show (((C.all++[s]).length:Nat):Int)=1 by rw[hall];rfl,ifd];refine ZAX.s ?_;rw[ifd];have k47_57:=k51.n k57;have e3':=k47_57.g (k14_47.get (k3_14.g e3) (by simp;omega));refine ld_go (sm_all e3') ?_
  have md47:MdU h.size h47 kv ks A B 0 0:=(md.keep0 (k3.n k3_14)).keep k14_47 fun b hb=>by
   have off14:=(i4.keep0 k4_14).off;refine .inr fun T hT =>?_;simp only [YAI,YAL,or_false] at hb;rcases hb with rfl | rfl
   ·exact off14.2.2.2.2.1 T (by rcases hT with rfl | rfl | rfl | rfl <;> decide)
   ·exact off14.2.2.2.2.2 T (by rcases hT with rfl | rfl | rfl | rfl <;> decide)
  refine ZA1.s (md47.keep0 k47_57).at (by rw[hpp];decide) fun h59 k59 =>?_;rw[hmay];exact ⟨rfl,k47_57.n k59⟩
 ·rintro _ h48 ⟨rfl,k48⟩;refine hK h48 (((((k1.n k3).n k3_14).new k14_47 (by simp;omega))).n k48)
theorem u8_map:∀l:List UInt8,∃f:UInt8→Value,(∀y,Kd.u8.cells y=[f y])∧l.flatMap Kd.u8.cells=l.map f
 | []=>⟨fun y=>(Kd.u8.cells y).headD (.bool false),fun y=>rfl,rfl⟩
 | a :: r => by
   obtain ⟨f,h1,h2⟩:=u8_map r;exact ⟨f,h1,by rw[YAA,h2,h1 a];rfl⟩
theorem arr_rd {z:HVec} {i:Nat} (hi:i<32):(((Kd.ar 32 .u8).cells z).drop i).take Kd.u8.size=Kd.u8.cells z[i]:=by
 obtain ⟨f,h1,h2⟩:=u8_map z.toList;have:(Kd.ar 32 .u8).cells z=z.toList.map f:=h2;rw[this,h1,←List.map_drop];show ((z.toList.drop i).map f).take 1=_;have hl:i<z.toList.length:=by simpa using hi
 rw[List.drop_eq_getElem_cons hl];simp
theorem arr_wr {z:HVec} {i:Nat} {y:UInt8} (hi:i<32):wrL ((Kd.ar 32 .u8).cells z) i (Kd.u8.cells y)=(Kd.ar 32 .u8).cells (z.setIfInBounds i y):=by
 obtain ⟨f,h1,h2⟩:=u8_map z.toList
 have hf:∀l:List UInt8,l.flatMap Kd.u8.cells=l.map f:=by
  intro l
  induction l with
  | nil=>rfl
  | cons a r ih=>rw[YAA,ih,h1 a];rfl
 have e1:(Kd.ar 32 .u8).cells z=z.toList.map f:=h2;have e2:(Kd.ar 32 .u8).cells (z.setIfInBounds i y)=(z.setIfInBounds i y).toList.map f:=hf _;rw[e1,e2,h1];unfold wrL;rw[Vector.toList_setIfInBounds,YAM,if_pos (by simpa using hi)];simp
theorem ix_mono {s:Slc} {i:Int} {sz:Nat} {P Q:Pl→Prop} (h:ix s i sz P) (hPQ:∀l,P l→Q l):ix s i sz Q:=by
 obtain ⟨l,a,b,c,d⟩:=h;exact ⟨l,a,b,c,hPQ _ d⟩
theorem row_ld_u8 {h:Heap} {s:Slc} {xs:List HVec} {i j:Nat} {K:UInt8→Prop} (r:Seg (.ar 32 .u8) s xs h) (hi:i<xs.length) (hj:j<32) (hK:K (xs[i][j])):ix s (i:Int) 32 fun l=>ixa l 32 (j:Int) 1 fun l2=>ld .u8 l2 h K:=by
 refine seg_ixl r (x:=xs[i]) (by omega) (by rw[YAP];exact YAC hi) rfl fun l hl=>⟨by omega,by omega,?_⟩;rw[YAP,YAR];have:=sm_sub (k' := .u8) (y:=xs[i][j]) (n:=j) hl (show j+1≤32 by omega) (arr_rd hj);exact ld_go this hK
theorem row_st_u8 {h:Heap} {T:Nat} {s:Slc} {xs:List HVec} {i j:Nat} {y:UInt8} {K:Heap→Prop} (r:Row h T (.ar 32 .u8) s xs) (hi:i<xs.length) (hj:j<32) (hK:∀h',Keep (own s) h h'→Row h' T (.ar 32 .u8) s (xs.set i (xs[i].setIfInBounds j y))→K h'):ix s (i:Int) 32 fun l=>ixa l 32 (j:Int) 1 fun l2=>Go.Al.st .u8 l2 y h K:=by
 refine ix_mono (ix_st_fld (k' := .u8) (n:=j) (y:=y) r hi rfl rfl (show j+1≤32 by omega) (arr_wr hj) hK) fun l hl=>⟨by omega,by omega,?_⟩;rw[YAP,YAR];exact hl
theorem u64_modU {x:Int} {n:Nat} (h0:0<n) (h:n≤1000):∃k:Nat,k<n∧w64 (((u64I x)%(UInt64.ofNat n)).toNat:Int)=k:=by
 have hn:(UInt64.ofNat n).toNat=n:=by rw[UInt64.toNat_ofNat'];omega
 refine ⟨((u64I x)%(UInt64.ofNat n)).toNat,?_,?_⟩
 ·rw[UInt64.toNat_mod,hn];exact Nat.mod_lt _ h0
 ·have:((u64I x)%(UInt64.ofNat n)).toNat<n:=by rw[UInt64.toNat_mod,hn];exact Nat.mod_lt _ h0
  rw[w64_id (by omega) (by omega)]
theorem and_1U {x:Int}:∃k:Nat,k≤1∧andI x 1=k:=by
 have:=andI_mask x (k:=1) (by decide);have e:((2^1-1:Nat):Int)=1:=by decide
 rw[e] at this;refine ⟨(x%2).toNat,by omega,?_⟩;rw[this];have:((2^1:Nat):Int)=2:=by decide
 rw[this];omega
theorem and_31U {x:Int}:∃k:Nat,k<32∧andI x 31=k:=by
 have:=andI_mask x (k:=5) (by decide);have e:((2^5-1:Nat):Int)=31:=by decide
 rw[e] at this;refine ⟨(x%32).toNat,by omega,?_⟩;rw[this];have:((2^5:Nat):Int)=32:=by decide
 rw[this];omega
theorem key_u {a b:Sd} {x y u:Nat} (hu:u≤1):([hkV (a.k x),hkV (b.k y)]:List LkK.Ty)[((u:Nat):Int).toNat]? = some (hkV ((sdOf a b u).k (if u=0 then x else y))):=by
 match u,hu with
 | 0,_=>rfl
 | 1,_=>rfl
theorem EtR.keepP {h h':Heap} {p:Nat} {w x:EtK.Ty} {e:Ett} (a:EtR h w e) (ep:h[p]? = some (vobj t_api_Entry EtK x)) (k:Keep [p] h h'):EtR h' w e:=
 ⟨a.u,a.q,a.w.keep k fun q hq hm=>by simp at hm;subst hm;exact rowT a.w ep (by decide) hq,a.r,a.t.keep k fun q hq hm=>by simp at hm;subst hm;exact rowT a.t ep (by decide) hq,a.s⟩
section
variable {n p:Nat} {h:Heap} {e:Ett} {K:Heap→Prop}
theorem et_w6 {v:EtK.Ty} {i:Nat} {y:UInt8} (hi:i<32):wrL (EtK.cells v) (3+i) (Kd.u8.cells y)=EtK.cells ((v.1,(v.2.1,(v.2.2.1,(v.2.2.2.1.setIfInBounds i y,v.2.2.2.2)))):EtK.Ty):=by
 have e0:∀z:HVec,EtK.cells ((v.1,(v.2.1,(v.2.2.1,(z,v.2.2.2.2)))):EtK.Ty)=(Kd.i.cells v.1++(Kd.i.cells v.2.1++Kd.sl.cells v.2.2.1))++((Kd.ar 32 .u8).cells z++(Kd.sl.cells v.2.2.2.2.1++(Kd.s.cells v.2.2.2.2.2.1++[]))):=fun z=>rfl;have e1:EtK.cells v=_:=e0 v.2.2.2.1;rw[e1,e0 (v.2.2.2.1.setIfInBounds i y)];have l3:(Kd.i.cells v.1++(Kd.i.cells v.2.1++Kd.sl.cells v.2.2.1)).length=3:=rfl;have l32:((Kd.ar 32 .u8).cells v.2.2.2.1).length=32:=Kd.cells_length ..;have hw:=arr_wr (z:=v.2.2.2.1) (y:=y) hi;have ly:(Kd.u8.cells y).length=1:=rfl;rw[←hw];generalize Kd.i.cells v.1++(Kd.i.cells v.2.1++Kd.sl.cells v.2.2.1)=A at *;generalize (Kd.ar 32 .u8).cells v.2.2.2.1=Z at *;generalize Kd.sl.cells v.2.2.2.2.1++(Kd.s.cells v.2.2.2.2.2.1++[])=B at *;generalize Kd.u8.cells y=Y at *;unfold wrL;rw[List.take_append,YAN (by omega),l3,Nat.add_sub_cancel_left,List.take_append_of_le_length (by omega)]
 have hd:List.drop (3+i+Y.length) (A++(Z++B))=List.drop (i+Y.length) Z++B:=by
  rw[show 3+i+Y.length=3+(i+Y.length) by omega,←List.drop_drop,List.drop_left' l3,List.drop_append_of_le_length (by omega)]
 rw[hd];simp only [List.append_assoc]
end
theorem EtR.keepS {h h':Heap} {v:EtK.Ty} {e:Ett} {S:List Nat} (a:EtR h v e) (k:Keep S h h') (hS:∀b∈S,∀T,T=t_int∨T=t_api_Hash→∀c f,h[b]? ≠ some (.cells c T f)):EtR h' v e:=
 ⟨a.u,a.q,row_keepC (n0:=0) a.w k (fun _ _=>YAS _) (fun b hb => .inr (.inr (hS b hb _ (by simp)))),a.r,row_keepC (n0:=0) a.t k (fun _ _=>YAS _) (fun b hb => .inr (.inr (hS b hb _ (by simp)))),a.s⟩
theorem row_tagU {T T':Nat} {k:Kd} {s:Slc} {L:List k.Ty} {h:Heap} (r:Row h T k s L) (hT:T≠T'):∀q∈own s,∀cc f,h[q]? ≠ some (.cells cc T' f):=fun q hq cc f e=>rowT r e (fun h=>hT h.symm) hq
theorem row_ltU {T:Nat} {k:Kd} {s:Slc} {L:List k.Ty} {h:Heap} (r:Row h T k s L):∀q∈own s,q<h.size:=fun q hq=>by
 rcases r with ⟨e,_⟩ | ⟨b,zs,e,_,_,e4⟩
 ·rw[e] at hq;simp[own] at hq
 ·have:q=b:=by unfold own at hq;rw[e] at hq;simpa using hq
  subst this;exact lt_of_some e4
theorem rc_w4 {kv:KeK.Ty} {fs es ls y:Slc}:wrL (RcK.cells ((kv,(fs,(es,(ls,())))):RcK.Ty)) 4 (Kd.sl.cells y)=RcK.cells ((kv,(fs,(y,(ls,())))):RcK.Ty):=by
 obtain ⟨⟨a,b,c⟩,d,e⟩:=kv
 rfl
theorem rc_w5 {kv:KeK.Ty} {fs es ls y:Slc}:wrL (RcK.cells ((kv,(fs,(es,(ls,())))):RcK.Ty)) 5 (Kd.sl.cells y)=RcK.cells ((kv,(fs,(es,(y,())))):RcK.Ty):=by
 obtain ⟨⟨a,b,c⟩,d,e⟩:=kv
 rfl
theorem cut_entry {b1:Nat} {v:EtK.Ty} {e:Ett} {h0 h:Heap} {K:Heap→Prop} (k0:Keep [] h0 h) (hb:h0.size≤b1) (e1:h[b1]? = some (vobj t_api_Entry EtK v)) (a:EtAt h0 v e) (hv:e.vec.length*8≤140737488355328) (ht:e.tables.length*32≤140737488355328)
 (hK:∀h' v',Keep [b1] h h'→h'[b1]? = some (vobj t_api_Entry EtK v')→EtR h' v' e→(∀q∈etO v',h.size≤q)→K h') :
 bs 3 .i [] h fun s1 h3=>
 ld .sl ((Pl.mk b1 0).fld 2) h3 fun x4=>
 slCells x4 (x4.len*1) h3 fun cs1=>
 ap 3 .i 8 s1 x4.len cs1 h3 fun s2 h4=>
 Go.Al.st .sl ((Pl.mk b1 0).fld 2) s2 h4 fun h5=>
 bs 45 (.ar 32 .u8) [] h5 fun s3 h6=>
 ld .sl ((Pl.mk b1 0).fld 35) h6 fun x5=>
 slCells x5 (x5.len*32) h6 fun cs2=>
 ap 45 (.ar 32 .u8) 32 s3 x5.len cs2 h6 fun s4 h7=>
 Go.Al.st .sl ((Pl.mk b1 0).fld 35) s4 h7 K:=by
 have lb:=lt_of_some e1;refine bs_gen fun q1 h3 hq1 k3 r3 hs3 =>?_;have e3:=k3.g e1;refine ld_go (et_f e3).2.2.1 ?_;refine slCells_seg (a.keep (k0.n k3)).w (by rw[a.w.len];simp[Kd.size]) ?_;refine ap_row (T:=t_int) (k := .i) (ys:=e.vec) r3 a.w.len rfl (by rw[a.w.len];simp;omega) fun s2 h4 r4 k4 o4 =>?_;rw[YAK] at r4;have k14:Keep [] h h4:=k3.new k4 (by simp[own];omega);have e4:=k14.g e1;have z3:=k3.1;have z14:=k14.1;have z0:=k0.1
 have o4':∀q∈own s2,h.size≤q:=fun q hq=>by
  rcases own_of o4 q hq with h | h
  ·simp[own] at h;omega
  ·omega
 refine st_fld (k:=EtK) (k' := .sl) (n:=2) e4 (by decide) et_w2 ?_;have e5:=get_set (o':=vobj t_api_Entry EtK ((v.1,(v.2.1,(s2,v.2.2.2))):EtK.Ty)) e4;have k5:Keep [b1] h4 (h4.setIfInBounds b1 (vobj t_api_Entry EtK ((v.1,(v.2.1,(s2,v.2.2.2))):EtK.Ty))):=keep_set;have hs5:(h4.setIfInBounds b1 (vobj t_api_Entry EtK ((v.1,(v.2.1,(s2,v.2.2.2))):EtK.Ty))).size=h4.size:=by simp
 have r5:Row (h4.setIfInBounds b1 (vobj t_api_Entry EtK ((v.1,(v.2.1,(s2,v.2.2.2))):EtK.Ty))) t_int .i s2 e.vec:=r4.keep k5 fun q hq hm=>by simp at hm;subst hm;exact rowT r4 e4 (by decide) hq
 generalize h4.setIfInBounds b1 (vobj t_api_Entry EtK ((v.1,(v.2.1,(s2,v.2.2.2))):EtK.Ty))=h5 at *;have k15:Keep [b1] h h5:=k14.then (U:=[b1]) k5 (by simp) (by simp);refine bs_gen fun q2 h6 hq2 k6 r6 hs6 =>?_;have e6:=k6.g e5;have k16:Keep [b1] h h6:=k15.then (U:=[b1]) k6 (by simp) (by simp);have k06:Keep [] h0 h6:=k0.new k16 (by simp;omega);refine ld_go (et_f e6).2.2.2.2.1 ?_;refine slCells_seg (a.keep k06).t (by rw[a.t.len];rfl) ?_;refine ap_row (T:=t_api_Hash) (k := .ar 32 .u8) (ys:=e.tables) r6 a.t.len rfl (by rw[a.t.len];simp;omega) fun s4 h7 r7 k7 o7 =>?_;rw[YAK] at r7;have e7:=k7.get e6 (rowT r6 e6 (by decide));have r57:=(r5.keep k6 (by simp)).keep k7 (tagO (r5.keep k6 (by simp)) r6 (by decide));have z15:=k15.1;have z6:=k6.1;have k17:Keep [b1] h h7:=k16.then (U:=[b1]) k7 (by simp) (by simp[own];omega);refine st_fld (k:=EtK) (k' := .sl) (n:=35) e7 (by decide) et_w35 ?_;have k8:Keep [b1] h7 (h7.setIfInBounds b1 (vobj t_api_Entry EtK ((v.1,(v.2.1,(s2,(v.2.2.2.1,(s4,v.2.2.2.2.2))))):EtK.Ty))):=keep_set;have hr:∀ {T:Nat} {k:Kd} {s:Slc} {L:List k.Ty},Row h7 T k s L→T≠t_api_Entry→Row (h7.setIfInBounds b1 (vobj t_api_Entry EtK ((v.1,(v.2.1,(s2,(v.2.2.2.1,(s4,v.2.2.2.2.2))))):EtK.Ty))) T k s L:=fun r hT=>r.keep k8 fun q hq hm=>by simp at hm;subst hm;exact rowT r e7 (fun h=>hT h.symm) hq
 refine hK _ _ (k17.then (U:=[b1]) k8 (by simp) (by simp)) (get_set e7) ⟨a.u,a.q,hr r57 (by decide),a.r,hr r7 (by decide),a.s⟩ fun q hq =>?_;unfold etO at hq;rcases List.mem_append.1 hq with hq | hq
 ·exact o4' q hq
 ·rcases own_of o7 q hq with h | h
  ·simp[own] at h;omega
  ·omega
section
variable {n1 c:Nat} {h:Heap} {kv:KeK.Ty} {fs es ls:Slc} {evs:List EtK.Ty} {C:Cn}
theorem ref18_Push.s {v:EtK.Ty} {e:Ett} {K:Heap→Prop} (i:IsRc n1 h c kv fs es ls evs C) (o:CnOk C) (a:EtAt h v e) (hp:putMay e=true) (hn:C.all.length<256)
 (hK:∀h' es' ls' evs',Keep ([c]++own es++own ls) h h'→IsRc n1 h' c kv fs es' ls' evs' { C with all:=C.all++[e] }→(∀q∈own es',q∈own es∨h.size≤q)→(∀q∈own ls',q∈own ls∨h.size≤q)→K h'):ZB5.C (some ⟨c,0⟩) v h K:=by
 apply ZB5.c;unfold ZB5.m;obtain ⟨_,_,pv,pt⟩:=put_vec hp;have lc:=lt_of_some i.e;have hn1:n1≤h.size:=by have:=i.lc;omega
 have al:es.len=C.all.length:=by rw[i.a.len,i.x.len]
 have evl:evs.length=C.all.length:=i.x.len;refine new_gen fun b1 h1 hb1 k1 e1 hs1 =>?_;have e1:h1[b1]? = some (vobj t_api_Entry EtK v):=e1;refine ld_go (sm_all e1) ?_;refine ZCN.s (a.keep k1) (by omega) fun h2 k2 =>?_;rw[if_pos hp];have k02:=k1.n k2;refine cut_entry k02 (by omega) (k2.g e1) a (by omega) (by omega) fun h8 v' k8 e8 r8 o8 =>?_;have z2:=k02.1;have k08:Keep [] h h8:=k02.new k8 (by simp;omega);have i8:=i.keep0 k08;refine nck_go (ld_go (rc_f i8.e).2.2.1 (ld_go (sm_all e8) ?_));refine bs_gen fun q5 h9 hq5 k9 r9 hs9 =>?_;have i9:=i8.keep0 k9;have k09:=k08.n k9;refine ⟨(rc_f i9.e).2.2.1,?_⟩;refine slCells_seg r9.seg (by simp[Kd.size]) ?_;refine ap_row (T:=t_api_Entry) (k:=EtK) (ys:=[v']) i9.a rfl rfl (by rw[evl];simp;omega) fun s6 h10 r10 k10 o10 =>?_;have e9c:=i9.e;have e10c:=k10.get e9c (rowT i9.a e9c (by decide));refine nck_go ?_;refine st_fld (k:=RcK) (k' := .sl) (n:=4) e10c (by decide) rc_w4 ?_;have e11:=get_set (o':=vobj t_almonryref18_Chain RcK ((kv,(fs,(s6,(ls,())))):RcK.Ty)) e10c;have k11:Keep [c] h10 (h10.setIfInBounds c (vobj t_almonryref18_Chain RcK ((kv,(fs,(s6,(ls,())))):RcK.Ty))):=keep_set;have hs11:(h10.setIfInBounds c (vobj t_almonryref18_Chain RcK ((kv,(fs,(s6,(ls,())))):RcK.Ty))).size=h10.size:=by simp
 generalize h10.setIfInBounds c (vobj t_almonryref18_Chain RcK ((kv,(fs,(s6,(ls,())))):RcK.Ty))=h11 at *;have tgc:∀T,T≠t_almonryref18_Chain→∀cc f,h10[c]? ≠ some (.cells cc T f):=fun T hT=>cell_ne (o := .cells #[] 0 (0,0)) e10c hT
 have mv11:∀ {T:Nat} {k:Kd} {s:Slc} {L:List k.Ty},Row h9 T k s L→T≠t_api_Entry→T≠t_almonryref18_Chain→Row h11 T k s L:=fun r h1 h2=>by
  have r10:=r.keep k10 (tagO r i9.a h1);exact r10.keep k11 fun q hq hm=>by simp at hm;subst hm;exact rowT r10 e10c (fun h=>h2 h.symm) hq
 have r11:Row h11 t_api_Entry EtK s6 (evs++[v']):=r10.keep k11 fun q hq hm=>by simp at hm;subst hm;exact rowT r10 e10c (by decide) hq
 refine nck_go (ld_go (rc_f e11).2.2.2.1 ?_);refine bs_gen fun q7 h12 hq7 k12 r12 hs12 =>?_;refine slCells_seg r12.seg (by simp[Kd.size]) ?_;have l11:=mv11 i9.l (by decide) (by decide);have l12:=l11.keep k12 (by simp);refine ap_row (T:=t_string) (k := .s) (ys:=[bx (putE e)]) l12 rfl rfl (by rw[YAF,YAF];simp;omega) fun s8 h13 r13 k13 o13 =>?_;have e12c:=k12.g e11;have e13c:=k13.get e12c (rowT l12 e12c (by decide));refine nck_go ?_;refine st_fld (k:=RcK) (k' := .sl) (n:=5) e13c (by decide) rc_w5 ?_;have e14:=get_set (o':=vobj t_almonryref18_Chain RcK ((kv,(fs,(s6,(s8,())))):RcK.Ty)) e13c;have k14:Keep [c] h13 (h13.setIfInBounds c (vobj t_almonryref18_Chain RcK ((kv,(fs,(s6,(s8,())))):RcK.Ty))):=keep_set;generalize h13.setIfInBounds c (vobj t_almonryref18_Chain RcK ((kv,(fs,(s6,(s8,())))):RcK.Ty))=h14 at *;have tgc13:∀T,T≠t_almonryref18_Chain→∀cc f,h13[c]? ≠ some (.cells cc T f):=fun T hT=>cell_ne (o := .cells #[] 0 (0,0)) e13c hT
 have mv14:∀ {T:Nat} {k:Kd} {s:Slc} {L:List k.Ty},Row h11 T k s L→T≠t_string→T≠t_almonryref18_Chain→Row h14 T k s L:=fun r h1 h2=>by
  have r12:=r.keep k12 (by simp);have r13:=r12.keep k13 (tagO r12 l12 h1);exact r13.keep k14 fun q hq hm=>by simp at hm;subst hm;exact rowT r13 e13c (fun h=>h2 h.symm) hq
 have et:∀ {x:EtK.Ty} {y:Ett},EtR h9 x y→EtR h14 x y:=fun r=>⟨r.u,r.q,mv14 (mv11 r.w (by decide) (by decide)) (by decide) (by decide),r.r,mv14 (mv11 r.t (by decide) (by decide)) (by decide) (by decide),r.s⟩;have hmap:(C.all.map putE).map bx++[bx (putE e)]=((({ C with all:=C.all++[e] }:Cn)).all.map putE).map bx:=by simp
 rw[hmap] at r13;have r14:=r13.keep k14 fun q hq hm=>by simp at hm;subst hm;exact rowT r13 e13c (by decide) hq
 have z09:=k09.1;have z10:=k10.1;have z11:=k11.1;have z12:=k12.1
 have o6:∀q∈own s6,q∈own es∨h.size≤q:=fun q hq=>by
  rcases own_of o10 q hq with h | h
  ·exact .inl h
  ·exact .inr (by omega)
 have o8':∀q∈own s8,q∈own ls∨h.size≤q:=fun q hq=>by
  rcases own_of o13 q hq with h | h
  ·exact .inl h
  ·exact .inr (by omega)
 refine hK h14 s6 s8 (evs++[v']) ?_ ⟨e14,i.lc,mv14 (mv11 i9.f (by decide) (by decide)) (by decide) (by decide),mv14 r11 (by decide) (by decide),fun q hq =>?_,?_,r14,fun q hq =>?_⟩ o6 o8'
 ·have a1:Keep ([c]++own es++own ls) h h10:=k09.then (U:=[c]++own es++own ls) k10 (by simp) (fun x hx _=>by simp[hx]);have a2:=a1.then (U:=[c]++own es++own ls) k11 (fun x hx _=>hx) (fun x hx _=>by simp at hx;simp[hx]);have a3:=a2.then (U:=[c]++own es++own ls) k12 (fun x hx _=>hx) (by simp);have a4:=a3.then (U:=[c]++own es++own ls) k13 (fun x hx _=>hx) (fun x hx _=>by simp[hx]);exact a4.then (U:=[c]++own es++own ls) k14 (fun x hx _=>hx) (fun x hx _=>by simp at hx;simp[hx])
 ·rcases o6 q hq with h | h
  ·exact i.oa q h
  ·omega
 ·refine All2.app (All2.mono (fun x y r=>⟨et r.1,r.2⟩) i9.x) ⟨⟨et (r8.keep k9 (by simp)),fun q hq =>?_⟩,trivial⟩;have:=o8 q hq;omega
 ·rcases o8' q hq with h | h
  ·exact i.ol q h
  ·omega
theorem ref18_Add.s {v:EtK.Ty} {e:Ett} {K:Int→Heap→Prop} (i:IsRc n1 h c kv fs es ls evs C) (ka:KeAt h kv ⟨C.m,C.pubs⟩) (o:CnOk C) (a:EtAt h v e) (hl:e.vec.length≤9223372036854775806)
 (hbad:chkC C e≠0→∀h',Keep [] h h'→K (chkC C e) h')
 (hok:chkC C e=0→∀h' es' ls' evs',Keep ([c]++own es++own ls) h h'→IsRc n1 h' c kv fs es' ls' evs' { C with all:=C.all++[e] }→(∀q∈own es',q∈own es∨h.size≤q)→(∀q∈own ls',q∈own ls∨h.size≤q)→K 0 h'):ZBy.C (some ⟨c,0⟩) v h K:=by
 apply ZBy.c;unfold ZBy.m;refine new_gen fun b1 h1 hb1 k1 e1 hs1 =>?_;have e1:h1[b1]? = some (vobj t_api_Entry EtK v):=e1;refine ld_go (sm_all e1) ?_;refine ref18_Check.s (i.keep0 k1) (ka.keep k1) o (a.keep k1) hl fun h2 k2 =>?_;have k02:=k1.n k2;by_cases hc:chkC C e=0
 ·obtain ⟨_,hp,hn⟩:=chk_ok o hc;rw[hc];refine jn_go ?_;rw[if_pos (show decide ((0:Int)=0)=true from rfl)];refine ld_go (sm_all (k2.g e1)) ?_;have z:=k02.1;refine ref18_Push.s (i.keep0 k02) o (a.keep k02) hp hn fun h' es' ls' evs' k' i' oe ol =>?_;exact hok hc h' es' ls' evs' (k02.then (U:=[c]++own es++own ls) k' (by simp) (fun x hx _=>hx)) i' (fun q hq=>by rcases oe q hq with h | h;exact .inl h;exact .inr (by omega)) (fun q hq=>by rcases ol q hq with h | h;exact .inl h;exact .inr (by omega))
 ·refine jn_go ?_;rw[if_neg (by simpa using hc)];exact hbad hc h2 k02
theorem ref18_Log.s {K:LgK.Ty→Heap→Prop} (i:IsRc n1 h c kv fs es ls evs C) (o:CnOk C) (hK:∀x h',Keep [] h h'→LgR h' x C→K x h'):ZCR.C (some ⟨c,0⟩) h K:=by
 apply ZCR.c;unfold ZCR.m;have on:=o.n;have al:es.len=C.all.length:=by rw[i.a.len,i.x.len]
 refine new_gen fun b1 h1 hb1 k1 e1 hs1 =>?_;have e1:h1[b1]? = some (vobj t_api_Log LgK lg0):=e1;have i1:=i.keep0 k1;obtain ⟨R,hR⟩:∃R,rootV (C.all.map putE)=R:=⟨_,rfl⟩;refine jn_in (fun y h'=>Keep [] h1 h'∧∃b,y=(Pl.mk b 0,())∧h1.size≤b∧h'[b]? = some (vobj t_api_Log LgK (((C.all.length:Int),(R,(et0,()))):LgK.Ty))) ?_ ?_
 ·refine nck_go (ld_go (rc_f i1.e).2.2.1 ⟨?_,?_⟩)
  ·refine ref18_Root.s i1 o fun h4 k4 =>?_;refine ⟨(rc_f (i1.keep0 k4).e).2.2.1,?_⟩;rw[hR];refine new_gen fun b2 h5 hb2 k5 e5 hs5 =>?_;have e5:h5[b2]? = some (vobj t_api_Log LgK lg0):=e5;refine ⟨(rc_f ((i1.keep0 k4).keep0 k5).e).2.2.1,?_⟩;rw[al];refine st_to e5 fun h6 k6 e6 hs6 =>?_;have z4:=k4.1;exact ⟨(k4.n k5).new k6 (by simp;omega),b2,rfl,by omega,e6⟩
  ·refine new_gen fun b2 h5 hb2 k5 e5 hs5 =>?_;have e5:h5[b2]? = some (vobj t_api_Log LgK lg0):=e5;have i5:=i1.keep0 k5;refine ⟨(rc_f i5.e).2.2.1,?_⟩;refine ref18_Root.s i5 o fun h4 k4 =>?_;refine ⟨(rc_f (i5.keep0 k4).e).2.2.1,?_⟩;rw[hR,al];refine st_to (k4.g e5) fun h6 k6 e6 hs6 =>?_;exact ⟨(k5.n k4).new k6 (by simp;omega),b2,rfl,by omega,e6⟩
 rintro _ h3 ⟨k3,b,rfl,hb,e3⟩;have k03:Keep [] h h3:=k1.n k3;have i3:=i.keep0 k03;have z1:=k1.1;have z3:=k03.1;have e13:=k3.g e1;have n1':b1≠b:=by omega
 refine nck_go (ld_go (rc_f i3.e).2.2.1 ?_);refine jn_in (fun _ h'=>Keep [] h h'∧h'[b1]? = some (vobj t_api_Log LgK lg0)∧∃v',h'[b]? = some (vobj t_api_Log LgK (((C.all.length:Int),(R,(v',()))):LgK.Ty))∧EtR h' v' (lastE C)) ?_ ?_
 ·unfold lastE;by_cases h0:C.all.length=0
  ·rw[if_neg (show ¬decide ((es.len:Int)>0)=true from dn (by omega))];have hnil:C.all=[]:=List.length_eq_zero_iff.1 h0;refine ⟨k03,e13,et0,e3,?_⟩;rw[hnil];exact et0_R
  ·rw[if_pos (show decide ((es.len:Int)>0)=true from dT (by omega))];refine nck_go (ld_go (rc_f i3.e).2.2.1 (nck_go (ld_go (rc_f i3.e).2.2.1 ?_)));have hw:w64 ((es.len:Int)-1)=((C.all.length-1:Nat):Int):=w6 (by omega);rw[hw];have el:=i3.x.len;have hx:=i3.x.getI (i:=C.all.length-1) (by omega) (by omega)
   have hg:C.all.getLast? = some (C.all[C.all.length-1]'(by omega)):=by
    rw[List.getLast?_eq_getElem?,YAC (by omega)]
   rw[hg];refine seg_ix i3.a.seg (x:=evs[C.all.length-1]'(by omega)) (by omega) (by rw[YAP];exact YAC (by omega)) rfl ?_;generalize evs[C.all.length-1]'(by omega)=v at *;generalize C.all[C.all.length-1]'(by omega)=e at *;refine st_fld (k:=LgK) (k':=EtK) (n:=33) e3 (by decide) lg_w33 ?_;dsimp only;have e12:=get_set (o':=vobj t_api_Log LgK (((C.all.length:Int),(R,(v,()))):LgK.Ty)) e3;have k12:Keep [b] h3 (h3.setIfInBounds b (vobj t_api_Log LgK (((C.all.length:Int),(R,(v,()))):LgK.Ty))):=keep_set;generalize h3.setIfInBounds b (vobj t_api_Log LgK (((C.all.length:Int),(R,(v,()))):LgK.Ty))=h12 at e12 k12 ⊢;refine ⟨k03.new k12 (by simp;omega),k12.get e13 (by simpa using n1'),v,e12,hx.1.keepS k12 fun q hq T hT =>?_⟩;simp at hq;subst hq;exact cell_ne (o := .cells #[] 0 (0,0)) e3 (by rcases hT with rfl | rfl <;> decide)
 rintro _ h10 ⟨k10,e110,v',e10,r10⟩;refine ld_go (sm_all e10) ?_;refine st_to e110 fun h13 k13 e13' hs13=>ld_go (sm_all e13') ?_;refine hK _ h13 (k10.new k13 (by simp;omega)) ⟨rfl,hR.symm,r10.keepS k13 fun q hq T hT =>?_⟩;simp at hq;subst hq;exact cell_ne (o := .cells #[] 0 (0,0)) e110 (by rcases hT with rfl | rfl <;> decide)
end
theorem beq_refl {z:HVec}:Kd.beq (.ar 32 .u8) z z=true:=(beq_eq (k := .ar 32 .u8) rfl (x:=z) (y:=z)).2 rfl
theorem ZBA.t {v u:EtK.Ty} {e:Ett} {h:Heap} {K:Bool→Heap→Prop} (a:EtAt h v e) (b:EtAt h u e) (hv:e.vec.length≤9223372036854775807) (ht:e.tables.length≤9223372036854775807) (hK:∀h',Keep [] h h'→K true h'):ZBA.C v u h K:=by
 apply ZBA.c;unfold ZBA.m;refine new_gen fun b1 h1 hb1 k1 e1 hs1 =>?_;have e1:h1[b1]? = some (vobj t_api_Entry EtK v):=e1;refine new_gen fun b2 h2 hb2 k2 e2 hs2 =>?_;have e2:h2[b2]? = some (vobj t_api_Entry EtK u):=e2;have k02:=k1.n k2;obtain ⟨f0,f1,f2,f3,f35,f36⟩:=et_f (k2.g e1);obtain ⟨g0,g1,g2,g3,g35,g36⟩:=et_f e2;have a2:=a.keep k02;have b2':=b.keep k02;refine jn_at (true,()) h2 ?_ (hK h2 k02);refine ld_go f0 (ld_go g0 ?_);rw[a.u,b.u,ifd];refine ld_go f1 (ld_go g1 ?_);rw[a.q,b.q,ifd];refine ld_go f2 (ld_go g2 ?_);refine ZBT.s a2.w b2'.w hv ?_;rw[dT rfl,if_pos rfl];refine ld_go f3 (ld_go g3 ?_);rw[a.r,b.r,beq_refl,if_pos rfl];refine ld_go f35 (ld_go g35 ?_);refine ZBq.s a2.t b2'.t ht ?_;rw[dT rfl,if_pos rfl];refine ld_go f36 (ld_go g36 ?_);rw[a.s,b.s,dT rfl];exact ⟨rfl,rfl⟩
theorem lg_f {h:Heap} {b:Nat} {x:LgK.Ty} (e:h[b]? = some (vobj t_api_Log LgK x)):sm .i ((Pl.mk b 0).fld 0) x.1 h∧sm (.ar 32 .u8) ((Pl.mk b 0).fld 1) x.2.1 h∧sm EtK ((Pl.mk b 0).fld 33) x.2.2.1 h:=by
 have l1:((Kd.ar 32 .u8).cells x.2.1).length=32:=Kd.cells_length ..;have c1:(LgK.cells x).drop 1=(Kd.ar 32 .u8).cells x.2.1++(EtK.cells x.2.2.1++[]):=rfl;refine ⟨sm_fld (n:=0) (k' := .i) e rfl (by decide),sm_sub (sm_all e) (by decide) ?_,sm_sub (sm_all e) (by decide) ?_⟩
 ·rw[c1];exact List.take_left' l1
 ·have:(LgK.cells x).drop 33=((LgK.cells x).drop 1).drop 32:=by rw[List.drop_drop]
  rw[this,c1,List.drop_left' l1];exact List.take_left' (Kd.cells_length ..)
theorem ZCe.t {x y:LgK.Ty} {C:Cn} {h:Heap} {K:Bool→Heap→Prop} (a:LgR h x C) (b:LgR h y C) (hv:(lastE C).vec.length≤9223372036854775807) (ht:(lastE C).tables.length≤9223372036854775807) (hK:∀h',Keep [] h h'→K true h'):ZCe.C x y h K:=by
 apply ZCe.c;unfold ZCe.m;refine new_gen fun b1 h1 hb1 k1 e1 hs1 =>?_;have e1:h1[b1]? = some (vobj t_api_Log LgK x):=e1;refine new_gen fun b2 h2 hb2 k2 e2 hs2 =>?_;have e2:h2[b2]? = some (vobj t_api_Log LgK y):=e2;have k02:=k1.n k2;obtain ⟨f0,f1,f33⟩:=lg_f (k2.g e1);obtain ⟨g0,g1,g33⟩:=lg_f e2;obtain ⟨R,hR⟩:∃R,rootV (C.all.map putE)=R:=⟨_,rfl⟩;have ar:=a.r;have br:=b.r;rw[hR] at ar br;refine jn_in (fun y h'=>y=(true,())∧Keep [] h2 h') ?_ ?_
 ·refine ld_go f0 (ld_go g0 ?_);rw[a.n,b.n,ifd];refine ld_go f1 (ld_go g1 ?_);rw[ar,br,beq_refl,if_pos rfl];refine ld_go f33 (ld_go g33 ?_);refine ZBA.t (a.e.keep k02 (by simp)).at (b.e.keep k02 (by simp)).at hv ht fun h3 k3=>⟨rfl,k3⟩
 ·rintro _ h3 ⟨rfl,k3⟩;exact hK h3 (k02.n k3)
theorem last_len {C:Cn} (o:CnOk C):(lastE C).vec.length≤9223372036854775807∧(lastE C).tables.length≤9223372036854775807:=by
 unfold lastE
 cases hg:C.all.getLast? with
 | none=>exact ⟨by decide,by decide⟩
 | some e =>
   obtain ⟨h1,h2,h3⟩:=o.a e (List.mem_of_getLast? hg);obtain ⟨_,_,pv,pt⟩:=put_vec h1;simp only [Option.getD_some];exact ⟨by omega,by omega⟩
theorem ZBo.s {v:EtK.Ty} {e:Ett} {h:Heap} {K:EtK.Ty→Heap→Prop} (a:EtAt h v e) (hv:e.vec.length*8≤140737488355328) (ht:e.tables.length*32≤140737488355328)
 (hK:∀v' h',Keep [] h h'→EtR h' v' e→(∀b∈etO v',h.size≤b)→K v' h'):ZBo.C v h K:=by
 apply ZBo.c;unfold ZBo.m;refine new_gen fun b1 h1 hb1 k1 e1 hs1 =>?_;have e1:h1[b1]? = some (vobj t_api_Entry EtK v):=e1;refine new_gen fun b2 h2 hb2 k2 e2 hs2 =>?_;have e2:h2[b2]? = some (vobj t_api_Entry EtK et0):=e2;have k02:=k1.n k2;have z1:=k1.1;have z2:=k02.1;refine cut_entry k02 (by omega) (k2.g e1) a hv ht fun h8 v' k8 e8 r8 o8 =>?_;refine ld_go (sm_all e8) ?_;have e28:=k8.get e2 (by simp;omega);refine st_to e28 fun h9 k9 e9 hs9=>ld_go (sm_all e9) ?_;exact hK v' h9 ((k02.new k8 (by simp;omega)).new k9 (by simp;omega)) (r8.keepP e28 k9) fun q hq=>by have:=o8 q hq;omega
theorem rowS_st {h:Heap} {T i:Nat} {s:Slc} {l:By} {y:UInt8} {K:Heap→Prop} (r:RowS h T s l) (hi:i<l.length) (hK:∀h',Keep (own s) h h'→Seg .u8 s (l.set i y) h'→K h'):ix s (i:Int) 1 fun p=>Go.Al.st .u8 p y h K:=by
 rcases r with r | ⟨b,zs,e,e1,e2,e3⟩
 ·refine ix_st r (by omega) (by omega) rfl fun h' k r' =>?_;rw[YAP] at r';exact hK h' k r'.seg
 ·have lx:=u8c_len (l++zs);refine ⟨⟨b,0⟩,e,by omega,by omega,?_⟩;have hl:(l++zs).length=l.length+zs.length:=YAD;have ly:(Kd.u8.cells y).length=1:=rfl;rw[YAP,YAR];refine ⟨_,T,s.cap,s.cap+1,e3,?_,.inr (.inl ?_),?_⟩
  ·show 0+i+(Kd.u8.cells y).length≤_;rw[List.size_toArray,lx];omega
  ·show 0+i+(Kd.u8.cells y).length≤_;omega
  ·refine hK _ (by unfold own;rw[e];exact keep_set) (RowS.seg (T:=T) (.inr ⟨b,zs,e,by rw[YAG];exact e1,by rw[YAG];exact e2,?_⟩));have:=get_set (o' := .cells (wrCells ((l++zs).flatMap Kd.u8.cells).toArray (0+i) (Kd.u8.cells y)) T (s.cap,s.cap+1)) e3;rw[this,wrCells_L]
   congr 3
   obtain ⟨f,h1,h2⟩:=u8_map (l++zs)
   have hf:∀l:List UInt8,l.flatMap Kd.u8.cells=l.map f:=by
    intro l
    induction l with
    | nil=>rfl
    | cons a r ih=>rw[YAA,ih,h1 a];rfl
   rw[h2,hf,h1,←List.set_append_left _ _ hi];unfold wrL;rw[YAM,if_pos (by omega),Nat.zero_add];simp
structure EvAt (n:Nat) (h:Heap) (p c:Nat) (e:Ett):Prop where
 w:∃w,h[p]? = some (vobj t_api_Entry EtK w)∧EtR h w e∧∀q∈etO w,n≤q
 l:n≤p
 b:h[c]? = some (vobj t_api_Entry EtK et0)
 m:n≤c
 ne:c≠p
section
variable {n p b:Nat} {h h0:Heap} {e:Ett} {K:Heap→Prop}
def EvK (n p b:Nat) (h0:Heap) (e:Ett) (h:Heap):Prop:=Keep [] h0 h∧EvAt n h p b e
theorem EvAt.wr {w:EtK.Ty} {e':Ett} (k0:Keep [] h0 h) (hn:h0.size≤n) (fl:n≤p) (fb:h[b]? = some (vobj t_api_Entry EtK et0)) (fm:n≤b) (fne:b≠p) (ep:h[p]? = some (vobj t_api_Entry EtK w)) {x':EtK.Ty} (r:EtR h x' e') (ho:∀q∈etO x',n≤q):EvK n p b h0 e' (h.setIfInBounds p (vobj t_api_Entry EtK x')):=by
 have k:Keep [p] h (h.setIfInBounds p (vobj t_api_Entry EtK x')):=keep_set;exact ⟨k0.new k (by simp;omega),⟨⟨_,get_set ep,r.keepP ep k,ho⟩,fl,k.get fb (by simpa using fne),fm,fne⟩⟩
theorem ZAE.s {v:EtK.Ty} {e:Ett} {wrong by_:Int} {h:Heap} {K:EtK.Ty→Heap→Prop} (a:EtAt h v e) (hv:e.vec.length=2) (ht:e.tables.length=3) (hs:4≤e.sign.length∨wrong≤5) (hsl:e.sign.length≤100000)
 (hK:∀v' e' h',Keep [] h h'→EtR h' v' e'→e'.vec.length≤2→(wrong≤5→e'.vec.length=2∧e'.tables.length=3)→K v' h'):ZAE.C v wrong by_ h K:=by
 apply ZAE.c;unfold ZAE.m;refine new_gen fun b1 h1 hb1 k1 e1 hs1 =>?_;have e1:h1[b1]? = some (vobj t_api_Entry EtK v):=e1;refine new_gen fun b2 h2 hb2 k2 e2 hs2 =>?_;have e2:h2[b2]? = some (vobj t_api_Entry EtK et0):=e2;have k02:=k1.n k2;refine ld_go (sm_all (k2.g e1)) ?_;refine ZBo.s (a.keep k02) (by omega) (by omega) fun x h3 k3 r3 o3 =>?_;refine new_st_gen fun b3 h5 hb3 k5 e5 hs5 =>?_;have e5:h5[b3]? = some (vobj t_api_Entry EtK x):=e5;have k05:=(k02.n k3).n k5;have z02:=k02.1;have z3:=k3.1;have z1:=k1.1;have lb2:=lt_of_some e2;have f5:EvAt h.size h5 b3 b2 e:=⟨⟨x,e5,r3.keep k5 (by simp),fun q hq=>by have:=o3 q hq;omega⟩,by omega,(k3.n k5).g e2,by omega,by omega⟩;have r5:EtR h5 x e:=r3.keep k5 (by simp);have ox:∀q∈etO x,h.size≤q:=fun q hq=>by have:=o3 q hq;omega
 obtain ⟨d,hd⟩:∃d,w64 (1+andI by_ 3)=d:=⟨_,rfl⟩
 have hd4:1≤d∧d≤4:=by
  have hm:=andI_mask by_ (k:=2) (by decide);have e3:((2^2-1:Nat):Int)=3:=by decide
  have e4:((2^2:Nat):Int)=4:=by decide
  rw[e3,e4] at hm;rw[←hd,hm,w64_id (by omega) (by omega)];omega
 rw[hd];obtain ⟨g0,g1,g2,g3,g35,g36⟩:=et_f e5;have hx2:x.2.2.1.len=2:=by rw[r5.w.len,hv]
 refine jn_in (fun _ h'=>∃e',EvK h.size b3 b2 h e' h'∧e'.vec.length≤2∧(wrong≤5→e'.vec.length=2∧e'.tables.length=3)) ?_ ?_
 case refine_2=>
  rintro _ h6 ⟨e',⟨k6,⟨⟨w,ew,rw',ow⟩,_,eb,mb,ne⟩⟩,hv',hw'⟩;refine ld_go (sm_all ew) ?_;refine st_to eb fun h29 k29 e29 hs29=>ld_go (sm_all e29) ?_;exact hK w e' h29 (k6.new k29 (by simp;omega)) (rw'.keepP eb k29) hv' hw'
 have fin:∀ {e':Ett} {h':Heap},EvK h.size b3 b2 h e' h'→e'.vec.length≤2→(wrong≤5→e'.vec.length=2∧e'.tables.length=3)→∃e',EvK h.size b3 b2 h e' h'∧e'.vec.length≤2∧(wrong≤5→e'.vec.length=2∧e'.tables.length=3):=fun a b c=>⟨_,a,b,c⟩;refine jn_go ?_;by_cases w1:wrong=1
 ·rw[if_pos (dT w1)];refine ld_go g1 ?_;refine st_fld (k:=EtK) (x':=((x.1,(w64 (w64 (x.2.1+d)-2),x.2.2)):EtK.Ty)) (k' := .i) (n:=1) e5 (by decide) rfl ?_;exact fin (EvAt.wr (e':={ e with seq:=w64 (w64 (x.2.1+d)-2) }) k05 (YAQ _) f5.l f5.b f5.m f5.ne e5 ⟨r5.u,rfl,r5.w,r5.r,r5.t,r5.s⟩ ox) (by show e.vec.length≤2;omega) (fun _=>⟨hv,ht⟩)
 rw[if_neg (by simpa using w1)];refine jn_go ?_;by_cases w2:wrong=2
 ·rw[if_pos (dT w2)];refine ld_go g0 ?_;refine st_fld (k:=EtK) (x':=((xorI x.1 d,x.2):EtK.Ty)) (k' := .i) (n:=0) e5 (by decide) rfl ?_;exact fin (EvAt.wr (e':={ e with user:=xorI x.1 d }) k05 (YAQ _) f5.l f5.b f5.m f5.ne e5 ⟨rfl,r5.q,r5.w,r5.r,r5.t,r5.s⟩ ox) (by show e.vec.length≤2;omega) (fun _=>⟨hv,ht⟩)
 rw[if_neg (by simpa using w2)];refine jn_go ?_;by_cases w3:wrong=3
 ·rw[if_pos (dT w3)];obtain ⟨j,hj,hje⟩:=and_1U (x:=by_);refine ld_go g2 (ld_go g2 ?_);rw[hje];refine ix_ld r5.w (by omega) (x:=e.vec[j]'(by omega)) (by rw[YAP];exact YAC (by omega)) rfl ?_;refine ix_st r5.w (by omega) (by omega) rfl fun h' k' r' =>?_;rw[YAP] at r';have ep:=k'.get e5 (rowT r5.w e5 (by decide));refine fin (e':={ e with vec:=e.vec.set j (xorI (e.vec[j]'(by omega)) d) }) ⟨k05.new k' fun q hq=>ox q (by unfold etO;simp[hq]),⟨⟨x,ep,⟨r5.u,r5.q,r',r5.r,r5.t.keep k' (tagO r5.t r5.w (by decide)),r5.s⟩,ox⟩,f5.l,k'.get f5.b (rowT r5.w f5.b (by decide)),f5.m,f5.ne⟩⟩ ?_ (fun _=>⟨?_,ht⟩)
  ·show (e.vec.set j _).length≤2;rw[YAG];omega
  ·show (e.vec.set j _).length=2;rw[YAG];omega
 rw[if_neg (by simpa using w3)];refine jn_go ?_;by_cases w4:wrong=4
 ·rw[if_pos (dT w4)];obtain ⟨j,hj,hje⟩:=and_31U (x:=by_);rw[hje];refine ⟨by omega,by omega,?_⟩;rw[YAP,YAR];refine ld_go (sm_sub (k' := .u8) (n:=j) (y:=x.2.2.2.1[j]) g3 (show j+1≤32 by omega) (arr_rd hj)) ?_;refine ⟨by omega,by omega,?_⟩;rw[YAP,YAR];show Go.Al.st .u8 ⟨b3,0+3+j⟩ _ h5 _;rw[show 0+3+j=0+(3+j) by omega];refine st_fld (k:=EtK) (k' := .u8) (n:=3+j) e5 (show 3+j+1≤37 by omega) (et_w6 hj) ?_;exact fin (EvAt.wr (e':={ e with root:=x.2.2.2.1.setIfInBounds j (x.2.2.2.1[j]^^^(u8I d)) }) k05 (YAQ _) f5.l f5.b f5.m f5.ne e5 ⟨r5.u,r5.q,r5.w,rfl,r5.t,r5.s⟩ ox) (by show e.vec.length≤2;omega) (fun _=>⟨hv,ht⟩)
 rw[if_neg (by simpa using w4)];refine jn_go ?_;by_cases w5:wrong=5
 ·rw[if_pos (dT w5)];obtain ⟨j,hj,hje⟩:=u64_modU (x:=by_) (n:=3) (by decide) (by decide);have h3n:UInt64.ofNat 3=(3:UInt64):=rfl;rw[h3n] at hje;refine ld_go g35 ⟨by decide,ld_go g35 ⟨by decide,?_⟩⟩;rw[hje];refine row_ld_u8 (j:=5) r5.t.seg (by omega) (by decide) ?_;refine row_st_u8 (j:=5) r5.t (by omega) (by decide) fun h' k' r' =>?_;have ep:=k'.get e5 (rowT r5.t e5 (by decide));exact fin (e':={ e with tables:=e.tables.set j ((e.tables[j]'(by omega)).setIfInBounds 5 ((e.tables[j]'(by omega))[5]^^^(u8I d))) }) ⟨k05.new k' fun q hq=>ox q (by unfold etO;simp[hq]),⟨⟨x,ep,⟨r5.u,r5.q,r5.w.keep k' (tagO r5.w r5.t (by decide)),r5.r,r',r5.s⟩,ox⟩,f5.l,k'.get f5.b (rowT r5.t f5.b (by decide)),f5.m,f5.ne⟩⟩ (by show e.vec.length≤2;omega) (fun _=>⟨hv,by show (e.tables.set j _).length=3;rw[YAG];exact ht⟩)
 rw[if_neg (by simpa using w5)];refine jn_go ?_;by_cases w6:wrong=6
 ·rw[if_pos (dT w6)];have hs4:4≤e.sign.length:=by rcases hs with h | h <;> omega
  rw[r5.s] at g36;refine ld_go g36 (ld_go g36 ?_);have hw:w64 (((bx e.sign).size:Int)-d)=((e.sign.length-d.toNat:Nat):Int):=by rw[bx_size,w64_id (by omega) (by omega)];omega
  rw[hw];refine sls_by (lo:=0) (YAS _) (by omega) ?_;refine st_fld (k:=EtK) (k' := .s) (n:=36) e5 (by decide) et_w36 ?_;exact fin (EvAt.wr (e':={ e with sign:=(e.sign.take (e.sign.length-d.toNat)).drop 0 }) k05 (YAQ _) f5.l f5.b f5.m f5.ne e5 ⟨r5.u,r5.q,r5.w,r5.r,r5.t,rfl⟩ ox) (by show e.vec.length≤2;omega) (fun h=>by omega)
 rw[if_neg (by simpa using w6)];refine jn_go ?_;by_cases w7:wrong=7
 ·rw[if_pos (dT w7)];refine ld_go g2 ?_
  obtain ⟨y0,y1,hy⟩:∃y0 y1,e.vec=[y0]++[y1]:=by
   match e.vec,hv with
   | [y0,y1],_=>exact ⟨y0,y1,rfl⟩
  have rw7:=r5.w;rw[hy] at rw7;refine slx_row (k := .i) (xs:=[y0]) (x:=y1) rw7 fun s2 r2 ho =>?_;refine st_fld (k:=EtK) (k' := .sl) (n:=2) e5 (by decide) et_w2 ?_;refine fin (EvAt.wr (e':={ e with vec:=[y0] }) k05 (YAQ _) f5.l f5.b f5.m f5.ne e5 ⟨r5.u,r5.q,r2,r5.r,r5.t,r5.s⟩ fun q hq =>?_) (by show [y0].length≤2;simp) (fun h=>by omega);unfold etO at hq;dsimp only at hq;rw[ho] at hq;exact ox q hq
 rw[if_neg (by simpa using w7)];refine jn_go ?_;by_cases w8:wrong=8
 ·rw[if_pos (dT w8)];refine ld_go g35 ?_;refine bs_gen fun bq h22 hbq k22 r22 hs22 =>?_;refine slCells_seg r22.seg (by simp[Kd.size]) ?_;have rt:=r5.t.keep k22 (by simp);refine ap_row (T:=t_api_Hash) (k := .ar 32 .u8) (ys:=[Vector.replicate 32 (0:UInt8)]) rt rfl rfl (by rw[ht];show (3+1)*32≤_;decide) fun s4 h23 r23 k23 o23 =>?_;have e23:=k23.get (k22.g e5) (rowT rt (k22.g e5) (by decide));have b23:=k23.get (k22.g f5.b) (rowT rt (k22.g f5.b) (by decide));have w22:=r5.w.keep k22 (by simp);have w23:=w22.keep k23 (tagO w22 rt (by decide));have z5':=k05.1;have z22:=k22.1;have k0_23:Keep [] h h23:=(k05.n k22).new k23 fun q hq=>ox q (by unfold etO;simp[hq]);refine st_fld (k:=EtK) (k' := .sl) (n:=35) e23 (by decide) et_w35 ?_;refine fin (EvAt.wr (e':={ e with tables:=e.tables++[Vector.replicate 32 (0:UInt8)] }) k0_23 (YAQ _) f5.l b23 f5.m f5.ne e23 ⟨r5.u,r5.q,w23,r5.r,r23,r5.s⟩ fun q hq =>?_) (by show e.vec.length≤2;omega) (fun h=>by omega)
  ·unfold etO at hq;rcases List.mem_append.1 hq with hq | hq
   ·exact ox q (by unfold etO;simp[hq])
   ·rcases own_of o23 q hq with h' | h'
    ·exact ox q (by unfold etO;simp[h'])
    ·omega
 rw[if_neg (by simpa using w8)];refine jn_go ?_;by_cases w9:wrong=9
 ·rw[if_pos (dT w9)];have hs4:4≤e.sign.length:=by rcases hs with h | h <;> omega
  rw[r5.s] at g36;refine ld_go g36 ?_;refine s2b_rowS fun s5 h26 k26 r26 o26 =>?_;have sl:=r26.len
  have hne:u64I (s5.len:Int)≠0:=by
   rw[sl];intro h0;have h1:=u64_nat (n:=e.sign.length) (by omega);rw[h0] at h1;have:((0:UInt64)).toNat=0:=rfl;omega
  refine ⟨hne,hne,?_⟩
  obtain ⟨j,hj,hje⟩:∃j:Nat,j<e.sign.length∧w64 (((u64I by_)%(u64I (s5.len:Int))).toNat:Int)=j:=by
   have h1:=u64_nat (n:=e.sign.length) (by omega);rw[sl]
   have hlt:((u64I by_)%(u64I (e.sign.length:Int))).toNat<e.sign.length:=by
    rw[UInt64.toNat_mod,h1];exact Nat.mod_lt _ (by omega)
   exact ⟨_,hlt,by rw[w64_id (by omega) (by omega)]⟩
  rw[hje];refine seg_ixl r26.seg (x:=e.sign[j]) (by omega) (by rw[YAP];exact YAC hj) rfl fun l9 hl9=>ld_go hl9 ?_;refine rowS_st r26 hj fun h27 k27 g27 =>?_;refine b2s_segq g27 fun q' _ =>?_;have z5':=k05.1;have no26:b3∉own s5∧b2∉own s5:=by rw[o26];have:=lt_of_some e5;have:=lt_of_some f5.b;constructor <;> (simp;omega)
  have e27:=k27.get (k26.g e5) no26.1;have b27:=k27.get (k26.g f5.b) no26.2;have k5_27:Keep [] h5 h27:=k26.new k27 (by rw[o26];simp);refine st_fld (k:=EtK) (k' := .s) (n:=36) e27 (by decide) et_w36 ?_;exact fin (EvAt.wr (e':={ e with sign:=e.sign.set j (e.sign[j]^^^(u8I d)) }) (k05.n k5_27) (YAQ _) f5.l b27 f5.m f5.ne e27 ⟨r5.u,r5.q,(r5.keep k5_27 (by simp)).w,r5.r,(r5.keep k5_27 (by simp)).t,rfl⟩ ox) (by show e.vec.length≤2;omega) (fun h=>by omega)
 rw[if_neg (by simpa using w9)];exact fin ⟨k05,f5⟩ (by omega) (fun _=>⟨hv,ht⟩)
end
abbrev AcK:Kd := .ag (.pr .i (.pr .i (.pr .i (.pr .i .un))))
theorem ac_f {h:Heap} {b:Nat} {v:AcK.Ty} (e:h[b]? = some (vobj t_almonrylaw20_Act AcK v)):sm .i ((Pl.mk b 0).fld 0) v.1 h∧sm .i ((Pl.mk b 0).fld 1) v.2.1 h∧sm .i ((Pl.mk b 0).fld 2) v.2.2.1 h∧sm .i ((Pl.mk b 0).fld 3) v.2.2.2.1 h:=
 ⟨sm_fld (n:=0) (k' := .i) e rfl (by decide),sm_fld (n:=1) (k' := .i) e rfl (by decide),sm_fld (n:=2) (k' := .i) e rfl (by decide),sm_fld (n:=3) (k' := .i) e rfl (by decide)⟩
theorem ZAb.s {v:AcK.Ty} {h:Heap} {K:Int→Heap→Prop} (hK:∀w h',w≤5→Keep [] h h'→K w h'):ZAb.C v h K:=by
 apply ZAb.c;unfold ZAb.m;refine new_gen fun b1 h1 hb1 k1 e1 hs1 =>?_;have e1:h1[b1]? = some (vobj t_almonrylaw20_Act AcK v):=e1;obtain ⟨f0,f1,f2,f3⟩:=ac_f e1;refine jn_in (fun y h'=>h'=h1∧(y.1=false→v.2.2.1≤5)) ?_ ?_
 ·refine ld_go f3 ⟨by decide,?_⟩;split
  ·exact ⟨rfl,by simp⟩
  ·refine ld_go f2 ⟨rfl,fun h =>?_⟩;have:=of_decide_eq_false h;exact Int.not_lt.1 this
 ·rintro ⟨y,_⟩ h2 ⟨rfl,hy⟩;dsimp only at hy ⊢
  cases y with
  | true=>rw[if_pos rfl];exact hK 0 h2 (by decide) k1
  | false=>rw[if_neg (by simp)];exact ld_go f2 (hK _ h2 (hy rfl) k1)
theorem ZDC.s {v:AcK.Ty} {h:Heap} {K:Int→Heap→Prop} (hK:∀w h',Keep [] h h'→K w h'):ZDC.C v h K:=by
 apply ZDC.c;unfold ZDC.m;refine new_gen fun b1 h1 hb1 k1 e1 hs1 =>?_;have e1:h1[b1]? = some (vobj t_almonrylaw20_Act AcK v):=e1;refine ld_go (sm_all e1) ?_;refine ZAb.s fun w h2 _ k2 =>?_;have k02:=k1.n k2;split
 ·exact hK 0 h2 k02
 ·exact ld_go (ac_f (k2.g e1)).2.2.1 (hK _ h2 k02)
theorem acts_blk {vE:EtK.Ty} {va:AcK.Ty} {by_:Int} {kv:LkK.Ty} {l4:Pl} {bA bE:Nat} {h:Heap} {J:Pl→Pl→Int→Heap→Prop} {R:EtK.Ty→LkK.Ty→Int→Heap→Prop}
 (g4:sm LkK l4 kv h) (gb:sm .i ((Pl.mk bA 0).fld 3) by_ h) (ga:sm AcK (Pl.mk bA 0) va h) (ge:sm EtK (Pl.mk bE 0) vE h)
 (hE:∀h1 (K':Int→Heap→Prop),(∀w h',w≤5→Keep [] h1 h'→K' w h')→ZAb.C va h1 K')
 (hP:∀w h1 (K':EtK.Ty→Heap→Prop),w≤5→Keep [] h h1→(∀v' e' h',Keep [] h1 h'→EtR h' v' e'→e'.vec.length=2→e'.tables.length=3→K' v' h')→ZAE.C vE w by_ h1 K')
 (hS:∀v' e' h1 (K':EtK.Ty→LkK.Ty→Int→Heap→Prop),Keep [] h h1→EtR h1 v' e'→e'.vec.length=2→e'.tables.length=3→(∀v'' k'' c h',Keep [] h1 h'→R v'' k'' c h'→K' v'' k'' c h')→ZAB.C v' kv h1 K')
 (hR:∀v k c h1 h2 S,R v k c h1→Keep S h1 h2→(∀q∈S,∀T,T=t_int∨T=t_api_Hash→∀cc f,h1[q]? ≠ some (.cells cc T f))→R v k c h2)
 (hJ:∀p q v k c h',h'[p]? = some (vobj t_api_Entry EtK v)→h'[q]? = some (vobj t_api_HssKey LkK k)→R v k c h'→Keep [] h h'→h.size≤p→h.size≤q→J (Pl.mk p 0) (Pl.mk q 0) c h') :
 (ZAb.C va h fun x27 h27=>
 sm LkK l4 kv h27∧sm .i ((Pl.mk bA 0).fld 3) by_ h27∧sm EtK (Pl.mk bE 0) vE h27 ∧ 
 (ZAE.C vE x27 by_ h27 fun x28 h28=>
 sm LkK l4 kv h28 ∧ 
 (ZAB.C x28 kv h28 fun x29 x30 x31 h29=>
 (new 49 EtK (0,(0,(⟨none,0,0⟩,((Vector.replicate 32 0),(⟨none,0,0⟩,(⟨#[]⟩,())))))) h29 fun b5 h30=>
 new 56 LkK (0,(0,(⟨#[]⟩,(⟨#[]⟩,(0,()))))) h30 fun b6 h31=>
 Go.Al.st EtK (Pl.mk b5 0) x29 h31 fun h32=>
 Go.Al.st LkK (Pl.mk b6 0) x30 h32 fun h33=>
 J (Pl.mk b5 0) (Pl.mk b6 0) x31 h33) ∧
 new 56 LkK (0,(0,(⟨#[]⟩,(⟨#[]⟩,(0,()))))) h29 fun b7 h34=>
 new 49 EtK (0,(0,(⟨none,0,0⟩,((Vector.replicate 32 0),(⟨none,0,0⟩,(⟨#[]⟩,())))))) h34 fun b8 h35=>
 Go.Al.st EtK (Pl.mk b8 0) x29 h35 fun h36=>
 Go.Al.st LkK (Pl.mk b7 0) x30 h36 fun h37=>
 J (Pl.mk b8 0) (Pl.mk b7 0) x31 h37) ∧
 (new 49 EtK (0,(0,(⟨none,0,0⟩,((Vector.replicate 32 0),(⟨none,0,0⟩,(⟨#[]⟩,())))))) h28 fun b9 h38=>
 sm LkK l4 kv h38 ∧ 
 (ZAB.C x28 kv h38 fun x32 x33 x34 h39=>
 new 56 LkK (0,(0,(⟨#[]⟩,(⟨#[]⟩,(0,()))))) h39 fun b10 h40=>
 Go.Al.st EtK (Pl.mk b9 0) x32 h40 fun h41=>
 Go.Al.st LkK (Pl.mk b10 0) x33 h41 fun h42=>
 J (Pl.mk b9 0) (Pl.mk b10 0) x34 h42) ∧
 new 56 LkK (0,(0,(⟨#[]⟩,(⟨#[]⟩,(0,()))))) h38 fun b11 h43=>
 sm LkK l4 kv h43 ∧ 
 ZAB.C x28 kv h43 fun x35 x36 x37 h44=>
 Go.Al.st EtK (Pl.mk b9 0) x35 h44 fun h45=>
 Go.Al.st LkK (Pl.mk b11 0) x36 h45 fun h46=>
 J (Pl.mk b9 0) (Pl.mk b11 0) x37 h46) ∧
 new 56 LkK (0,(0,(⟨#[]⟩,(⟨#[]⟩,(0,()))))) h28 fun b12 h47=>
 sm LkK l4 kv h47 ∧ 
 (ZAB.C x28 kv h47 fun x38 x39 x40 h48=>
 new 49 EtK (0,(0,(⟨none,0,0⟩,((Vector.replicate 32 0),(⟨none,0,0⟩,(⟨#[]⟩,())))))) h48 fun b13 h49=>
 Go.Al.st EtK (Pl.mk b13 0) x38 h49 fun h50=>
 Go.Al.st LkK (Pl.mk b12 0) x39 h50 fun h51=>
 J (Pl.mk b13 0) (Pl.mk b12 0) x40 h51) ∧
 new 49 EtK (0,(0,(⟨none,0,0⟩,((Vector.replicate 32 0),(⟨none,0,0⟩,(⟨#[]⟩,())))))) h47 fun b14 h52=>
 sm LkK l4 kv h52 ∧ 
 ZAB.C x28 kv h52 fun x41 x42 x43 h53=>
 Go.Al.st EtK (Pl.mk b14 0) x41 h53 fun h54=>
 Go.Al.st LkK (Pl.mk b12 0) x42 h54 fun h55=>
 J (Pl.mk b14 0) (Pl.mk b12 0) x43 h55) ∧
 (new 49 EtK (0,(0,(⟨none,0,0⟩,((Vector.replicate 32 0),(⟨none,0,0⟩,(⟨#[]⟩,())))))) h27 fun b15 h56=>
 sm LkK l4 kv h56∧sm .i ((Pl.mk bA 0).fld 3) by_ h56∧sm EtK (Pl.mk bE 0) vE h56 ∧ 
 (ZAE.C vE x27 by_ h56 fun x44 h57=>
 sm LkK l4 kv h57 ∧ 
 (ZAB.C x44 kv h57 fun x45 x46 x47 h58=>
 new 56 LkK (0,(0,(⟨#[]⟩,(⟨#[]⟩,(0,()))))) h58 fun b16 h59=>
 Go.Al.st EtK (Pl.mk b15 0) x45 h59 fun h60=>
 Go.Al.st LkK (Pl.mk b16 0) x46 h60 fun h61=>
 J (Pl.mk b15 0) (Pl.mk b16 0) x47 h61) ∧
 new 56 LkK (0,(0,(⟨#[]⟩,(⟨#[]⟩,(0,()))))) h57 fun b17 h62=>
 sm LkK l4 kv h62 ∧ 
 ZAB.C x44 kv h62 fun x48 x49 x50 h63=>
 Go.Al.st EtK (Pl.mk b15 0) x48 h63 fun h64=>
 Go.Al.st LkK (Pl.mk b17 0) x49 h64 fun h65=>
 J (Pl.mk b15 0) (Pl.mk b17 0) x50 h65) ∧
 new 56 LkK (0,(0,(⟨#[]⟩,(⟨#[]⟩,(0,()))))) h56 fun b18 h66=>
 sm LkK l4 kv h66∧sm .i ((Pl.mk bA 0).fld 3) by_ h66∧sm EtK (Pl.mk bE 0) vE h66 ∧ 
 ZAE.C vE x27 by_ h66 fun x51 h67=>
 sm LkK l4 kv h67 ∧ 
 ZAB.C x51 kv h67 fun x52 x53 x54 h68=>
 Go.Al.st EtK (Pl.mk b15 0) x52 h68 fun h69=>
 Go.Al.st LkK (Pl.mk b18 0) x53 h69 fun h70=>
 J (Pl.mk b15 0) (Pl.mk b18 0) x54 h70) ∧
 new 56 LkK (0,(0,(⟨#[]⟩,(⟨#[]⟩,(0,()))))) h27 fun b19 h71=>
 sm LkK l4 kv h71∧sm .i ((Pl.mk bA 0).fld 3) by_ h71∧sm EtK (Pl.mk bE 0) vE h71 ∧ 
 (ZAE.C vE x27 by_ h71 fun x55 h72=>
 sm LkK l4 kv h72 ∧ 
 (ZAB.C x55 kv h72 fun x56 x57 x58 h73=>
 new 49 EtK (0,(0,(⟨none,0,0⟩,((Vector.replicate 32 0),(⟨none,0,0⟩,(⟨#[]⟩,())))))) h73 fun b20 h74=>
 Go.Al.st EtK (Pl.mk b20 0) x56 h74 fun h75=>
 Go.Al.st LkK (Pl.mk b19 0) x57 h75 fun h76=>
 J (Pl.mk b20 0) (Pl.mk b19 0) x58 h76) ∧
 new 49 EtK (0,(0,(⟨none,0,0⟩,((Vector.replicate 32 0),(⟨none,0,0⟩,(⟨#[]⟩,())))))) h72 fun b21 h77=>
 sm LkK l4 kv h77 ∧ 
 ZAB.C x55 kv h77 fun x59 x60 x61 h78=>
 Go.Al.st EtK (Pl.mk b21 0) x59 h78 fun h79=>
 Go.Al.st LkK (Pl.mk b19 0) x60 h79 fun h80=>
 J (Pl.mk b21 0) (Pl.mk b19 0) x61 h80) ∧
 new 49 EtK (0,(0,(⟨none,0,0⟩,((Vector.replicate 32 0),(⟨none,0,0⟩,(⟨#[]⟩,())))))) h71 fun b22 h81=>
 sm LkK l4 kv h81∧sm .i ((Pl.mk bA 0).fld 3) by_ h81∧sm EtK (Pl.mk bE 0) vE h81 ∧ 
 ZAE.C vE x27 by_ h81 fun x62 h82=>
 sm LkK l4 kv h82 ∧ 
 ZAB.C x62 kv h82 fun x63 x64 x65 h83=>
 Go.Al.st EtK (Pl.mk b22 0) x63 h83 fun h84=>
 Go.Al.st LkK (Pl.mk b19 0) x64 h84 fun h85=>
 J (Pl.mk b22 0) (Pl.mk b19 0) x65 h85) ∧
 (new 49 EtK (0,(0,(⟨none,0,0⟩,((Vector.replicate 32 0),(⟨none,0,0⟩,(⟨#[]⟩,())))))) h fun b23 h86=>
 sm LkK l4 kv h86∧sm .i ((Pl.mk bA 0).fld 3) by_ h86∧sm AcK (Pl.mk bA 0) va h86∧sm EtK (Pl.mk bE 0) vE h86 ∧ 
 (ZAb.C va h86 fun x66 h87=>
 sm LkK l4 kv h87∧sm .i ((Pl.mk bA 0).fld 3) by_ h87∧sm EtK (Pl.mk bE 0) vE h87 ∧ 
 (ZAE.C vE x66 by_ h87 fun x67 h88=>
 sm LkK l4 kv h88 ∧ 
 (ZAB.C x67 kv h88 fun x68 x69 x70 h89=>
 new 56 LkK (0,(0,(⟨#[]⟩,(⟨#[]⟩,(0,()))))) h89 fun b24 h90=>
 Go.Al.st EtK (Pl.mk b23 0) x68 h90 fun h91=>
 Go.Al.st LkK (Pl.mk b24 0) x69 h91 fun h92=>
 J (Pl.mk b23 0) (Pl.mk b24 0) x70 h92) ∧
 new 56 LkK (0,(0,(⟨#[]⟩,(⟨#[]⟩,(0,()))))) h88 fun b25 h93=>
 sm LkK l4 kv h93 ∧ 
 ZAB.C x67 kv h93 fun x71 x72 x73 h94=>
 Go.Al.st EtK (Pl.mk b23 0) x71 h94 fun h95=>
 Go.Al.st LkK (Pl.mk b25 0) x72 h95 fun h96=>
 J (Pl.mk b23 0) (Pl.mk b25 0) x73 h96) ∧
 new 56 LkK (0,(0,(⟨#[]⟩,(⟨#[]⟩,(0,()))))) h87 fun b26 h97=>
 sm LkK l4 kv h97∧sm .i ((Pl.mk bA 0).fld 3) by_ h97∧sm EtK (Pl.mk bE 0) vE h97 ∧ 
 ZAE.C vE x66 by_ h97 fun x74 h98=>
 sm LkK l4 kv h98 ∧ 
 ZAB.C x74 kv h98 fun x75 x76 x77 h99=>
 Go.Al.st EtK (Pl.mk b23 0) x75 h99 fun h100=>
 Go.Al.st LkK (Pl.mk b26 0) x76 h100 fun h101=>
 J (Pl.mk b23 0) (Pl.mk b26 0) x77 h101) ∧
 new 56 LkK (0,(0,(⟨#[]⟩,(⟨#[]⟩,(0,()))))) h86 fun b27 h102=>
 sm LkK l4 kv h102∧sm .i ((Pl.mk bA 0).fld 3) by_ h102∧sm AcK (Pl.mk bA 0) va h102∧sm EtK (Pl.mk bE 0) vE h102 ∧ 
 ZAb.C va h102 fun x78 h103=>
 sm LkK l4 kv h103∧sm .i ((Pl.mk bA 0).fld 3) by_ h103∧sm EtK (Pl.mk bE 0) vE h103 ∧ 
 ZAE.C vE x78 by_ h103 fun x79 h104=>
 sm LkK l4 kv h104 ∧ 
 ZAB.C x79 kv h104 fun x80 x81 x82 h105=>
 Go.Al.st EtK (Pl.mk b23 0) x80 h105 fun h106=>
 Go.Al.st LkK (Pl.mk b27 0) x81 h106 fun h107=>
 J (Pl.mk b23 0) (Pl.mk b27 0) x82 h107) ∧
 new 56 LkK (0,(0,(⟨#[]⟩,(⟨#[]⟩,(0,()))))) h fun b28 h108=>
 sm LkK l4 kv h108∧sm .i ((Pl.mk bA 0).fld 3) by_ h108∧sm AcK (Pl.mk bA 0) va h108∧sm EtK (Pl.mk bE 0) vE h108 ∧ 
 (ZAb.C va h108 fun x83 h109=>
 sm LkK l4 kv h109∧sm .i ((Pl.mk bA 0).fld 3) by_ h109∧sm EtK (Pl.mk bE 0) vE h109 ∧ 
 (ZAE.C vE x83 by_ h109 fun x84 h110=>
 sm LkK l4 kv h110 ∧ 
 (ZAB.C x84 kv h110 fun x85 x86 x87 h111=>
 new 49 EtK (0,(0,(⟨none,0,0⟩,((Vector.replicate 32 0),(⟨none,0,0⟩,(⟨#[]⟩,())))))) h111 fun b29 h112=>
 Go.Al.st EtK (Pl.mk b29 0) x85 h112 fun h113=>
 Go.Al.st LkK (Pl.mk b28 0) x86 h113 fun h114=>
 J (Pl.mk b29 0) (Pl.mk b28 0) x87 h114) ∧
 new 49 EtK (0,(0,(⟨none,0,0⟩,((Vector.replicate 32 0),(⟨none,0,0⟩,(⟨#[]⟩,())))))) h110 fun b30 h115=>
 sm LkK l4 kv h115 ∧ 
 ZAB.C x84 kv h115 fun x88 x89 x90 h116=>
 Go.Al.st EtK (Pl.mk b30 0) x88 h116 fun h117=>
 Go.Al.st LkK (Pl.mk b28 0) x89 h117 fun h118=>
 J (Pl.mk b30 0) (Pl.mk b28 0) x90 h118) ∧
 new 49 EtK (0,(0,(⟨none,0,0⟩,((Vector.replicate 32 0),(⟨none,0,0⟩,(⟨#[]⟩,())))))) h109 fun b31 h119=>
 sm LkK l4 kv h119∧sm .i ((Pl.mk bA 0).fld 3) by_ h119∧sm EtK (Pl.mk bE 0) vE h119 ∧ 
 ZAE.C vE x83 by_ h119 fun x91 h120=>
 sm LkK l4 kv h120 ∧ 
 ZAB.C x91 kv h120 fun x92 x93 x94 h121=>
 Go.Al.st EtK (Pl.mk b31 0) x92 h121 fun h122=>
 Go.Al.st LkK (Pl.mk b28 0) x93 h122 fun h123=>
 J (Pl.mk b31 0) (Pl.mk b28 0) x94 h123) ∧
 new 49 EtK (0,(0,(⟨none,0,0⟩,((Vector.replicate 32 0),(⟨none,0,0⟩,(⟨#[]⟩,())))))) h108 fun b32 h124=>
 sm LkK l4 kv h124∧sm .i ((Pl.mk bA 0).fld 3) by_ h124∧sm AcK (Pl.mk bA 0) va h124∧sm EtK (Pl.mk bE 0) vE h124 ∧ 
 ZAb.C va h124 fun x95 h125=>
 sm LkK l4 kv h125∧sm .i ((Pl.mk bA 0).fld 3) by_ h125∧sm EtK (Pl.mk bE 0) vE h125 ∧ 
 ZAE.C vE x95 by_ h125 fun x96 h126=>
 sm LkK l4 kv h126 ∧ 
 ZAB.C x96 kv h126 fun x97 x98 x99 h127=>
 Go.Al.st EtK (Pl.mk b32 0) x97 h127 fun h128=>
 Go.Al.st LkK (Pl.mk b28 0) x98 h128 fun h129=>
 J (Pl.mk b32 0) (Pl.mk b28 0) x99 h129:=by
 have fin:∀ {h1:Heap} {p q:Nat} {x v:EtK.Ty} {y k:LkK.Ty} {c:Int},Keep [] h h1→h1[p]? = some (vobj t_api_Entry EtK x)→h1[q]? = some (vobj t_api_HssKey LkK y)→p≠q→h.size≤p→h.size≤q→R v k c h1 →
  Go.Al.st EtK (Pl.mk p 0) v h1 fun h2=>Go.Al.st LkK (Pl.mk q 0) k h2 fun h3=>J (Pl.mk p 0) (Pl.mk q 0) c h3:=by
  intro h1 p q x v y k c kk ep eq ne lp lq rr;refine st_to ep fun h2 k2 e2 hs2 =>?_
  have rr2:=hR _ _ _ _ _ _ rr k2 fun q' hq' T hT=>by
   simp at hq';subst hq';exact cell_ne (o := .cells #[] 0 (0,0)) ep (by rcases hT with rfl | rfl <;> decide)
  have eq2:=k2.get eq (by simp;omega);refine st_to eq2 fun h3 k3 e3 hs3 =>?_
  have rr3:=hR _ _ _ _ _ _ rr2 k3 fun q' hq' T hT=>by
   simp at hq';subst hq';exact cell_ne (o := .cells #[] 0 (0,0)) eq2 (by rcases hT with rfl | rfl <;> decide)
  exact hJ p q v k c h3 (k3.get e2 (by simp;omega)) e3 rr3 ((kk.new k2 (by simp;omega)).new k3 (by simp;omega)) lp lq
 have kh:Keep [] h h:=Keep.rfl;refine ⟨?_,?_⟩
 ·skip
  refine hE h _ fun x27 h27 hw jh27 =>?_;have zh27:=jh27.1;have kh27:Keep [] h h27:=kh.n jh27;refine ⟨sm_keep (by decide) g4 kh27,sm_keep (by decide) gb kh27,sm_keep (by decide) ge kh27,?_⟩;refine ⟨?_,?_⟩
  ·skip
   refine hP _ h27 _ hw kh27 fun x28 ent h28 jh28 er hv ht =>?_;have zh28:=jh28.1;have kh28:Keep [] h h28:=kh27.n jh28;refine ⟨sm_keep (by decide) g4 kh28,?_⟩;refine ⟨?_,?_⟩
   ·skip
    refine hS _ _ h28 _ kh28 er hv ht fun x29 x30 x31 h29 jh29 rr =>?_;have zh29:=jh29.1;have kh29:Keep [] h h29:=kh28.n jh29;refine ⟨?_,?_⟩
    ·skip
     refine new_gen fun b5 h30 qb5 jh30 eb5 sb5 =>?_;have zh30:=jh30.1;have kh30:Keep [] h h30:=kh29.n jh30;have rr:=hR _ _ _ _ _ _ rr jh30 (by simp);refine new_gen fun b6 h31 qb6 jh31 eb6 sb6 =>?_;have zh31:=jh31.1;have kh31:Keep [] h h31:=kh30.n jh31;have eb5:=jh31.g eb5;have rr:=hR _ _ _ _ _ _ rr jh31 (by simp);exact fin kh31 eb5 eb6 (by omega) (by omega) (by omega) rr
    ·skip
     refine new_gen fun b7 h34 qb7 jh34 eb7 sb7 =>?_;have zh34:=jh34.1;have kh34:Keep [] h h34:=kh29.n jh34;have rr:=hR _ _ _ _ _ _ rr jh34 (by simp);refine new_gen fun b8 h35 qb8 jh35 eb8 sb8 =>?_;have zh35:=jh35.1;have kh35:Keep [] h h35:=kh34.n jh35;have eb7:=jh35.g eb7;have rr:=hR _ _ _ _ _ _ rr jh35 (by simp);exact fin kh35 eb8 eb7 (by omega) (by omega) (by omega) rr
   ·skip
    refine ⟨?_,?_⟩
    ·skip
     refine new_gen fun b9 h38 qb9 jh38 eb9 sb9 =>?_;have zh38:=jh38.1;have kh38:Keep [] h h38:=kh28.n jh38;have er:=er.keep jh38 (by simp);refine ⟨sm_keep (by decide) g4 kh38,?_⟩;refine ⟨?_,?_⟩
     ·skip
      refine hS _ _ h38 _ kh38 er hv ht fun x32 x33 x34 h39 jh39 rr =>?_;have zh39:=jh39.1;have kh39:Keep [] h h39:=kh38.n jh39;have eb9:=jh39.g eb9;refine new_gen fun b10 h40 qb10 jh40 eb10 sb10 =>?_;have zh40:=jh40.1;have kh40:Keep [] h h40:=kh39.n jh40;have eb9:=jh40.g eb9;have rr:=hR _ _ _ _ _ _ rr jh40 (by simp);exact fin kh40 eb9 eb10 (by omega) (by omega) (by omega) rr
     ·skip
      refine new_gen fun b11 h43 qb11 jh43 eb11 sb11 =>?_;have zh43:=jh43.1;have kh43:Keep [] h h43:=kh38.n jh43;have eb9:=jh43.g eb9;have er:=er.keep jh43 (by simp);refine ⟨sm_keep (by decide) g4 kh43,?_⟩;refine hS _ _ h43 _ kh43 er hv ht fun x35 x36 x37 h44 jh44 rr =>?_;have zh44:=jh44.1;have kh44:Keep [] h h44:=kh43.n jh44;have eb9:=jh44.g eb9;have eb11:=jh44.g eb11;exact fin kh44 eb9 eb11 (by omega) (by omega) (by omega) rr
    ·skip
     refine new_gen fun b12 h47 qb12 jh47 eb12 sb12 =>?_;have zh47:=jh47.1;have kh47:Keep [] h h47:=kh28.n jh47;have er:=er.keep jh47 (by simp);refine ⟨sm_keep (by decide) g4 kh47,?_⟩;refine ⟨?_,?_⟩
     ·skip
      refine hS _ _ h47 _ kh47 er hv ht fun x38 x39 x40 h48 jh48 rr =>?_;have zh48:=jh48.1;have kh48:Keep [] h h48:=kh47.n jh48;have eb12:=jh48.g eb12;refine new_gen fun b13 h49 qb13 jh49 eb13 sb13 =>?_;have zh49:=jh49.1;have kh49:Keep [] h h49:=kh48.n jh49;have eb12:=jh49.g eb12;have rr:=hR _ _ _ _ _ _ rr jh49 (by simp);exact fin kh49 eb13 eb12 (by omega) (by omega) (by omega) rr
     ·skip
      refine new_gen fun b14 h52 qb14 jh52 eb14 sb14 =>?_;have zh52:=jh52.1;have kh52:Keep [] h h52:=kh47.n jh52;have eb12:=jh52.g eb12;have er:=er.keep jh52 (by simp);refine ⟨sm_keep (by decide) g4 kh52,?_⟩;refine hS _ _ h52 _ kh52 er hv ht fun x41 x42 x43 h53 jh53 rr =>?_;have zh53:=jh53.1;have kh53:Keep [] h h53:=kh52.n jh53;have eb12:=jh53.g eb12;have eb14:=jh53.g eb14;exact fin kh53 eb14 eb12 (by omega) (by omega) (by omega) rr
  ·skip
   refine ⟨?_,?_⟩
   ·skip
    refine new_gen fun b15 h56 qb15 jh56 eb15 sb15 =>?_;have zh56:=jh56.1;have kh56:Keep [] h h56:=kh27.n jh56;refine ⟨sm_keep (by decide) g4 kh56,sm_keep (by decide) gb kh56,sm_keep (by decide) ge kh56,?_⟩;refine ⟨?_,?_⟩
    ·skip
     refine hP _ h56 _ hw kh56 fun x44 ent h57 jh57 er hv ht =>?_;have zh57:=jh57.1;have kh57:Keep [] h h57:=kh56.n jh57;have eb15:=jh57.g eb15;refine ⟨sm_keep (by decide) g4 kh57,?_⟩;refine ⟨?_,?_⟩
     ·skip
      refine hS _ _ h57 _ kh57 er hv ht fun x45 x46 x47 h58 jh58 rr =>?_;have zh58:=jh58.1;have kh58:Keep [] h h58:=kh57.n jh58;have eb15:=jh58.g eb15;refine new_gen fun b16 h59 qb16 jh59 eb16 sb16 =>?_;have zh59:=jh59.1;have kh59:Keep [] h h59:=kh58.n jh59;have eb15:=jh59.g eb15;have rr:=hR _ _ _ _ _ _ rr jh59 (by simp);exact fin kh59 eb15 eb16 (by omega) (by omega) (by omega) rr
     ·skip
      refine new_gen fun b17 h62 qb17 jh62 eb17 sb17 =>?_;have zh62:=jh62.1;have kh62:Keep [] h h62:=kh57.n jh62;have eb15:=jh62.g eb15;have er:=er.keep jh62 (by simp);refine ⟨sm_keep (by decide) g4 kh62,?_⟩;refine hS _ _ h62 _ kh62 er hv ht fun x48 x49 x50 h63 jh63 rr =>?_;have zh63:=jh63.1;have kh63:Keep [] h h63:=kh62.n jh63;have eb15:=jh63.g eb15;have eb17:=jh63.g eb17;exact fin kh63 eb15 eb17 (by omega) (by omega) (by omega) rr
    ·skip
     refine new_gen fun b18 h66 qb18 jh66 eb18 sb18 =>?_;have zh66:=jh66.1;have kh66:Keep [] h h66:=kh56.n jh66;have eb15:=jh66.g eb15;refine ⟨sm_keep (by decide) g4 kh66,sm_keep (by decide) gb kh66,sm_keep (by decide) ge kh66,?_⟩;refine hP _ h66 _ hw kh66 fun x51 ent h67 jh67 er hv ht =>?_;have zh67:=jh67.1;have kh67:Keep [] h h67:=kh66.n jh67;have eb15:=jh67.g eb15;have eb18:=jh67.g eb18;refine ⟨sm_keep (by decide) g4 kh67,?_⟩;refine hS _ _ h67 _ kh67 er hv ht fun x52 x53 x54 h68 jh68 rr =>?_;have zh68:=jh68.1;have kh68:Keep [] h h68:=kh67.n jh68;have eb15:=jh68.g eb15;have eb18:=jh68.g eb18;exact fin kh68 eb15 eb18 (by omega) (by omega) (by omega) rr
   ·skip
    refine new_gen fun b19 h71 qb19 jh71 eb19 sb19 =>?_;have zh71:=jh71.1;have kh71:Keep [] h h71:=kh27.n jh71;refine ⟨sm_keep (by decide) g4 kh71,sm_keep (by decide) gb kh71,sm_keep (by decide) ge kh71,?_⟩;refine ⟨?_,?_⟩
    ·skip
     refine hP _ h71 _ hw kh71 fun x55 ent h72 jh72 er hv ht =>?_;have zh72:=jh72.1;have kh72:Keep [] h h72:=kh71.n jh72;have eb19:=jh72.g eb19;refine ⟨sm_keep (by decide) g4 kh72,?_⟩;refine ⟨?_,?_⟩
     ·skip
      refine hS _ _ h72 _ kh72 er hv ht fun x56 x57 x58 h73 jh73 rr =>?_;have zh73:=jh73.1;have kh73:Keep [] h h73:=kh72.n jh73;have eb19:=jh73.g eb19;refine new_gen fun b20 h74 qb20 jh74 eb20 sb20 =>?_;have zh74:=jh74.1;have kh74:Keep [] h h74:=kh73.n jh74;have eb19:=jh74.g eb19;have rr:=hR _ _ _ _ _ _ rr jh74 (by simp);exact fin kh74 eb20 eb19 (by omega) (by omega) (by omega) rr
     ·skip
      refine new_gen fun b21 h77 qb21 jh77 eb21 sb21 =>?_;have zh77:=jh77.1;have kh77:Keep [] h h77:=kh72.n jh77;have eb19:=jh77.g eb19;have er:=er.keep jh77 (by simp);refine ⟨sm_keep (by decide) g4 kh77,?_⟩;refine hS _ _ h77 _ kh77 er hv ht fun x59 x60 x61 h78 jh78 rr =>?_;have zh78:=jh78.1;have kh78:Keep [] h h78:=kh77.n jh78;have eb19:=jh78.g eb19;have eb21:=jh78.g eb21;exact fin kh78 eb21 eb19 (by omega) (by omega) (by omega) rr
    ·skip
     refine new_gen fun b22 h81 qb22 jh81 eb22 sb22 =>?_;have zh81:=jh81.1;have kh81:Keep [] h h81:=kh71.n jh81;have eb19:=jh81.g eb19;refine ⟨sm_keep (by decide) g4 kh81,sm_keep (by decide) gb kh81,sm_keep (by decide) ge kh81,?_⟩;refine hP _ h81 _ hw kh81 fun x62 ent h82 jh82 er hv ht =>?_;have zh82:=jh82.1;have kh82:Keep [] h h82:=kh81.n jh82;have eb19:=jh82.g eb19;have eb22:=jh82.g eb22;refine ⟨sm_keep (by decide) g4 kh82,?_⟩;refine hS _ _ h82 _ kh82 er hv ht fun x63 x64 x65 h83 jh83 rr =>?_;have zh83:=jh83.1;have kh83:Keep [] h h83:=kh82.n jh83;have eb19:=jh83.g eb19;have eb22:=jh83.g eb22;exact fin kh83 eb22 eb19 (by omega) (by omega) (by omega) rr
 ·skip
  refine ⟨?_,?_⟩
  ·skip
   refine new_gen fun b23 h86 qb23 jh86 eb23 sb23 =>?_;have zh86:=jh86.1;have kh86:Keep [] h h86:=kh.n jh86;refine ⟨sm_keep (by decide) g4 kh86,sm_keep (by decide) gb kh86,sm_keep (by decide) ga kh86,sm_keep (by decide) ge kh86,?_⟩;refine ⟨?_,?_⟩
   ·skip
    refine hE h86 _ fun x66 h87 hw jh87 =>?_;have zh87:=jh87.1;have kh87:Keep [] h h87:=kh86.n jh87;have eb23:=jh87.g eb23;refine ⟨sm_keep (by decide) g4 kh87,sm_keep (by decide) gb kh87,sm_keep (by decide) ge kh87,?_⟩;refine ⟨?_,?_⟩
    ·skip
     refine hP _ h87 _ hw kh87 fun x67 ent h88 jh88 er hv ht =>?_;have zh88:=jh88.1;have kh88:Keep [] h h88:=kh87.n jh88;have eb23:=jh88.g eb23;refine ⟨sm_keep (by decide) g4 kh88,?_⟩;refine ⟨?_,?_⟩
     ·skip
      refine hS _ _ h88 _ kh88 er hv ht fun x68 x69 x70 h89 jh89 rr =>?_;have zh89:=jh89.1;have kh89:Keep [] h h89:=kh88.n jh89;have eb23:=jh89.g eb23;refine new_gen fun b24 h90 qb24 jh90 eb24 sb24 =>?_;have zh90:=jh90.1;have kh90:Keep [] h h90:=kh89.n jh90;have eb23:=jh90.g eb23;have rr:=hR _ _ _ _ _ _ rr jh90 (by simp);exact fin kh90 eb23 eb24 (by omega) (by omega) (by omega) rr
     ·skip
      refine new_gen fun b25 h93 qb25 jh93 eb25 sb25 =>?_;have zh93:=jh93.1;have kh93:Keep [] h h93:=kh88.n jh93;have eb23:=jh93.g eb23;have er:=er.keep jh93 (by simp);refine ⟨sm_keep (by decide) g4 kh93,?_⟩;refine hS _ _ h93 _ kh93 er hv ht fun x71 x72 x73 h94 jh94 rr =>?_;have zh94:=jh94.1;have kh94:Keep [] h h94:=kh93.n jh94;have eb23:=jh94.g eb23;have eb25:=jh94.g eb25;exact fin kh94 eb23 eb25 (by omega) (by omega) (by omega) rr
    ·skip
     refine new_gen fun b26 h97 qb26 jh97 eb26 sb26 =>?_;have zh97:=jh97.1;have kh97:Keep [] h h97:=kh87.n jh97;have eb23:=jh97.g eb23;refine ⟨sm_keep (by decide) g4 kh97,sm_keep (by decide) gb kh97,sm_keep (by decide) ge kh97,?_⟩;refine hP _ h97 _ hw kh97 fun x74 ent h98 jh98 er hv ht =>?_;have zh98:=jh98.1;have kh98:Keep [] h h98:=kh97.n jh98;have eb23:=jh98.g eb23;have eb26:=jh98.g eb26;refine ⟨sm_keep (by decide) g4 kh98,?_⟩;refine hS _ _ h98 _ kh98 er hv ht fun x75 x76 x77 h99 jh99 rr =>?_;have zh99:=jh99.1;have kh99:Keep [] h h99:=kh98.n jh99;have eb23:=jh99.g eb23;have eb26:=jh99.g eb26;exact fin kh99 eb23 eb26 (by omega) (by omega) (by omega) rr
   ·skip
    refine new_gen fun b27 h102 qb27 jh102 eb27 sb27 =>?_;have zh102:=jh102.1;have kh102:Keep [] h h102:=kh86.n jh102;have eb23:=jh102.g eb23;refine ⟨sm_keep (by decide) g4 kh102,sm_keep (by decide) gb kh102,sm_keep (by decide) ga kh102,sm_keep (by decide) ge kh102,?_⟩;refine hE h102 _ fun x78 h103 hw jh103 =>?_;have zh103:=jh103.1;have kh103:Keep [] h h103:=kh102.n jh103;have eb23:=jh103.g eb23;have eb27:=jh103.g eb27;refine ⟨sm_keep (by decide) g4 kh103,sm_keep (by decide) gb kh103,sm_keep (by decide) ge kh103,?_⟩;refine hP _ h103 _ hw kh103 fun x79 ent h104 jh104 er hv ht =>?_;have zh104:=jh104.1;have kh104:Keep [] h h104:=kh103.n jh104;have eb23:=jh104.g eb23;have eb27:=jh104.g eb27;refine ⟨sm_keep (by decide) g4 kh104,?_⟩;refine hS _ _ h104 _ kh104 er hv ht fun x80 x81 x82 h105 jh105 rr =>?_;have zh105:=jh105.1;have kh105:Keep [] h h105:=kh104.n jh105;have eb23:=jh105.g eb23;have eb27:=jh105.g eb27;exact fin kh105 eb23 eb27 (by omega) (by omega) (by omega) rr
  ·skip
   refine new_gen fun b28 h108 qb28 jh108 eb28 sb28 =>?_;have zh108:=jh108.1;have kh108:Keep [] h h108:=kh.n jh108;refine ⟨sm_keep (by decide) g4 kh108,sm_keep (by decide) gb kh108,sm_keep (by decide) ga kh108,sm_keep (by decide) ge kh108,?_⟩;refine ⟨?_,?_⟩
   ·skip
    refine hE h108 _ fun x83 h109 hw jh109 =>?_;have zh109:=jh109.1;have kh109:Keep [] h h109:=kh108.n jh109;have eb28:=jh109.g eb28;refine ⟨sm_keep (by decide) g4 kh109,sm_keep (by decide) gb kh109,sm_keep (by decide) ge kh109,?_⟩;refine ⟨?_,?_⟩
    ·skip
     refine hP _ h109 _ hw kh109 fun x84 ent h110 jh110 er hv ht =>?_;have zh110:=jh110.1;have kh110:Keep [] h h110:=kh109.n jh110;have eb28:=jh110.g eb28;refine ⟨sm_keep (by decide) g4 kh110,?_⟩;refine ⟨?_,?_⟩
     ·skip
      refine hS _ _ h110 _ kh110 er hv ht fun x85 x86 x87 h111 jh111 rr =>?_;have zh111:=jh111.1;have kh111:Keep [] h h111:=kh110.n jh111;have eb28:=jh111.g eb28;refine new_gen fun b29 h112 qb29 jh112 eb29 sb29 =>?_;have zh112:=jh112.1;have kh112:Keep [] h h112:=kh111.n jh112;have eb28:=jh112.g eb28;have rr:=hR _ _ _ _ _ _ rr jh112 (by simp);exact fin kh112 eb29 eb28 (by omega) (by omega) (by omega) rr
     ·skip
      refine new_gen fun b30 h115 qb30 jh115 eb30 sb30 =>?_;have zh115:=jh115.1;have kh115:Keep [] h h115:=kh110.n jh115;have eb28:=jh115.g eb28;have er:=er.keep jh115 (by simp);refine ⟨sm_keep (by decide) g4 kh115,?_⟩;refine hS _ _ h115 _ kh115 er hv ht fun x88 x89 x90 h116 jh116 rr =>?_;have zh116:=jh116.1;have kh116:Keep [] h h116:=kh115.n jh116;have eb28:=jh116.g eb28;have eb30:=jh116.g eb30;exact fin kh116 eb30 eb28 (by omega) (by omega) (by omega) rr
    ·skip
     refine new_gen fun b31 h119 qb31 jh119 eb31 sb31 =>?_;have zh119:=jh119.1;have kh119:Keep [] h h119:=kh109.n jh119;have eb28:=jh119.g eb28;refine ⟨sm_keep (by decide) g4 kh119,sm_keep (by decide) gb kh119,sm_keep (by decide) ge kh119,?_⟩;refine hP _ h119 _ hw kh119 fun x91 ent h120 jh120 er hv ht =>?_;have zh120:=jh120.1;have kh120:Keep [] h h120:=kh119.n jh120;have eb28:=jh120.g eb28;have eb31:=jh120.g eb31;refine ⟨sm_keep (by decide) g4 kh120,?_⟩;refine hS _ _ h120 _ kh120 er hv ht fun x92 x93 x94 h121 jh121 rr =>?_;have zh121:=jh121.1;have kh121:Keep [] h h121:=kh120.n jh121;have eb28:=jh121.g eb28;have eb31:=jh121.g eb31;exact fin kh121 eb31 eb28 (by omega) (by omega) (by omega) rr
   ·skip
    refine new_gen fun b32 h124 qb32 jh124 eb32 sb32 =>?_;have zh124:=jh124.1;have kh124:Keep [] h h124:=kh108.n jh124;have eb28:=jh124.g eb28;refine ⟨sm_keep (by decide) g4 kh124,sm_keep (by decide) gb kh124,sm_keep (by decide) ga kh124,sm_keep (by decide) ge kh124,?_⟩;refine hE h124 _ fun x95 h125 hw jh125 =>?_;have zh125:=jh125.1;have kh125:Keep [] h h125:=kh124.n jh125;have eb28:=jh125.g eb28;have eb32:=jh125.g eb32;refine ⟨sm_keep (by decide) g4 kh125,sm_keep (by decide) gb kh125,sm_keep (by decide) ge kh125,?_⟩;refine hP _ h125 _ hw kh125 fun x96 ent h126 jh126 er hv ht =>?_;have zh126:=jh126.1;have kh126:Keep [] h h126:=kh125.n jh126;have eb28:=jh126.g eb28;have eb32:=jh126.g eb32;refine ⟨sm_keep (by decide) g4 kh126,?_⟩;refine hS _ _ h126 _ kh126 er hv ht fun x97 x98 x99 h127 jh127 rr =>?_;have zh127:=jh127.1;have kh127:Keep [] h h127:=kh126.n jh127;have eb28:=jh127.g eb28;have eb32:=jh127.g eb32;exact fin kh127 eb32 eb28 (by omega) (by omega) (by omega) rr
theorem Sd.k_succ {d:Sd} {n:Nat}:{ d.k n with next:=(d.k n).next+1 }=d.k (n+1):=by
 unfold Sd.k;dsimp only
 push_cast
 rfl
theorem go_vec {C:Cn} {u c0 c1:Nat} (hu:u≤1) (hlv:lastVec C=[(c0:Int),(c1:Int)]):nextVec C (u:Int)=[(((if u=0 then c0+1 else c0):Nat):Int),(((if u=0 then c1 else c1+1):Nat):Int)]:=by
 unfold nextVec;rw[hlv]
 match u,hu with
 | 0,_=>rfl
 | 1,_=>rfl
theorem keys_set {A B:Sd} {u c0 c1:Nat} (hu:u≤1):([hkV (A.k c0),hkV (B.k c1)]:List LkK.Ty).set ((u:Nat):Int).toNat (hkV { (sdOf A B u).k (if u=0 then c0 else c1) with next:=((sdOf A B u).k (if u=0 then c0 else c1)).next+1 })=[hkV (A.k (if u=0 then c0+1 else c0)),hkV (B.k (if u=0 then c1 else c1+1))]:=by
 rw[Sd.k_succ]
 match u,hu with
 | 0,_=>rfl
 | 1,_=>rfl
def nxtC (C:Cn) (e:Ett):Cn:=if chkC C e=0 then { C with all:=C.all++[e] } else C
theorem nxtC_ok {C:Cn} {e:Ett} (o:CnOk C):CnOk (nxtC C e)∧(nxtC C e).all.length≤C.all.length+1:=by
 unfold nxtC;by_cases h:chkC C e=0
 ·rw[if_pos h];exact ⟨(chk_ok o h).1,by show (C.all++[e]).length≤_;simp⟩
 ·rw[if_neg h];exact ⟨o,by omega⟩
theorem nxtC_club {A B:Sd} {C:Cn} {e:Ett} (c:ClubC A B C):ClubC A B (nxtC C e):=by
 unfold nxtC;by_cases h:chkC C e=0
 ·rw[if_pos h];exact ⟨c.m,c.p,c.b⟩
 ·rw[if_neg h];exact c
section
variable {n0 c t:Nat} {h:Heap} {mv:MbK.Ty} {ps bs es:Slc} {evs:List EtK.Ty} {C:Cn}
theorem chain_Add.u {v:EtK.Ty} {e:Ett} {K:Int→Heap→Prop} (i:IsCh n0 h c t mv ps bs es evs C) (o:CnOk C) (a:EtAt h v e) (hl:e.vec.length≤9223372036854775806)
 (hK:∀h' es' evs',Keep ([c,t]++own es) h h'→IsCh n0 h' c t mv ps bs es' evs' (nxtC C e)→(∀q∈own es',q∈own es∨h.size≤q)→K (chkC C e) h'):ZA2.C (some ⟨c,0⟩) v h K:=by
 refine chain_Add.s i o a hl (fun hn h' k =>?_) (fun hz h' es' evs' k i' ho =>?_)
 ·refine hK h' es evs (k.weak (by simp)) ?_ (fun q hq => .inl hq);unfold nxtC;rw[if_neg hn];exact i.keep0 k
 ·have:=hK h' es' evs' k (by unfold nxtC;rw[if_pos hz];exact i') ho;rw[hz] at this;exact this
end
section
variable {n1 c:Nat} {h:Heap} {kv:KeK.Ty} {fs es ls:Slc} {evs:List EtK.Ty} {C:Cn}
theorem ref18_Add.u {v:EtK.Ty} {e:Ett} {K:Int→Heap→Prop} (i:IsRc n1 h c kv fs es ls evs C) (ka:KeAt h kv ⟨C.m,C.pubs⟩) (o:CnOk C) (a:EtAt h v e) (hl:e.vec.length≤9223372036854775806)
 (hK:∀h' es' ls' evs',Keep ([c]++own es++own ls) h h'→IsRc n1 h' c kv fs es' ls' evs' (nxtC C e)→(∀q∈own es',q∈own es∨h.size≤q)→(∀q∈own ls',q∈own ls∨h.size≤q)→K (chkC C e) h'):ZBy.C (some ⟨c,0⟩) v h K:=by
 refine ref18_Add.s i ka o a hl (fun hn h' k =>?_) (fun hz h' es' ls' evs' k i' o1 o2 =>?_)
 ·refine hK h' es ls evs (k.weak (by simp)) ?_ (fun q hq => .inl hq) (fun q hq => .inl hq);unfold nxtC;rw[if_neg hn];exact i.keep0 k
 ·have:=hK h' es' ls' evs' k (by unfold nxtC;rw[if_pos hz];exact i') o1 o2;rw[hz] at this;exact this
theorem IsRc.keepG {h':Heap} {S:List Nat} (i:IsRc n1 h c kv fs es ls evs C) (k:Keep S h h') (hS:∀b∈S,b∉own es∧b∉own ls∧∀T,T=t_almonryref18_Chain∨T=t_api_Hash∨T=t_int→∀cc f,h[b]? ≠ some (.cells cc T f)):IsRc n1 h' c kv fs es ls evs C:=
 ⟨k.get i.e fun hm=>(hS c hm).2.2 _ (by simp) _ _ i.e,i.lc,row_keepC (n0:=0) i.f k (fun _ _=>YAS _) (fun b hb => .inr (.inr ((hS b hb).2.2 _ (by simp)))),i.a.keep k (fun q hq hm=>(hS q hm).1 hq),i.oa,
  All2.mono (fun v e x=>⟨x.1.keepS k fun b hb T hT=>(hS b hb).2.2 T (by rcases hT with rfl | rfl <;> simp),x.2⟩) i.x,i.l.keep k (fun q hq hm=>(hS q hm).2.1 hq),i.ol⟩
end
theorem row_hit {T q:Nat} {k:Kd} {s:Slc} {L:List k.Ty} {h:Heap} {P:Prop} (r:Row h T k s L) (hq:q∈own s) (hT:∀cc f,h[q]? ≠ some (.cells cc T f)):P:=by
 rcases r with ⟨e,_⟩ | ⟨b,zs,e,_,_,e4⟩
 ·rw[e] at hq;simp[own] at hq
 ·have:q=b:=by unfold own at hq;rw[e] at hq;simpa using hq
  subst this;exact absurd e4 (hT _ _)
structure ActI (n0 n1:Nat) (h:Heap) (cb t c2:Nat) (mv:MbK.Ty) (ps bs fs ks:Slc) (kv:KeK.Ty) (A B:Sd) (es er lr:Slc) (evs evr:List EtK.Ty) (D D':Cn) (x y:Nat):Prop where
 c:IsCh n0 h cb t mv ps bs es evs D
 r:IsRc n1 h c2 kv fs er lr evr D'
 m:MbU 0 h kv.1 clb
 p:Row h t_string .s kv.2.1 ([A.pub,B.pub].map bx)
 k:Row h t_api_HssKey LkK ks [hkV (A.k x),hkV (B.k y)]
 d1:∀q∈own er,q∉own es
 d2:∀q∈own lr,q∉own ps
 d3:∀q∈own lr,q∉own kv.2.1
section
variable {n0 n1 cb t c2:Nat} {h h':Heap} {mv:MbK.Ty} {ps bs fs ks es er lr:Slc} {kv:KeK.Ty} {A B:Sd} {evs evr:List EtK.Ty} {D D':Cn} {x y:Nat}
theorem ActI.keep0 (i:ActI n0 n1 h cb t c2 mv ps bs fs ks kv A B es er lr evs evr D D' x y) (k:Keep [] h h'):ActI n0 n1 h' cb t c2 mv ps bs fs ks kv A B es er lr evs evr D D' x y:=
 ⟨i.c.keep0 k,i.r.keep0 k,i.m.keep k (by simp),i.p.keep k (by simp),i.k.keep k (by simp),i.d1,i.d2,i.d3⟩
theorem ActI.ka (i:ActI n0 n1 h cb t c2 mv ps bs fs ks kv A B es er lr evs evr D D' x y) (c:ClubC A B D'):KeAt h kv ⟨D'.m,D'.pubs⟩:=by
 rw[c.m,c.p];exact ⟨i.m.at,i.p.seg⟩
theorem ActI.keys {x' y':Nat} (i:ActI n0 n1 h cb t c2 mv ps bs fs ks kv A B es er lr evs evr D D' x y) (k:Keep (own ks) h h') (r:Row h' t_api_HssKey LkK ks [hkV (A.k x'),hkV (B.k y')]):ActI n0 n1 h' cb t c2 mv ps bs fs ks kv A B es er lr evs evr D D' x' y':=by
 have tg:∀b∈own ks,∀T,t_api_HssKey≠T→∀cc f,h[b]? ≠ some (.cells cc T f):=fun b hb T hT=>row_tagU i.k hT b hb
 refine ⟨i.c.keep k fun b hb => .inr ⟨tagO i.k i.c.p (by decide) b hb,tagO i.k i.c.a (by decide) b hb,fun T hT=>tg b hb T (by rcases hT with rfl | rfl | rfl | rfl | rfl | rfl <;> decide)⟩,
  i.r.keepG k fun b hb=>⟨tagO i.k i.r.a (by decide) b hb,tagO i.k i.r.l (by decide) b hb,fun T hT=>tg b hb T (by rcases hT with rfl | rfl | rfl <;> decide)⟩,
  i.m.keep k fun b hb => .inr fun cc f=>⟨tg b hb _ (by decide) cc f,tg b hb _ (by decide) cc f⟩,i.p.keep k (tagO i.p i.k (by decide)),r,i.d1,i.d2,i.d3⟩
theorem ActI.addC {es':Slc} {evs':List EtK.Ty} {D2:Cn} (i:ActI n0 n1 h cb t c2 mv ps bs fs ks kv A B es er lr evs evr D D' x y) (k:Keep ([cb,t]++own es) h h') (c:IsCh n0 h' cb t mv ps bs es' evs' D2) (o:∀q∈own es',q∈own es∨h.size≤q):ActI n0 n1 h' cb t c2 mv ps bs fs ks kv A B es' er lr evs' evr D2 D' x y:=by
 have off:=i.c.off
 have tg:∀b∈[cb,t]++own es,∀T,T≠t_chain_Chain→T≠t_mlog_Tree→T≠t_api_Entry→∀cc f,h[b]? ≠ some (.cells cc T f):=fun b hb T h1 h2 h3=>by
  rcases List.mem_append.1 hb with hb | hb
  ·simp only [YAI,YAL,or_false] at hb;rcases hb with rfl | rfl
   ·exact off.2.2.2.2.1 T h1
   ·exact off.2.2.2.2.2 T h2
  ·exact row_tagU i.c.a (fun h=>h3 h.symm) b hb
 have rk:∀ {T:Nat} {k':Kd} {s:Slc} {L:List k'.Ty},Row h T k' s L→T≠t_chain_Chain→T≠t_mlog_Tree→T≠t_api_Entry→Row h' T k' s L:=fun r h1 h2 h3=>row_keepC (n0:=0) r k (fun _ _=>YAS _) (fun b hb => .inr (.inr (tg b hb _ h1 h2 h3)))
 refine ⟨c,i.r.keepG k fun b hb=>⟨fun hm =>?_,fun hm =>?_,fun T hT=>tg b hb T (by rcases hT with rfl | rfl | rfl <;> decide) (by rcases hT with rfl | rfl | rfl <;> decide) (by rcases hT with rfl | rfl | rfl <;> decide)⟩,
  i.m.keep k fun b hb => .inr fun cc f=>⟨tg b hb _ (by decide) (by decide) (by decide) cc f,tg b hb _ (by decide) (by decide) (by decide) cc f⟩,rk i.p (by decide) (by decide) (by decide),rk i.k (by decide) (by decide) (by decide),fun q hq hm =>?_,i.d2,i.d3⟩
 ·rcases List.mem_append.1 hb with hb' | hb'
  ·simp only [YAI,YAL,or_false] at hb';rcases hb' with rfl | rfl
   ·exact row_hit i.r.a hm (off.2.2.2.2.1 t_api_Entry (by decide))
   ·exact row_hit i.r.a hm (off.2.2.2.2.2 t_api_Entry (by decide))
  ·exact i.d1 b hm hb'
 ·exact row_hit i.r.l hm (tg b hb _ (by decide) (by decide) (by decide))
 ·rcases o q hm with h1 | h1
  ·exact i.d1 q hq h1
  ·have:=row_ltU i.r.a q hq;omega
theorem ActI.addR {er' lr':Slc} {evr':List EtK.Ty} {D2:Cn} (i:ActI n0 n1 h cb t c2 mv ps bs fs ks kv A B es er lr evs evr D D' x y) (k:Keep ([c2]++own er++own lr) h h') (r:IsRc n1 h' c2 kv fs er' lr' evr' D2) (o1:∀q∈own er',q∈own er∨h.size≤q) (o2:∀q∈own lr',q∈own lr∨h.size≤q):ActI n0 n1 h' cb t c2 mv ps bs fs ks kv A B es er' lr' evs evr' D D2 x y:=by
 have tgc:∀T,T≠t_almonryref18_Chain→∀cc f,h[c2]? ≠ some (.cells cc T f):=fun T hT=>cell_ne (o := .cells #[] 0 (0,0)) i.r.e hT
 have tg:∀b∈[c2]++own er++own lr,∀T,T≠t_almonryref18_Chain→T≠t_string→T≠t_api_Entry→∀cc f,h[b]? ≠ some (.cells cc T f):=fun b hb T h1 h2 h3=>by
  rcases List.mem_append.1 hb with hb | hb
  ·rcases List.mem_append.1 hb with hb | hb
   ·simp only [YAJ] at hb;subst hb;exact tgc T h1
   ·exact row_tagU i.r.a (fun h=>h3 h.symm) b hb
  ·exact row_tagU i.r.l (fun h=>h2 h.symm) b hb
 have rk:∀ {T:Nat} {k':Kd} {s:Slc} {L:List k'.Ty},Row h T k' s L→T≠t_almonryref18_Chain→T≠t_string→T≠t_api_Entry→Row h' T k' s L:=fun r h1 h2 h3=>row_keepC (n0:=0) r k (fun _ _=>YAS _) (fun b hb => .inr (.inr (tg b hb _ h1 h2 h3)))
 have nps:∀ {s:Slc} {L:List ByteArray},Row h t_string .s s L→(∀q∈own lr,q∉own s)→∀b∈[c2]++own er++own lr,b∉own s:=fun rs hd b hb hm=>by
  rcases List.mem_append.1 hb with hb | hb
  ·rcases List.mem_append.1 hb with hb | hb
   ·simp only [YAJ] at hb;subst hb;exact row_hit rs hm (tgc _ (by decide))
   ·exact row_hit rs hm (row_tagU i.r.a (by decide) b hb)
  ·exact hd b hb hm
 refine ⟨i.c.keep k fun b hb => .inr ⟨nps i.c.p i.d2 b hb,fun hm =>?_,fun T hT=>tg b hb T (by rcases hT with rfl | rfl | rfl | rfl | rfl | rfl <;> decide) (by rcases hT with rfl | rfl | rfl | rfl | rfl | rfl <;> decide) (by rcases hT with rfl | rfl | rfl | rfl | rfl | rfl <;> decide)⟩,
  r,i.m.keep k fun b hb => .inr fun cc f=>⟨tg b hb _ (by decide) (by decide) (by decide) cc f,tg b hb _ (by decide) (by decide) (by decide) cc f⟩,i.p.keep k (fun q hq hm=>nps i.p i.d3 q hm hq),rk i.k (by decide) (by decide) (by decide),fun q hq hm =>?_,fun q hq hm =>?_,fun q hq hm =>?_⟩
 ·rcases List.mem_append.1 hb with hb | hb
  ·rcases List.mem_append.1 hb with hb | hb
   ·simp only [YAJ] at hb;subst hb;exact row_hit i.c.a hm (tgc _ (by decide))
   ·exact i.d1 b hb hm
  ·exact row_hit i.c.a hm (row_tagU i.r.l (by decide) b hb)
 ·rcases o1 q hq with h1 | h1
  ·exact i.d1 q h1 hm
  ·have:=row_ltU i.c.a q hm;omega
 ·rcases o2 q hq with h1 | h1
  ·exact i.d2 q h1 hm
  ·have:=row_ltU i.c.p q hm;omega
 ·rcases o2 q hq with h1 | h1
  ·exact i.d3 q h1 hm
  ·have:=row_ltU i.p q hm;omega
end
def AcR (d:Sd) (n:Nat) (v:EtK.Ty) (k:LkK.Ty) (c:Int) (h:Heap):Prop:=(c=0∧k=hkV { d.k n with next:=(d.k n).next+1 }∧n<4∧∃e,EtR h v e∧e.vec.length=2∧e.tables.length=3∧e.sign.length=4500)∨c≠0
theorem spent_lt {d:Sd} {n:Nat} (hn:n≤4) (h:spentH (d.k n)=false):n<4:=by
 unfold spentH at h;have:=of_decide_eq_false h;have e:¬((n:Nat):Int)=4:=this;omega
theorem ZBz.s {sa:Slc} {acts:List AcK.Ty} {seed:ByteArray} {h:Heap} {K:Bool→Heap→Prop} (ga:Seg AcK sa acts h) (hK:∀h',Keep [] h h'→K true h'):ZBz.C sa seed h K:=by
 apply ZBz.c;unfold ZBz.m;have gal:=ga.len;rw[←bx_list (s:=seed)];show ZBv.C (bx seed.data.toList) (bx []) h _;refine ZBv.s fun kv ks h1 k1 md =>?_;generalize sdA seed.data.toList=A at md;generalize sdB []=B at md;have z1:=k1.1;refine new_st_gen fun b1 h3 hb1 k3 e3 hs3 =>?_;have e3:h3[b1]? = some (vobj t_api_Keys KeK kv):=e3;refine ld_go (sm_all e3) ?_;have hmay:=clb_may (a:=A) (b:=B);have hmm:(clbK A B).m=clb:=rfl;have hpp:(clbK A B).pubs.length=2:=rfl;refine ZCO.s (k:=clbK A B) (md.at.keep k3) (by rw[hpp];decide) (by intro g hg;unfold clbK clb at hg;simp at hg;subst hg;decide) (fun hn=>by rw[hmay] at hn;simp at hn) fun _ h4 cb t mv ps bs k4 i4 =>?_;have o4:CnOk (newC (clbK A B)):=clb_new;have cc4:ClubC A B (newC (clbK A B)):=clb_c;have hall:(newC (clbK A B)).all=[]:=rfl;have k34:=k3.n k4;refine ld_go (sm_all (k4.g e3)) ?_;refine ZBC.s (k:=clbK A B) (md.at.keep k34) (by rw[hpp];decide) (by rw[hmm];decide) (fun hn=>by rw[hmay] at hn;simp at hn) fun _ h5 c2 fs k5 ir =>?_;generalize newC (clbK A B)=C at *;have k45:=k34.n k5;have k05:=k1.n k45;have z3:=k3.1;have z4:=k4.1;have md5:=md.keep0 k45;have okk:=md.ok
 have i5:ActI h3.size h4.size h5 cb t c2 mv ps bs fs ks kv A B ⟨none,0,0⟩ ⟨none,0,0⟩ ⟨none,0,0⟩ [] [] C C 0 0:=by
  obtain ⟨u,gs,r,o,al⟩:=md5.m;exact ⟨i4.keep0 k5,ir,⟨u,gs,r,fun _ _=>YAS _,All2.mono (fun s us x=>⟨x.1,fun _ _=>YAS _,x.2.2⟩) al⟩,md5.p,md5.k,by simp[own],by simp[own],by simp[own]⟩
 refine jn_at (false,()) h5 ?_ ?_
 ·refine ZAX.s ?_;rw[if_neg (by simp)];exact ⟨by simp,rfl⟩
 rw[if_neg (by simp)];refine lp_go (fun (y:Int×Unit) (hh:Heap)=>∃(n:Nat) (es er lr:Slc) (evs evr:List EtK.Ty) (D:Cn) (c0 c1:Nat),y.1=n∧n≤acts.length∧n≤5∧Keep [] h hh∧ActI h3.size h4.size hh cb t c2 mv ps bs fs ks kv A B es er lr evs evr D D c0 c1∧CnOk D∧ClubC A B D∧D.all.length≤n∧c0≤4∧c1≤4) (fun (y:Int×Unit) _=>5-y.1.toNat) ?_ ?_
 ·exact ⟨0,_,_,_,_,_,C,0,0,rfl,YAS _,by decide,k05,i5,o4,cc4,by rw[hall];decide,by decide,by decide⟩
 rintro ⟨(jj:Int),_⟩ hh ⟨n,es,er,lr,evs,evr,D,c0,c1,e,hnl,hn5,kB,iA,oD,cD,hDn,hc0,hc1⟩;dsimp only at e ⊢;subst e;refine jn_at (decide (n<acts.length∧n<5),()) hh ?_ ?_
 ·by_cases hl:n<acts.length
  ·rw[if_pos (show decide ((n:Int)<(sa.len:Int))=true by simp;omega)];refine ⟨?_,rfl⟩;by_cases h5':n<5
   ·rw[dT (show (n:Int)<5 by omega),dT ⟨hl,h5'⟩]
   ·rw[dF (show ¬(n:Int)<5 by omega),dF (fun h=>h5' h.2)]
  ·rw[if_neg (show ¬decide ((n:Int)<(sa.len:Int))=true by simp;omega)];exact ⟨by simp[hl],rfl⟩
 by_cases hgo:n<acts.length∧n<5
 case neg=>
  rw[if_neg (by simpa using hgo)];refine ZCy.s fun h' k' =>?_;exact hK h' (kB.n k')
 rw[if_pos (dT hgo)];have hw:w64 ((n:Int)+1)=((n+1:Nat):Int):=w6 (by omega);rw[hw];have zB:=kB.1;have hz3:h.size≤h3.size:=by omega
 have hz4:h.size≤h4.size:=by omega
 refine jn_in (fun _ hh'=>∃(es er lr:Slc) (evs evr:List EtK.Ty) (D:Cn) (c0 c1:Nat),Keep [] h hh'∧ActI h3.size h4.size hh' cb t c2 mv ps bs fs ks kv A B es er lr evs evr D D c0 c1∧CnOk D∧ClubC A B D∧D.all.length≤n+1∧c0≤4∧c1≤4) ?_ ?_
 case refine_2=>
  rintro _ hh' ⟨es,er,lr,evs,evr,D,c0,c1,a1,a2,a3,a4,a5,a6,a7⟩;exact ⟨⟨n+1,es,er,lr,evs,evr,D,c0,c1,rfl,by omega,by omega,a1,a2,a3,a4,a5,a6,a7⟩,by simp;omega⟩
 refine seg_ix (ga.keep (by decide) kB) (x:=acts[n]'hgo.1) (by omega) (by rw[YAP];exact YAC hgo.1) rfl ?_;generalize acts[n]'hgo.1=ac at *;refine new_st_gen fun b2 h12 hb2 k12 e12 hs12 =>?_;have e12:h12[b2]? = some (vobj t_almonrylaw20_Act AcK ac):=e12;refine ld_go (ac_f e12).1 ?_;obtain ⟨u,hu,hue⟩:=and_1U (x:=ac.1);rw[hue];obtain ⟨p,hp,hpe⟩:=u64_modU (x:=ac.2.1) (n:=3) (by decide) (by decide);have h3n:UInt64.ofNat 3=(3:UInt64):=rfl;rw[h3n] at hpe;obtain ⟨kn,hkn⟩:∃x,(if u=0 then c0 else c1)=x:=⟨_,rfl⟩;have hkn4:kn≤4:=by rw[←hkn];split <;> omega
 refine bs_gen fun b13 h13 hb13 k13 r13 hs13 =>?_;have k9_13:=k12.n k13;have iA13:=iA.keep0 k9_13;refine ref18_Tables.s iA13.r (fun T2 gT rT =>?_) (by omega);have hT3:(lastTab D).length=3:=cD.last oD;refine slCells_seg gT (by rw[gT.len];rfl) ?_;refine ap_row (T:=t_api_Hash) (k := .ar 32 .u8) (ys:=lastTab D) r13 gT.len rfl (by rw[gT.len,hT3];decide) fun s2 h15 r15 k15 o15 =>?_;rw[YAK] at r15;have z13:=k9_13.1;have k13_15:Keep [] h12 h15:=k13.new k15 (by simp[own];omega);have e15:=k13_15.g e12;refine ld_go (ac_f e15).2.1 ⟨by decide,ld_go (ac_f e15).2.2.2 ?_⟩;rw[hpe]
 have own2:∀q∈own s2,h12.size≤q:=fun q hq=>by
  rcases own_of o15 q hq with h | h
  ·simp[own] at h;omega
  ·have:=k13.1;omega
 refine row_st_u8 (j:=7) r15 (by omega) (by decide) fun h16 k16 r16 =>?_;have k12_16:Keep [] h12 h16:=k13_15.new k16 own2;have k9_16:Keep [] hh h16:=k12.n k12_16;have ht3:((lastTab D).set p ((lastTab D)[p].setIfInBounds 7 (u8I ac.2.2.2.1))).length=3:=by rw[YAG,hT3]
 generalize (lastTab D).set p ((lastTab D)[p].setIfInBounds 7 (u8I ac.2.2.2.1))=T at *;have iA16:=iA.keep0 k9_16;have hal:D.all.length<256:=by omega
 refine chain_Next.s iA16.c oD r16.seg (by rw[ht3];decide) (fun hn=>by rw[ht3,nxt_may cD hu hal] at hn;simp at hn) fun _ v3 h17 k17 er3 no3 =>?_;refine new_st_gen fun b3 h19 hb3 k19 e19 hs19 =>?_;have e19:h19[b3]? = some (vobj t_api_Entry EtK v3):=e19;have k16_19:=k17.n k19;have iA19:=iA16.keep0 k16_19;refine ref18_Next.s iA19.r (iA19.ka cD) oD (r16.keep k16_19 (by simp)).seg (by rw[ht3];decide) (fun hn=>by rw[ht3,nxt_may cD hu hal] at hn;simp at hn) fun _ v4 h20 k20 er4 no4 =>?_;refine new_st_gen fun b4 h22 hb4 k22 e22 hs22 =>?_;have e22:h22[b4]? = some (vobj t_api_Entry EtK v4):=e22;have k19_22:=k20.n k22;have er3':EtR h22 v3 (nextE D (u:Int) T):=(er3.keep k19 (by simp)).keep k19_22 (by simp);have er4':EtR h22 v4 (nextE D (u:Int) T):=er4.keep k22 (by simp);have hvl:(nextE D (u:Int) T).vec.length=2:=next_len cD oD;have htl:(nextE D (u:Int) T).tables.length=3:=ht3;have hsl:(nextE D (u:Int) T).sign.length=0:=rfl;generalize nextE D (u:Int) T=E at *;have k9_22:=(k9_16.n k16_19).n k19_22;have k12_22:=(k12_16.n k16_19).n k19_22;refine jn_in (fun y h'=>y=(false,())∧Keep [] h22 h') ?_ ?_
 ·refine ld_go (sm_all (k19_22.g e19)) (ld_go (sm_all e22) ?_);refine ZBA.t er3'.at er4'.at (by omega) (by omega) fun h24 k24 =>?_;rw[if_neg (by simp)];refine ZAX.s ?_;exact ⟨rfl,k24⟩
 rintro _ h23 ⟨rfl,k23⟩;rw[if_neg (by simp)];have k9_23:=k9_22.n k23;have iA23:=iA.keep0 k9_23;have e23:=k23.g e22;have er4'':=er4'.keep k23 (by simp);have eb2:=(k12_22.n k23).g e12;have z9_23:=k9_23.1;refine jn_in (fun (y:Pl×Pl×Int×Unit) h'=>∃p q v k c,y=(Pl.mk p 0,Pl.mk q 0,c,())∧h'[p]? = some (vobj t_api_Entry EtK v)∧h'[q]? = some (vobj t_api_HssKey LkK k)∧AcR (sdOf A B u) kn v k c h'∧Keep [] h23 h'∧h23.size≤p∧h23.size≤q) ?_ ?_
 ·have hkey:=key_u (a:=A) (b:=B) (x:=c0) (y:=c1) hu;rw[hkn] at hkey;refine ld_go (sm_all e23) (ld_go (sm_all eb2) (ld_go (ac_f eb2).2.2.2 ?_));refine seg_ixl iA23.k.seg (by omega) hkey rfl fun l4 g4=>ld_go g4 ?_
  refine acts_blk (J:=fun p q c h'=>∃p' q' v k c',((p,q,c,()):Pl×Pl×Int×Unit)=(Pl.mk p' 0,Pl.mk q' 0,c',())∧h'[p']? = some (vobj t_api_Entry EtK v)∧h'[q']? = some (vobj t_api_HssKey LkK k)∧AcR (sdOf A B u) kn v k c' h'∧Keep [] h23 h'∧h23.size≤p'∧h23.size≤q') (R:=AcR (sdOf A B u) kn) g4 (ac_f eb2).2.2.2 (sm_all eb2) (sm_all e23)
   (fun h1 K' hk=>ZAb.s hk) (fun w h1 K' hw kk hk =>?_) (fun v' e' h1 K' kk er hv ht hk =>?_) (fun v k c h1 h2 S r kk hS =>?_) (fun p q v k c h' ep eq r kk lp lq=>⟨p,q,v,k,c,rfl,ep,eq,r,kk,lp,lq⟩)
  ·exact ZAE.s (er4''.keep kk (by simp)).at hvl htl (.inr hw) (by omega) fun v' e' h' k' r' _ hx=>hk v' e' h' k' r' (hx hw).1 (hx hw).2
  ·refine ZAB.s er.at (by omega) (seed_may hkn4) (fun _ h' k'=>hk _ _ _ h' k' (.inr (by decide))) (fun _ _ h' k'=>hk _ _ _ h' k' (.inr (by decide))) (fun _ hsp h' k' =>?_);have hn4:=spent_lt hkn4 hsp;refine hk _ _ _ h' k' (.inl ⟨rfl,rfl,hn4,_,(er.keep k' (by simp)).sgn,hv,ht,?_⟩);exact seed_sig hn4 (by rw[sayE_len];decide)
  ·rcases r with ⟨r1,r2,r3,e,r4,r5⟩ | r
   ·exact .inl ⟨r1,r2,r3,e,r4.keepS kk hS,r5⟩
   ·exact .inr r
 rintro _ h26 ⟨p1,q1,v1,kq,c,rfl,ep,eq,rr,k26,lp,lq⟩;dsimp only;have iA26:=iA23.keep0 k26;have k9_26:=k9_23.n k26;have eb26:=k26.g eb2;have e4_26:=k26.g e23;have lb2:=lt_of_some eb2;have lb4:=lt_of_some e23;have hb2':hh.size≤b2:=by omega
 refine jn_in (fun _ h'=>∃v e x y,h'[p1]? = some (vobj t_api_Entry EtK v)∧EtR h' v e∧e.vec.length=2∧e.tables.length=3∧4≤e.sign.length∧e.sign.length≤100000∧ActI h3.size h4.size h' cb t c2 mv ps bs fs ks kv A B es er lr evs evr D D x y∧x≤4∧y≤4∧Keep [] h h'∧h'[b2]? = some (vobj t_almonrylaw20_Act AcK ac)) ?_ ?_
 ·by_cases hc:c=0
  ·rw[if_pos (dT hc)]
   obtain ⟨_,hkq,hn4,ent,r1,r2,r3,r4⟩:c=0∧kq=hkV { (sdOf A B u).k kn with next:=((sdOf A B u).k kn).next+1 }∧kn<4∧∃e,EtR h26 v1 e∧e.vec.length=2∧e.tables.length=3∧e.sign.length=4500:=by
    rcases rr with r | r
    ·exact r
    ·exact absurd hc r
   refine ld_go (sm_all eq) ?_;have rk26:=iA26.k;refine ix_st rk26 (by omega) (by simp;omega) rfl fun h51 k51 rk51 =>?_;have hks:=keys_set (A:=A) (B:=B) (c0:=c0) (c1:=c1) hu;rw[hkn,←hkq] at hks;rw[hks] at rk51;refine ⟨v1,ent,_,_,k51.get ep (rowT rk26 ep (by decide)),r1.keepS k51 fun b hb T hT=>row_tagU rk26 (by rcases hT with rfl | rfl <;> decide) b hb,r2,r3,by omega,by omega,iA26.keys k51 rk51,?_,?_,(kB.n k9_26).new k51 (fun q hq=>by have:=okk q hq;omega),k51.get eb26 (rowT rk26 eb26 (by decide))⟩
   ·rw[←hkn] at hn4;by_cases hu0:u=0
    ·rw[if_pos hu0] at hn4 ⊢;omega
    ·rw[if_neg hu0] at hn4 ⊢;omega
   ·rw[←hkn] at hn4;by_cases hu0:u=0
    ·rw[if_pos hu0] at hn4 ⊢;omega
    ·rw[if_neg hu0] at hn4 ⊢;omega
  ·rw[if_neg (by simpa using hc)];refine ld_go (sm_all e4_26) ?_;refine st_to ep fun h132 k132 e132 hs132 =>?_;show Go.Al.st .s ((Pl.mk p1 0).fld 36) (bx [110,111,110,101]) h132 _;refine st_fld (k:=EtK) (k' := .s) (n:=36) e132 (by decide) et_w36 ?_;have e133:=get_set (o':=vobj t_api_Entry EtK (sgnV v4 [110,111,110,101])) e132;have k133:Keep [p1] h132 (h132.setIfInBounds p1 (vobj t_api_Entry EtK (sgnV v4 [110,111,110,101]))):=keep_set;have r132:=(er4''.keep k26 (by simp)).keepP ep k132;have r133:=(r132.keepP e132 k133).sgn (s:=[110,111,110,101]);have k26_133:Keep [p1] h26 (h132.setIfInBounds p1 (vobj t_api_Entry EtK (sgnV v4 [110,111,110,101]))):=k132.then (U:=[p1]) k133 (by simp) (by simp);have eb133:=k26_133.get eb26 (by simp;omega);have k23_133:Keep [] h23 (h132.setIfInBounds p1 (vobj t_api_Entry EtK (sgnV v4 [110,111,110,101]))):=k26.new k26_133 (by simpa using lp);exact ⟨_,{ E with sign:=[110,111,110,101] },c0,c1,e133,r133,hvl,htl,by show 4≤4;decide,by show 4≤100000;decide,iA23.keep0 k23_133,hc0,hc1,(kB.n k9_23).n k23_133,eb133⟩
 rintro _ h130 ⟨v5,e5,x5,y5,ep5,r5,w5,t5,s5a,s5b,iA5,hx5,hy5,k5',eb5⟩;refine ld_go (sm_all ep5) (ld_go (sm_all eb5) (ld_go (ac_f eb5).2.2.2 ?_));refine ZDC.s fun w h134 k134=>⟨sm_keep (by decide) (ac_f eb5).2.2.2 k134,sm_all (k134.g ep5),?_⟩;refine ZAE.s (r5.keep k134 (by simp)).at w5 t5 (.inl s5a) s5b fun v6 e6 h135 k135 r6 w6 _ =>?_;have k130_135:=k134.n k135;have ep135:=k130_135.g ep5;refine st_to ep135 fun h136 k136 e136 hs136 =>?_;have iA135:=iA5.keep0 k130_135;have k0_135:=k5'.n k130_135;have lp0:h.size≤p1:=by omega
 have k0_136:Keep [] h h136:=k0_135.new k136 (by simpa using lp0);have lpp:=lt_of_some ep;have k23_n:h23.size≤p1:=lp
 have iA136:ActI h3.size h4.size h136 cb t c2 mv ps bs fs ks kv A B es er lr evs evr D D x5 y5:=by
  have tg:∀b∈[p1],∀T,t_api_Entry≠T→∀cc f,h135[b]? ≠ some (.cells cc T f):=fun b hb T hT=>by
   simp at hb;subst hb;exact cell_ne (o := .cells #[] 0 (0,0)) ep135 (fun h=>hT h.symm)
  have nes:p1∉own es:=fun hm=>by have:=row_ltU iA.c.a p1 hm;omega
  have ner:p1∉own er:=fun hm=>by have:=row_ltU iA.r.a p1 hm;omega
  refine ⟨iA135.c.keep k136 fun b hb => .inr ⟨fun hm=>row_hit iA135.c.p hm (tg b hb _ (by decide)),by simp at hb;subst hb;exact nes,fun T hT=>tg b hb T (by rcases hT with rfl | rfl | rfl | rfl | rfl | rfl <;> decide)⟩,
   iA135.r.keepG k136 fun b hb=>⟨by simp at hb;subst hb;exact ner,fun hm=>row_hit iA135.r.l hm (tg b hb _ (by decide)),fun T hT=>tg b hb T (by rcases hT with rfl | rfl | rfl <;> decide)⟩,
   iA135.m.keep k136 fun b hb => .inr fun cc f=>⟨tg b hb _ (by decide) cc f,tg b hb _ (by decide) cc f⟩,iA135.p.keep k136 fun q hq hm=>row_hit iA135.p hq (tg q hm _ (by decide)),iA135.k.keep k136 fun q hq hm=>row_hit iA135.k hq (tg q hm _ (by decide)),iA135.d1,iA135.d2,iA135.d3⟩
 have r6':=r6.keepP ep135 k136;refine ld_go (sm_all e136) (ld_go (sm_all e136) ?_);refine chain_Check.s iA136.c oD r6'.at (by omega) fun h137 k137=>⟨sm_all (k137.g e136),?_⟩;have iA137:=iA136.keep0 k137;refine chain_Add.u iA137.c oD (r6'.keep k137 (by simp)).at (by omega) fun h138 es' evs' k138 c138 ho138 =>?_;obtain ⟨oN,lN⟩:=nxtC_ok (e:=e6) oD;have cN:=nxtC_club (e:=e6) cD;have iA138:=iA137.addC k138 c138 ho138;have off137:=iA137.c.off;have oes:∀q∈own es,h3.size≤q:=iA137.c.oa
 have tg138:∀b∈[cb,t]++own es,∀T,T≠t_chain_Chain→T≠t_mlog_Tree→T≠t_api_Entry→∀cc f,h137[b]? ≠ some (.cells cc T f):=fun b hb T h1 h2 h3=>by
  rcases List.mem_append.1 hb with hb | hb
  ·simp only [YAI,YAL,or_false] at hb;rcases hb with rfl | rfl
   ·exact off137.2.2.2.2.1 T h1
   ·exact off137.2.2.2.2.2 T h2
  ·exact row_tagU iA137.c.a (fun h=>h3 h.symm) b hb
 have e137:=k137.g e136
 have pn138:p1∉[cb,t]++own es:=fun hm=>by
  rcases List.mem_append.1 hm with hm | hm
  ·simp only [YAI,YAL,or_false] at hm;rcases hm with rfl | rfl
   ·exact off137.2.2.2.2.1 t_api_Entry (by decide) _ _ e137
   ·exact off137.2.2.2.2.2 t_api_Entry (by decide) _ _ e137
  ·have:=row_ltU iA.c.a p1 hm;omega
 have e138:=k138.get e137 pn138;have r138:=(r6'.keep k137 (by simp)).keepS k138 fun b hb T hT=>tg138 b hb T (by rcases hT with rfl | rfl <;> decide) (by rcases hT with rfl | rfl <;> decide) (by rcases hT with rfl | rfl <;> decide)
 have k0_138:Keep [] h h138:=(k0_136.n k137).new k138 fun q hq=>by
  rcases List.mem_append.1 hq with hq | hq
  ·simp only [YAI,YAL,or_false] at hq;rcases hq with rfl | rfl <;> omega
  ·have:=oes q hq;omega
 refine ld_go (sm_all e138) ?_;refine ref18_Check.s iA138.r (iA138.ka cD) oD r138.at (by omega) fun h139 k139 =>?_;refine jn_in (fun y h'=>y=(false,())∧h'=h139) ?_ ?_
 ·refine ZAX.s ?_;rw[if_neg (by simp)];refine ZAX.s ?_;exact ⟨by simp,rfl⟩
 rintro _ h140 ⟨rfl,rfl⟩;rw[if_neg (by simp)];refine ld_go (sm_all (k139.g e138)) ?_;have iA139:=iA138.keep0 k139;refine ref18_Add.u iA139.r (iA139.ka cD) oD (r138.keep k139 (by simp)).at (by omega) fun h143 er' lr' evr' k143 r143 o1 o2 =>?_;have iA143:=iA139.addR k143 r143 o1 o2
 have k0_143:Keep [] h h143:=(k0_138.n k139).new k143 fun q hq=>by
  rcases List.mem_append.1 hq with hq | hq
  ·rcases List.mem_append.1 hq with hq | hq
   ·simp only [YAJ] at hq;subst hq;have:=iA139.r.lc;omega
   ·have:=iA139.r.oa q hq;omega
  ·have:=iA139.r.ol q hq;omega
 obtain ⟨ll1,ll2⟩:=last_len oN;refine chain_Log.s iA143.c oN fun x117 h144 k144 lg144 _ =>?_;have iA144:=iA143.keep0 k144;refine ref18_Log.s iA144.r oN fun x118 h145 k145 lg145 =>?_;refine ZCe.t (C:=nxtC D e6) ⟨lg144.n,lg144.r,lg144.e.keep k145 (by simp)⟩ lg145 ll1 ll2 fun h146 k146 =>?_;rw[if_neg (by simp)];have k143_146:=(k144.n k145).n k146;exact ⟨es',er',lr',evs',evr',nxtC D e6,x5,y5,k0_143.n k143_146,iA143.keep0 k143_146,oN,cN,by omega,hx5,hy5⟩
end Go.Proofs.Tryz
