import Derived.Test.YteddcbknadbbgaaGreatT4
import Derived.Test.YteddcbknadbbgaaGreatT2
import Derived.Test.YteddcbknadbbgaaGreatT3
import Derived.Test.YteddcbknadbbgaaGreatModels4
set_option linter.unusedVariables false
set_option linter.unusedSimpArgs false
set_option maxRecDepth 100000
namespace Go.Proofs.Tryz
open Go Go.Al
theorem ref7_Leaf.s {l:By} {h:Heap} {K:HVec→Heap→Prop} (hl:l.length≤500000) (hK:∀h',Keep [] h h'→K (leafV l) h'):ref7_Leaf.C (bx l) h K:=by
 apply ref7_Leaf.c;unfold ref7_Leaf.m;refine new_gen fun b1 h1 hb1 k1 e1 hs1 =>?_;have e1:h1[b1]? = some (vobj t_api_Hash (.ar 32 .u8) (Vector.replicate 32 (0:UInt8))):=e1;show sadd (bx [0]) (bx l) _;refine sadd_b (by simp;omega) ?_;refine ref1_Sha.s (l:=[0]++l) (by simp;omega) fun h2 k2 =>?_;unfold leafV at hK;have e0:([0]:By)++l=0::l:=rfl;rw[e0];generalize shaL (0::l)=v at *;refine st_to (k2.g e1) fun h3 k3 e3 hs3=>ld_go (sm_all e3) ?_;have:=k1.1;exact hK h3 ((k1.n k2).new k3 (by simp;omega))
theorem ref7_over.s {a b:HVec} {h:Heap} {K:HVec→Heap→Prop} (hK:∀h',Keep [] h h'→K (joinV a b) h'):ref7_over.C a b h K:=by
 apply ref7_over.c;unfold ref7_over.m;refine new_gen fun b1 h1 hb1 k1 e1 hs1 =>?_;have e1:h1[b1]? = some (vobj t_api_Hash (.ar 32 .u8) a):=e1;refine new_gen fun b2 h2 hb2 k2 e2 hs2 =>?_;have e2:h2[b2]? = some (vobj t_api_Hash (.ar 32 .u8) b):=e2;refine new_gen fun b3 h3 hb3 k3 e3 hs3 =>?_;have e3:h3[b3]? = some (vobj t_api_Hash (.ar 32 .u8) (Vector.replicate 32 (0:UInt8))):=e3;have e23:=k3.g e2;refine ld_go (sm_all ((k2.n k3).g e1)) (ld_go (sm_all e23) ?_);refine ref1_T.s fun h4 k4=>⟨sm_keep (by decide) (sm_all e23) k4,?_⟩;have la:(Vector.toList a).length=32:=by simp
 have lb:(Vector.toList b).length=32:=by simp
 show sadd (bx [1]) _ _;refine sadd_b (by rw[la];decide) ?_;refine ref1_T.s fun h5 k5 =>?_;refine sadd_b (by rw[List.length_append,la,lb];decide) ?_;refine ref1_Sha.s (l:=[1]++Vector.toList a++Vector.toList b) (by rw[List.length_append,List.length_append,la,lb];decide) fun h6 k6 =>?_;unfold joinV at hK;have e0:([1]:By)++Vector.toList a++Vector.toList b=1::(Vector.toList a++Vector.toList b):=rfl;rw[e0];generalize shaL (1::(Vector.toList a++Vector.toList b))=v at *;have k36:=(k4.n k5).n k6;refine st_to (k36.g e3) fun h7 k7 e7 hs7=>ld_go (sm_all e7) ?_;have:=k1.1;have:=k2.1;exact hK h7 ((((k1.n k2).n k3).n k36).new k7 (by simp;omega))
theorem ref7_cut.s {n:Nat} {h:Heap} {K:Int→Heap→Prop} (h2:2≤n) (hn:n≤100000) (hK:K ((cutN n:Nat):Int) h):ref7_cut.C (n:Int) h K:=by
 apply ref7_cut.c;unfold ref7_cut.m;obtain ⟨b,c1,c2⟩:=cut_ex h2;rw[cut_eq c1 c2] at hK;refine lp_go (fun (y:Int×Unit) (h1:Heap)=>∃j:Nat,y.1=((2^j:Nat):Int)∧j≤b∧h1=h) (fun (y:Int×Unit) _=>n-y.1.toNat) ?_ ?_
 ·exact ⟨0,rfl,Nat.zero_le _,rfl⟩
 rintro ⟨(jj:Int),_⟩ h1 ⟨j,e,hj,rfl⟩;dsimp only at e ⊢;subst e;have hp:2^j≤2^b:=Nat.pow_le_pow_right (by decide) hj;have hp0:=Nat.two_pow_pos j;have hw:w64 (2*((2^j:Nat):Int))=((2*2^j:Nat):Int):=w6 (by omega);have h4:2*2^j=2^(j+1):=by rw[Nat.pow_succ,Nat.mul_comm]
 rw[hw];by_cases hlt:2*2^j<n
 ·rw[if_pos (show decide (((2*2^j:Nat):Int)<(n:Int))=true from decide_eq_true (by omega))];refine ⟨⟨j+1,by rw[h4],?_,rfl⟩,?_⟩
  ·by_cases e:j=b
   ·subst e;rw[Nat.pow_succ] at c2;omega
   ·omega
  ·show n-((2*2^j:Nat):Int).toNat<n-((2^j:Nat):Int).toNat;rw[Int.toNat_natCast,Int.toNat_natCast];omega
 ·rw[if_neg (show ¬decide (((2*2^j:Nat):Int)<(n:Int))=true from dn (by omega))]
  have:j=b:=by
   by_cases e:j=b
   ·exact e
   ·have h3:2^(j+1)≤2^b:=Nat.pow_le_pow_right (by decide) (by omega);omega
  subst this;exact hK
theorem seg_preC {k:Kd} {s:Slc} {xs:List k.Ty} {h:Heap} {n sz:Nat} {K:Slc→Prop} (r:Seg k s xs h) (hc:s.len≤s.cap) (hn:n≤xs.length) (hK:∀s',Seg k s' (xs.take n) h→s'.len≤s'.cap→K s'):slx s 0 (n:Int) (s.cap:Int) sz K:=by
 have hl:=r.len
 have e:(if (s.cap:Int).toNat=(0:Int).toNat then s.a else s.a.map fun l=>⟨l.b,l.o+(0:Int).toNat*sz⟩)=s.a:=by
  split
  ·rfl
  ·cases s.a <;> simp
 refine ⟨by omega,by omega,by omega,by omega,?_⟩;rw[e];refine hK _ ?_ ?_
 ·simp only [Int.toNat_natCast,Int.toNat_zero,Nat.sub_zero];exact seg_takeB r hn
 ·simp only [Int.toNat_natCast,Int.toNat_zero,Nat.sub_zero];omega
theorem ref7_Root.t {ls:List By} {s:Slc} {h:Heap} {K:HVec→Heap→Prop} (ih:∀(ls':List By) (s':Slc) (h':Heap) (K':HVec→Heap→Prop),ls'.length<ls.length→Seg .s s' (ls'.map bx) h'→s'.len≤s'.cap→(∀l∈ls',l.length≤500000)→(∀h'',Keep [] h' h''→K' (rootV ls') h'')→ref7_Root.C s' h' K')
 (g:Seg .s s (ls.map bx) h) (hc:s.len≤s.cap) (hl:∀l∈ls,l.length≤500000) (hn:ls.length≤1000) (hK:∀h',Keep [] h h'→K (rootV ls) h'):ref7_Root.C s h K:=by
 have gl:=g.len;rw[List.length_map] at gl;apply ref7_Root.c;unfold ref7_Root.m;refine new_gen fun b1 h1 hb1 k1 e1 hs1 =>?_;have e1:h1[b1]? = some (vobj t_api_Hash (.ar 32 .u8) (Vector.replicate 32 (0:UInt8))):=e1;obtain ⟨R,hR⟩:∃R,rootV ls=R:=⟨_,rfl⟩;rw[hR] at hK
 have fin:∀ {v:HVec} {h2:Heap},Keep [] h1 h2→v=R→Go.Al.st (.ar 32 .u8) (Pl.mk b1 0) v h2 fun h3=>ld (.ar 32 .u8) (Pl.mk b1 0) h3 fun x2=>K x2 h3:=fun {v h2} k2 ev=>by
  rw[ev];refine st_to (k2.g e1) fun h3 k3 e3 hs3=>ld_go (sm_all e3) ?_;have:=k1.1;exact hK h3 ((k1.n k2).new k3 (by simp;omega))
 by_cases h0:ls.length=0
 ·rw[if_pos (show decide ((s.len:Int)=0)=true from decide_eq_true (by omega))];have hnil:ls=[]:=List.length_eq_zero_iff.1 h0;show ref1_Sha.C (bx []) h1 _;refine ref1_Sha.s (l:=[]) (by decide) fun h2 k2 =>?_;exact fin k2 (by rw[←hR,hnil];exact rootV_nil.symm)
 rw[if_neg (show ¬decide ((s.len:Int)=0)=true from dn (by omega))];by_cases h1':ls.length=1
 ·rw[if_pos (show decide ((s.len:Int)=1)=true from decide_eq_true (by omega))];obtain ⟨x,hx⟩:=List.length_eq_one_iff.1 h1';refine seg_ix (i:=0) (g.keep (by decide) k1) (x:=bx x) (by decide) (by rw[hx];rfl) rfl ?_;refine ref7_Leaf.s (hl x (by rw[hx];simp)) fun h4 k4 =>?_;exact fin k4 (by rw[←hR,hx];exact rootV_one.symm)
 rw[if_neg (show ¬decide ((s.len:Int)=1)=true from dn (by omega))];have hcl:=cut_lt (n:=ls.length) (by omega);have e0:=rootV_cut (ls:=ls) (by omega);rw[gl];refine ref7_cut.s (by omega) (by omega) ?_;refine seg_preC (g.keep (by decide) k1) hc (n:=cutN ls.length) (by rw[List.length_map];omega) fun s1 g1 c1 =>?_;rw[←gl];refine seg_suf (m:=cutN s.len) (g.keep (by decide) k1) rfl hc (by rw[List.length_map,gl];omega) fun s2 g2 c2 _ =>?_;rw[gl] at g2;rw[←List.map_take] at g1;rw[←List.map_drop] at g2;refine ih _ _ _ _ (by rw[List.length_take];omega) g1 c1 (fun l hm=>hl l (List.mem_of_mem_take hm)) fun h7 k7 =>?_;refine ih _ _ _ _ (by rw[List.length_drop];omega) (g2.keep (by decide) k7) c2 (fun l hm=>hl l (List.mem_of_mem_drop hm)) fun h8 k8 =>?_;refine ref7_over.s fun h9 k9 =>?_;exact fin ((k7.n k8).n k9) (by rw[←hR];exact e0.symm)
theorem ref7_Root.f:∀(f:Nat) (ls:List By) (s:Slc) (h:Heap) (K:HVec→Heap→Prop),ls.length≤f→f≤1000→Seg .s s (ls.map bx) h→s.len≤s.cap→(∀l∈ls,l.length≤500000)→(∀h',Keep [] h h'→K (rootV ls) h')→ref7_Root.C s h K:=by
 intro f
 induction f with
 | zero=>intro ls s h K hf _ g hc hl hK;exact ref7_Root.t (fun ls' s' h' K' hn=>by omega) g hc hl (by omega) hK
 | succ f ih=>intro ls s h K hf h1 g hc hl hK;exact ref7_Root.t (fun ls' s' h' K' hn g' hc' hl' hK'=>ih ls' s' h' K' (by omega) (by omega) g' hc' hl' hK') g hc hl (by omega) hK
theorem ref7_Root.s {ls:List By} {s:Slc} {h:Heap} {K:HVec→Heap→Prop} (g:Seg .s s (ls.map bx) h) (hc:s.len≤s.cap) (hl:∀l∈ls,l.length≤500000) (hn:ls.length≤1000) (hK:∀h',Keep [] h h'→K (rootV ls) h'):ref7_Root.C s h K:=
 ref7_Root.f ls.length ls s h K (Nat.le_refl _) hn g hc hl hK
section
variable {n1 c:Nat} {h:Heap} {kv:KeK.Ty} {fs es ls:Slc} {evs:List EtK.Ty} {C:Cn}
theorem IsRc.keep0 {h':Heap} (i:IsRc n1 h c kv fs es ls evs C) (k:Keep [] h h'):IsRc n1 h' c kv fs es ls evs C:=
 ⟨k.g i.e,i.lc,i.f.keep k (by simp),i.a.keep k (by simp),i.oa,All2.mono (fun v e x=>⟨x.1.keep k (by simp),x.2⟩) i.x,i.l.keep k (by simp),i.ol⟩
theorem put_len {e:Ett} (h:putMay e=true):(putE e).length≤20000:=by
 have hm:ettMay e=true:=by unfold putMay at h;simp only [Bool.and_eq_true] at h;exact h.1
 have hs:e.sign.length≤8192:=by unfold putMay at h;simp only [Bool.and_eq_true,decide_eq_true_eq] at h;exact h.2
 obtain ⟨u0,u1,q0,q1,vx,v1,v16,t1,t24⟩:=ett_of hm;unfold putE bodyE;simp only [List.length_append,be_len,flat2_len,flat32_len,List.length_cons,List.length_nil];have:(Vector.toList e.root).length=32:=by simp
 omega
theorem ref18_Root.s {K:HVec→Heap→Prop} (i:IsRc n1 h c kv fs es ls evs C) (o:CnOk C) (hK:∀h',Keep [] h h'→K (rootV (C.all.map putE)) h'):ref18_Chain_Root.C (some ⟨c,0⟩) h K:=by
 apply ref18_Chain_Root.c;unfold ref18_Chain_Root.m;have on:=o.n;refine new_gen fun b1 h1 hb1 k1 e1 hs1 =>?_;have e1:h1[b1]? = some (vobj t_api_Hash (.ar 32 .u8) (Vector.replicate 32 (0:UInt8))):=e1;have i1:=i.keep0 k1;refine nck_go (ld_go (rc_f i1.e).2.2.2.1 ?_);refine ref7_Root.s i1.l.seg (by rw[i1.l.len];exact i1.l.cap) (fun l hl =>?_) (by rw[List.length_map];omega) fun h2 k2 =>?_
 ·obtain ⟨e,he,rfl⟩:=List.mem_map.1 hl;have:=put_len (o.a e he).1;omega
 ·generalize rootV (C.all.map putE)=v at *;refine st_to (k2.g e1) fun h3 k3 e3 hs3=>ld_go (sm_all e3) ?_;have:=k1.1;exact hK h3 ((k1.n k2).new k3 (by simp;omega))
theorem ref18_vec.s {u:Int} {K:Slc→Heap→Prop} (i:IsRc n1 h c kv fs es ls evs C) (ka:KeAt h kv ⟨C.m,C.pubs⟩) (o:CnOk C) (hu:0≤u) (hu':u<C.m.users) (hK:∀h' s,Keep [] h h'→Row h' t_int .i s (nextVec C u)→(∀q∈own s,h.size≤q)→K s h'):ref18_Chain_vec.C (some ⟨c,0⟩) u h K:=by
 apply ref18_Chain_vec.c;unfold ref18_Chain_vec.m;obtain ⟨u1,u2,u3⟩:=o.u;obtain ⟨v1,v2,v3⟩:=o.v;have hmu0:kv.1.1=C.m.users:=ka.m.u;have hmu:kv.1.1=((C.m.users.toNat:Nat):Int):=hmu0.trans (Int.toNat_of_nonneg (Int.le_trans (by decide) u1)).symm;refine nck_go (ld_go (rc_f i.e).2.2.2.2.2.2 ?_);rw[hmu];refine mk_gen (by omega) (by omega) fun b h1 hb k1 r1 hs1 =>?_;have i1:=i.keep0 k1;have el:es.len=C.all.length:=by rw[i.a.len,i.x.len]
 refine nck_go (ld_go (rc_f i1.e).2.2.1 ?_);refine jn_in (fun _ h'=>Keep [b] h1 h'∧Row h' t_int .i ⟨some ⟨b,0⟩,C.m.users.toNat,C.m.users.toNat⟩ (lastVec C)) ?_ ?_
 ·by_cases h0:C.all.length=0
  ·rw[if_neg (show ¬decide ((es.len:Int)>0)=true from dn (by omega))];refine ⟨Keep.rfl,?_⟩;have hnil:C.all=[]:=List.length_eq_zero_iff.1 h0;unfold lastVec;rw[hnil];exact r1
  ·rw[if_pos (show decide ((es.len:Int)>0)=true from decide_eq_true (by omega))];refine nck_go (ld_go (rc_f i1.e).2.2.1 (nck_go (ld_go (rc_f i1.e).2.2.1 ?_)));have on:=o.n;have hw:w64 ((es.len:Int)-1)=((C.all.length-1:Nat):Int):=w6 (by omega);rw[hw];have xl:=i1.x.len;have hx:=i1.x.getI (i:=C.all.length-1) (by omega) (by omega)
   have hg:C.all.getLast? = some (C.all[C.all.length-1]'(by omega)):=by
    rw[List.getLast?_eq_getElem?,List.getElem?_eq_getElem (by omega)]
   have hlv:lastVec C=(C.all[C.all.length-1]'(by omega)).vec:=by unfold lastVec;rw[hg]
   rw[hlv] at v1 ⊢;refine seg_ixl i1.a.seg (x:=evs[C.all.length-1]'(by omega)) (by omega) (by rw[Int.toNat_natCast];exact List.getElem?_eq_getElem (by omega)) rfl fun l hl =>?_;generalize evs[C.all.length-1]'(by omega)=v at *;generalize C.all[C.all.length-1]'(by omega)=e at *;have f2:sm .sl (l.fld 2) v.2.2.1 h1:=sm_sub hl (by decide) rfl;refine ld_go f2 ?_;have wl:=hx.1.w.len;have hmin:min v.2.2.1.len C.m.users.toNat=e.vec.length:=by omega
   rw[hmin];refine slCells_seg (k := .i) (xs:=e.vec) (s:=v.2.2.1) hx.1.w.seg (by simp[Kd.size]) ?_;rcases r1 with ⟨e0,_⟩ | ⟨b',zs,e0,e2,e3,e4⟩
   ·simp at e0
   ·have:b=b':=by simpa using e0
    subst this
    have hzs:zs=[]:=by
     simp at e3;exact e3
    subst hzs;rw[List.append_nil] at e4;refine cp_row (k := .i) (o:=0) (i:=0) (ys:=e.vec) e4 rfl (by simp) rfl (by rw[List.length_replicate];omega) ⟨keep_set,.inr ⟨b,[],rfl,by show C.m.users.toNat=e.vec.length;omega,by show C.m.users.toNat=e.vec.length+0;omega,?_⟩⟩;have hd:(List.replicate C.m.users.toNat Kd.i.zero).drop (0+e.vec.length)=[]:=List.drop_eq_nil_of_le (by rw[List.length_replicate];omega);rw[List.take_zero,List.nil_append,hd,List.append_nil];exact get_set e4
 rintro _ h2 ⟨k2,r2⟩;have z1:=k1.1;have k02:Keep [] h h2:=k1.new k2 (by simp;omega);have hl:u.toNat<(lastVec C).length:=by omega
 have hg:(lastVec C)[u.toNat]? = some ((lastVec C)[u.toNat]):=List.getElem?_eq_getElem hl;have hd:(lastVec C).getD u.toNat 0=(lastVec C)[u.toNat]:=by rw[List.getD_eq_getElem?_getD,hg];rfl
 unfold nextVec at hK;rw[hd] at hK;have hb:=v2 _ (List.getElem_mem hl);refine ix_ld r2 hu hg rfl ?_;rw[w64_id (by omega) (by omega)];refine ix_st r2 hu (by omega) rfl fun h3 k3 r3 =>?_;exact hK h3 _ (k02.new k3 (by simp[own];omega)) r3 (by simp[own];omega)
theorem ref18_Next.s {u:Int} {ts:Slc} {T:List HVec} {K:EtK.Ty→Int→Heap→Prop} (i:IsRc n1 h c kv fs es ls evs C) (ka:KeAt h kv ⟨C.m,C.pubs⟩) (o:CnOk C) (g:Seg (.ar 32 .u8) ts T h) (hT:T.length*32≤140737488355328)
 (hbad:nxtMay C u T.length=false→∀h',Keep [] h h'→K et0 2000 h')
 (hok:nxtMay C u T.length=true→∀v h',Keep [] h h'→EtR h' v (nextE C u T)→(∀q∈etO v,h.size≤q)→K v 0 h'):ref18_Chain_Next.C (some ⟨c,0⟩) u ts h K:=by
 apply ref18_Chain_Next.c;unfold ref18_Chain_Next.m;have on:=o.n;obtain ⟨u1,u2,u3⟩:=o.u;have al:es.len=C.all.length:=by rw[i.a.len,i.x.len]
 have gl:=g.len;have hmu:kv.1.1=C.m.users:=ka.m.u;refine new_gen fun b1 h1 hb1 k1 e1 hs1 =>?_;have e1:h1[b1]? = some (vobj t_api_Entry EtK et0):=e1;refine jn_in (fun y h'=>Keep [] h1 h'∧y=(!nxtMay C u T.length,())) ?_ ?_
 ·unfold nxtMay;have i1:=i.keep0 k1;by_cases c0:u<0
  ·rw[if_pos (decide_eq_true c0),decide_eq_false (show ¬0≤u by omega)];exact ⟨Keep.rfl,rfl⟩
  rw[if_neg (by simpa using c0),decide_eq_true (show 0≤u by omega),Bool.true_and];refine nck_go (ld_go (rc_f i1.e).2.2.2.2.2.2 ?_);rw[hmu];by_cases c1:u<C.m.users
  ·rw[if_neg (show ¬decide (u≥C.m.users)=true from dn (by omega)),decide_eq_true c1,Bool.true_and];refine nck_go (ld_go (rc_f i1.e).2.2.2.2.1 ?_);refine ref15_Principals.s (ka.keep k1).m o.m fun h5 k5 =>?_;rw[gl];by_cases c2:(T.length:Int)=prins C.m
   ·rw[if_neg (by simp[c2]),decide_eq_true c2,Bool.true_and];refine nck_go (ld_go (rc_f (i1.keep0 k5).e).2.2.1 ⟨k5,?_⟩);rw[al]
    have:decide ((C.all.length:Int)≥256) = !decide (C.all.length<256):=by
     by_cases hc:C.all.length<256
     ·rw[decide_eq_true hc,decide_eq_false (by omega)];rfl
     ·rw[decide_eq_false hc,decide_eq_true (by omega)];rfl
    rw[this]
   ·rw[if_pos (by simpa using c2),decide_eq_false c2];exact ⟨k5,rfl⟩
  ·rw[if_pos (show decide (u≥C.m.users)=true from decide_eq_true (by omega)),decide_eq_false c1];exact ⟨Keep.rfl,rfl⟩
 rintro _ h2 ⟨k2,rfl⟩;dsimp only;have k02:Keep [] h h2:=k1.n k2
 cases hm:nxtMay C u T.length with
 | false =>
   rw[if_pos (by rfl)];refine st_to (y:=et0) (k2.g e1) fun h6 k6 e6 hs6=>ld_go (sm_all e6) ?_;have:=k1.1;exact hbad hm h6 (k02.new k6 (by simp;omega))
 | true =>
   rw[if_neg (by simp)];replace hok:=hok hm;unfold nxtMay at hm;simp only [Bool.and_eq_true,decide_eq_true_eq] at hm;obtain ⟨m0,m1,m2,m3⟩:=hm;have i2:=i.keep0 k02;have hw:w64 ((es.len:Int)+1)=(C.all.length:Int)+1:=w6 (by omega);obtain ⟨R,hR⟩:∃R,rootV (C.all.map putE)=R:=⟨_,rfl⟩;unfold nextE at hok;rw[hR] at hok;have z02:=k02.1;have z1:=k1.1;refine jn_in (fun y h'=>y=(0,())∧∃x7 s2,h'[b1]? = some (vobj t_api_Entry EtK ((u,((C.all.length:Int)+1,(x7,(R,(s2,((⟨#[]⟩:ByteArray),())))))):EtK.Ty))∧Keep [] h h'∧Row h' t_int .i x7 (nextVec C u)∧(∀q∈own x7,h.size≤q)∧Row h' t_api_Hash (.ar 32 .u8) s2 T∧∀q∈own s2,h.size≤q) ?_ ?_
   ·have fin:∀ {h9:Heap} {x7 s2:Slc},Keep [] h2 h9→Row h9 t_int .i x7 (nextVec C u)→(∀q∈own x7,h.size≤q)→Row h9 t_api_Hash (.ar 32 .u8) s2 T→(∀q∈own s2,h.size≤q) →
     Go.Al.st EtK (Pl.mk b1 0) ((u,(w64 ((es.len:Int)+1),(x7,(R,(s2,((⟨#[]⟩:ByteArray),())))))):EtK.Ty) h9 fun h'=>((0,()):Int×Unit)=(0,())∧∃x7 s2,h'[b1]? = some (vobj t_api_Entry EtK ((u,((C.all.length:Int)+1,(x7,(R,(s2,((⟨#[]⟩:ByteArray),())))))):EtK.Ty))∧Keep [] h h'∧Row h' t_int .i x7 (nextVec C u)∧(∀q∈own x7,h.size≤q)∧Row h' t_api_Hash (.ar 32 .u8) s2 T∧∀q∈own s2,h.size≤q:=by
     intro h9 x7 s2 k9 r7 o7 r2 o2;have e9:h9[b1]? = some (vobj t_api_Entry EtK et0):=(k2.n k9).g e1;rw[hw];refine st_to e9 fun h10 k10 e10 hs10=>⟨rfl,x7,s2,e10,(k02.n k9).new k10 (by simp;omega),r7.keep k10 fun q hq hm =>?_,o7,r2.keep k10 fun q hq hm =>?_,o2⟩
     ·simp at hm;subst hm;exact rowT r7 e9 (by decide) hq
     ·simp at hm;subst hm;exact rowT r2 e9 (by decide) hq
    have apT:∀ {h8:Heap} {b:Nat} {KK:Slc→Heap→Prop},Keep [] h2 h8→h2.size≤b→Row h8 t_api_Hash (.ar 32 .u8) ⟨some ⟨b,0⟩,0,0⟩ ([]:List HVec)→(∀s2 h9,Keep [b] h8 h9→Row h9 t_api_Hash (.ar 32 .u8) s2 T→(∀q∈own s2,h.size≤q)→KK s2 h9) →
     slCells ts (ts.len*32) h8 fun cs1=>ap 45 (.ar 32 .u8) 32 ⟨some ⟨b,0⟩,0,0⟩ ts.len cs1 h8 KK:=by
     intro h8 b KK k8 hb r8 hk;refine slCells_seg (g.keep (by decide) (k02.n k8)) (by rw[gl];rfl) ?_;have z8:=k8.1;refine ap_row (T:=t_api_Hash) (k := .ar 32 .u8) (ys:=T) r8 gl rfl (by rw[gl];simp;omega) fun s2 h9 r9 k9 o9=>hk s2 h9 (by simpa[own] using k9) (by simpa using r9) fun q hq =>?_;rcases own_of o9 q hq with h | h
     ·simp[own] at h;omega
     ·omega
    refine nck_go (ld_go (rc_f i2.e).2.2.1 ⟨?_,?_⟩)
    ·refine ref18_vec.s i2 (ka.keep k02) o m0 m1 fun h6 s7 k6 r7 o7=>⟨(rc_f (i2.keep0 k6).e).2.2.1,?_,?_⟩
     ·refine ref18_Root.s (i2.keep0 k6) o fun h7 k7=>⟨(rc_f ((i2.keep0 k6).keep0 k7).e).2.2.1,?_⟩;rw[hR];refine bs_gen fun b h8 hb8 k8 r8 hs8 =>?_;have k28:Keep [] h2 h8:=(k6.n k7).n k8;have z7:=(k6.n k7).1;refine ⟨(rc_f (i2.keep0 k28).e).2.2.1,apT k28 (by omega) r8 fun s2 h9 k9 r9 o9 =>?_⟩;have k29:=k28.new k9 (by simp;omega);refine ⟨(rc_f (i2.keep0 k29).e).2.2.1,?_⟩;have r78:=(r7.keep k7 (by simp)).keep k8 (by simp);exact fin k29 (r78.keep k9 fun q hq hm=>by simp at hm;subst hm;exact tagO r78 r8 (by decide) q hq (by simp[own])) (fun q hq=>by have:=o7 q hq;omega) r9 o9
     ·refine bs_gen fun b h11 hb11 k11 r11 hs11 =>?_;have k2_11:Keep [] h2 h11:=k6.n k11;have z6:=k6.1;refine ⟨(rc_f (i2.keep0 k2_11).e).2.2.1,?_⟩;refine ref18_Root.s (i2.keep0 k2_11) o fun h12 k12 =>?_;have k2_12:=k2_11.n k12;rw[hR];have r12:=r11.keep k12 (by simp);refine ⟨(rc_f (i2.keep0 k2_12).e).2.2.1,apT k2_12 (by omega) r12 fun s2 h9 k9 r9 o9 =>?_⟩;have k29:=k2_12.new k9 (by simp;omega);refine ⟨(rc_f (i2.keep0 k29).e).2.2.1,?_⟩;have r78:=(r7.keep k11 (by simp)).keep k12 (by simp);exact fin k29 (r78.keep k9 fun q hq hm=>by simp at hm;subst hm;exact tagO r78 r12 (by decide) q hq (by simp[own])) (fun q hq=>by have:=o7 q hq;omega) r9 o9
    ·refine bs_gen fun b h11 hb11 k11 r11 hs11=>⟨(rc_f (i2.keep0 k11).e).2.2.1,?_⟩;have i11:=i2.keep0 k11;refine ref18_vec.s i11 (ka.keep (k02.n k11)) o m0 m1 fun h6 s7 k6 r7 o7=>⟨(rc_f (i11.keep0 k6).e).2.2.1,?_⟩;have k26:=k11.n k6;refine ref18_Root.s (i2.keep0 k26) o fun h12 k12 =>?_;have k2_12:=k26.n k12;rw[hR];have r12:=(r11.keep k6 (by simp)).keep k12 (by simp);have z11:=k11.1;refine ⟨(rc_f (i2.keep0 k2_12).e).2.2.1,apT k2_12 (by omega) r12 fun s2 h9 k9 r9 o9 =>?_⟩;have k29:=k2_12.new k9 (by simp;omega);refine ⟨(rc_f (i2.keep0 k29).e).2.2.1,?_⟩;have r78:=r7.keep k12 (by simp);exact fin k29 (r78.keep k9 fun q hq hm=>by simp at hm;subst hm;exact tagO r78 r12 (by decide) q hq (by simp[own])) (fun q hq=>by have:=o7 q hq;omega) r9 o9
   ·rintro _ h5 ⟨rfl,x7,s2,e5,k5,r7,o7,r2,o2⟩;refine ld_go (sm_all e5) ?_;refine hok _ h5 k5 ⟨rfl,rfl,r7,rfl,r2,rfl⟩ fun q hq =>?_;unfold etO at hq;rcases List.mem_append.1 hq with hq | hq
    ·exact o7 q hq
    ·exact o2 q hq
end
theorem be_beVal {l:By} (h:l.length=4):be (beVal l) 4=l:=by
 rcases l with _ | ⟨a,_ | ⟨b,_ | ⟨c,_ | ⟨d,_ | ⟨e,r⟩⟩⟩⟩⟩
 ·simp at h
 ·simp at h
 ·simp at h
 ·simp at h
 ·have ha:=a.toNat_lt;have hb:=b.toNat_lt;have hc:=c.toNat_lt;have hd:=d.toNat_lt;have e:beVal [a,b,c,d]=((a.toNat*256+b.toNat)*256+c.toNat)*256+d.toNat:=by simp[beVal]
  rw[e];have:∀x,be x 4=[UInt8.ofNat (x/16777216),UInt8.ofNat (x/65536),UInt8.ofNat (x/256),UInt8.ofNat x]:=fun x=>by simp[be,List.range_succ]
  rw[this]
  have u:∀(x:UInt8) (n:Nat),n%256=x.toNat→UInt8.ofNat n=x:=fun x n hn=>by
   apply UInt8.toNat_inj.1;rw[UInt8.toNat_ofNat'];exact hn
  rw[u a _ (by omega),u b _ (by omega),u c _ (by omega),u d _ (by omega)]
 ·simp at h
theorem num_be {l:By} {x:Nat} (hx:x<4294967296) (h:4≤l.length):(numZ l 0=(x:Int))↔l.take 4=be x 4:=by
 rw[numZ_in (by omega),List.drop_zero];have hl:(l.take 4).length=4:=by rw[List.length_take];omega
 constructor
 ·intro e;have:beVal (l.take 4)=x:=by omega
  rw[←this,be_beVal hl]
 ·intro e;rw[e,be4_val hx]
theorem numZ_drop {l:By} {a n:Nat} (h:a≤l.length):numZ (l.drop a) n=numZ l (a+n):=by
 unfold numZ;rw[List.length_drop,List.drop_drop];by_cases c:n+4≤l.length-a
 ·rw[if_pos c,if_pos (by omega)]
 ·rw[if_neg c,if_neg (by omega)]
theorem ref1_HssVerify.s {pub msg sig:By} {h:Heap} {K:Int→Heap→Prop} (hpl:pub.length≤9223372036854775807) (hsl:sig.length≤9223372036854775807) (hK:∀h',Keep [] h h'→K (hssV pub msg sig) h'):ref1_HssVerify.C (bx pub) (bx msg) (bx sig) h K:=by
 apply ref1_HssVerify.c;unfold ref1_HssVerify.m;obtain ⟨V,hV⟩:∃v,hssV pub msg sig=v:=⟨_,rfl⟩;rw[hV] at hK;unfold hssV at hV;by_cases hc:pub.length=60∧numZ pub 0=2∧numZ sig 0=1
 case neg=>
  rw[if_neg] at hV
  ·subst hV;refine jn_at (true,()) h ?_ ?_
   ·by_cases c1:pub.length=60
    ·rw[if_neg (by rw[bx_size];simp;omega)];refine ref1_num.s (n:=0) hpl (by decide) ?_;by_cases c2:numZ pub 0=2
     ·rw[if_neg (by simp[c2])];refine ref1_num.s (n:=0) hsl (by decide) ?_;have c3:¬numZ sig 0=1:=fun h=>hc ⟨c1,c2,h⟩;exact ⟨by rw[decide_eq_false c3];rfl,rfl⟩
     ·rw[if_pos (by simpa using c2)];exact ⟨rfl,rfl⟩
    ·rw[if_pos (by rw[bx_size];simp;omega)];exact ⟨rfl,rfl⟩
   ·rw[if_pos rfl];exact hK h Keep.rfl
  ·rintro ⟨c1,c2,c3,c4⟩;exact hc ⟨c1,(num_be (x:=2) (by decide) (by omega)).2 c2,(num_be (x:=1) (by decide) c4).2 c3⟩
 obtain ⟨h60,n2,n1⟩:=hc
 have s4:4≤sig.length:=by
  unfold numZ at n1;by_cases c:0+4≤sig.length
  ·omega
  ·rw[if_neg c] at n1;omega
 rw[if_pos ⟨h60,(num_be (x:=2) (by decide) (by omega)).1 n2,(num_be (x:=1) (by decide) s4).1 n1,s4⟩] at hV;refine jn_at (false,()) h ?_ ?_
 ·rw[if_neg (by rw[bx_size];simp;omega)];refine ref1_num.s (n:=0) hpl (by decide) ?_;rw[if_neg (by simp[n2])];refine ref1_num.s (n:=0) hsl (by decide) ?_;exact ⟨by rw[decide_eq_true n1];rfl,rfl⟩
 rw[if_neg (by simp)];refine ref1_num.s (n:=4) hpl (by decide) ?_;refine ref1_num.s (n:=8) hpl (by decide) ?_;refine ref1_lmsSize.s ?_;have p56:(pub.drop 4).length=56:=by rw[List.length_drop];omega
 have e4:numZ pub 4=numZ (pub.drop 4) 0:=(numZ_drop (l:=pub) (a:=4) (n:=0) (by omega)).symm;have e8:numZ pub 8=numZ (pub.drop 4) 4:=(numZ_drop (l:=pub) (a:=4) (n:=4) (by omega)).symm;rw[e4,e8];by_cases hz:lmsZ (numZ (pub.drop 4) 0) (numZ (pub.drop 4) 4)=0
 ·rw[lms_none p56 hz] at hV;subst hV;refine jn_at (true,()) h ?_ ?_
  ·rw[if_pos (decide_eq_true (by omega))];exact ⟨rfl,rfl⟩
  ·rw[if_pos rfl];exact hK h Keep.rfl
 obtain ⟨hh,w,p,ls,hg,hk,hze,hgz,hap⟩:=lms_good p56 hz;rw[hap] at hV;unfold PKey.size PKey.oSize at hV;dsimp only at hV;obtain ⟨v1,v5,_⟩:=hgt_ge hg;obtain ⟨_,_,_,_,p67,_⟩:=otsP_c hk;obtain ⟨Z,hZ⟩:∃z,44+32*p+32*hh=z:=⟨_,rfl⟩;rw[show 8+(36+32*p)+32*hh=Z by omega] at hV;rw[hze,hZ];have w1:w64 (4+(Z:Int))=((4+Z:Nat):Int):=w6 (by omega);have w2:w64 (((4+Z:Nat):Int)+56)=((60+Z:Nat):Int):=w6 (by omega);have w3:w64 (60+(Z:Int))=((60+Z:Nat):Int):=w6 (by omega);rw[w1,w2,w3];by_cases hsh:sig.length<4+Z+56
 ·rw[if_pos hsh] at hV;subst hV;refine jn_at (true,()) h ?_ ?_
  ·rw[if_neg (show ¬decide (((Z:Nat):Int)=0)=true from dn (by omega))];exact ⟨by rw[decide_eq_true (show ((bx sig).size:Int)<((60+Z:Nat):Int) by rw[bx_size];omega)],rfl⟩
  ·rw[if_pos rfl];exact hK h Keep.rfl
 rw[if_neg hsh] at hV;refine jn_at (false,()) h ?_ ?_
 ·rw[if_neg (show ¬decide (((Z:Nat):Int)=0)=true from dn (by omega))];exact ⟨by rw[decide_eq_false (show ¬((bx sig).size:Int)<((60+Z:Nat):Int) by rw[bx_size];omega)],rfl⟩
 rw[if_neg (by simp)];refine sls_by (lo:=4+Z) (hi:=60+Z) (by omega) (by omega) ?_;rw[show (sig.take (60+Z)).drop (4+Z)=(sig.drop (4+Z)).take 56 by rw[List.drop_take];congr 1;omega];refine sls_from (lo:=4) (by omega) ?_;refine sls_by (lo:=4) (hi:=4+Z) (by omega) (by omega) ?_;rw[show (sig.take (4+Z)).drop 4=(sig.drop 4).take Z by rw[List.drop_take];congr 1;omega];refine ref1_LmsVerify.s (by omega) (by rw[List.length_take,List.length_drop];omega) fun h8 k8 =>?_;refine sls_from (lo:=60+Z) (by omega) ?_;refine ref1_LmsVerify.s (by rw[List.length_take,List.length_drop];omega) (by rw[List.length_drop];omega) fun h9 k9 =>?_;have k09:=k8.n k9;generalize lmsV (pub.drop 4) ((sig.drop (4+Z)).take 56) ((sig.drop 4).take Z)=a at *;generalize lmsV ((sig.drop (4+Z)).take 56) msg (sig.drop (60+Z))=b at *;replace hK:=hK h9 k09;by_cases c1:a=500∨b=500
 ·rw[if_pos c1] at hV;subst hV;refine jn_in (fun _ _=>False) ?_ (fun _ _ h=>h.elim);refine jn_at (true,()) h9 ?_ ?_
  ·by_cases ca:a=500
   ·rw[if_pos (decide_eq_true ca)];exact ⟨rfl,rfl⟩
   ·rw[if_neg (by simpa using ca)];exact ⟨by rw[decide_eq_true (show b=500 by rcases c1 with h | h;exact absurd h ca;exact h)],rfl⟩
  ·rw[if_pos rfl];exact hK
 rw[if_neg c1] at hV;have ca:a≠500:=fun h=>c1 (.inl h);have cb:b≠500:=fun h=>c1 (.inr h);by_cases c2:a=0∧b=0
 ·rw[if_pos c2] at hV;subst hV;refine jn_in (fun _ h'=>h'=h9) ?_ ?_
  ·refine jn_at (false,()) h9 ?_ ?_
   ·rw[if_neg (by simpa using ca)];exact ⟨by rw[decide_eq_false cb],rfl⟩
   ·rw[if_neg (by simp)];refine jn_at (false,()) h9 ?_ ?_
    ·rw[if_neg (by simp[c2.1])];exact ⟨by rw[decide_eq_true c2.2];rfl,rfl⟩
    ·rw[if_neg (by simp)]
  ·rintro _ h' rfl;exact hK
 ·rw[if_neg c2] at hV;subst hV;refine jn_in (fun _ _=>False) ?_ (fun _ _ h=>h.elim);refine jn_at (false,()) h9 ?_ ?_
  ·rw[if_neg (by simpa using ca)];exact ⟨by rw[decide_eq_false cb],rfl⟩
  ·rw[if_neg (by simp)];refine jn_at (true,()) h9 ?_ ?_
   ·by_cases c3:a=0
    ·rw[if_neg (by simp[c3])];have c4:¬b=0:=fun h=>c2 ⟨c3,h⟩;exact ⟨by rw[decide_eq_false c4];rfl,rfl⟩
    ·rw[if_pos (by simpa using c3)];exact ⟨rfl,rfl⟩
   ·rw[if_pos rfl];exact hK
theorem ref18_sameVec.s {a b:Slc} {xs ys:List Int} {h:Heap} {K:Bool→Heap→Prop} (ga:Seg .i a xs h) (gb:Seg .i b ys h) (hl:xs.length≤9223372036854775807) (hK:K (decide (xs=ys)) h):ref18_sameVec.C a b h K:=by
 apply ref18_sameVec.c;unfold ref18_sameVec.m;have la:=ga.len;have lb:=gb.len;by_cases hlen:xs.length=ys.length
 case neg=>
  rw[if_pos (by simp;omega)];rw[decide_eq_false (fun e=>hlen (by rw[e]))] at hK;exact hK
 rw[if_neg (by simp;omega)];refine lp_go (fun (y:Int×Unit) (h1:Heap)=>h1=h∧∃n:Nat,y.1=n∧n≤xs.length∧xs.take n=ys.take n) (fun (y:Int×Unit) _=>xs.length-y.1.toNat) ?_ ?_
 ·exact ⟨rfl,0,rfl,by omega,by simp⟩
 rintro ⟨(i:Int),_⟩ h1 ⟨rfl,n,e,hn,ht⟩;dsimp only at e ⊢;subst e;by_cases hlt:n<xs.length
 case neg=>
  rw[if_neg (show ¬decide ((n:Int)<(a.len:Int))=true from dn (by omega))]
  have:xs=ys:=by
   rw[List.take_of_length_le (by omega),List.take_of_length_le (by omega)] at ht;exact ht
  rw[decide_eq_true this] at hK;exact hK
 rw[if_pos (show decide ((n:Int)<(a.len:Int))=true from decide_eq_true (by omega))];have hw:w64 ((n:Int)+1)=((n+1:Nat):Int):=w6 (by omega);rw[hw];have hlt':n<ys.length:=by omega
 refine seg_ix ga (x:=xs[n]) (by omega) (by rw[Int.toNat_natCast];exact List.getElem?_eq_getElem hlt) rfl ?_;refine seg_ix gb (x:=ys[n]) (by omega) (by rw[Int.toNat_natCast];exact List.getElem?_eq_getElem hlt') rfl ?_;by_cases he:xs[n]=ys[n]
 ·rw[if_neg (by simpa using he)];refine ⟨⟨by first | rfl | trivial,n+1,rfl,by omega,?_⟩,by simp;omega⟩;rw[List.take_succ_eq_append_getElem hlt,List.take_succ_eq_append_getElem hlt',ht,he]
 ·rw[if_pos (by simpa using he)];rw[decide_eq_false (fun e=>he (by subst e;rfl))] at hK;exact hK
theorem ref18_Verify.s {v:EtK.Ty} {e:Ett} {pub:By} {h:Heap} {K:Int→Heap→Prop} (a:EtAt h v e) (hl:e.vec.length≤9223372036854775806) (hpl:pub.length≤9223372036854775807) (hK:∀h',Keep [] h h'→K (verE e pub) h'):ref18_Verify.C v (bx pub) h K:=by
 apply ref18_Verify.c;unfold ref18_Verify.m;refine new_gen fun b h1 hb k1 e1 hs1 =>?_;have e1:h1[b]? = some (vobj t_api_Entry EtK v):=e1;refine ld_go (sm_all e1) ?_;refine ref18_Put.s (a.keep k1) hl fun h2 k2 =>?_;have k02:Keep [] h h2:=k1.n k2;unfold verE at hK
 cases hp:putMay e with
 | false =>
   rw[hp] at hK;rw[if_pos (by rfl)];exact hK h2 k02
 | true =>
   rw[hp,if_pos rfl] at hK;rw[if_neg (by simp)];have hm:ettMay e=true:=by unfold putMay at hp;simp only [Bool.and_eq_true] at hp;exact hp.1
   have hs:e.sign.length≤8192:=by unfold putMay at hp;simp only [Bool.and_eq_true,decide_eq_true_eq] at hp;exact hp.2
   refine ld_go (sm_all (k2.g e1)) ?_;refine ref18_Body.s (a.keep k02) hl fun h3 k3 =>?_;rw[if_pos hm];obtain ⟨f0,f1,f2,f3,f35,f36⟩:=et_f ((k2.n k3).g e1);rw[a.s] at f36;refine ld_go f36 ?_
   have bl:(bodyE e).length≤60000:=by
    obtain ⟨u0,u1,q0,q1,vx,v1,v16,t1,t24⟩:=ett_of hm;unfold bodyE;simp only [List.length_append,be_len,flat2_len,flat32_len,List.length_cons,List.length_nil];have:(Vector.toList e.root).length=32:=by simp
    omega
   refine ref18_said.s bl fun h4 k4=>⟨sm_keep (by decide) f36 k4,?_⟩;have hS:Hl (tagL 1 [bx (bodyE e)])=sayE e:=Eq.refl _;rw[hS];generalize sayE e=M at *;refine ref1_HssVerify.s hpl (by omega) fun h5 k5 =>?_;have k05:=((k02.n k3).n k4).n k5;by_cases c:hssV pub M e.sign=0
   ·rw[if_pos c] at hK;rw[if_neg (by simp[c])];exact hK h5 k05
   ·rw[if_neg c] at hK;rw[if_pos (by simpa using c)];exact hK h5 k05
section
variable {n1 c:Nat} {h:Heap} {kv:KeK.Ty} {fs es ls:Slc} {evs:List EtK.Ty} {C:Cn}
theorem ref18_foreign.s {v:EtK.Ty} {e:Ett} {K:Bool→Heap→Prop} (i:IsRc n1 h c kv fs es ls evs C) (ka:KeAt h kv ⟨C.m,C.pubs⟩) (o:CnOk C) (a:EtAt h v e) (ht:(e.tables.length:Int)=prins C.m) (hK:∀h',Keep [] h h'→K (!tabsOk C e) h'):ref18_Chain_foreign.C (some ⟨c,0⟩) v h K:=by
 apply ref18_Chain_foreign.c;unfold ref18_Chain_foreign.m;obtain ⟨u1,u2,u3⟩:=o.u;obtain ⟨v1,v2,v3⟩:=o.v;have hpr:prins C.m≤24:=by unfold prins;omega
 refine new_gen fun b1 h1 hb1 k1 e1 hs1 =>?_;have eb:h1[b1]? = some (vobj t_api_Entry EtK v):=e1;refine ref18_Tables.s (i.keep0 k1) (fun s2 g2 rT =>?_) o.n;have gl:=g2.len;unfold tabsOk at hK;have htl:e.tables.length=(lastTab C).length:=by omega
 generalize lastTab C=T at *;refine lp_go (fun (y:Int×Unit) (h2:Heap)=>∃n:Nat,y.1=n∧n≤T.length∧Keep [] h1 h2∧((List.range n).all fun (p:Nat)=>mIn C.m e.user (p:Int)||decide (e.tables.getD p (Vector.replicate 32 0)=T.getD p (Vector.replicate 32 0)))=true) (fun (y:Int×Unit) _=>T.length-y.1.toNat) ?_ ?_
 ·exact ⟨0,rfl,Nat.zero_le _,Keep.rfl,by simp⟩
 rintro ⟨(jj:Int),_⟩ h2 ⟨n,en,hn,k2,hall⟩;dsimp only at en ⊢;subst en;have k02:Keep [] h h2:=k1.n k2;by_cases hlt:n<T.length
 ·rw[if_pos (show decide ((n:Int)<(s2.len:Int))=true from decide_eq_true (by omega))];have hw:w64 ((n:Int)+1)=((n+1:Nat):Int):=w6 (by omega);rw[hw];have d1:e.tables.getD n (Vector.replicate 32 0)=e.tables[n]'(by omega):=by rw[List.getD_eq_getElem?_getD,List.getElem?_eq_getElem (by omega)];rfl
  have d2:T.getD n (Vector.replicate 32 0)=T[n]:=by rw[List.getD_eq_getElem?_getD,List.getElem?_eq_getElem hlt];rfl
  refine jn_in (fun _ h'=>Keep [] h1 h'∧(mIn C.m e.user (n:Int)||decide (e.tables.getD n (Vector.replicate 32 0)=T.getD n (Vector.replicate 32 0)))=true) ?_ ?_
  ·refine jn_in (fun y h'=>Keep [] h1 h'∧y=(!(mIn C.m e.user (n:Int)||decide (e.tables.getD n (Vector.replicate 32 0)=T.getD n (Vector.replicate 32 0))),())) ?_ ?_
   ·refine ld_go (et_f (k2.g eb)).2.2.2.2.1 ?_;refine seg_ix (a.keep k02).t (x:=e.tables[n]'(by omega)) (by omega) (by rw[Int.toNat_natCast];exact List.getElem?_eq_getElem (by omega)) rfl ?_;refine seg_ix (g2.keep (by decide) k2) (x:=T[n]) (by omega) (by rw[Int.toNat_natCast];exact List.getElem?_eq_getElem hlt) rfl ?_;rw[d1,d2];have hb:=beq_eq (k := .ar 32 .u8) rfl (x:=e.tables[n]'(by omega)) (y:=T[n]);by_cases hx:e.tables[n]'(by omega)=T[n]
    ·rw[hb.2 hx,if_neg (by simp),decide_eq_true hx,Bool.or_true];exact ⟨k2,rfl⟩
    ·have hbf:Kd.beq (.ar 32 .u8) (e.tables[n]'(by omega)) T[n]=false:=by
      cases hc:Kd.beq (.ar 32 .u8) (e.tables[n]'(by omega)) T[n] with
      | true=>exact absurd (hb.1 hc) hx
      | false=>rfl
     rw[hbf,if_pos (by rfl),decide_eq_false hx,Bool.or_false];have i2:=i.keep0 k02;refine nck_go (ld_go (rc_f i2.e).2.2.2.2.1 (ld_go (et_f (k2.g eb)).1 ?_));rw[a.u];refine ref15_In.s (ka.keep k02).m (by show C.m.groups.length≤_;omega) fun h5 k5=>⟨k2.n k5,?_⟩;have hmm:mbMay (⟨C.m,C.pubs⟩:Kys).m=true:=o.m;show (!(mbMay (⟨C.m,C.pubs⟩:Kys).m&&mIn C.m e.user (n:Int)),())=_;rw[hmm,Bool.true_and]
   ·rintro _ h4 ⟨k4,rfl⟩
    cases hb:(mIn C.m e.user (n:Int)||decide (e.tables.getD n (Vector.replicate 32 0)=T.getD n (Vector.replicate 32 0))) with
    | true=>rw[if_neg (by simp)];exact ⟨k4,rfl⟩
    | false =>
      rw[if_pos (by rfl)];have:=hK h4 (k1.n k4)
      have hf:((List.range T.length).all fun (p:Nat)=>mIn C.m e.user (p:Int)||decide (e.tables.getD p (Vector.replicate 32 0)=T.getD p (Vector.replicate 32 0)))=false:=by
       rw[List.all_eq_false];exact ⟨n,List.mem_range.2 hlt,by rw[hb];simp⟩
      rw[hf] at this;exact this
  ·rintro _ h3 ⟨k3,hb⟩;refine ⟨⟨n+1,rfl,by omega,k3,?_⟩,by simp;omega⟩;rw[List.range_succ,List.all_append,hall];simpa using hb
 ·rw[if_neg (show ¬decide ((n:Int)<(s2.len:Int))=true from dn (by omega))];obtain rfl:n=T.length:=by omega
  have:=hK h2 k02;rw[hall] at this;exact this
theorem ref18_Check.s {v:EtK.Ty} {e:Ett} {K:Int→Heap→Prop} (i:IsRc n1 h c kv fs es ls evs C) (ka:KeAt h kv ⟨C.m,C.pubs⟩) (o:CnOk C) (a:EtAt h v e) (hl:e.vec.length≤9223372036854775806) (hK:∀h',Keep [] h h'→K (chkC C e) h'):ref18_Chain_Check.C (some ⟨c,0⟩) v h K:=by
 apply ref18_Chain_Check.c;unfold ref18_Chain_Check.m;obtain ⟨u1,u2,u3⟩:=o.u;have on:=o.n;have al:es.len=C.all.length:=by rw[i.a.len,i.x.len]
 have hmu:kv.1.1=C.m.users:=ka.m.u;refine new_gen fun b1 h1 hb1 k1 e1 hs1 =>?_;have e1:h1[b1]? = some (vobj t_api_Entry EtK v):=e1;refine ld_go (sm_all e1) ?_;refine ref18_Put.s (a.keep k1) hl fun h2 k2 =>?_;have k02:=k1.n k2;have i2:=i.keep0 k02;refine nck_go (ld_go (rc_f i2.e).2.2.2.2.1 ?_);refine new_st_gen fun b2 h4 hb2 k4 e4 hs4 =>?_;have e4:h4[b2]? = some (vobj t_api_Members MbK kv.1):=e4;have k04:=k02.n k4;have k14:Keep [] h1 h4:=k2.n k4;have e14:=k14.g e1;have i4:=i.keep0 k04;have wl:=a.w.len;have tl:=a.t.len;unfold chkC at hK;refine jn_in (fun _ h'=>Keep [] h h'∧(if frmC C e=true then if e.seq=(C.all.length:Int)+1 then if e.user<C.m.users then if e.vec=nextVec C e.user then if e.root=rootV (C.all.map putE) then if tabsOk C e=true then if verE e (C.pubs.getD e.user.toNat [])=0 then 0 else 2006 else 2005 else 2004 else 2003 else 2002 else 2001 else 2000)=(0:Int)) ?_ ?_
 case refine_2=>
  rintro _ h5 ⟨k5,e0⟩;have:=hK h5 k5;rw[e0] at this;exact this
 refine jn_in (fun y h'=>Keep [] h4 h'∧y=(!frmC C e,())) ?_ ?_
 ·unfold frmC
  cases hp:putMay e with
  | false=>rw[if_pos (by rfl)];exact ⟨Keep.rfl,by simp⟩
  | true =>
    rw[if_neg (by simp),Bool.true_and];obtain ⟨f0,f1,f2,f3,f35,f36⟩:=et_f e14;refine ld_go f2 ?_;have g0:sm .i ((Pl.mk b2 0).fld 0) C.m.users h4:=by rw[←hmu];exact sm_fld (n:=0) (k' := .i) e4 rfl (by decide)
    refine ld_go g0 ?_;rw[wl];by_cases c1:(e.vec.length:Int)=C.m.users
    ·rw[if_neg (by simp[c1]),decide_eq_true c1,Bool.true_and];refine ld_go f35 (ld_go (sm_all e4) ?_);refine ref15_Principals.s (ka.keep k04).m o.m fun h7 k7=>⟨sm_keep (by decide) f35 k7,?_⟩;rw[tl];by_cases c2:(e.tables.length:Int)=prins C.m
     ·rw[if_neg (by simp[c2]),decide_eq_true c2,Bool.true_and];refine nck_go (ld_go (rc_f (i4.keep0 k7).e).2.2.1 ⟨k7,?_⟩);rw[al]
      have:decide ((C.all.length:Int)≥256) = !decide (C.all.length<256):=by
       by_cases hc:C.all.length<256
       ·rw[decide_eq_true hc,decide_eq_false (by omega)];rfl
       ·rw[decide_eq_false hc,decide_eq_true (by omega)];rfl
      rw[this]
     ·rw[if_pos (by simpa using c2),decide_eq_false c2];exact ⟨k7,rfl⟩
    ·rw[if_pos (by simpa using c1),decide_eq_false c1];exact ⟨Keep.rfl,rfl⟩
 rintro _ h6 ⟨k6,rfl⟩;dsimp only;have k06:=k04.n k6;have e16:=k6.g e14;have i6:=i.keep0 k06;obtain ⟨f0,f1,f2,f3,f35,f36⟩:=et_f e16
 cases hf:frmC C e with
 | false =>
   rw[if_pos (by rfl)];rw[hf] at hK;exact hK h6 k06
 | true =>
   rw[if_neg (by simp)];rw[hf,if_pos rfl] at hK;rw[if_pos rfl];have hf':=hf;unfold frmC at hf';simp only [Bool.and_eq_true,decide_eq_true_eq] at hf';obtain ⟨hp,hv,ht,hn⟩:=hf';obtain ⟨pu0,pu1⟩:=put_user hp;refine ld_go f1 (nck_go (ld_go (rc_f i6.e).2.2.1 ?_));have hw:w64 ((es.len:Int)+1)=(C.all.length:Int)+1:=w6 (by omega);rw[a.q,hw];by_cases c1:e.seq=(C.all.length:Int)+1
   case neg=>
    rw[if_pos (by simpa using c1)];rw[if_neg c1] at hK;exact hK h6 k06
   rw[if_neg (by simpa using c1)];rw[if_pos c1] at hK ⊢;have g0:sm .i ((Pl.mk b2 0).fld 0) C.m.users h6:=by rw[←hmu];exact sm_fld (n:=0) (k' := .i) (k6.g e4) rfl (by decide)
   refine ld_go f0 (ld_go g0 ?_);rw[a.u];by_cases c2:e.user<C.m.users
   case neg=>
    rw[if_pos (show decide (e.user≥C.m.users)=true from decide_eq_true (by omega))];rw[if_neg c2] at hK;exact hK h6 k06
   rw[if_neg (by simpa using c2)];rw[if_pos c2] at hK ⊢;refine ld_go f2 (ld_go f0 ?_);rw[a.u];refine ref18_vec.s i6 (ka.keep k06) o pu0 c2 fun h8 s8 k8 r8 o8=>⟨sm_keep (by decide) f2 k8,?_⟩;have k08:=k06.n k8;refine ref18_sameVec.s (a.keep k08).w r8.seg (by omega) ?_;by_cases c3:e.vec=nextVec C e.user
   case neg=>
    rw[decide_eq_false c3,if_pos (by rfl)];rw[if_neg c3] at hK;exact hK h8 k08
   rw[decide_eq_true c3,if_neg (by simp)];rw[if_pos c3] at hK ⊢;refine ld_go (sm_keep (by decide) f3 k8) ?_;rw[a.r];have f3':sm (.ar 32 .u8) ((Pl.mk b1 0).fld 3) e.root h8:=by rw[←a.r];exact sm_keep (by decide) f3 k8
   refine ref18_Root.s (i.keep0 k08) o fun h10 k10=>⟨sm_keep (by decide) f3' k10,?_⟩;have k0_10:=k08.n k10;obtain ⟨R,hR⟩:∃R,rootV (C.all.map putE)=R:=⟨_,rfl⟩;rw[hR] at hK ⊢;have hb:=beq_eq (k := .ar 32 .u8) rfl (x:=e.root) (y:=R);by_cases c4:e.root=R
   case neg=>
    have hbf:Kd.beq (.ar 32 .u8) e.root R=false:=by
     cases hc:Kd.beq (.ar 32 .u8) e.root R with
     | true=>exact absurd (hb.1 hc) c4
     | false=>rfl
    rw[hbf,if_pos (by rfl)];rw[if_neg c4] at hK;exact hK h10 k0_10
   rw[hb.2 c4,if_neg (by simp)];rw[if_pos c4] at hK ⊢;have k6_10:Keep [] h6 h10:=k8.n k10;refine ld_go (sm_all (k6_10.g e16)) ?_;refine ref18_foreign.s (i.keep0 k0_10) (ka.keep k0_10) o (a.keep k0_10) ht fun h11 k11 =>?_;have k0_11:=k0_10.n k11
   cases c5:tabsOk C e with
   | false =>
     rw[if_pos (by rfl)];rw[c5,if_neg (by simp)] at hK;exact hK h11 k0_11
   | true =>
     rw[if_neg (by simp)];rw[c5,if_pos rfl] at hK;rw[if_pos rfl];have k6_11:=k6_10.n k11;have e11:=k6_11.g e16;obtain ⟨f0,f1,f2,f3,f35,f36⟩:=et_f e11;refine ld_go (sm_all e11) (nck_go (ld_go (rc_f (i.keep0 k0_11).e).2.2.2.2.2.1 (ld_go f0 ?_)));rw[a.u];have hpl:e.user.toNat<C.pubs.length:=by have:=o.p;omega
     have hgd:C.pubs.getD e.user.toNat []=C.pubs[e.user.toNat]:=by rw[List.getD_eq_getElem?_getD,List.getElem?_eq_getElem hpl];rfl
     have h60:=o.p60 _ (List.getElem_mem hpl);refine seg_ix (ka.keep k0_11).p (x:=bx C.pubs[e.user.toNat]) pu0 (by rw[List.getElem?_map,List.getElem?_eq_getElem hpl];rfl) rfl ?_;rw[hgd] at hK ⊢;refine ref18_Verify.s (a.keep k0_11) hl (by omega) fun h12 k12 =>?_;have k0_12:=k0_11.n k12;by_cases c6:verE e C.pubs[e.user.toNat]=0
     ·rw[if_neg (by simp[c6])];exact ⟨k0_12,if_pos c6⟩
     ·rw[if_pos (by simpa using c6)];rw[if_neg c6] at hK;exact hK h12 k0_12
end
theorem law0_SameInts.s {a b:Slc} {xs ys:List Int} {h:Heap} {K:Bool→Heap→Prop} (ga:Seg .i a xs h) (gb:Seg .i b ys h) (hl:xs.length≤9223372036854775807) (hK:K (decide (xs=ys)) h):law0_SameInts.C a b h K:=by
 apply law0_SameInts.c;unfold law0_SameInts.m;have la:=ga.len;have lb:=gb.len;by_cases hlen:xs.length=ys.length
 case neg=>
  rw[if_pos (by simp;omega)];rw[decide_eq_false (fun e=>hlen (by rw[e]))] at hK;exact hK
 rw[if_neg (by simp;omega)];refine lp_go (fun (y:Int×Unit) (h1:Heap)=>h1=h∧∃n:Nat,y.1=n∧n≤xs.length∧xs.take n=ys.take n) (fun (y:Int×Unit) _=>xs.length-y.1.toNat) ?_ ?_
 ·exact ⟨rfl,0,rfl,by omega,by simp⟩
 rintro ⟨(i:Int),_⟩ h1 ⟨rfl,n,e,hn,ht⟩;dsimp only at e ⊢;subst e;by_cases hlt:n<xs.length
 case neg=>
  rw[if_neg (show ¬decide ((n:Int)<(a.len:Int))=true from dn (by omega))]
  have:xs=ys:=by
   rw[List.take_of_length_le (by omega),List.take_of_length_le (by omega)] at ht;exact ht
  rw[decide_eq_true this] at hK;exact hK
 rw[if_pos (show decide ((n:Int)<(a.len:Int))=true from decide_eq_true (by omega))];have hw:w64 ((n:Int)+1)=((n+1:Nat):Int):=w6 (by omega);rw[hw];have hlt':n<ys.length:=by omega
 refine seg_ix ga (x:=xs[n]) (by omega) (by rw[Int.toNat_natCast];exact List.getElem?_eq_getElem hlt) rfl ?_;refine seg_ix gb (x:=ys[n]) (by omega) (by rw[Int.toNat_natCast];exact List.getElem?_eq_getElem hlt') rfl ?_;by_cases he:xs[n]=ys[n]
 ·rw[if_neg (by simpa using he)];refine ⟨⟨by first | rfl | trivial,n+1,rfl,by omega,?_⟩,by simp;omega⟩;rw[List.take_succ_eq_append_getElem hlt,List.take_succ_eq_append_getElem hlt',ht,he]
 ·rw[if_pos (by simpa using he)];rw[decide_eq_false (fun e=>he (by subst e;rfl))] at hK;exact hK
theorem seed_spent {d:Sd} {n:Nat} (hn:n<4):spentH (d.k n)=false:=by
 unfold spentH;refine decide_eq_false ?_;show ¬(n:Int)=4;omega
theorem IsCh.off {n0 c t:Nat} {h:Heap} {mv:MbK.Ty} {ps bs es:Slc} {evs:List EtK.Ty} {C:Cn} (i:IsCh n0 h c t mv ps bs es evs C):n0≤c∧c<h.size∧n0≤t∧t<h.size∧(∀T,T≠t_chain_Chain→∀cc f,h[c]? ≠ some (.cells cc T f))∧(∀T,T≠t_mlog_Tree→∀cc f,h[t]? ≠ some (.cells cc T f)):=by
 obtain ⟨⟨s,row,e,r,p,oo⟩,l⟩:=i.t;refine ⟨i.lc,lt_of_some i.e,l,lt_of_some e,fun T hT=>cell_ne (o := .cells #[] 0 (0,0)) i.e hT,fun T hT=>cell_ne (o := .cells #[] 0 (0,0)) e hT⟩
theorem key_1 {a b:Sd} {x y:Nat}:([hkV (a.k x),hkV (b.k y)]:List LkK.Ty)[(1:Int).toNat]? = some (hkV (b.k y)):=rfl
theorem ifd {a:Int} {P Q:Prop}:(if decide (a=a)=true then P else Q)=P:=if_pos (by simp)
theorem law20_awake.s {h:Heap} {K:Bool→Heap→Prop} (hK:∀h',Keep [] h h'→K true h'):law20_awake.C h K:=by
 apply law20_awake.c;unfold law20_awake.m;show law20_made.C (bx []) (bx []) h _;refine law20_made.s fun kv ks h1 k1 md =>?_;generalize sdA []=A at md;generalize sdB []=B at md;have z1:=k1.1;refine new_st_gen fun b1 h3 hb1 k3 e3 hs3 =>?_;have e3:h3[b1]? = some (vobj t_api_Keys KeK kv):=e3;refine ld_go (sm_all e3) ?_;have z3:=k3.1;refine chain_New.s (k:=clbK A B) (md.at.keep k3) (by unfold clbK;simp) (by intro g hg;unfold clbK clb at hg;simp at hg;subst hg;decide) (fun hn=>by rw[clb_may] at hn;simp at hn) fun _ h4 c t mv ps bs k4 i4 =>?_;have o4:CnOk (newC (clbK A B)):=clb_new;have cc:ClubC A B (newC (clbK A B)):=clb_c;have hall:(newC (clbK A B)).all=[]:=rfl;have hlt:lastTab (newC (clbK A B))=(newC (clbK A B)).begin:=rfl;have hnv:nextVec (newC (clbK A B)) ((1:Nat):Int)=[0,1]:=by unfold nextVec lastVec;rw[hall,cc.m];rfl
 have hmay:=clb_may (a:=A) (b:=B);have hmm:(clbK A B).m=clb:=rfl;have hpp:(clbK A B).pubs.length=2:=rfl;have f4:=i4.off;refine ld_go (sm_all (k4.g e3)) ?_;refine chain_Start.s (k:=clbK A B) (md.at.keep (k3.n k4)) (by rw[hpp];decide) (fun hn=>by rw[hmay] at hn;simp at hn) fun _ h5 k5 =>?_;refine new_st_gen fun b2 h7 hb2 k7 e7 hs7 =>?_;have e7:h7[b2]? = some (vobj t_api_Log LgK ((0,(rootV [],(et0,()))):LgK.Ty)):=e7;have k47:Keep [] h4 h7:=k5.n k7;have k37:Keep [] h3 h7:=k4.n k47;have z5:=k5.1;refine jn_at (false,()) h7 ?_ ?_
 ·refine law0_Num.s ?_;rw[if_neg (by simp)];exact ⟨by simp,rfl⟩
 rw[if_neg (by simp)];refine ld_go (sm_all (k37.g e3)) ?_;refine ref18_NewChain.s (k:=clbK A B) (md.at.keep (k3.n k37)) (by rw[hpp];decide) (by rw[hmm];decide) (fun hn=>by rw[hmay] at hn;simp at hn) fun _ h10 c2 fs k10 ir =>?_;generalize hC:newC (clbK A B)=C at *;refine ref18_Tables.s ir (fun T2 gT rT =>?_) (by rw[hall];decide);have hT3:(lastTab C).length=3:=cc.last o4;have k4_10:Keep [] h4 h10:=k47.n k10;show chain_Chain_Next.C (some ⟨c,0⟩) ((1:Nat):Int) T2 h10 _;refine chain_Next.s (i4.keep0 k4_10) o4 gT (by rw[hT3];decide) (fun hn=>by rw[hT3,nxt_may cc (by decide) (by rw[hall];decide)] at hn;simp at hn) fun _ v h12 k12 er no =>?_;refine new_st_gen fun b3 h14 hb3 k14 e14 hs14 =>?_;have e14:h14[b3]? = some (vobj t_api_Entry EtK v):=e14;have k4_14:Keep [] h4 h14:=(k4_10.n k12).n k14;have k3_14:Keep [] h3 h14:=k4.n k4_14;have er14:EtR h14 v (nextE C ((1:Nat):Int) (lastTab C)):=er.keep k14 (by simp);have hvo:(nextVec C ((1:Nat):Int)).all vecOk=true:=by rw[hnv];decide
 have hem:=next_may cc o4 (u:=1) (by decide) hT3 (by rw[hall];decide) hvo;have hvl:(nextE C ((1:Nat):Int) (lastTab C)).vec.length=2:=next_len cc o4
 have hc0:chkC C (sgnE (nextE C ((1:Nat):Int) (lastTab C)) (B.k 0))=0:=by
  have:=chk_next cc o4 (u:=1) (n:=0) (by decide) hT3 (by rw[hall];decide) hvo (by decide);rw[if_pos tabs_same] at this;exact this
 have hcu:=chk_bare cc o4 (u:=1) (by decide) (by rw[hall];decide) hvo;have hpm:=sgn_may (d:=B) (n:=0) (by decide) hem;have hag:=chk_again cc hpm hvl hT3 (by rw[hall];decide) rfl;have hsd:sgnE (nextE C ((1:Nat):Int) (lastTab C)) (B.k 0)={ nextE C ((1:Nat):Int) (lastTab C) with sign:=hssSig (B.k 0) (sayE (nextE C ((1:Nat):Int) (lastTab C))) }:=rfl
 have hseq:(nextE C ((1:Nat):Int) (lastTab C)).seq=1:=by
  have:(nextE C ((1:Nat):Int) (lastTab C)).seq=(C.all.length:Int)+1:=rfl;rw[this,hall];rfl
 have hvec:(nextE C ((1:Nat):Int) (lastTab C)).vec=[0,1]:=hnv;have hag:chkC { C with all:=C.all++[sgnE (nextE C ((1:Nat):Int) (lastTab C)) (B.k 0)] } (sgnE (nextE C ((1:Nat):Int) (lastTab C)) (B.k 0))=2001:=hag;have hsv:(sgnE (nextE C ((1:Nat):Int) (lastTab C)) (B.k 0)).vec.length=2:=hvl;generalize nextE C ((1:Nat):Int) (lastTab C)=u at *;generalize sgnE u (B.k 0)=s at *;refine jn_in (fun (y:Pl×Unit) h'=>∃p,y=(Pl.mk p 0,())∧h'[p]? = some (vobj t_api_Entry EtK (sgnV v (hssSig (B.k 0) (sayE u))))∧Keep [] h14 h'∧h14.size≤p) ?_ ?_
 ·refine ld_go (sm_all e14) ?_;have mk14:=(md.keep0 (k3.n k3_14)).k;refine seg_ixl mk14.seg (by decide) key_1 rfl fun l1 gl=>ld_go gl ?_;refine sign_blk (J:=fun p q c h'=>∃p',((p,()):Pl×Unit)=(Pl.mk p' 0,())∧h'[p']? = some (vobj t_api_Entry EtK (sgnV v (hssSig (B.k 0) (sayE u))))∧Keep [] h14 h'∧h14.size≤p') (c:=0) (v':=sgnV v (hssSig (B.k 0) (sayE u))) (kv':=hkV { (B.k 0) with next:=(B.k 0).next+1 }) (sm_all e14) gl (fun h1 K' kk hk =>?_) (fun p q h' ep eq k lp lq=>⟨p,rfl,ep,k,lp⟩);exact ref18_Sign.s (er14.at.keep kk) (by rw[hvl];decide) (seed_may (by decide)) (fun hn=>by rw[hem] at hn;simp at hn) (fun _ hn=>by rw[seed_spent (by decide)] at hn;simp at hn) (fun _ _ h' k'=>hk h' k')
 rintro _ h15 ⟨p,rfl,e15,k15,lp⟩;dsimp only;have k4_15:Keep [] h4 h15:=k4_14.n k15;refine ld_go (sm_all e15) ?_;have es15:EtR h15 (sgnV v (hssSig (B.k 0) (sayE u))) s:=by rw[hsd];exact (er14.keep k15 (by simp)).sgn
 generalize sgnV v (hssSig (B.k 0) (sayE u))=sv at *;refine chain_Check.s (i4.keep0 k4_15) o4 es15.at (by rw[hsv];decide) fun h43 k43 =>?_;rw[hc0];have k14_43:Keep [] h14 h43:=k15.n k43;refine ld_go (sm_all (k14_43.g e14)) ?_;have i43:=i4.keep0 (k4_15.n k43);refine chain_Add.s i43 o4 (er14.at.keep k14_43) (by rw[hvl];decide) (fun _ h44 k44 =>?_) (fun hn=>by rw[hcu] at hn;simp at hn);rw[hcu];have k15_44:Keep [] h15 h44:=k43.n k44;refine ld_go (sm_all (k15_44.g e15)) ?_;have es44:=es15.keep k15_44 (by simp);refine chain_Add.s (i43.keep0 k44) o4 es44.at (by rw[hsv];decide) (fun hn=>absurd hc0 hn) (fun _ h45 es' evs' k45 i45 hne =>?_);have lp15:=lt_of_some e15;have z14:=k15.1;have z4_14:=k4_14.1;obtain ⟨o1,o2,o3,o4',o5,o6⟩:=f4;have k45:Keep [c,t] h44 h45:=k45.weak fun b hb _=>by simpa[own] using hb
 have off44:=(i43.keep0 k44).off;have ep45:=k45.get (k15_44.g e15) (by simp;omega)
 have es45:EtR h45 sv s:=es44.keep k45 fun b hb hm=>by
  have:∀T,T=t_int∨T=t_api_Hash→∀cc f,h44[b]? ≠ some (.cells cc T f):=fun T hT=>by
   simp only [List.mem_cons,List.not_mem_nil,or_false] at hm;rcases hm with rfl | rfl
   ·exact off44.2.2.2.2.1 T (by rcases hT with rfl | rfl <;> decide)
   ·exact off44.2.2.2.2.2 T (by rcases hT with rfl | rfl <;> decide)
  unfold etO at hb;rcases List.mem_append.1 hb with hb | hb
  ·rcases es44.w with ⟨e,_⟩ | ⟨b',zs,e,_,_,e4⟩
   ·rw[e] at hb;simp[own] at hb
   ·have e0:b=b':=by unfold own at hb;rw[e] at hb;simpa using hb
    subst e0;exact this t_int (by simp) _ _ e4
  ·rcases es44.t with ⟨e,_⟩ | ⟨b',zs,e,_,_,e4⟩
   ·rw[e] at hb;simp[own] at hb
   ·have e0:b=b':=by unfold own at hb;rw[e] at hb;simpa using hb
    subst e0;exact this t_api_Hash (by simp) _ _ e4
 refine ld_go (sm_all ep45) ?_;obtain ⟨o45,_,_⟩:=chk_ok o4 hc0;refine chain_Add.s i45 o45 es45.at (by rw[hsv];decide) (fun _ h46 k46 =>?_) (fun hn=>by rw[hag] at hn;simp at hn);rw[hag];refine chain_New.s (k:=⟨⟨0,[]⟩,[]⟩) ⟨⟨rfl,[],(Row.nil (T:=t_s_int)).seg,trivial⟩,(Row.nil (T:=t_string)).seg⟩ (by decide) (by simp) (fun _ h47 k47 =>?_) (fun hn=>by simp[kysMay,mbMay] at hn);have k45_47:Keep [] h45 h47:=k46.n k47;have k14_45:Keep [c,t] h14 h45:=(k15.n k15_44).then (U:=[c,t]) k45 (by simp) (by simp);have k14_47:Keep [c,t] h14 h47:=k14_45.then (U:=[c,t]) k45_47 (by simp) (by simp);have lb2:=lt_of_some e7;have lb3:=lt_of_some e14;have k7_14:Keep [] h7 h14:=(k10.n k12).n k14;have z7_14:=k7_14.1;have e7':=k14_47.get (k7_14.g e7) (by simp;omega);have e14':=k14_47.get e14 (by simp;omega);have z0:h.size≤h3.size:=by omega
 refine jn_in (fun y h'=>y=(true,())∧Keep [] h47 h') ?_ ?_
 ·refine law0_Num.s ?_;rw[ifd];refine ld_go (sm_fld (n:=0) (k' := .i) (y:=(0:Int)) e7' rfl (by decide)) ?_;rw[ifd];refine law0_Num.s ?_;rw[ifd];obtain ⟨f0,f1,f2,f3,f35,f36⟩:=et_f e14';refine ld_go f1 ?_;rw[er14.q,hseq,ifd];refine ld_go f2 ?_;refine bs_gen fun bq h51 hbq k51 r51 hs51 =>?_
  have r47:Row h47 t_int .i v.2.2.1 u.vec:=er14.w.keep k14_47 fun b hb hm=>by
   have off14:=(i4.keep0 k4_14).off;rcases er14.w with ⟨e,_⟩ | ⟨b',zs,e,_,_,e4⟩
   ·rw[e] at hb;simp[own] at hb
   ·have e0:b=b':=by unfold own at hb;rw[e] at hb;simpa using hb
    subst e0;simp only [List.mem_cons,List.not_mem_nil,or_false] at hm;rcases hm with rfl | rfl
    ·exact off14.2.2.2.2.1 t_int (by decide) _ _ e4
    ·exact off14.2.2.2.2.2 t_int (by decide) _ _ e4
  refine law0_SameInts.s (r47.keep k51 (by simp)).seg r51.seg (by rw[hvl];decide) ?_;rw[hvec,if_pos (by decide)];refine law0_Num.s ?_;rw[ifd];refine law0_Num.s ?_;rw[ifd];refine law0_Num.s ?_;rw[ifd];refine law0_Num.s ?_;rw[ifd];refine chain_Log.s (i45.keep0 (k45_47.n k51)) o45 fun x h57 k57 lg _ =>?_;rw[lg.n];rw[show (((C.all++[s]).length:Nat):Int)=1 by rw[hall];rfl,ifd];refine law0_Num.s ?_;rw[ifd];have k47_57:=k51.n k57;have e3':=k47_57.g (k14_47.get (k3_14.g e3) (by simp;omega));refine ld_go (sm_all e3') ?_
  have md47:MdU h.size h47 kv ks A B 0 0:=(md.keep0 (k3.n k3_14)).keep k14_47 fun b hb=>by
   have off14:=(i4.keep0 k4_14).off;refine .inr fun T hT =>?_;simp only [List.mem_cons,List.not_mem_nil,or_false] at hb;rcases hb with rfl | rfl
   ·exact off14.2.2.2.2.1 T (by rcases hT with rfl | rfl | rfl | rfl <;> decide)
   ·exact off14.2.2.2.2.2 T (by rcases hT with rfl | rfl | rfl | rfl <;> decide)
  refine chain_KeysMay.s (md47.keep0 k47_57).at (by rw[hpp];decide) fun h59 k59 =>?_;rw[hmay];exact ⟨rfl,k47_57.n k59⟩
 ·rintro _ h48 ⟨rfl,k48⟩;refine hK h48 (((((k1.n k3).n k3_14).new k14_47 (by simp;omega))).n k48)
section
variable {n p:Nat} {h:Heap} {e:Ett} {K:Heap→Prop}
end
theorem EtR.keepS {h h':Heap} {v:EtK.Ty} {e:Ett} {S:List Nat} (a:EtR h v e) (k:Keep S h h') (hS:∀b∈S,∀T,T=t_int∨T=t_api_Hash→∀c f,h[b]? ≠ some (.cells c T f)):EtR h' v e:=
 ⟨a.u,a.q,row_keepC (n0:=0) a.w k (fun _ _=>Nat.zero_le _) (fun b hb => .inr (.inr (hS b hb _ (by simp)))),a.r,row_keepC (n0:=0) a.t k (fun _ _=>Nat.zero_le _) (fun b hb => .inr (.inr (hS b hb _ (by simp)))),a.s⟩
theorem row_tagU {T T':Nat} {k:Kd} {s:Slc} {L:List k.Ty} {h:Heap} (r:Row h T k s L) (hT:T≠T'):∀q∈own s,∀cc f,h[q]? ≠ some (.cells cc T' f):=fun q hq cc f e=>rowT r e (fun h=>hT h.symm) hq
theorem row_ltU {T:Nat} {k:Kd} {s:Slc} {L:List k.Ty} {h:Heap} (r:Row h T k s L):∀q∈own s,q<h.size:=fun q hq=>by
 rcases r with ⟨e,_⟩ | ⟨b,zs,e,_,_,e4⟩
 ·rw[e] at hq;simp[own] at hq
 ·have:q=b:=by unfold own at hq;rw[e] at hq;simpa using hq
  subst this;exact lt_of_some e4
section
variable {n1 c:Nat} {h:Heap} {kv:KeK.Ty} {fs es ls:Slc} {evs:List EtK.Ty} {C:Cn}
theorem ref18_Log.s {K:LgK.Ty→Heap→Prop} (i:IsRc n1 h c kv fs es ls evs C) (o:CnOk C) (hK:∀x h',Keep [] h h'→LgR h' x C→K x h'):ref18_Chain_Log.C (some ⟨c,0⟩) h K:=by
 apply ref18_Chain_Log.c;unfold ref18_Chain_Log.m;have on:=o.n;have al:es.len=C.all.length:=by rw[i.a.len,i.x.len]
 refine new_gen fun b1 h1 hb1 k1 e1 hs1 =>?_;have e1:h1[b1]? = some (vobj t_api_Log LgK lg0):=e1;have i1:=i.keep0 k1;obtain ⟨R,hR⟩:∃R,rootV (C.all.map putE)=R:=⟨_,rfl⟩;refine jn_in (fun y h'=>Keep [] h1 h'∧∃b,y=(Pl.mk b 0,())∧h1.size≤b∧h'[b]? = some (vobj t_api_Log LgK (((C.all.length:Int),(R,(et0,()))):LgK.Ty))) ?_ ?_
 ·refine nck_go (ld_go (rc_f i1.e).2.2.1 ⟨?_,?_⟩)
  ·refine ref18_Root.s i1 o fun h4 k4 =>?_;refine ⟨(rc_f (i1.keep0 k4).e).2.2.1,?_⟩;rw[hR];refine new_gen fun b2 h5 hb2 k5 e5 hs5 =>?_;have e5:h5[b2]? = some (vobj t_api_Log LgK lg0):=e5;refine ⟨(rc_f ((i1.keep0 k4).keep0 k5).e).2.2.1,?_⟩;rw[al];refine st_to e5 fun h6 k6 e6 hs6 =>?_;have z4:=k4.1;exact ⟨(k4.n k5).new k6 (by simp;omega),b2,rfl,by omega,e6⟩
  ·refine new_gen fun b2 h5 hb2 k5 e5 hs5 =>?_;have e5:h5[b2]? = some (vobj t_api_Log LgK lg0):=e5;have i5:=i1.keep0 k5;refine ⟨(rc_f i5.e).2.2.1,?_⟩;refine ref18_Root.s i5 o fun h4 k4 =>?_;refine ⟨(rc_f (i5.keep0 k4).e).2.2.1,?_⟩;rw[hR,al];refine st_to (k4.g e5) fun h6 k6 e6 hs6 =>?_;exact ⟨(k5.n k4).new k6 (by simp;omega),b2,rfl,by omega,e6⟩
 rintro _ h3 ⟨k3,b,rfl,hb,e3⟩;have k03:Keep [] h h3:=k1.n k3;have i3:=i.keep0 k03;have z1:=k1.1;have z3:=k03.1;have e13:=k3.g e1;have n1':b1≠b:=by omega
 refine nck_go (ld_go (rc_f i3.e).2.2.1 ?_);refine jn_in (fun _ h'=>Keep [] h h'∧h'[b1]? = some (vobj t_api_Log LgK lg0)∧∃v',h'[b]? = some (vobj t_api_Log LgK (((C.all.length:Int),(R,(v',()))):LgK.Ty))∧EtR h' v' (lastE C)) ?_ ?_
 ·unfold lastE;by_cases h0:C.all.length=0
  ·rw[if_neg (show ¬decide ((es.len:Int)>0)=true from dn (by omega))];have hnil:C.all=[]:=List.length_eq_zero_iff.1 h0;refine ⟨k03,e13,et0,e3,?_⟩;rw[hnil];exact et0_R
  ·rw[if_pos (show decide ((es.len:Int)>0)=true from decide_eq_true (by omega))];refine nck_go (ld_go (rc_f i3.e).2.2.1 (nck_go (ld_go (rc_f i3.e).2.2.1 ?_)));have hw:w64 ((es.len:Int)-1)=((C.all.length-1:Nat):Int):=w6 (by omega);rw[hw];have el:=i3.x.len;have hx:=i3.x.getI (i:=C.all.length-1) (by omega) (by omega)
   have hg:C.all.getLast? = some (C.all[C.all.length-1]'(by omega)):=by
    rw[List.getLast?_eq_getElem?,List.getElem?_eq_getElem (by omega)]
   rw[hg];refine seg_ix i3.a.seg (x:=evs[C.all.length-1]'(by omega)) (by omega) (by rw[Int.toNat_natCast];exact List.getElem?_eq_getElem (by omega)) rfl ?_;generalize evs[C.all.length-1]'(by omega)=v at *;generalize C.all[C.all.length-1]'(by omega)=e at *;refine st_fld (k:=LgK) (k':=EtK) (n:=33) e3 (by decide) lg_w33 ?_;dsimp only;have e12:=get_set (o':=vobj t_api_Log LgK (((C.all.length:Int),(R,(v,()))):LgK.Ty)) e3;have k12:Keep [b] h3 (h3.setIfInBounds b (vobj t_api_Log LgK (((C.all.length:Int),(R,(v,()))):LgK.Ty))):=keep_set;generalize h3.setIfInBounds b (vobj t_api_Log LgK (((C.all.length:Int),(R,(v,()))):LgK.Ty))=h12 at e12 k12 ⊢;refine ⟨k03.new k12 (by simp;omega),k12.get e13 (by simpa using n1'),v,e12,hx.1.keepS k12 fun q hq T hT =>?_⟩;simp at hq;subst hq;exact cell_ne (o := .cells #[] 0 (0,0)) e3 (by rcases hT with rfl | rfl <;> decide)
 rintro _ h10 ⟨k10,e110,v',e10,r10⟩;refine ld_go (sm_all e10) ?_;refine st_to e110 fun h13 k13 e13' hs13=>ld_go (sm_all e13') ?_;refine hK _ h13 (k10.new k13 (by simp;omega)) ⟨rfl,hR.symm,r10.keepS k13 fun q hq T hT =>?_⟩;simp at hq;subst hq;exact cell_ne (o := .cells #[] 0 (0,0)) e110 (by rcases hT with rfl | rfl <;> decide)
end
theorem beq_refl {z:HVec}:Kd.beq (.ar 32 .u8) z z=true:=(beq_eq (k := .ar 32 .u8) rfl (x:=z) (y:=z)).2 rfl
theorem law0_SameEntry.t {v u:EtK.Ty} {e:Ett} {h:Heap} {K:Bool→Heap→Prop} (a:EtAt h v e) (b:EtAt h u e) (hv:e.vec.length≤9223372036854775807) (ht:e.tables.length≤9223372036854775807) (hK:∀h',Keep [] h h'→K true h'):law0_SameEntry.C v u h K:=by
 apply law0_SameEntry.c;unfold law0_SameEntry.m;refine new_gen fun b1 h1 hb1 k1 e1 hs1 =>?_;have e1:h1[b1]? = some (vobj t_api_Entry EtK v):=e1;refine new_gen fun b2 h2 hb2 k2 e2 hs2 =>?_;have e2:h2[b2]? = some (vobj t_api_Entry EtK u):=e2;have k02:=k1.n k2;obtain ⟨f0,f1,f2,f3,f35,f36⟩:=et_f (k2.g e1);obtain ⟨g0,g1,g2,g3,g35,g36⟩:=et_f e2;have a2:=a.keep k02;have b2':=b.keep k02;refine jn_at (true,()) h2 ?_ (hK h2 k02);refine ld_go f0 (ld_go g0 ?_);rw[a.u,b.u,ifd];refine ld_go f1 (ld_go g1 ?_);rw[a.q,b.q,ifd];refine ld_go f2 (ld_go g2 ?_);refine law0_SameInts.s a2.w b2'.w hv ?_;rw[decide_eq_true rfl,if_pos rfl];refine ld_go f3 (ld_go g3 ?_);rw[a.r,b.r,beq_refl,if_pos rfl];refine ld_go f35 (ld_go g35 ?_);refine law0_SameHashs.s a2.t b2'.t ht ?_;rw[decide_eq_true rfl,if_pos rfl];refine ld_go f36 (ld_go g36 ?_);rw[a.s,b.s,decide_eq_true rfl];exact ⟨rfl,rfl⟩
theorem lg_f {h:Heap} {b:Nat} {x:LgK.Ty} (e:h[b]? = some (vobj t_api_Log LgK x)):sm .i ((Pl.mk b 0).fld 0) x.1 h∧sm (.ar 32 .u8) ((Pl.mk b 0).fld 1) x.2.1 h∧sm EtK ((Pl.mk b 0).fld 33) x.2.2.1 h:=by
 have l1:((Kd.ar 32 .u8).cells x.2.1).length=32:=Kd.cells_length ..;have c1:(LgK.cells x).drop 1=(Kd.ar 32 .u8).cells x.2.1++(EtK.cells x.2.2.1++[]):=rfl;refine ⟨sm_fld (n:=0) (k' := .i) e rfl (by decide),sm_sub (sm_all e) (by decide) ?_,sm_sub (sm_all e) (by decide) ?_⟩
 ·rw[c1];exact List.take_left' l1
 ·have:(LgK.cells x).drop 33=((LgK.cells x).drop 1).drop 32:=by rw[List.drop_drop]
  rw[this,c1,List.drop_left' l1];exact List.take_left' (Kd.cells_length ..)
theorem law0_SameLog.t {x y:LgK.Ty} {C:Cn} {h:Heap} {K:Bool→Heap→Prop} (a:LgR h x C) (b:LgR h y C) (hv:(lastE C).vec.length≤9223372036854775807) (ht:(lastE C).tables.length≤9223372036854775807) (hK:∀h',Keep [] h h'→K true h'):law0_SameLog.C x y h K:=by
 apply law0_SameLog.c;unfold law0_SameLog.m;refine new_gen fun b1 h1 hb1 k1 e1 hs1 =>?_;have e1:h1[b1]? = some (vobj t_api_Log LgK x):=e1;refine new_gen fun b2 h2 hb2 k2 e2 hs2 =>?_;have e2:h2[b2]? = some (vobj t_api_Log LgK y):=e2;have k02:=k1.n k2;obtain ⟨f0,f1,f33⟩:=lg_f (k2.g e1);obtain ⟨g0,g1,g33⟩:=lg_f e2;obtain ⟨R,hR⟩:∃R,rootV (C.all.map putE)=R:=⟨_,rfl⟩;have ar:=a.r;have br:=b.r;rw[hR] at ar br;refine jn_in (fun y h'=>y=(true,())∧Keep [] h2 h') ?_ ?_
 ·refine ld_go f0 (ld_go g0 ?_);rw[a.n,b.n,ifd];refine ld_go f1 (ld_go g1 ?_);rw[ar,br,beq_refl,if_pos rfl];refine ld_go f33 (ld_go g33 ?_);refine law0_SameEntry.t (a.e.keep k02 (by simp)).at (b.e.keep k02 (by simp)).at hv ht fun h3 k3=>⟨rfl,k3⟩
 ·rintro _ h3 ⟨rfl,k3⟩;exact hK h3 (k02.n k3)
theorem last_len {C:Cn} (o:CnOk C):(lastE C).vec.length≤9223372036854775807∧(lastE C).tables.length≤9223372036854775807:=by
 unfold lastE
 cases hg:C.all.getLast? with
 | none=>exact ⟨by decide,by decide⟩
 | some e =>
   obtain ⟨h1,h2,h3⟩:=o.a e (List.mem_of_getLast? hg);obtain ⟨_,_,pv,pt⟩:=put_vec h1;simp only [Option.getD_some];exact ⟨by omega,by omega⟩
structure MbC (n0:Nat) (h:Heap) (v:MbK.Ty) (m:Mb):Prop where
 u:v.1=m.users
 g:∃gs,Row h t_s_int .sl v.2.1 gs∧(∀q∈own v.2.1,n0≤q)∧All2 (fun s us=>Row h t_int .i s us∧(∀q∈own s,n0≤q)∧us.length*8≤140737488355328) gs m.groups∧gs.Pairwise (fun s s'=>∀q∈own s',q∉own s)
theorem MbC.mb {n0:Nat} {h:Heap} {v:MbK.Ty} {m:Mb} (a:MbC n0 h v m):MbU n0 h v m:=by
 obtain ⟨u,gs,r,o,x,_⟩:=a;exact ⟨u,gs,r,o,x⟩
theorem MbC.keepT {n0:Nat} {h h':Heap} {v:MbK.Ty} {m:Mb} {S:List Nat} (a:MbC n0 h v m) (k:Keep S h h') (hS:∀b∈S,∀T,T=t_s_int∨T=t_int→∀c f,h[b]? ≠ some (.cells c T f)):MbC n0 h' v m:=by
 obtain ⟨u,gs,r,o,x,p⟩:=a;refine ⟨u,gs,row_keepC (n0:=0) r k (fun _ _=>Nat.zero_le _) (fun b hb => .inr (.inr (hS b hb _ (by simp)))),o,All2.mono (fun s us y=>⟨row_keepC (n0:=0) y.1 k (fun _ _=>Nat.zero_le _) (fun b hb => .inr (.inr (hS b hb _ (by simp)))),y.2⟩) x,p⟩
theorem law0_CopyMembers.k {mv:MbK.Ty} {m:Mb} {h:Heap} {K:MbK.Ty→Heap→Prop} (am:MbAt h mv m) (hb:m.groups.length*24≤140737488355328) (hg:∀g∈m.groups,g.length*8≤140737488355328)
 (hK:∀h' mv',Keep [] h h'→MbC h.size h' mv' m→K mv' h'):law0_CopyMembers.C mv h K:=by
 obtain ⟨hu,gs,ggs,gal⟩:=am;obtain ⟨(u:Int),(gl:Slc),⟨⟩⟩:=mv;have hu:u=m.users:=hu;have ggs:Seg .sl gl gs h:=ggs;apply law0_CopyMembers.c;unfold law0_CopyMembers.m;refine new_gen fun b1 h1 hb1 k1 e1 hs1 =>?_;have e1:h1[b1]? = some (vobj t_api_Members MbK ((u,(gl,())):MbK.Ty)):=e1;refine new_gen fun b2 h2 hb2 k2 e2 hs2 =>?_;have e2:h2[b2]? = some (vobj t_api_Members MbK ((0,((⟨none,0,0⟩:Slc),())):MbK.Ty)):=e2;have e1:=k2.g e1;refine ld_go (k := .i) (x:=u) (sm_sub (sm_all e1) (by decide) rfl) ?_;refine new_st_gen fun b3 h4 hb3 k4 e4 hs4 =>?_;have e4:h4[b3]? = some (vobj t_api_Members MbK ((u,((⟨none,0,0⟩:Slc),())):MbK.Ty)):=e4;have e1:=k4.g e1;have e2:=k4.g e2;have k04:Keep [] h h4:=(k1.n k2).n k4;have gsl:=ggs.len;have gal':=gal.len;have z1:=k1.1;have z2:=k2.1
 refine lp_go (fun (y:Int×Unit) (h5:Heap)=>∃(n:Nat) (s:Slc) (us:List Slc),y.1=n∧n≤m.groups.length∧Keep [] h h5∧h4.size≤h5.size∧h5[b1]? = some (vobj t_api_Members MbK ((u,(gl,())):MbK.Ty))∧h5[b2]? = some (vobj t_api_Members MbK ((0,((⟨none,0,0⟩:Slc),())):MbK.Ty))∧h5[b3]? = some (vobj t_api_Members MbK ((u,(s,())):MbK.Ty)) ∧
  Row h5 t_s_int .sl s us∧(∀q∈own s,h.size≤q)∧All2 (fun s us=>Row h5 t_int .i s us∧(∀q∈own s,h.size≤q)∧us.length*8≤140737488355328) us (m.groups.take n)∧us.Pairwise (fun s s'=>∀q∈own s',q∉own s)∧∀s∈us,∀q∈own s,q<h5.size) (fun (y:Int×Unit) _=>m.groups.length-y.1.toNat) ?_ ?_
 ·exact ⟨0,⟨none,0,0⟩,[],rfl,Nat.zero_le _,k04,Nat.le_refl _,e1,e2,e4,Row.nil,by simp[own],trivial,List.Pairwise.nil,by simp⟩
 rintro ⟨(i:Int),_⟩ h5 ⟨n,s,us,e,hn,k5,z5,g1,g2,g3,r5,o5,a5,p5,l5⟩;dsimp only at e ⊢;subst e;refine ld_go (k := .sl) (x:=gl) (sm_sub (sm_all g1) (by decide) rfl) ?_;by_cases hlt:n<m.groups.length
 case neg=>
  rw[if_neg (show ¬decide ((n:Int)<(gl.len:Int))=true from dn (by omega))];obtain rfl:n=m.groups.length:=by omega
  rw[List.take_length] at a5;refine ld_go (sm_all g3) ?_;refine st_to (y:=((u,(s,())):MbK.Ty)) g2 fun h6 k6 e6 hs6 =>?_;refine ld_go (sm_all e6) ?_;have off:∀ {T:Nat} {k:Kd} {u:Slc} {L:List k.Ty},Row h5 T k u L→T≠t_api_Members→∀q∈own u,q∉[b2]:=fun r hT q hq hm=>by simp at hm;subst hm;exact rowT r g2 (fun e=>hT e.symm) hq
  exact hK h6 _ (k5.new k6 (by simp;omega)) ⟨hu,us,r5.keep k6 (off r5 (by decide)),o5,All2.mono (fun s us r=>⟨r.1.keep k6 (off r.1 (by decide)),r.2⟩) a5,p5⟩
 rw[if_pos (show decide ((n:Int)<(gl.len:Int))=true from decide_eq_true (by omega))];have hwn:w64 ((n:Int)+1)=((n+1:Nat):Int):=w6 (by omega);rw[hwn];refine ld_go (k := .sl) (x:=s) (sm_sub (sm_all g3) (by decide) rfl) (ld_go (k := .sl) (x:=gl) (sm_sub (sm_all g1) (by decide) rfl) ?_);have hgn:n<gs.length:=by omega
 refine seg_ixl (ggs.keep (by decide) k5) (x:=gs[n]) (by omega) (by rw[Int.toNat_natCast];exact List.getElem?_eq_getElem hgn) rfl fun l1 hl1 =>?_;refine ld_go hl1 ?_;have hgx:=gal.getI hgn hlt;have hg8:=hg _ (List.getElem_mem hlt);have hte:m.groups.take (n+1)=m.groups.take n++[m.groups[n]]:=List.take_succ_eq_append_getElem hlt;refine bs_gen fun b6 h6 hb6 k6 r6 hs6 =>?_;have g1':=k6.g g1;have g3':=k6.g g3;refine ⟨sm_keep (by decide) hl1 k6,sm_sub (sm_all g1') (by decide) rfl,sm_sub (sm_all g3') (by decide) rfl,?_⟩;have gx6:=(hgx.1.keep (by decide) k5).keep (by decide) k6;have gxl:=gx6.len;refine slCells_seg gx6 (by rw[gxl];rfl) ?_;refine ap_row (T:=t_int) (k := .i) (ys:=m.groups[n]) r6 gxl rfl (by simp only [List.length_nil,Nat.zero_add];omega) fun s2 h7 r7 k7 o7 =>?_;have r7:Row h7 t_int .i s2 m.groups[n]:=by simpa using r7
 generalize m.groups[n]=grp at *;have z6:=k6.1;have z05:=k5.1;have k57:Keep [] h5 h7:=k6.new k7 (by simp[own];omega)
 have o2n:∀q∈own s2,h5.size≤q:=fun q hq=>by
  rcases own_of o7 q hq with h | h
  ·simp[own] at h;omega
  ·omega
 refine ⟨sm_sub (sm_all (k57.g g3)) (by decide) rfl,?_⟩;refine bs_gen fun b8 h8 hb8 k8 r8 hs8 =>?_;have k58:Keep [] h5 h8:=k57.n k8;refine ⟨sm_sub (sm_all (k58.g g3)) (by decide) rfl,?_⟩;refine slCells_seg r8.seg (by simp[Kd.size]) ?_;have rs8:=r5.keep k58 (by simp);have al:=a5.len;rw[List.length_take] at al;refine ap_row (T:=t_s_int) (k := .sl) (ys:=[s2]) rs8 rfl rfl (by simp only [List.length_singleton];omega) fun s4 h9 r9 k9 o9 =>?_;have g38:=k58.g g3;have g39:=k9.get g38 (rowT rs8 g38 (by decide));have g19:=k9.get (k58.g g1) (rowT rs8 (k58.g g1) (by decide));have g29:=k9.get (k58.g g2) (rowT rs8 (k58.g g2) (by decide));refine st_fld (k:=MbK) (k' := .sl) (y:=s4) (n:=1) (x:=((u,(s,())):MbK.Ty)) (x':=((u,(s4,())):MbK.Ty)) g39 (by decide) rfl ?_;have e10:=get_set (o':=vobj t_api_Members MbK ((u,(s4,())):MbK.Ty)) g39;have k10:Keep [b3] h9 (h9.setIfInBounds b3 (vobj t_api_Members MbK ((u,(s4,())):MbK.Ty))):=keep_set;generalize h9.setIfInBounds b3 (vobj t_api_Members MbK ((u,(s4,())):MbK.Ty))=h10 at e10 k10;have off:∀ {T:Nat} {k:Kd} {u:Slc} {L:List k.Ty},Row h9 T k u L→T≠t_api_Members→∀q∈own u,q∉[b3]:=fun r hT q hq hm=>by simp at hm;subst hm;exact rowT r g39 (fun e=>hT e.symm) hq
 have rr:∀ {u:Slc} {L:List Int},Row h8 t_int .i u L→Row h10 t_int .i u L:=fun r=>by
  have r9':=r.keep k9 (tagO r rs8 (by decide));exact r9'.keep k10 (off r9' (by decide))
 have z58:=k58.1;have z9:=k9.1;have z10:=k10.1;have r78:=r7.keep k8 (by simp);have l78:=row_ltU r78;refine ⟨⟨n+1,s4,us++[s2],rfl,by omega,((k5.n k58).new k9 o5).new k10 (by simp;omega),by omega,k10.get g19 (by simp;omega),k10.get g29 (by simp;omega),e10,r9.keep k10 (off r9 (by decide)),fun q hq =>?_,?_,?_,fun s' hs' q hq =>?_⟩,by simp;omega⟩
 ·rcases own_of o9 q hq with e | e
  ·exact o5 q e
  ·omega
 ·rw[hte];exact All2.app (a5.mono fun _ _ r=>⟨rr (r.1.keep k58 (by simp)),r.2⟩) ⟨⟨rr r78,fun q hq=>by have:=o2n q hq;omega,hg8⟩,trivial⟩
 ·refine List.pairwise_append.2 ⟨p5,List.pairwise_singleton _ _,fun s1 hs1 s' hs' q hq hm =>?_⟩;simp only [List.mem_singleton] at hs';subst hs';have:=o2n q hq;have:=l5 s1 hs1 q hm;omega
 ·rcases List.mem_append.1 hs' with h' | h'
  ·have:=l5 s' h' q hq;omega
  ·simp only [List.mem_singleton] at h';subst h';have:=l78 q hq;omega
structure KyC (n0:Nat) (h:Heap) (v:KeK.Ty) (k:Kys):Prop where
 m:MbC n0 h v.1 k.m
 p:Row h t_string .s v.2.1 (k.pubs.map bx)
 o:∀q∈own v.2.1,n0≤q
theorem KyC.at {n0:Nat} {h:Heap} {v:KeK.Ty} {k:Kys} (a:KyC n0 h v k):KeAt h v k:=⟨a.m.mb.at,a.p.seg⟩
theorem KyC.keep0 {n0:Nat} {h h':Heap} {v:KeK.Ty} {k:Kys} (a:KyC n0 h v k) (kk:Keep [] h h'):KyC n0 h' v k:=⟨a.m.keepT kk (by simp),a.p.keep kk (by simp),a.o⟩
theorem law0_CopyKeys.s {v:KeK.Ty} {k:Kys} {h:Heap} {K:KeK.Ty→Heap→Prop} (a:KeAt h v k) (hb:k.m.groups.length*24≤140737488355328) (hg:∀g∈k.m.groups,g.length*8≤140737488355328) (hp:k.pubs.length*16≤140737488355328)
 (hK:∀h' v',Keep [] h h'→KyC h.size h' v' k→K v' h'):law0_CopyKeys.C v h K:=by
 apply law0_CopyKeys.c;unfold law0_CopyKeys.m;refine new_gen fun b1 h1 hb1 k1 e1 hs1 =>?_;have e1:h1[b1]? = some (vobj t_api_Keys KeK v):=e1;refine new_gen fun b2 h2 hb2 k2 e2 hs2 =>?_;have e2:h2[b2]? = some (vobj t_api_Keys KeK (((0,(⟨none,0,0⟩,())),(⟨none,0,0⟩,())):KeK.Ty)):=e2;have k02:=k1.n k2;have z02:=k02.1;have z1:=k1.1;have e12:=k2.g e1;have pl:=a.p.len;rw[List.length_map] at pl
 have sh:∀ {n0 n1:Nat} {h':Heap} {x:MbK.Ty},n1≤n0→MbC n0 h' x k.m→MbC n1 h' x k.m:=fun hn c=>by
  obtain ⟨u,gs,r,o,al,p⟩:=c;exact ⟨u,gs,r,fun q hq=>by have:=o q hq;omega,All2.mono (fun s us x=>⟨x.1,fun q hq=>by have:=x.2.1 q hq;omega,x.2.2⟩) al,p⟩
 refine jn_in (fun _ h'=>∃v',h'[b2]? = some (vobj t_api_Keys KeK v')∧Keep [] h h'∧KyC h.size h' v' k) ?_ ?_
 ·refine ld_go (ke_f e12).1 (ld_go (ke_f e12).2.1 ⟨?_,?_⟩)
  ·refine law0_CopyMembers.k (a.keep k02).m hb hg fun h4 mv k4 cm =>?_;have e14:=k4.g e12;refine ⟨(ke_f e14).2.1,?_⟩;refine bs_gen fun b5 h5 hb5 k5 r5 hs5=>⟨(ke_f (k5.g e14)).2.1,?_⟩;have k25:=k4.n k5;have z4:=k4.1;refine slCells_seg (a.keep (k02.n k25)).p (by rw[pl,List.length_map];rfl) ?_;refine ap_row (T:=t_string) (k := .s) (ys:=k.pubs.map bx) r5 (by rw[pl,List.length_map]) rfl (by rw[pl];simp;omega) fun s2 h6 r6 k6 o6 =>?_;have e6:=k6.get (k25.g e2) (by simp[own];have:=lt_of_some e2;omega);refine st_to (y:=((mv,(s2,())):KeK.Ty)) e6 fun h7 k7 e7 hs7 =>?_;refine ⟨((mv,(s2,())):KeK.Ty),e7,?_,?_,?_,fun q hq =>?_⟩
   ·exact ((k02.n k25).new k6 (by simp[own];omega)).new k7 (by simp;omega)
   ·refine sh (n0:=h2.size) (by omega) (((cm.keepT k5 (by simp)).keepT k6 fun b hb T hT =>?_).keepT k7 fun b hb T hT =>?_)
    ·exact row_tagU r5 (by rcases hT with rfl | rfl <;> decide) b hb
    ·simp at hb;subst hb;exact cell_ne (o := .cells #[] 0 (0,0)) e6 (by rcases hT with rfl | rfl <;> decide)
   ·have:Row h6 t_string .s s2 (k.pubs.map bx):=by simpa using r6
    exact this.keep k7 fun q hq hm=>by simp at hm;subst hm;exact rowT this e6 (by decide) hq
   ·rcases own_of o6 q hq with h | h
    ·simp[own] at h;omega
    ·have:=k25.1;omega
  ·refine bs_gen fun b5 h5 hb5 k5 r5 hs5 =>?_;have e15:=k5.g e12;refine ⟨(ke_f e15).2.1,(ke_f e15).1,?_⟩;refine law0_CopyMembers.k (a.keep (k02.n k5)).m hb hg fun h4 mv k4 cm =>?_;have k25:=k5.n k4;have z5:=k5.1;refine ⟨(ke_f (k4.g e15)).2.1,?_⟩;refine slCells_seg (a.keep (k02.n k25)).p (by rw[pl,List.length_map];rfl) ?_;have r54:=r5.keep k4 (by simp);refine ap_row (T:=t_string) (k := .s) (ys:=k.pubs.map bx) r54 (by rw[pl,List.length_map]) rfl (by rw[pl];simp;omega) fun s2 h6 r6 k6 o6 =>?_;have e6:=k6.get (k25.g e2) (by simp[own];have:=lt_of_some e2;omega);refine st_to (y:=((mv,(s2,())):KeK.Ty)) e6 fun h7 k7 e7 hs7 =>?_;refine ⟨((mv,(s2,())):KeK.Ty),e7,?_,?_,?_,fun q hq =>?_⟩
   ·exact ((k02.n k25).new k6 (by simp[own];omega)).new k7 (by simp;omega)
   ·refine sh (n0:=h5.size) (by omega) ((cm.keepT k6 fun b hb T hT =>?_).keepT k7 fun b hb T hT =>?_)
    ·exact row_tagU r54 (by rcases hT with rfl | rfl <;> decide) b hb
    ·simp at hb;subst hb;exact cell_ne (o := .cells #[] 0 (0,0)) e6 (by rcases hT with rfl | rfl <;> decide)
   ·have:Row h6 t_string .s s2 (k.pubs.map bx):=by simpa using r6
    exact this.keep k7 fun q hq hm=>by simp at hm;subst hm;exact rowT this e6 (by decide) hq
   ·rcases own_of o6 q hq with h | h
    ·simp[own] at h;omega
    ·have:=k25.1;omega
 ·rintro _ h3 ⟨v',e3,k3,c3⟩;exact ld_go (sm_all e3) (hK h3 v' k3 c3)
theorem law0_SameMembers.s {v u:MbK.Ty} {m:Mb} {h:Heap} {K:Bool→Heap→Prop} (a:MbAt h v m) (b:MbAt h u m) (hl:m.groups.length≤9223372036854775807) (hK:∀h',Keep [] h h'→K true h'):law0_SameMembers.C v u h K:=by
 obtain ⟨ha,as_,ga,aa⟩:=a;obtain ⟨hb,bs_,gb,ab⟩:=b;obtain ⟨(x:Int),(s:Slc),⟨⟩⟩:=v;obtain ⟨(y:Int),(t:Slc),⟨⟩⟩:=u;have ha:x=m.users:=ha;have hb:y=m.users:=hb;have ga:Seg .sl s as_ h:=ga;have gb:Seg .sl t bs_ h:=gb;subst ha;subst hb;apply law0_SameMembers.c;unfold law0_SameMembers.m;refine new_gen fun b1 h1 hb1 k1 e1 hs1 =>?_;have e1:h1[b1]? = some (vobj t_api_Members MbK ((m.users,(s,())):MbK.Ty)):=e1;refine new_gen fun b2 h2 hb2 k2 e2 hs2 =>?_;have e2:h2[b2]? = some (vobj t_api_Members MbK ((m.users,(t,())):MbK.Ty)):=e2;have e1:=k2.g e1;have k02:Keep [] h h2:=k1.n k2;have la:s.len=as_.length:=ga.len;have lb:t.len=bs_.length:=gb.len;have la':as_.length=m.groups.length:=aa.len;have lb':bs_.length=m.groups.length:=ab.len;refine jn_at (false,()) h2 ?_ ?_
 ·refine ld_go (k := .i) (x:=m.users) (sm_sub (sm_all e1) (by decide) rfl) (ld_go (k := .i) (x:=m.users) (sm_sub (sm_all e2) (by decide) rfl) ?_);rw[if_neg (by simp)];refine ld_go (k := .sl) (x:=s) (sm_sub (sm_all e1) (by decide) rfl) (ld_go (k := .sl) (x:=t) (sm_sub (sm_all e2) (by decide) rfl) ⟨?_,by first | rfl | trivial⟩);rw[decide_eq_true (show (s.len:Int)=(t.len:Int) by omega)];rfl
 rw[if_neg (by simp)];refine lp_go (fun (y:Int×Unit) (h4:Heap)=>h4=h2∧∃n:Nat,y.1=n∧n≤m.groups.length) (fun (y:Int×Unit) _=>m.groups.length-y.1.toNat) ?_ ?_
 ·exact ⟨rfl,0,rfl,by omega⟩
 rintro ⟨(i:Int),_⟩ h4 ⟨rfl,n,e,hn⟩;dsimp only at e ⊢;subst e;refine ld_go (k := .sl) (x:=s) (sm_sub (sm_all e1) (by decide) rfl) ?_;by_cases hlt:n<m.groups.length
 case neg=>
  rw[if_neg (show ¬decide ((n:Int)<(s.len:Int))=true from dn (by omega))];exact hK _ k02
 rw[if_pos (show decide ((n:Int)<(s.len:Int))=true from decide_eq_true (by omega))];have hw:w64 ((n:Int)+1)=((n+1:Nat):Int):=w6 (by omega);rw[hw];have h1n:n<as_.length:=by omega
 have h2n:n<bs_.length:=by omega
 refine ld_go (k := .sl) (x:=s) (sm_sub (sm_all e1) (by decide) rfl) ?_;refine seg_ix (ga.keep (by decide) k02) (x:=as_[n]) (by omega) (by rw[Int.toNat_natCast];exact List.getElem?_eq_getElem h1n) rfl ?_;refine ld_go (k := .sl) (x:=t) (sm_sub (sm_all e2) (by decide) rfl) ?_;refine seg_ix (gb.keep (by decide) k02) (x:=bs_[n]) (by omega) (by rw[Int.toNat_natCast];exact List.getElem?_eq_getElem h2n) rfl ?_;have ia:=aa.getI h1n hlt;have ib:=ab.getI h2n hlt;refine law0_SameInts.s (ia.1.keep (by decide) k02) (ib.1.keep (by decide) k02) ia.2 ?_;rw[decide_eq_true rfl,if_neg (by simp)];exact ⟨⟨by first | rfl | trivial,n+1,rfl,by omega⟩,by simp;omega⟩
theorem law0_SameKeys.s {v u:KeK.Ty} {k:Kys} {h:Heap} {K:Bool→Heap→Prop} (a:KeAt h v k) (b:KeAt h u k) (hl:k.m.groups.length≤9223372036854775807) (hp:k.pubs.length≤9223372036854775807) (hK:∀h',Keep [] h h'→K true h'):law0_SameKeys.C v u h K:=by
 apply law0_SameKeys.c;unfold law0_SameKeys.m;refine new_gen fun b1 h1 hb1 k1 e1 hs1 =>?_;have e1:h1[b1]? = some (vobj t_api_Keys KeK v):=e1;refine new_gen fun b2 h2 hb2 k2 e2 hs2 =>?_;have e2:h2[b2]? = some (vobj t_api_Keys KeK u):=e2;have k02:=k1.n k2;have e12:=k2.g e1;refine jn_in (fun y h'=>y=(true,())∧Keep [] h2 h') ?_ ?_
 ·refine ld_go (ke_f e12).1 (ld_go (ke_f e2).1 ?_);refine law0_SameMembers.s (a.keep k02).m (b.keep k02).m hl fun h4 k4 =>?_;rw[if_pos rfl];refine ld_go (ke_f (k4.g e12)).2.1 (ld_go (ke_f (k4.g e2)).2.1 ?_);refine law0_SameTexts.s (a.keep (k02.n k4)).p (b.keep (k02.n k4)).p (by rw[List.length_map];exact hp) ?_;rw[decide_eq_true rfl];exact ⟨rfl,k4⟩
 ·rintro _ h3 ⟨rfl,k3⟩;exact hK h3 (k02.n k3)
theorem law0_SpoilInts.s {s:Slc} {xs:List Int} {h:Heap} {K:Heap→Prop} (r:Row h t_int .i s xs) (hl:xs.length≤9223372036854775806) (hK:∀h',Keep (own s) h h'→K h'):law0_SpoilInts.C s h K:=by
 apply law0_SpoilInts.c;unfold law0_SpoilInts.m;refine lp_go (fun (y:Int×Unit) (h1:Heap)=>∃(n:Nat) (ys:List Int),y.1=n∧n≤xs.length∧Keep (own s) h h1∧Row h1 t_int .i s ys∧ys.length=xs.length) (fun (y:Int×Unit) _=>xs.length-y.1.toNat) ?_ ?_
 ·exact ⟨0,xs,rfl,Nat.zero_le _,Keep.rfl,r,rfl⟩
 rintro ⟨(i:Int),_⟩ h1 ⟨n,ys,e,hn,k1,r1,hy⟩;dsimp only at e ⊢;subst e;have rl:=r1.len;by_cases hlt:n<xs.length
 ·rw[if_pos (show decide ((n:Int)<(s.len:Int))=true from decide_eq_true (by omega))];have hw:w64 ((n:Int)+1)=((n+1:Nat):Int):=w6 (by omega);rw[hw];refine ix_ld r1 (by omega) (x:=ys[n]'(by omega)) (by rw[Int.toNat_natCast];exact List.getElem?_eq_getElem (by omega)) rfl ?_;refine ix_st r1 (by omega) (by omega) rfl fun h2 k2 r2 =>?_;exact ⟨⟨n+1,_,rfl,by omega,k1.then (U:=own s) k2 (fun x hx _=>hx) (fun x hx _=>hx),r2,by rw[List.length_set];exact hy⟩,by simp;omega⟩
 ·rw[if_neg (show ¬decide ((n:Int)<(s.len:Int))=true from dn (by omega))];exact hK h1 k1
theorem law0_SpoilTexts.s {s:Slc} {xs:List ByteArray} {h:Heap} {K:Heap→Prop} (r:Row h t_string .s s xs) (hl:xs.length≤9223372036854775806) (hz:∀x∈xs,x.size≤9223372036854775000) (hK:∀h',Keep (own s) h h'→K h'):law0_SpoilTexts.C s h K:=by
 apply law0_SpoilTexts.c;unfold law0_SpoilTexts.m;refine lp_go (fun (y:Int×Unit) (h1:Heap)=>∃(n:Nat) (ys:List ByteArray),y.1=n∧n≤xs.length∧Keep (own s) h h1∧Row h1 t_string .s s ys∧ys.length=xs.length∧∀j,n≤j→ys[j]? = xs[j]?) (fun (y:Int×Unit) _=>xs.length-y.1.toNat) ?_ ?_
 ·exact ⟨0,xs,rfl,Nat.zero_le _,Keep.rfl,r,rfl,fun _ _=>rfl⟩
 rintro ⟨(i:Int),_⟩ h1 ⟨n,ys,e,hn,k1,r1,hy,hj⟩;dsimp only at e ⊢;subst e;have rl:=r1.len;by_cases hlt:n<xs.length
 ·rw[if_pos (show decide ((n:Int)<(s.len:Int))=true from decide_eq_true (by omega))];have hw:w64 ((n:Int)+1)=((n+1:Nat):Int):=w6 (by omega);rw[hw];refine ix_ld r1 (by omega) (x:=xs[n]) (by rw[Int.toNat_natCast,hj n (Nat.le_refl _)];exact List.getElem?_eq_getElem hlt) rfl ?_;refine sadd_go (by have:=hz _ (List.getElem_mem hlt);show 1+_≤_;omega) ?_;refine ix_st r1 (by omega) (by omega) rfl fun h2 k2 r2 =>?_;refine ⟨⟨n+1,_,rfl,by omega,k1.then (U:=own s) k2 (fun x hx _=>hx) (fun x hx _=>hx),r2,by rw[List.length_set];exact hy,fun j hjn =>?_⟩,by simp;omega⟩;rw[Int.toNat_natCast,List.getElem?_set_ne (by omega)];exact hj j (by omega)
 ·rw[if_neg (show ¬decide ((n:Int)<(s.len:Int))=true from dn (by omega))];exact hK h1 k1
theorem law0_SpoilKeys.s {n0:Nat} {v:KeK.Ty} {k:Kys} {hN h:Heap} {K:Heap→Prop} (c:KyC n0 hN v k) (kN:Keep [] hN h) (hb:k.m.groups.length≤9223372036854775806) (hp:k.pubs.length≤9223372036854775806) (hz:∀s∈k.pubs,s.length≤9223372036854775000)
 (hK:∀h' S,Keep S h h'→(∀q∈S,n0≤q∧q<hN.size∧∀T,T≠t_string→T≠t_int→∀c f,h[q]? ≠ some (.cells c T f))→K h'):law0_SpoilKeys.C v h K:=by
 apply law0_SpoilKeys.c;unfold law0_SpoilKeys.m;refine new_gen fun b1 h1 hb1 k1 e1 hs1 =>?_;have e1:h1[b1]? = some (vobj t_api_Keys KeK v):=e1;obtain ⟨⟨hu,gs,rg,og,ag,pg⟩,pp,po⟩:=c;have zN:=kN.1;have ppl:=row_ltU pp;have ppt:∀T,T≠t_string→∀q∈own v.2.1,∀cc f,h[q]? ≠ some (.cells cc T f):=fun T hT=>row_tagU (pp.keep kN (by simp)) (fun h=>hT h.symm);refine ld_go (ke_f e1).2.1 ?_;have pp1:=(pp.keep kN (by simp)).keep k1 (by simp);refine law0_SpoilTexts.s pp1 (by rw[List.length_map];exact hp) (fun x hx =>?_) fun h2 k2 =>?_
 ·obtain ⟨y,hy,rfl⟩:=List.mem_map.1 hx;rw[bx_size];exact hz y hy
 have gl:=rg.len;have al:=ag.len;have b1n:b1∉own v.2.1:=fun hm=>by have:=ppl b1 hm;omega
 have e2:=k2.get e1 b1n;have rg1:=(rg.keep kN (by simp)).keep k1 (by simp);have rg2:Row h2 t_s_int .sl v.1.2.1 gs:=rg1.keep k2 (tagO rg1 pp1 (by decide));have ag2:All2 (fun s us=>Row h2 t_int .i s us) gs k.m.groups:=All2.mono (fun s us x=>((x.1.keep kN (by simp)).keep k1 (by simp)).keep k2 (tagO ((x.1.keep kN (by simp)).keep k1 (by simp)) pp1 (by decide))) ag
 have agl:∀s∈gs,∀q∈own s,n0≤q∧q<hN.size∧∀T,T≠t_string→T≠t_int→∀c f,h[q]? ≠ some (.cells c T f):=fun s hs q hq=>by
  obtain ⟨j,hj,rfl⟩:=List.mem_iff_getElem.1 hs;have x:=ag.getI hj (by omega);exact ⟨x.2.1 q hq,row_ltU x.1 q hq,fun T _ h2=>row_tagU (x.1.keep kN (by simp)) (fun h=>h2 h.symm) q hq⟩
 have k02:∃S,Keep S h h2∧∀q∈S,n0≤q∧q<hN.size∧∀T,T≠t_string→T≠t_int→∀c f,h[q]? ≠ some (.cells c T f):=⟨own v.2.1,(k1.then (U:=own v.2.1) k2 (by simp) (fun x hx _=>hx)),fun q hq=>⟨po q hq,ppl q hq,fun T h1 _=>ppt T h1 q hq⟩⟩;have hf:∀ {h':Heap},h'[b1]? = some (vobj t_api_Keys KeK v)→sm .sl (((Pl.mk b1 0).fld 0).fld 1) v.1.2.1 h':=fun e=>sm_sub (ke_f e).1 (by decide) rfl;refine lp_go (fun (y:Int×Unit) (h3:Heap)=>∃n:Nat,y.1=n∧n≤gs.length∧(∃S,Keep S h h3∧∀q∈S,n0≤q∧q<hN.size∧∀T,T≠t_string→T≠t_int→∀c f,h[q]? ≠ some (.cells c T f))∧h3[b1]? = some (vobj t_api_Keys KeK v)∧Row h3 t_s_int .sl v.1.2.1 gs∧∀j,(hj:j<gs.length)→(hj2:j<k.m.groups.length)→n≤j→Row h3 t_int .i gs[j] k.m.groups[j]) (fun (y:Int×Unit) _=>gs.length-y.1.toNat) ?_ ?_
 ·exact ⟨0,rfl,Nat.zero_le _,k02,e2,rg2,fun j hj hj2 _=>ag2.getI hj hj2⟩
 rintro ⟨(i:Int),_⟩ h3 ⟨n,e,hn,⟨S,kS,hS⟩,e3,rg3,a3⟩;dsimp only at e ⊢;subst e;refine ld_go (hf e3) ?_;by_cases hlt:n<gs.length
 ·rw[if_pos (show decide ((n:Int)<(v.1.2.1.len:Int))=true from decide_eq_true (by omega))];have hw:w64 ((n:Int)+1)=((n+1:Nat):Int):=w6 (by omega);rw[hw];refine ld_go (hf e3) ?_;refine seg_ix rg3.seg (x:=gs[n]) (by omega) (by rw[Int.toNat_natCast];exact List.getElem?_eq_getElem hlt) rfl ?_;have rn:=a3 n hlt (by omega) (Nat.le_refl _);have hx8:=(ag.getI hlt (by omega)).2.2;refine law0_SpoilInts.s rn (by omega) fun h4 k4 =>?_;have rnl:=agl _ (List.getElem_mem hlt);refine ⟨⟨n+1,rfl,by omega,⟨S++own gs[n],kS.trans k4,fun q hq =>?_⟩,k4.get e3 fun hm=>by have:=(rnl b1 hm).2.1;omega,rg3.keep k4 (tagO rg3 rn (by decide)),fun j hj hj2 hnj =>?_⟩,by simp;omega⟩
  ·rcases List.mem_append.1 hq with h | h
   ·exact hS q h
   ·exact rnl q h
  ·have:=List.pairwise_iff_getElem.1 pg n j hlt hj (by omega);exact (a3 j hj hj2 (by omega)).keep k4 fun q hq hm=>this q hq hm
 ·rw[if_neg (show ¬decide ((n:Int)<(v.1.2.1.len:Int))=true from dn (by omega))];exact hK h3 S kS hS
def keysR:RT := .ag (.pr membersR (.pr (.sl 16 .s) .un))
def entrR:RT := .ag (.pr (.fl .i) (.pr (.fl .i) (.pr (.sl 8 (.fl .i)) (.pr (.fl (.ar 32 .u8)) (.pr (.sl 32 (.fl (.ar 32 .u8))) (.pr .s .un))))))
def hsR:RT := .sl 32 (.fl (.ar 32 .u8))
theorem keys_of {z:KeK.Ty} {h:Heap} (hh:keysR.holds z h):∃k:Kys,KeAt h z k∧k.m.groups.length*24≤reachBytes∧(∀g∈k.m.groups,g.length*8≤reachBytes)∧k.pubs.length*16≤reachBytes∧∀s∈k.pubs,s.length≤reachBytes:=by
 obtain ⟨mz,ps,⟨⟩⟩:=z;obtain ⟨hm,⟨h1,h2,h3,xs,g,hx⟩,_⟩:=hh;obtain ⟨m,am,a1,a2⟩:=members_of hm;have gl:Slc.len ps=xs.length:=g.len;have h1:Slc.len ps≤Slc.cap ps:=h1;have h3:Slc.cap ps*16≤reachBytes:=h3;have g:Seg .s ps xs h:=g
 have hmap:(xs.map fun s:ByteArray=>s.data.toList).map bx=xs:=by
  rw[List.map_map]
  have:∀l:List ByteArray,l.map (bx∘fun s:ByteArray=>s.data.toList)=l:=fun l=>by
   induction l with
   | nil=>rfl
   | cons a r ih =>
     rw[List.map_cons,ih];show bx a.data.toList::r=a::r;rw[bx_list]
  exact this xs
 refine ⟨⟨m,xs.map fun s:ByteArray=>s.data.toList⟩,⟨am,?_⟩,a1,a2,by rw[List.length_map];omega,fun s hs =>?_⟩
 ·show Seg .s ps ((xs.map fun s:ByteArray=>s.data.toList).map bx) h;rw[hmap];exact g
 ·obtain ⟨x,hx',rfl⟩:=List.mem_map.1 hs;exact hx x hx'
theorem entr_of {z:EtK.Ty} {h:Heap} (hh:entrR.holds z h):∃e:Ett,EtAt h z e∧e.vec.length*8≤reachBytes∧e.tables.length*32≤reachBytes:=by
 obtain ⟨u,q,vs,r,ts,s,⟨⟩⟩:=z;obtain ⟨_,_,⟨h1,h2,h3,xs,g,_⟩,_,⟨t1,t2,t3,ys,gt,_⟩,_,_⟩:=hh;have gl:Slc.len vs=xs.length:=g.len;have tl:Slc.len ts=ys.length:=gt.len;have h1:Slc.len vs≤Slc.cap vs:=h1;have h3:Slc.cap vs*8≤reachBytes:=h3;have t1:Slc.len ts≤Slc.cap ts:=t1;have t3:Slc.cap ts*32≤reachBytes:=t3;refine ⟨⟨u,q,xs,r,ys,s.data.toList⟩,⟨rfl,rfl,g,rfl,gt,bx_list.symm⟩,by show xs.length*8≤_;omega,by show ys.length*32≤_;omega⟩
theorem hs_of {z:Slc} {h:Heap} (hh:hsR.holds z h):∃T:List HVec,Seg (.ar 32 .u8) z T h∧T.length*32≤reachBytes:=by
 obtain ⟨h1,h2,h3,xs,g,_⟩:=hh;have gl:Slc.len z=xs.length:=g.len;have h1:Slc.len z≤Slc.cap z:=h1;have h3:Slc.cap z*32≤reachBytes:=h3;exact ⟨xs,g,by omega⟩
def ett0:Ett:=⟨0,0,[],Vector.replicate 32 0,[],[]⟩
section
variable {n0 c t:Nat} {h:Heap} {mv:MbK.Ty} {ps bs es:Slc} {evs:List EtK.Ty} {C:Cn}
theorem chain_Next.u {u:Int} {ts:Slc} {T:List HVec} {K:EtK.Ty→Int→Heap→Prop} (i:IsCh n0 h c t mv ps bs es evs C) (o:CnOk C) (g:Seg (.ar 32 .u8) ts T h) (hT:T.length*32≤140737488355328)
 (hK:∀v h',Keep [] h h'→EtR h' v (if nxtMay C u T.length=true then nextE C u T else ett0)→K v (if nxtMay C u T.length=true then 0 else 2000) h'):chain_Chain_Next.C (some ⟨c,0⟩) u ts h K:=by
 refine chain_Next.s i o g hT (fun hn h' k =>?_) (fun hn v h' k r _ =>?_)
 ·have:=hK et0 h' k;rw[hn] at this;exact this et0_R
 ·have:=hK v h' k;rw[hn] at this;exact this r
end
section
variable {n1 c:Nat} {h:Heap} {kv:KeK.Ty} {fs es ls:Slc} {evs:List EtK.Ty} {C:Cn}
theorem ref18_Next.u {u:Int} {ts:Slc} {T:List HVec} {K:EtK.Ty→Int→Heap→Prop} (i:IsRc n1 h c kv fs es ls evs C) (ka:KeAt h kv ⟨C.m,C.pubs⟩) (o:CnOk C) (g:Seg (.ar 32 .u8) ts T h) (hT:T.length*32≤140737488355328)
 (hK:∀v h',Keep [] h h'→EtR h' v (if nxtMay C u T.length=true then nextE C u T else ett0)→K v (if nxtMay C u T.length=true then 0 else 2000) h'):ref18_Chain_Next.C (some ⟨c,0⟩) u ts h K:=by
 refine ref18_Next.s i ka o g hT (fun hn h' k =>?_) (fun hn v h' k r _ =>?_)
 ·have:=hK et0 h' k;rw[hn] at this;exact this et0_R
 ·have:=hK v h' k;rw[hn] at this;exact this r
end
theorem next_lens {C:Cn} {u:Int} {T:List HVec} (o:CnOk C) (hT:T.length*32≤140737488355328):(if nxtMay C u T.length=true then nextE C u T else ett0).vec.length≤9223372036854775807∧(if nxtMay C u T.length=true then nextE C u T else ett0).tables.length≤9223372036854775807:=by
 obtain ⟨u1,u2,u3⟩:=o.u;obtain ⟨v1,v2,v3⟩:=o.v
 cases nxtMay C u T.length with
 | false =>
   rw[if_neg (by simp)];exact ⟨show (0:Nat)≤_ by decide,show (0:Nat)≤_ by decide⟩
 | true =>
   rw[if_pos rfl];unfold nextE nextVec;dsimp only;rw[List.length_set];omega
theorem IsRc.keepF {n1 c:Nat} {h h':Heap} {kv:KeK.Ty} {fs:Slc} {C:Cn} {S:List Nat} (i:IsRc n1 h c kv fs ⟨none,0,0⟩ ⟨none,0,0⟩ [] C) (hall:C.all=[]) (k:Keep S h h') (hS:∀b∈S,∀T,T=t_almonryref18_Chain∨T=t_api_Hash→∀cc f,h[b]? ≠ some (.cells cc T f)):IsRc n1 h' c kv fs ⟨none,0,0⟩ ⟨none,0,0⟩ [] C:=
 ⟨k.get i.e fun hm=>hS c hm _ (by simp) _ _ i.e,i.lc,row_keepC (n0:=0) i.f k (fun _ _=>Nat.zero_le _) (fun b hb => .inr (.inr (hS b hb _ (by simp)))),.inl ⟨rfl,rfl⟩,by simp[own],by rw[hall];trivial,by rw[hall];exact .inl ⟨rfl,rfl⟩,by simp[own]⟩
theorem law20_ChainForms.s {zk:KeK.Ty} {ze:EtK.Ty} {user:Int} {zt:Slc} {h:Heap} {K:Bool→Heap→Prop} (hk:keysR.holds zk h) (he:entrR.holds ze h) (ht:hsR.holds zt h) (hK:∀h',Keep [] h h'→K true h'):law20_ChainForms.C zk ze user zt h K:=by
 have zb:reachBytes=140737488351232:=by decide
 obtain ⟨k,ak,kb1,kb2,kb3,kb4⟩:=keys_of hk;obtain ⟨e,ae,eb1,eb2⟩:=entr_of he;obtain ⟨T,gT,tb⟩:=hs_of ht;rw[zb] at kb1 kb3 eb1 eb2 tb;apply law20_ChainForms.c;unfold law20_ChainForms.m;refine new_gen fun b1 h1 hb1 k1 e1 hs1 =>?_;have e1:h1[b1]? = some (vobj t_api_Keys KeK zk):=e1;refine new_gen fun b2 h2 hb2 k2 e2 hs2 =>?_;have e2:h2[b2]? = some (vobj t_api_Entry EtK ze):=e2;have k02:=k1.n k2;refine ld_go (sm_all (k2.g e1)) ?_;refine law0_CopyKeys.s (ak.keep k02) (by omega) (fun g hg=>by have:=kb2 g hg;omega) (by omega) fun h3 xv k3 cx =>?_;have k03:=k02.n k3;refine new_st_gen fun b3 h5 hb3 k5 e5 hs5 =>?_;have e5:h5[b3]? = some (vobj t_api_Keys KeK xv):=e5;have k05:=k03.n k5;have k25:=k3.n k5;have e15:=(k2.n k25).g e1;have e25:=k25.g e2;have z02:=k02.1;refine ld_go (sm_all e5) ?_;have hpl:k.pubs.length≤9223372036854775806:=by omega
 have hgl:k.m.groups.length≤9223372036854775806:=by omega
 have hg8:∀g∈k.m.groups,g.length*8≤140737488355328:=fun g hg=>by have:=kb2 g hg;omega
 have cx5:=cx.keep0 k5
 cases hm:kysMay k with
 | false =>
   refine chain_Start.s (k:=k) cx5.at hpl (fun _ h6 k6 =>?_) (fun hn=>by rw[hm] at hn;simp at hn);refine new_st_gen fun b4 h8 hb4 k8 e8 hs8 =>?_;have e8:h8[b4]? = some (vobj t_api_Log LgK lg0):=e8;have k58:=k6.n k8;refine ld_go (sm_all (k58.g e5)) ?_;refine chain_New.s (k:=k) (cx5.keep0 k58).at hpl hg8 (fun _ h9 k9 =>?_) (fun hn=>by rw[hm] at hn;simp at hn);have k59:=k58.n k9;refine ld_go (sm_all (k59.g e15)) ?_;refine ref18_NewChain.s (k:=k) (ak.keep (k05.n k59)) hpl (by omega) (fun _ h10 k10 =>?_) (fun hn=>by rw[hm] at hn;simp at hn);have k5_10:=k59.n k10;have k0_10:=k05.n k5_10;refine jn_in (fun y h'=>y=(false,())∧Keep [] h10 h') ?_ ?_
   ·refine ld_go (sm_all (k5_10.g e5)) (ld_go (sm_all (k5_10.g e15)) ?_);refine chain_KeysMay.s (cx5.keep0 k5_10).at hpl fun h12 k12=>⟨sm_all ((k5_10.n k12).g e15),?_⟩;refine ref18_KeysMay.s (ak.keep (k0_10.n k12)) hpl (by omega) fun h13 k13 =>?_;rw[if_neg (by simp)];have k10_13:=k12.n k13;have k5_13:=k5_10.n k10_13;refine ld_go (sm_all (k5_13.g e5)) (ld_go (sm_all (k5_13.g e15)) ?_);refine law0_SameKeys.s (cx5.keep0 k5_13).at (ak.keep (k05.n k5_13)) (by omega) (by omega) fun h14 k14 =>?_;exact ⟨rfl,k10_13.n k14⟩
   rintro _ h11 ⟨rfl,k11⟩;rw[if_neg (by simp),if_pos (by decide)];have k8_11:=((k9.n k10).n k11);refine jn_in (fun y h'=>y=(true,())∧Keep [] h11 h') ?_ ?_
   ·refine law0_Num.s ?_;rw[ifd];refine law0_Num.s ?_;rw[ifd,if_pos (by simp)];refine ld_go (lg_f (k8_11.g e8)).1 ?_;rw[if_pos (by rfl)];refine law20_awake.s fun h18 k18=>⟨rfl,k18⟩
   ·rintro _ h15 ⟨rfl,k15⟩;exact hK h15 ((k0_10.n k11).n k15)
 | true =>
   have o:=new_ok hm;have hall:(newC k).all=[]:=rfl;have hCm:(newC k).m=k.m:=rfl;have hCp:(newC k).pubs=k.pubs:=rfl;refine chain_Start.s (k:=k) cx5.at hpl (fun hn=>by rw[hm] at hn;simp at hn) (fun _ h6 k6 =>?_);refine new_st_gen fun b4 h8 hb4 k8 e8 hs8 =>?_;have e8:h8[b4]? = some (vobj t_api_Log LgK ((0,(rootV [],(et0,()))):LgK.Ty)):=e8;have k58:=k6.n k8;refine ld_go (sm_all (k58.g e5)) ?_;refine chain_New.s (k:=k) (cx5.keep0 k58).at hpl hg8 (fun hn=>by rw[hm] at hn;simp at hn) (fun _ h9 c t mv ps bs k9 i9 =>?_);have k59:=k58.n k9;refine ld_go (sm_all (k59.g e15)) ?_;refine ref18_NewChain.s (k:=k) (ak.keep (k05.n k59)) hpl (by omega) (fun hn=>by rw[hm] at hn;simp at hn) (fun _ h10 c2 fs k10 ir10 =>?_);have k5_10:=k59.n k10;have k0_10:=k05.n k5_10;have ka:∀ {h':Heap},Keep [] h h'→KeAt h' zk ⟨(newC k).m,(newC k).pubs⟩:=fun kk=>ak.keep kk;have hz60:∀s∈k.pubs,s.length≤9223372036854775000:=fun s hs=>by have:=kb4 s hs;omega
   have hr0:rootV []=rootV ((newC k).all.map putE):=rfl;rw[hr0] at e8;generalize newC k=C at *;refine jn_in (fun y h'=>y=(false,())∧Keep [] h10 h') ?_ ?_
   ·refine ld_go (sm_all (k5_10.g e5)) (ld_go (sm_all (k5_10.g e15)) ?_);refine chain_KeysMay.s (cx5.keep0 k5_10).at hpl fun h12 k12=>⟨sm_all ((k5_10.n k12).g e15),?_⟩;refine ref18_KeysMay.s (ak.keep (k0_10.n k12)) hpl (by omega) fun h13 k13 =>?_;rw[if_neg (by simp)];have k10_13:=k12.n k13;have k5_13:=k5_10.n k10_13;refine ld_go (sm_all (k5_13.g e5)) (ld_go (sm_all (k5_13.g e15)) ?_);refine law0_SameKeys.s (cx5.keep0 k5_13).at (ak.keep (k05.n k5_13)) (by omega) (by omega) fun h14 k14 =>?_;exact ⟨rfl,k10_13.n k14⟩
   rintro _ h11 ⟨rfl,k11⟩;rw[if_neg (by simp),if_neg (by decide)];refine jn_at (false,()) h11 ?_ ?_
   ·refine law0_Num.s ?_;rw[if_neg (by decide)];refine law0_Num.s ?_;rw[if_neg (by decide)];exact ⟨by simp,rfl⟩
   rw[if_neg (by simp)];have k5_11:=k5_10.n k11;have k0_11:=k05.n k5_11;have k9_11:=k10.n k11;have k8_11:=k9.n k9_11;refine ld_go (sm_all (k5_11.g e5)) ?_;refine law0_SpoilKeys.s cx (k5.n k5_11) hgl hpl hz60 fun h22 S kS hS =>?_;have z3:=k3.1;have z5:=k5.1;have z58:=k58.1;have i22:=(i9.keep0 k9_11).keep kS fun b hb => .inl (by have:=(hS b hb).2.1;omega);have ir22:=(ir10.keep0 k11).keepF hall kS fun b hb T hT=>(hS b hb).2.2 T (by rcases hT with rfl | rfl <;> decide) (by rcases hT with rfl | rfl <;> decide);have k0_22:Keep [] h h22:=k0_11.new kS fun q hq=>by have:=(hS q hq).1;omega
   have e2_22:=kS.get ((k5_11).g e25) fun hm=>(hS _ hm).2.2 t_api_Entry (by decide) (by decide) _ _ ((k5_11).g e25);have e4_22:=kS.get ((k8_11).g e8) fun hm=>(hS _ hm).2.2 t_api_Log (by decide) (by decide) _ _ ((k8_11).g e8);refine ld_go (sm_all e2_22) ?_;refine chain_Check.s i22 o (ae.keep k0_22) (by omega) fun h23 k23 =>?_;have i23:=i22.keep0 k23;have k0_23:=k0_22.n k23;refine chain_Next.u i23 o (gT.keep (by decide) k0_23) (by omega) fun v h24 k24 r24 =>?_;refine new_st_gen fun b5 h26 hb5 k26 e26 hs26 =>?_;have e26:h26[b5]? = some (vobj t_api_Entry EtK v):=e26;have k22_26:=(k23.n k24).n k26;have k0_26:=k0_22.n k22_26;refine ref18_Next.u (ir22.keep0 k22_26) (ka k0_26) o (gT.keep (by decide) k0_26) (by omega) fun w h27 k27 r27 =>?_;refine new_st_gen fun b6 h29 hb6 k29 e29 hs29 =>?_;have e29:h29[b6]? = some (vobj t_api_Entry EtK w):=e29;have k26_29:=k27.n k29;have k22_29:=k22_26.n k26_29;have r24':=(r24.keep k26 (by simp)).keep k26_29 (by simp);have r27':=r27.keep k29 (by simp);have nl:=next_lens (u:=user) (T:=T) o (by omega);generalize (if nxtMay C user T.length=true then nextE C user T else ett0)=E at *;generalize (if nxtMay C user T.length=true then (0:Int) else 2000)=code at *;obtain ⟨ll1,ll2⟩:=last_len o;have lE:lastE C=ett0:=by unfold lastE;rw[hall];rfl
   have lg8:∀ {h':Heap},LgR h' ((0,(rootV (C.all.map putE),(et0,()))):LgK.Ty) C:=fun {h'}=>⟨by rw[hall];rfl,rfl,by rw[lE];exact et0_R⟩;refine jn_in (fun y h'=>y=(true,())∧Keep [] h29 h') ?_ ?_
   ·have e4_29:=k22_29.g e4_22;refine ld_go (sm_all e4_29) ?_;refine ref18_Log.s (ir22.keep0 k22_29) o fun x33 h31 k31 lg31=>⟨sm_all (k31.g e4_29),?_⟩;refine law0_SameLog.t lg8 lg31 ll1 ll2 fun h32 k32 =>?_;rw[if_pos rfl];have k22_32:=(k22_29.n k31).n k32;refine chain_Log.s (i22.keep0 k22_32) o fun x35 h33 k33 lg33 _ =>?_;have k22_33:=k22_32.n k33;refine ref18_Log.s (ir22.keep0 k22_33) o fun x36 h34 k34 lg34 =>?_;refine law0_SameLog.t (C:=C) ⟨lg33.n,lg33.r,lg33.e.keep k34 (by simp)⟩ lg34 ll1 ll2 fun h35 k35 =>?_;rw[if_pos rfl];have k22_35:=(k22_33.n k34).n k35;have e2_35:=k22_35.g e2_22;refine ld_go (sm_all e2_35) ?_;refine law0_Num.s ⟨sm_all e2_35,?_⟩;have k0_35:=k0_22.n k22_35;refine ref18_Check.s (ir22.keep0 k22_35) (ka k0_35) o (ae.keep k0_35) (by omega) fun h37 k37 =>?_;rw[ifd];have k29_35:=(((k31.n k32).n k33).n k34).n k35;have k29_37:=k29_35.n k37;refine ld_go (sm_all ((k26_29.n k29_37).g e26)) (ld_go (sm_all (k29_37.g e29)) ?_);refine law0_SameEntry.t (r24'.keep k29_37 (by simp)).at (r27'.keep k29_37 (by simp)).at nl.1 nl.2 fun h38 k38 =>?_;rw[if_pos rfl];refine law0_Num.s ?_;rw[ifd];refine law20_awake.s fun h40 k40=>⟨rfl,(k29_37.n k38).n k40⟩
   ·rintro _ h30 ⟨rfl,k30⟩;exact hK h30 ((k0_22.n k22_29).n k30)
end Go.Proofs.Tryz
