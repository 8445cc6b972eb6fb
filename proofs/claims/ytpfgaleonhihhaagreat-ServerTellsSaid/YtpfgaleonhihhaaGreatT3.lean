import Derived.Test.YtpfgaleonhihhaaGreatT2
import Derived.Test.YtpfgaleonhihhaaGreatT1
import Derived.Test.YtpfgaleonhihhaaGreatModels3
set_option linter.unusedVariables false
set_option linter.unusedSimpArgs false
set_option maxRecDepth 100000
open List renaming all_eq_true → YAA, append_assoc → YAB, append_eq_nil_iff → YAC, append_nil → YAD, drop_drop → YAE, drop_eq_getElem_cons → YAF, drop_eq_nil_of_le → YAG, drop_left' → YAH, drop_zero → YAI, eq_nil_iff_forall_not_mem → YAJ, flatMap_append → YAK, flatMap_cons → YAL, getD_eq_getElem?_getD → YAM, getElem?_eq_getElem → YAN, getElem?_map → YAO, getElem_mem → YAP, length_append → YAQ, length_cons → YAR, length_drop → YAS, length_map → YAT, length_nil → YAU, length_take → YAV, map_cons → YAW, mem_append → YAX, mem_map_of_mem → YAY, mem_singleton → YAZ, nil_append → YAa, not_mem_nil → YAb, take_append_drop → YAc, take_left' → YAd, take_length → YAe, take_of_length_le → YAf, take_succ_eq_append_getElem → YAg, take_zero → YAh
open Int renaming natCast_nonneg → YAi, toNat_natCast → YAj, toNat_of_nonneg → YAk
open Nat renaming le_refl → YAl, le_succ → YAm, one_le_two_pow → YAn, pow_le_pow_right → YAo, pow_succ → YAp, zero_add → YAq, zero_le → YAr
open Bool renaming and_eq_true → YAs, false_eq_true → YAt, true_and → YAu
namespace Go.Proofs.Tryz
open Go Go.Al
def dMs3 (k u f:Int) (es:List Ett) (ws:List HVec) (l:By):Option Msg:=if l.length<1 then none else match rStr rTxt (rN1 l).1.toNat (rN1 l).2 [] with
 | none=>none
 | some (os,r)=>if r=[]∧0≤k∧k≤6 then some ⟨k,u,f,es,ws,os⟩ else none
def dMs2 (k u f:Int) (es:List Ett) (l:By):Option Msg:=if l.length<1 then none else match rStr rHs (rN1 l).1.toNat (rN1 l).2 [] with
 | none=>none
 | some (ws,r)=>dMs3 k u f es ws r
def dMs1 (k u f:Int) (l:By):Option Msg:=if l.length<1 then none else match rStr rEt (rN1 l).1.toNat (rN1 l).2 [] with
 | none=>none
 | some (es,r)=>dMs2 k u f es r
def dMs (s:By):Option Msg:=
 if 65536<s.length∨s.length<6∨s.take 2≠[77,71] then none else
 dMs1 (rN1 (s.drop 2)).1 (rN1 (rN1 (s.drop 2)).2).1 (rN2 (rN1 (rN1 (s.drop 2)).2).2).1 (rN2 (rN1 (rN1 (s.drop 2)).2).2).2
theorem bytesM_drop {m:Msg}:(bytesM m).drop 2=be m.kind.toNat 1++(be m.user.toNat 1++(be m.frm.toNat 2++(be m.ents.length 1++(m.ents.flatMap mEnt++(be m.wants.length 1++((m.wants.flatMap fun z=>z.toList)++(be m.objs.length 1++(m.objs.flatMap mTxt++[])))))))):=by
 unfold bytesM headM;simp only [YAB,YAD]
 rfl
theorem dMs_put {m:Msg} (h:putM m=true):dMs (bytesM m)=some m:=by
 have h0:=h;unfold putM at h0;simp only [YAs,decide_eq_true_eq] at h0;obtain ⟨h0,hsz⟩:=h0;have h':=h0;unfold msgMay at h';simp only [YAs,decide_eq_true_eq] at h';obtain ⟨c1,c2,c3,c4,c5,c6,c7,c8,c9,c10,c11⟩:=h'
 have e1:∀r,rStr rEt m.ents.length (m.ents.flatMap mEnt++r) []=some (m.ents,r):=fun r=>by
  rw[rStr_all (p:=fun e=>putMay e=true) (fun x r hx=>rEt_ent hx) _ _ _ (List.all_eq_true.1 c8)];rfl
 have e2:∀r,rStr rHs m.wants.length ((m.wants.flatMap fun z=>z.toList)++r) []=some (m.wants,r):=fun r=>by
  rw[rStr_all (p:=fun _=>True) (fun x r _=>rHs_hv) _ _ _ (fun _ _=>trivial)];rfl
 have e3:∀r,rStr rTxt m.objs.length (m.objs.flatMap mTxt++r) []=some (m.objs,r):=fun r=>by
  rw[rStr_all (p:=fun s=>s.length<65536) (fun x r hx=>rTxt_txt hx) _ _ _ (fun s hs=>by have:=List.all_eq_true.1 c11 s hs;simp at this;omega)];rfl
 have u1:((m.kind.toNat:Nat):Int)=m.kind:=YAk (by omega);have u2:((m.user.toNat:Nat):Int)=m.user:=YAk (by omega);have u3:((m.frm.toNat:Nat):Int)=m.frm:=YAk (by omega)
 have ht:(bytesM m).take 2=[77,71]:=by
  unfold bytesM headM;simp only [YAB]
  rfl
 have hl:6≤(bytesM m).length:=by
  unfold bytesM headM;simp only [YAQ,be_len,YAR,YAU];omega
 unfold dMs;rw[if_neg (by rw[ht];simp;omega),bytesM_drop,rN1_be (by omega)];dsimp only;rw[rN1_be (by omega)];dsimp only;rw[rN2_be (by omega)];dsimp only;unfold dMs1;rw[if_neg (by simp[be_len]),rN1_be (by omega)];dsimp only;rw[YAj,e1];dsimp only;unfold dMs2;rw[if_neg (by simp[be_len]),rN1_be (by omega)];dsimp only;rw[YAj,e2];dsimp only;unfold dMs3;rw[if_neg (by simp[be_len]),rN1_be (by omega)];dsimp only;rw[YAj,e3];dsimp only;rw[u1,u2,u3,if_pos ⟨rfl,c1,c2⟩]
theorem dMs_eq (s:By):dMs s=getM s:=by
 cases hg:getM s with
 | some m =>
   obtain ⟨a,b⟩:=getM_some hg;rw[←b,dMs_put a]
 | none =>
   cases hd:dMs s with
   | none=>rfl
   | some m =>
     exfalso
     suffices h:putM m=true∧bytesM m=s by
      rw[←h.2,getM_put h.1] at hg;cases hg
     unfold dMs at hd;split at hd
     ·cases hd
     rename_i hc
     have hl0:s.length≤65536:=Nat.le_of_not_lt fun hh=>hc (.inl hh);have hl:6≤s.length:=Nat.le_of_not_lt fun hh=>hc (.inr (.inl hh));have ht:s.take 2=[77,71]:=Decidable.not_not.1 fun hh=>hc (.inr (.inr hh));obtain ⟨k0,k1,ek⟩:=rN1_snd (l:=s.drop 2) (by simp;omega)
     have lk:(rN1 (s.drop 2)).2.length=s.length-3:=by
      have:=congrArg List.length ek;simp only [YAQ,be_len,YAS] at this;omega
     obtain ⟨u0,u1,eu⟩:=rN1_snd (l:=(rN1 (s.drop 2)).2) (by omega)
     have lu:(rN1 (rN1 (s.drop 2)).2).2.length=s.length-4:=by
      have:=congrArg List.length eu;simp only [YAQ,be_len] at this;omega
     obtain ⟨f0,f1,ef⟩:=rN2_snd (l:=(rN1 (rN1 (s.drop 2)).2).2) (by omega);generalize (rN1 (s.drop 2))=K at *;generalize (rN1 K.2)=U at *;generalize (rN2 U.2)=F at *;unfold dMs1 at hd;split at hd
     ·cases hd
     obtain ⟨a0,a1,ea⟩:=rN1_snd (l:=F.2) (by omega);split at hd
     ·cases hd
     rename_i es l1 hes
     obtain ⟨xs,x1,x2,x3,x4⟩:=rStr_snd (g:=mEnt) (p:=fun x=>putMay x=true) (fun l x h=>rEt_snd h) _ _ _ _ _ hes;rw[YAa] at x1;subst x1;unfold dMs2 at hd;split at hd
     ·cases hd
     obtain ⟨b0,b1,eb⟩:=rN1_snd (l:=l1) (by omega);split at hd
     ·cases hd
     rename_i ws l2 hws
     obtain ⟨ys,y1,y2,y3,y4⟩:=rStr_snd (g:=fun x:HVec=>x.toList) (p:=fun x=>True) (fun l x h=>rHs_snd h) _ _ _ _ _ hws;rw[YAa] at y1;subst y1;unfold dMs3 at hd;split at hd
     ·cases hd
     obtain ⟨d0,d1,ed⟩:=rN1_snd (l:=l2) (by omega);split at hd
     ·cases hd
     rename_i os l3 hos
     obtain ⟨zs,z1,z2,z3,z4⟩:=rStr_snd (g:=mTxt) (p:=fun x=>x.length≤65535) (fun l x h=>rTxt_snd h) _ _ _ _ _ hos;rw[YAa] at z1;subst z1;split at hd
     ·rename_i hm
      cases hd
      have hb:bytesM ⟨K.1,U.1,F.1,es,ws,os⟩=s:=by
       have hs:s=[77,71]++s.drop 2:=by rw[←ht,YAc]
       rw[hs,ek,eu,ef,ea,x4,eb,y4,ed,z4,hm.1];unfold bytesM headM;dsimp only;rw[x2,y2,z2];simp only [YAB,YAD]
      refine ⟨?_,hb⟩;unfold putM;rw[hb,dT hl0,Bool.and_true];unfold msgMay;simp only [YAs,decide_eq_true_eq];refine ⟨hm.2.1,hm.2.2,u0,by omega,f0,by omega,by omega,List.all_eq_true.2 x3,by omega,by omega,List.all_eq_true.2 fun x hx=>dT (z3 x hx)⟩
     ·cases hd
theorem clone_int.s {es:Slc} {xs:List (Kd.Ty .i)} {h:Heap} {K:Slc→Heap→Prop} (g:Seg .i es xs h) (hl:xs.length*8≤140737488355328)
 (hK:∀s' h',Keep [] h h'→Row h' t_int .i s' xs→(∀b∈own s',h.size≤b)→K s' h'):ZAn.C es h K:=by
 apply ZAn.c;unfold ZAn.m;have hlen:=g.len;by_cases ha':es.isNil=true
 ·rw[if_pos ha'];have ha:=Slc.a_nil ha'
  have:xs=[]:=by
   cases xs with
   | nil=>rfl
   | cons x r=>obtain ⟨l,hl,_⟩:=g.el 0 x (by simp);rw[ha] at hl;simp at hl
  subst this;exact hK _ _ Keep.rfl Row.nil (by simp[own])
 ·rw[if_neg ha'];show slCells es (es.len*1) (h.push (robj t_int .i [])) _;refine slCells_seg (g.keep (by decide) keep_push) (by rw[hlen];rfl) ?_;refine ap_row (ys:=xs) (Row.of_new (zs:=[]) (b:=h.size) get_push rfl rfl rfl) hlen rfl (by simp only [YAU,YAq,hlen];exact hl) fun s' h' r k o =>?_;refine hK s' h' (keep_push.new k (by simp[own])) (by simpa using r) fun b hb =>?_;rcases own_of o b hb with e | e
  ·simp[own] at e;omega
  ·rw[e];simp
theorem clone_str.s {es:Slc} {xs:List (Kd.Ty .s)} {h:Heap} {K:Slc→Heap→Prop} (g:Seg .s es xs h) (hl:xs.length*16≤140737488355328)
 (hK:∀s' h',Keep [] h h'→Row h' t_string .s s' xs→(∀b∈own s',h.size≤b)→K s' h'):ZAa.C es h K:=by
 apply ZAa.c;unfold ZAa.m;have hlen:=g.len;by_cases ha':es.isNil=true
 ·rw[if_pos ha'];have ha:=Slc.a_nil ha'
  have:xs=[]:=by
   cases xs with
   | nil=>rfl
   | cons x r=>obtain ⟨l,hl,_⟩:=g.el 0 x (by simp);rw[ha] at hl;simp at hl
  subst this;exact hK _ _ Keep.rfl Row.nil (by simp[own])
 ·rw[if_neg ha'];show slCells es (es.len*1) (h.push (robj t_string .s [])) _;refine slCells_seg (g.keep (by decide) keep_push) (by rw[hlen];rfl) ?_;refine ap_row (ys:=xs) (Row.of_new (zs:=[]) (b:=h.size) get_push rfl rfl rfl) hlen rfl (by simp only [YAU,YAq,hlen];exact hl) fun s' h' r k o =>?_;refine hK s' h' (keep_push.new k (by simp[own])) (by simpa using r) fun b hb =>?_;rcases own_of o b hb with e | e
  ·simp[own] at e;omega
  ·rw[e];simp
theorem clone_hash.s {es:Slc} {xs:List (Kd.Ty (.ar 32 .u8))} {h:Heap} {K:Slc→Heap→Prop} (g:Seg (.ar 32 .u8) es xs h) (hl:xs.length*32≤140737488355328)
 (hK:∀s' h',Keep [] h h'→Row h' t_api_Hash (.ar 32 .u8) s' xs→(∀b∈own s',h.size≤b)→K s' h'):ZAQ.C es h K:=by
 apply ZAQ.c;unfold ZAQ.m;have hlen:=g.len;by_cases ha':es.isNil=true
 ·rw[if_pos ha'];have ha:=Slc.a_nil ha'
  have:xs=[]:=by
   cases xs with
   | nil=>rfl
   | cons x r=>obtain ⟨l,hl,_⟩:=g.el 0 x (by simp);rw[ha] at hl;simp at hl
  subst this;exact hK _ _ Keep.rfl Row.nil (by simp[own])
 ·rw[if_neg ha'];show slCells es (es.len*32) (h.push (robj t_api_Hash (.ar 32 .u8) [])) _;refine slCells_seg (g.keep (by decide) keep_push) (by rw[hlen];rfl) ?_;refine ap_row (ys:=xs) (Row.of_new (zs:=[]) (b:=h.size) get_push rfl rfl rfl) hlen rfl (by simp only [YAU,YAq,hlen];exact hl) fun s' h' r k o =>?_;refine hK s' h' (keep_push.new k (by simp[own])) (by simpa using r) fun b hb =>?_;rcases own_of o b hb with e | e
  ·simp[own] at e;omega
  ·rw[e];simp
theorem tagU {h:Heap} {T T':Nat} {k k':Kd} {u v:Slc} {xs:List k.Ty} {ys:List k'.Ty} (r:Row h T k u xs) (r':Row h T' k' v ys) (hT:T≠T'):∀q∈own u,q∉own v:=fun q hq=>by
 rcases r with ⟨e,_⟩ | ⟨b,zs,e,_,_,e4⟩
 ·rw[e] at hq;simp[own] at hq
 ·have:q=b:=by unfold own at hq;rw[e] at hq;simpa using hq
  subst this;exact rowT r' e4 hT
structure EtR (h:Heap) (v:EtK.Ty) (e:Ett):Prop where
 u:v.1=e.user
 q:v.2.1=e.seq
 w:Row h t_int .i v.2.2.1 e.vec
 r:v.2.2.2.1=e.root
 t:Row h t_api_Hash (.ar 32 .u8) v.2.2.2.2.1 e.tables
 s:v.2.2.2.2.2.1=bx e.sign
theorem EtR.at {h:Heap} {v:EtK.Ty} {e:Ett} (a:EtR h v e):EtAt h v e:=⟨a.u,a.q,a.w.seg,a.r,a.t.seg,a.s⟩
def etO (v:EtK.Ty):List Nat:=own v.2.2.1++own v.2.2.2.2.1
theorem EtR.keep {h h':Heap} {v:EtK.Ty} {e:Ett} {S:List Nat} (a:EtR h v e) (k:Keep S h h') (hS:∀b∈etO v,b∉S):EtR h' v e:=
 ⟨a.u,a.q,a.w.keep k (fun b hb=>hS b (by unfold etO;simp[hb])),a.r,a.t.keep k (fun b hb=>hS b (by unfold etO;simp[hb])),a.s⟩
theorem et_w2 {v:EtK.Ty} {y:Slc}:wrL (EtK.cells v) 2 (Kd.sl.cells y)=EtK.cells ((v.1,(v.2.1,(y,v.2.2.2))):EtK.Ty):=rfl
theorem et_w35 {v:EtK.Ty} {y:Slc}:wrL (EtK.cells v) 35 (Kd.sl.cells y)=EtK.cells ((v.1,(v.2.1,(v.2.2.1,(v.2.2.2.1,(y,v.2.2.2.2.2))))):EtK.Ty):=by
 have l3:((Kd.ar 32 .u8).cells v.2.2.2.1).length=32:=Kd.cells_length ..
 have e0:∀w:Slc×ByteArray×Unit,EtK.cells ((v.1,(v.2.1,(v.2.2.1,(v.2.2.2.1,w)))):EtK.Ty)=((Kd.i.cells v.1++(Kd.i.cells v.2.1++Kd.sl.cells v.2.2.1))++(Kd.ar 32 .u8).cells v.2.2.2.1)++(Kd.sl.cells w.1++(Kd.s.cells w.2.1++[])):=fun w=>by
  rw[YAB];rfl
 have e1:=e0 v.2.2.2.2;have e2:=e0 (y,v.2.2.2.2.2);rw[e2];have e1:EtK.cells v=_:=e1;rw[e1];have l35:((Kd.i.cells v.1++(Kd.i.cells v.2.1++Kd.sl.cells v.2.2.1))++(Kd.ar 32 .u8).cells v.2.2.2.1).length=35:=by rw[YAQ,l3];rfl
 generalize ((Kd.i.cells v.1++(Kd.i.cells v.2.1++Kd.sl.cells v.2.2.1))++(Kd.ar 32 .u8).cells v.2.2.2.1)=A at *;unfold wrL;rw[YAd l35,←YAE,YAH l35,YAB]
 rfl
theorem ZCI.s {v:EtK.Ty} {e:Ett} {h:Heap} {K:EtK.Ty→Heap→Prop} (a:EtAt h v e) (hv:e.vec.length*8≤140737488355328) (ht:e.tables.length*32≤140737488355328)
 (hK:∀v' h',Keep [] h h'→EtR h' v' e→(∀b∈etO v',h.size≤b)→K v' h'):ZCI.C v h K:=by
 apply ZCI.c;unfold ZCI.m;refine new_gen fun b1 h1 hb1 k1 e1 hs1 =>?_;have e1:h1[b1]? = some (vobj t_api_Entry EtK v):=e1;refine new_gen fun b2 h2 hb2 k2 e2 hs2 =>?_;have e2:h2[b2]? = some (vobj t_api_Entry EtK _):=e2;have e12:=k2.g e1;have a2:=(a.keep k1).keep k2;refine ld_go (et_f e12).2.2.1 (ld_go (et_f e12).2.2.2.2.1 ?_);refine clone_int.s a2.w hv fun s3 h3 k3 r3 o3 =>?_;refine ⟨(et_f (k3.g e12)).2.2.2.2.1,?_⟩;refine clone_hash.s (a2.keep k3).t ht fun s4 h4 k4 r4 o4 =>?_;have k24:Keep [] h2 h4:=k3.n k4;have e14:=k24.g e12;have e24:=k24.g e2;have z1:=k1.1;have z2:=k2.1;have z3:=k3.1;refine st_fld (k:=EtK) (k' := .sl) (n:=2) e14 (by decide) et_w2 ?_;have e5:=get_set (o':=vobj t_api_Entry EtK ((v.1,(v.2.1,(s3,v.2.2.2))):EtK.Ty)) e14;have k5:Keep [b1] h4 (h4.setIfInBounds b1 (vobj t_api_Entry EtK ((v.1,(v.2.1,(s3,v.2.2.2))):EtK.Ty))):=keep_set;generalize h4.setIfInBounds b1 (vobj t_api_Entry EtK ((v.1,(v.2.1,(s3,v.2.2.2))):EtK.Ty))=h5 at e5 k5 ⊢;refine st_fld (k:=EtK) (k' := .sl) (n:=35) e5 (by decide) et_w35 ?_;dsimp only;have e6:=get_set (o':=vobj t_api_Entry EtK ((v.1,(v.2.1,(s3,(v.2.2.2.1,(s4,v.2.2.2.2.2))))):EtK.Ty)) e5;have k6:Keep [b1] h5 (h5.setIfInBounds b1 (vobj t_api_Entry EtK ((v.1,(v.2.1,(s3,(v.2.2.2.1,(s4,v.2.2.2.2.2))))):EtK.Ty))):=keep_set;generalize h5.setIfInBounds b1 (vobj t_api_Entry EtK ((v.1,(v.2.1,(s3,(v.2.2.2.1,(s4,v.2.2.2.2.2))))):EtK.Ty))=h6 at e6 k6 ⊢;refine ld_go (sm_all e6) ?_;have n21:b2≠b1:=by have:=lt_of_some e1;omega
 have e26:=k6.get (k5.get e24 (by simpa using n21)) (by simpa using n21);refine st_to e26 fun h7 k7 e7 hs7=>ld_go (sm_all e7) ?_;have off:∀ {T:Nat} {k:Kd} {u:Slc} {L:List k.Ty} {hh:Heap} {b:Nat} {x:EtK.Ty},Row hh T k u L→hh[b]? = some (vobj t_api_Entry EtK x)→T≠t_api_Entry→∀q∈own u,q∉[b]:=fun r e hT q hq hm=>by simp at hm;subst hm;exact rowT r e (fun h=>hT h.symm) hq
 have mv:∀ {T:Nat} {k:Kd} {u:Slc} {L:List k.Ty},Row h4 T k u L→T≠t_api_Entry→Row h7 T k u L:=fun r hT=>by
  have r5:=r.keep k5 (off r e14 hT);have r6:=r5.keep k6 (off r5 e5 hT);exact r6.keep k7 (off r6 e26 hT)
 refine hK _ h7 ?_ ⟨a.u,a.q,mv (r3.keep k4 (by simp)) (by decide),a.r,mv r4 (by decide),a.s⟩ fun b hb =>?_
 ·exact ((((k1.n k2).n k24).new k5 (by simp;omega)).new k6 (by simp;omega)).new k7 (by simp;omega)
 ·unfold etO at hb;rcases List.mem_append.1 hb with hb | hb
  ·have:=o3 b hb;omega
  ·have:=o4 b hb;omega
def MbU (n0:Nat) (h:Heap) (v:MbK.Ty) (m:Mb):Prop:=v.1=m.users∧∃gs,Row h t_s_int .sl v.2.1 gs∧(∀q∈own v.2.1,n0≤q)∧All2 (fun s us=>Row h t_int .i s us∧(∀q∈own s,n0≤q)∧us.length*8≤140737488355328) gs m.groups
theorem MbU.at {n0:Nat} {h:Heap} {v:MbK.Ty} {m:Mb} (a:MbU n0 h v m):MbAt h v m:=by
 obtain ⟨u,gs,r,_,al⟩:=a;exact ⟨u,gs,r.seg,All2.mono (fun s us x=>⟨x.1.seg,by have:=x.2.2;omega⟩) al⟩
theorem MbU.keep {n0:Nat} {h h':Heap} {v:MbK.Ty} {m:Mb} {S:List Nat} (a:MbU n0 h v m) (k:Keep S h h') (hS:∀b∈S,b<n0∨∀c f,h[b]? ≠ some (.cells c t_s_int f)∧h[b]? ≠ some (.cells c t_int f)):MbU n0 h' v m:=by
 obtain ⟨u,gs,r,o,al⟩:=a
 have kp:∀ {T:Nat} {k:Kd} {s:Slc} {L:List k.Ty},Row h T k s L→(∀q∈own s,n0≤q)→T=t_s_int∨T=t_int→Row h' T k s L:=fun {T k' s L} r o hT=>r.keep k fun b hb hm=>by
  rcases hS b hm with h1 | h1
  ·have:=o b hb;omega
  ·rcases r with ⟨e,_⟩ | ⟨b',zs,e,_,_,e4⟩
   ·rw[e] at hb;simp[own] at hb
   ·have:b=b':=by unfold own at hb;rw[e] at hb;simpa using hb
    subst this;rcases hT with rfl | rfl
    ·exact (h1 _ _).1 e4
    ·exact (h1 _ _).2 e4
 exact ⟨u,gs,kp r o (.inl rfl),o,All2.mono (fun s us x=>⟨kp x.1 x.2.1 (.inr rfl),x.2⟩) al⟩
theorem ZCB.s {mv:MbK.Ty} {m:Mb} {h:Heap} {K:MbK.Ty→Heap→Prop} (am:MbAt h mv m) (hb:m.groups.length*24≤140737488355328) (hg:∀g∈m.groups,g.length*8≤140737488355328)
 (hK:∀h' mv',Keep [] h h'→MbU h.size h' mv' m→K mv' h'):ZCB.C mv h K:=by
 obtain ⟨hu,gs,ggs,gal⟩:=am;obtain ⟨(u:Int),(gl:Slc),⟨⟩⟩:=mv;have hu:u=m.users:=hu;have ggs:Seg .sl gl gs h:=ggs;apply ZCB.c;unfold ZCB.m;refine new_gen fun b1 h1 hb1 k1 e1 hs1 =>?_;have e1:h1[b1]? = some (vobj t_api_Members MbK ((u,(gl,())):MbK.Ty)):=e1;refine new_gen fun b2 h2 hb2 k2 e2 hs2 =>?_;have e2:h2[b2]? = some (vobj t_api_Members MbK ((0,((⟨none,0,0⟩:Slc),())):MbK.Ty)):=e2;have e1:=k2.g e1;refine ld_go (k := .i) (x:=u) (sm_sub (sm_all e1) (by decide) rfl) ?_;refine new_st_gen fun b3 h4 hb3 k4 e4 hs4 =>?_;have e4:h4[b3]? = some (vobj t_api_Members MbK ((u,((⟨none,0,0⟩:Slc),())):MbK.Ty)):=e4;have e1:=k4.g e1;have e2:=k4.g e2;have k04:Keep [] h h4:=(k1.n k2).n k4;have gsl:=ggs.len;have gal':=gal.len;refine ld_go (k := .sl) (x:=gl) (sm_sub (sm_all e1) (by decide) rfl) ?_;refine lp_go (fun (y:Int×Unit) (h5:Heap)=>∃n:Nat,y.1=n∧n≤m.groups.length∧Keep [] h h5∧h4.size≤h5.size∧h5[b1]? = some (vobj t_api_Members MbK ((u,(gl,())):MbK.Ty))∧h5[b2]? = some (vobj t_api_Members MbK ((0,((⟨none,0,0⟩:Slc),())):MbK.Ty))∧∃s us,h5[b3]? = some (vobj t_api_Members MbK ((u,(s,())):MbK.Ty))∧Row h5 t_s_int .sl s us∧(∀q∈own s,h4.size≤q)∧All2 (fun s' us=>Row h5 t_int .i s' us∧(∀q∈own s',h4.size≤q)) us (m.groups.take n)) (fun (y:Int×Unit) _=>m.groups.length-y.1.toNat) ?_ ?_
 ·exact ⟨0,rfl,by omega,k04,YAl _,e1,e2,⟨none,0,0⟩,[],e4,Row.nil,by simp[own],all2_nil⟩
 rintro ⟨(i:Int),_⟩ h5 ⟨n,e,hn,k5,z5,g1,g2,s,us,g3,r5,o5,a5⟩;dsimp only at e ⊢;subst e;have z04:=k04.1;have z1:=k1.1;have z2:=k2.1;by_cases hlt:n<m.groups.length
 case neg=>
  rw[if_neg (show ¬decide ((n:Int)<(gl.len:Int))=true from dn (by omega))];obtain rfl:n=m.groups.length:=by omega
  rw[YAe] at a5;refine ld_go (sm_all g3) ?_;refine st_to (y:=((u,(s,())):MbK.Ty)) g2 fun h6 k6 e6 hs6 =>?_;refine ld_go (sm_all e6) ?_;have off:∀ {T:Nat} {k:Kd} {u:Slc} {L:List k.Ty},Row h5 T k u L→T≠t_api_Members→∀q∈own u,q∉[b2]:=fun r hT q hq hm=>by simp at hm;subst hm;exact rowT r g2 (fun e=>hT e.symm) hq
  refine hK h6 _ (k5.new k6 (by simp;omega)) ⟨hu,us,r5.keep k6 (off r5 (by decide)),fun q hq=>by have:=o5 q hq;omega,All2.monoM (fun u _ g hg' r=>⟨r.1.keep k6 (off r.1 (by decide)),fun q hq=>by have:=r.2 q hq;omega,hg g hg'⟩) a5⟩
 rw[if_pos (show decide ((n:Int)<(gl.len:Int))=true from dT (by omega))];have hwn:w64 ((n:Int)+1)=((n+1:Nat):Int):=w6 (by omega);rw[hwn];have hgn:n<gs.length:=by omega
 refine seg_ix (ggs.keep (by decide) k5) (x:=gs[n]) (by omega) (by rw[YAj];exact YAN hgn) rfl ?_;refine ld_go (k := .sl) (x:=s) (sm_sub (sm_all g3) (by decide) rfl) ?_;have hgx:=gal.getI hgn hlt;have hg8:=hg _ (YAP hlt);refine clone_int.s (hgx.1.keep (by decide) k5) hg8 fun s2 h7 k7 r7 o7 =>?_;have g37:=k7.g g3;refine ⟨sm_sub (sm_all g37) (by decide) rfl,?_⟩;refine bs_go ?_;have k8:Keep [] h7 (h7.push (robj t_s_int .sl [s2])):=keep_push;have e8:(h7.push (robj t_s_int .sl [s2]))[h7.size]? = some (robj t_s_int .sl [s2]):=get_push;have hz8:h7.size<(h7.push (robj t_s_int .sl [s2])).size:=by simp
 generalize hbv:h7.size=bv at e8 hz8;generalize (h7.push (robj t_s_int .sl [s2]))=h8 at k8 e8 hz8 ⊢;have k58:Keep [] h5 h8:=k7.n k8;refine ⟨sm_sub (sm_all (k58.g g3)) (by decide) rfl,?_⟩;refine slCells_row (k := .sl) (xs:=[s2]) e8 rfl (i:=0) (j:=1) (by simp) rfl (by simp) ?_;have r8:=r5.keep k58 (by simp);have al:=a5.len;rw[YAV] at al;refine ap_row (T:=t_s_int) (k := .sl) (ys:=[s2]) r8 rfl (by simp[Kd.cells]) (by simp only [List.length_singleton];omega) fun s4 h9 r9 k9 o9 =>?_;have g38:=k58.g g3;have g39:=k9.get g38 (rowT r8 g38 (by decide));have g19:=k9.get (k58.g g1) (rowT r8 (k58.g g1) (by decide));have g29:=k9.get (k58.g g2) (rowT r8 (k58.g g2) (by decide));refine st_fld (k:=MbK) (k' := .sl) (y:=s4) (n:=1) (x:=((u,(s,())):MbK.Ty)) (x':=((u,(s4,())):MbK.Ty)) g39 (by decide) rfl ?_;have e10:=get_set (o':=vobj t_api_Members MbK ((u,(s4,())):MbK.Ty)) g39;have k10:Keep [b3] h9 (h9.setIfInBounds b3 (vobj t_api_Members MbK ((u,(s4,())):MbK.Ty))):=keep_set;generalize h9.setIfInBounds b3 (vobj t_api_Members MbK ((u,(s4,())):MbK.Ty))=h10 at e10 k10;have off:∀ {T:Nat} {k:Kd} {u:Slc} {L:List k.Ty},Row h9 T k u L→T≠t_api_Members→∀q∈own u,q∉[b3]:=fun r hT q hq hm=>by simp at hm;subst hm;exact rowT r g39 (fun e=>hT e.symm) hq
 have rr:∀ {u:Slc} {L:List Int},Row h8 t_int .i u L→Row h10 t_int .i u L:=fun r=>by
  have r9':=r.keep k9 (tagU r r8 (by decide));exact r9'.keep k10 (off r9' (by decide))
 have z7:=k7.1;have z58:=k58.1;have z9:=k9.1;have z10:=k10.1;refine ⟨⟨n+1,rfl,by omega,((k5.n k58).new k9 fun q hq=>by have:=o5 q hq;omega).new k10 (by simp;omega),by omega,k10.get g19 (by simp;omega),k10.get g29 (by simp;omega),s4,us++[s2],e10,r9.keep k10 (off r9 (by decide)),fun q hq =>?_,?_⟩,by simp;omega⟩
 ·rcases own_of o9 q hq with e | e
  ·exact o5 q e
  ·omega
 ·rw[YAg hlt];exact All2.app (a5.mono fun _ _ r=>⟨rr (r.1.keep k58 (by simp)),r.2⟩) ⟨⟨rr (r7.keep k8 (by simp)),fun q hq=>by have:=o7 q hq;omega⟩,trivial⟩
def leafV (s:By):HVec:=shaL (0::s)
def joinV (a b:HVec):HVec:=shaL (1::(a.toList++b.toList))
def cutF:Nat→Nat→Nat→Nat
 | 0,_,k=>k
 | f+1,n,k=>if 2*k<n then cutF f n (2*k) else k
def cutN (n:Nat):Nat:=cutF n n 1
theorem cutF_eq {n b:Nat} (h1:2^b<n) (h2:n≤2^(b+1)):∀ {f j:Nat},j≤b→b-j<f→cutF f n (2^j)=2^b
 | 0,j,hj,hf=>by omega
 | f + 1, j, hj, hf => by
   unfold cutF;by_cases e:j=b
   ·subst e;rw[YAp] at h2;rw[if_neg (by omega)]
   ·have h3:2^(j+1)≤2^b:=YAo (by decide) (by omega);have h4:2*2^j=2^(j+1):=by rw[YAp,Nat.mul_comm]
    rw[h4,if_pos (by omega)];exact cutF_eq h1 h2 (by omega) (by omega)
theorem cut_eq {n b:Nat} (h1:2^b<n) (h2:n≤2^(b+1)):cutN n=2^b:=by
 have:b<2^b:=Nat.lt_two_pow_self;exact cutF_eq (j:=0) h1 h2 (by omega) (by omega)
theorem cut_ex {n:Nat} (h:2≤n):∃b,2^b<n∧n≤2^(b+1):=by
 refine ⟨(n-1).log2,?_,?_⟩
 ·have:=Nat.log2_self_le (n:=n-1) (by omega);omega
 ·have:=Nat.lt_log2_self (n:=n-1);omega
theorem cut_lt {n:Nat} (h:2≤n):1≤cutN n∧cutN n<n:=by
 obtain ⟨b,h1,h2⟩:=cut_ex h;rw[cut_eq h1 h2];exact ⟨YAn,h1⟩
def rootF:Nat→List By→HVec
 | 0,_=>shaL []
 | f+1,ls=>if ls.length=0 then shaL [] else if ls.length=1 then leafV (ls.getD 0 []) else joinV (rootF f (ls.take (cutN ls.length))) (rootF f (ls.drop (cutN ls.length)))
theorem rootF_more:∀ {f g:Nat} {ls:List By},ls.length≤f→ls.length≤g→rootF f ls=rootF g ls
 | 0,0,ls,_,_=>rfl
 | 0, g + 1, ls, h, _ => by
   have h0:ls.length=0:=by omega
   unfold rootF;rw[if_pos h0]
 | f + 1, 0, ls, _, h => by
   have h0:ls.length=0:=by omega
   unfold rootF;rw[if_pos h0]
 | f + 1, g + 1, ls, hf, hg => by
   unfold rootF;by_cases h0:ls.length=0
   ·rw[if_pos h0,if_pos h0]
   rw[if_neg h0,if_neg h0];by_cases h1:ls.length=1
   ·rw[if_pos h1,if_pos h1]
   rw[if_neg h1,if_neg h1];have hc:=cut_lt (n:=ls.length) (by omega);rw[rootF_more (f:=f) (g:=g) (ls:=ls.take (cutN ls.length)) (by rw[YAV];omega) (by rw[YAV];omega),rootF_more (f:=f) (g:=g) (ls:=ls.drop (cutN ls.length)) (by rw[YAS];omega) (by rw[YAS];omega)]
def rootV (ls:List By):HVec:=rootF ls.length ls
theorem rootV_cut {ls:List By} (h:2≤ls.length):rootV ls=joinV (rootV (ls.take (cutN ls.length))) (rootV (ls.drop (cutN ls.length))):=by
 have hc:=cut_lt h;have e:ls.length=(ls.length-1)+1:=by omega
 have e0:rootV ls=rootF ((ls.length-1)+1) ls:=by unfold rootV;rw[←e]
 rw[e0];unfold rootF;rw[if_neg (by omega),if_neg (by omega)];unfold rootV;rw[rootF_more (f:=ls.length-1) (g:=(ls.take (cutN ls.length)).length) (by rw[YAV];omega) (YAl _),rootF_more (f:=ls.length-1) (g:=(ls.drop (cutN ls.length)).length) (by rw[YAS];omega) (YAl _)]
theorem rootV_split {l1 l2:List By} {b:Nat} (h1:l1.length=2^b) (h2:0<l2.length) (h3:l2.length≤2^b):rootV (l1++l2)=joinV (rootV l1) (rootV l2):=by
 have hp:1≤2^b:=YAn;have hl:(l1++l2).length=l1.length+l2.length:=YAQ;have hc:cutN (l1++l2).length=2^b:=cut_eq (by omega) (by rw[YAp];omega);rw[rootV_cut (by omega),hc,YAd h1,YAH h1]
def Peaks:List (Nat×HVec)→List By→Prop
 | [],ls=>ls=[]
 | y::rest,ls=>∃b l1 l2,y.1=2^b∧ls=l1++l2∧l2.length=2^b∧y.2=rootV l2∧(∀z∈rest,2^(b+1)≤z.1)∧Peaks rest l1
def bagP:HVec→List (Nat×HVec)→HVec
 | acc,[]=>acc
 | acc,y::rest=>bagP (joinV y.2 acc) rest
def topP:List (Nat×HVec)→HVec
 | []=>shaL []
 | y::rest=>bagP y.2 rest
theorem bag_peaks:∀ {row:List (Nat×HVec)} {ls lx:List By},Peaks row ls→0<lx.length→(∀y∈row,lx.length≤y.1)→bagP (rootV lx) row=rootV (ls++lx)
 | [], ls, lx, h, _, _ => by
   have h:ls=[]:=h;subst h;rfl
 | y :: rest, ls, lx, h, h0, hy => by
   obtain ⟨c,l1,l2,e1,e2,e3,e4,e5,e6⟩:=h;unfold bagP;have h1:=hy y (by simp);rw[e4,←rootV_split (b:=c) e3 h0 (by omega),e2,YAB];refine bag_peaks e6 (by rw[YAQ];omega) fun z hz =>?_;have:=e5 z hz;rw[YAp] at this;rw[YAQ];omega
theorem top_peaks {row:List (Nat×HVec)} {ls:List By} (h:Peaks row ls):topP row=rootV ls:=by
 cases row with
 | nil =>
   have h:ls=[]:=h;subst h;rfl
 | cons y rest =>
   obtain ⟨c,l1,l2,e1,e2,e3,e4,e5,e6⟩:=h;show bagP y.2 rest=rootV ls;have hp:1≤2^c:=YAn;rw[e4,e2];refine bag_peaks e6 (by omega) fun z hz =>?_;have:=e5 z hz;rw[YAp] at this;omega
theorem ZCu.s {u v:Kd.Ty (.ar 32 .u8)} {h:Heap} {K:Kd.Ty (.ar 32 .u8)→Heap→Prop} (hK:∀h',Keep [] h h'→K (joinV u v) h'):ZCu.C u v h K:=by
 apply ZCu.c;unfold ZCu.m;refine new_gen fun b1 h1 hb1 k1 e1 hs1 =>?_;refine new_gen fun b2 h2 hb2 k2 e2 hs2 =>?_;refine new_gen fun b3 h3 hb3 k3 e3 hs3 =>?_;have e13:=k3.g (k2.g e1);have e23:=k3.g e2;refine ⟨by decide,by decide,by decide,?_⟩;have g:Seg .u8 ⟨some ⟨b1,0⟩,32,32⟩ (Vector.toList u) h3:=ar_seg e13;refine b2s_segq g fun q hq =>?_;have hu:(Vector.toList u).length=32:=by simp
 have hv:(Vector.toList v).length=32:=by simp
 show sadd (bx [1]) (bx (Vector.toList u)) _;refine sadd_b (by rw[hu];decide) ?_;refine ⟨by decide,by decide,by decide,?_⟩;have g2:Seg .u8 ⟨some ⟨b2,0⟩,32,32⟩ (Vector.toList v) h3:=ar_seg e23;refine b2s_segq g2 fun q2 hq2 =>?_;show sadd _ (bx (Vector.toList v)) _;refine sadd_b (by rw[YAQ,hu,hv];decide) ?_;refine ZCb.t (by rw[bx_size,YAQ,YAQ,hu,hv];decide) fun h4 k4 =>?_;rw[bx_dl];refine st_to (k4.g e3) fun h5 k5 e5 hs5=>ld_go (sm_all e5) ?_;have z1:=k1.1;have z2:=k2.1;exact hK h5 ((((k1.n k2).n k3).n k4).new k5 (by simp;omega))
theorem ZCf.s {h:Heap} {K:Kd.Ty (.ar 32 .u8)→Heap→Prop} (hK:∀h',Keep [] h h'→K (shaL []) h'):ZCf.C ⟨none,0,0⟩ h K:=by
 apply ZCf.c;unfold ZCf.m;refine new_gen fun b1 h1 hb1 k1 e1 hs1 =>?_;rw[if_pos (show decide (((0:Nat):Int)=0)=true from rfl)];show ZCb.C (bx []) h1 _;refine ZCb.t (by simp[bx_size]) fun h4 k4 =>?_;rw[bx_dl];refine st_to (k4.g e1) fun h5 k5 e5 hs5=>ld_go (sm_all e5) ?_;exact hK h5 ((k1.n k4).new k5 (by simp;omega))
abbrev WhK:Kd := .ag (.pr .i (.pr (.ar 32 .u8) .un))
def whV (x:Nat×HVec):WhK.Ty:=((x.1:Int),(x.2,()))
abbrev TrK2:Kd := .ag (.pr .sl (.pr .i .un))
structure TreeAt (n0:Nat) (h:Heap) (t:Nat) (ls:List By):Prop where
 e:∃(s:Slc) (row:List (Nat×HVec)),h[t]? = some (vobj t_mlog_Tree TrK2 (s,((ls.length:Int),())))∧Row h t_mlog_whole WhK s (row.reverse.map whV)∧Peaks row ls∧(∀b∈own s,n0≤b)
 l:n0≤t
theorem TreeAt.keep {n0 t:Nat} {h h':Heap} {ls:List By} {S:List Nat} (a:TreeAt n0 h t ls) (k:Keep S h h') (hS:∀b∈S,b<n0∨∀c f,h[b]? ≠ some (.cells c t_mlog_whole f)∧h[b]? ≠ some (.cells c t_mlog_Tree f)):TreeAt n0 h' t ls:=by
 obtain ⟨⟨s,row,e,r,p,o⟩,l⟩:=a;refine ⟨⟨s,row,k.get e fun hm =>?_,r.keep k fun b hb hm =>?_,p,o⟩,l⟩
 ·rcases hS t hm with h1 | h1
  ·omega
  ·exact (h1 _ _).2 e
 ·rcases hS b hm with h1 | h1
  ·have:=o b hb;omega
  ·rcases r with ⟨e,_⟩ | ⟨b',zs,e,_,_,e4⟩
   ·rw[e] at hb;simp[own] at hb
   ·have:b=b':=by unfold own at hb;rw[e] at hb;simpa using hb
    subst this;exact (h1 _ _).1 e4
theorem wh_f {l:Pl} {x:Nat×HVec} {h:Heap} (e:sm WhK l (whV x) h):sm .i (l.fld 0) (x.1:Int) h∧sm (.ar 32 .u8) (l.fld 1) x.2 h:=by
 refine ⟨sm_sub e (by decide) rfl,sm_sub e (by decide) ?_⟩;have l3:((Kd.ar 32 .u8).cells x.2).length=32:=Kd.cells_length ..;have:(WhK.cells (whV x)).drop 1=(Kd.ar 32 .u8).cells x.2++[]:=rfl;rw[this];exact YAd l3
theorem bagP_cons {acc:HVec} {y:Nat×HVec} {rest:List (Nat×HVec)}:bagP acc (y::rest)=bagP (joinV y.2 acc) rest:=by rw[bagP]
theorem peaks_len:∀ {row:List (Nat×HVec)} {ls:List By},Peaks row ls→row.length≤ls.length
 | [],ls,_=>YAr _
 | y :: rest, ls, h => by
   obtain ⟨b,l1,l2,_,e2,e3,_,_,e6⟩:=h;have:=peaks_len e6;have hp:1≤2^b:=YAn;rw[e2,YAQ,YAR];omega
theorem ZA5.s {n0 t:Nat} {ls:List By} {h:Heap} {K:Kd.Ty (.ar 32 .u8)→Heap→Prop} (a:TreeAt n0 h t ls) (hl:ls.length≤1000000) (hK:∀h',Keep [] h h'→K (rootV ls) h'):ZA5.C (some ⟨t,0⟩) h K:=by
 obtain ⟨⟨s,row,e,r,p,o⟩,l⟩:=a;rw[←top_peaks p] at hK;apply ZA5.c;unfold ZA5.m;refine new_gen fun b1 h1 hb1 k1 e1 hs1 =>?_;rw[if_neg (by simp)];have fs:∀ {hh:Heap},hh[t]? = some (vobj t_mlog_Tree TrK2 (s,((ls.length:Int),())))→sm .sl ((Pl.mk t 0).fld 0) s hh:=fun e=>sm_fld (n:=0) (k' := .sl) e rfl (by decide);have et1:=k1.g e;have r1:=r.keep k1 (by simp);have rl:s.len=row.length:=by rw[r.len];simp
 refine nck_go (ld_go (fs et1) ?_)
 cases hrow:row with
 | nil =>
   rw[hrow] at rl hK;rw[if_pos (show decide ((s.len:Int)=0)=true from dT (by rw[rl];rfl))];refine ZCf.s fun h3 k3 =>?_;refine st_to (k3.g e1) fun h4 k4 e4 hs4=>ld_go (sm_all e4) ?_;exact hK h4 ((k1.n k3).new k4 (by simp;omega))
 | cons y rest =>
   rw[hrow] at rl hK r1;have rl:s.len=rest.length+1:=rl;rw[if_neg (show ¬decide ((s.len:Int)=0)=true from dn (by omega))];have hpk:=peaks_len p;rw[hrow,YAR] at hpk;refine nck_go (ld_go (fs et1) (nck_go (ld_go (fs et1) ?_)));have hw1:w64 ((s.len:Int)-1)=(rest.length:Int):=w6 (by omega);have hw2:w64 ((s.len:Int)-2)=(rest.length:Int)-1:=w6 (by omega);rw[hw1]
   have hget:∀i,(hi:i<rest.length)→(((y::rest).reverse.map whV))[i]? = some (whV (rest[rest.length-1-i]'(by omega))):=fun i hi=>by
    rw[YAO,List.reverse_cons,List.getElem?_append_left (by simp;omega),List.getElem?_reverse hi];rw[YAN (by omega)];rfl
   have hgl:(((y::rest).reverse.map whV))[rest.length]? = some (whV y):=by
    rw[YAO,List.reverse_cons,List.getElem?_append_right (by simp)];simp
   refine seg_ixl r1.seg (x:=whV y) (by omega) (by rw[YAj];exact hgl) rfl fun l4 hl4 =>?_;refine ld_go (wh_f hl4).2 ?_;refine new_gen fun b2 h5 hb2 k5 e5 hs5 =>?_;have et5:=k5.g et1;refine ⟨sm_keep (by decide) (wh_f hl4).2 k5,fs et5,fs et5,?_⟩;refine st_to e5 fun h6 k6 e6 hs6 =>?_;have n2:b2≠t:=by have:=lt_of_some et1;omega
   have k16:Keep [] h1 h6:=k5.new k6 (by simp;omega);have et6:=k16.g et1;refine nck_go (ld_go (fs et6) ?_);rw[hw2];have zb2:h1.size≤b2:=by omega
   refine lp_go (fun (z:Int×Unit) (h7:Heap)=>∃(i:Nat) (acc:HVec),z.1=(rest.length:Int)-1-(i:Int)∧i≤rest.length∧Keep [] h1 h7∧h7[b2]? = some (vobj t_api_Hash (.ar 32 .u8) acc)∧bagP acc (rest.drop i)=bagP y.2 rest) (fun (z:Int×Unit) _=>(z.1+1).toNat) ?_ ?_
   ·exact ⟨0,y.2,by simp,YAr _,k16,e6,rfl⟩
   rintro ⟨(jj:Int),_⟩ h7 ⟨i,acc,ej,hi,k7,e7,hb⟩;dsimp only at ej ⊢;subst ej;have et7:=k7.g et1;by_cases hlt:i<rest.length
   ·rw[if_pos (show decide ((rest.length:Int)-1-(i:Int)≥0)=true from dT (by omega))];refine nck_go (ld_go (fs et7) ?_);have hx:=hget (rest.length-1-i) (by omega);have hii:rest.length-1-(rest.length-1-i)=i:=by omega
    simp only [hii] at hx;refine seg_ixl (r1.keep k7 (by simp)).seg (x:=whV rest[i]) (by omega) (by rw[show ((rest.length:Int)-1-(i:Int)).toNat=rest.length-1-i by omega];exact hx) rfl fun l7 hl7 =>?_;refine ld_go (wh_f hl7).2 (ld_go (sm_all e7) ?_);refine ZCu.s fun h8 k8 =>?_;refine st_to (k8.g e7) fun h9 k9 e9 hs9 =>?_;have hw:w64 ((rest.length:Int)-1-(i:Int)-1)=(rest.length:Int)-1-((i+1:Nat):Int):=w6 (by omega);rw[hw];refine ⟨⟨i+1,joinV rest[i].2 acc,rfl,by omega,(k7.n k8).new k9 (by simp;omega),e9,?_⟩,by omega⟩;rw[←hb,YAF hlt,bagP_cons]
   ·rw[if_neg (show ¬decide ((rest.length:Int)-1-(i:Int)≥0)=true from dn (by omega))];rw[List.drop_of_length_le (by omega)] at hb;have hb:acc=bagP y.2 rest:=hb;refine ld_go (sm_all e7) ?_;refine st_to (k7.g e1) fun h10 k10 e10 hs10=>ld_go (sm_all e10) ?_;rw[hb];exact hK h10 ((k1.n k7).new k10 (by simp;omega))
abbrev KeK:Kd := .ag (.pr MbK (.pr .sl .un))
abbrev ChK:Kd := .ag (.pr KeK (.pr .sl (.pr .sl (.pr .p .un))))
structure Cn where
 m:Mb
 pubs:List By
 begin:List HVec
 all:List Ett
structure CnOk (C:Cn):Prop where
 m:mbMay C.m=true
 p:(C.pubs.length:Int)=C.m.users
 p60:∀s∈C.pubs,s.length=60
 b:(C.begin.length:Int)=prins C.m
 a:∀e∈C.all,putMay e=true∧(e.vec.length:Int)=C.m.users∧(e.tables.length:Int)=prins C.m
 n:C.all.length≤256
structure IsCh (n0:Nat) (h:Heap) (c t:Nat) (mv:MbK.Ty) (ps bs es:Slc) (evs:List EtK.Ty) (C:Cn):Prop where
 e:h[c]? = some (vobj t_chain_Chain ChK (((mv,(ps,())),(bs,(es,(some ⟨t,0⟩,())))):ChK.Ty))
 lc:n0≤c
 m:MbU n0 h mv C.m
 p:Row h t_string .s ps (C.pubs.map bx)
 op:∀q∈own ps,n0≤q
 b:Row h t_api_Hash (.ar 32 .u8) bs C.begin
 ob:∀q∈own bs,n0≤q
 a:Row h t_api_Entry EtK es evs
 oa:∀q∈own es,n0≤q
 x:All2 (fun v e=>EtR h v e∧∀q∈etO v,n0≤q) evs C.all
 t:TreeAt n0 h t (C.all.map putE)
def OffC (n0:Nat) (h:Heap) (ps es:Slc) (b:Nat):Prop:=
 b<n0∨(b∉own ps∧b∉own es∧∀T,T=t_chain_Chain∨T=t_s_int∨T=t_int∨T=t_api_Hash∨T=t_mlog_whole∨T=t_mlog_Tree→∀c f,h[b]? ≠ some (.cells c T f))
theorem row_keepC {n0 T:Nat} {h h':Heap} {k:Kd} {s:Slc} {xs:List k.Ty} {S:List Nat} (r:Row h T k s xs) (kk:Keep S h h') (o:∀q∈own s,n0≤q) (hS:∀b∈S,b<n0∨b∉own s∨∀c f,h[b]? ≠ some (.cells c T f)):Row h' T k s xs:=r.keep kk fun b hb hm=>by
 rcases hS b hm with h1 | h1 | h1
 ·have:=o b hb;omega
 ·exact h1 hb
 ·rcases r with ⟨e,_⟩ | ⟨b',zs,e,_,_,e4⟩
  ·rw[e] at hb;simp[own] at hb
  ·have:b=b':=by unfold own at hb;rw[e] at hb;simpa using hb
   subst this;exact h1 _ _ e4
theorem IsCh.keep {n0 c t:Nat} {h h':Heap} {mv:MbK.Ty} {ps bs es:Slc} {evs:List EtK.Ty} {C:Cn} {S:List Nat} (i:IsCh n0 h c t mv ps bs es evs C) (k:Keep S h h') (hS:∀b∈S,OffC n0 h ps es b):IsCh n0 h' c t mv ps bs es evs C:=by
 have tg:∀ {T:Nat},T=t_chain_Chain∨T=t_s_int∨T=t_int∨T=t_api_Hash∨T=t_mlog_whole∨T=t_mlog_Tree→∀b∈S,b<n0∨∀c f,h[b]? ≠ some (.cells c T f):=fun hT b hb=>by
  rcases hS b hb with h1 | h1
  ·exact .inl h1
  ·exact .inr (h1.2.2 _ hT)
 have tr:∀ {T:Nat} (s:Slc),T=t_chain_Chain∨T=t_s_int∨T=t_int∨T=t_api_Hash∨T=t_mlog_whole∨T=t_mlog_Tree→∀b∈S,b<n0∨b∉own s∨∀c f,h[b]? ≠ some (.cells c T f):=fun s hT b hb=>by
  rcases tg hT b hb with h1 | h1
  ·exact .inl h1
  ·exact .inr (.inr h1)
 refine ⟨k.get i.e fun hm =>?_,i.lc,i.m.keep k fun b hb =>?_,row_keepC i.p k i.op fun b hb =>?_,i.op,row_keepC i.b k i.ob (tr _ (by simp)),i.ob,row_keepC i.a k i.oa fun b hb =>?_,i.oa,?_,i.t.keep k fun b hb =>?_⟩
 ·rcases tg (T:=t_chain_Chain) (by simp) c hm with h1 | h1
  ·have:=i.lc;omega
  ·exact h1 _ _ i.e
 ·rcases tg (T:=t_s_int) (by simp) b hb with h1 | h1
  ·exact .inl h1
  ·rcases tg (T:=t_int) (by simp) b hb with h2 | h2
   ·exact .inl h2
   ·exact .inr fun c f=>⟨h1 c f,h2 c f⟩
 ·rcases hS b hb with h1 | h1
  ·exact .inl h1
  ·exact .inr (.inl h1.1)
 ·rcases hS b hb with h1 | h1
  ·exact .inl h1
  ·exact .inr (.inl h1.2.1)
 ·refine All2.mono (fun v e x=>⟨⟨x.1.u,x.1.q,row_keepC x.1.w k (fun q hq=>x.2 q (by unfold etO;simp[hq])) (tr _ (by simp)),x.1.r,row_keepC x.1.t k (fun q hq=>x.2 q (by unfold etO;simp[hq])) (tr _ (by simp)),x.1.s⟩,x.2⟩) i.x
 ·rcases tg (T:=t_mlog_whole) (by simp) b hb with h1 | h1
  ·exact .inl h1
  ·rcases tg (T:=t_mlog_Tree) (by simp) b hb with h2 | h2
   ·exact .inl h2
   ·exact .inr fun c f=>⟨h1 c f,h2 c f⟩
theorem IsCh.keep0 {n0 c t:Nat} {h h':Heap} {mv:MbK.Ty} {ps bs es:Slc} {evs:List EtK.Ty} {C:Cn} (i:IsCh n0 h c t mv ps bs es evs C) (k:Keep [] h h'):IsCh n0 h' c t mv ps bs es evs C:=i.keep k (by simp)
section
variable {n0 c t:Nat} {h:Heap} {mv:MbK.Ty} {ps bs es:Slc} {evs:List EtK.Ty} {C:Cn}
theorem IsCh.fa (i:IsCh n0 h c t mv ps bs es evs C):sm .sl ((Pl.mk c 0).fld 4) es h:=sm_fld (n:=4) (k' := .sl) i.e rfl (by decide)
theorem IsCh.ft (i:IsCh n0 h c t mv ps bs es evs C):sm .p ((Pl.mk c 0).fld 5) (some ⟨t,0⟩) h:=sm_fld (n:=5) (k' := .p) i.e rfl (by decide)
theorem IsCh.al (i:IsCh n0 h c t mv ps bs es evs C):es.len=C.all.length:=by rw[i.a.len,i.x.len]
end
def lastVec (C:Cn):List Int:=match C.all.getLast? with
 | none=>List.replicate C.m.users.toNat 0
 | some e=>e.vec
def lastTab (C:Cn):List HVec:=match C.all.getLast? with
 | none=>C.begin
 | some e=>e.tables
def nextVec (C:Cn) (u:Int):List Int:=(lastVec C).set u.toNat ((lastVec C).getD u.toNat 0+1)
def tabsOk (C:Cn) (e:Ett):Bool:=(List.range (lastTab C).length).all fun (p:Nat)=>mIn C.m e.user (p:Int)||decide (e.tables.getD p (Vector.replicate 32 0)=(lastTab C).getD p (Vector.replicate 32 0))
theorem put_vec {e:Ett} (h:putMay e=true):e.vec.all vecOk=true∧1≤e.vec.length∧e.vec.length≤16∧e.tables.length≤24:=by
 unfold putMay ettMay vecMay at h;simp only [YAs,decide_eq_true_eq] at h;obtain ⟨⟨_,_,_,_,⟨h1,h2,h3⟩,h4,h5⟩,_⟩:=h;exact ⟨h1,h2,h3,h5⟩
section
variable {n0 c t:Nat} {h:Heap} {mv:MbK.Ty} {ps bs es:Slc} {evs:List EtK.Ty} {C:Cn}
end
def frmC (C:Cn) (e:Ett):Bool:=putMay e&&(decide ((e.vec.length:Int)=C.m.users)&&(decide ((e.tables.length:Int)=prins C.m)&&decide (C.all.length<256)))
def chkC (C:Cn) (e:Ett):Int:=
 if frmC C e=true then
  if e.seq=(C.all.length:Int)+1 then
   if e.user<C.m.users then
    if e.vec=nextVec C e.user then
     if e.root=rootV (C.all.map putE) then
      if tabsOk C e=true then
       if verE e (C.pubs.getD e.user.toNat [])=0 then 0 else 2006
      else 2005
     else 2004
    else 2003
   else 2002
  else 2001
 else 2000
section
variable {n0 c t:Nat} {h:Heap} {mv:MbK.Ty} {ps bs es:Slc} {evs:List EtK.Ty} {C:Cn}
end
theorem chk_ok {C:Cn} {e:Ett} (o:CnOk C) (h:chkC C e=0):CnOk { C with all:=C.all++[e] }∧putMay e=true∧C.all.length<256:=by
 unfold chkC at h;by_cases c0:frmC C e=true
 ·unfold frmC at c0;simp only [YAs,decide_eq_true_eq] at c0;obtain ⟨hp,hv,ht,hn⟩:=c0;refine ⟨⟨o.m,o.p,o.p60,o.b,fun x hx =>?_,by simp;omega⟩,hp,hn⟩;rcases List.mem_append.1 hx with hx | hx
  ·exact o.a x hx
  ·simp only [YAZ] at hx;subst hx;exact ⟨hp,hv,ht⟩
 ·rw[if_neg c0] at h;simp at h
section
variable {n0 c t:Nat} {h:Heap} {mv:MbK.Ty} {ps bs es:Slc} {evs:List EtK.Ty} {C:Cn}
theorem cell_ne {b T:Nat} {o:Obj} {T':Nat} {c':Array Value} {f':Nat×Nat} (e:h[b]? = some (.cells c' T' f')) (hT:T≠T'):∀c f,h[b]? ≠ some (.cells c T f):=fun c f e'=>by
 have:=Option.some.inj (e.symm.trans e')
 injection this with _ h2 _
 exact hT h2.symm
end
def ansM (m:Msg):By:=if putM m=true then bytesM m else []
def fillM {α : Type} (mk:List α → Msg):List α → List α → List α
 | acc,[]=>acc
 | acc,x::r=>if putM (mk (acc++[x]))=true then fillM mk (acc++[x]) r else acc
def heldO (os:List ByteArray) (d:ByteArray):Bool:=(known os (hashS d)).isSome
def putO (os:List ByteArray) (d:ByteArray):List ByteArray:=if 4096<d.size then os else if heldO os d=true then os else if 1024≤os.length then os else os++[d]
def freshO (os:List ByteArray) (acc:List HsV) (d:ByteArray):List HsV:=if heldO os d=true then acc else once acc (hashS d)
def fitO (os l:List ByteArray):Bool:=l.all (fun d=>decide (d.size≤4096))&&decide ((l.foldl (freshO os) []).length+os.length≤1024)
structure Srv where
 C:Cn
 os:List ByteArray
 holder:Int
 left:Int
def sizedM (v:Srv) (k u:Int):Msg:=⟨k,u,(v.C.all.length:Int),[],[],[]⟩
def entsM (v:Srv) (u:Int) (es:List Ett):Msg:=⟨1,u,(v.C.all.length:Int),es,[],[]⟩
def objsM (u:Int) (os:List By):Msg:=⟨3,u,0,[],[],os⟩
def fetchS (v:Srv) (m:Msg):By×Srv:=if 0≤v.holder∧v.holder≠m.user then (ansM (sizedM v 6 m.user),v) else (ansM (entsM v m.user (fillM (entsM v m.user) [] (v.C.all.drop m.frm.toNat))),{ v with holder:=m.user,left:=10 })
def foundO (os:List ByteArray) (z:HVec):By:=match known os z with | some d=>d.data.toList | none=>[]
def wantS (v:Srv) (m:Msg):By:=if 64<m.wants.length then [] else ansM (objsM m.user (fillM (objsM m.user) [] (m.wants.map (foundO v.os))))
def addOk (v:Srv) (m:Msg):Bool:=match m.ents with
 | [e]=>decide (e.user=m.user)&&(fitO v.os (m.objs.map bx)&&decide (chkC v.C e=0))
 | _=>false
def addV (v:Srv) (m:Msg):Srv:={ v with C:={ v.C with all:=v.C.all++m.ents },os:=(m.objs.map bx).foldl putO v.os,holder := -1 }
def addS (v:Srv) (m:Msg):By×Srv:=if v.holder≠m.user then (ansM (sizedM v 6 m.user),v) else if addOk v m=true then (ansM (sizedM (addV v m) 5 m.user),addV v m) else (ansM (sizedM v 6 m.user),{ v with holder := -1 })
def takeS (v:Srv) (s:By):By×Srv:=match getM s with
 | none=>([],v)
 | some m=>if v.C.m.users≤m.user then ([],v) else if m.kind=0 then fetchS v m else if m.kind=2 then (wantS v m,v) else if m.kind=4 then addS v m else ([],v)
def tickS (v:Srv) (n:Int):Int×Srv:=if n<0∨1000<n then (2300,v) else if v.left-n≤0 then (0,{ v with holder := -1,left:=0 }) else (0,{ v with left:=v.left-n })
structure SrvOk (v:Srv):Prop where
 c:CnOk v.C
 o:v.os.length≤1024
 z:∀d∈v.os,d.size≤65536
 h : -1≤v.holder
 l : -1000≤v.left∧v.left≤10
 t:0≤v.holder→1≤v.left
theorem no1 {P:Prop}:(0:Int) ≤ -1→P:=fun h=>absurd h (by decide)
theorem putO_ok {os:List ByteArray} {d:ByteArray} (h1:os.length≤1024) (h2:∀d∈os,d.size≤65536):(putO os d).length≤1024∧∀x∈putO os d,x.size≤65536:=by
 unfold putO;split
 ·exact ⟨h1,h2⟩
 split
 ·exact ⟨h1,h2⟩
 split
 ·exact ⟨h1,h2⟩
 ·refine ⟨by simp;omega,fun x hx =>?_⟩;rcases List.mem_append.1 hx with h | h
  ·exact h2 x h
  ·simp at h;subst h;omega
theorem putsO_ok:∀ {l os:List ByteArray},os.length≤1024→(∀d∈os,d.size≤65536)→(l.foldl putO os).length≤1024∧∀x∈l.foldl putO os,x.size≤65536
 | [],os,h1,h2=>⟨h1,h2⟩
 | d :: r, os, h1, h2 => by
   have:=putO_ok (d:=d) h1 h2;exact putsO_ok (l:=r) (os:=putO os d) this.1 this.2
theorem addOk_chk {v:Srv} {m:Msg} (h:addOk v m=true):∃e,m.ents=[e]∧e.user=m.user∧fitO v.os (m.objs.map bx)=true∧chkC v.C e=0:=by
 unfold addOk at h;split at h
 ·rename_i e he
  simp only [YAs,decide_eq_true_eq] at h;exact ⟨e,he,h.1,h.2.1,h.2.2⟩
 ·cases h
theorem takeS_ok {v:Srv} {s:By} (o:SrvOk v):SrvOk (takeS v s).2∧(takeS v s).2.C.m=v.C.m∧(takeS v s).2.C.pubs=v.C.pubs∧(takeS v s).2.C.all.length≤v.C.all.length+1:=by
 unfold takeS
 cases hg:getM s with
 | none=>exact ⟨o,rfl,rfl,YAm _⟩
 | some m =>
   dsimp only;have hu:=(getM_some hg).1;unfold putM msgMay at hu;simp only [YAs,decide_eq_true_eq] at hu;have u0:=hu.1.2.2.1;split
   ·exact ⟨o,rfl,rfl,YAm _⟩
   split
   ·unfold fetchS;split
    ·exact ⟨o,rfl,rfl,YAm _⟩
    ·exact ⟨⟨o.c,o.o,o.z,by show -1≤m.user;omega,by show -1000≤(10:Int)∧(10:Int)≤10;decide,fun _=>by show (1:Int)≤10;decide⟩,rfl,rfl,YAm _⟩
   split
   ·exact ⟨o,rfl,rfl,YAm _⟩
   split
   ·unfold addS;split
    ·exact ⟨o,rfl,rfl,YAm _⟩
    split
    ·rename_i ha
     obtain ⟨e,he,_,_,hc⟩:=addOk_chk ha;have:=chk_ok o.c hc;have hp:=putsO_ok (l:=m.objs.map bx) o.o o.z;refine ⟨⟨?_,hp.1,hp.2,by show (-1:Int) ≤ -1;decide,o.l,no1⟩,rfl,rfl,?_⟩
     ·show CnOk { v.C with all:=v.C.all++m.ents };rw[he];exact this.1
     ·show (v.C.all++m.ents).length≤_;rw[he];simp
    ·exact ⟨⟨o.c,o.o,o.z,by show (-1:Int) ≤ -1;decide,o.l,no1⟩,rfl,rfl,YAm _⟩
   ·exact ⟨o,rfl,rfl,YAm _⟩
theorem tickS_ok {v:Srv} {n:Int} (o:SrvOk v):SrvOk (tickS v n).2∧(tickS v n).2.C=v.C:=by
 have ol:=o.l;unfold tickS;split
 ·exact ⟨o,rfl⟩
 split
 ·exact ⟨⟨o.c,o.o,o.z,by show (-1:Int) ≤ -1;decide,by show -1000≤(0:Int)∧(0:Int)≤10;decide,no1⟩,rfl⟩
 ·exact ⟨⟨o.c,o.o,o.z,o.h,by show -1000≤v.left-n∧v.left-n≤10;omega,fun _=>by show 1≤v.left-n;omega⟩,rfl⟩
theorem ZAA.g {h:Heap} {w n:Nat} {x:Int} {s:Slc} {bs:By} {K:Int→Heap→Prop} (i:IsW h w s bs) (hn:n=1∨n=2∨n=4) (hb:bs.length≤65536)
 (hbad:∀e h',e≠0→Keep [] h h'→¬(0≤x∧x<((256^n:Nat):Int)∧bs.length+n≤65536)→K e h')
 (hK:0≤x→x<((256^n:Nat):Int)→bs.length+n≤65536→∀h' s',Keep (w::own s) h h'→IsW h' w s' (bs++be x.toNat n)→(∀b∈own s',b∈own s∨h.size≤b)→K 0 h'):ZAA.C (some ⟨w,0⟩) x n h K:=by
 by_cases hx:0≤x∧x<((256^n:Nat):Int)
 ·obtain ⟨m,rfl⟩:∃m:Nat,x=m:=⟨x.toNat,by omega⟩;have hx2:m<256^n:=by have:=hx.2;omega
  by_cases hl:bs.length+n≤65536
  ·refine ZAA.s i hn hx2 hl fun h' s' k' i' o'=>hK hx.1 hx.2 hl h' s' k' ?_ o';rw[YAj];exact i'
  ·apply ZAA.c;unfold ZAA.m;simp only [reduceCtorEq,decide_false,YAt,if_false];refine ZAq.s hn hx2 fun h1 k1 =>?_;simp only [Bool.not_true,YAt,if_false];show ZAM.C _ _ (h1.push (robj t_string .s [⟨(be m n).toArray⟩])) _;have hl1:lens [(⟨(be m n).toArray⟩:ByteArray)]=n:=by simp[lens,ByteArray.size,be_len]
   have i1:=i.keep k1 (by simp) (by simp);have i2:=i1.keep (keep_push (o:=robj t_string .s [⟨(be m n).toArray⟩])) (by simp) (by simp);have lw:=lt_of_some i1.o;have ls:=i1.r.lt;refine ZAM.s (T:=t_string) i2 (parts:=[⟨(be m n).toArray⟩]) (Row.of_new (zs:=[]) (b:=h1.size) (by rw[YAD];exact get_push) rfl rfl rfl) ?_ ?_ hb ?_ (by simp only [YAR,YAU];omega) (fun hgt=>hbad 302 _ (by decide) (k1.n keep_push) (fun hh=>hl hh.2.2)) fun hle h' s' k' i' o'=>absurd (by rw[hl1] at hle;exact hle) hl
   ·intro b hb;simp[own] at hb;omega
   ·intro b hb hm;simp[own] at hb;have:=ls b hm;omega
   ·intro p hp;simp only [List.mem_cons,YAb,or_false] at hp;subst hp;rw[be_size];omega
 ·apply ZAA.c;unfold ZAA.m;simp only [reduceCtorEq,decide_false,YAt,if_false];refine ZAq.bad hn hx ?_;rw[if_pos (by rfl)];exact hbad _ h (by decide) Keep.rfl fun hh=>hx ⟨hh.1,hh.2.1⟩
theorem ZAF.g {h:Heap} {w n:Nat} {s:Slc} {bs:By} {x:By} {K:Int→Heap→Prop} (i:IsW h w s bs) (hn:n=1∨n=2∨n=4) (hb:bs.length≤65536)
 (hbad:∀e h',e≠0→Keep [] h h'→¬(x.length<256^n∧bs.length+n+x.length≤65536)→K e h')
 (hK:x.length<256^n→bs.length+n+x.length≤65536→∀h' s',Keep (w::own s) h h'→IsW h' w s' (bs++(be x.length n++x))→(∀b∈own s',b∈own s∨h.size≤b)→K 0 h'):ZAF.C (some ⟨w,0⟩) (bx x) n h K:=by
 have hsz:(bx x).size=x.length:=bx_size;by_cases hx:x.length<256^n
 ·by_cases hl:bs.length+n+x.length≤65536
  ·refine ZAF.s i hn (by rw[hsz];exact hx) (by rw[hsz];exact hl) fun h' s' k' i' o'=>hK hx hl h' s' k' ?_ o';rw[hsz,bx_dl] at i';exact i'
  ·apply ZAF.c;unfold ZAF.m;simp only [reduceCtorEq,decide_false,YAt,if_false];rw[hsz];refine ZAq.s hn hx fun h1 k1 =>?_;simp only [Bool.not_true,YAt,if_false];show ZAM.C _ _ (h1.push (robj t_string .s [⟨(be x.length n).toArray⟩,bx x])) _
   have hl1:lens [(⟨(be x.length n).toArray⟩:ByteArray),bx x]=n+x.length:=by
    have:(⟨(be x.length n).toArray⟩:ByteArray).size=n:=be_size;simp only [lens,YAW,List.map_nil,List.sum_cons,List.sum_nil,this,hsz];omega
   have i1:=i.keep k1 (by simp) (by simp);have i2:=i1.keep (keep_push (o:=robj t_string .s [⟨(be x.length n).toArray⟩,bx x])) (by simp) (by simp);have lw:=lt_of_some i1.o;have ls:=i1.r.lt;have hx4:x.length<4294967296:=by rcases hn with rfl | rfl | rfl <;> omega
   refine ZAM.s (T:=t_string) i2 (parts:=[⟨(be x.length n).toArray⟩,bx x]) (Row.of_new (zs:=[]) (b:=h1.size) (by rw[YAD];exact get_push) rfl rfl rfl) ?_ ?_ hb ?_ (by simp only [YAR,YAU];omega) (fun hgt=>hbad 302 _ (by decide) (k1.n keep_push) (fun hh=>hl hh.2)) fun hle h' s' k' i' o'=>absurd (by rw[hl1] at hle;omega) hl
   ·intro b hb;simp[own] at hb;omega
   ·intro b hb hm;simp[own] at hb;have:=ls b hm;omega
   ·intro p hp;rcases List.mem_cons.1 hp with e | e
    ·subst e;rw[be_size];omega
    ·simp only [List.mem_cons,YAb,or_false] at e;subst e;rw[hsz];omega
 ·apply ZAF.c;unfold ZAF.m;simp only [reduceCtorEq,decide_false,YAt,if_false];rw[hsz];refine ZAq.bad hn (fun hh=>hx (by have:=hh.2;omega)) ?_;rw[if_pos (by rfl)];exact hbad _ h (by decide) Keep.rfl fun hh=>hx hh.1
theorem ZAC.g {h:Heap} {w:Nat} {s:Slc} {bs:By} {z:HsV} {K:Int→Heap→Prop} (i:IsW h w s bs) (hb:bs.length≤65536)
 (hbad:∀e h',e≠0→Keep [] h h'→¬bs.length+32≤65536→K e h')
 (hK:bs.length+32≤65536→∀h' s',Keep (w::own s) h h'→IsW h' w s' (bs++z.toList)→(∀b∈own s',b∈own s∨h.size≤b)→K 0 h'):ZAC.C (some ⟨w,0⟩) z h K:=by
 by_cases hl:bs.length+32≤65536
 ·exact ZAC.s i hl (hK hl)
 apply ZAC.c;unfold ZAC.m;refine new_gen fun b1 h1 hb1 k1 e1 hs1 =>?_;have e1:h1[b1]? = some (vobj t_api_Hash HK z):=e1;rw[if_neg (by simp)];refine ⟨by decide,by decide,by decide,?_⟩;have g1:Seg .u8 ⟨some ⟨b1,0⟩,32,32⟩ z.toList h1:=ar_seg e1;refine b2s_segq g1 fun q _ =>?_;refine bs_gen fun b2 h2 hb2 k2 r2 hs2 =>?_;have i2:=(i.keep k1 (by simp) (by simp)).keep k2 (by simp) (by simp);have lw:=lt_of_some i.o;have ls:=i.r.lt;have s1:=k1.1;have l1:lens [(⟨z.toList.toArray⟩:ByteArray)]=32:=by simp[lens,ByteArray.size]
 refine ZAM.s (T:=t_string) i2 (parts:=[⟨z.toList.toArray⟩]) r2 ?_ ?_ hb ?_ (by simp) (fun hgt=>hbad 302 _ (by decide) (k1.n k2) hl) fun hle h' s' k' i' o'=>absurd (by rw[l1] at hle;exact hle) hl
 ·intro b hb;simp[own] at hb;omega
 ·intro b hb hm;simp[own] at hb;have:=ls b hm;omega
 ·intro p hp;simp only [List.mem_cons,YAb,or_false] at hp;subst hp;show z.toList.toArray.size≤_;simp
theorem NW.numG {h0 h:Heap} {w n:Nat} {x:Int} {s:Slc} {bs:By} {K:Int→Heap→Prop} (q:NW h0 h w s bs) (hn:n=1∨n=2∨n=4) (hb:bs.length≤65536)
 (hbad:∀e h',e≠0→Keep [] h h'→¬(0≤x∧x<((256^n:Nat):Int)∧bs.length+n≤65536)→K e h')
 (hK:0≤x→x<((256^n:Nat):Int)→bs.length+n≤65536→∀h' s',NW h0 h' w s' (bs++be x.toNat n)→Keep (w::own s) h h'→(∀b,b<h.size→b∉w::own s→b∉w::own s')→K 0 h'):ZAA.C (some ⟨w,0⟩) x n h K:=
 ZAA.g q.i hn hb hbad fun a b c h' s' k' i' o'=>hK a b c h' s' (q.step k' i' o') k' (out_step o')
theorem NW.textG {h0 h:Heap} {w n:Nat} {x:By} {s:Slc} {bs:By} {K:Int→Heap→Prop} (q:NW h0 h w s bs) (hn:n=1∨n=2∨n=4) (hb:bs.length≤65536)
 (hbad:∀e h',e≠0→Keep [] h h'→¬(x.length<256^n∧bs.length+n+x.length≤65536)→K e h')
 (hK:x.length<256^n→bs.length+n+x.length≤65536→∀h' s',NW h0 h' w s' (bs++(be x.length n++x))→Keep (w::own s) h h'→(∀b,b<h.size→b∉w::own s→b∉w::own s')→K 0 h'):ZAF.C (some ⟨w,0⟩) (bx x) n h K:=
 ZAF.g q.i hn hb hbad fun a b h' s' k' i' o'=>hK a b h' s' (q.step k' i' o') k' (out_step o')
theorem NW.hashG {h0 h:Heap} {w:Nat} {z:HsV} {s:Slc} {bs:By} {K:Int→Heap→Prop} (q:NW h0 h w s bs) (hb:bs.length≤65536)
 (hbad:∀e h',e≠0→Keep [] h h'→¬bs.length+32≤65536→K e h')
 (hK:bs.length+32≤65536→∀h' s',NW h0 h' w s' (bs++z.toList)→Keep (w::own s) h h'→(∀b,b<h.size→b∉w::own s→b∉w::own s')→K 0 h'):ZAC.C (some ⟨w,0⟩) z h K:=
 ZAC.g q.i hb hbad fun a h' s' k' i' o'=>hK a h' s' (q.step k' i' o') k' (out_step o')
abbrev MsK:Kd := .ag (.pr .i (.pr .i (.pr .i (.pr .sl (.pr .sl (.pr .sl .un))))))
structure MsAt (h:Heap) (v:MsK.Ty) (evs:List EtK.Ty) (m:Msg):Prop where
 k:v.1=m.kind
 u:v.2.1=m.user
 f:v.2.2.1=m.frm
 e:Seg EtK v.2.2.2.1 evs h
 x:All2 (EtAt h) evs m.ents
 w:Seg (.ar 32 .u8) v.2.2.2.2.1 m.wants h
 o:Seg .s v.2.2.2.2.2.1 (m.objs.map bx) h
structure MsB (m:Msg):Prop where
 v:∀e∈m.ents,e.vec.length≤9223372036854775806
 e:m.ents.length≤9223372036854775806
 w:m.wants.length≤9223372036854775806
 o:m.objs.length≤9223372036854775806
theorem MsAt.keep {h h':Heap} {v:MsK.Ty} {evs:List EtK.Ty} {m:Msg} (a:MsAt h v evs m) (k:Keep [] h h'):MsAt h' v evs m:=
 ⟨a.k,a.u,a.f,a.e.keep (by decide) k,a.x.mono fun _ _ r=>r.keep k,a.w.keep (by decide) k,a.o.keep (by decide) k⟩
theorem ms_f {h:Heap} {b:Nat} {v:MsK.Ty} (e:h[b]? = some (vobj t_api_Msg MsK v)):sm .i ((Pl.mk b 0).fld 0) v.1 h∧sm .i ((Pl.mk b 0).fld 1) v.2.1 h∧sm .i ((Pl.mk b 0).fld 2) v.2.2.1 h∧sm .sl ((Pl.mk b 0).fld 3) v.2.2.2.1 h∧sm .sl ((Pl.mk b 0).fld 4) v.2.2.2.2.1 h∧sm .sl ((Pl.mk b 0).fld 5) v.2.2.2.2.2.1 h:=
 ⟨sm_fld e rfl (by decide),sm_fld e rfl (by decide),sm_fld e rfl (by decide),sm_fld e rfl (by decide),sm_fld e rfl (by decide),sm_fld e rfl (by decide)⟩
section
variable {T w b:Nat} {h0 h:Heap} {s:Slc} {bs:By}
theorem BW.numG {n:Nat} {x:Int} {K:Int→Heap→Prop} (i:BW T h0 h w b s bs) (hn:n=1∨n=2∨n=4) (hb:bs.length≤65536)
 (hbad:∀e h',e≠0→Keep [] h0 h'→¬(0≤x∧x<((256^n:Nat):Int)∧bs.length+n≤65536)→K e h')
 (hK:0≤x→x<((256^n:Nat):Int)→bs.length+n≤65536→∀h' s',BW T h0 h' w b s' (bs++be x.toNat n)→K 0 h'):ZAA.C (some ⟨w,0⟩) x n h K:=
 i.q.numG hn hb (fun e h' he k hh=>hbad e h' he (i.q.k.n k) hh) fun a1 a2 a3 h' s' q' k' o'=>hK a1 a2 a3 h' s' ⟨q',k'.get i.e i.n,o' b (lt_of_some i.e) i.n⟩
theorem BW.textG {n:Nat} {x:By} {K:Int→Heap→Prop} (i:BW T h0 h w b s bs) (hn:n=1∨n=2∨n=4) (hb:bs.length≤65536)
 (hbad:∀e h',e≠0→Keep [] h0 h'→¬(x.length<256^n∧bs.length+n+x.length≤65536)→K e h')
 (hK:x.length<256^n→bs.length+n+x.length≤65536→∀h' s',BW T h0 h' w b s' (bs++(be x.length n++x))→K 0 h'):ZAF.C (some ⟨w,0⟩) (bx x) n h K:=
 i.q.textG hn hb (fun e h' he k hh=>hbad e h' he (i.q.k.n k) hh) fun a1 a2 h' s' q' k' o'=>hK a1 a2 h' s' ⟨q',k'.get i.e i.n,o' b (lt_of_some i.e) i.n⟩
theorem BW.hashG {z:HVec} {K:Int→Heap→Prop} (i:BW T h0 h w b s bs) (hb:bs.length≤65536)
 (hbad:∀e h',e≠0→Keep [] h0 h'→¬bs.length+32≤65536→K e h')
 (hK:bs.length+32≤65536→∀h' s',BW T h0 h' w b s' (bs++z.toList)→K 0 h'):ZAC.C (some ⟨w,0⟩) z h K:=
 i.q.hashG hb (fun e h' he k hh=>hbad e h' he (i.q.k.n k) hh) fun a1 h' s' q' k' o'=>hK a1 h' s' ⟨q',k'.get i.e i.n,o' b (lt_of_some i.e) i.n⟩
theorem flat_mono {α : Type} {f : α → By} (l:List α) (t:Nat):((l.take t).flatMap f).length≤(l.flatMap f).length:=by
 have:l.flatMap f=(l.take t).flatMap f++(l.drop t).flatMap f:=by rw[←YAK,YAc]
 rw[this,YAQ];omega
theorem flat_take {α : Type} {f : α → By} {l:List α} {t:Nat} (h:t<l.length):(l.take (t+1)).flatMap f=(l.take t).flatMap f++f l[t]:=by
 rw[YAg h,YAK];simp
theorem flat_over {α : Type} {f : α → By} {l:List α} {t:Nat} {bs:By} (h:t<l.length) (ho:65536<bs.length+((l.take t).flatMap f).length+(f l[t]).length):¬(bs++l.flatMap f).length≤65536:=by
 have h1:=flat_mono (f:=f) l (t+1);rw[flat_take h,YAQ] at h1;rw[YAQ];omega
theorem msgs_eachE {sl:Slc} {evs:List EtK.Ty} {E:List Ett} {K:Int→Heap→Prop} (i:BW T h0 h w b s bs) (g:Seg EtK sl evs h0) (x:All2 (EtAt h0) evs E) (hv:∀e∈E,e.vec.length≤9223372036854775806) (hn:E.length≤255) (hb:bs.length≤65536)
 (hbad:∀e h',e≠0→Keep [] h0 h'→¬((∀e∈E,putMay e=true)∧(bs++E.flatMap mEnt).length≤65536)→K e h')
 (hok:(∀e∈E,putMay e=true)→(bs++E.flatMap mEnt).length≤65536→∀h' s',BW T h0 h' w b s' (bs++E.flatMap mEnt)→K 0 h'):ZBK.C sl (.func (.func ZCQ.n) #[] #[Kd.p.val (some (Pl.mk b 0))]) h K:=by
 apply ZBK.c;unfold ZBK.m;have gl:=g.len;have xl:=x.len;refine lp_go (fun (y:Int×Unit) (h1:Heap)=>∃(t:Nat) (s1:Slc),y.1=t∧t≤E.length∧BW T h0 h1 w b s1 (bs++(E.take t).flatMap mEnt)∧(∀e∈E.take t,putMay e=true)∧(bs++(E.take t).flatMap mEnt).length≤65536) (fun (y:Int×Unit) _=>E.length-y.1.toNat) ?_ ?_
 ·exact ⟨0,s,rfl,YAr _,by simpa using i,by simp,by simpa using hb⟩
 rintro ⟨(jj:Int),_⟩ h1 ⟨t,s1,e,ht,i1,hp,hl⟩;dsimp only at e ⊢;subst e;by_cases hlt:t<E.length
 ·rw[if_pos (show decide ((t:Int)<(sl.len:Int))=true from dT (by omega))];have het:t<evs.length:=by omega
  have at0:EtAt h0 evs[t] E[t]:=x.getI het hlt;refine seg_ix (g.keep (by decide) i1.q.k) (x:=evs[t]) (by omega) (by simp[het]) rfl ?_;refine new_st_gen fun b2 h2 hb2 k2 e2 hs2 =>?_;refine ld_go (sm_all e2) ?_;refine callV_go (aa:=[EtK.val evs[t],Kd.p.val (some (Pl.mk b 0))]) (by rfl) ?_;show ZCQ.C evs[t] ⟨b,0⟩ h2 _;apply ZCQ.c;unfold ZCQ.m;refine new_gen fun b3 h3 hb3 k3 e3 hs3 =>?_;refine ld_go (sm_all e3) ?_;have k03:Keep [] h0 h3:=(i1.q.k.n k2).n k3;have i3:=(i1.keep k2 (by simp)).keep k3 (by simp);refine ZCc.s (at0.keep k03) (hv _ (YAP hlt)) fun h4 k4 =>?_;have i4:=i3.keep k4 (by simp)
  cases hm:putMay E[t] with
  | false =>
    have hno:¬((∀e∈E,putMay e=true)∧(bs++E.flatMap mEnt).length≤65536):=fun hh=>by
     have:=hh.1 _ (YAP hlt);rw[hm] at this;cases this
    rw[if_neg (show ¬false=true by simp),if_neg (show ¬false=true by simp),if_pos (by decide)];dsimp only;rw[if_pos (by decide)];exact hbad 1900 h4 (by decide) (k03.n k4) hno
  | true =>
    rw[if_pos rfl,if_pos rfl,if_neg (by decide)];refine ld_go (sm_all i4.e) ?_;have hz:=putE_len hm;have hml:(mEnt E[t]).length=2+(putE E[t]).length:=by unfold mEnt;rw[YAQ,be_len]
    have hll:(bs++(E.take t).flatMap mEnt).length=bs.length+((E.take t).flatMap mEnt).length:=YAQ;refine i4.textG (n:=2) (by decide) hl (fun e' h' he k' hh =>?_) fun _ h5 h' s' i5 =>?_
    ·dsimp only;rw[if_pos (by simpa using he)];refine hbad e' h' he k' fun hx=>flat_over hlt ?_ hx.2;have:¬(bs++(E.take t).flatMap mEnt).length+2+(putE E[t]).length≤65536:=fun h'=>hh ⟨hz,h'⟩;omega
    ·dsimp only;rw[if_neg (by decide)];have hw:w64 ((t:Int)+1)=((t+1:Nat):Int):=w6 (by omega);rw[hw]
     have hfe:bs++(E.take (t+1)).flatMap mEnt=bs++(E.take t).flatMap mEnt++(be (putE E[t]).length 2++putE E[t]):=by
      rw[flat_take hlt,←YAB];rfl
     refine ⟨⟨t+1,s',rfl,by omega,by rw[hfe];exact i5,fun e hem =>?_,by rw[hfe];simp only [YAQ,be_len] at h5 ⊢;omega⟩,by simp;omega⟩;rw[YAg hlt] at hem;rcases List.mem_append.1 hem with h' | h'
     ·exact hp e h'
     ·simp at h';subst h';exact hm
 ·rw[if_neg (show ¬decide ((t:Int)<(sl.len:Int))=true from dn (by omega))];have:t=E.length:=by omega
  rw[this,YAf (YAl _)] at i1 hp hl;exact hok hp hl h1 s1 i1
theorem msgs_eachH {sl:Slc} {Z:List HVec} {K:Int→Heap→Prop} (i:BW T h0 h w b s bs) (g:Seg (.ar 32 .u8) sl Z h0) (hn:Z.length≤255) (hb:bs.length≤65536)
 (hbad:∀e h',e≠0→Keep [] h0 h'→¬(bs++Z.flatMap fun z=>z.toList).length≤65536→K e h')
 (hok:(bs++Z.flatMap fun z=>z.toList).length≤65536→∀h' s',BW T h0 h' w b s' (bs++Z.flatMap fun z=>z.toList)→K 0 h'):ZAe.C sl (.func (.func ZAC.n) #[Kd.p.val (some (Pl.mk w 0))] #[]) h K:=by
 apply ZAe.c;unfold ZAe.m;have gl:=g.len;refine lp_go (fun (y:Int×Unit) (h1:Heap)=>∃(t:Nat) (s1:Slc),y.1=t∧t≤Z.length∧BW T h0 h1 w b s1 (bs++(Z.take t).flatMap fun z=>z.toList)∧(bs++(Z.take t).flatMap fun z=>z.toList).length≤65536) (fun (y:Int×Unit) _=>Z.length-y.1.toNat) ?_ ?_
 ·exact ⟨0,s,rfl,YAr _,by simpa using i,by simpa using hb⟩
 rintro ⟨(jj:Int),_⟩ h1 ⟨t,s1,e,ht,i1,hl⟩;dsimp only at e ⊢;subst e;by_cases hlt:t<Z.length
 ·rw[if_pos (show decide ((t:Int)<(sl.len:Int))=true from dT (by omega))];refine seg_ix (g.keep (by decide) i1.q.k) (x:=Z[t]) (by omega) (by simp[hlt]) rfl ?_;refine new_st_gen fun b2 h2 hb2 k2 e2 hs2 =>?_;refine ld_go (sm_all e2) ?_;refine callV_go (aa:=[Kd.p.val (some (Pl.mk w 0)),(Kd.ar 32 .u8).val Z[t]]) (by rfl) ?_;show ZAC.C (some ⟨w,0⟩) Z[t] h2 _;have hll:(bs++(Z.take t).flatMap fun z=>z.toList).length=bs.length+((Z.take t).flatMap fun z=>z.toList).length:=YAQ;have zl:(Z[t]).toList.length=32:=by simp
  refine (i1.keep k2 (by simp)).hashG hl (fun e' h' he k' hh =>?_) fun h5 h' s' i5 =>?_
  ·rw[if_pos (by simpa using he)];refine hbad e' h' he k' fun hx=>flat_over (f:=fun z:HVec=>z.toList) hlt ?_ hx;omega
  ·rw[if_neg (by decide)];have hw:w64 ((t:Int)+1)=((t+1:Nat):Int):=w6 (by omega);rw[hw]
   have hfe:bs++((Z.take (t+1)).flatMap fun z=>z.toList)=bs++((Z.take t).flatMap fun z=>z.toList)++Z[t].toList:=by
    rw[flat_take (f:=fun z:HVec=>z.toList) hlt,←YAB]
   exact ⟨⟨t+1,s',rfl,by omega,by rw[hfe];exact i5,by rw[hfe,YAQ,zl];omega⟩,by simp;omega⟩
 ·rw[if_neg (show ¬decide ((t:Int)<(sl.len:Int))=true from dn (by omega))];have:t=Z.length:=by omega
  rw[this,YAf (YAl _)] at i1 hl;exact hok hl h1 s1 i1
theorem msgs_eachS {sl:Slc} {O:List By} {K:Int→Heap→Prop} (i:BW T h0 h w b s bs) (g:Seg .s sl (O.map bx) h0) (hn:O.length≤255) (hb:bs.length≤65536)
 (hbad:∀e h',e≠0→Keep [] h0 h'→¬((∀x∈O,x.length≤65535)∧(bs++O.flatMap mTxt).length≤65536)→K e h')
 (hok:(∀x∈O,x.length≤65535)→(bs++O.flatMap mTxt).length≤65536→∀h' s',BW T h0 h' w b s' (bs++O.flatMap mTxt)→K 0 h'):ZBl.C sl (.func (.func ZCP.n) #[] #[Kd.p.val (some (Pl.mk b 0))]) h K:=by
 apply ZBl.c;unfold ZBl.m;have gl:=g.len;rw[YAT] at gl;refine lp_go (fun (y:Int×Unit) (h1:Heap)=>∃(t:Nat) (s1:Slc),y.1=t∧t≤O.length∧BW T h0 h1 w b s1 (bs++(O.take t).flatMap mTxt)∧(∀e∈O.take t,e.length≤65535)∧(bs++(O.take t).flatMap mTxt).length≤65536) (fun (y:Int×Unit) _=>O.length-y.1.toNat) ?_ ?_
 ·exact ⟨0,s,rfl,YAr _,by simpa using i,by simp,by simpa using hb⟩
 rintro ⟨(jj:Int),_⟩ h1 ⟨t,s1,e,ht,i1,hp,hl⟩;dsimp only at e ⊢;subst e;by_cases hlt:t<O.length
 ·rw[if_pos (show decide ((t:Int)<(sl.len:Int))=true from dT (by omega))];refine seg_ix (g.keep (by decide) i1.q.k) (x:=bx O[t]) (by omega) (by simp[hlt]) rfl ?_;refine callV_go (aa:=[Kd.s.val (bx O[t]),Kd.p.val (some (Pl.mk b 0))]) (by rfl) ?_;show ZCP.C (bx O[t]) ⟨b,0⟩ h1 _;apply ZCP.c;unfold ZCP.m;refine ld_go (sm_all i1.e) ?_;have hml:(mTxt O[t]).length=2+(O[t]).length:=by unfold mTxt;rw[YAQ,be_len]
  have hll:(bs++(O.take t).flatMap mTxt).length=bs.length+((O.take t).flatMap mTxt).length:=YAQ;refine i1.textG (n:=2) (by decide) hl (fun e' h' he k' hh =>?_) fun h4 h5 h' s' i5 =>?_
  ·dsimp only;rw[if_pos (by simpa using he)];refine hbad e' h' he k' fun hx =>?_;by_cases hz:O[t].length≤65535
   ·refine flat_over hlt ?_ hx.2;have:¬(bs++(O.take t).flatMap mTxt).length+2+O[t].length≤65536:=fun h'=>hh ⟨by omega,h'⟩;omega
   ·exact hz (hx.1 _ (YAP hlt))
  ·dsimp only;rw[if_neg (by decide)];have hw:w64 ((t:Int)+1)=((t+1:Nat):Int):=w6 (by omega);rw[hw]
   have hfe:bs++(O.take (t+1)).flatMap mTxt=bs++(O.take t).flatMap mTxt++(be O[t].length 2++O[t]):=by
    rw[flat_take hlt,←YAB];rfl
   refine ⟨⟨t+1,s',rfl,by omega,by rw[hfe];exact i5,fun e hem =>?_,by rw[hfe];simp only [YAQ,be_len] at h5 ⊢;omega⟩,by simp;omega⟩;rw[YAg hlt] at hem;rcases List.mem_append.1 hem with h' | h'
   ·exact hp e h'
   ·simp at h';subst h';omega
 ·rw[if_neg (show ¬decide ((t:Int)<(sl.len:Int))=true from dn (by omega))];have:t=O.length:=by omega
  rw[this,YAf (YAl _)] at i1 hp hl;exact hok hp hl h1 s1 i1
end
theorem ZBt.s {k:Int} {h:Heap} {K:Int→Int→Int→Heap→Prop} (hK:K ((((otsP k).getD (0,0,0)).1:Nat):Int) ((((otsP k).getD (0,0,0)).2.1:Nat):Int) ((((otsP k).getD (0,0,0)).2.2:Nat):Int) h):ZBt.C k h K:=by
 apply ZBt.c;unfold ZBt.m;unfold otsP at hK;by_cases h3:k=3
 ·rw[if_pos (by simpa using h3)];rw[if_pos h3] at hK;exact hK
 rw[if_neg (by simpa using h3)];rw[if_neg h3] at hK;by_cases h4:k=4
 ·rw[if_pos (by simpa using h4)];rw[if_pos h4] at hK;exact hK
 rw[if_neg (by simpa using h4)];rw[if_neg h4] at hK;exact hK
theorem ZCU.s {id:By} {q:Int} {h:Heap} {K:Bool→Heap→Prop} (hK:K (otsMay id q) h):ZCU.C (bx id) q h K:=by
 apply ZCU.c;unfold ZCU.m;unfold otsMay at hK;refine jn_at (decide (id.length=16)&&decide (0≤q)&&decide (q≤4294967295),()) h ?_ hK;by_cases h16:id.length=16
 ·rw[if_pos (show decide (((bx id).size:Int)=16)=true from dT (by rw[bx_size];omega)),dT h16];by_cases h0:0≤q
  ·rw[if_pos (show decide (q≥0)=true from dT h0),dT h0];exact ⟨rfl,rfl⟩
  ·rw[if_neg (show ¬decide (q≥0)=true from fun h=>h0 (of_decide_eq_true h)),dF h0];exact ⟨rfl,rfl⟩
 ·rw[if_neg (show ¬decide (((bx id).size:Int)=16)=true from fun h=>h16 (by have:=of_decide_eq_true h;rw[bx_size] at this;omega)),dF h16];exact ⟨rfl,rfl⟩
theorem ZCx.s {l:By} {h:Heap} {K:ByteArray→Heap→Prop} (hl:l.length≤1000000) (hK:∀h',Keep [] h h'→K (bx (Hl l)) h'):ZCx.C (bx l) h K:=by
 apply ZCx.c;unfold ZCx.m;refine ZCZ.s (by omega) fun h1 k1 =>?_;unfold Hl at hK;generalize shaL l=v at *;exact ZAy.s fun h2 k2=>hK h2 (k1.n k2)
theorem ZCG.s {hd seed:By} {i:Nat} {h:Heap} {K:ByteArray→Heap→Prop} (hl:hd.length+seed.length≤900000) (hi:i<65536) (hK:∀h',Keep [] h h'→K (bx (privO hd i seed)) h'):ZCG.C (bx hd) (i:Int) (bx seed) h K:=by
 apply ZCG.c;unfold ZCG.m;refine ZAB.s (n:=2) (by decide) (by decide) (by omega) fun h1 k1 =>?_;show sadd (bx hd) (bx (be i 2)) _;refine sadd_b (by rw[be_len];omega) ?_;show sadd _ (bx [255]) _;refine sadd_b (by rw[YAQ,be_len];simp;omega) ?_;refine sadd_b (by rw[YAQ,YAQ,be_len];simp;omega) ?_;refine ZCx.s (by simp only [YAQ,be_len,YAR,YAU];omega) fun h2 k2 =>?_;exact hK h2 (k1.n k2)
theorem ZCm.s {p s:By} {i fr to:Nat} {h:Heap} {K:ByteArray→Heap→Prop} (hp:p.length≤1000) (hs:s.length≤1000) (hi:i<65536) (hf:fr≤to) (ht:to≤256) (hK:∀h',Keep [] h h'→K (bx (steps p i fr (to-fr) s)) h'):ZCm.C (bx p) (i:Int) (fr:Int) (to:Int) (bx s) h K:=by
 apply ZCm.c;unfold ZCm.m;refine lp_go (fun (y:ByteArray×Int×Unit) (h1:Heap)=>∃n:Nat,y.2.1=((fr+n:Nat):Int)∧fr+n≤to∧Keep [] h h1∧y.1=bx (steps p i fr n s)∧(steps p i fr n s).length≤1000) (fun (y:ByteArray×Int×Unit) _=>to-y.2.1.toNat) ?_ ?_
 ·exact ⟨0,rfl,hf,Keep.rfl,rfl,hs⟩
 rintro ⟨(a:ByteArray),(jj:Int),_⟩ h1 ⟨n,e,hn,k1,ea,hl⟩;dsimp only at e ea ⊢;subst e;subst ea;by_cases hlt:fr+n<to
 ·rw[if_pos (show decide (((fr+n:Nat):Int)<(to:Int))=true from dT (by omega))];have hw:w64 (((fr+n:Nat):Int)+1)=((fr+(n+1):Nat):Int):=w6 (by omega);rw[hw];refine ZAB.s (n:=2) (by decide) (by decide) (by omega) fun h2 k2 =>?_;show sadd (bx p) (bx (be i 2)) _;refine sadd_b (by rw[be_len];omega) ?_;refine ZAB.s (n:=1) (by decide) (by decide) (by omega) fun h3 k3 =>?_;show sadd _ (bx (be (fr+n) 1)) _;refine sadd_b (by rw[YAQ,be_len,be_len];omega) ?_;refine sadd_b (by rw[YAQ,YAQ,be_len,be_len];omega) ?_;refine ZCx.s (by simp only [YAQ,be_len];omega) fun h4 k4 =>?_
  have e3:Hl (p++be i 2++be (fr+n) 1++steps p i fr n s)=steps p i fr (n+1) s:=by
   rw[steps_succ,show be (fr+n) 1=[UInt8.ofNat (fr+n)] by simp[be]]
  rw[e3];refine ⟨⟨n+1,rfl,by omega,((k1.n k2).n k3).n k4,rfl,by rw[steps_succ,Hl_len];decide⟩,by simp;omega⟩
 ·rw[if_neg (show ¬decide (((fr+n:Nat):Int)<(to:Int))=true from dn (by omega))];have:n=to-fr:=by omega
  rw[this];exact hK h1 k1
def RowS (h:Heap) (T:Nat) (s:Slc) (l:By):Prop:=
 Row h T .u8 s l∨∃b zs,s.a=some ⟨b,0⟩∧s.len=l.length∧s.cap=l.length+zs.length∧h[b]? = some (.cells ((l++zs).flatMap Kd.u8.cells).toArray T (s.cap,s.cap+1))
theorem RowS.len {h:Heap} {T:Nat} {s:Slc} {l:By} (r:RowS h T s l):s.len=l.length:=by
 rcases r with r | ⟨b,zs,_,e,_⟩
 ·exact r.len
 ·exact e
theorem RowS.keep {h h':Heap} {T:Nat} {s:Slc} {l:By} {S:List Nat} (r:RowS h T s l) (k:Keep S h h') (hn:∀b∈own s,b∉S):RowS h' T s l:=by
 rcases r with r | ⟨b,zs,e,e1,e2,e3⟩
 ·exact .inl (r.keep k hn)
 ·exact .inr ⟨b,zs,e,e1,e2,k.get e3 (hn b (by unfold own;rw[e];simp))⟩
theorem s2b_rowS {T:Nat} {l:By} {h:Heap} {K:Slc→Heap→Prop} (hK:∀s h',Keep [] h h'→RowS h' T s l→own s=[h.size]→K s h'):s2b T (bx l) h K:=by
 intro c hc _;rw[bx_size] at hc;refine hK _ _ keep_push (.inr ⟨h.size,List.replicate (c-l.length) 0,rfl,bx_size,by simp;omega,?_⟩) rfl;rw[get_push,YAK,bx_dl,bx_size]
 rfl
theorem RowS.seg {h:Heap} {T:Nat} {s:Slc} {l:By} (r:RowS h T s l):Seg .u8 s l h:=by
 rcases r with r | ⟨b,zs,e,e1,e2,e3⟩
 ·exact r.seg
 ·refine ⟨e1,fun i x hx=>⟨⟨b,0⟩,e,?_⟩,fun p hp =>?_⟩
  ·have hi:i<l.length:=by
    rcases Nat.lt_or_ge i l.length with h | h
    ·exact h
    ·rw[List.getElem?_eq_none h] at hx;simp at hx
   have e2:(h.push (robj T .u8 (l++zs)))[h.size]? = some (robj T .u8 (l++zs)):=get_push;have rr:Row (h.push (robj T .u8 (l++zs))) T .u8 ⟨some ⟨h.size,0⟩,l.length,l.length+zs.length⟩ l:=Row.of_new e2 rfl rfl (by simp);obtain ⟨p,hp,hs⟩:=rr.seg.el i x hx
   cases hp
   unfold sm rdCells at hs ⊢;rw[e2] at hs;rw[e3];exact hs
  ·rw[e] at hp
   cases hp
   exact ⟨_,_,_,e3,YAr _⟩
theorem apS {T by_ n:Nat} {h:Heap} {s:Slc} {xs ys:By} {cs:List Value} {K:Slc→Heap→Prop} (r:RowS h T s xs) (hn:n=ys.length) (hc:cs=ys.flatMap Kd.u8.cells) (hb:(xs.length+n)*by_≤140737488355328)
 (hK:∀s' h',RowS h' T s' (xs++ys)→Keep (own s) h h'→(s'.a=s.a∨s'.a=some ⟨h.size,0⟩)→K s' h'):ap T .u8 by_ s n cs h K:=by
 rcases r with r | ⟨b,zs,e,e1,e2,e3⟩
 ·exact ap_row r hn hc hb fun s' h' r k o=>hK s' h' (.inl r) k o
 subst hn;subst hc;unfold ap;have lx:=u8c_len xs;have ly:=u8c_len ys;have lz:=u8c_len zs;by_cases hle:s.len+ys.length≤s.cap
 ·rw[if_pos hle];simp only [e];refine ⟨_,T,s.cap,s.cap+1,e3,?_,.inr (.inl ?_),?_⟩
  ·simp only [List.size_toArray,YAK,YAQ,Kd.size];omega
  ·simp only [Kd.size];omega
  ·refine hK _ _ (.inr ⟨b,zs.drop ys.length,rfl,by simp[e1],by simp;omega,?_⟩) (by unfold own;rw[e];exact keep_set) (.inl e.symm);rw[get_set e3]
   congr 2
   unfold wrCells
   congr 1
   simp only [Kd.size,YAq,Nat.mul_one];rw[YAK,YAK,YAK,e1,ly];rw[YAd lx]
   congr 1
   rw[List.drop_append,YAG (by omega),YAa,lx,Nat.add_sub_cancel_left]
   have:∀(n:Nat) (l:By),(l.flatMap Kd.u8.cells).drop n=(l.drop n).flatMap Kd.u8.cells:=by
    intro n
    induction n with
    | zero=>intro l;rfl
    | succ n ih =>
      intro l
      cases l with
      | nil=>rfl
      | cons a r=>exact ih r
   exact this _ _
 ·rw[if_neg hle];refine ⟨growslice_fits (by omega) (by rw[e1];exact hb),?_⟩;refine slCells_seg (RowS.seg (.inr ⟨b,zs,e,e1,e2,e3⟩)) (by rw[e1]) ?_;intro c hc _;refine hK _ _ (.inl (.inr ⟨h.size,List.replicate (c-(s.len+ys.length)) 0,rfl,by simp[e1],by simp;omega,?_⟩)) (keep_push.weak (by simp)) (.inr rfl);rw[get_push]
  congr 2
  rw[YAK,YAK]
  rfl
theorem otsP_c {k:Int} {w p ls:Nat} (h:otsP k=some (w,p,ls)):((w,p,ls)=(4,67,4)∨(w,p,ls)=(8,34,0))∧4≤w∧w≤8∧34≤p∧p≤67∧2^w≤256∧1≤2^w∧256/w≤p∧w64 (shlI 1 (w:Int)-1)=((2^w-1:Nat):Int):=by
 have hc:(w,p,ls)=(4,67,4)∨(w,p,ls)=(8,34,0):=by
  rcases otsP_cases h with ⟨_,h⟩ | ⟨_,h⟩
  ·exact .inl h
  ·exact .inr h
 refine ⟨hc,?_⟩;rcases hc with h | h <;> cases h <;> decide
theorem bx_cells {l:By}:(bx l).data.toList.flatMap Kd.u8.cells=l.flatMap Kd.u8.cells:=by rw[bx_dl]
theorem flatR_le {f:Nat→By} (hf:∀i,(f i).length=32) (n:Nat):((List.range n).flatMap f).length=32*n:=flatR_len hf n
theorem ZBU.s {kind:Int} {id seed:By} {q w p ls:Nat} {h:Heap} {K:Kd.Ty (.ar 32 .u8)→Int→Heap→Prop} (hk:otsP kind=some (w,p,ls)) (hid:id.length=16) (hq:q≤4294967295) (hs:seed.length=32)
 (hK:∀v h',Vector.toList v=pubO w p (headO id q) seed→Keep [] h h'→K v 0 h'):ZBU.C kind (bx id) (q:Int) (bx seed) h K:=by
 obtain ⟨hc,w4,w8,p34,p67,h2a,h2b,hpl,hmost⟩:=otsP_c hk;apply ZBU.c;unfold ZBU.m;refine new_gen fun b1 h1 hb1 k1 e1 hs1 =>?_;refine ZBt.s ?_;rw[hk];simp only [Option.getD_some];have hmay:otsMay id (q:Int)=true:=by unfold otsMay;simp[hid];omega
 refine jn_at (false,()) h1 ?_ ?_
 ·rw[if_neg (show ¬decide ((w:Int)=0)=true from dn (by omega))];refine ZCU.s ?_;rw[hmay,if_neg (by simp)];refine ⟨?_,rfl⟩;rw[bx_size,hs];rfl
 rw[if_neg (by simp)];refine ZAB.s (n:=4) (by decide) (by decide) (by omega) fun h6 k6 =>?_;show sadd (bx id) (bx (be q 4)) _;refine sadd_b (by rw[be_len];omega) ?_;have hhl:(headO id q).length=20:=by unfold headO;rw[YAQ,be_len,hid]
 rw[show id++be q 4=headO id q from rfl];show sadd (bx (headO id q)) (bx [128,128]) _;refine sadd_b (by rw[hhl];decide) ?_;refine s2b_rowS fun s3 h7 k7 r7 o7 =>?_;have k17:Keep [] h1 h7:=k6.n k7;have sl:∀i,(steps (headO id q) i 0 (2^w-1) (privO (headO id q) i seed)).length=32:=fun i=>steps_len priv_len;have z7:=k7.1;have o7':∀x∈own s3,h6.size≤x:=fun x hx=>by rw[o7] at hx;simp at hx;omega
 have z6:=k6.1;have lt1:=lt_of_some e1;refine lp_go (fun (y:Slc×Int×Unit) (h8:Heap)=>∃n:Nat,y.2.1=n∧n≤p∧Keep [] h1 h8∧RowS h8 t_uint8 y.1 (headO id q++[128,128]++(List.range n).flatMap fun i=>steps (headO id q) i 0 (2^w-1) (privO (headO id q) i seed))∧∀x∈own y.1,h1.size≤x) (fun (y:Slc×Int×Unit) _=>p-y.2.1.toNat) ?_ ?_
 ·exact ⟨0,rfl,YAr _,k17,by simpa using r7,fun x hx=>by have:=o7' x hx;omega⟩
 rintro ⟨(s8:Slc),(jj:Int),_⟩ h8 ⟨n,e,hn,k8,r8,o8⟩;dsimp only at e r8 o8 ⊢;subst e;by_cases hlt:n<p
 ·rw[if_pos (show decide ((n:Int)<(p:Int))=true from dT (by omega))];refine ⟨YAi w,?_⟩;refine ZCG.s (by omega) (by omega) fun h9 k9 =>?_;rw[hmost];have pl:=priv_len (hd:=headO id q) (seed:=seed) (i:=n);refine ZCm.s (fr:=0) (by omega) (by omega) (by omega) (by omega) (by omega) fun h10 k10 =>?_;rw[Nat.sub_zero,bx_cells,bx_size];have k810:Keep [] h8 h10:=k9.n k10;refine apS (r8.keep k810 (by simp)) rfl rfl (by rw[YAQ,YAQ,hhl,flatR_le sl,sl];simp;omega) fun s11 h11 r11 k11 o11 =>?_;have hw:w64 ((n:Int)+1)=((n+1:Nat):Int):=w6 (by omega);rw[hw];have z810:=k810.1;have z18:=k8.1;refine ⟨⟨n+1,rfl,by omega,(k8.n k810).new k11 o8,?_,fun x hx =>?_⟩,by simp;omega⟩
  ·rw[List.range_succ,YAK,←YAB];simpa using r11
  ·rcases own_of o11 x hx with h | h
   ·exact o8 x h
   ·omega
 ·rw[if_neg (show ¬decide ((n:Int)<(p:Int))=true from dn (by omega))];obtain rfl:n=p:=by omega
  refine b2s_segq r8.seg fun q' _ =>?_
  have hlen:(headO id q++[128,128]++(List.range n).flatMap fun i=>steps (headO id q) i 0 (2^w-1) (privO (headO id q) i seed)).length≤3000:=by
   rw[YAQ,YAQ,hhl,flatR_le sl];simp;omega
  refine ZCZ.s (l:=headO id q++[128,128]++(List.range n).flatMap fun i=>steps (headO id q) i 0 (2^w-1) (privO (headO id q) i seed)) (by omega) fun h12 k12 =>?_;unfold pubO Hl at hK;generalize shaL (headO id q++[128,128]++(List.range n).flatMap fun i=>steps (headO id q) i 0 (2^w-1) (privO (headO id q) i seed))=V at *;have k112:Keep [] h1 h12:=k8.n k12;refine st_to (k112.g e1) fun h13 k13 e13 hs13=>ld_go (sm_all e13) ?_;exact hK V h13 rfl ((k1.n k112).new k13 (by simp;omega))
def NodesP (w p:Nat) (id seed:By) (h:Nat) (L:List By) (r:Nat):Prop:=
 L.length=2*2^h∧∀l,l≤h→∀j,2^(h-l)≤j→j<2*2^(h-l)→r≤j→L.getD j []=nodeL w p id seed (2^h) l j
theorem gets_map {L:List By} {i:Nat} (h:i<L.length):(L.map bx)[((i:Nat):Int).toNat]? = some (bx (L.getD i [])):=by
 rw[YAj,YAO,YAM,YAN h];rfl
theorem getD_set_ne {L:List By} {r j:Nat} {x:By} (h:r≠j):(L.set r x).getD j []=L.getD j []:=by
 rw[YAM,YAM,List.getElem?_set_ne h]
theorem getD_set_eq {L:List By} {r:Nat} {x:By} (h:r<L.length):(L.set r x).getD r []=x:=by
 rw[YAM,List.getElem?_set_self h];rfl
theorem NodesP.leaf {w p:Nat} {id seed:By} {h:Nat} {L:List By} {r:Nat} (n:NodesP w p id seed h L (r+1)) (h1:2^h≤r) (h2:r<2*2^h):NodesP w p id seed h (L.set r (tipL id r (pubO w p (headO id (r-2^h)) seed))) r:=by
 obtain ⟨e,n⟩:=n;refine ⟨by rw[List.length_set];exact e,fun l hl j a b c =>?_⟩;by_cases hj:r=j
 ·subst hj;rw[getD_set_eq (by omega)]
  have:l=0:=by
   cases l with
   | zero=>rfl
   | succ l =>
     have e1:2^(h-(l+1))*2=2^(h-(l+1)+1):=(YAp ..).symm;have e2:2^(h-(l+1)+1)≤2^h:=YAo (by decide) (by omega);omega
  subst this
  rfl
 ·rw[getD_set_ne hj];exact n l hl j a b (by omega)
theorem NodesP.inner {w p:Nat} {id seed:By} {h:Nat} {L:List By} {r:Nat} (n:NodesP w p id seed h L (r+1)) (h1:1≤r) (h2:r<2^h):NodesP w p id seed h (L.set r (joinL id r (L.getD (2*r) []) (L.getD (2*r+1) []))) r:=by
 obtain ⟨e,n⟩:=n;refine ⟨by rw[List.length_set];exact e,fun l hl j a b c =>?_⟩;by_cases hj:r=j
 ·subst hj;rw[getD_set_eq (by omega)]
  cases l with
  | zero=>rw[Nat.sub_zero] at a;omega
  | succ l =>
    have e1:2^(h-l)=2^(h-(l+1))*2:=by rw[←YAp];congr 1;omega
    rw[n l (by omega) (2*r) (by omega) (by omega) (by omega),n l (by omega) (2*r+1) (by omega) (by omega) (by omega)]
    rfl
 ·rw[getD_set_ne hj];exact n l hl j a b (by omega)
theorem NodesP.start {w p:Nat} {id seed:By} {h:Nat}:NodesP w p id seed h (List.replicate (2*2^h) []) (2*2^h):=by
 refine ⟨List.length_replicate,fun l hl j a b c =>?_⟩;have:2^(h-l)≤2^h:=YAo (by decide) (by omega);omega
theorem NodesP.root {w p:Nat} {id seed:By} {h:Nat} {L:List By} (n:NodesP w p id seed h L 1):L.getD 1 []=nodeL w p id seed (2^h) h 1:=n.2 h (YAl _) 1 (by rw[Nat.sub_self];decide) (by rw[Nat.sub_self];decide) (YAl _)
abbrev LkK:Kd := .ag (.pr .i (.pr .i (.pr .s (.pr .s (.pr .i .un)))))
def lkV (k:LKey):LkK.Ty:=(k.ots,(k.height,(bx k.id,(bx k.seed,(k.next,())))))
def hkV (k:HKey):LkK.Ty:=(k.ots,(k.height,(bx k.id,(bx k.seed,(k.next,())))))
theorem lk_f {T b:Nat} {v:LkK.Ty} {h:Heap} (e:h[b]? = some (vobj T LkK v)):sm .i ((Pl.mk b 0).fld 0) v.1 h∧sm .i ((Pl.mk b 0).fld 1) v.2.1 h∧sm .s ((Pl.mk b 0).fld 2) v.2.2.1 h∧sm .s ((Pl.mk b 0).fld 3) v.2.2.2.1 h∧sm .i ((Pl.mk b 0).fld 4) v.2.2.2.2.1 h:=
 ⟨sm_fld (n:=0) (k' := .i) e rfl (by decide),sm_fld (n:=1) (k' := .i) e rfl (by decide),sm_fld (n:=2) (k' := .s) e rfl (by decide),sm_fld (n:=3) (k' := .s) e rfl (by decide),sm_fld (n:=4) (k' := .i) e rfl (by decide)⟩
theorem shl_one {x:Int} (h0:0≤x) (h1:x≤10):shlI 1 x=((2^x.toNat:Nat):Int):=by
 have:=shlI_nat (a:=1) (k:=x.toNat) (by omega) (by
  have:2^x.toNat≤2^10:=YAo (by decide) (by omega);omega)
 rw[YAk h0] at this;rw[show ((1:Nat):Int)=1 from rfl] at this;rw[this,Nat.one_mul]
theorem ZBx.s {k:LKey} {h:Heap} {K:Bool→Heap→Prop} (hK:∀h',Keep [] h h'→K (lmsMay k) h'):ZBx.C (lkV k) h K:=by
 apply ZBx.c;unfold ZBx.m;refine new_gen fun b h1 hb k1 e1 hs =>?_;have e1:h1[b]? = some (vobj t_api_LmsKey LkK (lkV k)):=e1;obtain ⟨f0,f1,f2,f3,f4⟩:=lk_f e1;refine ld_go f0 ?_;refine ZBt.s ?_;refine jn_at (lmsMay k,()) h1 ?_ (hK h1 k1);unfold lmsMay;show (if decide (((((otsP k.ots).getD (0,0,0)).1:Nat):Int)>0)=true then _ else _)
 cases hx:otsP k.ots with
 | none=>rw[if_neg (by simp)];exact ⟨by simp,rfl⟩
 | some x =>
   have hw:0<x.1:=by rcases otsP_cases hx with ⟨_,rfl⟩ | ⟨_,rfl⟩ <;> decide
   rw[Option.getD_some,if_pos (show decide ((x.1:Int)>0)=true from dT (by omega))];refine ld_go f1 ?_;show (if decide (k.height≥1)=true then _ else _);by_cases c1:1≤k.height
   ·rw[if_pos (dT c1)];refine ld_go f1 ?_;show (if decide (k.height≤5)=true then _ else _);by_cases c2:k.height≤5
    ·rw[if_pos (dT c2)];refine ld_go f2 ?_;show (if decide (((bx k.id).size:Int)=16)=true then _ else _);by_cases c3:k.id.length=16
     ·rw[if_pos (dT (by rw[bx_size];omega))];refine ld_go f3 ?_;show (if decide (((bx k.seed).size:Int)=32)=true then _ else _);by_cases c4:k.seed.length=32
      ·rw[if_pos (dT (by rw[bx_size];omega))];refine ld_go f4 ?_;show (if decide (k.next≥0)=true then _ else _);by_cases c5:0≤k.next
       ·rw[if_pos (dT c5)];refine ld_go f4 (ld_go f1 ⟨show (0:Int)≤k.height by omega,?_,rfl⟩);show (decide (k.next≤shlI 1 k.height),())=_;rw[shl_one (by omega) (by omega)];have:((2^k.height.toNat:Nat):Int)=2^k.height.toNat:=by push_cast;rfl
        rw[this];simp[c1,c2,c3,c4,c5]
       ·rw[if_neg (by simpa using c5)];exact ⟨by simp[c5],rfl⟩
      ·rw[if_neg (by rw[bx_size];simp;omega)];exact ⟨by simp[c4],rfl⟩
     ·rw[if_neg (by rw[bx_size];simp;omega)];exact ⟨by simp[c3],rfl⟩
    ·rw[if_neg (by simpa using c2)];exact ⟨by simp[c2],rfl⟩
   ·rw[if_neg (by simpa using c1)];exact ⟨by simp[c1],rfl⟩
theorem ZCT.s {k:HKey} {h:Heap} {K:Bool→Heap→Prop} (hK:∀h',Keep [] h h'→K (hssMay k) h'):ZCT.C (hkV k) h K:=by
 apply ZCT.c;unfold ZCT.m;refine new_gen fun b h1 hb k1 e1 hs =>?_;have e1:h1[b]? = some (vobj t_api_HssKey LkK (hkV k)):=e1;obtain ⟨f0,f1,f2,f3,f4⟩:=lk_f e1;refine jn_in (fun y h'=>Keep [] h1 h'∧y=(hssMay k,())) ?_ ?_
 ·refine ld_go f0 (ld_go f1 (ld_go f2 (ld_go f3 ?_)));refine ZBx.s (k:=⟨k.ots,k.height,k.id,k.seed,0⟩) fun h2 k2 =>?_;have g1:=sm_keep (by decide) f1 k2;have g4:=sm_keep (by decide) f4 k2;unfold hssMay
  cases hm:lmsMay ⟨k.ots,k.height,k.id,k.seed,0⟩ with
  | false=>rw[if_neg (by simp)];exact ⟨k2,by simp⟩
  | true =>
    rw[if_pos rfl]
    have hh:1≤k.height∧k.height≤5:=by
     unfold lmsMay at hm;simp only [YAs,decide_eq_true_eq] at hm;exact ⟨hm.1.1.1.1.1.2,hm.1.1.1.1.2⟩
    refine ld_go g4 ?_;show (if decide (k.next≥0)=true then _ else _);by_cases c5:0≤k.next
    ·rw[if_pos (dT c5)];have hw:w64 (2*k.height)=((2*k.height.toNat:Nat):Int):=w6 (by omega);refine ld_go g4 (ld_go g1 ⟨?_,k2,?_⟩)
     ·show 0≤w64 (2*k.height);rw[hw];exact YAi _
     ·show (decide (k.next≤shlI 1 (w64 (2*k.height))),())=_;rw[hw,shl_one (YAi _) (by omega),YAj];have:((2^(2*k.height.toNat):Nat):Int)=2^(2*k.height.toNat):=by push_cast;rfl
      rw[this];simp[c5]
    ·rw[if_neg (by simpa using c5)];exact ⟨k2,by simp[c5]⟩
 ·rintro _ h2 ⟨k2,rfl⟩;exact hK h2 (k1.n k2)
theorem ZCD.s {n:Nat} {h:Heap} {K:Int→Heap→Prop} (hn:n≤100) (hK:K ((kindOf n:Nat):Int) h):ZCD.C (n:Int) h K:=by
 apply ZCD.c;unfold ZCD.m;unfold kindOf at hK;by_cases h5:n=5
 ·subst h5;exact hK
 ·rw[if_neg (by simp;omega),w64_id (by omega) (by omega)];rw[if_neg h5] at hK;have:((4026531840+n:Nat):Int)=4026531840+(n:Int):=by omega
  rw[←this];exact hK
theorem ZCq.s {k:LKey} {h:Heap} {K:Slc→Heap→Prop} (hm:lmsMay k=true)
 (hK:∀h' s L,Keep [] h h'→Row h' t_string .s s (L.map bx)→NodesP k.w k.p k.id k.seed k.height.toNat L 1→K s h'):ZCq.C (lkV k) h K:=by
 obtain ⟨⟨w,p,ls⟩,hx,e1,e2,e3,hp,hh1,hh5,h16,h32,_,_,_⟩:=may_kind hm;dsimp only at e1 e2 e3;apply ZCq.c;unfold ZCq.m;refine new_gen fun b h1 hb k1 eb hs1 =>?_;have eb:h1[b]? = some (vobj t_api_LmsKey LkK (lkV k)):=eb;obtain ⟨f0,f1,f2,f3,f4⟩:=lk_f eb;obtain ⟨hh,he⟩:∃n:Nat,k.height=n:=⟨k.height.toNat,by omega⟩;have hh':k.height.toNat=hh:=by omega
 have f1':sm .i ((Pl.mk b 0).fld 1) (hh:Int) h1:=by rw[←he];exact f1
 rw[e1,e2,hh'] at hK;rw[hh'] at hh1 hh5;refine ld_go f1' ⟨YAi hh,?_⟩;have hm1:shlI 1 (hh:Int)=((2^hh:Nat):Int):=by rw[shl_one (YAi _) (by omega),YAj]
 have hm32:2^hh≤32:=YAo (n:=2) (by decide) hh5;rw[hm1];have hpos:=Nat.two_pow_pos hh;have hw2:w64 (2*((2^hh:Nat):Int))=((2*2^hh:Nat):Int):=w6 (by omega);rw[hw2];refine mk_gen (by omega) (by omega) fun bo h2 hbo k2 r2 hs2 =>?_;have hwl:w64 (((2*2^hh:Nat):Int)-1)=((2*2^hh-1:Nat):Int):=w6 (by omega);rw[hwl];refine lp_go (fun (y:Int×Unit) (h3:Heap)=>∃(r:Nat) (L:List By),y.1=r∧r+1≤2*2^hh∧Keep [bo] h2 h3∧Row h3 t_string .s ⟨some ⟨bo,0⟩,2*2^hh,2*2^hh⟩ (L.map bx)∧NodesP w p k.id k.seed hh L (r+1)∧∀j,r+1≤j→j<2*2^hh→(L.getD j []).length=32) (fun (y:Int×Unit) _=>y.1.toNat) ?_ ?_
 ·refine ⟨2*2^hh-1,List.replicate (2*2^hh) [],rfl,by omega,Keep.rfl,?_,?_⟩
  ·rw[List.map_replicate];exact r2
  ·rw[Nat.sub_add_cancel (by omega)];exact ⟨NodesP.start,fun j h1 h2=>by omega⟩
 rintro ⟨(jj:Int),_⟩ h3 ⟨r,L,e,hr,k3,r3,np,n32⟩;dsimp only at e ⊢;subst e;have lb:b<h2.size:=by have:=lt_of_some eb;have:=k2.1;omega
 have k13:Keep [] h1 h3:=k2.new k3 (by simp;omega);obtain ⟨f0,f1,f2,f3,f4⟩:=lk_f (k13.g eb);have hLl:=np.1;by_cases hlt:0<r
 ·rw[if_pos (show decide ((r:Int)>0)=true from dT (by omega))];have hwd:w64 ((r:Int)-1)=((r-1:Nat):Int):=w6 (by omega);rw[hwd];refine jn_in (fun _ h'=>Keep [bo] h2 h'∧∃L',Row h' t_string .s ⟨some ⟨bo,0⟩,2*2^hh,2*2^hh⟩ (L'.map bx)∧NodesP w p k.id k.seed hh L' r∧∀j,r≤j→j<2*2^hh→(L'.getD j []).length=32) ?_ ?_
  ·refine jn_go ?_;by_cases hge:2^hh≤r
   ·rw[if_pos (show decide ((r:Int)≥((2^hh:Nat):Int))=true from dT (by omega))];refine ld_go f0 (ld_go f2 (ld_go f3 ?_));have hwq:w64 ((r:Int)-((2^hh:Nat):Int))=((r-2^hh:Nat):Int):=w6 (by omega);rw[hwq];refine ZBU.s hx h16 (by omega) h32 fun v h4 hv k4 =>?_;refine new_st_gen fun b2 h5 hb2 k5 e5 hs5 =>?_;have e5:h5[b2]? = some (vobj t_api_Hash (.ar 32 .u8) v):=e5;have k15:Keep [] h1 h5:=(k13.n k4).n k5;have g2:=sm_keep (by decide) f2 (k4.n k5);refine ld_go g2 (ld_go (sm_all e5) ?_);refine ZAB.s (n:=4) (by decide) (by decide) (by omega) fun h6 k6 =>?_;refine ⟨sm_keep (by decide) (sm_all e5) k6,sm_keep (by decide) g2 k6,?_⟩;show sadd (bx k.id) (bx (be r 4)) _;refine sadd_b (by rw[be_len];omega) ?_;show sadd _ (bx [130,130]) _;refine sadd_b (by rw[YAQ,be_len];simp;omega) ?_;refine ZAy.s fun h7 k7=>⟨sm_keep (by decide) g2 (k6.n k7),?_⟩;rw[hv];have pl:(pubO w p (headO k.id (r-2^hh)) k.seed).length=32:=Hl_len;refine sadd_b (by simp only [YAQ,be_len,pl];simp;omega) ?_;refine ZCx.s (by simp only [YAQ,be_len,pl];simp;omega) fun h8 k8 =>?_;have k38:Keep [] h3 h8:=(((k4.n k5).n k6).n k7).n k8;have r8:=r3.keep k38 (by simp);refine ix_st r8 (YAi r) (by rw[YAT,hLl];omega) rfl fun h9 k9 r9 =>?_;refine ⟨(k3.then (U:=[bo]) k38 (by simp) (by simp)).then (U:=[bo]) k9 (by simp) (by simp[own]),_,?_,np.leaf hge (by omega),fun j h1 h2 =>?_⟩
    ·rw[YAj] at r9;rw[List.map_set];exact r9
    ·by_cases hj:r=j
     ·subst hj;rw[getD_set_eq (by omega)];exact Hl_len
     ·rw[getD_set_ne hj];exact n32 j (by omega) h2
   ·rw[if_neg (show ¬decide ((r:Int)≥((2^hh:Nat):Int))=true from dn (by omega))];have hw2r:w64 (2*(r:Int))=((2*r:Nat):Int):=w6 (by omega);have hw2r1:w64 (((2*r:Nat):Int)+1)=((2*r+1:Nat):Int):=w6 (by omega);rw[hw2r,hw2r1];have l1:=n32 (2*r) (by omega) (by omega);have l2:=n32 (2*r+1) (by omega) (by omega);refine ld_go f2 ?_;refine seg_ixl r3.seg (x:=bx (L.getD (2*r) [])) (YAi _) (gets_map (by omega)) rfl fun p2 g2=>ld_go g2 ?_;refine seg_ixl r3.seg (x:=bx (L.getD (2*r+1) [])) (YAi _) (gets_map (by omega)) rfl fun p3 g3=>ld_go g3 ?_;refine ZAB.s (n:=4) (by decide) (by decide) (by omega) fun h6 k6 =>?_;refine ⟨sm_keep (by decide) g3 k6,sm_keep (by decide) g2 k6,sm_keep (by decide) f2 k6,?_⟩;show sadd (bx k.id) (bx (be r 4)) _;refine sadd_b (by rw[be_len];omega) ?_;show sadd _ (bx [131,131]) _;refine sadd_b (by rw[YAQ,be_len];simp;omega) ?_;refine sadd_b (by simp only [YAQ,be_len,l1];simp;omega) ?_;refine sadd_b (by simp only [YAQ,be_len,l1,l2];simp;omega) ?_;refine ZCx.s (by simp only [YAQ,be_len,l1,l2];simp;omega) fun h8 k8 =>?_;have k38:Keep [] h3 h8:=k6.n k8;have r8:=r3.keep k38 (by simp);refine ix_st r8 (YAi r) (by rw[YAT,hLl];omega) rfl fun h9 k9 r9 =>?_;refine ⟨(k3.then (U:=[bo]) k38 (by simp) (by simp)).then (U:=[bo]) k9 (by simp) (by simp[own]),_,?_,np.inner hlt (by omega),fun j h1 h2 =>?_⟩
    ·rw[YAj] at r9;rw[List.map_set];exact r9
    ·by_cases hj:r=j
     ·subst hj;rw[getD_set_eq (by omega)];exact Hl_len
     ·rw[getD_set_ne hj];exact n32 j (by omega) h2
  ·rintro _ h4 ⟨k4,L',r4,np4,n4⟩;refine ⟨⟨r-1,L',rfl,by omega,k4,r4,?_⟩,by simp;omega⟩;rw[Nat.sub_add_cancel (by omega)];exact ⟨np4,n4⟩
 ·rw[if_neg (show ¬decide ((r:Int)>0)=true from dn (by omega))];obtain rfl:r=0:=by omega
  exact hK h3 _ L (k1.n k13) r3 np
theorem ZBW.s {k:LKey} {h:Heap} {K:ByteArray→Int→Heap→Prop} (hm:lmsMay k=true) (hK:∀h',Keep [] h h'→K (bx (lmsPub k)) 0 h'):ZBW.C (lkV k) h K:=by
 obtain ⟨⟨w,p,ls⟩,hx,e1,e2,e3,hp,hh1,hh5,h16,h32,hon,ho5,_⟩:=may_kind hm;apply ZBW.c;unfold ZBW.m;refine new_gen fun b h1 hb k1 eb hs1 =>?_;have eb:h1[b]? = some (vobj t_api_LmsKey LkK (lkV k)):=eb;refine ld_go (sm_all eb) ?_;refine ZBx.s fun h2 k2 =>?_;rw[hm,if_neg (by simp)];obtain ⟨f0,f1,f2,f3,f4⟩:=lk_f (k2.g eb);refine ld_go f1 (ld_go f0 (ld_go f2 (ld_go (sm_all (k2.g eb)) ?_)));obtain ⟨hh,he⟩:∃n:Nat,k.height=n:=⟨k.height.toNat,by omega⟩;have hh':k.height.toNat=hh:=by omega
 have kv:=kind_val hh1 hh5;unfold lmsPub at hK;show ZCD.C k.height h2 _;rw[he];rw[hh'] at kv hK hh5;refine ZCD.s (by omega) ⟨sm_all (k2.g eb),f2,f0,?_⟩;refine ZAB.s (n:=4) (by decide) (by decide) (by omega) fun h4 k4 =>?_;have e4:=(k2.n k4).g eb;obtain ⟨f0,f1,f2,f3,f4⟩:=lk_f e4;refine ⟨sm_all e4,f2,f0,?_⟩;show ZAB.C k.ots 4 h4 _;rw[←hon];refine ZAB.s (n:=4) (by decide) (by decide) (by omega) fun h5 k5 =>?_;have k15:=(k2.n k4).n k5;have e5:=k15.g eb;obtain ⟨f0,f1,f2,f3,f4⟩:=lk_f e5;refine ⟨sm_all e5,f2,?_⟩;refine sadd_b (by rw[be_len,be_len];decide) ?_;show sadd _ (bx k.id) _;refine sadd_b (by rw[YAQ,be_len,be_len];omega) ?_;refine ZCq.s hm fun h6 s6 L k6 r6 np=>⟨sm_keep (by decide) f2 k6,?_⟩;have hpos:=Nat.two_pow_pos k.height.toNat;refine seg_ixl r6.seg (x:=bx (L.getD 1 [])) (by decide) (gets_map (i:=1) (by have:=np.1;omega)) rfl fun l1 g1=>ld_go g1 ?_;rw[np.root,hh'];refine sadd_b (by simp only [YAQ,be_len,nodeL_len];omega) ?_;unfold LKey.m at hK;rw[hh'] at hK;exact hK h6 ((k1.n k15).n k6)
theorem hss_h {k:HKey} (hm:hssMay k=true):1≤k.height∧k.height≤5∧k.id.length=16∧k.seed.length=32∧0≤k.next∧k.next≤((2^(2*k.height.toNat):Nat):Int)∧2^(2*k.height.toNat)≤1024∧lmsMay ⟨k.ots,k.height,k.id,k.seed,0⟩=true:=by
 unfold hssMay at hm;simp only [YAs,decide_eq_true_eq] at hm;obtain ⟨⟨a,b⟩,c⟩:=hm;have a':=a;unfold lmsMay at a';simp only [YAs,decide_eq_true_eq] at a';obtain ⟨⟨⟨⟨⟨⟨a1,a2⟩,a3⟩,a4⟩,a5⟩,_⟩,_⟩:=a';refine ⟨a2,a3,a4,a5,b,by push_cast;exact c,?_,a⟩;have:2^(2*k.height.toNat)≤2^10:=YAo (by decide) (by omega);omega
theorem up_next {k:HKey} (hm:hssMay k=true):k.up.next=((k.next.toNat/2^k.height.toNat:Nat):Int)∧shrI k.next k.height=k.up.next:=by
 obtain ⟨a1,a2,_,_,a3,a4,_,_⟩:=hss_h hm;obtain ⟨n,hn⟩:∃n:Nat,k.next=n:=⟨k.next.toNat,by omega⟩;obtain ⟨m,hh⟩:∃n:Nat,k.height=n:=⟨k.height.toNat,by omega⟩;unfold HKey.up;dsimp only;rw[hn,hh,shrI_nat n m (by omega)];simp
theorem ZCo.s {k:HKey} {h:Heap} {K:LkK.Ty→Heap→Prop} (hm:hssMay k=true) (hK:∀h',Keep [] h h'→K (lkV k.up) h'):ZCo.C (hkV k) h K:=by
 obtain ⟨a1,a2,_,_,a3,a4,_,_⟩:=hss_h hm;apply ZCo.c;unfold ZCo.m;refine new_gen fun b h1 hb k1 eb hs1 =>?_;refine new_gen fun b2 h2 hb2 k2 eb2 hs2 =>?_;have eb:h2[b]? = some (vobj t_api_HssKey LkK (hkV k)):=k2.g eb;obtain ⟨f0,f1,f2,f3,f4⟩:=lk_f eb;refine ld_go f0 (ld_go f1 (ld_go f2 (ld_go f3 (ld_go f4 (ld_go f1 ⟨show (0:Int)≤k.height by omega,?_⟩)))));refine st_to eb2 fun h3 k3 e3 hs3=>ld_go (sm_all e3) ?_;show K (k.ots,(k.height,(bx k.id,(bx k.seed,(shrI k.next k.height,()))))) h3;rw[(up_next hm).2];exact hK h3 ((k1.n k2).new k3 (by have:=k1.1;simp;omega))
theorem ZBc.s {k:HKey} {h:Heap} {K:ByteArray→Int→Heap→Prop} (hm:hssMay k=true) (hK:∀h',Keep [] h h'→K (bx (hssPub k)) 0 h'):ZBc.C (hkV k) h K:=by
 obtain ⟨_,_,_,_,_,_,_,hl⟩:=hss_h hm;apply ZBc.c;unfold ZBc.m;refine new_gen fun b h1 hb k1 eb hs1 =>?_;have eb:h1[b]? = some (vobj t_api_HssKey LkK (hkV k)):=eb;refine ld_go (sm_all eb) ?_;refine ZCT.s fun h2 k2 =>?_;rw[hm,if_neg (by simp)];refine ld_go (sm_all (k2.g eb)) ?_;refine ZCo.s hm fun h3 k3 =>?_;refine new_st_gen fun b2 h5 hb2 k5 e5 hs5 =>?_;refine st_fld (x':=lkV ⟨k.ots,k.height,k.id,k.seed,0⟩) e5 (by decide) rfl ?_;have k15:Keep [] h1 h5:=(k2.n k3).n k5;have z1:=k15.1;have e6:(h5.setIfInBounds b2 (vobj t_api_LmsKey LkK (lkV ⟨k.ots,k.height,k.id,k.seed,0⟩)))[b2]? = some (vobj t_api_LmsKey LkK (lkV ⟨k.ots,k.height,k.id,k.seed,0⟩)):=get_set e5;have k56:Keep [b2] h5 (h5.setIfInBounds b2 (vobj t_api_LmsKey LkK (lkV ⟨k.ots,k.height,k.id,k.seed,0⟩))):=keep_set;refine ld_go (sm_all e6) ?_;refine ZBW.s hl fun h7 k7 =>?_;refine ZAB.s (x:=2) (n:=4) (by decide) (by decide) (by decide) fun h8 k8 =>?_;have pl:=lmsPub_len hl;refine sadd_b (by rw[be_len,pl];decide) ?_;refine hK h8 ((((k1.n k15).new k56 ?_).n k7).n k8);have:=k1.1;have:=(k2.n k3).1;simp;omega
theorem ZCC.s {s:Slc} {xs:List Int} {h:Heap} {K:Bool→Heap→Prop} (g:Seg .i s xs h) (hl:xs.length≤9223372036854775806) (hK:K (vecMay xs) h):ZCC.C s h K:=by
 apply ZCC.c;unfold ZCC.m;have gl:=g.len;refine lp_go (fun (y:Int×Unit) (h1:Heap)=>h1=h∧∃t:Nat,y.1=t∧t≤xs.length∧(xs.take t).all vecOk=true) (fun (y:Int×Unit) _=>xs.length-y.1.toNat) ?_ ?_
 ·exact ⟨rfl,0,rfl,YAr _,by simp⟩
 rintro ⟨(i:Int),_⟩ h1 ⟨rfl,t,e,ht,hall⟩;dsimp only at e ⊢;subst e;by_cases hlt:t<xs.length
 ·rw[if_pos (show decide ((t:Int)<(s.len:Int))=true from dT (by omega))];have hxe:xs.take (t+1)=xs.take t++[xs[t]]:=YAg hlt;refine jn_in (fun _ h'=>h'=h1∧vecOk xs[t]=true) ?_ ?_
  ·refine jn_at (!vecOk xs[t],()) h1 ?_ ?_
   ·refine seg_ix g (x:=xs[t]) (by omega) (by simp[hlt]) rfl ?_;unfold vecOk;by_cases h0:xs[t]<0
    ·rw[if_pos (dT h0)];exact ⟨by rw[dF (show ¬0≤xs[t] by omega)];rfl,rfl⟩
    ·rw[if_neg (by simpa using h0),dT (show 0≤xs[t] by omega)];refine seg_ix g (x:=xs[t]) (by omega) (by simp[hlt]) rfl ⟨?_,rfl⟩;by_cases h2:xs[t]>256
     ·rw[dT h2,dF (show ¬xs[t]≤256 by omega)];rfl
     ·rw[dF h2,dT (show xs[t]≤256 by omega)];rfl
   ·by_cases hv:vecOk xs[t]=true
    ·rw[hv,if_neg (by simp)];exact ⟨rfl,rfl⟩
    ·replace hv:vecOk xs[t]=false:=by simpa using hv
     rw[hv,if_pos (by rfl)]
     have:vecMay xs=false:=by
      unfold vecMay
      have:xs.all vecOk=false:=by
       rw[List.all_eq_false];exact ⟨xs[t],YAP _,by rw[hv];simp⟩
      rw[this];rfl
     rw[this] at hK;exact hK
  ·rintro _ h2 ⟨rfl,hv⟩;have hw:w64 ((t:Int)+1)=((t+1:Nat):Int):=w6 (by omega);rw[hw];exact ⟨⟨rfl,t+1,rfl,by omega,by rw[hxe,List.all_append,hall];simp[hv]⟩,by simp;omega⟩
 ·rw[if_neg (show ¬decide ((t:Int)<(s.len:Int))=true from dn (by omega))];have:t=xs.length:=by omega
  rw[this,YAf (YAl _)] at hall;refine jn_at (vecMay xs,()) h1 ?_ hK;unfold vecMay;rw[hall,gl];by_cases h1':1≤xs.length
  ·rw[if_pos (show decide ((xs.length:Int)≥1)=true from dT (by omega)),dT h1'];refine ⟨?_,rfl⟩;have:decide ((xs.length:Int)≤16)=decide (xs.length≤16):=decide_eq_decide.2 (by omega);rw[this];rfl
  ·rw[if_neg (show ¬decide ((xs.length:Int)≥1)=true from dn (by omega)),dF h1'];exact ⟨rfl,rfl⟩
theorem ett_of {e:Ett} (h:ettMay e=true):0≤e.user∧e.user<16∧1≤e.seq∧e.seq≤256∧(∀x∈e.vec,0≤x∧x≤256)∧1≤e.vec.length∧e.vec.length≤16∧1≤e.tables.length∧e.tables.length≤24:=by
 unfold ettMay vecMay at h;simp only [YAs,decide_eq_true_eq,YAA] at h;obtain ⟨a,b,c,d,⟨f,g,i⟩,j,k⟩:=h;refine ⟨a,b,c,d,fun x hx =>?_,g,i,j,k⟩;have:=f x hx;unfold vecOk at this;simpa using this
theorem flat2_len:∀ {l:List Int},(l.flatMap fun x=>be x.toNat 2).length=2*l.length
 | []=>rfl
 | a::r=>by rw[YAL,YAQ,be_len,flat2_len,YAR];omega
theorem flat32_len:∀ {l:List HVec},(l.flatMap fun z=>z.toList).length=32*l.length
 | []=>rfl
 | a :: r => by
   rw[YAL,YAQ,flat32_len,YAR];simp;omega
theorem ZCp.s {v:EtK.Ty} {e:Ett} {h:Heap} {K:ByteArray→Int→Heap→Prop} (a:EtAt h v e) (hl:e.vec.length≤9223372036854775806)
 (hK:∀h',Keep [] h h'→K (if ettMay e=true then bx (bodyE e) else bx []) (if ettMay e=true then 0 else 1900) h'):ZCp.C v h K:=by
 apply ZCp.c;unfold ZCp.m;refine new_gen fun b h1 hb k1 e1 hs1 =>?_;have e1:h1[b]? = some (vobj t_api_Entry EtK v):=e1;have a1:=a.keep k1;obtain ⟨f0,f1,f2,f3,f35,f36⟩:=et_f e1;have tl:=a1.t.len;refine jn_in (fun y h'=>Keep [] h1 h'∧y=(!ettMay e,())) ?_ ?_
 ·rw[a.u] at f0;rw[a.q] at f1;unfold ettMay;refine ld_go f0 ?_;by_cases c0:e.user<0
  ·rw[if_pos (dT c0)];exact ⟨Keep.rfl,by simp[show ¬0≤e.user by omega]⟩
  rw[if_neg (by simpa using c0)];refine ld_go f0 ?_;by_cases c1:e.user≥16
  ·rw[if_pos (dT c1)];exact ⟨Keep.rfl,by simp[show ¬e.user<16 by omega]⟩
  rw[if_neg (by simpa using c1)];refine ld_go f1 ?_;by_cases c2:e.seq<1
  ·rw[if_pos (dT c2)];exact ⟨Keep.rfl,by simp[show ¬1≤e.seq by omega]⟩
  rw[if_neg (by simpa using c2)];refine ld_go f1 ?_;by_cases c3:e.seq>256
  ·rw[if_pos (dT c3)];exact ⟨Keep.rfl,by simp[show ¬e.seq≤256 by omega]⟩
  rw[if_neg (by simpa using c3)];refine ld_go f2 ?_;refine ZCC.s a1.w hl ?_
  cases hv:vecMay e.vec with
  | false=>rw[if_pos (by rfl)];exact ⟨Keep.rfl,by simp⟩
  | true =>
    rw[if_neg (by simp)];refine ld_go f35 ?_;rw[tl];by_cases c4:e.tables.length<1
    ·rw[if_pos (dT (by omega))];exact ⟨Keep.rfl,by simp[show ¬1≤e.tables.length by omega]⟩
    rw[if_neg (by simp;omega)];refine ld_go f35 ⟨Keep.rfl,?_⟩;rw[tl];by_cases c5:e.tables.length≤24
    ·rw[dF (show ¬((e.tables.length:Int)>24) by omega)];simp[c5,show 0≤e.user by omega,show e.user<16 by omega,show 1≤e.seq by omega,show e.seq≤256 by omega,show 1≤e.tables.length by omega]
    ·rw[dT (show ((e.tables.length:Int)>24) by omega)];simp[c5]
 rintro _ h2 ⟨k2,rfl⟩;dsimp only
 cases hm:ettMay e with
 | false =>
   rw[if_pos (by rfl)];rw[hm] at hK;exact hK h2 (k1.n k2)
 | true =>
   rw[if_neg (by simp)];rw[hm] at hK;obtain ⟨u0,u1,q0,q1,vx,v1,v16,t1,t24⟩:=ett_of hm;obtain ⟨f0,f1,f2,f3,f35,f36⟩:=et_f (k2.g e1);refine ld_go f0 (ld_go f1 (ld_go f2 ?_));have hun:((e.user.toNat:Nat):Int)=e.user:=YAk u0;have hqn:((e.seq.toNat:Nat):Int)=e.seq:=YAk (by omega);rw[a.u,a.q] ;have hK':=fun h' k=>hK h' k;simp only [if_true] at hK';unfold bodyE at hK';rw[←hun];refine ZAB.s (n:=1) (by decide) (by decide) (by omega) fun h4 k4=>⟨sm_keep (by decide) f2 k4,by rw[←a.q];exact sm_keep (by decide) f1 k4,?_⟩;show sadd (bx [65,69]) _ _;refine sadd_b (by rw[be_len];decide) ?_;rw[←hqn];refine ZAB.s (n:=2) (by decide) (by decide) (by omega) fun h5 k5=>⟨sm_keep (by decide) f2 (k4.n k5),?_⟩;refine sadd_b (by simp[be_len]) ?_;rw[a.w.len];refine ZAB.s (n:=1) (by decide) (by decide) (by omega) fun h6 k6 =>?_;refine sadd_b (by simp[be_len]) ?_;have k16:Keep [] h1 h6:=((k2.n k4).n k5).n k6;rw[hun,hqn] at *;generalize hP:[65,69]++be e.user.toNat 1++be e.seq.toNat 2++be e.vec.length 1=P at *;have hPl:P.length=6:=by rw[←hP];simp[be_len]
   have wl:=a.w.len;refine lp_go (fun (y:ByteArray×Int×Unit) (h7:Heap)=>∃t:Nat,y.2.1=t∧t≤e.vec.length∧Keep [] h1 h7∧y.1=bx (P++(e.vec.take t).flatMap fun x=>be x.toNat 2)) (fun (y:ByteArray×Int×Unit) _=>e.vec.length-y.2.1.toNat) ?_ ?_
   ·exact ⟨0,rfl,YAr _,k16,by simp⟩
   rintro ⟨(ac:ByteArray),(ii:Int),_⟩ h7 ⟨t,et,ht,k7,ea⟩;dsimp only at et ea ⊢;subst et;subst ea;obtain ⟨f0,f1,f2,f3,f35,f36⟩:=et_f (k7.g e1);refine ld_go f2 ?_;have hfl:(((e.vec.take t).flatMap fun x=>be x.toNat 2)).length≤32:=by rw[flat2_len,YAV];omega
   by_cases hlt:t<e.vec.length
   ·rw[if_pos (show decide ((t:Int)<(v.2.2.1.len:Int))=true from dT (by omega))];refine ld_go f2 ?_;refine seg_ix (a1.keep k7).w (x:=e.vec[t]) (by omega) (by simp[hlt]) rfl ?_;have hx:=vx _ (YAP hlt);have hxe:e.vec.take (t+1)=e.vec.take t++[e.vec[t]]:=YAg hlt;generalize e.vec[t]=x at *;have hxn:((x.toNat:Nat):Int)=x:=YAk hx.1;rw[←hxn];refine ZAB.s (n:=2) (by decide) (by decide) (by omega) fun h8 k8 =>?_;refine sadd_b (by rw[YAQ,be_len];omega) ?_;have hw:w64 ((t:Int)+1)=((t+1:Nat):Int):=w6 (by omega);rw[hw];refine ⟨⟨t+1,rfl,by omega,k7.n k8,?_⟩,by simp;omega⟩;rw[hxe,YAK,←YAB];simp
   ·rw[if_neg (show ¬decide ((t:Int)<(v.2.2.1.len:Int))=true from dn (by omega))];obtain rfl:t=e.vec.length:=by omega
    rw[YAe] at *;refine ld_go f3 (ld_go f35 ?_);rw[a.r];refine ZAy.s fun h9 k9=>⟨sm_keep (by decide) f35 k9,?_⟩;have rl:(Vector.toList e.root).length=32:=by simp
    refine sadd_b (by rw[YAQ,rl];omega) ?_;rw[tl];refine ZAB.s (n:=1) (by decide) (by decide) (by omega) fun h10 k10 =>?_;refine sadd_b (by rw[YAQ,YAQ,rl,be_len];omega) ?_;have k1_10:=(k7.n k9).n k10;generalize hQ:(P++e.vec.flatMap fun x=>be x.toNat 2)++Vector.toList e.root++be e.tables.length 1=Q at *;have hQl:Q.length≤100:=by rw[←hQ];simp only [YAQ,rl,be_len];omega
    refine lp_go (fun (y:ByteArray×Int×Unit) (h11:Heap)=>∃t:Nat,y.2.1=t∧t≤e.tables.length∧Keep [] h1 h11∧y.1=bx (Q++(e.tables.take t).flatMap fun z=>z.toList)) (fun (y:ByteArray×Int×Unit) _=>e.tables.length-y.2.1.toNat) ?_ ?_
    ·exact ⟨0,rfl,YAr _,k1_10,by simp⟩
    rintro ⟨(ac:ByteArray),(ii:Int),_⟩ h11 ⟨t,et,ht,k11,ea⟩;dsimp only at et ea ⊢;subst et;subst ea;obtain ⟨f0,f1,f2,f3,f35,f36⟩:=et_f (k11.g e1);refine ld_go f35 ?_;have hfl2:(((e.tables.take t).flatMap fun z=>z.toList)).length≤768:=by rw[flat32_len,YAV];omega
    by_cases hlt:t<e.tables.length
    ·rw[if_pos (show decide ((t:Int)<(v.2.2.2.2.1.len:Int))=true from dT (by omega))];refine ld_go f35 ?_;refine seg_ix (a1.keep k11).t (x:=e.tables[t]) (by omega) (by simp[hlt]) rfl ?_;have hxe:e.tables.take (t+1)=e.tables.take t++[e.tables[t]]:=YAg hlt;generalize e.tables[t]=x at *;refine ZAy.s fun h12 k12 =>?_;have xl:(Vector.toList x).length=32:=by simp
     refine sadd_b (by rw[YAQ,xl];omega) ?_;have hw:w64 ((t:Int)+1)=((t+1:Nat):Int):=w6 (by omega);rw[hw];refine ⟨⟨t+1,rfl,by omega,k11.n k12,?_⟩,by simp;omega⟩;rw[hxe,YAK,←YAB];simp
    ·rw[if_neg (show ¬decide ((t:Int)<(v.2.2.2.2.1.len:Int))=true from dn (by omega))];obtain rfl:t=e.tables.length:=by omega
     rw[YAe] at *;exact hK' h11 (k1.n k11)
def et0:EtK.Ty:=(0,(0,((⟨none,0,0⟩:Slc),(Vector.replicate 32 0,((⟨none,0,0⟩:Slc),((⟨#[]⟩:ByteArray),()))))))
section
variable {n0 c t:Nat} {h:Heap} {mv:MbK.Ty} {ps bs es:Slc} {evs:List EtK.Ty} {C:Cn}
end
theorem ZDA.s {h:Heap} {K:Option Pl→Heap→Prop} (hK:∀h',Keep [] h h'→TreeAt h.size h' h.size []→K (some ⟨h.size,0⟩) h'):ZDA.C h K:=by
 apply ZDA.c;unfold ZDA.m;refine new_go ?_;exact hK _ keep_push ⟨⟨⟨none,0,0⟩,[],get_push,.inl ⟨rfl,rfl⟩,rfl,by simp[own]⟩,YAl _⟩
structure Kys where
 m:Mb
 pubs:List By
def kysMay (k:Kys):Bool:=mbMay k.m&&(decide ((k.pubs.length:Int)=k.m.users)&&k.pubs.all fun s=>decide (s.length=60))
structure KeAt (h:Heap) (v:KeK.Ty) (k:Kys):Prop where
 m:MbAt h v.1 k.m
 p:Seg .s v.2.1 (k.pubs.map bx) h
theorem MbAt.keepU {h h':Heap} {v:MbK.Ty} {m:Mb} (a:MbAt h v m) (k:Keep [] h h'):MbAt h' v m:=by
 obtain ⟨u,gs,g,al⟩:=a;exact ⟨u,gs,g.keep (by decide) k,All2.mono (fun s us x=>⟨x.1.keep (by decide) k,x.2⟩) al⟩
theorem KeAt.keep {h h':Heap} {v:KeK.Ty} {y:Kys} (a:KeAt h v y) (k:Keep [] h h'):KeAt h' v y:=⟨a.m.keepU k,a.p.keep (by decide) k⟩
theorem keys_contains.s {s:Slc} {L:List By} {h:Heap} {K:Bool→Heap→Prop} (g:Seg .s s (L.map bx) h) (hl:L.length≤9223372036854775806) (hK:K (!(L.all fun s=>decide (s.length=60))) h):ZAN.C s (.func (.func ZBE.n) #[] #[]) h K:=by
 apply ZAN.c;unfold ZAN.m;apply ZAU.c;unfold ZAU.m;have gl:=g.len;rw[YAT] at gl;refine lp_go (fun (y:Int×Unit) (h1:Heap)=>h1=h∧∃t:Nat,y.1=t∧t≤L.length∧(L.take t).all (fun s=>decide (s.length=60))=true) (fun (y:Int×Unit) _=>L.length-y.1.toNat) ?_ ?_
 ·exact ⟨rfl,0,rfl,YAr _,by simp⟩
 rintro ⟨(i:Int),_⟩ h1 ⟨rfl,t,e,ht,hall⟩;dsimp only at e ⊢;subst e;by_cases hlt:t<L.length
 ·rw[if_pos (show decide ((t:Int)<(s.len:Int))=true from dT (by omega))];refine seg_ix g (x:=bx L[t]) (by omega) (by rw[YAj,YAO,YAN hlt];rfl) rfl ?_;refine callV_go (aa:=[Kd.s.val (bx L[t])]) (by rfl) ?_;show ZBE.C (bx L[t]) h1 _;apply ZBE.c;unfold ZBE.m;rw[bx_size];dsimp only;by_cases h60:L[t].length=60
  ·rw[if_neg (by rw[h60];decide)];have hw:w64 ((t:Int)+1)=((t+1:Nat):Int):=w6 (by omega);rw[hw];refine ⟨⟨rfl,t+1,rfl,by omega,?_⟩,by simp;omega⟩;rw[YAg hlt,List.all_append,hall];simp[h60]
  ·rw[if_pos (by simp;omega)]
   have:L.all (fun s=>decide (s.length=60))=false:=by
    rw[List.all_eq_false];exact ⟨L[t],YAP _,by simpa using h60⟩
   rw[this] at hK;rw[dT (show (t:Int)≥0 by omega)];exact hK
 ·rw[if_neg (show ¬decide ((t:Int)<(s.len:Int))=true from dn (by omega))];have:t=L.length:=by omega
  rw[this,YAf (YAl _)] at hall;rw[hall] at hK;exact hK
theorem ke_f {h:Heap} {b:Nat} {v:KeK.Ty} (e:h[b]? = some (vobj t_api_Keys KeK v)):sm MbK ((Pl.mk b 0).fld 0) v.1 h∧sm .sl ((Pl.mk b 0).fld 2) v.2.1 h∧sm .i (((Pl.mk b 0).fld 0).fld 0) v.1.1 h:=
 ⟨sm_sub (sm_all e) (by decide) rfl,sm_fld (n:=2) (k' := .sl) e rfl (by decide),sm_fld (n:=0) (k' := .i) e rfl (by decide)⟩
theorem ZBy.s {v:KeK.Ty} {k:Kys} {h:Heap} {K:Bool→Heap→Prop} (a:KeAt h v k) (hl:k.pubs.length≤9223372036854775806) (hK:∀h',Keep [] h h'→K (kysMay k) h'):ZBy.C v h K:=by
 apply ZBy.c;unfold ZBy.m;have pl:=a.p.len;rw[YAT] at pl;unfold kysMay at hK;refine new_gen fun b1 h1 hb1 k1 e1 hs1 =>?_;have e1:h1[b1]? = some (vobj t_api_Keys KeK v):=e1;refine jn_in (fun y h'=>Keep [] h1 h'∧y=(!(mbMay k.m&&decide ((k.pubs.length:Int)=k.m.users)),())) ?_ ?_
 ·refine ld_go (ke_f e1).1 ?_;refine ZBr.s (a.m.keepU k1) fun h3 k3 =>?_
  cases hm:mbMay k.m with
  | false=>rw[if_pos (by rfl)];exact ⟨k3,rfl⟩
  | true =>
    rw[if_neg (by simp)];have e3:=k3.g e1;refine ld_go (ke_f e3).2.1 (ld_go (ke_f e3).2.2 ⟨k3,?_⟩);rw[pl,a.m.u,YAu]
 rintro _ h2 ⟨k2,rfl⟩
 cases hc:(mbMay k.m&&decide ((k.pubs.length:Int)=k.m.users)) with
 | false =>
   rw[if_pos (by rfl)];have:=hK h2 (k1.n k2);rw[←Bool.and_assoc,hc] at this;exact this
 | true =>
   rw[if_neg (by simp)];refine ld_go (ke_f (k2.g e1)).2.1 ?_;refine keys_contains.s (a.keep (k1.n k2)).p hl ?_;have:=hK h2 (k1.n k2);rw[←Bool.and_assoc,hc,YAu] at this;rw[Bool.not_not];exact this
theorem itab_inj {xs ys:List Ino} (hx:itabMay xs=true) (hy:itabMay ys=true) (h:bx (itabBytes xs)=bx (itabBytes ys)):xs=ys:=by
 have h:=bx_inj.1 h;obtain ⟨h1,hl1⟩:=itab_ok hx;obtain ⟨h2,hl2⟩:=itab_ok hy
 have hn':xs.length=ys.length:=by
  have:=congrArg List.length h;unfold itabBytes at this;simp only [YAQ,be_len,itabFlat] at this;omega
 have hf:xs.flatMap inoBytes=ys.flatMap inoBytes:=by
  have:=congrArg (List.drop 2) h;unfold itabBytes at this;rw[YAH (by simp[be_len]),YAH (by simp[be_len])] at this;exact this
 have a:=rdJ_all xs [] [] h1;have b:=rdJ_all ys [] [] h2;rw[hf,hn',b] at a;have:=congrArg Prod.fst a;simp only [YAa] at this;have:=congrArg (List.map vIno) this;rw[map_vV,map_vV] at this;exact this.symm
open Classical in
noncomputable def getD (s:ByteArray):List Ent×Int:=if h:∃es,dirMay es=true∧s=bx (putBytes es) then (h.choose,0) else ([],1300)
open Classical in
noncomputable def getI (s:ByteArray):List Ino×Int:=if h:∃xs,itabMay xs=true∧s=bx (itabBytes xs) then (h.choose,0) else ([],1400)
theorem getD_put {es:List Ent} (h:dirMay es=true):getD (bx (putBytes es))=(es,0):=by
 have hx:∃es',dirMay es'=true∧bx (putBytes es)=bx (putBytes es'):=⟨es,h,rfl⟩;unfold getD;rw[dif_pos hx];obtain ⟨h1,h2⟩:=hx.choose_spec;exact congrArg (fun z=>(z,(0:Int))) (put_inj h1 h h2.symm)
theorem getI_put {xs:List Ino} (h:itabMay xs=true):getI (bx (itabBytes xs))=(xs,0):=by
 have hx:∃es',itabMay es'=true∧bx (itabBytes xs)=bx (itabBytes es'):=⟨xs,h,rfl⟩;unfold getI;rw[dif_pos hx];obtain ⟨h1,h2⟩:=hx.choose_spec;exact congrArg (fun z=>(z,(0:Int))) (itab_inj h1 h h2.symm)
noncomputable def tableS (Kf:Kn) (L:Ldr) (x:HsV):List Ino×Ldr:=
 match Kf x with
 | none=>([],⟨once L.want x,L.bad⟩)
 | some s=>((getI s).1,⟨L.want,L.bad||decide ((getI s).2≠0)⟩)
noncomputable def ndS (Kf:Kn) (L:Ldr) (x:Ino):Nd×Ldr:=
 if x.kind=1 then
  match Kf x.root with
  | none=>(⟨x.num,x.kind,x.mode,x.links,⟨#[]⟩,[]⟩,⟨once L.want x.root,L.bad⟩)
  | some s=>(⟨x.num,x.kind,x.mode,x.links,⟨#[]⟩,(getD s).1⟩,⟨L.want,L.bad||decide ((getD s).2≠0)⟩)
 else (⟨x.num,x.kind,x.mode,x.links,(treeL Kf x.root x.size).1,[]⟩,⟨onceL L.want (treeL Kf x.root x.size).2.1,L.bad||decide ((treeL Kf x.root x.size).2.2=1200)⟩)
noncomputable def tablesS (Kf:Kn):Ldr→List HsV→List (List Ino)×Ldr
 | L,[]=>([],L)
 | L,x::r=>((tableS Kf L x).1::(tablesS Kf (tableS Kf L x).2 r).1,(tablesS Kf (tableS Kf L x).2 r).2)
noncomputable def rowS (Kf:Kn):Ldr→List Ino→Tab×Ldr
 | L,[]=>([],L)
 | L,x::r=>((ndS Kf L x).1::(rowS Kf (ndS Kf L x).2 r).1,(rowS Kf (ndS Kf L x).2 r).2)
noncomputable def rowsS (Kf:Kn):Ldr→List (List Ino)→Fs×Ldr
 | L,[]=>([],L)
 | L,x::r=>((rowS Kf L x).1::(rowsS Kf (rowS Kf L x).2 r).1,(rowsS Kf (rowS Kf L x).2 r).2)
theorem tablesS_cons {Kf:Kn} {L:Ldr} {x:HsV} {r:List HsV}:tablesS Kf L (x::r)=((tableS Kf L x).1::(tablesS Kf (tableS Kf L x).2 r).1,(tablesS Kf (tableS Kf L x).2 r).2):=rfl
theorem rowS_cons {Kf:Kn} {L:Ldr} {x:Ino} {r:List Ino}:rowS Kf L (x::r)=((ndS Kf L x).1::(rowS Kf (ndS Kf L x).2 r).1,(rowS Kf (ndS Kf L x).2 r).2):=rfl
theorem rowsS_cons {Kf:Kn} {L:Ldr} {x:List Ino} {r:List (List Ino)}:rowsS Kf L (x::r)=((rowS Kf L x).1::(rowsS Kf (rowS Kf L x).2 r).1,(rowsS Kf (rowS Kf L x).2 r).2):=rfl
noncomputable def loadS (Kf:Kn) (hs:List HsV):Fs×List HsV×Int:=
 if hs.length<1∨24<hs.length then ([],[],1500) else
 let a:=tablesS Kf ⟨[],false⟩ hs
 if a.2.err 1500 1501≠0 then ([],a.2.wants,a.2.err 1500 1501) else
 let b:=rowsS Kf a.2 a.1
 if b.2.err 1500 1501≠0 then ([],b.2.wants,b.2.err 1500 1501) else
 if stMay b.1=true then (b.1,[],0) else ([],[],1500)
def miss (K:Kn) (l:List HsV):List HsV:=l.filter fun h=>(K h).isNone
theorem miss_nil {K:Kn}:miss K []=[]:=rfl
theorem miss_cons_none {K:Kn} {x:HsV} {r:List HsV} (h:K x=none):miss K (x::r)=x::miss K r:=by unfold miss;rw[List.filter_cons,h];rfl
theorem miss_cons_some {K:Kn} {x:HsV} {r:List HsV} {d:ByteArray} (h:K x=some d):miss K (x::r)=miss K r:=by unfold miss;rw[List.filter_cons,h];rfl
theorem mem_miss {K:Kn} {l:List HsV} {x:HsV}:x∈miss K l↔x∈l∧K x=none:=by
 unfold miss;rw[List.mem_filter,Option.isNone_iff_eq_none]
theorem onceL_cons {α : Type} [DecidableEq α] {L xs:List α} {x : α}:onceL L (x::xs)=onceL (once L x) xs:=rfl
theorem onceL_ne {α : Type} [DecidableEq α] {L xs:List α}:onceL L xs=[]↔L=[]∧xs=[]:=by
 constructor
 ·intro h
  constructor
  ·rw[YAJ];intro a ha;have:a∈onceL L xs:=mem_onceL.2 (.inl ha);rw[h] at this;simp at this
  ·rw[YAJ];intro a ha;have:a∈onceL L xs:=mem_onceL.2 (.inr ha);rw[h] at this;simp at this
 ·rintro ⟨rfl,rfl⟩;rfl
theorem onceL_once {α : Type} [DecidableEq α] {L M:List α} {x : α}:onceL L (once M x)=once (onceL L M) x:=by
 by_cases h:x∈M
 ·have e:once M x=M:=by unfold once;rw[if_pos h]
  have e2:once (onceL L M) x=onceL L M:=by unfold once;rw[if_pos (mem_onceL.2 (.inr h))]
  rw[e,e2]
 ·have e:once M x=M++[x]:=by unfold once;rw[if_neg h]
  rw[e,onceL_app,onceL_one]
theorem onceL_assoc {α : Type} [DecidableEq α]:∀ {W L M:List α},onceL L (onceL M W)=onceL (onceL L M) W
 | [],L,M=>rfl
 | x :: r, L, M => by
   rw[onceL_cons,onceL_cons,onceL_assoc (W:=r),onceL_once]
theorem onceL_onceL {α : Type} [DecidableEq α] {W L:List α}:onceL L (onceL [] W)=onceL L W:=by rw[onceL_assoc];rfl
def KrO (K:Kn) (o:ByteArray):Prop:=K (hashS o)=some o∨K (hashS o)=none
theorem hsIn_flat:∀ {hs:List HsV},hsIn (hs.flatMap (·.toList))=hs
 | []=>rfl
 | h :: r => by
   have ih:=hsIn_flat (hs:=r);have hl:h.toList.length=32:=by simp
   unfold hsIn at ih ⊢;rw[YAL,YAQ,hl];have e:(32+(r.flatMap (·.toList)).length)/32=(r.flatMap (·.toList)).length/32+1:=by omega
   rw[e,List.range_succ_eq_map,YAW,List.map_map]
   congr 1
   ·rw[Nat.zero_mul,YAI,YAd hl,hv_toList]
   ·refine Eq.trans ?_ ih;apply List.map_congr_left;intro i hi;show hv (((h.toList++r.flatMap (·.toList)).drop ((i+1)*32)).take 32)=_;have:(i+1)*32=h.toList.length+i*32:=by rw[hl];omega
    rw[this,←YAE,YAH rfl]
theorem node_row {c:UInt8} {hs:List HsV}:isRow c hs.length (nodeS c hs)=true∧hsIn ((nodeS c hs).data.toList.drop 2)=hs:=by
 unfold isRow;rw[YAs,decide_eq_true_eq,decide_eq_true_eq,nodeS_size];unfold nodeS;rw[bx_data2];refine ⟨⟨by omega,rfl⟩,?_⟩;show hsIn (hs.flatMap (·.toList))=hs;exact hsIn_flat
theorem named_eq {K:Kn} {c:UInt8} {L:Ldr} {hs:List HsV} {n:Nat} (hn:n=hs.length) (hr:KrO K (nodeS c hs)):namedS K c L (hashS (nodeS c hs)) n=match K (hashS (nodeS c hs)) with | none=>([],⟨once L.want (hashS (nodeS c hs)),L.bad⟩) | some _=>(hs,L):=by
 subst hn;unfold namedS;rcases hr with h | h
 ·rw[h];dsimp only;rw[if_pos node_row.1,node_row.2]
 ·rw[h]
theorem inners_eq {K:Kn} {N:Nat} {B:List HsV} (hN:B.length=N) (hr:∀c∈chunk 8 B,KrO K (nodeS 73 c)):∀(m i:Nat) (L:Ldr),i+m=(chunk 8 B).length →
 (innersS K N L i (((chunk 8 B).drop i).map fun c=>hashS (nodeS 73 c))).2=⟨onceL L.want (miss K (((chunk 8 B).drop i).map fun c=>hashS (nodeS 73 c))),L.bad⟩ ∧
 (miss K (((chunk 8 B).drop i).map fun c=>hashS (nodeS 73 c))=[]→(innersS K N L i (((chunk 8 B).drop i).map fun c=>hashS (nodeS 73 c))).1=B.drop (i*8))
 | 0, i, L, hi => by
   have hcl:=chunk_len (n:=8) (xs:=B);rw[YAG (by omega)];refine ⟨rfl,fun _ =>?_⟩;rw[YAG (by omega)]
   rfl
 | m + 1, i, L, hi => by
   have hcl:=chunk_len (n:=8) (xs:=B);have hlt:i<(chunk 8 B).length:=by omega
   have hB:=Nat.div_mul_le_self (B.length+8-1) 8;rw[YAF hlt,YAW,innersS_cons];have hc:=hr _ (YAP hlt);have hca:(chunk 8 B)[i]=(B.drop (i*8)).take 8:=chunk_at hlt;have hcn:min 8 (N-i*8)=((chunk 8 B)[i]).length:=by rw[hca,YAV,YAS,hN]
   rw[named_eq hcn hc]
   cases hk:K (hashS (nodeS 73 (chunk 8 B)[i])) with
   | none =>
     dsimp only;obtain ⟨h1,h2⟩:=inners_eq hN hr m (i+1) ⟨once L.want (hashS (nodeS 73 (chunk 8 B)[i])),L.bad⟩ (by omega);rw[miss_cons_none hk,h1,onceL_cons];exact ⟨rfl,fun h=>by simp at h⟩
   | some d =>
     dsimp only;obtain ⟨h1,h2⟩:=inners_eq hN hr m (i+1) L (by omega);rw[miss_cons_some hk,h1];refine ⟨rfl,fun h =>?_⟩;rw[h2 h,hca];have:B.drop ((i+1)*8)=(B.drop (i*8)).drop 8:=by rw[YAE,Nat.add_mul,Nat.one_mul]
     rw[this,YAc]
theorem leaf_is {c:List UInt8}:isLeaf c.length (leafS c)=true∧(leafS c).data.toList.drop 1=c:=by
 unfold isLeaf;rw[YAs,decide_eq_true_eq,decide_eq_true_eq,leafS_size];unfold leafS;rw[bx_data2];exact ⟨⟨rfl,rfl⟩,rfl⟩
theorem leaves_eq {K:Kn} {D:List UInt8} (hr:∀c∈chunk 64 D,KrO K (leafS c)):∀(m i:Nat) (L:Ldr),i+m=(chunk 64 D).length →
 (leavesS K D.length L i (((chunk 64 D).drop i).map fun c=>hashS (leafS c))).2=⟨onceL L.want (miss K (((chunk 64 D).drop i).map fun c=>hashS (leafS c))),L.bad⟩ ∧
 (miss K (((chunk 64 D).drop i).map fun c=>hashS (leafS c))=[]→(leavesS K D.length L i (((chunk 64 D).drop i).map fun c=>hashS (leafS c))).1=D.drop (i*64))
 | 0, i, L, hi => by
   have hcl:=chunk_len (n:=64) (xs:=D);rw[YAG (by omega)];refine ⟨rfl,fun _ =>?_⟩;rw[YAG (by omega)]
   rfl
 | m + 1, i, L, hi => by
   have hcl:=chunk_len (n:=64) (xs:=D);have hlt:i<(chunk 64 D).length:=by omega
   have hB:=Nat.div_mul_le_self (D.length+64-1) 64;rw[YAF hlt,YAW,leavesS_cons];have hc:=hr _ (YAP hlt);have hca:(chunk 64 D)[i]=(D.drop (i*64)).take 64:=chunk_at hlt;have hcn:min 64 (D.length-i*64)=((chunk 64 D)[i]).length:=by rw[hca,YAV,YAS]
   rw[hcn]
   cases hk:K (hashS (leafS (chunk 64 D)[i])) with
   | none =>
     dsimp only;obtain ⟨h1,h2⟩:=leaves_eq hr m (i+1) ⟨once L.want (hashS (leafS (chunk 64 D)[i])),L.bad⟩ (by omega);rw[miss_cons_none hk,h1,onceL_cons];exact ⟨rfl,fun h=>by simp at h⟩
   | some d =>
     have hd:d=leafS (chunk 64 D)[i]:=by
      rcases hc with h | h
      ·rw[h] at hk;exact (Option.some.inj hk).symm
      ·rw[h] at hk;simp at hk
     subst hd;dsimp only;rw[if_pos leaf_is.1,leaf_is.2];obtain ⟨h1,h2⟩:=leaves_eq hr m (i+1) L (by omega);rw[miss_cons_some hk];dsimp only;rw[h1];refine ⟨rfl,fun h =>?_⟩;rw[h2 h,hca];have:D.drop ((i+1)*64)=(D.drop (i*64)).drop 64:=by rw[YAE,Nat.add_mul,Nat.one_mul]
     rw[this,YAc]
def treeW (K:Kn) (d:ByteArray):List HsV:=
 match K (hashS (treeR d)) with
 | none=>[hashS (treeR d)]
 | some _=>if miss K ((treeI d).map hashS)≠[] then miss K ((treeI d).map hashS) else miss K ((treeB d).map hashS)
theorem tree_core {K:Kn} {D:List UInt8} {bh ih:List HsV} (hD:D.length≤4096) (hbh:((chunk 64 D).map fun c=>hashS (leafS c))=bh) (hih:((chunk 8 bh).map fun c=>hashS (nodeS 73 c))=ih)
 (hB:∀c∈chunk 64 D,KrO K (leafS c)) (hI:∀c∈chunk 8 bh,KrO K (nodeS 73 c)) (hR:KrO K (nodeS 82 ih)) (W:List HsV)
 (hW:W=match K (hashS (nodeS 82 ih)) with | none=>[hashS (nodeS 82 ih)] | some _=>if miss K ih≠[] then miss K ih else miss K bh) :
 treeL K (hashS (nodeS 82 ih)) D.length=if W=[] then (bx D,[],0) else (⟨#[]⟩,onceL [] W,1201):=by
 have lB:bh.length=(D.length+63)/64:=by rw[←hbh,YAT,chunk_len];rfl
 have lI:ih.length=(bh.length+7)/8:=by rw[←hih,YAT,chunk_len];rfl
 unfold treeL;rw[if_neg (by omega)];simp only [YAj];rw[←lB,←lI];have n1:=named_eq (K:=K) (c:=82) (L:=⟨[],false⟩) (hs:=ih) rfl hR;rw[n1]
 cases hk:K (hashS (nodeS 82 ih)) with
 | none =>
   rw[hk] at hW;dsimp only at hW ⊢;subst hW;rw[if_neg (List.cons_ne_nil _ _)]
   rfl
 | some r =>
   rw[hk] at hW;dsimp only at hW ⊢;have e0:(Ldr.mk [] false).err 1200 1201=0:=rfl;rw[if_neg (by rw[e0];simp)];obtain ⟨i1,i2⟩:=inners_eq (K:=K) (B:=bh) rfl hI (chunk 8 bh).length 0 ⟨[],false⟩ (YAq _);rw[YAI,hih] at i1 i2;rw[i1];by_cases hm:miss K ih=[]
   ·have e1:(Ldr.mk (onceL [] (miss K ih)) false).err 1200 1201=0:=by rw[hm];rfl
    rw[if_neg (by rw[e1];simp),i2 hm,Nat.zero_mul,YAI,hm];obtain ⟨b1,b2⟩:=leaves_eq hB (chunk 64 D).length 0 ⟨onceL [] [],false⟩ (YAq _);rw[YAI,hbh] at b1 b2;rw[b1];rw[if_neg (by simp[hm])] at hW;subst hW;by_cases hm2:miss K bh=[]
    ·rw[if_pos hm2];have e2:(Ldr.mk (onceL (onceL [] []) (miss K bh)) false).err 1200 1201=0:=by rw[hm2];rfl
     rw[if_neg (by rw[e2];simp),b2 hm2,Nat.zero_mul,YAI]
    ·rw[if_neg hm2];have hne:onceL (onceL [] []) (miss K bh)≠[]:=fun h=>hm2 (onceL_ne.1 h).2
     have e2:(Ldr.mk (onceL (onceL [] []) (miss K bh)) false).err 1200 1201=1201:=by
      unfold Ldr.err;simp[hne]
     rw[if_pos (by rw[e2];simp),e2]
     rfl
   ·have hne:onceL [] (miss K ih)≠[]:=fun h=>hm (onceL_ne.1 h).2
    have e1:(Ldr.mk (onceL [] (miss K ih)) false).err 1200 1201=1201:=by
     unfold Ldr.err;simp[hne]
    rw[if_pos hm] at hW;subst hW;rw[if_pos (by rw[e1];simp),if_neg hm,e1]
    rfl
theorem treeL_eq {K:Kn} {d:ByteArray} (hd:d.size≤4096) (hr:∀o∈treeB d++treeI d++[treeR d],KrO K o) :
 treeL K (hashS (treeR d)) d.size=if treeW K d=[] then (d,[],0) else (⟨#[]⟩,onceL [] (treeW K d),1201):=by
 have hR:=hr (treeR d) (by simp)
 have hI:∀c∈chunk 8 ((treeB d).map hashS),KrO K (nodeS 73 c):=fun c hc=>hr _ (by
  simp only [YAX]
  left;right
  unfold treeI;exact YAY hc)
 have hB:∀c∈chunk 64 d.data.toList,KrO K (leafS c):=fun c hc=>hr _ (by
  simp only [YAX]
  left;left
  unfold treeB;exact YAY hc)
 have:=tree_core (K:=K) (D:=d.data.toList) (bh:=(treeB d).map hashS) (ih:=(treeI d).map hashS) hd (by unfold treeB;rw[List.map_map];exact Eq.refl _) (by unfold treeI;rw[List.map_map];exact Eq.refl _) hB hI hR (treeW K d) (by unfold treeW;exact Eq.refl _);rw[bx_list] at this;exact this
def ndW (K:Kn) (x:Nd):List HsV:=if x.kind=1 then miss K [ndRoot x] else treeW K x.data
def ndAll (x:Nd):List ByteArray:=if x.kind=1 then [bx (putBytes x.ents)] else treeB x.data++treeI x.data++[treeR x.data]
def allO (X:Fs):List ByteArray:=X.flatMap fun t=>t.flatMap ndAll++[tabText t]
theorem ndS_eq {K:Kn} {L:Ldr} {x:Nd} (hx:ndMay x=true) (hr:∀o∈ndAll x,KrO K o):(ndS K L (inoOf x)).2=⟨onceL L.want (ndW K x),L.bad⟩∧(ndW K x=[]→(ndS K L (inoOf x)).1=x):=by
 obtain ⟨_,_,hk0,_,_,_,h1,h2⟩:=nd_ok hx;unfold ndS ndW;by_cases hk:x.kind=1
 ·have hk':(inoOf x).kind=1:=hk
  have hro:(inoOf x).root=hashS (bx (putBytes x.ents)):=by
   show ndRoot x=_;unfold ndRoot;rw[if_pos hk]
  have hro2:ndRoot x=hashS (bx (putBytes x.ents)):=hro;obtain ⟨hd,he⟩:=h1 hk;rw[if_pos hk',if_pos hk,hro,hro2];have hr1:=hr (bx (putBytes x.ents)) (by unfold ndAll;rw[if_pos hk];simp);rcases hr1 with h | h
  ·rw[h,miss_cons_some h,miss_nil];dsimp only;rw[getD_put he];refine ⟨by simp[onceL_nil],fun _ =>?_⟩;obtain ⟨n,k,m,l,dd,es⟩:=x;dsimp only at hd;subst hd
   rfl
  ·rw[h,miss_cons_none h,miss_nil];exact ⟨rfl,fun h=>by simp at h⟩
 ·have hk':¬(inoOf x).kind=1:=hk
  have hro:(inoOf x).root=hashS (treeR x.data):=by
   show ndRoot x=_;unfold ndRoot;rw[if_neg hk]
  obtain ⟨hz,he⟩:=h2 hk;rw[if_neg hk',if_neg hk,hro];have hr1:∀o∈treeB x.data++treeI x.data++[treeR x.data],KrO K o:=fun o ho=>hr o (by unfold ndAll;rw[if_neg hk];exact ho);have ht:=treeL_eq hz hr1;have hs:(inoOf x).size=x.data.size:=rfl;rw[hs,ht];by_cases hw:treeW K x.data=[]
  ·rw[if_pos hw,hw];refine ⟨by simp[onceL_nil],fun _ =>?_⟩;obtain ⟨n,k,m,l,dd,es⟩:=x;dsimp only at he;subst he
   rfl
  ·rw[if_neg hw];refine ⟨?_,fun h=>absurd h hw⟩;have:onceL L.want (onceL [] (treeW K x.data))=onceL L.want (treeW K x.data):=onceL_onceL;simp[this]
theorem tableS_eq {K:Kn} {L:Ldr} {t:Tab} (ht:tabMay t=true) (hr:KrO K (tabText t)) :
 (tableS K L (hashS (tabText t))).2=⟨onceL L.want (miss K [hashS (tabText t)]),L.bad⟩∧(miss K [hashS (tabText t)]=[]→(tableS K L (hashS (tabText t))).1=t.map inoOf):=by
 unfold tableS;rcases hr with h | h
 ·rw[h,miss_cons_some h,miss_nil];have:getI (tabText t)=(t.map inoOf,0):=getI_put (may_ino ht);dsimp only;rw[this];exact ⟨by simp[onceL_nil],fun _=>rfl⟩
 ·rw[h,miss_cons_none h,miss_nil];exact ⟨rfl,fun h=>by simp at h⟩
theorem miss_app {K:Kn} {a b:List HsV}:miss K (a++b)=miss K a++miss K b:=by unfold miss;rw[List.filter_append]
theorem tablesS_eq {K:Kn}:∀ {X:Fs} {L:Ldr},(∀t∈X,tabMay t=true)→(∀t∈X,KrO K (tabText t)) →
 (tablesS K L (buildH X)).2=⟨onceL L.want (miss K (buildH X)),L.bad⟩∧(miss K (buildH X)=[]→(tablesS K L (buildH X)).1=X.map fun t=>t.map inoOf)
 | [],L,_,_=>⟨rfl,fun _=>rfl⟩
 | t :: r, L, h1, h2 => by
   have e:buildH (t::r)=[hashS (tabText t)]++buildH r:=rfl;have e':buildH (t::r)=hashS (tabText t)::buildH r:=rfl;have a:=tableS_eq (L:=L) (h1 t (by simp)) (h2 t (by simp));have b:=tablesS_eq (X:=r) (L:=(tableS K L (hashS (tabText t))).2) (fun t ht=>h1 t (by simp[ht])) (fun t ht=>h2 t (by simp[ht]));have hm:miss K (buildH (t::r))=miss K [hashS (tabText t)]++miss K (buildH r):=by rw[e,miss_app]
   rw[hm,e',tablesS_cons];refine ⟨?_,fun h =>?_⟩
   ·dsimp only;rw[b.1,a.1,onceL_app]
   ·rw[YAC] at h;dsimp only;rw[a.2 h.1,b.2 h.2]
    rfl
theorem rowS_eq {K:Kn}:∀ {t:Tab} {L:Ldr},(∀x∈t,ndMay x=true)→(∀x∈t,∀o∈ndAll x,KrO K o) →
 (rowS K L (t.map inoOf)).2=⟨onceL L.want (t.flatMap (ndW K)),L.bad⟩∧(t.flatMap (ndW K)=[]→(rowS K L (t.map inoOf)).1=t)
 | [],L,_,_=>⟨rfl,fun _=>rfl⟩
 | x :: r, L, h1, h2 => by
   have a:=ndS_eq (L:=L) (h1 x (by simp)) (h2 x (by simp));have b:=rowS_eq (t:=r) (L:=(ndS K L (inoOf x)).2) (fun t ht=>h1 t (by simp[ht])) (fun t ht=>h2 t (by simp[ht]));rw[YAW,rowS_cons,YAL];refine ⟨?_,fun h =>?_⟩
   ·dsimp only;rw[b.1,a.1,onceL_app]
   ·rw[YAC] at h;dsimp only;rw[a.2 h.1,b.2 h.2]
def stW (K:Kn) (X:Fs):List HsV:=X.flatMap fun t=>t.flatMap (ndW K)
theorem rowsS_eq {K:Kn}:∀ {X:Fs} {L:Ldr},(∀t∈X,∀x∈t,ndMay x=true)→(∀t∈X,∀x∈t,∀o∈ndAll x,KrO K o) →
 (rowsS K L (X.map fun t=>t.map inoOf)).2=⟨onceL L.want (stW K X),L.bad⟩∧(stW K X=[]→(rowsS K L (X.map fun t=>t.map inoOf)).1=X)
 | [],L,_,_=>⟨rfl,fun _=>rfl⟩
 | t :: r, L, h1, h2 => by
   have a:=rowS_eq (L:=L) (h1 t (by simp)) (h2 t (by simp));have b:=rowsS_eq (X:=r) (L:=(rowS K L (t.map inoOf)).2) (fun t ht=>h1 t (by simp[ht])) (fun t ht=>h2 t (by simp[ht]));have hs:stW K (t::r)=t.flatMap (ndW K)++stW K r:=by unfold stW;rw[YAL]
   rw[YAW,rowsS_cons,hs];refine ⟨?_,fun h =>?_⟩
   ·dsimp only;rw[b.1,a.1,onceL_app]
   ·rw[YAC] at h;dsimp only;rw[a.2 h.1,b.2 h.2]
theorem mem_allO {X:Fs} {o:ByteArray}:o∈allO X↔∃t∈X,(∃x∈t,o∈ndAll x)∨o=tabText t:=by
 unfold allO;simp only [List.mem_flatMap,YAX,YAZ]
theorem mem_ndObjs {x:Nd} {o:ByteArray}:o∈ndObjs x↔o∈ndAll x:=by
 unfold ndObjs ndAll;split
 ·exact Iff.rfl
 ·unfold treeO;rw[mem_onceL];simp
theorem mem_buildO {X:Fs} {o:ByteArray}:o∈buildO X↔o∈allO X:=by
 unfold buildO;rw[mem_onceL,mem_allO];simp only [YAb,false_or,List.mem_flatMap,tabObjs,YAX,YAZ,mem_ndObjs]
theorem loadS_eq {K:Kn} {X:Fs} (hm:stMay X=true) (hr:∀o∈allO X,KrO K o) :
 loadS K (buildH X)=if miss K (buildH X)≠[] then ([],onceL [] (miss K (buildH X)),1501) else if stW K X≠[] then ([],onceL [] (stW K X),1501) else (X,[],0):=by
 obtain ⟨h1,h2,h3,_⟩:=st_ok hm;have hl:(buildH X).length=X.length:=by unfold buildH;rw[YAT]
 have a:=tablesS_eq (K:=K) (X:=X) (L:=⟨[],false⟩) h3 (fun t ht=>hr _ (mem_allO.2 ⟨t,ht,.inr rfl⟩));unfold loadS;rw[if_neg (by omega)];dsimp only;rw[a.1];by_cases hms:miss K (buildH X)=[]
 ·rw[if_neg (c:=miss K (buildH X)≠[]) (by simp[hms])];have e1:(Ldr.mk (onceL [] (miss K (buildH X))) false).err 1500 1501=0:=by rw[hms];rfl
  rw[if_neg (by rw[e1];simp),a.2 hms,hms];have b:=rowsS_eq (K:=K) (X:=X) (L:=⟨onceL [] [],false⟩) (fun t ht x hx=>(tab_ok (h3 t ht)).2.1 x hx) (fun t ht x hx o ho=>hr _ (mem_allO.2 ⟨t,ht,.inl ⟨x,hx,ho⟩⟩));rw[b.1];by_cases hw:stW K X=[]
  ·rw[if_neg (c:=stW K X≠[]) (by simp[hw])];have e2:(Ldr.mk (onceL (onceL [] []) (stW K X)) false).err 1500 1501=0:=by rw[hw];rfl
   rw[if_neg (by rw[e2];simp),b.2 hw,if_pos hm]
  ·rw[if_pos (c:=stW K X≠[]) hw];have hne:onceL (onceL [] []) (stW K X)≠[]:=fun h=>hw (onceL_ne.1 h).2
   have e2:(Ldr.mk (onceL (onceL [] []) (stW K X)) false).err 1500 1501=1501:=by
    unfold Ldr.err;simp[hne]
   rw[if_pos (by rw[e2];simp),e2]
   rfl
 ·rw[if_pos (c:=miss K (buildH X)≠[]) hms];have hne:onceL [] (miss K (buildH X))≠[]:=fun h=>hms (onceL_ne.1 h).2
  have e1:(Ldr.mk (onceL [] (miss K (buildH X))) false).err 1500 1501=1501:=by
   unfold Ldr.err;simp[hne]
  rw[if_pos (by rw[e1];simp),e1]
  rfl
def noClash (os:List ByteArray):Prop:=∀a∈os,∀b∈os,hashS a=hashS b→a=b
theorem known_of {os:List ByteArray} (hn:noClash os) {o:ByteArray} (ho:o∈os) (hz:o.size≤65536):known os (hashS o)=some o:=by
 unfold known
 cases hf:os.find? (fun d=>decide (d.size≤65536)&&decide (hashS d=hashS o)) with
 | none =>
   have:=List.find?_eq_none.1 hf o ho;simp[hz] at this
 | some d =>
   have h1:=List.find?_some hf;have h2:=List.mem_of_find?_eq_some hf;simp only [YAs,decide_eq_true_eq] at h1;rw[hn d h2 o ho h1.2]
theorem known_some {os:List ByteArray} {h:HsV} {d:ByteArray} (hk:known os h=some d):d∈os∧hashS d=h:=by
 unfold known at hk;have h1:=List.find?_some hk;have h2:=List.mem_of_find?_eq_some hk;simp only [YAs,decide_eq_true_eq] at h1;exact ⟨h2,h1.2⟩
theorem allO_size {X:Fs} (hm:stMay X=true) {o:ByteArray} (ho:o∈allO X):o.size≤65536:=by
 obtain ⟨_,_,h3,_⟩:=st_ok hm;obtain ⟨t,ht,h⟩:=mem_allO.1 ho;obtain ⟨_,h4,h5⟩:=tab_ok (h3 t ht);rcases h with ⟨x,hx,h⟩ | rfl
 ·have hnd:=h4 x hx;obtain ⟨z1,z2,z3⟩:=nd_small hnd;unfold ndAll at h;split at h
  ·simp at h;subst h;rw[bx_size];have h1:=flat_le (dir_ok z3).2.2;unfold putBytes;simp only [YAQ,be_len];omega
  ·have l1:=treeB_len (d:=x.data);have l2:=treeI_len (d:=x.data);simp only [YAX,YAZ] at h;rcases h with (h | h) | rfl
   ·unfold treeB at h;obtain ⟨c,hc,rfl⟩:=List.mem_map.1 h;rw[leafS_size];have:=chunk_mem hc;omega
   ·unfold treeI at h;obtain ⟨c,hc,rfl⟩:=List.mem_map.1 h;rw[nodeS_size];have:=chunk_mem hc;omega
   ·unfold treeR;rw[nodeS_size,YAT];omega
 ·have:=tabText_size h5;omega
theorem ZBw.s {v:MbK.Ty} {m:Mb} {h:Heap} {K:StaK.Ty→Int→Heap→Prop} (a:MbAt h v m) (hgl:m.groups.length≤9223372036854775807)
 (hno:mbMay m=false→∀h',Keep [] h h'→K ((⟨none,0,0⟩:Slc),()) 1500 h')
 (hK:mbMay m=true→∀h' t0 ss vv,Keep [] h h'→StW h' t0 ss vv (emptyS m)→K (t0,()) 0 h'):ZBw.C v h K:=by
 apply ZBw.c;unfold ZBw.m;refine new_gen fun b1 h1 hb1 k1 e1 hs1 =>?_;have e1:h1[b1]? = some (vobj t_api_Members MbK v):=e1;refine new_gen fun b2 h2 hb2 k2 e2 hs2 =>?_;have e2:h2[b2]? = some (vobj t_api_State StaK ((⟨none,0,0⟩:Slc),())):=e2;have k02:Keep [] h h2:=k1.n k2;have c1:=k2.g e1;refine ld_go (sm_all c1) ?_;refine ZBr.s (a.keep k02) fun h3 k3 =>?_;have k03:=k02.n k3
 cases hm:mbMay m with
 | false =>
   rw[if_pos (by rfl)];refine st_ld (y:=(((⟨none,0,0⟩:Slc),()):StaK.Ty)) (k3.g e2) fun h4 k4 e4 hs4 =>?_;exact hno hm h4 (k03.new k4 (by simp;omega))
 | true =>
   rw[if_neg (by simp)];refine ld_go (sm_all (k3.g c1)) ?_;refine ZAz.s (a.keep k03) hm fun h5 k5 =>?_
   have hp:1≤prins m∧prins m≤24:=by
    unfold mbMay at hm;simp only [YAs,decide_eq_true_eq] at hm;obtain ⟨⟨⟨m1,m2⟩,m3⟩,_⟩:=hm;unfold prins;omega
   obtain ⟨n,hn⟩:∃n:Nat,prins m=((n+1:Nat):Int):=⟨(prins m).toNat-1,by omega⟩;rw[hn];refine mk_gen (by omega) (by omega) fun b h6 hb6 k6 r6 hs6 =>?_;refine new_st_gen fun b3 h8 hb3 k8 e8 hs8 =>?_;have e8:h8[b3]? = some (vobj t_api_State StaK ((⟨some ⟨b,0⟩,n+1,n+1⟩:Slc),())):=e8;refine ld_go (k := .sl) (x:=(⟨some ⟨b,0⟩,n+1,n+1⟩:Slc)) (sm_sub (sm_all e8) (by decide) rfl) ?_;refine bs_gen fun bq h9 hbq k9 r9 hs9 =>?_;have r69:=(r6.keep k8 (by simp)).keep k9 (by simp);have s8:=k8.1;have s9:=k9.1;refine ix_st (i:=0) (k := .sl) (x:=(⟨some ⟨bq,0⟩,1,1⟩:Slc)) r69 (by omega) (by simp) rfl fun h10 k10 r10 =>?_;have hown:own (⟨some ⟨b,0⟩,n+1,n+1⟩:Slc)=[b]:=rfl;refine ld_go (sm_all (k10.get (k9.g e8) (by rw[hown];simp;omega))) ?_;have s5:=k5.1;have s3:=k3.1;have l2:=lt_of_some e2;have k310:Keep [] h3 h10:=(((k5.n k6).n k8).n k9).new k10 (fun q hq=>by rw[hown] at hq;simp at hq;omega);refine st_ld (k310.g (k3.g e2)) fun h11 k11 e11 hs11 =>?_;refine hK hm h11 _ (⟨some ⟨bq,0⟩,1,1⟩::List.replicate n ⟨none,0,0⟩) ([(1,(1,(1,(1,(⟨#[]⟩,((⟨none,0,0⟩:Slc),()))))))]::List.replicate n []) ((k03.n k310).new k11 (by simp;omega)) ⟨?_,?_,?_⟩
   ·have:(List.replicate (n+1) (Kd.zero .sl)).set (0:Int).toNat (⟨some ⟨bq,0⟩,1,1⟩:Slc)=⟨some ⟨bq,0⟩,1,1⟩::List.replicate n ⟨none,0,0⟩:=by
     rw[List.replicate_succ];rfl
    rw[←this];exact (r10.keep k11 (by rw[hown];simp;omega)).seg
   ·refine ⟨((r9.keep k10 (by rw[hown];simp[own];omega)).keep k11 (by simp[own];omega)).seg,all2_rep (R:=fun s vs=>Seg NdK s vs h11) (Row.nil (T:=t_api_Node)).seg n⟩
   ·unfold emptyS;have:(prins m).toNat-1=n:=by omega
    rw[this];exact ⟨⟨nd1_at,trivial⟩,all2_rep trivial n⟩
def rootU:Nd:=⟨1,1,1,1,⟨#[]⟩,[]⟩
theorem emptyU_eq {m:Mb}:emptyS m=[rootU]::List.replicate ((prins m).toNat-1) []:=rfl
theorem emptyU_may {m:Mb} (h1:1≤prins m) (h2:prins m≤24):stMay (emptyS m)=true:=by
 rw[emptyU_eq];have hn:(prins m).toNat-1≤23:=by omega
 generalize (prins m).toNat-1=n at hn;unfold stMay
 have hf:findN ([rootU]::List.replicate n []) rootR=some rootU:=by
  unfold findN tabOf;rw[if_pos ⟨by decide,by simp[rootR,rf]⟩]
  rfl
 have hall:([rootU]::List.replicate n ([]:Tab)).all tabMay=true:=by
  rw[List.all_cons,show tabMay [rootU]=true by decide,YAu,YAA];intro t ht;rw[List.eq_of_mem_replicate ht];rfl
 rw[hf,hall];simp[rootU];omega
def newC (k:Kys):Cn:=⟨k.m,k.pubs,buildH (emptyS k.m),[]⟩
theorem kys_u {k:Kys} (h:kysMay k=true):mbMay k.m=true∧1≤k.m.users∧k.m.users≤16∧k.m.groups.length≤8∧(k.pubs.length:Int)=k.m.users∧∀s∈k.pubs,s.length=60:=by
 unfold kysMay at h;simp only [YAs,decide_eq_true_eq,YAA] at h;obtain ⟨h1,h2,h3⟩:=h;have h1':=h1;unfold mbMay at h1';simp only [YAs,decide_eq_true_eq] at h1';exact ⟨h1,h1'.1.1.1,h1'.1.1.2,h1'.1.2,h2,h3⟩
theorem new_ok {k:Kys} (h:kysMay k=true):CnOk (newC k):=by
 obtain ⟨h1,h2,h3,h4,h5,h6⟩:=kys_u h;refine ⟨h1,h5,h6,?_,by simp[newC],by simp[newC]⟩;show ((buildH (emptyS k.m)).length:Int)=prins k.m;have hp:1≤prins k.m:=by unfold prins;omega
 unfold buildH;rw[YAT,emptyU_eq,YAR,List.length_replicate];omega
theorem ZC2.s {v:KeK.Ty} {k:Kys} {h:Heap} {K:Option Pl→Int→Heap→Prop} (a:KeAt h v k) (hl:k.pubs.length≤9223372036854775806) (hg:∀g∈k.m.groups,g.length*8≤140737488355328)
 (hbad:kysMay k=false→∀h',Keep [] h h'→K none 2000 h')
 (hok:kysMay k=true→∀h' c t mv ps bs,Keep [] h h'→IsCh h.size h' c t mv ps bs ⟨none,0,0⟩ [] (newC k)→K (some ⟨c,0⟩) 0 h'):ZC2.C v h K:=by
 apply ZC2.c;unfold ZC2.m;refine new_gen fun b1 h1 hb1 k1 e1 hs1 =>?_;have e1:h1[b1]? = some (vobj t_api_Keys KeK v):=e1;refine ld_go (sm_all e1) ?_;refine ZBy.s (a.keep k1) hl fun h2 k2 =>?_;have k02:Keep [] h h2:=k1.n k2
 cases hm:kysMay k with
 | false =>
   rw[if_pos (by rfl)];exact hbad hm h2 k02
 | true =>
   rw[if_neg (by simp)];replace hok:=hok hm;obtain ⟨m1,m2,m3,m4,m5,m6⟩:=kys_u hm;have e2:=k2.g e1;refine ld_go (ke_f e2).1 ?_;have hpr:1≤prins k.m∧prins k.m≤24:=by unfold prins;omega
   refine ZBw.s (a.keep k02).m (by omega) (fun hn=>by rw[m1] at hn;simp at hn) fun _ h3 t0 ss vv k3 w3 =>?_;refine new_st_gen fun b2 h5 hb2 k5 e5 hs5 =>?_;refine ld_go (sm_all e5) ?_;have k25:Keep [] h2 h5:=k3.n k5
   have sb:∀t∈emptyS k.m,t.length≤9223372036854775807:=fun t ht=>by
    rw[emptyU_eq] at ht;rcases List.mem_cons.1 ht with rfl | ht
    ·simp
    ·rw[List.eq_of_mem_replicate ht];simp
   refine ZBz.s (w3.keep k5) sb (fun hn=>by rw[emptyU_may hpr.1 hpr.2] at hn;simp at hn) fun _ h6 o1 o2 k6 r6 _ f6 _ =>?_;have k26:Keep [] h2 h6:=k25.n k6;have k06:Keep [] h h6:=k02.n k26;have e6:=k26.g e2;refine ld_go (ke_f e6).1 (ld_go (ke_f e6).2.1 ?_);refine ZCB.s (a.keep k06).m (by omega) hg fun h7 mv k7 mu =>?_;refine ⟨(ke_f (k7.g e6)).2.1,?_⟩;have k07:Keep [] h h7:=k06.n k7;refine clone_str.s (a.keep k07).p (by rw[YAT];omega) fun ps h8 k8 r8 o8 =>?_;have k08:Keep [] h h8:=k07.n k8;have e8:=k8.g (k7.g e6);refine st_to (y:=((mv,(ps,())):KeK.Ty)) e8 fun h9 k9 e9 hs9=>ld_go (sm_all e9) ?_;refine ZDA.s fun h10 k10 t10 =>?_;refine ⟨sm_all (k10.g e9),?_⟩;refine new_gen fun c h11 hc k11 e11 hs11 =>?_;have e11:h11[c]? = some (vobj t_chain_Chain ChK (((mv,(ps,())),(o1,((⟨none,0,0⟩:Slc),(some ⟨h9.size,0⟩,())))):ChK.Ty)):=e11;have z02:=k02.1;have z06:=k06.1;have z25:=k25.1;have z7:=k7.1;have z8:=k8.1;have z9:=k9.1;have z10:=k10.1;have k911:Keep [] h9 h11:=k10.n k11;have off:∀ {T:Nat} {kk:Kd} {u:Slc} {L:List kk.Ty},Row h8 T kk u L→T≠t_api_Keys→∀q∈own u,q∉[b1]:=fun r hT q hq hm=>by simp at hm;subst hm;exact rowT r e8 (fun h=>hT h.symm) hq
   have mu8:MbU h6.size h8 mv k.m:=mu.keep k8 (by simp)
   have mu9:MbU h6.size h9 mv k.m:=mu8.keep k9 fun b hb=>by
    simp at hb;subst hb;exact .inr fun c f=>⟨cell_ne (o:=vobj t_api_Keys KeK v) e8 (by decide) c f,cell_ne (o:=vobj t_api_Keys KeK v) e8 (by decide) c f⟩
   have mu11:=mu9.keep k911 (by simp);refine hok h11 c h9.size mv ps o1 ((k08.new k9 (by simp;omega)).n k911) ⟨e11,by omega,?_,?_,fun q hq=>by have:=o8 q hq;omega,?_,fun q hq=>by have:=f6 q hq;omega,.inl ⟨rfl,rfl⟩,by simp[own],trivial,?_⟩
   ·obtain ⟨u,gs,r,o,al⟩:=mu11;exact ⟨u,gs,r,fun q hq=>by have:=o q hq;omega,All2.mono (fun s us x=>⟨x.1,fun q hq=>by have:=x.2.1 q hq;omega,x.2.2⟩) al⟩
   ·exact (r8.keep k9 (off r8 (by decide))).keep k911 (by simp)
   ·have r68:=(r6.keep k7 (by simp)).keep k8 (by simp);exact (r68.keep k9 (off r68 (by decide))).keep k911 (by simp)
   ·obtain ⟨⟨s,row,e,r,p,oo⟩,l⟩:=t10.keep k11 (by simp);exact ⟨⟨s,row,e,r,p,fun q hq=>by have:=oo q hq;omega⟩,by omega⟩
abbrev LgK:Kd := .ag (.pr .i (.pr (.ar 32 .u8) (.pr EtK .un)))
def lg0:LgK.Ty:=(0,(Vector.replicate 32 0,(et0,())))
def lastE (C:Cn):Ett:=C.all.getLast?.getD ⟨0,0,[],Vector.replicate 32 0,[],[]⟩
structure LgR (h:Heap) (x:LgK.Ty) (C:Cn):Prop where
 n:x.1=(C.all.length:Int)
 r:x.2.1=rootV (C.all.map putE)
 e:EtR h x.2.2.1 (lastE C)
theorem et0_R {h:Heap}:EtR h et0 ⟨0,0,[],Vector.replicate 32 0,[],[]⟩:=⟨rfl,rfl,.inl ⟨rfl,rfl⟩,rfl,.inl ⟨rfl,rfl⟩,rfl⟩
theorem lg_w33 {x:LgK.Ty} {y:EtK.Ty}:wrL (LgK.cells x) 33 (EtK.cells y)=LgK.cells ((x.1,(x.2.1,(y,()))):LgK.Ty):=by
 have l3:((Kd.ar 32 .u8).cells x.2.1).length=32:=Kd.cells_length ..;have le:∀z:EtK.Ty,(EtK.cells z).length=37:=fun z=>Kd.cells_length ..
 have e0:∀z:EtK.Ty,LgK.cells ((x.1,(x.2.1,(z,()))):LgK.Ty)=(Kd.i.cells x.1++(Kd.ar 32 .u8).cells x.2.1)++(EtK.cells z++[]):=fun z=>by
  rw[YAB];rfl
 have e1:=e0 x.2.2.1;rw[e0 y];have e1:LgK.cells x=_:=e1;rw[e1];have l33:(Kd.i.cells x.1++(Kd.ar 32 .u8).cells x.2.1).length=33:=by rw[YAQ,l3];rfl
 generalize (Kd.i.cells x.1++(Kd.ar 32 .u8).cells x.2.1)=A at *;have l1:=le x.2.2.1;have l2:=le y;generalize EtK.cells x.2.2.1=B at *;generalize EtK.cells y=D at *;unfold wrL;rw[YAd l33,l2,←YAE,YAH l33,YAH l1,YAB]
section
variable {n0 c t:Nat} {h:Heap} {mv:MbK.Ty} {ps bs es:Slc} {evs:List EtK.Ty} {C:Cn}
theorem chain_Log.s {K:LgK.Ty→Heap→Prop} (i:IsCh n0 h c t mv ps bs es evs C) (o:CnOk C) (hK:∀x h',Keep [] h h'→LgR h' x C→(∀q∈etO x.2.2.1,h.size≤q)→K x h'):ZBh.C (some ⟨c,0⟩) h K:=by
 apply ZBh.c;unfold ZBh.m;have on:=o.n;have al:=i.al;refine new_gen fun b1 h1 hb1 k1 e1 hs1 =>?_;have e1:h1[b1]? = some (vobj t_api_Log LgK lg0):=e1;rw[if_neg (by simp)];have i1:=i.keep0 k1;have tl:(C.all.map putE).length≤1000000:=by rw[YAT];omega
 obtain ⟨R,hR⟩:∃R,rootV (C.all.map putE)=R:=⟨_,rfl⟩;refine jn_in (fun y h'=>Keep [] h1 h'∧∃b,y=(Pl.mk b 0,())∧h1.size≤b∧h'[b]? = some (vobj t_api_Log LgK (((C.all.length:Int),(R,(et0,()))):LgK.Ty))) ?_ ?_
 ·refine nck_go (ld_go i1.fa (nck_go (ld_go i1.ft ⟨?_,?_⟩)))
  ·refine ZA5.s i1.t tl fun h4 k4 =>?_;refine ⟨(i1.keep0 k4).fa,?_⟩;rw[hR];refine new_gen fun b2 h5 hb2 k5 e5 hs5 =>?_;have e5:h5[b2]? = some (vobj t_api_Log LgK lg0):=e5;refine ⟨((i1.keep0 k4).keep0 k5).fa,?_⟩;rw[al];refine st_to e5 fun h6 k6 e6 hs6 =>?_;have z4:=k4.1;exact ⟨(k4.n k5).new k6 (by simp;omega),b2,rfl,by omega,e6⟩
  ·refine new_gen fun b2 h5 hb2 k5 e5 hs5 =>?_;have e5:h5[b2]? = some (vobj t_api_Log LgK lg0):=e5;have i5:=i1.keep0 k5;refine ⟨i5.ft,i5.fa,?_⟩;refine ZA5.s i5.t tl fun h4 k4 =>?_;refine ⟨(i5.keep0 k4).fa,?_⟩;rw[hR,al];refine st_to (k4.g e5) fun h6 k6 e6 hs6 =>?_;exact ⟨(k5.n k4).new k6 (by simp;omega),b2,rfl,by omega,e6⟩
 rintro _ h3 ⟨k3,b,rfl,hb,e3⟩;have k03:Keep [] h h3:=k1.n k3;have i3:=i.keep0 k03;have z1:=k1.1;have e13:=k3.g e1;have n1:b1≠b:=by omega
 have f0:sm .i ((Pl.mk b 0).fld 0) (C.all.length:Int) h3:=sm_fld (n:=0) (k' := .i) e3 rfl (by decide);refine ld_go f0 ?_;refine jn_in (fun _ h'=>Keep [] h h'∧h'[b1]? = some (vobj t_api_Log LgK lg0)∧∃v',h'[b]? = some (vobj t_api_Log LgK (((C.all.length:Int),(R,(v',()))):LgK.Ty))∧EtR h' v' (lastE C)∧∀q∈etO v',h.size≤q) ?_ ?_
 ·unfold lastE;by_cases h0:C.all.length=0
  ·rw[if_neg (show ¬decide ((C.all.length:Int)>0)=true from dn (by omega))];have hnil:C.all=[]:=List.length_eq_zero_iff.1 h0;refine ⟨k03,e13,et0,e3,?_,by simp[etO,et0,own]⟩;rw[hnil];exact et0_R
  ·rw[if_pos (show decide ((C.all.length:Int)>0)=true from dT (by omega))];refine nck_go (ld_go i3.fa (ld_go f0 ?_));have hw:w64 ((C.all.length:Int)-1)=((C.all.length-1:Nat):Int):=w6 (by omega);rw[hw];have el:=i3.x.len;have hx:=i3.x.getI (i:=C.all.length-1) (by omega) (by omega);have ha:=o.a _ (YAP (l:=C.all) (n:=C.all.length-1) (by omega))
   have hg:C.all.getLast? = some (C.all[C.all.length-1]'(by omega)):=by
    rw[List.getLast?_eq_getElem?,YAN (by omega)]
   rw[hg];refine seg_ix i3.a.seg (x:=evs[C.all.length-1]'(by omega)) (by omega) (by rw[YAj];exact YAN (by omega)) rfl ?_;generalize evs[C.all.length-1]'(by omega)=v at *;generalize C.all[C.all.length-1]'(by omega)=e at *;obtain ⟨_,_,pv,pt⟩:=put_vec ha.1;refine ZCI.s hx.1.at (by omega) (by omega) fun v' h11 k11 r11 o11 =>?_;have e11:=k11.g e3;have z03:=k03.1;refine st_fld (k:=LgK) (k':=EtK) (n:=33) e11 (by decide) lg_w33 ?_;dsimp only;have e12:=get_set (o':=vobj t_api_Log LgK (((C.all.length:Int),(R,(v',()))):LgK.Ty)) e11;have k12:Keep [b] h11 (h11.setIfInBounds b (vobj t_api_Log LgK (((C.all.length:Int),(R,(v',()))):LgK.Ty))):=keep_set;generalize h11.setIfInBounds b (vobj t_api_Log LgK (((C.all.length:Int),(R,(v',()))):LgK.Ty))=h12 at e12 k12 ⊢;refine ⟨(k03.n k11).new k12 (by simp;omega),k12.get (k11.g e13) (by simpa using n1),v',e12,r11.keep k12 fun q hq hm =>?_,fun q hq=>by have:=o11 q hq;omega⟩;simp at hm;subst hm;have:=o11 q hq;have:=lt_of_some e3;omega
 rintro _ h10 ⟨k10,e110,v',e10,r10,o10⟩;refine ld_go (sm_all e10) ?_;refine st_to e110 fun h13 k13 e13' hs13=>ld_go (sm_all e13') ?_;refine hK _ h13 (k10.new k13 (by simp;omega)) ⟨rfl,hR.symm,r10.keep k13 fun q hq hm =>?_⟩ o10;simp at hm;subst hm;unfold etO at hq;rcases List.mem_append.1 hq with hq | hq
 ·exact rowT r10.w e110 (by decide) hq
 ·exact rowT r10.t e110 (by decide) hq
end
structure Sd where
 i:By
 s:By
 hi:i.length=16
 hs:s.length=32
def Sd.k (d:Sd) (n:Nat):HKey:=⟨3,1,d.i,d.s,n⟩
def Sd.pub (d:Sd):By:=hssPub (d.k 0)
def seedD (x:By):Sd:=⟨(Hl (tagL 2 [bx x])).take 16,Hl (tagL 3 [bx x]),by rw[YAV,Hl_len];rfl,Hl_len⟩
theorem seed_may {d:Sd} {n:Nat} (hn:n≤4):hssMay (d.k n)=true:=by
 obtain ⟨i,s,hi,hs⟩:=d;unfold hssMay lmsMay Sd.k;dsimp only;simp only [hi,hs,YAs,decide_eq_true_eq];refine ⟨⟨by decide,by omega⟩,?_⟩;show (n:Int)≤4;omega
theorem seed_up {d:Sd} {n:Nat} (hn:n<4):lmsMay (d.k n).up=true∧(d.k n).up.next<2^(d.k n).up.height.toNat∧lmsMay (d.k n).low=true∧(d.k n).low.next<2^(d.k n).low.height.toNat:=
 hss_parts (k:=d.k n) (seed_may (by omega)) (show (n:Int)<4 by omega)
theorem seed_len {d:Sd}:d.pub.length=60:=by
 unfold Sd.pub hssPub;rw[YAQ,be_len,lmsPub_len (seed_up (by decide)).1]
def clb:Mb:=⟨2,[[0,1]]⟩
def clbK (a b:Sd):Kys:=⟨clb,[a.pub,b.pub]⟩
theorem clb_may {a b:Sd}:kysMay (clbK a b)=true:=by
 unfold kysMay clbK;dsimp only;rw[show mbMay clb=true by decide,YAu];simp only [YAR,YAU,List.all_cons,List.all_nil,seed_len,Bool.and_true]
 rfl
theorem et_w36 {v:EtK.Ty} {y:ByteArray}:wrL (EtK.cells v) 36 (Kd.s.cells y)=EtK.cells ((v.1,(v.2.1,(v.2.2.1,(v.2.2.2.1,(v.2.2.2.2.1,(y,v.2.2.2.2.2.2)))))):EtK.Ty):=by
 have l3:((Kd.ar 32 .u8).cells v.2.2.2.1).length=32:=Kd.cells_length ..
 have e0:∀w:ByteArray×Unit,EtK.cells ((v.1,(v.2.1,(v.2.2.1,(v.2.2.2.1,(v.2.2.2.2.1,w))))):EtK.Ty)=(((Kd.i.cells v.1++(Kd.i.cells v.2.1++Kd.sl.cells v.2.2.1))++(Kd.ar 32 .u8).cells v.2.2.2.1)++Kd.sl.cells v.2.2.2.2.1)++(Kd.s.cells w.1++[]):=fun w=>by
  rw[YAB,YAB];rfl
 have e1:=e0 v.2.2.2.2.2;have e2:=e0 (y,v.2.2.2.2.2.2);rw[e2];have e1:EtK.cells v=_:=e1;rw[e1];have l36:(((Kd.i.cells v.1++(Kd.i.cells v.2.1++Kd.sl.cells v.2.2.1))++(Kd.ar 32 .u8).cells v.2.2.2.1)++Kd.sl.cells v.2.2.2.2.1).length=36:=by rw[YAQ,YAQ,l3];rfl
 generalize (((Kd.i.cells v.1++(Kd.i.cells v.2.1++Kd.sl.cells v.2.2.1))++(Kd.ar 32 .u8).cells v.2.2.2.1)++Kd.sl.cells v.2.2.2.2.1)=A at *;unfold wrL;rw[YAd l36,←YAE,YAH l36,YAB]
 rfl
theorem ZCd.s {v:EtK.Ty} {e:Ett} {h:Heap} {K:ByteArray→Int→Heap→Prop} (a:EtAt h v e) (hl:e.vec.length≤9223372036854775806) (hK:∀h',Keep [] h h'→K (if putMay e=true then bx (putE e) else ⟨#[]⟩) (if putMay e=true then 0 else 1900) h'):ZCd.C v h K:=by
 apply ZCd.c;unfold ZCd.m;refine new_gen fun b h1 hb k1 e1 hs1 =>?_;have e1:h1[b]? = some (vobj t_api_Entry EtK v):=e1;refine ld_go (sm_all e1) ?_;refine ZCp.s (a.keep k1) hl fun h2 k2 =>?_;obtain ⟨f0,f1,f2,f3,f35,f36⟩:=et_f (k2.g e1);rw[a.s] at f36;refine jn_at (!putMay e,()) h2 ?_ ?_
 ·unfold putMay
  cases hm:ettMay e with
  | false=>rw[if_pos (by rfl)];exact ⟨by simp,rfl⟩
  | true =>
    rw[if_neg (by simp)];refine ld_go f36 ⟨?_,rfl⟩;rw[bx_size];by_cases c:e.sign.length≤8192
    ·rw[dF (show ¬((e.sign.length:Int)>8192) by omega)];simp[c]
    ·rw[dT (show ((e.sign.length:Int)>8192) by omega)];simp[c]
 dsimp only
 cases hp:putMay e with
 | false =>
   rw[if_pos (by rfl)];rw[hp] at hK;exact hK h2 (k1.n k2)
 | true =>
   rw[if_neg (by simp)];rw[hp] at hK;have hm:ettMay e=true:=by unfold putMay at hp;simp only [YAs] at hp;exact hp.1
   have hs:e.sign.length≤8192:=by unfold putMay at hp;simp only [YAs,decide_eq_true_eq] at hp;exact hp.2
   refine ld_go f36 (ld_go f36 ?_);rw[bx_size];refine ZAB.s (n:=2) (by decide) (by decide) (by omega) fun h4 k4=>⟨sm_keep (by decide) f36 k4,?_⟩;rw[if_pos hm];obtain ⟨u0,u1,q0,q1,vx,v1,v16,t1,t24⟩:=ett_of hm
   have bl:(bodyE e).length≤2000:=by
    unfold bodyE;simp only [YAQ,be_len,flat2_len,flat32_len,YAR,YAU];have:(Vector.toList e.root).length=32:=by simp
    omega
   refine sadd_b (by rw[be_len];omega) ?_;refine sadd_b (by rw[YAQ,be_len];omega) ?_;have:=hK h4 ((k1.n k2).n k4);unfold putE at this;rw[YAB];exact this
theorem itI {c:Prop} [Decidable c] {P Q:Prop} (h1:c→P) (h2:¬c→Q):if decide c=true then P else Q:=by
 by_cases h:c
 ·rw[if_pos (dT h)];exact h1 h
 ·rw[if_neg (by simpa using h)];exact h2 h
theorem itL {a b:Int} {P Q:Prop} (h1:a<b→P) (h2:b≤a→Q):if decide (a<b)=true then P else Q:=itI h1 fun h=>h2 (by omega)
theorem itG {a b:Int} {P Q:Prop} (h1:b<a→P) (h2:a≤b→Q):if decide (a>b)=true then P else Q:=itI h1 fun h=>h2 (by omega)
theorem mEnt_len {e:Ett}:(mEnt e).length=2+(putE e).length:=by unfold mEnt;rw[YAQ,be_len]
theorem mTxt_len {s:By}:(mTxt s).length=2+s.length:=by unfold mTxt;rw[YAQ,be_len]
structure PO (h1 h:Heap) (s:Slc) (A:By):Prop where
 k:Keep [] h1 h
 r:RowS h t_uint8 s A
 o:∀q∈own s,h1.size≤q
theorem PO.keep {h1 h h':Heap} {s:Slc} {A:By} (p:PO h1 h s A) (k:Keep [] h h'):PO h1 h' s A:=⟨p.k.n k,p.r.keep k (by simp),p.o⟩
theorem PO.ap {n:Nat} {h1 h:Heap} {s:Slc} {A ys:By} {cs:List Value} {K:Slc→Heap→Prop} (p:PO h1 h s A) (hn:n=ys.length) (hc:cs=ys.flatMap Kd.u8.cells) (hb:A.length+ys.length≤1000000000)
 (hK:∀s' h',PO h1 h' s' (A++ys)→K s' h'):Go.Al.ap t_uint8 .u8 1 s n cs h K:=by
 refine apS p.r hn hc (by omega) fun s' h' r k o=>hK s' h' ⟨p.k.new k p.o,r,fun q hq =>?_⟩;have:=p.k.1;rcases own_of o q hq with h | h
 ·exact p.o q h
 ·omega
theorem be1_u8 {n:Nat} (h:n<256):be n 1=[u8I (n:Int)]:=by
 have:∀k:Nat,k<256→be k 1=[u8I (k:Int)]:=by decide
 exact this n h
theorem PO.one {h1 h:Heap} {s:Slc} {A:By} {n:Nat} {K:Slc→Heap→Prop} (p:PO h1 h s A) (hn:n<256) (hb:A.length≤100000000)
 (hK:∀s' h',PO h1 h' s' (A++be n 1)→K s' h'):bs t_uint8 .u8 [u8I (n:Int)] h fun s8 h14=>slCells s8 (s8.len*1) h14 fun cs=>Go.Al.ap t_uint8 .u8 1 s s8.len cs h14 K:=by
 refine bs_gen fun b h2 hb2 k2 r2 hs2=>slCells_seg r2.seg (by simp[Kd.size]) ?_;refine (p.keep k2).ap (ys:=be n 1) (by rw[be1_u8 hn]) (by rw[be1_u8 hn]) (by rw[be_len];omega) hK
def hdM (m:Msg):By:=headM m++be m.ents.length 1
theorem hdM_len {m:Msg}:(hdM m).length=7:=by unfold hdM headM;simp[be_len]
theorem bytes_ge1 {m:Msg} (t:Nat):(hdM m++(m.ents.take t).flatMap mEnt).length≤(bytesM m).length:=by
 have h:=flat_mono (f:=mEnt) m.ents t;unfold bytesM hdM;simp only [YAQ] at h ⊢;omega
def mid (m:Msg):By:=hdM m++m.ents.flatMap mEnt++be m.wants.length 1++(m.wants.flatMap fun z=>z.toList)++be m.objs.length 1
theorem bytes_mid {m:Msg}:bytesM m=mid m++m.objs.flatMap mTxt:=by unfold bytesM mid hdM;rfl
theorem bytes_ge3 {m:Msg} (t:Nat):(mid m++(m.objs.take t).flatMap mTxt).length≤(bytesM m).length:=by
 have h:=flat_mono (f:=mTxt) m.objs t;rw[bytes_mid];simp only [YAQ] at h ⊢;omega
theorem flatH_len:∀(l:List HVec),(l.flatMap fun z=>z.toList).length=32*l.length
 | []=>rfl
 | z::r=>by rw[YAL,YAQ,flatH_len r];simp;omega
theorem ZAv.s {v:MsK.Ty} {evs:List EtK.Ty} {m:Msg} {h:Heap} {K:ByteArray→Int→Heap→Prop} (a:MsAt h v evs m) (o:MsB m)
 (hK:∀h',Keep [] h h'→K (if putM m=true then bx (bytesM m) else ⟨#[]⟩) (if putM m=true then 0 else 2200) h'):ZAv.C v h K:=by
 apply ZAv.c;unfold ZAv.m;refine new_gen fun b h1 hb k1 e1 hs1 =>?_;have e1:h1[b]? = some (vobj t_api_Msg MsK v):=e1;have a1:=a.keep k1;have el:=a.e.len;have xl:=a.x.len;have wl:=a.w.len;have ol:=a.o.len;rw[YAT] at ol
 have hno:putM m=false→∀h',Keep [] h1 h'→K ⟨#[]⟩ 2200 h':=fun hp h' k'=>by
  have:=hK h' (k1.n k');rw[hp] at this;exact this
 have F:∀ {h'},Keep [] h1 h'→sm .i ((Pl.mk b 0).fld 0) m.kind h'∧sm .i ((Pl.mk b 0).fld 1) m.user h'∧sm .i ((Pl.mk b 0).fld 2) m.frm h'∧sm .sl ((Pl.mk b 0).fld 3) v.2.2.2.1 h'∧sm .sl ((Pl.mk b 0).fld 4) v.2.2.2.2.1 h'∧sm .sl ((Pl.mk b 0).fld 5) v.2.2.2.2.2.1 h':=fun k'=>by
  have:=ms_f (k'.g e1);rw[a.k,a.u,a.f] at this;exact this
 obtain ⟨f0,f1,f2,f3,f4,f5⟩:=F (Keep.rfl (h:=h1));by_cases hok:0≤m.kind∧m.kind≤6∧0≤m.user∧m.user≤255∧0≤m.frm∧m.frm≤65535∧m.ents.length≤255∧m.wants.length≤255∧m.objs.length≤255
 case neg=>
  have hp:putM m=false:=by
   cases hp:putM m with
   | false=>rfl
   | true =>
     unfold putM msgMay at hp;simp only [YAs,decide_eq_true_eq] at hp;exact absurd ⟨hp.1.1,hp.1.2.1,hp.1.2.2.1,hp.1.2.2.2.1,hp.1.2.2.2.2.1,hp.1.2.2.2.2.2.1,hp.1.2.2.2.2.2.2.1,hp.1.2.2.2.2.2.2.2.2.1,hp.1.2.2.2.2.2.2.2.2.2.1⟩ hok
  refine jn_at (true,()) h1 ?_ (by rw[if_pos (by rfl)];exact hno hp h1 Keep.rfl);refine ld_go f0 (itL (fun _=>⟨rfl,rfl⟩) fun c0=>ld_go f0 (itG (fun _=>⟨rfl,rfl⟩) fun c1=>ld_go f1 (itL (fun _=>⟨rfl,rfl⟩) fun c2=>ld_go f1 (itG (fun _=>⟨rfl,rfl⟩) fun c3=>ld_go f2 (itL (fun _=>⟨rfl,rfl⟩) fun c4=>ld_go f2 (itG (fun _=>⟨rfl,rfl⟩) fun c5=>ld_go f3 (itG (fun _=>⟨rfl,rfl⟩) fun c6=>ld_go f4 (itG (fun _=>⟨rfl,rfl⟩) fun c7=>ld_go f5 ⟨?_,rfl⟩))))))));rw[dT (show ((v.2.2.2.2.2.1.len:Int)>255) by omega)]
 obtain ⟨o1,o2,o3,o4,o5,o6,o7,o8,o9⟩:=hok;refine jn_at (false,()) h1 ?_ ?_
 ·refine ld_go f0 (itL (fun c=>by omega) fun c0=>ld_go f0 (itG (fun c=>by omega) fun c1=>ld_go f1 (itL (fun c=>by omega) fun c2=>ld_go f1 (itG (fun c=>by omega) fun c3=>ld_go f2 (itL (fun c=>by omega) fun c4=>ld_go f2 (itG (fun c=>by omega) fun c5=>ld_go f3 (itG (fun c=>by omega) fun c6=>ld_go f4 (itG (fun c=>by omega) fun c7=>ld_go f5 ⟨?_,rfl⟩))))))));rw[dF (show ¬((v.2.2.2.2.2.1.len:Int)>255) by omega)]
 rw[if_neg (by simp)];refine ld_go f0 (ld_go f1 (ld_go f2 (ld_go f3 ?_)));have n0:((m.kind.toNat:Nat):Int)=m.kind:=YAk (by omega);have n1:((m.user.toNat:Nat):Int)=m.user:=YAk (by omega);have n2:((m.frm.toNat:Nat):Int)=m.frm:=YAk (by omega);rw[←n0];refine ZAB.s (n:=1) (by decide) (by decide) (by omega) fun h3 k3=>⟨(F k3).2.2.2.1,(F k3).2.2.1,(F k3).2.1,?_⟩;show sadd (bx [77,71]) _ _;refine sadd_b (by rw[be_len];decide) ?_;rw[←n1];refine ZAB.s (n:=1) (by decide) (by decide) (by omega) fun h4 k4 =>?_;have k14:Keep [] h1 h4:=k3.n k4;refine ⟨(F k14).2.2.2.1,(F k14).2.2.1,sadd_b (by simp[be_len]) ?_⟩;rw[←n2];refine ZAB.s (n:=2) (by decide) (by decide) (by omega) fun h5 k5 =>?_;have k15:Keep [] h1 h5:=k14.n k5;refine ⟨(F k15).2.2.2.1,sadd_b (by simp[be_len]) ?_⟩;rw[el,xl];refine ZAB.s (n:=1) (by decide) (by decide) (by omega) fun h6 k6=>sadd_b (by simp[be_len]) ?_;have k16:Keep [] h1 h6:=k15.n k6;show s2b 5 (bx (hdM m)) h6 _;refine s2b_rowS fun s5 h7 k7 r7 ow7 =>?_;have z16:=k16.1;have p7:PO h1 h7 s5 (hdM m):=⟨k16.n k7,r7,fun q hq=>by rw[ow7] at hq;simp at hq;omega⟩;have hh:=hdM_len (m:=m);refine lp_go (fun (y:Slc×Int×Unit) (hx:Heap)=>∃t:Nat,y.2.1=t∧t≤m.ents.length∧PO h1 hx y.1 (hdM m++(m.ents.take t).flatMap mEnt)∧(hdM m++(m.ents.take t).flatMap mEnt).length≤131080∧∀e∈m.ents.take t,putMay e=true) (fun (y:Slc×Int×Unit) _=>m.ents.length-y.2.1.toNat) ?_ ?_
 ·exact ⟨0,rfl,YAr _,by rw[YAh];simpa using p7,by rw[YAh];simp[hh],by simp⟩
 rintro ⟨(s8:Slc),(ii:Int),_⟩ h8 ⟨t,et,ht,p8,l8,g8⟩;dsimp only at et p8 ⊢;subst et;refine ld_go (F p8.k).2.2.2.1 ?_;by_cases hlt:t<m.ents.length
 ·rw[if_pos (show decide ((t:Int)<(v.2.2.2.1.len:Int))=true from dT (by omega))];have hw:w64 ((t:Int)+1)=((t+1:Nat):Int):=w6 (by omega);rw[hw];have hin:m.ents[t]∈m.ents:=YAP hlt;have hx:=(a1.keep p8.k).x.getI (i:=t) (by omega) hlt;refine jn_in (fun y hx=>PO h1 hx y.1 (hdM m++(m.ents.take (t+1)).flatMap mEnt)∧(hdM m++(m.ents.take (t+1)).flatMap mEnt).length≤131080∧∀e∈m.ents.take (t+1),putMay e=true) ?_ ?_
  ·refine ld_go (F p8.k).2.2.2.1 ?_;refine seg_ix (a1.keep p8.k).e (x:=evs[t]'(by omega)) (by omega) (by rw[YAj];exact YAN (by omega)) rfl ?_;refine ZCd.s hx (o.v _ hin) fun h10 k10 =>?_;have p10:=p8.keep k10;have rl:=p8.r.len;by_cases hp:putMay m.ents[t]=true
   case neg=>
    rw[if_neg hp,if_neg hp];refine jn_at (true,()) h10 (by rw[if_pos (by decide)];exact ⟨rfl,rfl⟩) ?_;rw[if_pos (by rfl)];refine hno ?_ h10 p10.k
    cases hq:putM m with
    | false=>rfl
    | true =>
      unfold putM msgMay at hq;simp only [YAs,decide_eq_true_eq] at hq;exact absurd (List.all_eq_true.1 hq.1.2.2.2.2.2.2.2.1 _ hin) hp
   rw[if_pos hp,if_pos hp];by_cases hbig:(hdM m++(m.ents.take t).flatMap mEnt).length>65536
   ·refine jn_at (true,()) h10 (by rw[if_neg (by simp)];exact ⟨by rw[dT (by omega)],rfl⟩) ?_;rw[if_pos (by rfl)];refine hno ?_ h10 p10.k;have:=bytes_ge1 (m:=m) t;unfold putM;rw[dF (by omega),Bool.and_false]
   refine jn_at (false,()) h10 (by rw[if_neg (by simp)];exact ⟨by rw[dF (by omega)],rfl⟩) ?_;rw[if_neg (by simp)];have hpl:=putE_len hp;rw[bx_size];refine ZAB.s (n:=2) (by decide) (by decide) (by omega) fun h12 k12=>sadd_b (by rw[be_len];omega) ?_;refine (p10.keep k12).ap (ys:=mEnt m.ents[t]) (by rw[bx_size];rfl) (by rw[bx_dl];rfl) (by rw[mEnt_len];omega) fun s9 h9 p9 =>?_;rw[YAB,←flat_take hlt] at p9;refine ⟨p9,?_,fun e he =>?_⟩
   ·rw[flat_take hlt,←YAB,YAQ];rw[mEnt_len];omega
   ·rw[YAg hlt] at he;rcases List.mem_append.1 he with h | h
    ·exact g8 e h
    ·simp at h;subst h;exact hp
  ·rintro ⟨(s9:Slc),_⟩ h9 ⟨p9,l9,g9⟩;exact ⟨⟨t+1,rfl,by omega,p9,l9,g9⟩,by show m.ents.length-((t+1:Nat):Int).toNat<m.ents.length-((t:Nat):Int).toNat;omega⟩
 rw[if_neg (show ¬decide ((t:Int)<(v.2.2.2.1.len:Int))=true from dn (by omega))];obtain rfl:t=m.ents.length:=by omega
 rw[YAf (YAl _)] at p8 l8 g8;refine ld_go (F p8.k).2.2.2.2.1 ?_;rw[wl];refine p8.one (by omega) (by omega) fun s9 h9 p9 =>?_;generalize hB:hdM m++m.ents.flatMap mEnt++be m.wants.length 1=B at p9;have lB:B.length≤131081:=by rw[←hB,YAQ,be_len];omega
 refine lp_go (fun (y:Slc×Int×Unit) (hx:Heap)=>∃t:Nat,y.2.1=t∧t≤m.wants.length∧PO h1 hx y.1 (B++(m.wants.take t).flatMap fun z=>z.toList)) (fun (y:Slc×Int×Unit) _=>m.wants.length-y.2.1.toNat) ?_ ?_
 ·exact ⟨0,rfl,YAr _,by rw[YAh];simpa using p9⟩
 rintro ⟨(s10:Slc),(ii:Int),_⟩ h10 ⟨t,et,ht,p10⟩;dsimp only at et p10 ⊢;subst et;have fl:=flatH_len (m.wants.take t);rw[YAV] at fl;refine ld_go (F p10.k).2.2.2.2.1 ?_;by_cases hlt:t<m.wants.length
 ·rw[if_pos (show decide ((t:Int)<(v.2.2.2.2.1.len:Int))=true from dT (by omega))];have hw:w64 ((t:Int)+1)=((t+1:Nat):Int):=w6 (by omega);rw[hw];refine ld_go (F p10.k).2.2.2.2.1 ?_;refine seg_ix (a1.keep p10.k).w (x:=m.wants[t]) (by omega) (by rw[YAj];exact YAN hlt) rfl ?_;refine ZAy.s fun h12 k12 =>?_;refine (p10.keep k12).ap (ys:=(m.wants[t]).toList) (by rw[bx_size]) (by rw[bx_dl]) (by rw[YAQ,fl];simp;omega) fun s11 h11 p11 =>?_;rw[YAB,←flat_take (f:=fun z=>z.toList) hlt] at p11;exact ⟨⟨t+1,rfl,by omega,p11⟩,by show m.wants.length-((t+1:Nat):Int).toNat<m.wants.length-((t:Nat):Int).toNat;omega⟩
 rw[if_neg (show ¬decide ((t:Int)<(v.2.2.2.2.1.len:Int))=true from dn (by omega))];obtain rfl:t=m.wants.length:=by omega
 rw[YAf (YAl _)] at p10;refine ld_go (F p10.k).2.2.2.2.2 ?_;rw[ol];have fl:=flatH_len m.wants;refine p10.one (by omega) (by rw[YAQ];omega) fun s12 h12 p12 =>?_;have hC:B++(m.wants.flatMap fun z=>z.toList)++be m.objs.length 1=mid m:=by rw[←hB];rfl
 have lC:(mid m).length≤140000:=by rw[←hC,YAQ,YAQ,be_len];omega
 rw[hC] at p12;refine lp_go (fun (y:Slc×Int×Unit) (hx:Heap)=>∃t:Nat,y.2.1=t∧t≤m.objs.length∧PO h1 hx y.1 (mid m++(m.objs.take t).flatMap mTxt)∧(mid m++(m.objs.take t).flatMap mTxt).length≤300000∧∀s∈m.objs.take t,s.length≤65535) (fun (y:Slc×Int×Unit) _=>m.objs.length-y.2.1.toNat) ?_ ?_
 ·exact ⟨0,rfl,YAr _,by rw[YAh];simpa using p12,by rw[YAh];simp;omega,by simp⟩
 rintro ⟨(s13:Slc),(ii:Int),_⟩ h13 ⟨t,et,ht,p13,l13,g13⟩;dsimp only at et p13 ⊢;subst et;have rl:=p13.r.len;refine ld_go (F p13.k).2.2.2.2.2 ?_;by_cases hlt:t<m.objs.length
 ·rw[if_pos (show decide ((t:Int)<(v.2.2.2.2.2.1.len:Int))=true from dT (by omega))];have hw:w64 ((t:Int)+1)=((t+1:Nat):Int):=w6 (by omega);rw[hw];have hin:m.objs[t]∈m.objs:=YAP hlt;have hix:(m.objs.map bx)[((t:Nat):Int).toNat]? = some (bx m.objs[t]):=by rw[YAj,YAO,YAN hlt];rfl
  have oseg:=(a1.keep p13.k).o;refine jn_in (fun y hx=>PO h1 hx y.1 (mid m++(m.objs.take (t+1)).flatMap mTxt)∧(mid m++(m.objs.take (t+1)).flatMap mTxt).length≤300000∧∀s∈m.objs.take (t+1),s.length≤65535) ?_ ?_
  ·refine jn_at (decide (m.objs[t].length>65535∨(mid m++(m.objs.take t).flatMap mTxt).length>65536),()) h13 ?_ ?_
   ·refine ld_go (F p13.k).2.2.2.2.2 (seg_ix oseg (x:=bx m.objs[t]) (by omega) hix rfl ?_);rw[bx_size];refine itI (fun c=>⟨by rw[dT (by omega)],rfl⟩) fun c=>⟨?_,rfl⟩;by_cases hbig:(mid m++(m.objs.take t).flatMap mTxt).length>65536
    ·rw[dT (show ((s13.len:Int)>65536) by omega),dT (.inr hbig)]
    ·rw[dF (show ¬((s13.len:Int)>65536) by omega),dF (by omega)]
   by_cases hbad:m.objs[t].length>65535∨(mid m++(m.objs.take t).flatMap mTxt).length>65536
   ·rw[if_pos (dT hbad)];refine hno ?_ h13 p13.k
    cases hq:putM m with
    | false=>rfl
    | true =>
      unfold putM msgMay at hq;simp only [YAs,decide_eq_true_eq] at hq;have h1:=List.all_eq_true.1 hq.1.2.2.2.2.2.2.2.2.2.2 _ hin;have h2:=bytes_ge3 (m:=m) t;simp at h1;omega
   rw[if_neg (by simpa using hbad)];refine ld_go (F p13.k).2.2.2.2.2 (seg_ix oseg (x:=bx m.objs[t]) (by omega) hix rfl ?_);refine ld_go (F p13.k).2.2.2.2.2 (seg_ixl oseg (x:=bx m.objs[t]) (by omega) hix rfl fun l5 hl5=>ld_go hl5 ?_);rw[bx_size];refine ZAB.s (n:=2) (by decide) (by decide) (by omega) fun h14 k14=>⟨sm_keep (by decide) hl5 k14,(F (p13.k.n k14)).2.2.2.2.2,?_⟩;refine sadd_b (by rw[be_len];omega) ?_;refine (p13.keep k14).ap (ys:=mTxt m.objs[t]) (by rw[bx_size];rfl) (by rw[bx_dl];rfl) (by rw[mTxt_len];omega) fun s15 h15 p15 =>?_;rw[YAB,←flat_take hlt] at p15;refine ⟨p15,?_,fun e he =>?_⟩
   ·rw[flat_take hlt,←YAB,YAQ];rw[mTxt_len];omega
   ·rw[YAg hlt] at he;rcases List.mem_append.1 he with h | h
    ·exact g13 e h
    ·simp at h;subst h;omega
  ·rintro ⟨(s9:Slc),_⟩ h9 ⟨p9,l9,g9⟩;exact ⟨⟨t+1,rfl,by omega,p9,l9,g9⟩,by show m.objs.length-((t+1:Nat):Int).toNat<m.objs.length-((t:Nat):Int).toNat;omega⟩
 rw[if_neg (show ¬decide ((t:Int)<(v.2.2.2.2.2.1.len:Int))=true from dn (by omega))];obtain rfl:t=m.objs.length:=by omega
 rw[YAf (YAl _)] at p13 l13 g13 rl;rw[←bytes_mid] at p13 l13 rl;by_cases hbig:(bytesM m).length>65536
 ·rw[if_pos (dT (by omega))];refine hno ?_ h13 p13.k;unfold putM;rw[dF (by omega),Bool.and_false]
 rw[if_neg (by simp;omega)]
 have hp:putM m=true:=by
  unfold putM msgMay;simp only [YAs,decide_eq_true_eq,YAA];exact ⟨⟨o1,o2,o3,o4,o5,o6,o7,g8,o8,o9,g13⟩,by omega⟩
 refine b2s_seg p13.r.seg fun q =>?_;have:=hK h13 (k1.n p13.k);rw[hp] at this;exact this
def numsM (m:Msg):List (Int×Nat):=[(77,1),(71,1),(m.kind,1),(m.user,1),(m.frm,2)]
def numB (p:Int×Nat):By:=be p.1.toNat p.2
theorem nums_head {m:Msg}:(numsM m).flatMap numB=headM m:=by
 unfold numsM headM numB;simp only [YAL,List.flatMap_nil,YAD];have e1:be (77:Int).toNat 1=[77]:=by decide
 have e2:be (71:Int).toNat 1=[71]:=by decide
 rw[e1,e2];simp only [YAB]
 rfl
theorem nums_len (m:Msg) (t:Nat):(((numsM m).take t).flatMap numB).length≤6:=by
 have h:=flat_mono (f:=numB) (numsM m) t;have:((numsM m).flatMap numB).length=6:=by rw[nums_head];unfold headM;simp[be_len]
 omega
theorem ZC9.s {w b:Nat} {v:MsK.Ty} {evs:List EtK.Ty} {m:Msg} {h0 h:Heap} {s:Slc} {K:Int→Heap→Prop} (q:NW h0 h w s []) (eb:h0[b]? = some (vobj t_api_Msg MsK v)) (a:MsAt h0 v evs m) (o:MsB m) (hk:0≤m.kind∧m.kind≤6)
 (hbad:∀e h',e≠0→Keep [] h0 h'→putM m=false→K e h')
 (hok:putM m=true→∀h' s',NW h0 h' w s' (bytesM m)→K 0 h'):ZC9.C (some ⟨w,0⟩) (some ⟨b,0⟩) h K:=by
 apply ZC9.c;unfold ZC9.m;have lw:=lt_of_some q.i.o;have ls:=q.i.r.lt;refine new_gen fun b1 h1 hb1 k1 e1 hs1 =>?_;have e1:h1[b1]? = some (vobj t_p_wire_Writer .p (some ⟨w,0⟩)):=e1
 have i1:BW t_p_wire_Writer h0 h1 w b1 s []:=⟨q.keep k1 (by simp),e1,fun hm=>by
  rcases List.mem_cons.1 hm with e | e
  ·omega
  ·have:=ls b1 e;omega⟩
 have ff:∀ {hh s' bs'},BW t_p_wire_Writer h0 hh w b1 s' bs'→_:=fun i=>ms_f (i.q.k.g eb);refine ixs_bx (l:=[77,71]) (i:=0) (by decide) (ixs_bx (l:=[77,71]) (i:=1) (by decide) ?_);refine nck_go (ld_go (ff i1).1 (nck_go (ld_go (ff i1).2.1 (nck_go (ld_go (ff i1).2.2.1 ?_)))));rw[a.k,a.u,a.f];have nl:(numsM m).length=5:=rfl;refine lp_go (fun (y:Int×Unit) (h2:Heap)=>∃(t:Nat) (s1:Slc),y.1=t∧t≤5∧BW t_p_wire_Writer h0 h2 w b1 s1 (((numsM m).take t).flatMap numB)∧∀p∈(numsM m).take t,0≤p.1∧p.1<((256^p.2:Nat):Int)) (fun (y:Int×Unit) _=>5-y.1.toNat) ?_ ?_
 ·exact ⟨0,s,rfl,by decide,by simpa using i1,by simp⟩
 rintro ⟨(jj:Int),_⟩ h2 ⟨t,s1,e,ht,i2,hp⟩;dsimp only at e ⊢;subst e;by_cases hlt:t<5
 ·rw[if_pos (show decide ((t:Int)<5)=true from dT (by omega))];refine ⟨by show (0:Int)≤t;omega,by show (t:Int)<5;omega,?_⟩
  have hel:∀d:Kd.Ty (Kd.ar 2 .i),(((((((Vector.replicate 5 ((Vector.replicate 2 0):Kd.Ty (Kd.ar 2 .i))).setIfInBounds 0 (((Vector.replicate 2 (0:Int)).setIfInBounds 0 ((([77,71]:By)[0]).toNat:Int)).setIfInBounds 1 1)).setIfInBounds 1 (((Vector.replicate 2 (0:Int)).setIfInBounds 0 ((([77,71]:By)[1]).toNat:Int)).setIfInBounds 1 1)).setIfInBounds 2 (((Vector.replicate 2 (0:Int)).setIfInBounds 0 m.kind).setIfInBounds 1 1)).setIfInBounds 3 (((Vector.replicate 2 (0:Int)).setIfInBounds 0 m.user).setIfInBounds 1 1)).setIfInBounds 4 (((Vector.replicate 2 (0:Int)).setIfInBounds 0 m.frm).setIfInBounds 1 2)).toList.getD (t:Int).toNat d)
   = (#v[(numsM m)[t].1,((numsM m)[t].2:Int)]:Vector Int 2):=by
   intro d;rw[YAj];obtain rfl | rfl | rfl | rfl | rfl:t=0∨t=1∨t=2∨t=3∨t=4:=by omega
   all_goals rfl
  have hfit:∀d:Kd.Ty (Kd.ar 2 .i),True:=fun _=>trivial;refine new_st_gen fun b2 h3 hb2 k3 e3 hs3 =>?_;rw[hel] at e3;have i3:=i2.keep k3 (by simp);refine ld_go (sm_all i3.e) ?_;refine ⟨by decide,by decide,?_⟩;refine ld_go (ar_sm e3 (i:=0) (by decide)) ?_;refine ⟨by decide,by decide,?_⟩;refine ld_go (ar_sm e3 (i:=1) (by decide)) ?_
  have hn:(numsM m)[t].2=1∨(numsM m)[t].2=2∨(numsM m)[t].2=4:=by
   obtain rfl | rfl | rfl | rfl | rfl:t=0∨t=1∨t=2∨t=3∨t=4:=by omega
   all_goals simp[numsM]
  have hl6:=nums_len m t;refine i3.numG (n:=(numsM m)[t].2) hn (by omega) (fun e' h' he k' hh =>?_) fun a1 a2 a3 h5 s5 i5 =>?_
  ·skip
   rw[if_pos (by simpa using he)];refine hbad e' h' he k' ?_;have hx:¬(0≤(numsM m)[t].1∧(numsM m)[t].1<((256^(numsM m)[t].2:Nat):Int)):=fun hx=>hh ⟨hx.1,hx.2,by omega⟩
   cases hpm:putM m with
   | false=>rfl
   | true =>
     exfalso
     unfold putM msgMay at hpm;simp only [YAs,decide_eq_true_eq] at hpm;obtain ⟨⟨c1,c2,c3,c4,c5,c6,_⟩,_⟩:=hpm;apply hx;obtain rfl | rfl | rfl | rfl | rfl:t=0∨t=1∨t=2∨t=3∨t=4:=by omega
     ·exact ⟨by show (0:Int)≤77;decide,by show (77:Int)<((256^1:Nat):Int);decide⟩
     ·exact ⟨by show (0:Int)≤71;decide,by show (71:Int)<((256^1:Nat):Int);decide⟩
     ·exact ⟨c1,by show m.kind<((256^1:Nat):Int);omega⟩
     ·exact ⟨c3,by show m.user<((256^1:Nat):Int);omega⟩
     ·exact ⟨c5,by show m.frm<((256^2:Nat):Int);omega⟩
  ·skip
   rw[if_neg (by decide)];have hw:w64 ((t:Int)+1)=((t+1:Nat):Int):=w6 (by omega);rw[hw];refine ⟨⟨t+1,s5,rfl,by omega,by rw[flat_take (by omega)];exact i5,fun p hpm =>?_⟩,by simp;omega⟩;rw[YAg (by omega)] at hpm;rcases List.mem_append.1 hpm with h' | h'
   ·exact hp p h'
   ·simp at h';subst h';exact ⟨a1,a2⟩
 rw[if_neg (show ¬decide ((t:Int)<5)=true from dn (by omega))];obtain rfl:t=5:=by omega
 have h5:(numsM m).take 5=numsM m:=rfl;rw[h5,nums_head] at i2;rw[h5] at hp;have hu:=hp (m.user,1) (by simp[numsM]);have hf:=hp (m.frm,2) (by simp[numsM]);dsimp only at hu hf;have hd6:(headM m).length=6:=by unfold headM;simp[be_len]
 have el:v.2.2.2.1.len=m.ents.length:=by rw[a.e.len,a.x.len]
 have wl:v.2.2.2.2.1.len=m.wants.length:=a.w.len;have ol:v.2.2.2.2.2.1.len=m.objs.length:=by rw[a.o.len,YAT]
 have no:∀ {P:Prop},(putM m=true→P)→¬P→putM m=false:=fun h h'=>by
  cases hpm:putM m with
  | false=>rfl
  | true=>exact absurd (h hpm) h'
 have dec:putM m=true→(m.ents.length≤255∧(∀e∈m.ents,putMay e=true)∧m.wants.length≤255∧m.objs.length≤255∧(∀x∈m.objs,x.length≤65535))∧(bytesM m).length≤65536:=fun hpm=>by
  unfold putM msgMay at hpm;simp only [YAs,decide_eq_true_eq] at hpm;obtain ⟨⟨c1,c2,c3,c4,c5,c6,c7,c8,c9,c10,c11⟩,c12⟩:=hpm;exact ⟨⟨c7,List.all_eq_true.1 c8,c9,c10,fun x hx=>of_decide_eq_true (List.all_eq_true.1 c11 x hx)⟩,c12⟩
 have tot:∀pre rest:By,bytesM m=pre++rest→(bytesM m).length≤65536→pre.length≤65536:=fun pre rest e hh=>by rw[e,YAQ] at hh;omega
 refine ld_go (sm_all i2.e) (nck_go (ld_go (ff i2).2.2.2.1 ?_));apply ZBe.c;unfold ZBe.m;rw[el];refine i2.numG (n:=1) (by decide) (by omega) (fun e' h' he k' hh =>?_) fun a1 a2 a3 h6 s6 i6 =>?_
 ·dsimp only;rw[if_pos (by simpa using he)];rw[if_pos (by simpa using he)];exact hbad e' h' he k' (no (P:=m.ents.length≤255) (fun hpm=>(dec hpm).1.1) fun hx=>hh ⟨by omega,by omega,by omega⟩)
 dsimp only;rw[if_neg (by decide)];rw[YAj] at i6;refine msgs_eachE i6 a.e a.x o.v (by omega) (by simp[be_len];omega) (fun e' h' he k' hh =>?_) fun pe le h7 s7 i7 =>?_
 ·skip
  rw[if_pos (by simpa using he)];exact hbad e' h' he k' (no dec fun hx=>hh ⟨hx.1.2.1,tot _ (be m.wants.length 1++((m.wants.flatMap fun z=>z.toList)++(be m.objs.length 1++m.objs.flatMap mTxt))) (by unfold bytesM;simp only [YAB]) hx.2⟩)
 rw[if_neg (by decide)];refine ld_go (sm_all i7.e) (nck_go (ld_go (ff i7).2.2.2.2.1 (ld_go (sm_all i7.e) ?_)));apply ZBj.c;unfold ZBj.m;rw[wl];refine i7.numG (n:=1) (by decide) le (fun e' h' he k' hh =>?_) fun b1' b2' b3' h8 s8 i8 =>?_
 ·dsimp only;rw[if_pos (by simpa using he)];rw[if_pos (by simpa using he)];refine hbad e' h' he k' (no dec fun hx=>hh ⟨by omega,by have:=hx.1.2.2.1;omega,?_⟩);have:=tot (headM m++be m.ents.length 1++m.ents.flatMap mEnt++be m.wants.length 1) ((m.wants.flatMap fun z=>z.toList)++(be m.objs.length 1++m.objs.flatMap mTxt)) (by unfold bytesM;simp only [YAB]) hx.2;rw[YAQ,be_len] at this;exact this
 dsimp only;rw[if_neg (by decide)];rw[YAj] at i8;refine msgs_eachH i8 a.w (by omega) (by rw[YAQ,be_len];exact b3') (fun e' h' he k' hh =>?_) fun lz h9 s9 i9 =>?_
 ·rw[if_pos (by simpa using he)];exact hbad e' h' he k' (no dec fun hx=>hh (tot _ (be m.objs.length 1++m.objs.flatMap mTxt) (by unfold bytesM;simp only [YAB]) hx.2))
 rw[if_neg (by decide)];refine ld_go (sm_all i9.e) (nck_go (ld_go (ff i9).2.2.2.2.2 ?_));apply ZCL.c;unfold ZCL.m;rw[ol];refine i9.numG (n:=1) (by decide) lz (fun e' h' he k' hh =>?_) fun c1' c2' c3' h10 s10 i10 =>?_
 ·dsimp only;rw[if_pos (by simpa using he)];refine hbad e' h' he k' (no dec fun hx=>hh ⟨by omega,by have:=hx.1.2.2.2.1;omega,?_⟩);have:=tot (headM m++be m.ents.length 1++m.ents.flatMap mEnt++be m.wants.length 1++(m.wants.flatMap fun z=>z.toList)++be m.objs.length 1) (m.objs.flatMap mTxt) (by unfold bytesM;simp only [YAB]) hx.2;rw[YAQ,be_len] at this;exact this
 dsimp only;rw[if_neg (by decide)];rw[YAj] at i10;refine msgs_eachS i10 a.o (by omega) (by rw[YAQ,be_len];exact c3') (fun e' h' he k' hh =>?_) fun po lo h11 s11 i11 =>?_
 ·exact hbad e' h' he k' (no dec fun hx=>hh ⟨hx.1.2.2.2.2,hx.2⟩)
 ·refine hok ?_ h11 s11 i11.q;unfold putM msgMay;simp only [YAs,decide_eq_true_eq];refine ⟨⟨hk.1,hk.2,hu.1,by omega,hf.1,by omega,by omega,List.all_eq_true.2 pe,by omega,by omega,List.all_eq_true.2 fun x hx=>dT (po x hx)⟩,lo⟩
theorem ZB5.s {v:MsK.Ty} {evs:List EtK.Ty} {m:Msg} {h:Heap} {K:ByteArray→Int→Heap→Prop} (a:MsAt h v evs m) (o:MsB m)
 (hK:∀h',Keep [] h h'→K (if putM m=true then bx (bytesM m) else ⟨#[]⟩) (if putM m=true then 0 else 2200) h'):ZB5.C v h K:=by
 apply ZB5.c;unfold ZB5.m;refine new_gen fun b1 h1 hb1 k1 e1 hs1 =>?_;have e1:h1[b1]? = some (vobj t_api_Msg MsK v):=e1;refine ZB4.s fun h2 k2 i2 =>?_;have q2:NW h1 h2 h1.size ⟨none,0,0⟩ []:=⟨k2,i2,YAl _,by simp[own]⟩;have f2:=ms_f (k2.g e1);have a1:=a.keep k1;by_cases hk:0≤m.kind∧m.kind≤6
 ·refine jn_in (fun y h'=>Keep [] h1 h'∧((y=(true,())∧putM m=false)∨(y=(false,())∧putM m=true∧∃s,NW h1 h' h1.size s (bytesM m)))) ?_ ?_
  ·refine ld_go f2.1 ?_;rw[a.k,if_neg (by simp;omega)];refine ld_go f2.1 ?_;rw[a.k,if_neg (by simp;omega)];refine ZC9.s q2 e1 a1 o hk (fun e h' he k' hp=>⟨k',.inl ⟨by simp[he],hp⟩⟩) fun hp h' s' q'=>⟨q'.k,.inr ⟨by simp,hp,s',q'⟩⟩
  ·rintro y h3 ⟨k3,⟨rfl,hp⟩ | ⟨rfl,hp,s,q⟩⟩
   ·rw[if_pos (by rfl)];have:=hK h3 (k1.n k3);rw[hp] at this;exact this
   ·rw[if_neg (by simp)];refine ZAV.s q.i ?_;have:=hK h3 (k1.n k3);rw[hp] at this;exact this
 ·have hp:putM m=false:=by
   cases hpm:putM m with
   | false=>rfl
   | true =>
     exfalso
     unfold putM msgMay at hpm;simp only [YAs,decide_eq_true_eq] at hpm;exact hk ⟨hpm.1.1,hpm.1.2.1⟩
  rw[hp] at hK;refine jn_at (true,()) h2 ?_ ?_
  ·refine ld_go f2.1 ?_;rw[a.k];by_cases h0:m.kind<0
   ·rw[if_pos (by simpa using h0)];exact ⟨rfl,rfl⟩
   ·rw[if_neg (by simpa using h0)];refine ld_go f2.1 ?_;rw[a.k,if_pos (dT (show m.kind>6 by omega))];exact ⟨rfl,rfl⟩
  ·rw[if_pos (by rfl)];exact hK h2 (k1.n k2)
section
variable {m:Mb} {u:Int} {X:Fs}
end
section
variable {w:Wk}
variable (hX:stMay w.X=true)
include hX
end
theorem ZAK.s {d:ByteArray} {h:Heap} {K:Kd.Ty (.ar 32 .u8)→Heap→Prop} (hd:d.size≤65536) (hK:∀h',Keep [] h h'→K (hashS d) h'):ZAK.C d h K:=by
 apply ZAK.c;unfold ZAK.m;refine new_gen fun b1 h1 hb1 k1 e1 hs1 =>?_;refine bs_gen fun bq h2 hbq k2 r2 hs2 =>?_
 have hl:(tagL 0 [d]).length≤1000000:=by
  unfold tagL pieceL;simp[be_len];omega
 refine ZCa.s (tag:=0) r2.seg (by decide) (by simp only [lens,YAW,List.map_nil,List.sum_cons,List.sum_nil];omega) hl fun h3 k3 =>?_;refine new_st_gen fun b2 h5 hb2 k5 e5 hs5 =>?_;refine ld_go (sm_all e5) ?_;have k15:Keep [] h1 h5:=(k2.n k3).n k5;refine st_to (k15.g e1) fun h6 k6 e6 hs6 =>?_;refine ld_go (sm_all e6) ?_;have:=k1.1;exact hK h6 ((k1.n k15).new k6 (by simp;omega))
theorem hb_eq (x y:HsV):HK.beq x y=true↔x=y:=beq_eq (k:=HK) rfl
theorem ZCn.s {a:Slc} {os:List ByteArray} {h:Heap} {K:Bool→Heap→Prop} (g:Seg .s a os h) (hl:os.length≤9223372036854775806) (hz:∀o∈os,o.size≤65536)
 (hT:¬noClash os→∀h',Keep [] h h'→K true h') (hF:noClash os→∀h',Keep [] h h'→K false h'):ZCn.C a h K:=by
 apply ZCn.c;unfold ZCn.m;have gl:=g.len;refine lp_go (fun (y:Int×Unit) (h1:Heap)=>∃i:Nat,y.1=i∧i≤os.length∧Keep [] h h1∧∀p q,(hp:p<os.length)→(hq:q<os.length)→p<i→q<p→hashS os[p]=hashS os[q]→os[p]=os[q]) (fun (y:Int×Unit) _=>os.length-y.1.toNat) ?_ ?_
 ·exact ⟨0,rfl,YAr _,Keep.rfl,fun p q _ _ h=>by omega⟩
 rintro ⟨(ii:Int),_⟩ h1 ⟨i,e,hi,k1,hall⟩;dsimp only at e ⊢;subst e;by_cases hlt:i<os.length
 ·rw[if_pos (show decide ((i:Int)<(a.len:Int))=true from dT (by omega))];have hw:w64 ((i:Int)+1)=((i+1:Nat):Int):=w6 (by omega);rw[hw];refine lp_go (fun (y:Int×Unit) (h2:Heap)=>∃j:Nat,y.1=j∧j≤i∧Keep [] h h2∧∀q,(hq:q<os.length)→q<j→hashS os[i]=hashS os[q]→os[i]=os[q]) (fun (y:Int×Unit) _=>i-y.1.toNat) ?_ ?_
  ·exact ⟨0,rfl,YAr _,k1,fun q _ h=>by omega⟩
  rintro ⟨(jj:Int),_⟩ h2 ⟨j,e,hj,k2,hin⟩;dsimp only at e ⊢;subst e;by_cases hlj:j<i
  ·rw[if_pos (show decide ((j:Int)<(i:Int))=true from dT (by omega))];have hw2:w64 ((j:Int)+1)=((j+1:Nat):Int):=w6 (by omega);rw[hw2];have g2:=g.keep (by decide) k2;have hjl:j<os.length:=by omega
   refine jn_go ?_;refine jn_in (fun y h'=>Keep [] h h'∧(y.1=true→hashS os[i]=hashS os[j]∧os[i]≠os[j])∧(y.1=false→hashS os[i]=hashS os[j]→os[i]=os[j])) ?_ ?_
   ·refine seg_ix g2 (x:=os[i]) (by omega) (by simp[hlt]) rfl ?_;refine seg_ix g2 (x:=os[j]) (by omega) (by simp[hjl]) rfl ?_;by_cases he:os[i]=os[j]
    ·rw[if_neg (by rw[dT he];simp)];exact ⟨k2,fun h=>by simp at h,fun _ _=>he⟩
    ·rw[if_pos (by rw[dF he];rfl)];refine seg_ix g2 (x:=os[i]) (by omega) (by simp[hlt]) rfl ?_;refine seg_ixl g2 (x:=os[j]) (by omega) (by simp[hjl]) rfl fun l hl'=>ld_go hl' ?_;refine ZAK.s (hz _ (YAP hlt)) fun h5 k5 =>?_;refine ⟨sm_keep (by decide) hl' k5,?_⟩;refine ZAK.s (hz _ (YAP hjl)) fun h6 k6 =>?_;have hb:=hb_eq (hashS os[i]) (hashS os[j]);generalize hashS os[i]=u at hb ⊢;generalize hashS os[j]=w at hb ⊢;refine ⟨(k2.n k5).n k6,?_⟩;show (HK.beq u w=true→_)∧(HK.beq u w=false→_);exact ⟨fun h=>⟨hb.1 h,he⟩,fun h e=>by rw[hb.2 e] at h;simp at h⟩
   ·rintro ⟨(y:Bool),_⟩ h4 ⟨k4,y1,y2⟩;dsimp only at y1 y2 ⊢
    cases y with
    | true =>
      rw[if_pos rfl];obtain ⟨a1,a2⟩:=y1 rfl;exact hT (fun hn=>a2 (hn _ (YAP hlt) _ (YAP hjl) a1)) h4 k4
    | false =>
      rw[if_neg (by simp)];refine ⟨⟨j+1,rfl,by omega,k4,fun q hq hqj =>?_⟩,by simp;omega⟩;by_cases e:q=j
      ·subst e;exact y2 rfl
      ·exact hin q hq (by omega)
  ·rw[if_neg (show ¬decide ((j:Int)<(i:Int))=true by simp;omega)];obtain rfl:j=i:=by omega
   refine ⟨⟨j+1,rfl,by omega,k2,fun p q hp hq hpi hqp =>?_⟩,by simp;omega⟩;by_cases e:p=j
   ·subst e;exact hin q hq hqp
   ·exact hall p q hp hq (by omega) hqp
 ·rw[if_neg (show ¬decide ((i:Int)<(a.len:Int))=true by simp;omega)];refine hF (fun x hx y hy e =>?_) h1 k1;obtain ⟨p,hp,rfl⟩:=List.mem_iff_getElem.1 hx;obtain ⟨q,hq,rfl⟩:=List.mem_iff_getElem.1 hy;by_cases h1:q<p
  ·exact hall p q hp hq (by omega) h1 e
  ·by_cases h2:p<q
   ·exact (hall q p hq hp (by omega) h2 e.symm).symm
   ·have:p=q:=by omega
    subst this;rfl
def knows (hv:List ByteArray) (o:ByteArray):Prop:=∃d∈hv,hashS d=hashS o
theorem known_none {hv:List ByteArray} (hz:∀o∈hv,o.size≤65536) {h:HsV}:known hv h=none↔¬ ∃d∈hv,hashS d=h:=by
 unfold known;rw[List.find?_eq_none]
 constructor
 ·rintro h1 ⟨d,hd,e⟩;exact h1 d hd (by simp[hz d hd,e])
 ·rintro h1 d hd h2;simp only [YAs,decide_eq_true_eq] at h2;exact h1 ⟨d,hd,h2.2⟩
structure Lev (X:Fs) (hv:List ByteArray) (i:Nat):Prop where
 l0:1≤i→∀t∈X,knows hv (tabText t)
 l1:2≤i→∀t∈X,∀x∈t,knows hv (if x.kind=1 then bx (putBytes x.ents) else treeR x.data)
 l2:3≤i→∀t∈X,∀x∈t,x.kind≠1→∀o∈treeI x.data,knows hv o
 l3:4≤i→∀t∈X,∀x∈t,x.kind≠1→∀o∈treeB x.data,knows hv o
theorem miss_len {K:Kn} {l:List HsV}:(miss K l).length≤l.length:=List.length_filter_le _ _
theorem treeW_len {K:Kn} {d:ByteArray} (hd:d.size≤4096):(treeW K d).length≤64:=by
 have h1:=treeB_len (d:=d);have h2:=treeI_len (d:=d);have m1:=miss_len (K:=K) (l:=(treeI d).map hashS);have m2:=miss_len (K:=K) (l:=(treeB d).map hashS);rw[YAT] at m1 m2;unfold treeW
 cases K (hashS (treeR d)) with
 | none=>simp
 | some r =>
   dsimp only;split <;> omega
theorem stW_len {K:Kn} {X:Fs} (hm:stMay X=true):(stW K X).length≤60000:=by
 obtain ⟨_,h2,h3,_⟩:=st_ok hm
 have a:∀ {t:Tab},(∀x∈t,ndMay x=true)→(t.flatMap (ndW K)).length≤64*t.length:=by
  intro t
  induction t with
  | nil=>intro _;simp
  | cons x r ih =>
    intro h;have h1:=ih fun y hy=>h y (by simp[hy])
    have h2:(ndW K x).length≤64:=by
     unfold ndW;split
     ·have:=miss_len (K:=K) (l:=[ndRoot x]);simp at this;omega
     ·exact treeW_len (nd_small (h x (by simp))).1
    rw[YAL,YAQ,YAR];omega
 have b:∀ {Y:Fs},(∀t∈Y,tabMay t=true)→(stW K Y).length≤2048*Y.length:=by
  intro Y
  induction Y with
  | nil=>intro _;simp[stW]
  | cons t r ih =>
    intro h;have h1:=ih fun y hy=>h y (by simp[hy]);obtain ⟨_,q2,q3⟩:=tab_ok (h t (by simp));have h2:=a q2;unfold stW at h1 ⊢;rw[YAL,YAQ,YAR];omega
 have:=b h3;omega
theorem round {X:Fs} {hv:List ByteArray} {i:Nat} (hm:stMay X=true) (hn:noClash (buildO X)) (hsub:∀o∈hv,o∈allO X) (hlev:Lev X hv i) :
 loadS (known hv) (buildH X)=(X,[],0)∨∃ws,loadS (known hv) (buildH X)=([],ws,1501)∧ws≠[]∧ws.length≤60000∧i<4∧(∀w∈ws,∃o∈allO X,known (buildO X) w=some o∧hashS o=w) ∧
  ∀hv',(∀o∈hv,o∈hv')→(∀w∈ws,∃o∈hv',hashS o=w)→Lev X hv' (i+1):=by
 have hz:∀o∈hv,o.size≤65536:=fun o ho=>allO_size hm (hsub o ho)
 have hkr:∀o∈allO X,KrO (known hv) o:=fun o ho=>by
  cases hk:known hv (hashS o) with
  | none=>exact .inr hk
  | some d =>
    obtain ⟨h1,h2⟩:=known_some hk;have:=hn d (mem_buildO.2 (hsub d h1)) o (mem_buildO.2 ho) h2;subst this;exact .inl hk
 have hkn:∀ {o:ByteArray},known hv (hashS o)=none↔¬knows hv o:=fun {o}=>known_none hz;have hin:∀ {w:HsV},(∃o∈allO X,hashS o=w)→∃o∈allO X,known (buildO X) w=some o∧hashS o=w:=fun ⟨o,ho,e⟩=>⟨o,ho,by rw[←e];exact known_of hn (mem_buildO.2 ho) (allO_size hm ho),e⟩;have stay:∀ {hv':List ByteArray} {o:ByteArray},(∀o∈hv,o∈hv')→knows hv o→knows hv' o:=fun hs ⟨d,hd,e⟩=>⟨d,hs d hd,e⟩;have all:∀ {o:ByteArray},o∈allO X↔∃t∈X,(∃x∈t,o∈ndAll x)∨o=tabText t:=mem_allO;rw[loadS_eq hm hkr];by_cases hms:miss (known hv) (buildH X)=[]
 case neg=>
  rw[if_pos hms]
  have hi:i=0:=by
   by_cases h:1≤i
   ·exfalso
    apply hms;rw[YAJ];intro a ha;obtain ⟨h1,h2⟩:=mem_miss.1 ha;unfold buildH at h1;obtain ⟨t,ht,rfl⟩:=List.mem_map.1 h1;exact hkn.1 h2 (hlev.l0 h t ht)
   ·omega
  subst hi;refine .inr ⟨_,rfl,fun h=>hms (onceL_ne.1 h).2,?_,by omega,fun w hw =>?_,fun hv' hs hw =>?_⟩
  ·have h1:=onceL_len (L:=([]:List HsV)) (xs:=miss (known hv) (buildH X));have h2:=miss_len (K:=known hv) (l:=buildH X);have h3:(buildH X).length=X.length:=by unfold buildH;rw[YAT]
   have h4:=(st_ok hm).2.1;simp only [YAU] at h1;omega
  ·have hw:=(mem_onceL.1 hw).resolve_left (by simp);obtain ⟨h1,_⟩:=mem_miss.1 hw;unfold buildH at h1;obtain ⟨t,ht,rfl⟩:=List.mem_map.1 h1;exact hin ⟨_,all.2 ⟨t,ht,.inr rfl⟩,rfl⟩
  ·refine ⟨fun _ t ht =>?_,fun h=>by omega,fun h=>by omega,fun h=>by omega⟩
   cases hk:known hv (hashS (tabText t)) with
   | none =>
     obtain ⟨o,ho,e⟩:=hw (hashS (tabText t)) (mem_onceL.2 (.inr (mem_miss.2 ⟨by unfold buildH;exact YAY ht,hk⟩)));exact ⟨o,ho,e⟩
   | some d =>
     obtain ⟨h1,h2⟩:=known_some hk;exact ⟨d,hs d h1,h2⟩
 rw[if_neg (c:=miss (known hv) (buildH X)≠[]) (by simp[hms])]
 have h0:∀t∈X,knows hv (tabText t):=fun t ht=>by
  by_cases hk:knows hv (tabText t)
  ·exact hk
  ·have:hashS (tabText t)∈miss (known hv) (buildH X):=mem_miss.2 ⟨by unfold buildH;exact YAY ht,hkn.2 hk⟩;rw[hms] at this;simp at this
 by_cases hst:stW (known hv) X=[]
 ·rw[if_neg (c:=stW (known hv) X≠[]) (by simp[hst])];exact .inl rfl
 rw[if_pos (c:=stW (known hv) X≠[]) hst];have inW:∀ {t:Tab} {x:Nd} {w:HsV},t∈X→x∈t→w∈ndW (known hv) x→w∈onceL [] (stW (known hv) X):=fun ht hx hw=>mem_onceL.2 (.inr (List.mem_flatMap.2 ⟨_,ht,List.mem_flatMap.2 ⟨_,hx,hw⟩⟩))
 have dirW:∀ {x:Nd},x.kind=1→(¬knows hv (bx (putBytes x.ents))→hashS (bx (putBytes x.ents))∈ndW (known hv) x)∧∀w∈ndW (known hv) x,w=hashS (bx (putBytes x.ents))∧¬knows hv (bx (putBytes x.ents)):=fun {x} hk=>by
  have e:ndW (known hv) x=miss (known hv) [hashS (bx (putBytes x.ents))]:=by
   unfold ndW;rw[if_pos hk];unfold ndRoot;rw[if_pos hk]
  rw[e];refine ⟨fun h=>mem_miss.2 ⟨by simp,hkn.2 h⟩,fun w hw =>?_⟩;obtain ⟨h1,h2⟩:=mem_miss.1 hw;simp only [YAZ] at h1;subst h1;exact ⟨rfl,hkn.1 h2⟩
 have fileW:∀ {x:Nd},x.kind≠1→ndW (known hv) x=treeW (known hv) x.data:=fun {x} hk=>by unfold ndW;rw[if_neg hk]
 have isM:∀ {os:List ByteArray} {w:HsV},w∈miss (known hv) (os.map hashS)→∃o∈os,hashS o=w∧¬knows hv o:=fun {os w} hw=>by
  obtain ⟨h1,h2⟩:=mem_miss.1 hw;obtain ⟨o,ho,rfl⟩:=List.mem_map.1 h1;exact ⟨o,ho,rfl,hkn.1 h2⟩
 have toM:∀ {os:List ByteArray} {o:ByteArray},o∈os→¬knows hv o→hashS o∈miss (known hv) (os.map hashS):=fun {os o} ho hk=>mem_miss.2 ⟨YAY ho,hkn.2 hk⟩;have notin:∀ {a:HsV} {l:List HsV},l=[]→a∈l→False:=fun h ha=>by rw[h] at ha;simp at ha
 have tc:∀d:ByteArray,(¬knows hv (treeR d)∧treeW (known hv) d=[hashS (treeR d)])∨(knows hv (treeR d)∧treeW (known hv) d=miss (known hv) ((treeI d).map hashS)∧miss (known hv) ((treeI d).map hashS)≠[])∨(knows hv (treeR d)∧(∀o∈treeI d,knows hv o)∧treeW (known hv) d=miss (known hv) ((treeB d).map hashS)):=fun d=>by
  unfold treeW
  cases hk:known hv (hashS (treeR d)) with
  | none=>exact .inl ⟨hkn.1 hk,rfl⟩
  | some r =>
    have hkR:knows hv (treeR d):=by
     by_cases h:knows hv (treeR d)
     ·exact h
     ·rw[hkn.2 h] at hk;simp at hk
    dsimp only;by_cases hI:miss (known hv) ((treeI d).map hashS)=[]
    ·rw[if_neg (by simp[hI])]
     exact .inr (.inr ⟨hkR,fun o ho=>by
      by_cases h:knows hv o
      ·exact h
      ·exact (notin hI (toM ho h)).elim,rfl⟩)
    ·rw[if_pos hI];exact .inr (.inl ⟨hkR,rfl,hI⟩)
 have allIn:∀ {t:Tab} {x:Nd} {o:ByteArray},t∈X→x∈t→o∈ndAll x→o∈allO X:=fun ht hx ho=>all.2 ⟨_,ht,.inl ⟨_,hx,ho⟩⟩;have ndF:∀ {x:Nd},x.kind≠1→ndAll x=treeB x.data++treeI x.data++[treeR x.data]:=fun hk=>by unfold ndAll;rw[if_neg hk]
 have ndD:∀ {x:Nd},x.kind=1→ndAll x=[bx (putBytes x.ents)]:=fun hk=>by unfold ndAll;rw[if_pos hk]
 have hi4:i<4:=by
  by_cases h:i<4
  ·exact h
  ·exfalso
   apply hst;rw[YAJ];intro w hw;unfold stW at hw;obtain ⟨t,ht,hw⟩:=List.mem_flatMap.1 hw;obtain ⟨x,hx,hw⟩:=List.mem_flatMap.1 hw;have l1:=hlev.l1 (by omega) t ht x hx;by_cases hk:x.kind=1
   ·rw[if_pos hk] at l1;exact ((dirW hk).2 w hw).2 l1
   ·rw[if_neg hk] at l1;rw[fileW hk] at hw;rcases tc x.data with ⟨h1,_⟩ | ⟨_,h2,_⟩ | ⟨_,_,h3⟩
    ·exact h1 l1
    ·rw[h2] at hw;obtain ⟨o,ho,_,hno⟩:=isM hw;exact hno (hlev.l2 (by omega) t ht x hx hk o ho)
    ·rw[h3] at hw;obtain ⟨o,ho,_,hno⟩:=isM hw;exact hno (hlev.l3 (by omega) t ht x hx hk o ho)
 refine .inr ⟨_,rfl,fun h=>hst (onceL_ne.1 h).2,?_,hi4,fun w hw =>?_,fun hv' hs hw =>?_⟩
 ·have h1:=onceL_len (L:=([]:List HsV)) (xs:=stW (known hv) X);have h2:=stW_len (K:=known hv) hm;simp only [YAU] at h1;omega
 ·have hw:=(mem_onceL.1 hw).resolve_left (by simp);unfold stW at hw;obtain ⟨t,ht,hw⟩:=List.mem_flatMap.1 hw;obtain ⟨x,hx,hw⟩:=List.mem_flatMap.1 hw;apply hin;by_cases hk:x.kind=1
  ·exact ⟨bx (putBytes x.ents),allIn ht hx (by rw[ndD hk];simp),((dirW hk).2 w hw).1.symm⟩
  ·rw[fileW hk] at hw;rcases tc x.data with ⟨_,h2⟩ | ⟨_,h2,_⟩ | ⟨_,_,h2⟩
   ·rw[h2] at hw;simp only [YAZ] at hw;exact ⟨treeR x.data,allIn ht hx (by rw[ndF hk];simp),hw.symm⟩
   ·rw[h2] at hw;obtain ⟨o,ho,e,_⟩:=isM hw;exact ⟨o,allIn ht hx (by rw[ndF hk];simp[ho]),e⟩
   ·rw[h2] at hw;obtain ⟨o,ho,e,_⟩:=isM hw;exact ⟨o,allIn ht hx (by rw[ndF hk];simp[ho]),e⟩
 ·have get:∀ {t:Tab} {x:Nd} {o:ByteArray},t∈X→x∈t→(¬knows hv o→hashS o∈ndW (known hv) x)→knows hv' o:=fun {t x o} ht hx h=>by
   by_cases hk:knows hv o
   ·exact stay hs hk
   ·obtain ⟨d,hd,e⟩:=hw _ (inW ht hx (h hk));exact ⟨d,hd,e⟩
  refine ⟨fun _ t ht=>stay hs (h0 t ht),fun _ t ht x hx =>?_,fun hi t ht x hx hk o ho =>?_,fun hi t ht x hx hk o ho =>?_⟩
  ·by_cases hk:x.kind=1
   ·rw[if_pos hk];exact get ht hx (dirW hk).1
   ·rw[if_neg hk];refine get ht hx fun hno =>?_;rw[fileW hk];rcases tc x.data with ⟨_,h2⟩ | ⟨h1,_⟩ | ⟨h1,_⟩
    ·rw[h2];simp
    ·exact absurd h1 hno
    ·exact absurd h1 hno
  ·have l1:=hlev.l1 (by omega) t ht x hx;rw[if_neg hk] at l1;refine get ht hx fun hno =>?_;rw[fileW hk];rcases tc x.data with ⟨h1,_⟩ | ⟨_,h2,_⟩ | ⟨_,h2,_⟩
   ·exact absurd l1 h1
   ·rw[h2];exact toM ho hno
   ·exact absurd (h2 o ho) hno
  ·have l1:=hlev.l1 (by omega) t ht x hx;rw[if_neg hk] at l1;refine get ht hx fun hno =>?_;rw[fileW hk];rcases tc x.data with ⟨h1,_⟩ | ⟨_,_,h3⟩ | ⟨_,_,h2⟩
   ·exact absurd l1 h1
   ·exfalso
    apply h3;rw[YAJ];intro w hw;obtain ⟨o,ho,_,hno⟩:=isM hw;exact hno (hlev.l2 (by omega) t ht x hx hk o ho)
   ·rw[h2];exact toM ho hno
end Go.Proofs.Tryz
