import Derived.Test.YteddcbknadbbgaaGreatT1
import Derived.Test.YteddcbknadbbgaaGreatAl2
import Derived.Shelf.Strings.Search3
import Derived.Lib.Overlaps
set_option linter.unusedVariables false
set_option linter.unusedSimpArgs false
set_option maxRecDepth 100000
open List renaming append_assoc → YAA, append_nil → YAB, drop_drop → YAC, drop_eq_getElem_cons → YAD, drop_eq_nil_of_le → YAE, drop_take → YAF, drop_zero → YAG, flatMap_append → YAH, flatMap_cons → YAI, flatMap_nil → YAJ, getD_eq_getElem?_getD → YAK, getElem?_eq_getElem → YAL, getElem_mem → YAM, getElem_of_mem → YAN, length_append → YAO, length_cons → YAP, length_drop → YAQ, length_map → YAR, length_take → YAS, map_append → YAT, map_nil → YAU, mem_append → YAV, mem_cons → YAW, mem_of_find?_eq_some → YAX, not_mem_nil → YAY, take_of_length_le → YAZ, take_succ_eq_append_getElem → YAa
open Int renaming natCast_nonneg → YAb, tdiv_eq_ediv_of_nonneg → YAc, toNat_natCast → YAd, toNat_of_nonneg → YAe
open Nat renaming add_mul → YAf, le_refl → YAg, min_eq_left → YAh, min_eq_right → YAi, mul_comm → YAj, mul_le_mul_left → YAk, one_mul → YAl, pow_le_pow_right → YAm, sub_add_cancel → YAn, two_pow_pos → YAo, zero_le → YAp
open Bool renaming and_eq_true → YAq, false_eq_true → YAr, not_eq_true' → YAs, true_and → YAt
open Option renaming getD_some → YAu
namespace Go.Proofs.Tryz
open Go Go.Al
theorem lk_f {T b:Nat} {v:LkK.Ty} {h:Heap} (e:h[b]? = some (vobj T LkK v)):sm .i ((Pl.mk b 0).fld 0) v.1 h∧sm .i ((Pl.mk b 0).fld 1) v.2.1 h∧sm .s ((Pl.mk b 0).fld 2) v.2.2.1 h∧sm .s ((Pl.mk b 0).fld 3) v.2.2.2.1 h∧sm .i ((Pl.mk b 0).fld 4) v.2.2.2.2.1 h:=
 ⟨sm_fld (n:=0) (k' := .i) e rfl (by decide),sm_fld (n:=1) (k' := .i) e rfl (by decide),sm_fld (n:=2) (k' := .s) e rfl (by decide),sm_fld (n:=3) (k' := .s) e rfl (by decide),sm_fld (n:=4) (k' := .i) e rfl (by decide)⟩
theorem shl_one {x:Int} (h0:0≤x) (h1:x≤10):shlI 1 x=((2^x.toNat:Nat):Int):=by
 have:=shlI_nat (a:=1) (k:=x.toNat) (by omega) (by
  have:2^x.toNat≤2^10:=YAm (by decide) (by omega);omega)
 rw[YAe h0] at this;rw[show ((1:Nat):Int)=1 from rfl] at this;rw[this,YAl]
theorem ZBW.s {k:LKey} {h:Heap} {K:Bool→Heap→Prop} (hK:∀h',Keep [] h h'→K (lmsMay k) h'):ZBW.C (lkV k) h K:=by
 apply ZBW.c;unfold ZBW.m;refine new_gen fun b h1 hb k1 e1 hs =>?_;have e1:h1[b]? = some (vobj t_api_LmsKey LkK (lkV k)):=e1;obtain ⟨f0,f1,f2,f3,f4⟩:=lk_f e1;refine ld_go f0 ?_;refine ZAc.s ?_;refine jn_at (lmsMay k,()) h1 ?_ (hK h1 k1);unfold lmsMay;show (if decide (((((otsP k.ots).getD (0,0,0)).1:Nat):Int)>0)=true then _ else _)
 cases hx:otsP k.ots with
 | none=>rw[if_neg (by simp)];exact ⟨by simp,rfl⟩
 | some x =>
   have hw:0<x.1:=by rcases otsP_cases hx with ⟨_,rfl⟩ | ⟨_,rfl⟩ <;> decide
   rw[YAu,if_pos (show decide ((x.1:Int)>0)=true from dT (by omega))];refine ld_go f1 ?_;show (if decide (k.height≥1)=true then _ else _);by_cases c1:1≤k.height
   ·rw[if_pos (dT c1)];refine ld_go f1 ?_;show (if decide (k.height≤5)=true then _ else _);by_cases c2:k.height≤5
    ·rw[if_pos (dT c2)];refine ld_go f2 ?_;show (if decide (((bx k.id).size:Int)=16)=true then _ else _);by_cases c3:k.id.length=16
     ·rw[if_pos (dT (by rw[bx_size];omega))];refine ld_go f3 ?_;show (if decide (((bx k.seed).size:Int)=32)=true then _ else _);by_cases c4:k.seed.length=32
      ·rw[if_pos (dT (by rw[bx_size];omega))];refine ld_go f4 ?_;show (if decide (k.next≥0)=true then _ else _);by_cases c5:0≤k.next
       ·rw[if_pos (dT c5)];refine ld_go f4 (ld_go f1 ⟨show (0:Int)≤k.height by omega,?_,rfl⟩);show (decide (k.next≤shlI 1 k.height),())=_;rw[shl_one (by omega) (by omega)];have:((2^k.height.toNat:Nat):Int)=2^k.height.toNat:=by push_cast;rfl
        rw[this];simp[c1,c2,c3,c4,c5]
       ·rw[if_neg (by simpa using c5)];exact ⟨by simp[c5],rfl⟩
      ·rw[if_neg (by rw[bx_size];simp;omega)];exact ⟨by simp[c4],rfl⟩
     ·rw[if_neg (by rw[bx_size];simp;omega)];exact ⟨by simp[c3],rfl⟩
    ·rw[if_neg (by simpa using c2)];exact ⟨by simp[c2],rfl⟩
   ·rw[if_neg (by simpa using c1)];exact ⟨by simp[c1],rfl⟩
theorem ZBK.s {k:HKey} {h:Heap} {K:Bool→Heap→Prop} (hK:∀h',Keep [] h h'→K (hssMay k) h'):ZBK.C (hkV k) h K:=by
 apply ZBK.c;unfold ZBK.m;refine new_gen fun b h1 hb k1 e1 hs =>?_;have e1:h1[b]? = some (vobj t_api_HssKey LkK (hkV k)):=e1;obtain ⟨f0,f1,f2,f3,f4⟩:=lk_f e1;refine jn_in (fun y h'=>Keep [] h1 h'∧y=(hssMay k,())) ?_ ?_
 ·refine ld_go f0 (ld_go f1 (ld_go f2 (ld_go f3 ?_)));refine ZBW.s (k:=⟨k.ots,k.height,k.id,k.seed,0⟩) fun h2 k2 =>?_;have g1:=sm_keep (by decide) f1 k2;have g4:=sm_keep (by decide) f4 k2;unfold hssMay
  cases hm:lmsMay ⟨k.ots,k.height,k.id,k.seed,0⟩ with
  | false=>rw[if_neg (by simp)];exact ⟨k2,by simp⟩
  | true =>
    rw[if_pos rfl]
    have hh:1≤k.height∧k.height≤5:=by
     unfold lmsMay at hm;simp only [YAq,decide_eq_true_eq] at hm;exact ⟨hm.1.1.1.1.1.2,hm.1.1.1.1.2⟩
    refine ld_go g4 ?_;show (if decide (k.next≥0)=true then _ else _);by_cases c5:0≤k.next
    ·rw[if_pos (dT c5)];have hw:w64 (2*k.height)=((2*k.height.toNat:Nat):Int):=w6 (by omega);refine ld_go g4 (ld_go g1 ⟨?_,k2,?_⟩)
     ·show 0≤w64 (2*k.height);rw[hw];exact YAb _
     ·show (decide (k.next≤shlI 1 (w64 (2*k.height))),())=_;rw[hw,shl_one (YAb _) (by omega),YAd];have:((2^(2*k.height.toNat):Nat):Int)=2^(2*k.height.toNat):=by push_cast;rfl
      rw[this];simp[c5]
    ·rw[if_neg (by simpa using c5)];exact ⟨k2,by simp[c5]⟩
 ·rintro _ h2 ⟨k2,rfl⟩;exact hK h2 (k1.n k2)
theorem ZA7.s {n:Nat} {h:Heap} {K:Int→Heap→Prop} (hn:n≤100) (hK:K ((kindOf n:Nat):Int) h):ZA7.C (n:Int) h K:=by
 apply ZA7.c;unfold ZA7.m;unfold kindOf at hK;by_cases h5:n=5
 ·subst h5;exact hK
 ·rw[if_neg (by simp;omega),w64_id (by omega) (by omega)];rw[if_neg h5] at hK;have:((4026531840+n:Nat):Int)=4026531840+(n:Int):=by omega
  rw[←this];exact hK
theorem ZCj.s {k:LKey} {h:Heap} {K:Slc→Heap→Prop} (hm:lmsMay k=true)
 (hK:∀h' s L,Keep [] h h'→Row h' t_string .s s (L.map bx)→NodesP k.w k.p k.id k.seed k.height.toNat L 1→K s h'):ZCj.C (lkV k) h K:=by
 obtain ⟨⟨w,p,ls⟩,hx,e1,e2,e3,hp,hh1,hh5,h16,h32,_,_,_⟩:=may_kind hm;dsimp only at e1 e2 e3;apply ZCj.c;unfold ZCj.m;refine new_gen fun b h1 hb k1 eb hs1 =>?_;have eb:h1[b]? = some (vobj t_api_LmsKey LkK (lkV k)):=eb;obtain ⟨f0,f1,f2,f3,f4⟩:=lk_f eb;obtain ⟨hh,he⟩:∃n:Nat,k.height=n:=⟨k.height.toNat,by omega⟩;have hh':k.height.toNat=hh:=by omega
 have f1':sm .i ((Pl.mk b 0).fld 1) (hh:Int) h1:=by rw[←he];exact f1
 rw[e1,e2,hh'] at hK;rw[hh'] at hh1 hh5;refine ld_go f1' ⟨YAb hh,?_⟩;have hm1:shlI 1 (hh:Int)=((2^hh:Nat):Int):=by rw[shl_one (YAb _) (by omega),YAd]
 have hm32:2^hh≤32:=YAm (n:=2) (by decide) hh5;rw[hm1];have hpos:=YAo hh;have hw2:w64 (2*((2^hh:Nat):Int))=((2*2^hh:Nat):Int):=w6 (by omega);rw[hw2];refine mk_gen (by omega) (by omega) fun bo h2 hbo k2 r2 hs2 =>?_;have hwl:w64 (((2*2^hh:Nat):Int)-1)=((2*2^hh-1:Nat):Int):=w6 (by omega);rw[hwl];refine lp_go (fun (y:Int×Unit) (h3:Heap)=>∃(r:Nat) (L:List By),y.1=r∧r+1≤2*2^hh∧Keep [bo] h2 h3∧Row h3 t_string .s ⟨some ⟨bo,0⟩,2*2^hh,2*2^hh⟩ (L.map bx)∧NodesP w p k.id k.seed hh L (r+1)∧∀j,r+1≤j→j<2*2^hh→(L.getD j []).length=32) (fun (y:Int×Unit) _=>y.1.toNat) ?_ ?_
 ·refine ⟨2*2^hh-1,List.replicate (2*2^hh) [],rfl,by omega,Keep.rfl,?_,?_⟩
  ·rw[List.map_replicate];exact r2
  ·rw[YAn (by omega)];exact ⟨NodesP.start,fun j h1 h2=>by omega⟩
 rintro ⟨(jj:Int),_⟩ h3 ⟨r,L,e,hr,k3,r3,np,n32⟩;dsimp only at e ⊢;subst e;have lb:b<h2.size:=by have:=lt_of_some eb;have:=k2.1;omega
 have k13:Keep [] h1 h3:=k2.new k3 (by simp;omega);obtain ⟨f0,f1,f2,f3,f4⟩:=lk_f (k13.g eb);have hLl:=np.1;by_cases hlt:0<r
 ·rw[if_pos (show decide ((r:Int)>0)=true from dT (by omega))];have hwd:w64 ((r:Int)-1)=((r-1:Nat):Int):=w6 (by omega);rw[hwd];refine jn_in (fun _ h'=>Keep [bo] h2 h'∧∃L',Row h' t_string .s ⟨some ⟨bo,0⟩,2*2^hh,2*2^hh⟩ (L'.map bx)∧NodesP w p k.id k.seed hh L' r∧∀j,r≤j→j<2*2^hh→(L'.getD j []).length=32) ?_ ?_
  ·refine jn_go ?_;by_cases hge:2^hh≤r
   ·rw[if_pos (show decide ((r:Int)≥((2^hh:Nat):Int))=true from dT (by omega))];refine ld_go f0 (ld_go f2 (ld_go f3 ?_));have hwq:w64 ((r:Int)-((2^hh:Nat):Int))=((r-2^hh:Nat):Int):=w6 (by omega);rw[hwq];refine ZBp.s hx h16 (by omega) h32 fun v h4 hv k4 =>?_;refine new_st_gen fun b2 h5 hb2 k5 e5 hs5 =>?_;have e5:h5[b2]? = some (vobj t_api_Hash (.ar 32 .u8) v):=e5;have k15:Keep [] h1 h5:=(k13.n k4).n k5;have g2:=sm_keep (by decide) f2 (k4.n k5);refine ld_go g2 (ld_go (sm_all e5) ?_);refine ZAA.s (n:=4) (by decide) (by decide) (by omega) fun h6 k6 =>?_;refine ⟨sm_keep (by decide) (sm_all e5) k6,sm_keep (by decide) g2 k6,?_⟩;show sadd (bx k.id) (bx (be r 4)) _;refine sadd_b (by rw[be_len];omega) ?_;show sadd _ (bx [130,130]) _;refine sadd_b (by rw[YAO,be_len];simp;omega) ?_;refine ZAW.s fun h7 k7=>⟨sm_keep (by decide) g2 (k6.n k7),?_⟩;rw[hv];have pl:(pubO w p (headO k.id (r-2^hh)) k.seed).length=32:=Hl_len;refine sadd_b (by simp only [YAO,be_len,pl];simp;omega) ?_;refine ZBN.s (by simp only [YAO,be_len,pl];simp;omega) fun h8 k8 =>?_;have k38:Keep [] h3 h8:=(((k4.n k5).n k6).n k7).n k8;have r8:=r3.keep k38 (by simp);refine ix_st r8 (YAb r) (by rw[YAR,hLl];omega) rfl fun h9 k9 r9 =>?_;refine ⟨(k3.then (U:=[bo]) k38 (by simp) (by simp)).then (U:=[bo]) k9 (by simp) (by simp[own]),_,?_,np.leaf hge (by omega),fun j h1 h2 =>?_⟩
    ·rw[YAd] at r9;rw[List.map_set];exact r9
    ·by_cases hj:r=j
     ·subst hj;rw[getD_set_eq (by omega)];exact Hl_len
     ·rw[getD_set_ne hj];exact n32 j (by omega) h2
   ·rw[if_neg (show ¬decide ((r:Int)≥((2^hh:Nat):Int))=true from dn (by omega))];have hw2r:w64 (2*(r:Int))=((2*r:Nat):Int):=w6 (by omega);have hw2r1:w64 (((2*r:Nat):Int)+1)=((2*r+1:Nat):Int):=w6 (by omega);rw[hw2r,hw2r1];have l1:=n32 (2*r) (by omega) (by omega);have l2:=n32 (2*r+1) (by omega) (by omega);refine ld_go f2 ?_;refine seg_ixl r3.seg (x:=bx (L.getD (2*r) [])) (YAb _) (gets_map (by omega)) rfl fun p2 g2=>ld_go g2 ?_;refine seg_ixl r3.seg (x:=bx (L.getD (2*r+1) [])) (YAb _) (gets_map (by omega)) rfl fun p3 g3=>ld_go g3 ?_;refine ZAA.s (n:=4) (by decide) (by decide) (by omega) fun h6 k6 =>?_;refine ⟨sm_keep (by decide) g3 k6,sm_keep (by decide) g2 k6,sm_keep (by decide) f2 k6,?_⟩;show sadd (bx k.id) (bx (be r 4)) _;refine sadd_b (by rw[be_len];omega) ?_;show sadd _ (bx [131,131]) _;refine sadd_b (by rw[YAO,be_len];simp;omega) ?_;refine sadd_b (by simp only [YAO,be_len,l1];simp;omega) ?_;refine sadd_b (by simp only [YAO,be_len,l1,l2];simp;omega) ?_;refine ZBN.s (by simp only [YAO,be_len,l1,l2];simp;omega) fun h8 k8 =>?_;have k38:Keep [] h3 h8:=k6.n k8;have r8:=r3.keep k38 (by simp);refine ix_st r8 (YAb r) (by rw[YAR,hLl];omega) rfl fun h9 k9 r9 =>?_;refine ⟨(k3.then (U:=[bo]) k38 (by simp) (by simp)).then (U:=[bo]) k9 (by simp) (by simp[own]),_,?_,np.inner hlt (by omega),fun j h1 h2 =>?_⟩
    ·rw[YAd] at r9;rw[List.map_set];exact r9
    ·by_cases hj:r=j
     ·subst hj;rw[getD_set_eq (by omega)];exact Hl_len
     ·rw[getD_set_ne hj];exact n32 j (by omega) h2
  ·rintro _ h4 ⟨k4,L',r4,np4,n4⟩;refine ⟨⟨r-1,L',rfl,by omega,k4,r4,?_⟩,by simp;omega⟩;rw[YAn (by omega)];exact ⟨np4,n4⟩
 ·rw[if_neg (show ¬decide ((r:Int)>0)=true from dn (by omega))];obtain rfl:r=0:=by omega
  exact hK h3 _ L (k1.n k13) r3 np
theorem ZA9.s {k:LKey} {h:Heap} {K:ByteArray→Int→Heap→Prop} (hm:lmsMay k=true) (hK:∀h',Keep [] h h'→K (bx (lmsPub k)) 0 h'):ZA9.C (lkV k) h K:=by
 obtain ⟨⟨w,p,ls⟩,hx,e1,e2,e3,hp,hh1,hh5,h16,h32,hon,ho5,_⟩:=may_kind hm;apply ZA9.c;unfold ZA9.m;refine new_gen fun b h1 hb k1 eb hs1 =>?_;have eb:h1[b]? = some (vobj t_api_LmsKey LkK (lkV k)):=eb;refine ld_go (sm_all eb) ?_;refine ZBW.s fun h2 k2 =>?_;rw[hm,if_neg (by simp)];obtain ⟨f0,f1,f2,f3,f4⟩:=lk_f (k2.g eb);refine ld_go f1 (ld_go f0 (ld_go f2 (ld_go (sm_all (k2.g eb)) ?_)));obtain ⟨hh,he⟩:∃n:Nat,k.height=n:=⟨k.height.toNat,by omega⟩;have hh':k.height.toNat=hh:=by omega
 have kv:=kind_val hh1 hh5;unfold lmsPub at hK;show ZA7.C k.height h2 _;rw[he];rw[hh'] at kv hK hh5;refine ZA7.s (by omega) ⟨sm_all (k2.g eb),f2,f0,?_⟩;refine ZAA.s (n:=4) (by decide) (by decide) (by omega) fun h4 k4 =>?_;have e4:=(k2.n k4).g eb;obtain ⟨f0,f1,f2,f3,f4⟩:=lk_f e4;refine ⟨sm_all e4,f2,f0,?_⟩;show ZAA.C k.ots 4 h4 _;rw[←hon];refine ZAA.s (n:=4) (by decide) (by decide) (by omega) fun h5 k5 =>?_;have k15:=(k2.n k4).n k5;have e5:=k15.g eb;obtain ⟨f0,f1,f2,f3,f4⟩:=lk_f e5;refine ⟨sm_all e5,f2,?_⟩;refine sadd_b (by rw[be_len,be_len];decide) ?_;show sadd _ (bx k.id) _;refine sadd_b (by rw[YAO,be_len,be_len];omega) ?_;refine ZCj.s hm fun h6 s6 L k6 r6 np=>⟨sm_keep (by decide) f2 k6,?_⟩;have hpos:=YAo k.height.toNat;refine seg_ixl r6.seg (x:=bx (L.getD 1 [])) (by decide) (gets_map (i:=1) (by have:=np.1;omega)) rfl fun l1 g1=>ld_go g1 ?_;rw[np.root,hh'];refine sadd_b (by simp only [YAO,be_len,nodeL_len];omega) ?_;unfold LKey.m at hK;rw[hh'] at hK;exact hK h6 ((k1.n k15).n k6)
theorem hss_h {k:HKey} (hm:hssMay k=true):1≤k.height∧k.height≤5∧k.id.length=16∧k.seed.length=32∧0≤k.next∧k.next≤((2^(2*k.height.toNat):Nat):Int)∧2^(2*k.height.toNat)≤1024∧lmsMay ⟨k.ots,k.height,k.id,k.seed,0⟩=true:=by
 unfold hssMay at hm;simp only [YAq,decide_eq_true_eq] at hm;obtain ⟨⟨a,b⟩,c⟩:=hm;have a':=a;unfold lmsMay at a';simp only [YAq,decide_eq_true_eq] at a';obtain ⟨⟨⟨⟨⟨⟨a1,a2⟩,a3⟩,a4⟩,a5⟩,_⟩,_⟩:=a';refine ⟨a2,a3,a4,a5,b,by push_cast;exact c,?_,a⟩;have:2^(2*k.height.toNat)≤2^10:=YAm (by decide) (by omega);omega
theorem up_next {k:HKey} (hm:hssMay k=true):k.up.next=((k.next.toNat/2^k.height.toNat:Nat):Int)∧shrI k.next k.height=k.up.next:=by
 obtain ⟨a1,a2,_,_,a3,a4,_,_⟩:=hss_h hm;obtain ⟨n,hn⟩:∃n:Nat,k.next=n:=⟨k.next.toNat,by omega⟩;obtain ⟨m,hh⟩:∃n:Nat,k.height=n:=⟨k.height.toNat,by omega⟩;unfold HKey.up;dsimp only;rw[hn,hh,shrI_nat n m (by omega)];simp
theorem ZCm.s {k:HKey} {h:Heap} {K:LkK.Ty→Heap→Prop} (hm:hssMay k=true) (hK:∀h',Keep [] h h'→K (lkV k.up) h'):ZCm.C (hkV k) h K:=by
 obtain ⟨a1,a2,_,_,a3,a4,_,_⟩:=hss_h hm;apply ZCm.c;unfold ZCm.m;refine new_gen fun b h1 hb k1 eb hs1 =>?_;refine new_gen fun b2 h2 hb2 k2 eb2 hs2 =>?_;have eb:h2[b]? = some (vobj t_api_HssKey LkK (hkV k)):=k2.g eb;obtain ⟨f0,f1,f2,f3,f4⟩:=lk_f eb;refine ld_go f0 (ld_go f1 (ld_go f2 (ld_go f3 (ld_go f4 (ld_go f1 ⟨show (0:Int)≤k.height by omega,?_⟩)))));refine st_to eb2 fun h3 k3 e3 hs3=>ld_go (sm_all e3) ?_;show K (k.ots,(k.height,(bx k.id,(bx k.seed,(shrI k.next k.height,()))))) h3;rw[(up_next hm).2];exact hK h3 ((k1.n k2).new k3 (by have:=k1.1;simp;omega))
theorem ZBm.s {k:HKey} {h:Heap} {K:ByteArray→Int→Heap→Prop} (hm:hssMay k=true) (hK:∀h',Keep [] h h'→K (bx (hssPub k)) 0 h'):ZBm.C (hkV k) h K:=by
 obtain ⟨_,_,_,_,_,_,_,hl⟩:=hss_h hm;apply ZBm.c;unfold ZBm.m;refine new_gen fun b h1 hb k1 eb hs1 =>?_;have eb:h1[b]? = some (vobj t_api_HssKey LkK (hkV k)):=eb;refine ld_go (sm_all eb) ?_;refine ZBK.s fun h2 k2 =>?_;rw[hm,if_neg (by simp)];refine ld_go (sm_all (k2.g eb)) ?_;refine ZCm.s hm fun h3 k3 =>?_;refine new_st_gen fun b2 h5 hb2 k5 e5 hs5 =>?_;refine st_fld (x':=lkV ⟨k.ots,k.height,k.id,k.seed,0⟩) e5 (by decide) rfl ?_;have k15:Keep [] h1 h5:=(k2.n k3).n k5;have z1:=k15.1;have e6:(h5.setIfInBounds b2 (vobj t_api_LmsKey LkK (lkV ⟨k.ots,k.height,k.id,k.seed,0⟩)))[b2]? = some (vobj t_api_LmsKey LkK (lkV ⟨k.ots,k.height,k.id,k.seed,0⟩)):=get_set e5;have k56:Keep [b2] h5 (h5.setIfInBounds b2 (vobj t_api_LmsKey LkK (lkV ⟨k.ots,k.height,k.id,k.seed,0⟩))):=keep_set;refine ld_go (sm_all e6) ?_;refine ZA9.s hl fun h7 k7 =>?_;refine ZAA.s (x:=2) (n:=4) (by decide) (by decide) (by decide) fun h8 k8 =>?_;have pl:=lmsPub_len hl;refine sadd_b (by rw[be_len,pl];decide) ?_;refine hK h8 ((((k1.n k15).new k56 ?_).n k7).n k8);have:=k1.1;have:=(k2.n k3).1;simp;omega
theorem ref1_LeftK.s {k:HKey} {h:Heap} {K:Int→Heap→Prop} (hm:hssMay k=true) (hK:∀h',Keep [] h h'→K (((2^(2*k.height.toNat):Nat):Int)-k.next) h'):ZDd.C (hkV k) h K:=by
 obtain ⟨a1,a2,_,_,a3,a4,a5,_⟩:=hss_h hm;apply ZDd.c;unfold ZDd.m;refine new_gen fun b h1 hb k1 eb hs1 =>?_;have eb:h1[b]? = some (vobj t_api_HssKey LkK (hkV k)):=eb;refine ld_go (sm_all eb) ?_;refine ZBK.s fun h2 k2 =>?_;rw[hm,if_neg (by simp)];obtain ⟨f0,f1,f2,f3,f4⟩:=lk_f (k2.g eb);have hw:w64 (2*k.height)=((2*k.height.toNat:Nat):Int):=w6 (by omega);refine ld_go f1 ⟨?_,ld_go f4 ?_⟩
 ·show 0≤w64 (2*k.height);rw[hw];exact YAb _
 ·show K (w64 (shlI 1 (w64 (2*k.height))-k.next)) h2;rw[hw,shl_one (YAb _) (by omega),YAd,w64_id (by omega) (by omega)];exact hK h2 (k1.n k2)
theorem ZDU.s {tag:Nat} {a b c:By} {h:Heap} {K:Kd.Ty (.ar 32 .u8)→Heap→Prop} (ht:tag≤4) (hl:a.length+b.length+c.length≤60000) (hK:∀v h',Vector.toList v=ofT tag a b c→Keep [] h h'→K v h'):ZDU.C (tag:Int) (bx a) (bx b) (bx c) h K:=by
 apply ZDU.c;unfold ZDU.m;refine new_gen fun b1 h1 hb1 k1 e1 hs1 =>?_;refine bs_gen fun bq h2 hbq k2 r2 hs2 =>?_
 have hl1:(tagL tag [bx a,bx b,bx c]).length≤1000000:=by
  unfold tagL pieceL;simp[be_len,bx_data2];omega
 refine ZBt.s (tag:=tag) r2.seg ht (by simp only [lens,List.map_cons,YAU,List.sum_cons,List.sum_nil,bx_size];omega) hl1 fun h3 k3 =>?_;have hv:Vector.toList (shaL (tagL tag [bx a,bx b,bx c]))=ofT tag a b c:=rfl;generalize shaL (tagL tag [bx a,bx b,bx c])=v at *;refine new_st_gen fun b2 h5 hb2 k5 e5 hs5 =>?_;refine ld_go (sm_all e5) ?_;have k15:Keep [] h1 h5:=(k2.n k3).n k5;refine st_to (k15.g e1) fun h6 k6 e6 hs6 =>?_;refine ld_go (sm_all e6) ?_;have:=k1.1;exact hK v h6 hv ((k1.n k15).new k6 (by simp;omega))
theorem ZDB.s {k:HKey} {h:Heap} {K:LkK.Ty→Heap→Prop} (hm:hssMay k=true) (hK:∀h',Keep [] h h'→K (lkV k.low) h'):ZDB.C (hkV k) h K:=by
 obtain ⟨a1,a2,h16,h32,a3,a4,a5,_⟩:=hss_h hm;obtain ⟨un,us⟩:=up_next hm;apply ZDB.c;unfold ZDB.m;refine new_gen fun b h1 hb k1 eb hs1 =>?_;refine new_gen fun b2 h2 hb2 k2 eb2 hs2 =>?_;have eb:h2[b]? = some (vobj t_api_HssKey LkK (hkV k)):=k2.g eb;obtain ⟨f0,f1,f2,f3,f4⟩:=lk_f eb;refine ld_go f4 (ld_go f1 ⟨show (0:Int)≤k.height by omega,?_⟩);show ZAA.C (shrI k.next k.height) 4 h2 _;have hU:k.next/2^k.height.toNat=k.up.next:=rfl;rw[us];have hL:k.low=⟨k.ots,k.height,(ofT 2 k.id k.seed (be (k.next/2^k.height.toNat).toNat 4)).take 16,ofT 3 k.id k.seed (be (k.next/2^k.height.toNat).toNat 4),k.next%2^k.height.toNat⟩:=Eq.refl _;rw[hL,hU] at hK;rw[un] at hK ⊢;rw[YAd] at hK;have hub:k.next.toNat/2^k.height.toNat≤1024:=Nat.le_trans (Nat.div_le_self _ _) (by omega);generalize k.next.toNat/2^k.height.toNat=u at *;refine ZAA.s (n:=4) (by decide) (by decide) (by omega) fun h3 k3 =>?_;have e3:=k3.g eb;obtain ⟨f0,f1,f2,f3,f4⟩:=lk_f e3;refine ld_go f0 (ld_go f1 (ld_go f2 (ld_go f3 (ld_go f2 (ld_go f3 (ld_go f4 (ld_go f1 ⟨show (0:Int)≤k.height by omega,?_⟩)))))));refine ZDU.s (tag:=2) (by decide) (by rw[be_len];omega) fun v4 h4 hv4 k4 =>?_;have e4:=k4.g e3;obtain ⟨f0,f1,f2,f3,f4⟩:=lk_f e4;refine ⟨f1,f4,f3,f2,f1,f0,?_⟩;refine ZAW.s fun h5 k5 =>?_;have e5:=k5.g e4;obtain ⟨f0,f1,f2,f3,f4⟩:=lk_f e5;refine ⟨f1,f4,f3,f2,f1,f0,?_⟩;rw[hv4];have l4:(ofT 2 k.id k.seed (be u 4)).length=32:=Hl_len;refine sls_by (lo:=0) (hi:=16) (by decide) (by omega) ?_;rw[YAG];refine ZDU.s (tag:=3) (by decide) (by rw[be_len];omega) fun v6 h6 hv6 k6 =>?_;have e6:=k6.g e5;obtain ⟨f0,f1,f2,f3,f4⟩:=lk_f e6;refine ⟨f1,f4,f1,f0,?_⟩;refine ZAW.s fun h7 k7 =>?_;have e7:=k7.g e6;obtain ⟨f0,f1,f2,f3,f4⟩:=lk_f e7;refine ⟨f1,f4,f1,f0,?_⟩;rw[hv6];have k27:Keep [] h2 h7:=(((k3.n k4).n k5).n k6).n k7;refine st_to (k27.g eb2) fun h8 k8 e8 hs8=>ld_go (sm_all e8) ?_
 have hand:andI k.next (w64 (shlI 1 k.height-1))=k.next%2^k.height.toNat:=by
  have hp:2^k.height.toNat≤2^5:=YAm (by decide) (by omega);have hp0:=YAo k.height.toNat;rw[shl_one (by omega) (by omega),w64_id (by omega) (by omega)];rw[show ((2^k.height.toNat:Nat):Int)-1=((2^k.height.toNat-1:Nat):Int) by omega,andI_mask _ (by omega)]
  push_cast;rfl
 show K (k.ots,(k.height,(bx ((ofT 2 k.id k.seed (be u 4)).take 16),(bx (ofT 3 k.id k.seed (be u 4)),(andI k.next (w64 (shlI 1 k.height-1)),()))))) h8;rw[hand];unfold lkV at hK;dsimp only at hK;refine hK h8 (((k1.n k2).n k27).new k8 ?_);have:=k1.1;simp;omega
theorem xor_one {r:Nat} (h:r<64):xorI (r:Int) 1=(((if r%2=0 then r+1 else r-1:Nat):Nat):Int):=by
 have:∀r:Fin 64,xorI (r.val:Int) 1=(((if r.val%2=0 then r.val+1 else r.val-1:Nat):Nat):Int):=by decide
 exact this ⟨r,h⟩
theorem NodesP.sib {w p:Nat} {id seed:By} {h i:Nat} {L:List By} {r:Nat} (n:NodesP w p id seed h L 1) (hi:i<h) (a:2^(h-i)≤r) (b:r<2*2^(h-i)) :
 (if r%2=0 then r+1 else r-1)<L.length∧L.getD (if r%2=0 then r+1 else r-1) []=nodeL w p id seed (2^h) i (if r%2=0 then r+1 else r-1)∧2^(h-(i+1))≤r/2∧r/2<2*2^(h-(i+1))∧2≤r:=by
 have e1:2^(h-i)=2^(h-(i+1))*2:=by rw[←Nat.pow_succ];congr 1;omega
 have e2:2^(h-i)≤2^h:=YAm (by decide) (by omega);have e3:=YAo (h-(i+1));have e4:=n.1
 have hs:2^(h-i)≤(if r%2=0 then r+1 else r-1)∧(if r%2=0 then r+1 else r-1)<2*2^(h-i):=by
  split <;> omega
 exact ⟨by omega,n.2 i (by omega) _ hs.1 hs.2 (by omega),by omega,by omega,by omega⟩
theorem ZBf.s {k:LKey} {msg:By} {h:Heap} {K:ByteArray→LkK.Ty→Int→Heap→Prop} (hm:lmsMay k=true) (hn:k.next<2^k.height.toNat) (hl:msg.length≤65536)
 (hK:∀h',Keep [] h h'→K (bx (lmsSig k msg)) (lkV { k with next:=k.next+1 }) 0 h'):ZBf.C (lkV k) (bx msg) h K:=by
 obtain ⟨⟨w,p,ls⟩,hx,e1,e2,e3,hp,hh1,hh5,h16,h32,hon,ho5,hp67⟩:=may_kind hm;dsimp only at e1 e2 e3;have tl:=(lms_ok hm hn hl).2
 have hn0:0≤k.next:=by
  unfold lmsMay at hm;simp only [YAq,decide_eq_true_eq] at hm;exact hm.1.2
 obtain ⟨q,hq⟩:∃q:Nat,k.next=q:=⟨k.next.toNat,by omega⟩;obtain ⟨hh,he⟩:∃n:Nat,k.height=n:=⟨k.height.toNat,by omega⟩;have hh':k.height.toNat=hh:=by omega
 have hnt:k.next.toNat=q:=by omega
 have hq2:q<2^hh:=by
  have:((q:Nat):Int)<((2^hh:Nat):Int):=by rw[←hq,←hh'];push_cast;exact hn
  omega
 rw[hh'] at hh1 hh5;have hm32:2^hh≤32:=YAm (n:=2) (by decide) hh5;have hpos:=YAo hh;have hm1:shlI 1 k.height=((2^hh:Nat):Int):=by rw[shl_one (by omega) (by omega),hh']
 have kv:=kind_val hh1 hh5
 have hT:lmsSig k msg=be q 4++otsSig k.ots.toNat w p ls k.id q k.seed msg++be (kindOf hh) 4++pathS w p k.id k.seed (2^hh) hh 0 (2^hh+q):=by
  unfold lmsSig LKey.m;rw[e1,e2,e3,hnt,hh']
 generalize lmsSig k msg=T at *;have ol:=otsSig_len (kind:=k.ots.toNat) (ls:=ls) (id:=k.id) (q:=q) (seed:=k.seed) (msg:=msg) (show 256/w≤p by rw[e1,e2] at hp;exact hp);have pl:=pathS_len (w:=w) (p:=p) (id:=k.id) (seed:=k.seed) (m:=2^hh) (n:=hh) (l:=0) (r:=2^hh+q);generalize hO:otsSig k.ots.toNat w p ls k.id q k.seed msg=O at *;apply ZBf.c;unfold ZBf.m;refine new_gen fun b h1 hb k1 eb hs1 =>?_;refine new_gen fun b2 h2 hb2 k2 eb2 hs2 =>?_;have eb:h2[b]? = some (vobj t_api_LmsKey LkK (lkV k)):=k2.g eb;have eb2:h2[b2]? = some (vobj t_api_LmsKey LkK (lkV ⟨0,0,[],[],0⟩)):=eb2;refine jn_in (fun _ h'=>Keep [] h2 h') ?_ ?_
 ·refine jn_in (fun y h'=>y=(false,())∧Keep [] h2 h') ?_ ?_
  ·refine ld_go (sm_all eb) ?_;refine ZBW.s fun h3 k3 =>?_;rw[hm,if_neg (by simp)];refine ⟨?_,k3⟩;rw[dF (show ¬((bx msg).size:Int)>65536 by rw[bx_size];omega)]
  ·rintro _ h3 ⟨rfl,k3⟩;rw[if_neg (by simp)];obtain ⟨f0,f1,f2,f3,f4⟩:=lk_f (k3.g eb);refine ld_go f4 (ld_go f1 ⟨show (0:Int)≤k.height by omega,?_⟩);show (if decide (k.next=shlI 1 k.height)=true then _ else _);rw[if_neg (show ¬decide (k.next=shlI 1 k.height)=true from fun h=>by have:=of_decide_eq_true h;rw[hm1] at this;omega)];exact k3
 intro _ h3 k3;have e3':=k3.g eb;obtain ⟨f0,f1,f2,f3,f4⟩:=lk_f e3';refine ld_go f0 (ld_go f2 (ld_go f4 (ld_go f3 ?_)));show ZB3.C k.ots (bx k.id) k.next (bx k.seed) (bx msg) h3 _;rw[hq];refine ZB3.s hx h16 (by omega) h32 hl fun h8 k8 =>?_;rw[hO];have e8:=k8.g e3';obtain ⟨f0,f1,f2,f3,f4⟩:=lk_f e8;refine ld_go f4 (ld_go f1 ?_);show ZAA.C k.next 4 h8 _;rw[hq];refine ZAA.s (n:=4) (by decide) (by decide) (by omega) fun h9 k9=>⟨sm_keep (by decide) f1 k9,?_⟩;refine sadd_b (by rw[be_len,ol];omega) ?_;show ZA7.C k.height h9 _;rw[he];refine ZA7.s (by omega) ?_;refine ZAA.s (n:=4) (by decide) (by decide) (by omega) fun h11 k11 =>?_;refine sadd_b (by rw[YAO,be_len,be_len,ol];omega) ?_;have k811:=k9.n k11;have e11:=k811.g e8;refine ld_go (sm_all e11) ?_;refine ZCj.s hm fun h12 s12 L k12 r12 np =>?_;rw[e1,e2,hh'] at np;have e12:=k12.g e11;obtain ⟨f0,f1,f2,f3,f4⟩:=lk_f e12;have f1':sm .i ((Pl.mk b 0).fld 1) k.height h12:=f1;have f4':sm .i ((Pl.mk b 0).fld 4) k.next h12:=f4;refine ld_go f1' ⟨show (0:Int)≤k.height by omega,ld_go f4' ?_⟩;have k2_12:Keep [] h2 h12:=((k3.n k8).n k811).n k12;have hw0:w64 (shlI 1 k.height+k.next)=((2^hh+q:Nat):Int):=by rw[hm1,hq,w64_id (by omega) (by omega)];omega
 rw[hw0];refine lp_go (fun (y:ByteArray×Int×Unit) (h13:Heap)=>∃(i r:Nat) (A:By),y.1=bx A∧y.2.1=r∧h13=h12∧i≤hh∧2^(hh-i)≤r∧r<2*2^(hh-i)∧A++pathS w p k.id k.seed (2^hh) (hh-i) i r=T) (fun (y:ByteArray×Int×Unit) _=>y.2.1.toNat) ?_ ?_
 ·exact ⟨0,2^hh+q,_,rfl,rfl,rfl,YAp _,by rw[Nat.sub_zero];omega,by rw[Nat.sub_zero];omega,hT.symm⟩
 rintro ⟨(a:ByteArray),(jj:Int),_⟩ h13 ⟨i,r,A,ea,er,rfl,hi,ra,rb,hA⟩;dsimp only at ea er ⊢;subst ea;subst er;have hr64:2^(hh-i)≤2^hh:=YAm (by decide) (by omega);by_cases hlt:i<hh
 ·obtain ⟨s1,s2,s3,s4,s5⟩:=np.sib hlt ra rb;rw[if_pos (show decide ((r:Int)>1)=true from dT (by omega)),xor_one (by omega)];have hp1:hh-i=(hh-(i+1))+1:=by omega
  rw[hp1] at hA;unfold pathS at hA;rw[←s2] at hA;have nl:(L.getD (if r%2=0 then r+1 else r-1) []).length=32:=by rw[s2];exact nodeL_len
  generalize (if r%2=0 then r+1 else r-1)=sb at *;refine seg_ixl r12.seg (x:=bx (L.getD sb [])) (YAb _) (gets_map s1) rfl fun l1 g1=>ld_go g1 ?_;have hAl:A.length≤T.length:=by rw[←hA,YAO];omega
  refine sadd_b (by rw[nl];omega) ⟨by decide,?_⟩
  have hdv:w64 ((r:Int).tdiv 2)=((r/2:Nat):Int):=by
   rw[YAc (by omega),w64_id (by omega) (by omega)];omega
  rw[hdv];refine ⟨⟨i+1,r/2,_,rfl,rfl,rfl,by omega,s3,s4,?_⟩,by simp;omega⟩;rw[YAA];exact hA
 ·obtain rfl:i=hh:=by omega
  rw[Nat.sub_self] at ra rb hA;rw[if_neg (show ¬decide ((r:Int)>1)=true from dn (by omega))];unfold pathS at hA;rw[YAB] at hA;rw[hA];refine ld_go f4 ?_;have hwn:w64 (k.next+1)=k.next+1:=w64_id (by omega) (by omega);show Go.Al.st .i ((Pl.mk b 0).fld 4) (w64 (k.next+1)) h13 _;rw[hwn];refine st_fld (x':=lkV { k with next:=k.next+1 }) e12 (by decide) rfl ?_;have e14:(h13.setIfInBounds b (vobj t_api_LmsKey LkK (lkV { k with next:=k.next+1 })))[b]? = some (vobj t_api_LmsKey LkK (lkV { k with next:=k.next+1 })):=get_set e12;have k14:Keep [b] h13 (h13.setIfInBounds b (vobj t_api_LmsKey LkK (lkV { k with next:=k.next+1 }))):=keep_set;have z1:=k1.1;have z2:=k2.1;have ne:b2≠b:=by omega
  have e14':=k14.get (k2_12.g eb2) (by simp[ne]);have k2_14:Keep [] h (h13.setIfInBounds b (vobj t_api_LmsKey LkK (lkV { k with next:=k.next+1 }))):=(((k1.n k2).n k2_12).new k14 (by simp;omega));generalize h13.setIfInBounds b (vobj t_api_LmsKey LkK (lkV { k with next:=k.next+1 }))=h14 at *;refine ld_go (sm_all e14) ?_;refine st_to e14' fun h15 k15 e15 hs15=>ld_go (sm_all e15) ?_;exact hK h15 (k2_14.new k15 (by simp;omega))
theorem ZAk.s {k:HKey} {msg:By} {h:Heap} {K:ByteArray→LkK.Ty→Int→Heap→Prop} (hm:hssMay k=true) (hn:k.next<2^(2*k.height.toNat)) (hl:msg.length≤65536)
 (hK:∀h',Keep [] h h'→K (bx (hssSig k msg)) (hkV { k with next:=k.next+1 }) 0 h'):ZAk.C (hkV k) (bx msg) h K:=by
 obtain ⟨u1,u2,l1,l2⟩:=hss_parts hm hn;obtain ⟨a1,a2,h16,h32,a3,a4,a5,_⟩:=hss_h hm;have hn':k.next<((2^(2*k.height.toNat):Nat):Int):=by push_cast;exact hn
 have pl:=lmsPub_len l1;have s1:=(lms_ok (msg:=lmsPub k.low) u1 u2 (by rw[pl];decide)).2;have s2:=(lms_ok (msg:=msg) l1 l2 hl).2;have p1:=(may_kind u1).choose_spec.2.2.2.2.2.2.2.2.2.2.2;have p2:=(may_kind l1).choose_spec.2.2.2.2.2.2.2.2.2.2.2;have q1:k.up.height.toNat≤5:=by show k.height.toNat≤5;omega
 have q2:k.low.height.toNat≤5:=by show k.height.toNat≤5;omega
 have hS:hssSig k msg=be 1 4++lmsSig k.up (lmsPub k.low)++lmsPub k.low++lmsSig k.low msg:=Eq.refl _;rw[hS] at hK;apply ZAk.c;unfold ZAk.m;refine new_gen fun b h1 hb k1 eb hs1 =>?_;refine new_gen fun b2 h2 hb2 k2 eb2 hs2 =>?_;have eb:h2[b]? = some (vobj t_api_HssKey LkK (hkV k)):=k2.g eb;have eb2:h2[b2]? = some (vobj t_api_HssKey LkK (lkV ⟨0,0,[],[],0⟩)):=eb2;refine jn_in (fun _ h'=>Keep [] h2 h') ?_ ?_
 ·refine jn_in (fun y h'=>y=(false,())∧Keep [] h2 h') ?_ ?_
  ·refine ld_go (sm_all eb) ?_;refine ZBK.s fun h3 k3 =>?_;rw[hm,if_neg (by simp)];refine ⟨?_,k3⟩;rw[dF (show ¬((bx msg).size:Int)>65536 by rw[bx_size];omega)]
  ·rintro _ h3 ⟨rfl,k3⟩;rw[if_neg (by simp)];refine ld_go (sm_all (k3.g eb)) ?_;refine ref1_LeftK.s hm fun h4 k4 =>?_;rw[if_neg (show ¬decide (((2^(2*k.height.toNat):Nat):Int)-k.next=0)=true from dn (by omega))];exact k3.n k4
 intro _ h3 k3;have e3:=k3.g eb;refine ld_go (sm_all e3) ?_;refine ZDB.s hm fun h9 k9 =>?_;refine new_st_gen fun b3 h11 hb3 k11 e11 hs11 =>?_;have e11:h11[b3]? = some (vobj t_api_LmsKey LkK (lkV k.low)):=e11;refine ld_go (sm_all e11) ?_;refine ZA9.s l1 fun h12 k12 =>?_;have k3_12:=(k9.n k11).n k12;have e12:=k3_12.g e3;refine ld_go (sm_all e12) ?_;refine ZCm.s hm fun h13 k13 =>?_;refine ZBf.s u1 u2 (by rw[pl];decide) fun h14 k14 =>?_;refine new_st_gen fun b4 h16' hb4 k16 e16 hs16 =>?_;have k11_16:Keep [] h11 h16':=((k12.n k13).n k14).n k16;refine ld_go (sm_all (k11_16.g e11)) ?_;refine ZBf.s l1 l2 hl fun h17 k17 =>?_;refine new_st_gen fun b5 h19 hb5 k19 e19 hs19 =>?_;have k2_19:Keep [] h2 h19:=((((k3.n k9).n k11).n k11_16).n k17).n k19;have e19':=k2_19.g eb;obtain ⟨f0,f1,f2,f3,f4⟩:=lk_f e19';refine ld_go f4 ?_;have hwn:w64 (k.next+1)=k.next+1:=w64_id (by omega) (by omega);show Go.Al.st .i ((Pl.mk b 0).fld 4) (w64 (k.next+1)) h19 _;rw[hwn];refine st_fld (x':=hkV { k with next:=k.next+1 }) e19' (by decide) rfl ?_;have e20:(h19.setIfInBounds b (vobj t_api_HssKey LkK (hkV { k with next:=k.next+1 })))[b]? = some (vobj t_api_HssKey LkK (hkV { k with next:=k.next+1 })):=get_set e19';have k20:Keep [b] h19 (h19.setIfInBounds b (vobj t_api_HssKey LkK (hkV { k with next:=k.next+1 }))):=keep_set;have z1:=k1.1;have z2:=k2.1;have ne:b2≠b:=by omega
 have e20':=k20.get (k2_19.g eb2) (by simp[ne]);have k0_20:Keep [] h (h19.setIfInBounds b (vobj t_api_HssKey LkK (hkV { k with next:=k.next+1 }))):=(((k1.n k2).n k2_19).new k20 (by simp;omega));generalize h19.setIfInBounds b (vobj t_api_HssKey LkK (hkV { k with next:=k.next+1 }))=h20 at *;refine ld_go (sm_all e20) ?_;refine ZAA.s (x:=1) (n:=4) (by decide) (by decide) (by decide) fun h21 k21=>⟨sm_keep (by decide) (sm_all e20) k21,?_⟩;generalize lmsSig k.up (lmsPub k.low)=SA at *;generalize lmsSig k.low msg=SB at *;generalize lmsPub k.low=P at *;refine sadd_b (by rw[be_len];omega) ?_;refine sadd_b (by rw[YAO,be_len];omega) ?_;refine sadd_b (by rw[YAO,YAO,be_len];omega) ?_;refine st_to (k21.g e20') fun h22 k22 e22 hs22=>ld_go (sm_all e22) ?_;exact hK h22 ((k0_20.n k21).new k22 (by simp;omega))
abbrev KyK:Kd := .ag (.pr .i (.pr .i (.pr .s (.pr .s .un))))
def kyV (k:PKey):KyK.Ty:=((k.h:Int),((k.kind:Int),(bx k.id,(bx k.root,()))))
abbrev PaK:Kd := .ag (.pr .i (.pr .s (.pr .s .un)))
def paV (q:Nat) (a b:By):PaK.Ty:=((q:Int),(bx a,(bx b,())))
structure PKey.Ok (k:PKey):Prop where
 o:otsP (k.kind:Int)=some (k.w,k.p,k.ls)
 h1:1≤k.h
 h5:k.h≤5
 i:k.id.length=16
 r:k.root.length=32
theorem bx_injU {a b:By}:bx a=bx b↔a=b:=
 ⟨fun h=>by have:=congrArg (fun s:ByteArray=>s.data.toList) h;simpa[bx] using this,fun h=>by rw[h]⟩
theorem apart_ok {pub:By} {k:PKey} (h:apartL pub=some k):k.Ok∧pub.length=56:=by
 unfold apartL at h;split at h
 ·rename_i hl
  split at h
  ·rename_i hh x eh ex
   cases Option.some.inj h
   refine ⟨⟨ex,?_,?_,?_,?_⟩,hl⟩
   ·have:=YAX eh;simp at this;show 1≤hh;omega
   ·have:=YAX eh;simp at this;show hh≤5;omega
   ·show ((pub.drop 8).take 16).length=16;rw[YAS,YAQ];omega
   ·show (pub.drop 24).length=32;rw[YAQ];omega
  ·simp at h
 ·simp at h
theorem PKey.Ok.p {k:PKey} (o:k.Ok):k.p≤67:=by
 rcases otsP_cases o.o with ⟨_,h⟩ | ⟨_,h⟩ <;> simp only [Prod.mk.injEq] at h <;> omega
theorem pkey_z {k:PKey} (o:k.Ok):oSize (k.kind:Int)=k.oSize:=by unfold oSize PKey.oSize;rw[o.o];rfl
theorem ZC2.s {x n:Nat} {h:Heap} {K:ByteArray→Heap→Prop} (hn:n=1∨n=2∨n=4) (hx:x<256^n) (hK:∀h',Keep [] h h'→K (bx (be x n)) h'):ZC2.C (x:Int) (n:Int) h K:=by
 apply ZC2.c;unfold ZC2.m;refine ZBs.s fun h1 k1 i1 =>?_;refine ZAC.s i1 hn hx (by simp;omega) fun h2 s2 k2 i2 o2 =>?_;refine ZAJ.s i2 ?_;exact hK h2 (k1.new k2 (by simp[own]))
theorem ZCk.s {n:Nat} {h:Heap} {K:Int→Heap→Prop} (hn:n≤6) (hK:K ((kindOf n:Nat):Int) h):ZCk.C (n:Int) h K:=by
 apply ZCk.c;unfold ZCk.m;unfold kindOf at hK;by_cases h5:n=5
 ·rw[if_pos (show decide ((n:Int)=5)=true from dT (by omega))];rw[if_pos h5] at hK;exact hK
 ·rw[if_neg (show ¬decide ((n:Int)=5)=true from dn (by omega))];rw[if_neg h5] at hK;rw[w64_id (by omega) (by omega)];rw[show (4026531840+(n:Int))=((4026531840+n:Nat):Int) by omega];exact hK
theorem ZCY.s {t:Nat} {h:Heap} {K:Int→Bool→Heap→Prop} (hK:K (((heightOf t).getD 0:Nat):Int) (heightOf t).isSome h):ZCY.C (t:Int) h K:=by
 apply ZCY.c;unfold ZCY.m;refine lp_go (fun (y:Int×Unit) (h1:Heap)=>∃n:Nat,y.1=n∧1≤n∧n≤6∧h1=h∧heightOf t=(List.range' n (6-n)).find? fun a=>decide (kindOf a=t)) (fun (y:Int×Unit) _=>6-y.1.toNat) ?_ ?_
 ·exact ⟨1,rfl,by decide,by decide,rfl,rfl⟩
 rintro ⟨(jj:Int),_⟩ h1 ⟨n,e,h1n,hn,rfl,hf⟩;dsimp only at e ⊢;subst e;by_cases hlt:n≤5
 ·rw[if_pos (show decide ((n:Int)≤5)=true from dT (by omega))];rw[show 6-n=(5-n)+1 by omega,List.range'_succ,List.find?_cons] at hf;refine ZCk.s (by omega) ?_;by_cases hk:kindOf n=t
  ·rw[if_pos (show decide (((kindOf n:Nat):Int)=(t:Int))=true from dT (by omega))];rw[dT hk] at hf;rw[hf] at hK;exact hK
  ·rw[if_neg (show ¬decide (((kindOf n:Nat):Int)=(t:Int))=true from fun h=>hk (by have:=of_decide_eq_true h;omega))];rw[dF hk] at hf;have hw:w64 ((n:Int)+1)=((n+1:Nat):Int):=w6 (by omega);rw[hw];exact ⟨⟨n+1,rfl,by omega,by omega,rfl,by rw[show 6-(n+1)=5-n by omega];exact hf⟩,by simp;omega⟩
 ·rw[if_neg (show ¬decide ((n:Int)≤5)=true from dn (by omega))];rw[show 6-n=0 by omega] at hf;rw[hf] at hK;exact hK
theorem ZCQ.s {pub:By} {h:Heap} {K:KyK.Ty→Bool→Heap→Prop} (hbad:apartL pub=none→∀v h',Keep [] h h'→K v false h') (hok:∀k h',apartL pub=some k→Keep [] h h'→K (kyV k) true h'):ZCQ.C (bx pub) h K:=by
 apply ZCQ.c;unfold ZCQ.m;refine new_gen fun b1 h1 hb1 k1 e1 hs1 =>?_;have e1:h1[b1]? = some (vobj t_lms_Key KyK ((0,(0,((⟨#[]⟩:ByteArray),((⟨#[]⟩:ByteArray),())))):KyK.Ty)):=e1;unfold apartL at hbad hok;by_cases hl:pub.length=56
 ·rw[if_neg (by rw[bx_size,hl];decide)];rw[if_pos hl] at hbad hok;refine ZCM.s fun h2 k2 r2 =>?_;rw[bx_dl] at r2;refine ZAa.s (n:=4) r2 (by decide) (fun h=>by omega) fun _ h3 k3 r3 =>?_;refine ZAa.s (n:=4) r3 (by decide) (fun h=>by rw[YAQ] at h;omega) fun _ h4 k4 r4 =>?_;generalize beVal (pub.take 4)=t at *;generalize beVal ((pub.drop 4).take 4)=kd at *;refine ZCY.s ?_;refine ZB2.s fun h5 k5 =>?_;have z1:=k1.1;have k24:Keep [] h1 h4:=(k2.n k3).n k4;have k25:Keep [] h1 h5:=k24.n k5;have e5:=k25.g e1;refine jn_in (fun y h'=>y=((heightOf t).isSome&&(otsP (kd:Int)).isSome,())∧Keep [] h h'∧h'[b1]? = some (vobj t_lms_Key KyK ((((heightOf t).getD 0:Nat):Int),((kd:Int),(bx ((pub.drop 8).take 16),(bx (pub.drop 24),())))))) ?_ ?_
  ·have hw:w64 ((8:Int)+16)=((24:Nat):Int):=by decide
   rw[hw];refine sls_by (lo:=8) (hi:=24) (by omega) (by omega) ?_;refine sls_from (lo:=24) (by omega) ?_;rw[show (pub.take 24).drop 8=(pub.drop 8).take 16 by rw[YAF]];have kk:∀ {h6},Keep [b1] h5 h6→Keep [] h h6:=fun k6=>(k1.n k25).new k6 (by simp;omega)
   cases hh:(heightOf t).isSome with
   | true =>
     rw[if_pos rfl];refine st_to e5 fun h6 k6 e6 hs6 =>?_;exact ⟨by simp,kk k6,e6⟩
   | false =>
     rw[if_neg (by simp)];refine st_to e5 fun h6 k6 e6 hs6 =>?_;exact ⟨by simp,kk k6,e6⟩
  ·rintro _ h6 ⟨rfl,k6,e6⟩;refine ld_go (sm_all e6) ?_
   cases hh:heightOf t with
   | none =>
     rw[hh] at hbad;exact hbad rfl _ h6 k6
   | some a =>
     cases ho:otsP (kd:Int) with
     | none =>
       rw[hh,ho] at hbad;exact hbad rfl _ h6 k6
     | some x =>
       rw[hh,ho] at hok;exact hok _ h6 rfl k6
 ·rw[if_pos (by rw[bx_size];simp;omega)];rw[if_neg hl] at hbad;refine st_to e1 fun h2 k2 e2 hs2=>ld_go (sm_all e2) ?_;exact hbad rfl _ h2 (k1.new k2 (by simp;omega))
theorem ZAP.s {k:PKey} {h:Heap} {K:Int→Heap→Prop} (o:k.Ok) (hK:∀h',Keep [] h h'→K ((k.size:Nat):Int) h'):ZAP.C (kyV k) h K:=by
 apply ZAP.c;unfold ZAP.m;refine new_gen fun b1 h1 hb1 k1 e1 hs1 =>?_;have e1:h1[b1]? = some (vobj t_lms_Key KyK (kyV k)):=e1;refine ld_go (sm_fld (n:=1) (k' := .i) (y:=(k.kind:Int)) e1 rfl (by decide)) ?_;refine ZB2.s fun h2 k2 =>?_;rw[pkey_z o];refine ld_go (sm_fld (n:=0) (k' := .i) (y:=(k.h:Int)) (k2.g e1) rfl (by decide)) ?_;have h5:=o.h5;have hp:=o.p
 have hw:w64 (w64 (8+((k.oSize:Nat):Int))+w64 (32*(k.h:Int)))=((k.size:Nat):Int):=by
  unfold PKey.size PKey.oSize;rw[w64_id (n:=8+((36+32*k.p:Nat):Int)) (by omega) (by omega),w64_id (n:=32*(k.h:Int)) (by omega) (by omega),w64_id (by omega) (by omega)];omega
 rw[hw];exact hK h2 (k1.n k2)
theorem pkey_size {k:PKey} (o:k.Ok):k.size=8+k.oSize+32*k.h∧k.oSize=36+32*k.p∧k.p≤67∧k.h≤5:=⟨rfl,rfl,o.p,o.h5⟩
theorem beVal4_lt {l:By} (h:l.length≤4):beVal l<4294967296:=by
 have:=beVal_lt l;have h2:256^l.length≤256^4:=YAm (by decide) h;omega
theorem ZCA.s {k:PKey} {sig:By} {h:Heap} {K:PaK.Ty→Bool→Heap→Prop} (o:k.Ok) (hbad:k.fits sig=false→∀v h',Keep [] h h'→K v false h')
 (hok:k.fits sig=true→∀h',Keep [] h h'→K (paV (beVal (sig.take 4)) ((sig.drop 4).take k.oSize) (sig.drop (8+k.oSize))) true h'):ZCA.C (kyV k) (bx sig) h K:=by
 obtain ⟨zs,zo,zp,zh⟩:=pkey_size o;apply ZCA.c;unfold ZCA.m;refine new_gen fun b1 h1 hb1 k1 e1 hs1 =>?_;have e1:h1[b1]? = some (vobj t_lms_Key KyK (kyV k)):=e1;refine new_gen fun b2 h2 hb2 k2 e2 hs2 =>?_;have e2:h2[b2]? = some (vobj t_lms_parts PaK ((0,((⟨#[]⟩:ByteArray),((⟨#[]⟩:ByteArray),()))):PaK.Ty)):=e2;refine ld_go (sm_all (k2.g e1)) ?_;refine ZAP.s o fun h3 k3 =>?_;have z1:=k1.1;have z2:=k2.1;have k03:Keep [] h h3:=(k1.n k2).n k3;have e13:=k3.g (k2.g e1);have e23:=k3.g e2;by_cases hl:sig.length=k.size
 ·rw[if_neg (by rw[bx_size,hl];simp)];have f1:∀ {hh:Heap},hh[b1]? = some (vobj t_lms_Key KyK (kyV k))→sm .i ((Pl.mk b1 0).fld 1) (k.kind:Int) hh:=fun e=>sm_fld (n:=1) (k' := .i) e rfl (by decide);have f0:∀ {hh:Heap},hh[b1]? = some (vobj t_lms_Key KyK (kyV k))→sm .i ((Pl.mk b1 0).fld 0) (k.h:Int) hh:=fun e=>sm_fld (n:=0) (k' := .i) e rfl (by decide);refine ld_go (f1 e13) ?_;refine ZB2.s fun h4 k4 =>?_;rw[pkey_z o];refine ZCM.s fun h5 k5 r5 =>?_;rw[bx_dl] at r5;refine ZAa.s (n:=4) r5 (by decide) (fun h=>by omega) fun _ h6 k6 r6 =>?_;have hw4:w64 (4+((k.oSize:Nat):Int))=((4+k.oSize:Nat):Int):=w6 (by omega);have hw8:w64 (8+((k.oSize:Nat):Int))=((8+k.oSize:Nat):Int):=w6 (by omega);rw[hw4,hw8];refine sls_by (lo:=4) (by omega) (by omega) ?_;refine sls_from (by omega) ?_;rw[show (sig.take (4+k.oSize)).drop 4=(sig.drop 4).take k.oSize by rw[YAF];congr 1;omega];refine new_st_gen fun b3 h7 hb3 k7 e7 hs7 =>?_;have e7:h7[b3]? = some (vobj t_lms_parts PaK (paV (beVal (sig.take 4)) ((sig.drop 4).take k.oSize) (sig.drop (8+k.oSize)))):=e7;refine sls_from (by omega) ?_;refine ZCM.s fun h8 k8 r8 =>?_;rw[bx_dl] at r8;refine ZAa.s (n:=4) r8 (by decide) (fun h=>by rw[YAQ] at h;omega) fun _ h9 k9 r9 =>?_;have k46:Keep [] h3 h7:=((k4.n k5).new k6 (by have:=k4.1;simp;omega)).n k7;have k79:Keep [] h7 h9:=k8.n k9;have e79:=k79.g e7;refine ld_go (sm_fld (n:=1) (k' := .s) (y:=bx ((sig.drop 4).take k.oSize)) e79 rfl (by decide)) ?_;have hol:((sig.drop 4).take k.oSize).length=k.oSize:=by rw[YAS,YAQ];omega
  refine ZDJ.s (fun h=>by omega) fun _ h10 k10 =>?_;have ht4:(((sig.drop 4).take k.oSize).take 4)=(sig.drop 4).take 4:=by rw[List.take_take,YAh (by omega)]
  rw[ht4,hol];have hq4:=beVal4_lt (l:=sig.take 4) (by rw[YAS];omega)
  have hfit:k.fits sig=(decide (beVal ((sig.drop 4).take 4)=k.kind)&&decide (beVal ((sig.drop (4+k.oSize)).take 4)=kindOf k.h)&&decide (beVal (sig.take 4)<2^k.h)):=by
   unfold PKey.fits;rw[dT hl,YAt]
  rw[hfit] at hbad hok
  have hkd:beVal ((sig.drop 4).take 4)=k.kind→((otsP ((beVal ((sig.drop 4).take 4):Nat):Int)).isSome&&decide (oSize ((beVal ((sig.drop 4).take 4):Nat):Int)=k.oSize))=true:=fun e=>by
   rw[e,pkey_z o,o.o];simp
  generalize beVal (sig.take 4)=q at *;generalize beVal ((sig.drop 4).take 4)=kd at *;generalize beVal ((sig.drop (4+k.oSize)).take 4)=ty at *;generalize ((otsP (kd:Int)).isSome&&decide (oSize (kd:Int)=k.oSize))=bb at *;have k310:Keep [] h3 h10:=(k46.n k79).n k10;have k010:Keep [] h h10:=k03.n k310;have e110:=k310.g e13;have e210:=k310.g e23;have e310:=k10.g e79;have z3:=k3.1;generalize hpv:paV q ((sig.drop 4).take k.oSize) (sig.drop (8+k.oSize))=pv at *;have n23:b2≠b3:=by have:=lt_of_some e23;have:=k4.1;have:=k5.1;have:=k6.1;omega
  have n12:b1≠b2:=by have:=lt_of_some e1;omega
  refine jn_in (fun y h'=>y=(decide (kd=k.kind)&&decide (ty=kindOf k.h)&&decide (q<2^k.h),())∧Keep [] h h'∧h'[b2]? = some (vobj t_lms_parts PaK pv)) ?_ ?_
  ·refine ld_go (sm_all e310) ?_;by_cases hk:kd=k.kind
   ·rw[hkd hk,if_pos rfl];refine ld_go (f1 e110) ?_;rw[if_pos (show decide ((kd:Int)=(k.kind:Int))=true from dT (by omega))];refine ld_go (f0 e110) ?_;refine ZCk.s (by omega) ?_;refine ⟨sm_all e310,?_⟩;by_cases ht:ty=kindOf k.h
    ·rw[if_pos (show decide ((ty:Int)=((kindOf k.h:Nat):Int))=true from dT (by omega))];refine ld_go (f0 e110) ⟨YAb k.h,?_⟩;refine st_to e210 fun h11 k11 e11 hs11 =>?_;refine ⟨f0 (k11.get e110 (by simpa using n12)),?_,k010.new k11 (by simp;omega),e11⟩
     have hsh:shlI 1 (k.h:Int)=((2^k.h:Nat):Int):=by
      have:=shlI_nat (a:=1) (k:=k.h) (by omega) (by
       have:2^k.h≤2^5:=YAm (by decide) zh;omega)
      rw[YAl] at this;exact this
     rw[hsh,dT hk,dT ht];have:decide ((q:Int)<((2^k.h:Nat):Int))=decide (q<2^k.h):=decide_eq_decide.2 (by generalize 2^k.h=m;omega);rw[this];rfl
    ·rw[if_neg (show ¬decide ((ty:Int)=((kindOf k.h:Nat):Int))=true from fun h=>ht (by have:=of_decide_eq_true h;omega))];refine st_to e210 fun h11 k11 e11 hs11 =>?_;exact ⟨by rw[dF ht];simp,k010.new k11 (by simp;omega),e11⟩
   ·cases bb with
    | true =>
      rw[if_pos rfl];refine ld_go (f1 e110) ?_;rw[if_neg (show ¬decide ((kd:Int)=(k.kind:Int))=true from fun h=>hk (by have:=of_decide_eq_true h;omega))];refine st_to e210 fun h11 k11 e11 hs11 =>?_;exact ⟨by rw[dF hk];simp,k010.new k11 (by simp;omega),e11⟩
    | false =>
      rw[if_neg (by simp)];refine st_to e210 fun h11 k11 e11 hs11 =>?_;exact ⟨by rw[dF hk];simp,k010.new k11 (by simp;omega),e11⟩
  ·rintro _ h11 ⟨rfl,k11,e11⟩;refine ld_go (sm_all e11) ?_
   cases hb:(decide (kd=k.kind)&&decide (ty=kindOf k.h)&&decide (q<2^k.h)) with
   | true=>exact hok hb h11 k11
   | false=>exact hbad hb pv h11 k11
 ·rw[if_pos (by rw[bx_size];simp;omega)];have hf:k.fits sig=false:=by unfold PKey.fits;rw[dF hl];simp
  refine st_to e23 fun h4 k4 e4 hs4=>ld_go (sm_all e4) ?_;exact hbad hf _ h4 (k03.new k4 (by simp;omega))
theorem ZDg.s {id:By} {r:Nat} {v:Kd.Ty (.ar 32 .u8)} {h:Heap} {K:Kd.Ty (.ar 32 .u8)→Heap→Prop} (hid:id.length≤1000) (hr:r<4294967296) (hK:∀x h',Vector.toList x=tipL id r (Vector.toList v)→Keep [] h h'→K x h'):ZDg.C (bx id) (r:Int) v h K:=by
 apply ZDg.c;unfold ZDg.m;refine new_gen fun b1 h1 hb1 k1 e1 hs1 =>?_;refine new_gen fun b2 h2 hb2 k2 e2 hs2 =>?_;have e12:=k2.g e1;refine ⟨by decide,by decide,by decide,?_⟩;have g:Seg .u8 ⟨some ⟨b1,0⟩,32,32⟩ (Vector.toList v) h2:=ar_seg e12;refine b2s_segq g fun q hq =>?_;refine ZC2.s (n:=4) (by decide) (by omega) fun h3 k3 =>?_;refine hq [] h3 k3 (by simp) _ ?_;refine sadd_b (by rw[be_len];omega) ?_;refine ZC2.s (x:=33410) (n:=2) (by decide) (by decide) fun h4 k4 =>?_;refine hq [] h4 (k3.n k4) (by simp) _ ?_;refine sadd_b (by rw[YAO,be_len,be_len];omega) ?_;have hv:(Vector.toList v).length=32:=by simp
 show sadd _ (bx (Vector.toList v)) _;refine sadd_b (by rw[YAO,YAO,be_len,be_len,hv];omega) ?_;refine ZBM.t (by rw[bx_size,YAO,YAO,YAO,be_len,be_len,hv];omega) fun h5 k5 =>?_;rw[bx_dl];have k25:Keep [] h2 h5:=(k3.n k4).n k5;refine st_to (k25.g e2) fun h6 k6 e6 hs6=>ld_go (sm_all e6) ?_;have z1:=k1.1;refine hK _ h6 ?_ (((k1.n k2).n k25).new k6 (by simp;omega));rw[show be 33410 2=[130,130] from by decide]
 rfl
theorem ZDK.s {id:By} {r:Nat} {u v:Kd.Ty (.ar 32 .u8)} {h:Heap} {K:Kd.Ty (.ar 32 .u8)→Heap→Prop} (hid:id.length≤1000) (hr:r<4294967296) (hK:∀x h',Vector.toList x=joinL id r (Vector.toList u) (Vector.toList v)→Keep [] h h'→K x h'):ZDK.C (bx id) (r:Int) u v h K:=by
 apply ZDK.c;unfold ZDK.m;refine new_gen fun b1 h1 hb1 k1 e1 hs1 =>?_;refine new_gen fun b2 h2 hb2 k2 e2 hs2 =>?_;refine new_gen fun b3 h3 hb3 k3 e3 hs3 =>?_;have e13:=k3.g (k2.g e1);have e23:=k3.g e2;refine ⟨by decide,by decide,by decide,?_⟩;have g:Seg .u8 ⟨some ⟨b1,0⟩,32,32⟩ (Vector.toList u) h3:=ar_seg e13;refine b2s_segq g fun q hq =>?_;refine ⟨by decide,by decide,by decide,?_⟩;have g2:Seg .u8 ⟨some ⟨b2,0⟩,32,32⟩ (Vector.toList v) h3:=ar_seg e23;refine b2s_segq g2 fun q2 hq2 =>?_;refine ZC2.s (n:=4) (by decide) (by omega) fun h4 k4 =>?_;refine hq2 [] h4 k4 (by simp) _ (hq [] h4 k4 (by simp) _ ?_);refine sadd_b (by rw[be_len];omega) ?_;refine ZC2.s (x:=33667) (n:=2) (by decide) (by decide) fun h5 k5 =>?_;have k35:Keep [] h3 h5:=k4.n k5;refine hq2 [] h5 k35 (by simp) _ (hq [] h5 k35 (by simp) _ ?_);have hu:(Vector.toList u).length=32:=by simp
 have hv:(Vector.toList v).length=32:=by simp
 refine sadd_b (by rw[YAO,be_len,be_len];omega) ?_;show sadd _ (bx (Vector.toList u)) _;refine sadd_b (by rw[YAO,YAO,be_len,be_len,hu];omega) ?_;show sadd _ (bx (Vector.toList v)) _;refine sadd_b (by rw[YAO,YAO,YAO,be_len,be_len,hu,hv];omega) ?_;refine ZBM.t (by rw[bx_size,YAO,YAO,YAO,YAO,be_len,be_len,hu,hv];omega) fun h6 k6 =>?_;rw[bx_dl];have k36:Keep [] h3 h6:=k35.n k6;refine st_to (k36.g e3) fun h7 k7 e7 hs7=>ld_go (sm_all e7) ?_;have z1:=k1.1;have z2:=k2.1;refine hK _ h7 ?_ ((((k1.n k2).n k3).n k36).new k7 (by simp;omega));rw[show be 33667 2=[131,131] from by decide]
 rfl
abbrev HsU:Kd := .ar 32 .u8
theorem climb_succ {id:By} {n r:Nat} {x path:By}:climbL id (n+1) r x path=climbL id n (r/2) (if r%2=0 then joinL id (r/2) x (path.take 32) else joinL id (r/2) (path.take 32) x) (path.drop 32):=rfl
theorem ZC1.s {pub msg sig:By} {h:Heap} {K:Int→Heap→Prop} (hK:∀h',Keep [] h h'→K (lmsV pub msg sig) h'):ZC1.C (bx pub) (bx msg) (bx sig) h K:=by
 apply ZC1.c;unfold ZC1.m;unfold lmsV at hK;refine ZCQ.s (fun hn v h1 k1 =>?_) fun k h1 hk k1 =>?_
 ·rw[hn] at hK;refine new_st_gen fun b1 h3 hb1 k3 e3 hs3 =>?_;rw[if_pos (show (!false)=true from rfl)];exact hK h3 (k1.n k3)
 obtain ⟨o,hpl⟩:=apart_ok hk;obtain ⟨zs,zo,zp,zh⟩:=pkey_size o;rw[hk] at hK;dsimp only at hK;refine new_st_gen fun b1 h3 hb1 k3 e3 hs3 =>?_;have e3:h3[b1]? = some (vobj t_lms_Key KyK (kyV k)):=e3;rw[if_neg (by simp)];refine ld_go (sm_all e3) ?_;refine ZCA.s o (fun hf v h4 k4 =>?_) fun hf h4 k4 =>?_
 ·refine new_st_gen fun b2 h6 hb2 k6 e6 hs6 =>?_;refine jn_at (true,()) h6 ?_ ?_
  ·rw[if_pos (show (!false)=true from rfl)];exact ⟨rfl,rfl⟩
  ·rw[if_pos rfl];have:=hK h6 (((k1.n k3).n k4).n k6);rw[hf] at this;simpa using this
 refine new_st_gen fun b2 h6 hb2 k6 e6 hs6 =>?_;refine jn_at (decide (((bx msg).size:Int)>65536),()) h6 ?_ ?_
 ·rw[if_neg (by simp)];exact ⟨rfl,rfl⟩
 have k06:Keep [] h h6:=((k1.n k3).n k4).n k6;rcases Nat.lt_or_ge 65536 msg.length with hm | hm
 ·rw[if_pos (show decide (((bx msg).size:Int)>65536)=true from dT (by rw[bx_size];omega))];have:=hK h6 k06;rw[if_neg (by omega)] at this;exact this
 rw[if_neg (show ¬decide (((bx msg).size:Int)>65536)=true from fun h=>by have:=of_decide_eq_true h;rw[bx_size] at this;omega)];rw[if_pos ⟨hf,hm⟩] at hK;unfold PKey.fits at hf;simp only [YAq,decide_eq_true_eq] at hf;obtain ⟨⟨⟨f1,f2⟩,f3⟩,f4⟩:=hf;have e6:h6[b2]? = some (vobj t_lms_parts PaK (paV (beVal (sig.take 4)) ((sig.drop 4).take k.oSize) (sig.drop (8+k.oSize)))):=e6;have e36:=k6.g (k4.g e3);have ht4:(((sig.drop 4).take k.oSize).take 4)=(sig.drop 4).take 4:=by rw[List.take_take,YAh (by omega)]
 have hol:((sig.drop 4).take k.oSize).length=k.oSize:=by rw[YAS,YAQ];omega
 have h2h:2^k.h≤2^5:=YAm (by decide) zh;have hpat:(sig.drop (8+k.oSize)).length=32*k.h:=by rw[YAQ];omega
 unfold PKey.top at hK;generalize hq:beVal (sig.take 4)=q at *;generalize hos:(sig.drop 4).take k.oSize=os at *;generalize hpp:sig.drop (8+k.oSize)=pth at *;have fi:∀ {hh:Heap},hh[b1]? = some (vobj t_lms_Key KyK (kyV k))→sm .s ((Pl.mk b1 0).fld 2) (bx k.id) hh:=fun e=>sm_fld (n:=2) (k' := .s) e rfl (by decide);have fr:∀ {hh:Heap},hh[b1]? = some (vobj t_lms_Key KyK (kyV k))→sm .s ((Pl.mk b1 0).fld 3) (bx k.root) hh:=fun e=>sm_fld (n:=3) (k' := .s) e rfl (by decide);have fh:∀ {hh:Heap},hh[b1]? = some (vobj t_lms_Key KyK (kyV k))→sm .i ((Pl.mk b1 0).fld 0) (k.h:Int) hh:=fun e=>sm_fld (n:=0) (k' := .i) e rfl (by decide);have gq:∀ {hh:Heap},hh[b2]? = some (vobj t_lms_parts PaK (paV q os pth))→sm .i ((Pl.mk b2 0).fld 0) (q:Int) hh:=fun e=>sm_fld (n:=0) (k' := .i) e rfl (by decide);refine ld_go (fi e36) (ld_go (gq e6) (ld_go (sm_fld (n:=1) (k' := .s) (y:=bx os) e6 rfl (by decide)) ?_));refine ZCD.s (w:=k.w) (p:=k.p) (ls:=k.ls) o.i (by omega) hm (by rw[ht4,f2];exact o.o) (by rw[hol,zo]) fun v h8 hv k8 =>?_;refine new_st_gen fun b3 h10 hb3 k10 e10 hs10 =>?_;have k610:Keep [] h6 h10:=k8.n k10;have e1k:=k610.g e36;have e2k:=k610.g e6;refine ld_go (fh e1k) ⟨YAb k.h,?_⟩;refine ld_go (gq e2k) (ld_go (fi e1k) (ld_go (sm_all e10) ?_))
 have hr:w64 (shlI 1 (k.h:Int)+(q:Int))=((2^k.h+q:Nat):Int):=by
  have:=shlI_nat (a:=1) (k:=k.h) (by omega) (by omega);rw[YAl] at this;have e1:shlI 1 (k.h:Int)=((2^k.h:Nat):Int):=this;rw[e1];generalize 2^k.h=m at *;rw[w64_id (by omega) (by omega)];omega
 rw[hr];refine ZDg.s (by rw[o.i];omega) (by generalize 2^k.h=m at *;omega) fun x h11 hx k11 =>?_;refine new_st_gen fun b4 h13 hb4 k13 e13 hs13 =>?_;have e13:h13[b4]? = some (vobj t_api_Hash HsU x):=e13;have k1013:Keep [] h10 h13:=k11.n k13;refine ld_go (sm_fld (n:=2) (k' := .s) (y:=bx pth) (k1013.g e2k) rfl (by decide)) ?_;rw[hv] at hx;rw[←hx] at hK;have e1m:=k1013.g e1k;have k013:Keep [] h h13:=(k06.n k610).n k1013;have n14:b1≠b4:=by have:=lt_of_some e1k;have:=k11.1;omega
 have hb4h:h.size≤b4:=by have:=(k06.n k610).1;have:=k11.1;omega
 clear hv hx
 generalize hN:2^k.h+q=N at *;have hN64:N≤64:=by omega
 clear hr hN
 generalize hG:climbL k.id k.h N (Vector.toList x) pth=G at *;refine lp_go (fun (y:Int×ByteArray×Unit) (h14:Heap)=>∃(n r:Nat) (P:By) (z:HsU.Ty),y.1=r∧y.2.1=bx P∧P.length=32*n∧r≤64∧h14[b4]? = some (vobj t_api_Hash HsU z)∧climbL k.id n r (Vector.toList z) P=G∧Keep [b4] h13 h14) (fun (y:Int×ByteArray×Unit) _=>y.2.1.size) ?_ ?_
 ·exact ⟨k.h,N,pth,x,rfl,rfl,hpat,hN64,e13,hG,Keep.rfl⟩
 rintro ⟨(rr:Int),(pp:ByteArray),_⟩ h14 ⟨n,r,P,z,e1,e2,hP,hr,e14,hc,k14⟩;dsimp only at e1 e2 ⊢;subst e1;subst e2;have e1n:=k14.get e1m (by simpa using n14)
 cases n with
 | zero =>
   have:P=[]:=List.length_eq_zero_iff.1 (by omega);subst this;rw[if_neg (by simp[bx])];refine ⟨by decide,by decide,by decide,?_⟩;have g:Seg .u8 ⟨some ⟨b4,0⟩,32,32⟩ (Vector.toList z) h14:=ar_seg e14;refine b2s_segq g fun q' _ =>?_;refine ld_go (fr e1n) ?_;have hz:Vector.toList z=G:=hc;show (if (!(decide (bx (Vector.toList z)=bx k.root)))=true then _ else _);have hfin:=hK h14 (k013.new k14 (by simpa using hb4h));rw[hz];by_cases hG':G=k.root
   ·rw[if_neg (by simp[hG'])];rw[if_pos hG'] at hfin;exact hfin
   ·rw[if_pos (by simp only [YAs,decide_eq_false_iff_not];exact fun e=>hG' (bx_injU.1 e))];rw[if_neg hG'] at hfin;exact hfin
 | succ n =>
   rw[if_pos (by
    simp only [YAs,decide_eq_false_iff_not];intro e;have:P=[]:=bx_injU.1 (e:bx P=bx []);rw[this] at hP;simp at hP)]
   rw[climb_succ] at hc;generalize hW:(if r%2=0 then joinL k.id (r/2) (Vector.toList z) (P.take 32) else joinL k.id (r/2) (P.take 32) (Vector.toList z))=W at hc
   have htd:w64 ((r:Int).tdiv 2)=((r/2:Nat):Int):=by
    rw[YAc (by omega),w64_id (by omega) (by omega)];omega
   have htm:((r:Int)).tmod 2=((r%2:Nat):Int):=by
    rw[Int.tmod_eq_emod_of_nonneg (by omega)];omega
   rw[htd,htm];refine jn_in (fun y h'=>y=(((r/2:Nat):Int),())∧∃z':HsU.Ty,h'[b4]? = some (vobj t_api_Hash HsU z')∧Vector.toList z'=W∧Keep [b4] h14 h') ?_ ?_
   ·refine sls_by (lo:=0) (hi:=32) (by omega) (by omega) ?_;rw[YAG];refine s2a_go (by rw[YAS];omega) fun u h16 hu k16 =>?_;refine new_st_gen fun b5 h18 hb5 k18 e18 hs18 =>?_;have e18:h18[b5]? = some (vobj t_api_Hash HsU u):=e18;have k1418:Keep [] h14 h18:=k16.n k18;have e1o:=k1418.g e1n;have e4o:=k1418.g e14;refine ⟨by decide,?_⟩;refine jn_in (fun _ h'=>∃z':HsU.Ty,h'[b4]? = some (vobj t_api_Hash HsU z')∧Vector.toList z'=W∧Keep [b4] h14 h') ?_ ?_
    ·by_cases h2:r%2=0
     ·rw[if_pos h2] at hW;rw[if_pos (show decide (((r%2:Nat):Int)=0)=true from dT (by omega))];refine ld_go (fi e1o) ⟨by decide,ld_go (sm_all e4o) (ld_go (sm_all e18) ?_)⟩;refine ZDK.s (by rw[o.i];omega) (by omega) fun z' h20 hz k20 =>?_;refine st_to (k20.g e4o) fun h21 k21 e21 hs21 =>?_;refine ⟨z',e21,?_,(k1418.n k20).then (U:=[b4]) k21 (by simp) (fun x hx _=>hx)⟩;rw[hz,hu,hW]
     ·rw[if_neg h2] at hW;rw[if_neg (show ¬decide (((r%2:Nat):Int)=0)=true from fun h=>h2 (by have:=of_decide_eq_true h;omega))];refine ld_go (fi e1o) ⟨by decide,ld_go (sm_all e18) (ld_go (sm_all e4o) ?_)⟩;refine ZDK.s (by rw[o.i];omega) (by omega) fun z' h20 hz k20 =>?_;refine st_to (k20.g e4o) fun h21 k21 e21 hs21 =>?_;refine ⟨z',e21,?_,(k1418.n k20).then (U:=[b4]) k21 (by simp) (fun x hx _=>hx)⟩;rw[hz,hu,hW]
    ·rintro _ h19 ⟨z',e19,hz,k19⟩;exact ⟨by decide,rfl,z',e19,hz,k19⟩
   ·rintro _ h15 ⟨rfl,z',e15,hz,k15⟩;refine sls_from (lo:=32) (by omega) ?_;refine ⟨⟨n,r/2,P.drop 32,z',rfl,rfl,by rw[YAQ];omega,by omega,e15,by rw[hz];exact hc,k14.then k15 (fun x hx _=>hx) (fun x hx _=>hx)⟩,?_⟩;show (bx (P.drop 32)).size<(bx P).size;rw[bx_size,bx_size,YAQ];omega
theorem ZDV.s {x:Nat} {h:Heap} {K:ByteArray→Heap→Prop} (hx:x<4294967296) (hK:∀h',Keep [] h h'→K (bx (be x 4)) h'):ZDV.C (x:Int) h K:=by
 apply ZDV.c;unfold ZDV.m;refine ZBs.s fun h1 k1 i1 =>?_;refine ZAC.s (n:=4) i1 (by decide) (by omega) (by simp) fun h2 s2 k2 i2 o2 =>?_;refine ZAJ.s i2 ?_;exact hK h2 (k1.new k2 (by simp[own]))
def hssA (pub sig:By):Option (By×By×By×By):=
 if pub.length=60∧pub.take 4=be 2 4∧4≤sig.length∧sig.take 4=be 1 4 then
  match apartL (pub.drop 4) with
  | none=>none
  | some k =>
    if sig.length<4+k.size+56 then none else
    match apartL ((sig.drop (4+k.size)).take 56) with
    | none=>none
    | some _=>some (pub.drop 4,(sig.drop (4+k.size)).take 56,(sig.drop 4).take k.size,sig.drop (60+k.size))
 else none
theorem lmsV_cases (pub msg sig:By):lmsV pub msg sig=0∨lmsV pub msg sig=500∨lmsV pub msg sig=502:=by
 unfold lmsV;split
 ·simp
 ·split
  ·split <;> simp
  ·simp
theorem hssV_A {pub msg sig:By}:hssV pub msg sig=match hssA pub sig with
 | none=>600
 | some (top,low,a,b)=>if lmsV top low a=500∨lmsV low msg b=500 then 600 else if lmsV top low a=0∧lmsV low msg b=0 then 0 else 602:=by
 unfold hssV hssA;by_cases hc:pub.length=60∧pub.take 4=be 2 4∧4≤sig.length∧sig.take 4=be 1 4
 ·rw[if_pos hc,if_pos ⟨hc.1,hc.2.1,hc.2.2.2,hc.2.2.1⟩]
  cases apartL (pub.drop 4) with
  | none=>rfl
  | some k =>
    dsimp only;by_cases hl:sig.length<4+k.size+56
    ·rw[if_pos hl,if_pos hl]
    ·rw[if_neg hl,if_neg hl];generalize (sig.drop (4+k.size)).take 56=low
     cases ha:apartL low with
     | none =>
       dsimp only;have:lmsV low msg (sig.drop (60+k.size))=500:=by unfold lmsV;rw[ha]
       rw[if_pos (.inr this)]
     | some k2=>rfl
 ·rw[if_neg hc,if_neg (fun h=>hc ⟨h.1,h.2.1,h.2.2.2,h.2.2.1⟩)]
abbrev TrK:Kd := .ag (.pr .s (.pr .s (.pr .s .un)))
def trV (a b c:By):TrK.Ty:=(bx a,(bx b,(bx c,())))
theorem ZDM.s {pub msg sig:By} {h:Heap} {K:Slc→Bool→Heap→Prop} (hsg:sig.length≤9000000000000) (hbad:hssA pub sig=none→∀s h',Keep [] h h'→K s false h')
 (hok:∀top low a b,hssA pub sig=some (top,low,a,b)→∀s h',Keep [] h h'→Row h' t_hss_step TrK s [trV top low a,trV low msg b]→K s true h'):ZDM.C (bx pub) (bx msg) (bx sig) h K:=by
 apply ZDM.c;unfold ZDM.m;unfold hssA at hbad hok;refine jn_in (fun y h'=>y=(!decide (pub.length=60∧pub.take 4=be 2 4∧4≤sig.length∧sig.take 4=be 1 4),())∧Keep [] h h') ?_ ?_
 ·by_cases h60:pub.length=60
  ·rw[if_neg (by rw[bx_size,h60];decide)];refine sls_by (lo:=0) (hi:=4) (by omega) (by omega) ?_;rw[YAG];refine ZDV.s (x:=2) (by decide) fun h2 k2 =>?_;by_cases hp4:pub.take 4=be 2 4
   ·rw[if_neg (by simp[hp4])];by_cases hs4:sig.length<4
    ·rw[if_pos (show decide (((bx sig).size:Int)<4)=true from dT (by rw[bx_size];omega))];exact ⟨by rw[dF (by omega)];rfl,k2⟩
    ·rw[if_neg (show ¬decide (((bx sig).size:Int)<4)=true from fun h=>by have:=of_decide_eq_true h;rw[bx_size] at this;omega)];refine sls_by (lo:=0) (hi:=4) (by omega) (by omega) ?_;rw[YAG];refine ZDV.s (x:=1) (by decide) fun h3 k3 =>?_;refine ⟨?_,k2.n k3⟩;have:decide (bx (sig.take 4)=bx (be 1 4))=decide (pub.length=60∧pub.take 4=be 2 4∧4≤sig.length∧sig.take 4=be 1 4):=decide_eq_decide.2 ⟨fun e=>⟨h60,hp4,by omega,bx_injU.1 e⟩,fun e=>by rw[e.2.2.2]⟩;rw[this]
   ·rw[if_pos (by simp only [YAs,decide_eq_false_iff_not];exact fun e=>hp4 (bx_injU.1 e))];exact ⟨by rw[dF (fun h=>hp4 h.2.1)];rfl,k2⟩
  ·rw[if_pos (by rw[bx_size];simp;omega)];exact ⟨by rw[dF (fun h=>h60 h.1)];rfl,Keep.rfl⟩
 rintro _ h1 ⟨rfl,k1⟩;rcases Decidable.em (¬(pub.length=60∧pub.take 4=be 2 4∧4≤sig.length∧sig.take 4=be 1 4)) with hc | hc
 ·rw[dF hc];rw[if_pos (show (!false)=true from rfl)];rw[if_neg hc] at hbad;exact hbad rfl _ h1 k1
 replace hc:=Decidable.not_not.1 hc;rw[dT hc];rw[if_neg (by simp)];rw[if_pos hc] at hbad hok;obtain ⟨h60,_,hs4,_⟩:=hc;refine sls_from (lo:=4) (by omega) ?_;refine sls_from (lo:=4) (by omega) ?_;refine ZCQ.s (fun hn v h4 k4 =>?_) fun k h4 hk k4 =>?_
 ·rw[hn] at hbad;refine new_st_gen fun b1 h6 hb1 k6 e6 hs6 =>?_;refine jn_at (true,()) h6 ?_ ?_
  ·rw[if_pos (show (!false)=true from rfl)];exact ⟨rfl,rfl⟩
  ·rw[if_pos rfl];exact hbad rfl _ h6 ((k1.n k4).n k6)
 obtain ⟨o,hpl⟩:=apart_ok hk;obtain ⟨zs,zo,zp,zh⟩:=pkey_size o;rw[hk] at hbad hok;dsimp only at hbad hok;refine new_st_gen fun b1 h6 hb1 k6 e6 hs6 =>?_;have e6:h6[b1]? = some (vobj t_lms_Key KyK (kyV k)):=e6;have hdl:(sig.drop 4).length=sig.length-4:=YAQ;have hw56:w64 ((k.size:Int)+56)=((k.size+56:Nat):Int):=w6 (by omega);refine jn_in (fun y h'=>y=(decide (sig.length<4+k.size+56),())∧Keep [] h6 h') ?_ ?_
 ·rw[if_neg (by simp)];refine ld_go (sm_all e6) ?_;refine ZAP.s o fun h7 k7 =>?_;rw[hw56];refine ⟨?_,k7⟩;have:decide (((bx (sig.drop 4)).size:Int)<((k.size+56:Nat):Int))=decide (sig.length<4+k.size+56):=decide_eq_decide.2 (by rw[bx_size,hdl];omega);rw[this]
 rintro _ h7 ⟨rfl,k7⟩;have k07:Keep [] h h7:=((k1.n k4).n k6).n k7;by_cases hl:sig.length<4+k.size+56
 ·rw[if_pos (by simpa using hl)];rw[if_pos hl] at hbad;exact hbad rfl _ h7 k07
 rw[if_neg (by simpa using hl)];rw[if_neg hl] at hbad hok;have e7:=k7.g e6;refine ld_go (sm_all e7) (ld_go (sm_all e7) ?_);refine ZAP.s o fun h9 k9 =>?_;have e9:=k9.g e7;refine ⟨sm_all e9,?_⟩;refine ZAP.s o fun h10 k10 =>?_;have e10:=k10.g e9;rw[hw56];refine sls_by (by omega) (by omega) ?_;rw[show ((sig.drop 4).take (k.size+56)).drop k.size=(sig.drop (4+k.size)).take 56 by rw[YAF,YAC];congr 1;omega];generalize hlow:(sig.drop (4+k.size)).take 56=low at *
 have fin:∀h11 x12,Keep [] h10 h11→(x12=false→apartL low=none)→(x12=true→∃k2,apartL low=some k2)→(ld KyK (Pl.mk b1 0) h11 fun x13=>ld KyK (Pl.mk b1 0) h11 fun x14=>ZAP.C x13 h11 fun x15 h12=>sm KyK (Pl.mk b1 0) x14 h12∧sls (bx (sig.drop 4)) 0 x15 fun s6=>ZAP.C x14 h12 fun x16 h13=>sls (bx (sig.drop 4)) (w64 (x16+56)) ((bx (sig.drop 4)).size:Int) fun s7=>bs 234 TrK [(bx (pub.drop 4),(bx low,(s6,()))),(bx low,(bx msg,(s7,())))] h13 fun s8 h14=>K s8 x12 h14):=by
  intro h11 x12 k11 hf ht;have e11:=k11.g e10;refine ld_go (sm_all e11) (ld_go (sm_all e11) ?_);refine ZAP.s o fun h12 k12 =>?_;refine ⟨sm_all (k12.g e11),?_⟩;refine sls_by (lo:=0) (by omega) (by omega) ?_;rw[YAG];refine ZAP.s o fun h13 k13 =>?_;rw[hw56];refine sls_from (by omega) ?_;rw[YAC,show 4+(k.size+56)=60+k.size by omega];refine bs_gen fun b h14 hb k14 r14 hs14 =>?_;have kk:Keep [] h h14:=(((((k07.n k9).n k10).n k11).n k12).n k13).n k14
  cases x12 with
  | false =>
    rw[hf rfl] at hbad;exact hbad rfl _ h14 kk
  | true =>
    obtain ⟨k2,hk2⟩:=ht rfl;rw[hk2] at hok;exact hok _ _ _ _ rfl _ h14 kk r14
 refine ZCQ.s (fun hn v h11 k11 =>?_) fun k2 h11 hk2 k11 =>?_
 ·exact fin h11 false k11 (fun _=>hn) (fun h=>by simp at h)
 ·exact fin h11 true k11 (fun h=>by simp at h) (fun _=>⟨k2,hk2⟩)
def hvI (h1:Heap) (va vb:Int) (y:Int×Int×Unit) (h2:Heap):Prop:=Keep [] h1 h2∧((y.2.1=0∧y.1=0)∨(y.2.1=1∧va≠500∧y.1=if va=0 then 0 else 602)∨(y.2.1=2∧va≠500∧vb≠500∧y.1=if va=0∧vb=0 then 0 else 602))
theorem ZC8.s {pub msg sig:By} {h:Heap} {K:Int→Heap→Prop} (hsg:sig.length≤9000000000000) (hK:∀h',Keep [] h h'→K (hssV pub msg sig) h'):ZC8.C (bx pub) (bx msg) (bx sig) h K:=by
 apply ZC8.c;unfold ZC8.m;rw[hssV_A] at hK;refine ZDM.s hsg (fun hn s h1 k1 =>?_) fun top low a b hs s h1 k1 r1 =>?_
 ·rw[hn] at hK;rw[if_pos (show (!false)=true from rfl)];exact hK h1 k1
 rw[hs] at hK;dsimp only at hK;rw[if_neg (by simp)];have hsl:s.len=2:=r1.len;rw[hsl];have ca:=lmsV_cases top low a;have cb:=lmsV_cases low msg b;generalize ha:lmsV top low a=va at *;generalize hb:lmsV low msg b=vb at *;refine lp_go (hvI h1 va vb) (fun (y:Int×Int×Unit) _=>2-y.2.1.toNat) ?_ ?_
 ·exact ⟨Keep.rfl,.inl ⟨rfl,rfl⟩⟩
 have body:∀(y0 i:Int) (h2:Heap) (p q r:By) (v:Int),Keep [] h1 h2→0≤i→i<2→lmsV p q r=v→(v=0∨v=500∨v=502)→[trV top low a,trV low msg b][i.toNat]? = some (trV p q r)→(v=500→∀h',Keep [] h h'→K 600 h') →
  ∀(N:Int×Int×Unit→Heap→Prop),(∀h',v≠500→Keep [] h1 h'→N (if v=502 then 602 else y0,w64 (i+1),()) h') →
  jn (.pr .i .un) (fun J1=>ix s i 3 fun l1=>ld TrK l1 h2 fun x3=>new 234 TrK (⟨#[]⟩,(⟨#[]⟩,(⟨#[]⟩,()))) h2 fun b1 h4=>st TrK (Pl.mk b1 0) x3 h4 fun h5=>ld .s ((Pl.mk b1 0).fld 0) h5 fun x4=>ld .s ((Pl.mk b1 0).fld 1) h5 fun x5=>ld .s ((Pl.mk b1 0).fld 2) h5 fun x6=>ZC1.C x4 x5 x6 h5 fun x7 h6=>jn (.pr .i .un) (fun J2=>if (decide (x7=(500:Int)))=true then K 600 h6 else jn (.pr .i .un) (fun J3=>if (decide (x7=(502:Int)))=true then J3 (602,()) h6 else J3 (y0,()) h6) fun y4 h8=>J2 (y4.1,()) h8) fun y3 h7=>J1 (y3.1,()) h7) fun y2 h3=>N (y2.1,w64 (i+1),()) h3:=by
  intro y0 i h2 p q r v k2 hi0 hi2 hv hvc hg h500 N hN;refine jn_in (fun y h'=>y=(if v=502 then 602 else y0,())∧v≠500∧Keep [] h1 h') ?_ ?_
  ·refine ix_ld (r1.keep k2 (by simp)) hi0 hg rfl ?_;refine new_st_gen fun b1 h5 hb1 k5 e5 hs5 =>?_;have e5:h5[b1]? = some (vobj t_hss_step TrK (trV p q r)):=e5;refine ld_go (sm_fld (n:=0) (k' := .s) (y:=bx p) e5 rfl (by decide)) ?_;refine ld_go (sm_fld (n:=1) (k' := .s) (y:=bx q) e5 rfl (by decide)) ?_;refine ld_go (sm_fld (n:=2) (k' := .s) (y:=bx r) e5 rfl (by decide)) ?_;refine ZC1.s fun h6 k6 =>?_;rw[hv];have k16:Keep [] h1 h6:=(k2.n k5).n k6;refine jn_in (fun y h'=>y=(if v=502 then 602 else y0,())∧v≠500∧Keep [] h1 h') ?_ (fun y h' hy=>by rw[hy.1];exact ⟨rfl,hy.2⟩);by_cases h5v:v=500
   ·rw[if_pos (by simpa using h5v)];exact h500 h5v h6 (k1.n k16)
   rw[if_neg (by simpa using h5v)];refine jn_in (fun y h'=>y=(if v=502 then 602 else y0,())∧v≠500∧Keep [] h1 h') ?_ (fun y h' hy=>by rw[hy.1];exact ⟨rfl,hy.2⟩);by_cases h2v:v=502
   ·rw[if_pos (by simpa using h2v),if_pos h2v];exact ⟨rfl,h5v,k16⟩
   ·rw[if_neg (by simpa using h2v),if_neg h2v];exact ⟨rfl,h5v,k16⟩
  ·rintro _ h3 ⟨rfl,h5v,k3⟩;exact hN h3 h5v k3
 rintro ⟨(y0:Int),(i:Int),_⟩ h2 hy;unfold hvI at hy;obtain ⟨k2,hy⟩:=hy;dsimp only at hy ⊢;rcases hy with ⟨rfl,rfl⟩ | ⟨rfl,ha5,rfl⟩ | ⟨rfl,ha5,hb5,rfl⟩
 ·rw[if_pos (show decide ((0:Int)<((2:Nat):Int))=true from rfl)];refine body 0 0 h2 top low a va k2 (by decide) (by decide) ha ca rfl (fun h5 h' k' =>?_) (fun y h'=>hvI h1 va vb y h'∧2-y.2.1.toNat<2-(0:Int).toNat) fun h' hne k' =>?_
  ·have:=hK h' k';rw[if_pos (.inl h5)] at this;exact this
  ·refine ⟨⟨k',.inr (.inl ⟨show w64 (0+1)=1 from by decide,hne,?_⟩)⟩,show 2-(w64 (0+1)).toNat<2-(0:Int).toNat from by decide⟩;show (if va=502 then 602 else 0)=if va=0 then 0 else 602
   rcases ca with h | h | h
   ·rw[h];decide
   ·exact absurd h hne
   ·rw[h];decide
 ·rw[if_pos (show decide ((1:Int)<((2:Nat):Int))=true from rfl)];refine body _ 1 h2 low msg b vb k2 (by decide) (by decide) hb cb rfl (fun h5 h' k' =>?_) (fun y h'=>hvI h1 va vb y h'∧2-y.2.1.toNat<2-(1:Int).toNat) fun h' hne k' =>?_
  ·have:=hK h' k';rw[if_pos (.inr h5)] at this;exact this
  ·refine ⟨⟨k',.inr (.inr ⟨show w64 (1+1)=2 from by decide,ha5,hne,?_⟩)⟩,show 2-(w64 (1+1)).toNat<2-(1:Int).toNat from by decide⟩;show (if vb=502 then 602 else if va=0 then 0 else 602)=if va=0∧vb=0 then 0 else 602
   rcases cb with h | h | h
   ·rw[h];simp
   ·exact absurd h hne
   ·rw[h];simp
 ·rw[if_neg (show ¬decide ((2:Int)<((2:Nat):Int))=true from dn (by omega))];have:=hK h2 (k1.n k2);rw[if_neg (fun h=>by rcases h with h | h <;> contradiction)] at this;exact this
def numZ (l:By) (n:Nat):Int:=if n+4≤l.length then ((beVal ((l.drop n).take 4):Nat):Int) else -1
theorem ixs_b {l:By} {i:Nat} {K:UInt8→Prop} (h:i<l.length) (hK:K (l.getD i 0)):ixs (bx l) (i:Int) K:=by
 refine ixs_bx h ?_;have:l.getD i 0=l[i]:=by rw[YAK,YAL h];rfl
 rw[←this];exact hK
theorem ZAh.s {l:By} {n:Nat} {h:Heap} {K:Int→Heap→Prop} (hl:l.length≤9223372036854775807) (hn:n≤1000000) (hK:K (numZ l n) h):ZAh.C (bx l) (n:Int) h K:=by
 apply ZAh.c;unfold ZAh.m;unfold numZ at hK;refine jn_at (!decide (n+4≤l.length),()) h ?_ ?_
 ·rw[if_neg (show ¬decide ((n:Int)<0)=true from dn (by omega)),bx_size,w64_id (by omega) (by omega)];refine ⟨?_,rfl⟩;by_cases c:n+4≤l.length
  ·rw[dT c,dF (by omega)];rfl
  ·rw[dF c,dT (by omega)];rfl
 dsimp only;by_cases c:n+4≤l.length
 ·rw[if_pos c] at hK;rw[dT c,if_neg (by simp)];have w1:w64 ((n:Int)+1)=((n+1:Nat):Int):=w6 (by omega);have w2:w64 ((n:Int)+2)=((n+2:Nat):Int):=w6 (by omega);have w3:w64 ((n:Int)+3)=((n+3:Nat):Int):=w6 (by omega);rw[w1,w2,w3];refine ixs_b (by omega) ⟨by decide,ixs_b (by omega) ⟨by decide,ixs_b (by omega) ⟨by decide,ixs_b (by omega) ?_⟩⟩⟩;rw[kind4]
  have e:(l.drop n).take 4=[l.getD n 0,l.getD (n+1) 0,l.getD (n+2) 0,l.getD (n+3) 0]:=by
   have g:∀i,i<l.length→l.getD i 0=l[i]! := fun i hi=>by
    rw[YAK,YAL hi];simp[hi]
   have d0:l.drop n=l[n]::l.drop (n+1):=YAD (by omega);have d1:l.drop (n+1)=l[n+1]::l.drop (n+2):=YAD (by omega);have d2:l.drop (n+2)=l[n+2]::l.drop (n+3):=YAD (by omega);have d3:l.drop (n+3)=l[n+3]::l.drop (n+4):=YAD (by omega);rw[d0,d1,d2,d3];simp only [List.take_succ_cons,List.take_zero];rw[YAK,YAK,YAK,YAK,YAL (by omega),YAL (by omega),YAL (by omega),YAL (by omega)]
   rfl
  rw[←e];exact hK
 ·rw[if_neg c] at hK;rw[dF c,if_pos (by rfl)];exact hK
def hgtZ (t:Int):Nat:=([1,2,3,4,5].find? fun h=>decide (((kindOf h:Nat):Int)=t)).getD 0
theorem hgt_nat {t:Nat}:hgtZ (t:Int)=(heightOf t).getD 0:=by
 unfold hgtZ heightOf
 congr 2
 funext h
 by_cases c:kindOf h=t
 ·rw[dT c,dT (by omega)]
 ·rw[dF c,dF (by omega)]
theorem hgt_ge {t:Nat} {h:Nat} (e:heightOf t=some h):1≤h∧h≤5∧kindOf h=t:=by
 unfold heightOf at e;have h1:=List.find?_some e;have h2:=YAX e;simp only [YAW,YAY,or_false] at h2;exact ⟨by omega,by omega,of_decide_eq_true h1⟩
theorem ZBQ.s {t:Int} {h:Heap} {K:Int→Heap→Prop} (hK:K ((hgtZ t:Nat):Int) h):ZBQ.C t h K:=by
 apply ZBQ.c;unfold ZBQ.m;have hz:hgtZ t=((List.range' 1 5).find? fun a=>decide (((kindOf a:Nat):Int)=t)).getD 0:=rfl;refine lp_go (fun (y:Int×Unit) (h1:Heap)=>∃n:Nat,y.1=n∧1≤n∧n≤6∧h1=h∧hgtZ t=((List.range' n (6-n)).find? fun a=>decide (((kindOf a:Nat):Int)=t)).getD 0) (fun (y:Int×Unit) _=>6-y.1.toNat) ?_ ?_
 ·exact ⟨1,rfl,by decide,by decide,rfl,hz⟩
 rintro ⟨(jj:Int),_⟩ h1 ⟨n,e,h1n,hn,rfl,hf⟩;dsimp only at e ⊢;subst e;by_cases hlt:n≤5
 ·rw[if_pos (show decide ((n:Int)≤5)=true from dT (by omega))];rw[show 6-n=(5-n)+1 by omega,List.range'_succ,List.find?_cons] at hf;refine ZA7.s (by omega) ?_;by_cases hk:((kindOf n:Nat):Int)=t
  ·rw[if_pos (dT hk)];rw[dT hk] at hf;rw[hf] at hK;exact hK
  ·rw[if_neg (show ¬decide (((kindOf n:Nat):Int)=t)=true from fun h=>hk (of_decide_eq_true h))];rw[dF hk] at hf;have hw:w64 ((n:Int)+1)=((n+1:Nat):Int):=w6 (by omega);rw[hw];exact ⟨⟨n+1,rfl,by omega,by omega,rfl,by rw[show 6-(n+1)=5-n by omega];exact hf⟩,by simp;omega⟩
 ·rw[if_neg (show ¬decide ((n:Int)≤5)=true from dn (by omega))];rw[show 6-n=0 by omega] at hf;rw[hf] at hK;exact hK
def lmsZ (t kind:Int):Nat:=match otsP kind with
 | none=>0
 | some x=>if hgtZ t=0 then 0 else 44+32*x.2.1+32*hgtZ t
theorem hgt_le {t:Int}:hgtZ t≤5:=by
 unfold hgtZ
 cases e:([1,2,3,4,5].find? fun h=>decide (((kindOf h:Nat):Int)=t)) with
 | none=>simp
 | some h =>
   have h2:=YAX e;simp only [YAW,YAY,or_false] at h2;simp only [YAu];omega
theorem ZBg.s {t kind:Int} {h:Heap} {K:Int→Heap→Prop} (hK:K ((lmsZ t kind:Nat):Int) h):ZBg.C t kind h K:=by
 apply ZBg.c;unfold ZBg.m;refine ZAc.s ?_;refine ZBQ.s ?_;unfold lmsZ at hK;have h5:=hgt_le (t:=t)
 cases hx:otsP kind with
 | none =>
   rw[hx] at hK;refine jn_at (true,()) h ?_ ?_
   ·rw[if_pos (by simp)];exact ⟨rfl,rfl⟩
   ·rw[if_pos rfl];exact hK
 | some x =>
   rw[hx] at hK;dsimp only at hK;have hp:34≤x.2.1∧x.2.1≤67:=by rcases otsP_cases hx with ⟨_,rfl⟩ | ⟨_,rfl⟩ <;> decide
   simp only [YAu];refine jn_at (decide (hgtZ t=0),()) h ?_ ?_
   ·rw[if_neg (by simp;omega)];refine ⟨?_,rfl⟩;by_cases c:hgtZ t=0
    ·rw[dT c,dT (by omega)]
    ·rw[dF c,dF (by omega)]
   ·by_cases c:hgtZ t=0
    ·rw[if_pos c] at hK;rw[if_pos (dT c)];exact hK
    ·rw[if_neg c] at hK;rw[if_neg (by simpa using c)]
     have e:w64 (w64 (w64 (40+w64 (32*((x.2.1:Nat):Int)))+4)+w64 (32*((hgtZ t:Nat):Int)))=((44+32*x.2.1+32*hgtZ t:Nat):Int):=by
      rw[w64_id (n:=32*((x.2.1:Nat):Int)) (by omega) (by omega),w64_id (n:=32*((hgtZ t:Nat):Int)) (by omega) (by omega),w64_id (n:=40+32*((x.2.1:Nat):Int)) (by omega) (by omega),w64_id (n:=40+32*((x.2.1:Nat):Int)+4) (by omega) (by omega),w64_id (by omega) (by omega)];omega
     rw[e];exact hK
theorem ZBl.s {id msg sig:By} {q w p ls:Nat} {h:Heap} {K:Kd.Ty (.ar 32 .u8)→Int→Heap→Prop} (hid:id.length=16) (hq:q≤4294967295) (hm:msg.length≤65536)
 (hk:otsP ((beVal (sig.take 4):Nat):Int)=some (w,p,ls)) (hs:sig.length=36+32*p)
 (hK:∀v h',Vector.toList v=candOf w p ls id q msg sig→Keep [] h h'→K v 0 h'):ZBl.C (bx id) (q:Int) (bx msg) (bx sig) h K:=by
 obtain ⟨hc,w4,w8,p34,p67,h2a,h2b,hpl,hmost⟩:=otsP_c hk;apply ZBl.c;unfold ZBl.m;refine new_gen fun b1 h1 hb1 k1 e1 hs1 =>?_;have e1:h1[b1]? = some (vobj t_api_Hash (.ar 32 .u8) (Vector.replicate 32 (0:UInt8))):=e1;refine ZAh.s (n:=0) (by omega) (by decide) ?_;have hz:numZ sig 0=((beVal (sig.take 4):Nat):Int):=by unfold numZ;rw[if_pos (by omega),YAG]
 rw[hz];refine ZAc.s ?_;rw[hk];simp only [YAu];have hmay:otsMay id (q:Int)=true:=by unfold otsMay;simp[hid];omega
 have hwp:w64 (36+w64 (32*(p:Int)))=((36+32*p:Nat):Int):=by rw[w64_id (n:=32*(p:Int)) (by omega) (by omega),w64_id (by omega) (by omega)];omega
 refine jn_at (false,()) h1 ?_ ?_
 ·rw[if_neg (show ¬decide ((w:Int)=0)=true from dn (by omega))];refine ZBU.s ?_;rw[hmay,if_neg (by simp),if_neg (show ¬decide (((bx msg).size:Int)>65536)=true from fun h=>by have:=of_decide_eq_true h;rw[bx_size] at this;omega)];refine ⟨?_,rfl⟩;rw[dT (show ((bx sig).size:Int)=w64 (36+w64 (32*(p:Int))) by rw[bx_size,hs,hwp])];rfl
 rw[if_neg (by simp)];refine ZAA.s (n:=4) (by decide) (by decide) (by omega) fun h6 k6 =>?_;show sadd (bx id) (bx (be q 4)) _;refine sadd_b (by rw[be_len];omega) ?_;have hhl:(headO id q).length=20:=by unfold headO;rw[YAO,be_len,hid]
 rw[show id++be q 4=headO id q from rfl];refine sls_by (lo:=4) (hi:=36) (by decide) (by omega) ?_;rw[show (sig.take 36).drop 4=(sig.drop 4).take 32 by rw[YAF]];have hcl:((sig.drop 4).take 32).length=32:=by rw[YAS,YAQ];omega
 refine ZCB.s hk (by omega) fun h8 s8 k8 r8 =>?_;have hdl:(msgD w p ls (headO id q) ((sig.drop 4).take 32) msg).length=p:=digitsO_len hpl;have hdb:∀d∈msgD w p ls (headO id q) ((sig.drop 4).take 32) msg,d<2^w:=fun d hd=>digitsO_lt hd;have hKc:∀v h',Vector.toList v=candO w (headO id q) (msgD w p ls (headO id q) ((sig.drop 4).take 32) msg) (sig.drop 36)→Keep [] h h'→K v 0 h':=hK;generalize msgD w p ls (headO id q) ((sig.drop 4).take 32) msg=ds at *;show sadd (bx (headO id q)) (bx [128,128]) _;refine sadd_b (by rw[hhl];decide) ?_;refine s2b_rowS fun s3 h9 k9 r9 o9 =>?_;have k19:Keep [] h1 h9:=(k6.n k8).n k9;have k89:Keep [] h8 h9:=k9;have hyl:(sig.drop 36).length=32*p:=by rw[YAQ];omega
 have hsl:s8.len=p:=by rw[r8.len,YAR,hdl]
 have sl:∀i,i<p→(steps (headO id q) i (ds.getD i 0) (2^w-1-ds.getD i 0) (((sig.drop 36).drop (32*i)).take 32)).length=32:=fun i hi=>steps_len (by rw[YAS,YAQ];omega)
 have fl:∀n,n≤p→((List.range n).flatMap fun i=>steps (headO id q) i (ds.getD i 0) (2^w-1-ds.getD i 0) (((sig.drop 36).drop (32*i)).take 32)).length=32*n:=fun n=>by
  induction n with
  | zero=>intro _;rfl
  | succ n ih =>
    intro hn;rw[List.range_succ,YAH,YAO,ih (by omega)];simp only [YAI,YAJ,YAB];rw[sl n (by omega)];omega
 have lt1:=lt_of_some e1;refine lp_go (fun (y:Slc×Int×Unit) (h11:Heap)=>∃n:Nat,y.2.1=n∧n≤p∧Keep [] h8 h11∧Keep [] h1 h11∧RowS h11 t_uint8 y.1 (headO id q++[128,128]++(List.range n).flatMap fun i=>steps (headO id q) i (ds.getD i 0) (2^w-1-ds.getD i 0) (((sig.drop 36).drop (32*i)).take 32))∧∀x∈own y.1,h8.size≤x) (fun (y:Slc×Int×Unit) _=>p-y.2.1.toNat) ?_ ?_
 ·exact ⟨0,rfl,YAp _,k89,k19,by simpa using r9,fun x hx=>by rw[o9] at hx;simp at hx;omega⟩
 rintro ⟨(s11:Slc),(jj:Int),_⟩ h11 ⟨n,e,hn,k11,k111,r11,o11⟩;dsimp only at e r11 o11 ⊢;subst e;have z8:=(k6.n k8).1;by_cases hlt:n<p
 ·rw[if_pos (show decide ((n:Int)<(p:Int))=true from dT (by omega))]
  have hdn:ds.getD n 0<2^w:=by
   rw[YAK,YAL (by omega)];exact hdb _ (YAM _)
  have hg:(ds.map fun d=>((d:Nat):Int))[((n:Int)).toNat]? = some ((ds.getD n 0:Nat):Int):=by
   rw[YAd,List.getElem?_map,YAK,YAL (by omega)];rfl
  refine seg_ixl (r8.keep k11 (by simp)).seg (by omega) hg rfl fun l1 hl1=>ld_go hl1 ⟨YAb w,?_⟩;have a1:w64 (36+w64 (32*(n:Int)))=((36+32*n:Nat):Int):=by rw[w64_id (n:=32*(n:Int)) (by omega) (by omega),w64_id (by omega) (by omega)];omega
  have a2:w64 (68+w64 (32*(n:Int)))=((68+32*n:Nat):Int):=by rw[w64_id (n:=32*(n:Int)) (by omega) (by omega),w64_id (by omega) (by omega)];omega
  rw[a1,a2,hmost];refine sls_by (by omega) (by omega) ?_
  have hcut:(sig.take (68+32*n)).drop (36+32*n)=((sig.drop 36).drop (32*n)).take 32:=by
   rw[YAF,YAC]
   congr 1
   omega
  rw[hcut];have hxl:(((sig.drop 36).drop (32*n)).take 32).length=32:=by rw[YAS,YAQ];omega
  refine ZBx.s (fr:=ds.getD n 0) (by omega) (by omega) (by omega) (by omega) (by omega) fun h13 k13 =>?_;rw[bx_cells,bx_size];have sn:=sl n hlt;refine apS (r11.keep k13 (by simp)) rfl rfl (by rw[YAO,YAO,hhl,fl n hn,sn];simp;omega) fun s14 h14 r14 k14 o14 =>?_;have hw:w64 ((n:Int)+1)=((n+1:Nat):Int):=w6 (by omega);rw[hw];have z11:=k11.1;have z13:=k13.1;refine ⟨⟨n+1,rfl,by omega,(k11.n k13).new k14 o11,(k111.n k13).new k14 (fun x hx=>by have:=o11 x hx;omega),?_,fun x hx =>?_⟩,by simp;omega⟩
  ·rw[List.range_succ,YAH,←YAA];simpa using r14
  ·rcases own_of o14 x hx with h | h
   ·exact o11 x h
   ·omega
 ·rw[if_neg (show ¬decide ((n:Int)<(p:Int))=true from dn (by omega))];obtain rfl:n=p:=by omega
  refine b2s_segq r11.seg fun q' _ =>?_;refine ZA4.s (l:=headO id q++[128,128]++(List.range n).flatMap fun i=>steps (headO id q) i (ds.getD i 0) (2^w-1-ds.getD i 0) (((sig.drop 36).drop (32*i)).take 32)) (by rw[YAO,YAO,hhl,fl n (YAg _)];simp;omega) fun h12 k12 =>?_;unfold candO Hl at hKc;rw[hdl] at hKc;generalize shaL (headO id q++[128,128]++(List.range n).flatMap fun i=>steps (headO id q) i (ds.getD i 0) (2^w-1-ds.getD i 0) (((sig.drop 36).drop (32*i)).take 32))=V at *;have k112:Keep [] h1 h12:=k111.n k12;refine st_to (k112.g e1) fun h13 k13 e13 hs13=>ld_go (sm_all e13) ?_;exact hKc V h13 rfl ((k1.n k112).new k13 (by simp;omega))
theorem numZ_in {l:By} {n:Nat} (h:n+4≤l.length):numZ l n=((beVal ((l.drop n).take 4):Nat):Int):=by unfold numZ;rw[if_pos h]
theorem lms_good {pub:By} (h56:pub.length=56) (hz:lmsZ (numZ pub 0) (numZ pub 4)≠0) :
 ∃hh w p ls,heightOf (beVal (pub.take 4))=some hh∧otsP ((beVal ((pub.drop 4).take 4):Nat):Int)=some (w,p,ls)∧lmsZ (numZ pub 0) (numZ pub 4)=44+32*p+32*hh∧hgtZ (numZ pub 0)=hh∧apartL pub=some ⟨hh,beVal ((pub.drop 4).take 4),w,p,ls,(pub.drop 8).take 16,pub.drop 24⟩:=by
 have e0:numZ pub 0=((beVal (pub.take 4):Nat):Int):=by rw[numZ_in (by omega),YAG]
 have e4:=numZ_in (l:=pub) (n:=4) (by omega);rw[e0,e4] at hz ⊢;unfold lmsZ at hz ⊢
 cases hx:otsP ((beVal ((pub.drop 4).take 4):Nat):Int) with
 | none=>rw[hx] at hz;exact absurd rfl hz
 | some x =>
   rw[hx] at hz;dsimp only at hz ⊢;by_cases c:hgtZ ((beVal (pub.take 4):Nat):Int)=0
   ·rw[if_pos c] at hz;exact absurd rfl hz
   ·rw[if_neg c];rw[hgt_nat] at c ⊢
    cases hh:heightOf (beVal (pub.take 4)) with
    | none=>rw[hh] at c;exact absurd rfl c
    | some v =>
      obtain ⟨w,p,ls⟩:=x;refine ⟨v,w,p,ls,rfl,rfl,rfl,rfl,?_⟩;unfold apartL;rw[if_pos h56,hh,hx]
theorem lms_none {pub:By} (h56:pub.length=56) (hz:lmsZ (numZ pub 0) (numZ pub 4)=0):apartL pub=none:=by
 have e0:numZ pub 0=((beVal (pub.take 4):Nat):Int):=by rw[numZ_in (by omega),YAG]
 have e4:=numZ_in (l:=pub) (n:=4) (by omega);rw[e0,e4] at hz;unfold lmsZ at hz;unfold apartL;rw[if_pos h56]
 cases hx:otsP ((beVal ((pub.drop 4).take 4):Nat):Int) with
 | none=>cases heightOf (beVal (pub.take 4)) <;> rfl
 | some x =>
   rw[hx] at hz;dsimp only at hz;rw[hgt_nat] at hz
   cases hh:heightOf (beVal (pub.take 4)) with
   | none=>rfl
   | some v =>
     obtain ⟨v1,_,_⟩:=hgt_ge hh;rw[hh] at hz;simp only [YAu] at hz;rw[if_neg (by omega)] at hz;omega
theorem lms_bad {pub msg sig:By} (h:¬(pub.length=56∧lmsZ (numZ pub 0) (numZ pub 4)≠0∧sig.length=lmsZ (numZ pub 0) (numZ pub 4)∧msg.length≤65536)):lmsV pub msg sig=500:=by
 unfold lmsV;by_cases h56:pub.length=56
 ·by_cases hz:lmsZ (numZ pub 0) (numZ pub 4)=0
  ·rw[lms_none h56 hz]
  ·obtain ⟨hh,w,p,ls,a,b,c,_,d⟩:=lms_good h56 hz;rw[d];dsimp only;rw[if_neg];rintro ⟨hf,hm⟩;refine h ⟨h56,hz,?_,hm⟩;unfold PKey.fits at hf;simp only [YAq,decide_eq_true_eq] at hf;have:=hf.1.1.1;unfold PKey.size PKey.oSize at this;dsimp only at this;omega
 ·have:apartL pub=none:=by unfold apartL;rw[if_neg h56]
  rw[this]
theorem climb_go {id sig pub tip TOP:By} {p hh r0:Nat} {h h16:Heap} {K:Int→Heap→Prop} (hid:id.length=16) (hh5:hh≤5) (p67:p≤67) (h56:pub.length=56) (hsz:sig.length=44+32*p+32*hh) (hr0:r0≤100) (htl:tip.length=32) (k0:Keep [] h h16)
 (hTOP:climbL id hh r0 tip (sig.drop (44+32*p))=TOP) (hK:∀h',Keep [] h h'→K (if TOP=pub.drop 24 then 0 else 502) h') :
 lp (.pr .s (.pr .i (.pr .i .un))) (fun y3 h17 next1=>
 if (decide (y3.2.2.1<(hh:Int)))=true then (jn (.pr .s (.pr .i .un)) (fun J3=>
 sls (bx sig) (w64 ((w64 (((40+32*p:Nat):Int)+4))+(w64 (32*y3.2.2.1)))) (w64 ((w64 (((40+32*p:Nat):Int)+36))+(w64 (32*y3.2.2.1)))) fun s6=>
 (2:Int)≠0 ∧
 jn (.pr .s .un) (fun J4=>
 if (decide ((y3.2.1.tmod 2)=(1:Int)))=true then ((2:Int)≠0 ∧
 ZAA.C (w64 (y3.2.1.tdiv 2)) 4 h17 fun x17 h20=>
 sadd (bx id) x17 fun s7=>
 sadd s7 (⟨#[131,131]⟩:ByteArray) fun s8=>
 sadd s8 s6 fun s9=>
 sadd s9 y3.1 fun s10=>
 ZBN.C s10 h20 fun x18 h21=>
 J4 (x18,()) h21)
 else (2:Int)≠0 ∧
 ZAA.C (w64 (y3.2.1.tdiv 2)) 4 h17 fun x19 h22=>
 sadd (bx id) x19 fun s11=>
 sadd s11 (⟨#[131,131]⟩:ByteArray) fun s12=>
 sadd s12 y3.1 fun s13=>
 sadd s13 s6 fun s14=>
 ZBN.C s14 h22 fun x20 h23=>
 J4 (x20,()) h23) fun y5 h19=>
 (2:Int)≠0 ∧
 J3 (y5.1,w64 (y3.2.1.tdiv 2),()) h19) fun y4 h18=>
 next1 (y4.1,y4.2.1,w64 (y3.2.2.1+1),()) h18)
 else sls (bx pub) 24 ((bx pub).size:Int) fun s15=>
 if (!(decide (y3.1=s15)))=true then K 502 h17
 else K 0 h17) (bx tip,(r0:Int),0,()) h16:=by
 refine lp_go (fun (y:ByteArray×Int×Int×Unit) (h17:Heap)=>∃(i r:Nat) (x:By),y.1=bx x∧y.2.1=r∧y.2.2.1=i∧i≤hh∧r≤100∧x.length=32∧Keep [] h h17∧climbL id (hh-i) r x (sig.drop (44+32*p+32*i))=TOP) (fun (y:ByteArray×Int×Int×Unit) _=>hh-y.2.2.1.toNat) ?_ ?_
 ·exact ⟨0,r0,tip,rfl,rfl,rfl,YAp _,by omega,htl,k0,hTOP⟩
 rintro ⟨(xa:ByteArray),(rr:Int),(ii:Int),_⟩ h17 ⟨i,r,x,ex,er,ei,hi,hr,hxl,k17,hcl⟩;dsimp only at ex er ei ⊢;subst ex;subst er;subst ei;by_cases hlt:i<hh
 ·rw[if_pos (show decide ((i:Int)<(hh:Int))=true from dT (by omega))];have hwi:w64 ((i:Int)+1)=((i+1:Nat):Int):=w6 (by omega)
  have hdv:w64 ((r:Int).tdiv 2)=((r/2:Nat):Int):=by
   rw[YAc (by omega),w64_id (by omega) (by omega)];omega
  have hmd:((r:Int)).tmod 2=((r%2:Nat):Int):=by
   rw[Int.tmod_eq_emod_of_nonneg (by omega)];omega
  have a1:w64 (w64 (((40+32*p:Nat):Int)+4)+w64 (32*(i:Int)))=((44+32*p+32*i:Nat):Int):=by rw[w64_id (n:=32*(i:Int)) (by omega) (by omega),w64_id (n:=((40+32*p:Nat):Int)+4) (by omega) (by omega),w64_id (by omega) (by omega)];omega
  have a2:w64 (w64 (((40+32*p:Nat):Int)+36)+w64 (32*(i:Int)))=((76+32*p+32*i:Nat):Int):=by rw[w64_id (n:=32*(i:Int)) (by omega) (by omega),w64_id (n:=((40+32*p:Nat):Int)+36) (by omega) (by omega),w64_id (by omega) (by omega)];omega
  rw[hwi,a1,a2,hdv,hmd];have hsl2:(sig.drop (44+32*p+32*i)).length≥32:=by rw[YAQ];omega
  rw[show hh-i=(hh-(i+1))+1 by omega] at hcl;unfold climbL at hcl;rw[YAC,show 44+32*p+32*i+32=44+32*p+32*(i+1) by omega] at hcl;have hsd:(sig.take (76+32*p+32*i)).drop (44+32*p+32*i)=(sig.drop (44+32*p+32*i)).take 32:=by rw[YAF];congr 1;omega
  have hsdl:((sig.drop (44+32*p+32*i)).take 32).length=32:=by rw[YAS];omega
  refine jn_in (fun y h'=>∃x',y=(bx x',((r/2:Nat):Int),())∧x'.length=32∧Keep [] h h'∧climbL id (hh-(i+1)) (r/2) x' (sig.drop (44+32*p+32*(i+1)))=TOP) ?_ ?_
  ·refine sls_by (by omega) (by omega) ⟨by decide,?_⟩;rw[hsd];generalize (sig.drop (44+32*p+32*i)).take 32=side at *;refine jn_in (fun y h'=>∃x',y=(bx x',())∧x'.length=32∧Keep [] h h'∧climbL id (hh-(i+1)) (r/2) x' (sig.drop (44+32*p+32*(i+1)))=TOP) ?_ ?_
   ·by_cases ho:r%2=0
    ·rw[if_neg (show ¬decide (((r%2:Nat):Int)=1)=true from dn (by omega))];rw[if_pos ho] at hcl;refine ⟨by decide,?_⟩;refine ZAA.s (n:=4) (by decide) (by decide) (by omega) fun h20 k20 =>?_;refine sadd_b (by rw[be_len];omega) ?_;show sadd _ (bx [131,131]) _;refine sadd_b (by rw[YAO,be_len];simp;omega) ?_;refine sadd_b (by rw[YAO,YAO,be_len,hxl];simp;omega) ?_;refine sadd_b (by rw[YAO,YAO,YAO,be_len,hxl,hsdl];simp;omega) ?_;refine ZBN.s (by rw[YAO,YAO,YAO,YAO,be_len,hxl,hsdl];simp;omega) fun h21 k21 =>?_;exact ⟨_,rfl,Hl_len,(k17.n k20).n k21,hcl⟩
    ·rw[if_pos (show decide (((r%2:Nat):Int)=1)=true from dT (by omega))];rw[if_neg ho] at hcl;refine ⟨by decide,?_⟩;refine ZAA.s (n:=4) (by decide) (by decide) (by omega) fun h20 k20 =>?_;refine sadd_b (by rw[be_len];omega) ?_;show sadd _ (bx [131,131]) _;refine sadd_b (by rw[YAO,be_len];simp;omega) ?_;refine sadd_b (by rw[YAO,YAO,be_len,hsdl];simp;omega) ?_;refine sadd_b (by rw[YAO,YAO,YAO,be_len,hxl,hsdl];simp;omega) ?_;refine ZBN.s (by rw[YAO,YAO,YAO,YAO,be_len,hxl,hsdl];simp;omega) fun h21 k21 =>?_;exact ⟨_,rfl,Hl_len,(k17.n k20).n k21,hcl⟩
   ·rintro _ h19 ⟨x',rfl,xl',k19,hcl'⟩;exact ⟨by decide,x',rfl,xl',k19,hcl'⟩
  ·rintro _ h18 ⟨x',rfl,xl',k18,hcl'⟩;exact ⟨⟨i+1,r/2,x',rfl,rfl,rfl,by omega,by omega,xl',k18,hcl'⟩,by simp;omega⟩
 ·rw[if_neg (show ¬decide ((i:Int)<(hh:Int))=true from dn (by omega))];obtain rfl:i=hh:=by omega
  rw[Nat.sub_self] at hcl;unfold climbL at hcl;subst hcl;refine sls_from (lo:=24) (by omega) ?_;by_cases c:x=pub.drop 24
  ·rw[if_neg (by rw[c];simp)];rw[if_pos c] at hK;exact hK h17 k17
  ·have c':¬bx x=bx (pub.drop 24):=fun h=>c (bx_injU.1 h);rw[if_pos (by simpa using c')];rw[if_neg c] at hK;exact hK h17 k17
theorem ZBB.s {pub msg sig:By} {h:Heap} {K:Int→Heap→Prop} (hpl:pub.length≤9223372036854775807) (hsl:sig.length≤9223372036854775807) (hK:∀h',Keep [] h h'→K (lmsV pub msg sig) h'):ZBB.C (bx pub) (bx msg) (bx sig) h K:=by
 apply ZBB.c;unfold ZBB.m;refine ZAh.s (n:=0) hpl (by decide) ?_;refine ZAh.s (n:=4) hpl (by decide) ?_;refine ZBg.s ?_;by_cases hc:pub.length=56∧lmsZ (numZ pub 0) (numZ pub 4)≠0∧sig.length=lmsZ (numZ pub 0) (numZ pub 4)∧msg.length≤65536
 case neg=>
  have hv:=lms_bad hc;rw[hv] at hK;refine jn_at (true,()) h ?_ ?_
  ·by_cases c1:pub.length=56
   ·rw[if_neg (by rw[bx_size];simp;omega)];by_cases c2:lmsZ (numZ pub 0) (numZ pub 4)=0
    ·rw[if_pos (dT (by omega))];exact ⟨rfl,rfl⟩
    ·rw[if_neg (show ¬decide (((lmsZ (numZ pub 0) (numZ pub 4):Nat):Int)=0)=true from dn (by omega))];by_cases c3:sig.length=lmsZ (numZ pub 0) (numZ pub 4)
     ·rw[if_neg (by rw[bx_size,c3];simp)];have c4:¬msg.length≤65536:=fun h4=>hc ⟨c1,c2,c3,h4⟩;refine ⟨?_,rfl⟩;rw[dT (show ((bx msg).size:Int)>65536 by rw[bx_size];omega)]
     ·rw[if_pos (by rw[bx_size];simp;omega)];exact ⟨rfl,rfl⟩
   ·rw[if_pos (by rw[bx_size];simp;omega)];exact ⟨rfl,rfl⟩
  ·rw[if_pos rfl];exact hK h Keep.rfl
 obtain ⟨h56,hz,hsz,hm⟩:=hc;obtain ⟨hh,w,p,ls,hg,hk,hze,hgz,hap⟩:=lms_good h56 hz;have e0:numZ pub 0=((beVal (pub.take 4):Nat):Int):=by rw[numZ_in (by omega),YAG]
 have e4:=numZ_in (l:=pub) (n:=4) (by omega);obtain ⟨hh1,hh5,hko⟩:=hgt_ge hg;obtain ⟨hcc,w4,w8,p34,p67,h2a,h2b,hpl',hmost⟩:=otsP_c hk;refine jn_at (false,()) h ?_ ?_
 ·rw[if_neg (by rw[bx_size];simp;omega),if_neg (show ¬decide (((lmsZ (numZ pub 0) (numZ pub 4):Nat):Int)=0)=true from dn (by omega)),if_neg (by rw[bx_size,hsz];simp)];refine ⟨?_,rfl⟩;rw[dF (show ¬((bx msg).size:Int)>65536 by rw[bx_size];omega)]
 rw[if_neg (by simp)];refine ZAc.s ?_;rw[e4,hk];simp only [YAu];refine ZBQ.s ?_;rw[hgz];refine ZAh.s (n:=0) hsl (by decide) ?_;rw[hze] at hsz;have q0:numZ sig 0=((beVal (sig.take 4):Nat):Int):=by rw[numZ_in (by omega),YAG]
 have q4:=numZ_in (l:=sig) (n:=4) (by omega);have qe:=numZ_in (l:=sig) (n:=40+32*p) (by omega);rw[q0];obtain ⟨q,hq⟩:∃q,beVal (sig.take 4)=q:=⟨_,rfl⟩;rw[hq];have hm1:shlI 1 (hh:Int)=((2^hh:Nat):Int):=by rw[shl_one (by omega) (by omega),YAd]
 have hm32:2^hh≤32:=YAm (n:=2) (by decide) hh5;have hw40:w64 (40+w64 (32*(p:Int)))=((40+32*p:Nat):Int):=by rw[w64_id (n:=32*(p:Int)) (by omega) (by omega),w64_id (by omega) (by omega)];omega
 have hV:lmsV pub msg sig=if PKey.fits ⟨hh,beVal ((pub.drop 4).take 4),w,p,ls,(pub.drop 8).take 16,pub.drop 24⟩ sig=true∧msg.length≤65536 then (if PKey.top ⟨hh,beVal ((pub.drop 4).take 4),w,p,ls,(pub.drop 8).take 16,pub.drop 24⟩ msg sig=pub.drop 24 then 0 else 502) else 500:=by
  unfold lmsV;rw[hap]
 have hF:PKey.fits ⟨hh,beVal ((pub.drop 4).take 4),w,p,ls,(pub.drop 8).take 16,pub.drop 24⟩ sig=(decide (beVal ((sig.drop 4).take 4)=beVal ((pub.drop 4).take 4))&&(decide (beVal ((sig.drop (40+32*p)).take 4)=beVal (pub.take 4))&&decide (q<2^hh))):=by
  unfold PKey.fits PKey.size PKey.oSize;dsimp only;rw[hko,hq,dT (show sig.length=8+(36+32*p)+32*hh by omega),YAt,show 4+(36+32*p)=40+32*p by omega,Bool.and_assoc]
 refine jn_at (!(decide (beVal ((sig.drop 4).take 4)=beVal ((pub.drop 4).take 4))&&(decide (beVal ((sig.drop (40+32*p)).take 4)=beVal (pub.take 4))&&decide (q<2^hh))),()) h ?_ ?_
 ·refine ZAh.s (n:=4) hsl (by decide) ?_;rw[q4];by_cases c1:beVal ((sig.drop 4).take 4)=beVal ((pub.drop 4).take 4)
  ·rw[if_neg (by rw[c1];simp),dT c1,YAt,hw40];refine ZAh.s hsl (by omega) ?_;rw[qe,e0];by_cases c2:beVal ((sig.drop (40+32*p)).take 4)=beVal (pub.take 4)
   ·rw[if_neg (by rw[c2];simp),dT c2,YAt];refine ⟨YAb hh,?_,rfl⟩;rw[hm1];by_cases c3:q<2^hh
    ·rw[dT c3,dF (show ¬((q:Nat):Int)≥((2^hh:Nat):Int) by omega)];rfl
    ·rw[dF c3,dT (show ((q:Nat):Int)≥((2^hh:Nat):Int) by omega)];rfl
   ·rw[if_pos (by simp;omega),dF c2];exact ⟨rfl,rfl⟩
  ·rw[if_pos (by simp;omega),dF c1];exact ⟨rfl,rfl⟩
 rw[←hF];dsimp only
 cases hf:PKey.fits ⟨hh,beVal ((pub.drop 4).take 4),w,p,ls,(pub.drop 8).take 16,pub.drop 24⟩ sig with
 | false =>
   rw[if_pos (by rfl)];rw[hf,if_neg (by simp)] at hV;rw[hV] at hK;exact hK h Keep.rfl
 | true =>
   rw[if_neg (by simp)];rw[hf,if_pos ⟨rfl,hm⟩] at hV;rw[hf] at hF;have hF':=hF.symm;simp only [YAq,decide_eq_true_eq] at hF';obtain ⟨f1,f2,f3⟩:=hF';refine sls_by (lo:=8) (hi:=24) (by decide) (by omega) ?_;rw[show (pub.take 24).drop 8=(pub.drop 8).take 16 by rw[YAF]];have hid:((pub.drop 8).take 16).length=16:=by rw[YAS,YAQ];omega
   unfold PKey.top PKey.oSize at hV;dsimp only at hV;rw[hq] at hV;generalize (pub.drop 8).take 16=id at *;rw[hw40];refine sls_by (lo:=4) (hi:=40+32*p) (by omega) (by omega) ?_;rw[show (sig.take (40+32*p)).drop 4=(sig.drop 4).take (36+32*p) by rw[YAF];congr 1;omega];have hsub:((sig.drop 4).take (36+32*p)).take 4=(sig.drop 4).take 4:=by rw[List.take_take];congr 1;omega
   refine ZBl.s hid (by omega) hm (by rw[hsub,f1];exact hk) (by rw[YAS,YAQ];omega) fun v h11 hv k11 =>?_;rw[←hv] at hV;refine new_st_gen fun b1 h13 hb1 k13 e13 hs13 =>?_;have e13:h13[b1]? = some (vobj t_api_Hash (.ar 32 .u8) v):=e13;refine ⟨YAb hh,ld_go (sm_all e13) ?_⟩;have hwr:w64 (((2^hh:Nat):Int)+(q:Int))=((2^hh+q:Nat):Int):=w6 (by omega);rw[hm1,hwr];refine ZAA.s (n:=4) (by decide) (by decide) (by omega) fun h14 k14=>⟨sm_keep (by decide) (sm_all e13) k14,?_⟩;refine sadd_b (by rw[be_len];omega) ?_;show sadd _ (bx [130,130]) _;refine sadd_b (by rw[YAO,be_len];simp;omega) ?_;refine ZAW.s fun h15 k15 =>?_;have vl:(Vector.toList v).length=32:=by simp
   refine sadd_b (by rw[YAO,YAO,be_len,vl];simp;omega) ?_;refine ZBN.s (by rw[YAO,YAO,YAO,be_len,vl];simp;omega) fun h16 k16 =>?_;have ht:Hl (id++be (2^hh+q) 4++[130,130]++Vector.toList v)=tipL id (2^hh+q) (Vector.toList v):=rfl;rw[ht];have htl:(tipL id (2^hh+q) (Vector.toList v)).length=32:=Hl_len;generalize tipL id (2^hh+q) (Vector.toList v)=tip at *;rw[show 8+(36+32*p)=44+32*p by omega] at hV;obtain ⟨TOP,hTOP⟩:∃t,climbL id hh (2^hh+q) tip (sig.drop (44+32*p))=t:=⟨_,rfl⟩;rw[hTOP] at hV;have k0_16:Keep [] h h16:=(((k11.n k13).n k14).n k15).n k16
   exact climb_go hid hh5 p67 h56 (by omega) (by omega) htl k0_16 hTOP fun h' k'=>by
    have:=hK h' k';rw[hV] at this;exact this
def hashS (d:ByteArray):Vector UInt8 32:=shaL (tagL 0 [d])
theorem ZAV.s {d:ByteArray} {h:Heap} {K:Kd.Ty (.ar 32 .u8)→Bool→Heap→Prop} (hd:d.size≤65536) (hK:∀h',Keep [] h h'→K (hashS d) true h'):ZAV.C d h K:=by
 apply ZAV.c;unfold ZAV.m;refine new_gen fun b1 h1 hb1 k1 e1 hs1 =>?_;refine bs_gen fun bq h2 hbq k2 r2 hs2 =>?_
 have hl:(tagL 0 [d]).length≤1000000:=by
  unfold tagL pieceL;simp[be_len];omega
 refine ZDS.s (tag:=0) r2.seg (by decide) (by simp only [lens,List.map_cons,YAU,List.sum_cons,List.sum_nil];omega) hl fun h3 k3 =>?_;refine new_st_gen fun b2 h5 hb2 k5 e5 hs5 =>?_;refine ld_go (sm_all e5) ?_;have k15:Keep [] h1 h5:=(k2.n k3).n k5;refine st_to (k15.g e1) fun h6 k6 e6 hs6 =>?_;refine ld_go (sm_all e6) ?_;have:=k1.1;exact hK h6 ((k1.n k15).new k6 (by simp;omega))
theorem mfind_put {k e:Kd} (hk:k.pk=true) {i key:k.Ty} {v:e.Ty} {c:Nat}:∀ {ca:List (k.Ty×e.Ty×Nat)},mfind k e i (mput k e key v c ca)=if k.beq i key=true then some v else mfind k e i ca
 | [] => by
   unfold mput;simp only [mfind]
 | x :: r => by
   unfold mput;by_cases h1:k.beq key x.1=true
   ·rw[if_pos h1];have e1:=(beq_eq hk).1 h1;unfold mfind;dsimp only;by_cases h:k.beq i key=true
    ·rw[if_pos h,if_pos h]
    ·rw[if_neg h,if_neg h,if_neg (by rw[←e1];exact h)]
   ·rw[if_neg h1];have ih:=mfind_put hk (i:=i) (key:=key) (v:=v) (c:=c) (ca:=r);unfold mfind;by_cases h:k.beq i x.1=true
    ·have e2:=(beq_eq hk).1 h;have h3:¬k.beq i key=true:=fun q=>h1 ((beq_eq hk).2 (((beq_eq hk).1 q).symm.trans e2));rw[if_pos h,if_neg h3,if_pos h]
    ·rw[if_neg h,ih,if_neg h]
end Go.Proofs.Tryz
namespace Go.Proofs
open Go.Shelf
def Tryz.lays144_ren:Go.Shelf.Ren:=⟨fun | 144=>225 | 143=>233 | 219=>234 | 217=>235 | 225=>236 | 224=>237 | 267=>238 | 266=>239 | 314=>240 | n=>n,fun | 9=>9 | 4=>4 | 3=>3 | 5=>5 | 46=>46 | 146=>328 | 51=>190 | n=>n,fun | 1=>0 | n=>n⟩
theorem Tryz.lays144:Go.Proofs.Lays.n144 Tryz.prog Tryz.lays144_ren:={
 mixed:=by kernel_rfl
 f143:=Tryz.func233.trans (congrArg some (by kernel_rfl))
 f144:=Tryz.func225.trans (congrArg some (by kernel_rfl))
 f217:=Tryz.func235.trans (congrArg some (by kernel_rfl))
 f219:=Tryz.func234.trans (congrArg some (by kernel_rfl))
 f224:=Tryz.func237.trans (congrArg some (by kernel_rfl))
 f225:=Tryz.func236.trans (congrArg some (by kernel_rfl))
 f266:=Tryz.func239.trans (congrArg some (by kernel_rfl))
 f267:=Tryz.func238.trans (congrArg some (by kernel_rfl))
 f314:=Tryz.func240.trans (congrArg some (by kernel_rfl))
 t3:=Tryz.underlying3
 a3:=Tryz.isAgg3
 z3:=Tryz.sizeOf3
 v3:=Tryz.zeroValue3
 t4:=Tryz.underlying4
 a4:=Tryz.isAgg4
 z4:=Tryz.sizeOf4
 v4:=Tryz.zeroValue4
 t5:=Tryz.underlying5
 a5:=Tryz.isAgg5
 z5:=Tryz.sizeOf5
 v5:=Tryz.zeroValue5
 t9:=Tryz.underlying9
 a9:=Tryz.isAgg9
 z9:=Tryz.sizeOf9
 v9:=Tryz.zeroValue9
 t46:=Tryz.underlying46
 a46:=Tryz.isAgg46
 z46:=Tryz.sizeOf46
 v46:=Tryz.zeroValue46
 t51:=Tryz.underlying190
 a51:=Tryz.isAgg190
 z51:=Tryz.sizeOf190
 v51:=Tryz.zeroValue190
 t146:=Tryz.underlying328
 a146:=Tryz.isAgg328
 z146:=Tryz.sizeOf328
 v146:=Tryz.zeroValue328
 g1:=by kernel_rfl }
end Go.Proofs
namespace Go.Proofs.Tryz
open Go Go.Al
abbrev RF:Kd := .ag (.pr .i (.pr .i .un))
abbrev DE:Kd := .ag (.pr .s (.pr RF .un))
abbrev Ent:=DE.Ty
def nameMay (s:ByteArray):Bool:=decide (1≤s.size)&&decide (s.size≤24) && !decide (s=⟨#[46]⟩) && !decide (s=⟨#[46,46]⟩) && !s.data.toList.contains 47 && !s.data.toList.contains 0
def refMay (r:RF.Ty):Bool:=decide (0≤r.1)&&decide (r.1<24)&&decide (1≤r.2.1)&&decide (r.2.1≤32)
def entMay (e:Ent):Bool:=nameMay e.1&&refMay e.2.1
def rises:List Ent→Bool
 | a::b::r=>strLt a.1 b.1&&rises (b::r)
 | _=>true
def dirMay (es:List Ent):Bool:=decide (es.length≤32)&&rises es&&es.all entMay
theorem rises_iff:∀es:List Ent,rises es=true↔∀j,(h:j+1<es.length)→strLt (es[j]).1 (es[j+1]).1=true
 | []=>by simp[rises]
 | [a]=>by simp[rises]
 | a :: b :: r => by
   unfold rises;rw[YAq,rises_iff (b::r)]
   constructor
   ·rintro ⟨h1,h2⟩ j hj
    cases j with
    | zero=>exact h1
    | succ j=>exact h2 j (by simpa using hj)
   ·intro h;exact ⟨h 0 (by simp),fun j hj=>h (j+1) (by simpa using hj)⟩
theorem index_iff (c:UInt8):∀l:List UInt8,(-1≤Lib.indexByte l c)∧(0≤Lib.indexByte l c↔c∈l)
 | []=>by simp[Lib.indexByte]
 | b :: r => by
   have ih:=index_iff c r;unfold Lib.indexByte;by_cases hb:b=c
   ·simp[hb]
   ·have hb':¬(b == c)=true:=by simpa using hb
    have hc:¬c=b:=fun e=>hb e.symm;rw[if_neg hb'];by_cases hm:Lib.indexByte r c = -1
    ·have hnm:¬c∈r:=fun e=>by have:=ih.2.2 e;omega
     simp[hm,hc,hnm]
    ·have hm':¬(Lib.indexByte r c == -1)=true:=by simpa using hm
     rw[if_neg hm'];have hmem:c∈r:=ih.2.1 (by omega);have:=ih.2.2 hmem;refine ⟨by omega,⟨fun _=>by simp[hmem],fun _=>by omega⟩⟩
theorem ZBG.one {s:ByteArray} {c:UInt8} {h:Heap} {K:Bool→Heap→Prop} (hK:K (s.data.toList.contains c) h):ZBG.C s ⟨#[c]⟩ h K:=by
 refine callF_of (P:=Tryz.prog) (f:=ZBG.n) (fn:=ZBG.fn) (by kernel_rfl) (by kernel_rfl) (by kernel_rfl) fun w hw =>?_;subst hw;refine (Any.strings_Contains_one Tryz.lays144 s c w).mono ?_;rintro e w' ⟨rfl,rfl⟩;refine ⟨s.data.toList.contains c,?_,rfl,rfl,hK⟩
 have:decide (0≤Lib.indexByte s.data.toList c)=s.data.toList.contains c:=by
  have:=(index_iff c s.data.toList).2
  cases hc:s.data.toList.contains c with
  | true=>simp only [List.contains_iff_mem] at hc;simp[this,hc]
  | false =>
    have:¬c∈s.data.toList:=fun e=>by rw[List.contains_iff_mem.2 e] at hc;simp at hc
    simp_all
 rw[this]
 rfl
theorem ZCw.s {s:ByteArray} {h:Heap} {K:Bool→Heap→Prop} (hK:K (nameMay s) h):ZCw.C s h K:=by
 apply ZCw.c;unfold ZCw.m;refine jn_at (nameMay s,()) h ?_ hK;unfold nameMay;by_cases h1:(s.size:Int)≥1
 ·have h1':1≤s.size:=by omega
  by_cases h2:(s.size:Int)≤24
  ·have h2':s.size≤24:=by omega
   by_cases h3:s=⟨#[46]⟩
   ·subst h3;simp
   ·by_cases h4:s=⟨#[46,46]⟩
    ·subst h4;simp
    ·simp only [h1,h2,h3,h4,h1',h2',decide_true,decide_false,Bool.not_false,if_true,YAt];refine ZBG.one ?_
     cases h5:s.data.toList.contains 47 with
     | true=>simp
     | false =>
       simp only [Bool.not_false,if_true,YAt];refine ZBG.one ?_;simp
  ·have h2':¬s.size≤24:=by omega
   simp[h1,h2,h1',h2']
 ·have h1':¬1≤s.size:=by omega
  simp[h1,h1']
theorem ZCc.s {s:ByteArray} {h:Heap} {K:Bool→Heap→Prop} (hK:K (nameMay s) h):ZCc.C s h K:=by
 apply ZCc.c;unfold ZCc.m;by_cases hb:¬(1≤s.size∧s.size≤24∧s≠⟨#[46]⟩∧s≠⟨#[46,46]⟩)
 ·have hn:nameMay s=false:=by
   unfold nameMay;by_cases h1:1≤s.size
   ·by_cases h2:s.size≤24
    ·by_cases h3:s=⟨#[46]⟩
     ·simp[h3]
     ·by_cases h4:s=⟨#[46,46]⟩
      ·simp[h4]
      ·exact absurd ⟨h1,h2,h3,h4⟩ hb
    ·simp[h2]
   ·simp[h1]
  rw[hn] at hK;refine jn_at (true,()) h ?_ (by simpa using hK);by_cases h1:(s.size:Int)<1
  ·simp[h1]
  ·by_cases h2:(s.size:Int)>24
   ·simp[h1,h2]
   ·by_cases h3:s=⟨#[46]⟩
    ·subst h3;simp
    ·have h4:s=⟨#[46,46]⟩:=by
      by_cases h4:s=⟨#[46,46]⟩
      ·exact h4
      ·exact absurd ⟨by omega,by omega,h3,h4⟩ hb
     simp only [h1,h2,h3,decide_false,YAr,if_false,h4,decide_true];exact ⟨by first | rfl | trivial,by first | rfl | trivial⟩
 ·have hb:1≤s.size∧s.size≤24∧s≠⟨#[46]⟩∧s≠⟨#[46,46]⟩:=by
   by_cases h:1≤s.size∧s.size≤24∧s≠⟨#[46]⟩∧s≠⟨#[46,46]⟩
   ·exact h
   ·exact absurd h hb
  obtain ⟨h1,h2,h3,h4⟩:=hb
  have hn:nameMay s=(!s.data.toList.contains 47 && !s.data.toList.contains 0):=by
   unfold nameMay;simp[h1,h2,h3,h4]
  refine jn_at (false,()) h ?_ ?_
  ·have a:¬(s.size:Int)<1:=by omega
   have b:¬(s.size:Int)>24:=by omega
   simp[a,b,h3,h4]
  ·simp only [YAr,if_false];have hsz:s.size=s.data.toList.length:=rfl;refine lp_go (fun (y:Int×Unit) (h1:Heap)=>h1=h∧0≤y.1∧y.1≤s.size∧∀j,(hj:j<s.data.toList.length)→(j:Int)<y.1→s.data.toList[j]≠47∧s.data.toList[j]≠0) (fun (y:Int×Unit) _=>s.size-y.1.toNat) ?_ ?_
   ·exact ⟨rfl,by simp,by simp,fun j hj hlt=>by simp only at hlt;omega⟩
   ·rintro ⟨(i:Int),_⟩ h1 ⟨rfl,i0,i1,hall⟩;dsimp only at *;split
    ·rename_i hlt
     have hlt:i<s.size:=by simpa using hlt
     obtain ⟨t,rfl⟩:∃t:Nat,i=t:=⟨i.toNat,by omega⟩;have ht:t<s.data.toList.length:=by omega
     have hw:w64 ((t:Int)+1)=(t:Int)+1:=w64_id (by omega) (by omega);rw[hw];have e47:(((47:UInt8).toNat:Int))=47:=by decide
     have e0:(((0:UInt8).toNat:Int))=0:=by decide
     rw[e47,e0];by_cases hbad:s.data.toList[t]=47∨s.data.toList[t]=0
     ·have hf:nameMay s=false:=by
       rw[hn];rcases hbad with e | e
       ·have:s.data.toList.contains 47=true:=List.contains_iff_mem.2 (e ▸ YAM ht);rw[this];rfl
       ·have:s.data.toList.contains 0=true:=List.contains_iff_mem.2 (e ▸ YAM ht);rw[this];exact Bool.and_false _
      rw[hf] at hK;refine ⟨fun _ _=>False,?_,fun _ _ e=>e.elim⟩;refine jn_at (true,()) h1 ?_ ?_
      ·refine ixs_go ht ⟨by first | rfl | trivial,?_⟩;rcases hbad with e | e
       ·rw[e];rw[if_pos (by decide)];exact ⟨by first | rfl | trivial,by first | rfl | trivial⟩
       ·rw[e];rw[if_neg (by decide)];refine ixs_go ht ⟨by first | rfl | trivial,?_⟩;rw[e];exact ⟨by first | decide | trivial,by first | rfl | trivial⟩
      ·rw[if_pos rfl];exact hK
     ·have hbad:s.data.toList[t]≠47∧s.data.toList[t]≠0:=⟨fun e=>hbad (.inl e),fun e=>hbad (.inr e)⟩;refine jn_at () h1 ?_ ?_
      ·refine jn_at (false,()) h1 ?_ ?_
       ·refine ixs_go ht ⟨by first | rfl | trivial,?_⟩;have q1:¬((s.data.toList[t].toNat:Int)=47):=fun e=>hbad.1 (UInt8.toNat_inj.1 (by have:(47:UInt8).toNat=47:=(by decide);omega));have q2:¬((s.data.toList[t].toNat:Int)=0):=fun e=>hbad.2 (UInt8.toNat_inj.1 (by have:(0:UInt8).toNat=0:=(by decide);omega));simp only [q1,decide_false,YAr,if_false];refine ixs_go ht ⟨by first | rfl | trivial,?_⟩;refine ⟨?_,by first | rfl | trivial⟩;simp only [q2,decide_false]
       ·rw[if_neg (by simp)];exact ⟨by first | rfl | trivial,by first | rfl | trivial⟩
      ·refine ⟨⟨by first | rfl | trivial,by omega,by omega,fun j hj hlt =>?_⟩,by omega⟩;by_cases e:j=t
       ·subst e;exact hbad
       ·exact hall j hj (by omega)
    ·rename_i hge
     have hge:¬i<s.size:=by simpa using hge
     have ht:nameMay s=true:=by
      rw[hn]
      have c1:s.data.toList.contains 47=false:=by
       cases hc:s.data.toList.contains 47 with
       | false=>rfl
       | true =>
         obtain ⟨j,hj,e⟩:=YAN (List.contains_iff_mem.1 hc);exact absurd e (hall j hj (by omega)).1
      have c2:s.data.toList.contains 0=false:=by
       cases hc:s.data.toList.contains 0 with
       | false=>rfl
       | true =>
         obtain ⟨j,hj,e⟩:=YAN (List.contains_iff_mem.1 hc);exact absurd e (hall j hj (by omega)).2
      rw[c1,c2];rfl
     rw[ht] at hK;exact hK
theorem refMay_walk {r:RF.Ty} {h1:Heap} {b:Nat} {K:Bool→Heap→Prop} (hb:h1[b]? = some (vobj t_api_Ref RF r)) (hK:K (refMay r) h1):jn (.pr .b .un) (fun J1=>
 ld .i ((Pl.mk b 0).fld 0) h1 fun x1=>
 if (decide (x1≥0))=true then (ld .i ((Pl.mk b 0).fld 0) h1 fun x2=>
 if (decide (x2<24))=true then (ld .i ((Pl.mk b 0).fld 1) h1 fun x3=>
 if (decide (x3≥1))=true then (ld .i ((Pl.mk b 0).fld 1) h1 fun x4=>
 J1 (decide (x4≤32),()) h1)
 else J1 (false,()) h1)
 else J1 (false,()) h1)
 else J1 (false,()) h1) fun y1 h2=>K y1.1 h2:=by
 obtain ⟨(a:Int),(c:Int),_⟩:=r;have f0:sm .i ((Pl.mk b 0).fld 0) a h1:=sm_fld hb rfl (by decide);have f1:sm .i ((Pl.mk b 0).fld 1) c h1:=sm_fld hb rfl (by decide);refine jn_at (refMay (a,c,()),()) h1 ?_ hK;refine ⟨a,f0,?_⟩;unfold refMay;by_cases h1:a≥0
 ·have h1':0≤a:=h1;simp only [h1,h1',decide_true,if_true,YAt];refine ⟨a,f0,?_⟩;by_cases h2:a<24
  ·simp only [h2,decide_true,if_true,YAt];refine ⟨c,f1,?_⟩;by_cases h3:c≥1
   ·have h3':1≤c:=h3;simp only [h3,h3',decide_true,if_true,YAt];exact ⟨c,f1,by first | rfl | trivial,by first | rfl | trivial⟩
   ·have h3':¬1≤c:=h3;simp[h3,h3']
  ·simp[h2]
 ·have h1':¬0≤a:=h1;simp[h1,h1']
theorem ZDD.s {r:RF.Ty} {h:Heap} {K:Bool→Heap→Prop} (hK:∀h',Keep [] h h'→K (refMay r) h'):ZDD.C r h K:=by
 apply ZDD.c;unfold ZDD.m;exact new_go (refMay_walk get_push (hK _ keep_push))
theorem ZCs.s {r:RF.Ty} {h:Heap} {K:Bool→Heap→Prop} (hK:∀h',Keep [] h h'→K (refMay r) h'):ZCs.C r h K:=by
 apply ZCs.c;unfold ZCs.m;exact new_go (refMay_walk get_push (hK _ keep_push))
theorem ZB4.s {e:Ent} {h:Heap} {K:ByteArray→Heap→Prop} (hK:∀h',Keep [] h h'→K e.1 h'):ZB4.C e h K:=by
 apply ZB4.c;unfold ZB4.m;obtain ⟨(a:ByteArray),r,_⟩:=e;refine new_go ⟨a,sm_fld get_push rfl (by decide),hK _ keep_push⟩
theorem ZDL.s {e:Ent} {h:Heap} {K:Bool→Heap→Prop} (hK:∀h',Keep [] h h'→K (!entMay e) h'):ZDL.C e h K:=by
 apply ZDL.c;unfold ZDL.m;obtain ⟨(a:ByteArray),(r:RF.Ty),_⟩:=e;refine new_go ?_;have hb:(h.push (vobj t_api_Dirent DE (a,(r,()))))[h.size]? = some (vobj t_api_Dirent DE (a,(r,()))):=get_push;have f0:sm .s ((Pl.mk h.size 0).fld 0) a (h.push (vobj t_api_Dirent DE (a,(r,())))):=sm_fld hb rfl (by decide);have f1:sm RF ((Pl.mk h.size 0).fld 1) r (h.push (vobj t_api_Dirent DE (a,(r,())))):=sm_fld hb rfl (by decide);refine jn_is (!entMay (a,(r,())),()) (fun h'=>Keep [] h h') ?_ fun h' hk=>hK h' hk;refine ⟨a,f0,?_⟩;refine ZCw.s ?_;unfold entMay
 cases hn:nameMay a with
 | false =>
   rw[if_pos (by rfl)];exact ⟨by simp,keep_push⟩
 | true =>
   rw[if_neg (by simp)];refine ⟨r,f1,?_⟩;refine ZDD.s fun h' k' =>?_;exact ⟨by simp,keep_push.n k'⟩
theorem index_func {es:Slc} {xs:List Ent} {fv:Value} {p:Ent→Bool} {h:Heap} {K:Int→Heap→Prop} (g:Seg DE es xs h) (hl:xs.length≤4611686018427387904)
 (hf:∀(x:Ent) (h:Heap) (K:Bool→Heap→Prop),(∀h',Keep [] h h'→K (p x) h')→callV Tryz.prog fv [DE.val x] .b h K)
 (hK:∀i h',Keep [] h h'→(i≥0↔xs.any p=true)→K i h'):ZAG.C es fv h K:=by
 apply ZAG.c;unfold ZAG.m;refine lp_go (fun (y:Int×Unit) (h1:Heap)=>0≤y.1∧y.1≤xs.length∧Keep [] h h1∧∀j,(hj:j<xs.length)→(j:Int)<y.1→p xs[j]=false) (fun (y:Int×Unit) _=>xs.length-y.1.toNat) ?_ ?_
 ·exact ⟨by simp,by simp,Keep.rfl,fun j hj hlt=>by simp only at hlt;omega⟩
 ·rintro ⟨(i:Int),_⟩ h1 ⟨i0,i1,k1,hall⟩;dsimp only at *;have hlen:=g.len;split
  ·rename_i hlt
   have hlt:i<es.len:=by simpa using hlt
   obtain ⟨t,rfl⟩:∃t:Nat,i=t:=⟨i.toNat,by omega⟩;have ht:t<xs.length:=by omega
   have hw:w64 ((t:Int)+1)=(t:Int)+1:=w64_id (by omega) (by omega);rw[hw];refine seg_ix (x:=xs[t]) (g.keep (by decide) k1) i0 (by simp[ht]) rfl ?_;refine hf _ _ _ fun h2 k2 =>?_
   cases hp:p xs[t] with
   | true =>
     rw[if_pos rfl];refine hK _ _ (k1.n k2) ⟨fun _=>List.any_eq_true.2 ⟨_,YAM ht,hp⟩,fun _=>by omega⟩
   | false =>
     rw[if_neg (by simp)];refine ⟨⟨by omega,by omega,k1.n k2,fun j hj hlt =>?_⟩,by omega⟩;by_cases e:j=t
     ·subst e;exact hp
     ·exact hall j hj (by omega)
  ·rename_i hge
   have hge:¬i<es.len:=by simpa using hge
   refine hK _ _ k1 ⟨fun e=>absurd e (by decide),fun e =>?_⟩;obtain ⟨x,hx,hp⟩:=List.any_eq_true.1 e;obtain ⟨j,hj,e⟩:=YAN hx;rw[←e,hall j hj (by omega)] at hp;exact absurd hp (by simp)
theorem dir_Rising.s {es:Slc} {xs:List Ent} {h:Heap} {K:Bool→Heap→Prop} (g:Seg DE es xs h) (hl:xs.length≤4611686018427387904)
 (hK:∀h',Keep [] h h'→K (rises xs) h'):ZAf.C es (.func (.func ZB4.n) #[] #[]) h K:=by
 apply ZAf.c;unfold ZAf.m;refine lp_go (fun (y:Int×Unit) (h1:Heap)=>1≤y.1∧(y.1≤xs.length∨y.1=1)∧Keep [] h h1∧∀j,(hj:j+1<xs.length)→(j:Int)+1<y.1→strLt xs[j].1 xs[j+1].1=true) (fun (y:Int×Unit) _=>xs.length-y.1.toNat) ?_ ?_
 ·exact ⟨by simp,by simp,Keep.rfl,fun j hj hlt=>by simp only at hlt;omega⟩
 ·rintro ⟨(i:Int),_⟩ h1 ⟨i0,i1,k1,hall⟩;dsimp only at *;have hlen:=g.len;split
  ·rename_i hlt
   have hlt:i<es.len:=by simpa using hlt
   obtain ⟨t,rfl⟩:∃t:Nat,i=(t:Int)+1:=⟨(i-1).toNat,by omega⟩;have ht:t+1<xs.length:=by omega
   have hw:w64 ((t:Int)+1+1)=(t:Int)+1+1:=w64_id (by omega) (by omega);have hw1:w64 ((t:Int)+1-1)=(t:Int):=w6 (by omega);rw[hw,hw1];have g1:=g.keep (by decide) k1;obtain ⟨l,hl0,hx0⟩:=seg_at g1 (i:=t) (by omega);obtain ⟨l',hl1,hx1⟩:=seg_at g1 (i:=t+1) ht;refine ⟨l,hl0,by omega,by omega,xs[t],hx0,l',hl1,by omega,by omega,xs[t+1],?_,?_⟩
   ·rw[show ((t:Int)+1).toNat=t+1 by omega];exact hx1
   show ZB4.C xs[t] h1 _;refine ZB4.s fun h2 k2 =>?_;refine ⟨?_,?_⟩
   ·rw[show ((t:Int)+1).toNat=t+1 by omega];exact sm_keep' hx1 k2 (by simp)
   show ZB4.C xs[t+1] h2 _;refine ZB4.s fun h3 k3 =>?_;have k13:=(k1.n k2).n k3
   cases hs:strLt xs[t].1 xs[t+1].1 with
   | false =>
     rw[if_pos (by rfl)]
     have:rises xs=false:=by
      cases hr:rises xs with
      | false=>rfl
      | true=>rw[(rises_iff xs).1 hr t ht] at hs;simp at hs
     rw[←this];exact hK _ k13
   | true =>
     rw[if_neg (by simp)];refine ⟨⟨by omega,by omega,k13,fun j hj hlt =>?_⟩,by omega⟩;by_cases e:j=t
     ·subst e;exact hs
     ·exact hall j hj (by omega)
  ·rename_i hge
   have hge:¬i<es.len:=by simpa using hge
   have:rises xs=true:=(rises_iff xs).2 fun j hj=>hall j hj (by omega);rw[←this];exact hK _ k1
theorem ZDT.s {es:Slc} {xs:List Ent} {h:Heap} {K:Bool→Heap→Prop} (g:Seg DE es xs h) (hK:∀h',Keep [] h h'→K (dirMay xs) h'):ZDT.C es h K:=by
 apply ZDT.c;unfold ZDT.m;have hlen:=g.len;by_cases hl:xs.length≤32
 ·refine jn_is (!rises xs,()) (fun h'=>Keep [] h h') ?_ fun h1 k1 =>?_
  ·have:¬(es.len:Int)>32:=by omega
   simp only [this,decide_false,YAr,if_false];exact dir_Rising.s g (by omega) fun h' k'=>⟨rfl,k'⟩
  ·cases hr:rises xs with
   | false =>
     rw[if_pos (by rfl)];have:dirMay xs=false:=by simp[dirMay,hr]
     rw[←this];exact hK _ k1
   | true =>
     rw[if_neg (by simp)];apply ZAH.c;unfold ZAH.m;refine index_func (p:=fun e => !entMay e) (g.keep (by decide) k1) (by omega) (fun x h K hf=>ZDL.s hf) fun i h2 k2 hi =>?_
     have:(!decide (i≥0))=dirMay xs:=by
      unfold dirMay;simp only [hl,hr,decide_true,YAt]
      cases ha:xs.all entMay with
      | true =>
        have:¬xs.any (fun e => !entMay e)=true:=by
         intro e;obtain ⟨x,hx,hp⟩:=List.any_eq_true.1 e;rw[List.all_eq_true.1 ha x hx] at hp;simp at hp
        have:¬i≥0:=fun e=>this (hi.1 e);simp[this]
      | false =>
        have:xs.any (fun e => !entMay e)=true:=by
         rw[List.any_eq_true];obtain ⟨x,hx,hp⟩:=List.all_eq_false.1 ha;exact ⟨x,hx,by simpa using hp⟩
        have:=hi.2 this;simp[this]
     show K (!decide (i≥0)) h2;rw[this];exact hK _ (k1.n k2)
 ·refine jn_at (true,()) h ?_ ?_
  ·have:(es.len:Int)>32:=by omega
   simp[this]
  ·rw[if_pos rfl];have:dirMay xs=false:=by simp[dirMay,hl]
   rw[←this];exact hK _ Keep.rfl
theorem de_name {l:Pl} {x:Ent} {h:Heap} (e:sm DE l x h):sm .s (l.fld 0) x.1 h:=sm_sub e (by decide) rfl
theorem de_ref {l:Pl} {x:Ent} {h:Heap} (e:sm DE l x h):sm RF (l.fld 1) x.2.1 h:=sm_sub e (by decide) rfl
theorem de_own {l:Pl} {x:Ent} {h:Heap} (e:sm DE l x h):sm .i ((l.fld 1).fld 0) x.2.1.1 h:=sm_sub (de_ref e) (by decide) rfl
theorem de_num {l:Pl} {x:Ent} {h:Heap} (e:sm DE l x h):sm .i ((l.fld 1).fld 1) x.2.1.2.1 h:=sm_sub (de_ref e) (by decide) rfl
theorem ZB6.s {es:Slc} {xs:List Ent} {h:Heap} {K:Bool→Heap→Prop} (g:Seg DE es xs h) (hl:xs.length≤9223372036854775807) (hK:∀h',Keep [] h h'→K (dirMay xs) h'):ZB6.C es h K:=by
 apply ZB6.c;unfold ZB6.m;have hlen:=g.len;refine lp_go (fun (y:Int×Unit) (h1:Heap)=>0≤y.1∧y.1≤xs.length∧Keep [] h h1∧∀j,(hj:j<xs.length)→(j:Int)<y.1→entMay xs[j]=true∧∀i,(hi:i+1=j)→strLt (xs[i]'(by omega)).1 xs[j].1=true) (fun (y:Int×Unit) _=>xs.length-y.1.toNat) ?_ ?_
 ·exact ⟨by simp,by simp,Keep.rfl,fun j hj hlt=>by simp only at hlt;omega⟩
 ·rintro ⟨(i:Int),_⟩ h1 ⟨i0,i1,k1,hall⟩;dsimp only at *;split
  ·rename_i hlt
   have hlt:i<es.len:=by simpa using hlt
   obtain ⟨t,rfl⟩:∃t:Nat,i=t:=⟨i.toNat,by omega⟩;have ht:t<xs.length:=by omega
   have hw:w64 ((t:Int)+1)=(t:Int)+1:=w64_id (by omega) (by omega);rw[hw];have g1:=g.keep (by decide) k1;obtain ⟨l,hl0,hx0⟩:=seg_at g1 (i:=t) ht
   let bad:Bool := !entMay xs[t]||(decide (0<t) && !strLt (xs[t-1]'(by omega)).1 xs[t].1)
   have hbad:∀h',Keep [] h h'→bad=true→K false h':=by
    intro h' k' hb
    have:dirMay xs=false:=by
     cases hd:dirMay xs with
     | false=>rfl
     | true =>
       exfalso
       unfold dirMay at hd;simp only [YAq] at hd;obtain ⟨⟨_,h2⟩,h3⟩:=hd;have e1:=List.all_eq_true.1 h3 xs[t] (YAM ht);simp only [bad,e1,Bool.not_true,Bool.false_or,YAq,decide_eq_true_eq] at hb;have e2:=(rises_iff xs).1 h2 (t-1) (by omega);have e3:xs[t-1+1]'(by omega)=xs[t]:=by congr 1;omega
       rw[e3] at e2;rw[e2] at hb;simp at hb
    rw[←this];exact hK _ k'
   refine ⟨fun _ h6=>(0≤(t:Int)+1∧(t:Int)+1≤xs.length∧Keep [] h h6∧∀j,(hj:j<xs.length)→(j:Int)<(t:Int)+1→entMay xs[j]=true∧∀i,(hi:i+1=j)→strLt (xs[i]'(by omega)).1 xs[j].1=true)∧xs.length-((t:Int)+1).toNat<xs.length-(t:Int).toNat,?_,fun _ h6 hh=>hh⟩;refine jn_is (bad,()) (fun h'=>Keep [] h h') ?_ ?_
   ·refine ⟨l,hl0,i0,by omega,xs[t].1,de_name hx0,?_⟩;refine ZCc.s ?_
    cases hn:nameMay xs[t].1 with
    | false =>
      rw[if_pos (by rfl)];refine ⟨?_,k1⟩;simp[bad,entMay,hn]
    | true =>
      rw[if_neg (by simp)];refine ⟨l,hl0,i0,by omega,xs[t].2.1,de_ref hx0,?_⟩;refine ZCs.s fun h2 k2 =>?_;have k12:=k1.n k2
      cases hr:refMay xs[t].2.1 with
      | false =>
        rw[if_pos (by rfl)];refine ⟨?_,k12⟩;simp[bad,entMay,hr]
      | true =>
        rw[if_neg (by simp)];by_cases h0:t=0
        ·subst h0;rw[if_neg (by simp)];refine ⟨?_,k12⟩;simp[bad,entMay,hn,hr]
        ·have hpos:(t:Int)>0:=by omega
         rw[if_pos (by simpa using hpos)];have hw1:w64 ((t:Int)-1)=((t-1:Nat):Int):=w6 (by omega);rw[hw1];have g2:=g.keep (by decide) k12;obtain ⟨l2,hl2,hx2⟩:=seg_at g2 (i:=t-1) (by omega);obtain ⟨l3,hl3,hx3⟩:=seg_at g2 (i:=t) ht;refine ⟨l2,hl2,by omega,by omega,(xs[t-1]'(by omega)).1,de_name hx2,l3,hl3,by omega,by omega,xs[t].1,de_name hx3,?_,k12⟩;have:decide (0<t)=true:=by simp;omega
         simp[bad,entMay,hn,hr,this]
   ·intro h2 k2
    cases hb:bad with
    | true=>rw[if_pos rfl];exact hbad _ k2 hb
    | false =>
      rw[if_neg (by simp)];simp only [bad,Bool.or_eq_false_iff,Bool.not_eq_false'] at hb;refine ⟨⟨by omega,by omega,k2,fun j hj hlt =>?_⟩,by omega⟩;by_cases e:j=t
      ·subst e;refine ⟨hb.1,fun i hi =>?_⟩;have hd:decide (0<j)=true:=by simp;omega
       have h2:=hb.2;rw[hd,YAt,Bool.not_eq_false'] at h2;have:i=j-1:=by omega
       subst this;exact h2
      ·exact hall j hj (by omega)
  ·rename_i hge
   have hge:¬i<es.len:=by simpa using hge
   have e1:rises xs=true:=(rises_iff xs).2 fun j hj=>(hall (j+1) hj (by omega)).2 j rfl
   have e2:xs.all entMay=true:=List.all_eq_true.2 fun x hx=>by
    obtain ⟨j,hj,e⟩:=YAN hx;rw[←e];exact (hall j hj (by omega)).1
   have:decide ((es.len:Int)≤32)=dirMay xs:=by
    unfold dirMay;rw[e1,e2,hlen];simp only [Bool.and_true];by_cases h:xs.length≤32
    ·have:(xs.length:Int)≤32:=by omega
     simp[h,this]
    ·have:¬(xs.length:Int)≤32:=by omega
     simp[h,this]
   rw[this];exact hK _ k1
def eOwn (e:Ent):Int:=e.2.1.1
def eNum (e:Ent):Int:=e.2.1.2.1
def entBytes (e:Ent):List UInt8:=be e.1.size 1++e.1.data.toList++be (eOwn e).toNat 1++be (eNum e).toNat 1
def putBytes (es:List Ent):List UInt8:=be 68 1++be es.length 1++es.flatMap entBytes
theorem ent_ok {e:Ent} (h:entMay e=true):1≤e.1.size∧e.1.size≤24∧0≤eOwn e∧eOwn e<24∧1≤eNum e∧eNum e≤32:=by
 unfold entMay nameMay refMay at h;simp only [YAq,decide_eq_true_eq] at h;obtain ⟨⟨⟨⟨⟨⟨a,b⟩,_⟩,_⟩,_⟩,_⟩,⟨⟨c,d⟩,e⟩,f⟩:=h;exact ⟨a,b,c,d,e,f⟩
theorem dir_ok {xs:List Ent} (h:dirMay xs=true):xs.length≤32∧rises xs=true∧∀e∈xs,entMay e=true:=by
 unfold dirMay at h;simp only [YAq,decide_eq_true_eq] at h;exact ⟨h.1.1,h.1.2,List.all_eq_true.1 h.2⟩
theorem entBytes_len {e:Ent}:(entBytes e).length=e.1.size+3:=by
 have:e.1.data.toList.length=e.1.size:=rfl;simp only [entBytes,YAO,be_len,this];omega
theorem flat_le:∀ {xs:List Ent},(∀e∈xs,entMay e=true)→(xs.flatMap entBytes).length≤27*xs.length
 | [],_=>by simp
 | x :: r, h => by
   have h1:=flat_le (xs:=r) fun e he=>h e (by simp[he]);have h2:=ent_ok (h x (by simp));rw[YAI,YAO,entBytes_len,YAP];omega
theorem take_flat {xs:List Ent} {t:Nat} (h:t<xs.length):(xs.take (t+1)).flatMap entBytes=(xs.take t).flatMap entBytes++entBytes xs[t]:=by
 rw[YAa h];simp only [YAH,YAI,YAJ,YAB]
theorem ZDe.s {es:Slc} {xs:List Ent} {h:Heap} {K:ByteArray→Int→Heap→Prop} (g:Seg DE es xs h)
 (hK:∀h',Keep [] h h'→K (if dirMay xs=true then ⟨(putBytes xs).toArray⟩ else ⟨#[]⟩) (if dirMay xs=true then 0 else 1300) h'):ZDe.C es h K:=by
 apply ZDe.c;unfold ZDe.m;have hlen:=g.len;refine ZDT.s g fun h1 k1 =>?_
 cases hm:dirMay xs with
 | false =>
   rw[if_pos (by rfl)];rw[hm] at hK;exact hK _ k1
 | true =>
   rw[if_neg (by simp)];rw[hm] at hK;simp only [if_true] at hK;obtain ⟨hl,_,hall⟩:=dir_ok hm;refine ZBs.s fun h2 k2 w2 =>?_;have q2:NW h h2 h1.size ⟨none,0,0⟩ []:=⟨k1.n k2,w2,k1.1,by simp[own]⟩;generalize h1.size=w at q2 ⊢;refine q2.num (x:=68) (n:=1) (.inl rfl) (by decide) (by simp) fun h3 s3 q3 k3 _ =>?_;rw[hlen];refine q3.num (x:=xs.length) (n:=1) (.inl rfl) (by omega) (by simp[be_len]) fun h4 s4 q4 k4 _ =>?_;refine lp_go (fun (y:Int×Unit) (h5:Heap)=>0≤y.1∧y.1≤xs.length∧∃s5,NW h h5 w s5 (be 68 1++be xs.length 1++(xs.take y.1.toNat).flatMap entBytes)) (fun (y:Int×Unit) _=>xs.length-y.1.toNat) ?_ ?_
   ·exact ⟨by simp,by simp,s4,by simpa using q4⟩
   ·rintro ⟨(i:Int),_⟩ h5 ⟨i0,i1,s5,q5⟩;dsimp only at *;split
    ·rename_i hlt
     have hlt:i<xs.length:=by simpa using hlt
     obtain ⟨t,rfl⟩:∃t:Nat,i=t:=⟨i.toNat,by omega⟩;have ht:t<xs.length:=by omega
     have hw:w64 ((t:Int)+1)=(t:Int)+1:=w64_id (by omega) (by omega);rw[hw];simp only [YAd] at q5;have hent:=ent_ok (hall xs[t] (YAM ht));have hfl:=flat_le (xs:=xs.take t) (fun e he=>hall e (List.take_subset _ _ he));have hfl2:(xs.take t).length≤32:=by simp;omega
     have htl:((xs.take t).flatMap entBytes).length≤864:=by omega
     refine seg_ix (x:=xs[t]) (g.keep (by decide) q5.k) i0 (by simp[ht]) rfl ?_;refine new_go (st_all get_push ?_);have kb:Keep [] h5 ((h5.push (vobj t_api_Dirent DE (⟨#[]⟩,((0,(0,())),())))).setIfInBounds h5.size (vobj t_api_Dirent DE xs[t])):=keep_push.new keep_set (by simp);have hb:((h5.push (vobj t_api_Dirent DE (⟨#[]⟩,((0,(0,())),())))).setIfInBounds h5.size (vobj t_api_Dirent DE xs[t]))[h5.size]? = some (vobj t_api_Dirent DE xs[t]):=get_set get_push;have q6:=q5.keep kb (by simp);have nb:h5.size∉w::own s5:=q5.out (.inr ⟨by have:=lt_of_some q5.i.o;omega,fun hm=>by have:=q5.i.r.lt _ hm;omega⟩);have hbs:=lt_of_some hb;have hle5:=q5.k.1;generalize h5.size=b at *;generalize ((h5.push (vobj t_api_Dirent DE (⟨#[]⟩,((0,(0,())),())))).setIfInBounds b (vobj t_api_Dirent DE xs[t]))=h6 at *;have hfe:=take_flat ht;generalize xs[t]=e at *;refine ⟨e.1,de_name (sm_all hb),?_⟩;refine q6.text (n:=1) (.inl rfl) (by omega) (by simp only [YAO,be_len];omega) fun h7 s7 q7 k7 o7 =>?_;have hb7:=k7.get hb nb;have nb7:b∉w::own s7:=o7 b hbs nb;refine ⟨eOwn e,de_own (sm_all hb7),?_⟩;obtain ⟨o,ho⟩:∃o:Nat,eOwn e=o:=⟨(eOwn e).toNat,by omega⟩;rw[ho];refine q7.num (x:=o) (n:=1) (.inl rfl) (by omega) (by simp only [YAO,be_len];have:e.1.data.toList.length=e.1.size:=rfl;omega) fun h8 s8 q8 k8 _ =>?_;have hb8:=k8.get hb7 nb7;refine ⟨eNum e,de_num (sm_all hb8),?_⟩;obtain ⟨m,hm'⟩:∃m:Nat,eNum e=m:=⟨(eNum e).toNat,by omega⟩;rw[hm'];refine q8.num (x:=m) (n:=1) (.inl rfl) (by omega) (by simp only [YAO,be_len];have:e.1.data.toList.length=e.1.size:=rfl;omega) fun h9 s9 q9 k9 _ =>?_;refine ⟨⟨by omega,by omega,s9,?_⟩,by omega⟩;rw[show ((t:Int)+1).toNat=t+1 by omega,hfe]
     have he:entBytes e=be e.1.size 1++e.1.data.toList++be o 1++be m 1:=by
      unfold entBytes;rw[ho,hm'];simp only [YAd]
     rw[he];simpa only [YAA] using q9
    ·rename_i hge
     have hge:¬i<xs.length:=by simpa using hge
     obtain rfl:i=xs.length:=by omega
     simp only [YAd] at q5;rw[YAZ (YAg _)] at q5;refine ZAJ.s q5.i ?_;exact hK _ q5.k
theorem ZCz.s {es:Slc} {xs:List Ent} {h:Heap} {K:ByteArray→Int→Heap→Prop} (g:Seg DE es xs h) (hl0:xs.length≤9223372036854775807)
 (hK:∀h',Keep [] h h'→K (if dirMay xs=true then ⟨(putBytes xs).toArray⟩ else ⟨#[]⟩) (if dirMay xs=true then 0 else 1300) h'):ZCz.C es h K:=by
 apply ZCz.c;unfold ZCz.m;have hlen:=g.len;refine ZB6.s g hl0 fun h1 k1 =>?_
 cases hm:dirMay xs with
 | false =>
   rw[if_pos (by rfl)];rw[hm] at hK;exact hK _ k1
 | true =>
   rw[if_neg (by simp)];rw[hm] at hK;simp only [if_true] at hK;obtain ⟨hl,_,hall⟩:=dir_ok hm;rw[hlen];refine ZAA.s (x:=xs.length) (n:=1) (by decide) (by decide) (by omega) fun h2 k2 =>?_;refine sadd_go (by rw[be_size];decide) ?_
   have e68:((⟨#[68]⟩:ByteArray).data.toList++(⟨(be xs.length 1).toArray⟩:ByteArray).data.toList)=be 68 1++be xs.length 1:=by
    simp only [List.toList_toArray]
    rfl
   rw[e68];have kk2:=k1.n k2;refine lp_go (fun (y:ByteArray×Int×Unit) (h3:Heap)=>0≤y.2.1∧y.2.1≤xs.length∧Keep [] h h3∧y.1=⟨(be 68 1++be xs.length 1++(xs.take y.2.1.toNat).flatMap entBytes).toArray⟩) (fun (y:ByteArray×Int×Unit) _=>xs.length-y.2.1.toNat) ?_ ?_
   ·exact ⟨by simp,by simp,kk2,by simp⟩
   ·rintro ⟨(s:ByteArray),(i:Int),_⟩ h3 ⟨i0,i1,k3,hs⟩;dsimp only at *;split
    ·rename_i hlt
     have hlt:i<xs.length:=by simpa using hlt
     obtain ⟨t,rfl⟩:∃t:Nat,i=t:=⟨i.toNat,by omega⟩;have ht:t<xs.length:=by omega
     have hw:w64 ((t:Int)+1)=(t:Int)+1:=w64_id (by omega) (by omega);rw[hw];simp only [YAd] at hs;have hent:=ent_ok (hall xs[t] (YAM ht));have hfl:=flat_le (xs:=xs.take t) (fun e he=>hall e (List.take_subset _ _ he));have hfl2:(xs.take t).length≤32:=by simp;omega
     have htl:((xs.take t).flatMap entBytes).length≤864:=by omega
     have hfe:=take_flat ht;obtain ⟨l,hl1,hx⟩:=seg_at (g.keep (by decide) k3) ht;have hx:sm DE ⟨l.b,l.o+(t:Int).toNat*3⟩ xs[t] h3:=hx;have hes:(t:Int)<es.len:=by omega
     generalize xs[t]=e at *;obtain ⟨o,ho⟩:∃o:Nat,eOwn e=o:=⟨(eOwn e).toNat,by omega⟩;obtain ⟨m,hm'⟩:∃m:Nat,eNum e=m:=⟨(eNum e).toNat,by omega⟩;refine ⟨l,hl1,i0,hes,e.1,de_name hx,l,hl1,i0,hes,e.1,de_name hx,l,hl1,i0,hes,eOwn e,de_own hx,l,hl1,i0,hes,eNum e,de_num hx,?_⟩;refine ZAA.s (x:=e.1.size) (n:=1) (by decide) (by decide) (by omega) fun h4 k4 =>?_;have hx4:=sm_keep' hx k4 (by simp);have hel:e.1.data.toList.length=e.1.size:=rfl;refine ⟨de_num hx4,de_own hx4,de_name hx4,?_⟩;have hsl:s.data.toList=be 68 1++be xs.length 1++(xs.take t).flatMap entBytes:=by rw[hs]
     have hss:s.size=2+((xs.take t).flatMap entBytes).length:=by rw[hs,ba_size];simp only [YAO,be_len]
     refine sadd_go (by rw[be_size];omega) ?_;refine sadd_go (by rw[ba_size];simp only [YAO,hsl,be_len];omega) ?_;rw[ho];refine ZAA.s (x:=o) (n:=1) (by decide) (by decide) (by omega) fun h5 k5 =>?_;have hx5:=sm_keep' hx4 k5 (by simp);refine ⟨de_num hx5,de_name hx5,?_⟩;refine sadd_go (by rw[ba_size,be_size];simp only [YAO,hsl,be_len];omega) ?_;rw[hm'];refine ZAA.s (x:=m) (n:=1) (by decide) (by decide) (by omega) fun h6 k6 =>?_;have hx6:=sm_keep' hx5 k6 (by simp);refine ⟨de_name hx6,?_⟩;refine sadd_go (by rw[ba_size,be_size];simp only [YAO,hsl,be_len];omega) ?_;refine ⟨⟨by omega,by omega,((k3.n k4).n k5).n k6,?_⟩,by omega⟩;rw[show ((t:Int)+1).toNat=t+1 by omega,hfe]
     have he:entBytes e=be e.1.size 1++e.1.data.toList++be o 1++be m 1:=by
      unfold entBytes;rw[ho,hm'];simp only [YAd]
     rw[he,hsl];simp only [YAA]
    ·rename_i hge
     have hge:¬i<xs.length:=by simpa using hge
     obtain rfl:i=xs.length:=by omega
     simp only [YAd] at hs;rw[YAZ (YAg _)] at hs;rw[hs];exact hK _ k3
theorem bl_trans:∀ {x y z:List UInt8},Op.bytesLess x y=true→Op.bytesLess y z=true→Op.bytesLess x z=true
 | x,y,[],_,h=>by cases y <;> simp[Op.bytesLess] at h
 | x,[],c::z,h,_=>by cases x <;> simp[Op.bytesLess] at h
 | [],b::y,c::z,_,_=>rfl
 | a :: x, b :: y, c :: z, h1, h2 => by
   unfold Op.bytesLess at *;simp only [Bool.or_eq_true,decide_eq_true_eq,YAq,beq_iff_eq] at *;rcases h1 with h1 | ⟨rfl,h1⟩ <;> rcases h2 with h2 | ⟨rfl,h2⟩
   ·exact .inl (UInt8.lt_trans h1 h2)
   ·exact .inl h1
   ·exact .inl h2
   ·exact .inr ⟨rfl,bl_trans h1 h2⟩
theorem lt_trans {x y z:ByteArray} (h1:strLt x y=true) (h2:strLt y z=true):strLt x z=true:=bl_trans h1 h2
theorem mid_eq {i j:Nat} (h:i+j<9223372036854775808):w64 ((shU64 .shr (u64I (w64 ((i:Int)+(j:Int)))) ((1:UInt64).toNat:Int)).toNat:Int)=(((i+j)/2:Nat):Int):=by
 have h1:w64 ((i:Int)+(j:Int))=((i+j:Nat):Int):=w6 (by omega)
 have h2:(u64I ((i+j:Nat):Int)).toNat=i+j:=by
  have:=wrap_u64n ((i+j:Nat):Int);rw[IntKind.wrap_u64] at this;omega
 have e1:(((1:UInt64).toNat:Int))=1:=by decide
 rw[h1,e1];unfold shU64;simp only [h2]
 have h3:(((i+j:Nat):Int)).fdiv (2^(min (1:Int).toNat 64))=(((i+j)/2:Nat):Int):=by
  rw[show min (1:Int).toNat 64=1 by decide,Int.fdiv_eq_ediv_of_nonneg _ (by decide)];omega
 rw[h3]
 have h4:(u64I (((i+j)/2:Nat):Int)).toNat=(i+j)/2:=by
  have:=wrap_u64n (((i+j)/2:Nat):Int);rw[IntKind.wrap_u64] at this;omega
 rw[h4,w64_id (by omega) (by omega)]
def rdN:List UInt8→Int×Int×List UInt8
 | []=>(0,300,[])
 | b::r=>((b.toNat:Int),0,r)
def rdT:List UInt8→List UInt8×Int×List UInt8
 | []=>([],300,[])
 | b::r=>if b.toNat≤r.length then (r.take b.toNat,0,r.drop b.toNat) else ([],300,b::r)
def rdE (l:List UInt8):Ent×Int×List UInt8:=
 ((bx (rdT l).1,(((rdN (rdT l).2.2).1,((rdN (rdN (rdT l).2.2).2.2).1,())),())),(rdN (rdN (rdT l).2.2).2.2).2.1,(rdN (rdN (rdT l).2.2).2.2).2.2)
def rdM:Nat→List UInt8→List Ent→List Ent×Int
 | 0,_,acc=>(acc,0)
 | n+1,l,acc=>if (rdE l).2.1≠0 then ([],(rdE l).2.1) else rdM n (rdE l).2.2 (acc++[(rdE l).1])
theorem be1 {x:Nat}:be x 1=[UInt8.ofNat x]:=by simp[be]
theorem rdN_be {x:Nat} {r:List UInt8} (h:x<256):rdN (be x 1++r)=((x:Int),0,r):=by
 rw[be1];simp only [List.singleton_append,rdN];have:(UInt8.ofNat x).toNat=x:=by rw[UInt8.toNat_ofNat'];omega
 rw[this]
theorem rdE_ent {e:Ent} {r:List UInt8} (h:entMay e=true):rdE (entBytes e++r)=(e,0,r):=by
 have hb:=ent_ok h;have hl:e.1.data.toList.length=e.1.size:=rfl
 have ht:rdT (entBytes e++r)=(e.1.data.toList,0,be (eOwn e).toNat 1++(be (eNum e).toNat 1++r)):=by
  unfold entBytes;rw[be1 (x:=e.1.size)];simp only [YAA,List.singleton_append,List.cons_append,List.nil_append,rdT];have hs:(UInt8.ofNat e.1.size).toNat=e.1.size:=by rw[UInt8.toNat_ofNat'];omega
  rw[hs,if_pos (by rw[YAO,hl];omega)];rw[List.take_left' hl,List.drop_left' hl]
 unfold rdE;rw[ht];simp only;rw[rdN_be (by omega)];simp only;rw[rdN_be (by omega)];simp only;rw[bx_list];obtain ⟨(n:ByteArray),⟨(a:Int),(c:Int),_⟩,_⟩:=e;simp only [eOwn,eNum] at hb ⊢;rw[YAe hb.2.2.1,YAe (by have:=hb.2.2.2.2.1;omega)]
theorem rdM_all:∀(es:List Ent) (r:List UInt8) (acc:List Ent),(∀e∈es,entMay e=true)→rdM es.length (es.flatMap entBytes++r) acc=(acc++es,0)
 | [],r,acc,_=>by simp[rdM]
 | e :: t, r, acc, h => by
   have he:=rdE_ent (r:=t.flatMap entBytes++r) (h e (by simp));rw[YAI,YAA,YAP];simp only [rdM];rw[he];simp only [ne_eq,not_true_eq_false,if_false];rw[rdM_all t r (acc++[e]) (fun x hx=>h x (by simp[hx]))];simp
theorem ZAX.s {e:Int} {h:Heap} {K:Int→Heap→Prop} (hK:K e h):ZAX.C e h K:=ZAX.c e hK
theorem put_inj {xs ys:List Ent} (hx:dirMay xs=true) (hy:dirMay ys=true) (e:bx (putBytes xs)=bx (putBytes ys)):xs=ys:=by
 obtain ⟨lx,_,ax⟩:=dir_ok hx;obtain ⟨ly,_,ay⟩:=dir_ok hy;have h1:=rdM_all xs [] [] ax;have h2:=rdM_all ys [] [] ay
 have e0:putBytes xs=putBytes ys:=by
  have:=congrArg (fun x:ByteArray=>x.data.toList) e;simpa[bx] using this
 have e1:rdN (putBytes xs)=rdN (putBytes ys):=by rw[e0]
 have p1:∀zs:List Ent,putBytes zs=be 68 1++(be zs.length 1++(zs.flatMap entBytes++[])):=fun zs=>by simp[putBytes]
 rw[p1 xs,p1 ys,rdN_be (by decide),rdN_be (by decide)] at e1;have e2:=congrArg (fun x=>rdN x.2.2) e1;simp only at e2;rw[rdN_be (by omega),rdN_be (by omega)] at e2;simp only [Prod.mk.injEq] at e2;have hl:xs.length=ys.length:=by omega
 rw[hl,e2.2.2,h2] at h1;simpa using (congrArg Prod.fst h1).symm
structure Nd where
 num:Int
 kind:Int
 mode:Int
 links:Int
 data:ByteArray
 ents:List Ent
structure Mb where
 users:Int
 groups:List (List Int)
abbrev Rf:=RF.Ty
abbrev StK:Kd := .ag (.pr RF (.pr .i (.pr .i (.pr .i (.pr .i .un)))))
abbrev Stat:=StK.Ty
structure An where
 code:Int
 stat:Stat
 data:ByteArray
 names:List ByteArray
structure Cl where
 op:Int
 path:ByteArray
 other:ByteArray
 data:ByteArray
 at_:Int
 n:Int
 as_:Int
abbrev Tab:=List Nd
abbrev Fs:=List Tab
def rf (o n:Int):Rf:=(o,(n,()))
def rootR:Rf:=rf 0 1
def risesI:List Int→Bool
 | x::y::r=>decide (x<y)&&risesI (y::r)
 | _=>true
def grpMay (us:List Int) (n:Int):Bool:=us.all (fun u=>decide (0≤u)&&decide (u<n))&&risesI us && !us.isEmpty
def mbMay (m:Mb):Bool:=decide (1≤m.users)&&decide (m.users≤16)&&decide (m.groups.length≤8)&&m.groups.all fun g=>grpMay g m.users
def prins (m:Mb):Int:=m.users+m.groups.length
def mIn (m:Mb) (u p:Int):Bool:=
 if u<0∨m.users≤u∨p<0∨prins m≤p then false else if p<m.users then decide (u=p) else (m.groups.getD (p-m.users).toNat []).contains u
def ndN (n k m l:Int):Bool:=decide (1≤n)&&decide (n≤32)&&(decide (k=0)||decide (k=1))&&(decide (m=0)||decide (m=1))&&decide (1≤l)&&decide (l≤32)
def ndNum (x:Nd):Bool:=ndN x.num x.kind x.mode x.links
def ndMay (x:Nd):Bool:=ndNum x&&(if x.kind=1 then decide (x.data=⟨#[]⟩)&&dirMay x.ents else decide (x.data.size≤4096)&&decide (x.ents=[]))
def risesN:Tab→Bool
 | x::y::r=>decide (x.num<y.num)&&risesN (y::r)
 | _=>true
def tabMay (t:Tab):Bool:=risesN t&&t.all ndMay
def tabOf (X:Fs) (o:Int):Tab:=if 0≤o∧o<X.length then X.getD o.toNat [] else []
def findN (X:Fs) (r:Rf):Option Nd:=(tabOf X r.1).find? fun x=>decide (x.num=r.2.1)
def stMay (X:Fs):Bool:=decide (1≤X.length)&&decide (X.length≤24)&&X.all tabMay&&(match findN X rootR with | some x=>decide (x.kind=1) | none=>false)
def setT (X:Fs) (o:Int) (t:Tab):Fs:=if 0≤o∧o<X.length then X.set o.toNat t else X
structure Wk where
 m:Mb
 X:Fs
 user:Int
 c:Cl
 w0:List ByteArray
 w1:List ByteArray
abbrev HsV:=Vector UInt8 32
def once {α : Type} [DecidableEq α] (L:List α) (x : α):List α := if x∈L then L else L++[x]
def onceL {α : Type} [DecidableEq α] (L xs:List α):List α := xs.foldl once L
theorem onceL_app {α : Type} [DecidableEq α] {L xs ys:List α}:onceL L (xs++ys)=onceL (onceL L xs) ys:=by simp[onceL]
theorem onceL_nil {α : Type} [DecidableEq α] {L:List α}:onceL L []=L:=rfl
theorem onceL_one {α : Type} [DecidableEq α] {L:List α} {x : α}:onceL L [x]=once L x:=rfl
theorem onceL_take {α : Type} [DecidableEq α] {L xs:List α} {i:Nat} (hi:i<xs.length):onceL L (xs.take (i+1))=once (onceL L (xs.take i)) xs[i]:=by
 rw[YAa hi,onceL_app,onceL_one]
theorem mem_once {α : Type} [DecidableEq α] {L:List α} {x y : α}:y∈once L x↔y∈L∨y=x:=by
 unfold once;split
 ·rename_i h
  constructor
  ·exact .inl
  ·rintro (h1 | rfl) <;> assumption
 ·simp
theorem mem_onceL {α : Type} [DecidableEq α] {y : α}:∀ {xs L:List α},y∈onceL L xs↔y∈L∨y∈xs
 | [],L=>by simp[onceL]
 | x :: r, L => by
   show y∈onceL (once L x) r↔_;rw[mem_onceL,mem_once,YAW];exact or_assoc
theorem once_len {α : Type} [DecidableEq α] {L:List α} {x : α}:(once L x).length≤L.length+1:=by
 unfold once;split <;> simp
theorem onceL_len {α : Type} [DecidableEq α]:∀ {xs L:List α},(onceL L xs).length≤L.length+xs.length
 | [],L=>by simp[onceL]
 | x :: r, L => by
   have h1:=onceL_len (xs:=r) (L:=once L x);have h2:=once_len (L:=L) (x:=x);show (onceL (once L x) r).length≤_;simp only [YAP];omega
def chunk {α : Type} (n:Nat) (xs:List α):List (List α):=(List.range ((xs.length+n-1)/n)).map fun i=>(xs.drop (i*n)).take n
theorem chunk_len {α : Type} {n:Nat} {xs:List α}:(chunk n xs).length=(xs.length+n-1)/n:=by simp[chunk]
theorem chunk_at {α : Type} {n i:Nat} {xs:List α} (hi:i<(chunk n xs).length):(chunk n xs)[i]=(xs.drop (i*n)).take n:=by simp[chunk]
def nodeS (c:UInt8) (hs:List HsV):ByteArray:=bx ([c,UInt8.ofNat hs.length]++hs.flatMap (·.toList))
def leafS (c:List UInt8):ByteArray:=bx (66::c)
def treeB (d:ByteArray):List ByteArray:=(chunk 64 d.data.toList).map leafS
def treeI (d:ByteArray):List ByteArray:=(chunk 8 ((treeB d).map hashS)).map (nodeS 73)
def treeR (d:ByteArray):ByteArray:=nodeS 82 ((treeI d).map hashS)
def treeO (d:ByteArray):List ByteArray:=onceL [] (treeB d++treeI d++[treeR d])
theorem treeB_len {d:ByteArray}:(treeB d).length=(d.size+63)/64:=by
 unfold treeB;rw[YAR,chunk_len];rfl
theorem treeI_len {d:ByteArray}:(treeI d).length=((treeB d).length+7)/8:=by
 unfold treeI;rw[YAR,chunk_len,YAR];rfl
theorem nodeS_size {c:UInt8} {hs:List HsV}:(nodeS c hs).size=2+32*hs.length:=by
 unfold nodeS;rw[bx_size,YAO]
 have:(hs.flatMap (·.toList)).length=32*hs.length:=by
  induction hs with
  | nil=>rfl
  | cons h r ih=>rw[YAI,YAO,ih,YAP];simp;omega
 rw[this];rfl
theorem leafS_size {c:List UInt8}:(leafS c).size=1+c.length:=by unfold leafS;rw[bx_size];simp;omega
structure Ino where
 num:Int
 kind:Int
 mode:Int
 links:Int
 size:Int
 root:HsV
 deriving DecidableEq
def inodMay (x:Ino):Bool:=ndN x.num x.kind x.mode x.links&&decide (0≤x.size)&&decide (x.size≤if x.kind=1 then 0 else 4096)
def risesO:List Ino→Bool
 | x::y::r=>decide (x.num<y.num)&&risesO (y::r)
 | _=>true
def itabMay (ns:List Ino):Bool:=ns.all inodMay&&risesO ns
def inoBytes (x:Ino):List UInt8:=be x.num.toNat 1++be x.kind.toNat 1++be x.mode.toNat 1++be x.links.toNat 1++be x.size.toNat 2++x.root.toList
def itabBytes (ns:List Ino):List UInt8:=be 84 1++be ns.length 1++ns.flatMap inoBytes
def ndObjs (x:Nd):List ByteArray:=if x.kind=1 then [bx (putBytes x.ents)] else treeO x.data
def ndRoot (x:Nd):HsV:=if x.kind=1 then hashS (bx (putBytes x.ents)) else hashS (treeR x.data)
def inoOf (x:Nd):Ino:=⟨x.num,x.kind,x.mode,x.links,x.data.size,ndRoot x⟩
def tabText (t:Tab):ByteArray:=bx (itabBytes (t.map inoOf))
def tabObjs (t:Tab):List ByteArray:=t.flatMap ndObjs++[tabText t]
def buildH (X:Fs):List HsV:=X.map fun t=>hashS (tabText t)
def buildO (X:Fs):List ByteArray:=onceL [] (X.flatMap tabObjs)
def known (os:List ByteArray) (h:HsV):Option ByteArray:=os.find? fun d=>decide (d.size≤65536)&&decide (hashS d=h)
structure Ldr where
 want:List HsV
 bad:Bool
abbrev Kn:=HsV→Option ByteArray
def hv (l:List UInt8):HsV:=if h:l.length=32 then ⟨l.toArray,by simp[h]⟩ else Vector.replicate 32 0
def hsIn (l:List UInt8):List HsV:=(List.range (l.length/32)).map fun i=>hv ((l.drop (i*32)).take 32)
def isRow (c:UInt8) (many:Nat) (s:ByteArray):Bool:=decide (s.size=2+many*32)&&decide (s.data.toList.take 2=[c,UInt8.ofNat many])
def namedS (K:Kn) (c:UInt8) (l:Ldr) (h:HsV) (many:Nat):List HsV×Ldr:=
 match K h with
 | none=>([],⟨once l.want h,l.bad⟩)
 | some s=>if isRow c many s=true then (hsIn (s.data.toList.drop 2),l) else ([],⟨l.want,true⟩)
def innersS (K:Kn) (many:Nat):Ldr→Nat→List HsV→List HsV×Ldr
 | l,_,[]=>([],l)
 | l,i,h::r=>((namedS K 73 l h (min 8 (many-i*8))).1++(innersS K many (namedS K 73 l h (min 8 (many-i*8))).2 (i+1) r).1,(innersS K many (namedS K 73 l h (min 8 (many-i*8))).2 (i+1) r).2)
def isLeaf (n:Nat) (s:ByteArray):Bool:=decide (s.size=1+n)&&decide (s.data.toList.take 1=[66])
def leavesS (K:Kn) (size:Nat):Ldr→Nat→List HsV→List UInt8×Ldr
 | l,_,[]=>([],l)
 | l, i, h :: r => match K h with
   | none=>leavesS K size ⟨once l.want h,l.bad⟩ (i+1) r
   | some s=>if isLeaf (min 64 (size-i*64)) s=true then (s.data.toList.drop 1++(leavesS K size l (i+1) r).1,(leavesS K size l (i+1) r).2) else leavesS K size ⟨l.want,true⟩ (i+1) r
def Ldr.err (l:Ldr) (form none_:Int):Int:=if l.bad=true then form else if l.want=[] then 0 else none_
def Ldr.wants (l:Ldr):List HsV:=if l.bad=true then [] else l.want
def treeL (K:Kn) (root:HsV) (size:Int):ByteArray×List HsV×Int:=
 if size<0∨4096<size then (⟨#[]⟩,[],1200) else
 let n:=(size.toNat+63)/64
 let a:=namedS K 82 ⟨[],false⟩ root ((n+7)/8)
 if a.2.err 1200 1201≠0 then (⟨#[]⟩,a.2.wants,a.2.err 1200 1201) else
 let b:=innersS K n a.2 0 a.1
 if b.2.err 1200 1201≠0 then (⟨#[]⟩,b.2.wants,b.2.err 1200 1201) else
 let c:=leavesS K size.toNat b.2 0 b.1
 if c.2.err 1200 1201≠0 then (⟨#[]⟩,c.2.wants,c.2.err 1200 1201) else
 (bx c.1,[],0)
theorem rowTag {T T' b:Nat} {k:Kd} {s:Slc} {L:List k.Ty} {h:Heap} {c:Array Value} {f:Nat×Nat} (r:Row h T k s L) (e:h[b]? = some (.cells c T' f)) (hT:T'≠T):b∉own s:=fun hm=>by
 rcases r with ⟨rfl,_⟩ | ⟨b',zs,ea,_,_,eh⟩
 ·simp[own] at hm
 ·have:b=b':=by unfold own at hm;rw[ea] at hm;simpa using hm
  subst this;rw[e] at eh;simp only [Option.some.injEq,robj,Obj.cells.injEq] at eh;exact hT eh.2.1
theorem mkm_gen {k e:Kd} {h:Heap} {K:Nat→Heap→Prop} (hK:∀r h',r=h.size→Keep [] h h'→msm k e r [] 0 h'→h'.size=h.size+1→K r h'):mkm h K:=hK _ _ rfl keep_push get_push (by simp)
theorem lk_gen {k e:Kd} {r:Nat} {es:List (k.Ty×e.Ty×Nat)} {c:Nat} {key:k.Ty} {h:Heap} {K:Option e.Ty→Option (Heap→Prop)→Prop} (hm:msm k e r es c h) (hK:K (mfind k e key es) (some (msm k e r es c))):lk k e (some r) key h K:=⟨es,c,hm,hK⟩
theorem mu_gen {k e:Kd} {r:Nat} {es:List (k.Ty×e.Ty×Nat)} {c:Nat} {key:k.Ty} {v:e.Ty} {h:Heap} {K:Heap→Prop} (hm:msm k e r es c h) (hK:∀h' c',Keep [r] h h'→msm k e r (mput k e key v c es) c' h'→h'.size=h.size→K h'):mu k e (some r) key v h K:=
 ⟨r,es,c,rfl,hm,hK _ _ keep_set (get_set hm) (by simp)⟩
theorem msm_ne {k e:Kd} {r:Nat} {es:List (k.Ty×e.Ty×Nat)} {c:Nat} {h:Heap} (hm:msm k e r es c h) {b:Nat} {cs:Array Value} {T:Nat} {f:Nat×Nat} (eb:h[b]? = some (.cells cs T f)):r≠b:=fun hh=>by
 subst hh;unfold msm mobj at hm;rw[eb] at hm;simp at hm
theorem msm_out {k e:Kd} {r:Nat} {es:List (k.Ty×e.Ty×Nat)} {c:Nat} {h:Heap} (hm:msm k e r es c h) {T:Nat} {k':Kd} {s:Slc} {xs:List k'.Ty} (rr:Row h T k' s xs):r∉own s:=fun hh=>by
 rcases rr with ⟨e1,_⟩ | ⟨b,zs,e1,_,_,e4⟩
 ·rw[e1] at hh;simp[own] at hh
 ·have:r=b:=by unfold own at hh;rw[e1] at hh;simpa using hh
  exact msm_ne hm e4 this
theorem msm_lt {k e:Kd} {r:Nat} {es:List (k.Ty×e.Ty×Nat)} {c:Nat} {h:Heap} (hm:msm k e r es c h):r<h.size:=lt_of_some hm
theorem msm_keep {k e:Kd} {r:Nat} {es:List (k.Ty×e.Ty×Nat)} {c:Nat} {h h':Heap} {S:List Nat} (hm:msm k e r es c h) (kk:Keep S h h') (hn:r∉S):msm k e r es c h':=kk.get hm hn
def MapOf (k:Kd) (h:Heap) (m:Option Nat) (L:List k.Ty):Prop:=
 match m with
 | none=>L=[]
 | some r=>∃es c,msm k .b r es c h∧∀x,(mfind k .b x es=some true∧x∈L)∨(mfind k .b x es=none∧x∉L)
theorem MapOf.keep {k:Kd} {h h':Heap} {m:Option Nat} {L:List k.Ty} {S:List Nat} (a:MapOf k h m L) (kk:Keep S h h') (hn:∀r∈m.toList,r∉S):MapOf k h' m L:=by
 cases m with
 | none=>exact a
 | some r =>
   obtain ⟨es,c,e1,e2⟩:=a;exact ⟨es,c,msm_keep e1 kk (hn r (by simp)),e2⟩
theorem MapOf.add {k:Kd} (hk:k.pk=true) {h:Heap} {r c c':Nat} {es:List (k.Ty×Bool×Nat)} {L:List k.Ty} {y:k.Ty} (a:∀x,(mfind k .b x es=some true∧x∈L)∨(mfind k .b x es=none∧x∉L)) (hm:msm k .b r (mput k .b y true c es) c' h):MapOf k h (some r) (L++[y]):=by
 refine ⟨_,_,hm,fun x =>?_⟩;rw[mfind_put hk];by_cases e:k.beq x y=true
 ·rw[if_pos e];exact .inl ⟨rfl,by rw[(beq_eq hk).1 e];simp⟩
 ·rw[if_neg e];have ne:x≠y:=fun q=>e ((beq_eq hk).2 q);rcases a x with ⟨h1,h2⟩ | ⟨h1,h2⟩
  ·exact .inl ⟨h1,by simp[h2]⟩
  ·exact .inr ⟨h1,by simp[h2,ne]⟩
abbrev LsK:Kd := .ag (.pr .sl (.pr .m .un))
def lsFp (b:Nat) (s:Slc) (m:Option Nat):List Nat:=b::(own s++m.toList)
structure LsAt (h:Heap) (b:Nat) (s:Slc) (m:Option Nat) (L:List ByteArray):Prop where
 o:h[b]? = some (vobj t_object_List_string LsK (s,(m,())))
 r:Row h t_string .s s L
 m:MapOf .s h m L
theorem LsAt.keep {h h':Heap} {b:Nat} {s:Slc} {m:Option Nat} {L:List ByteArray} {S:List Nat} (i:LsAt h b s m L) (k:Keep S h h') (hn:∀q∈lsFp b s m,q∉S):LsAt h' b s m L:=
 ⟨k.get i.o (hn b (by simp[lsFp])),i.r.keep k fun q hq=>hn q (by simp[lsFp,hq]),i.m.keep k fun q hq=>hn q (by simp only [lsFp,YAW,YAV];exact .inr (.inr hq))⟩
theorem LsAt.keep0 {h h':Heap} {b:Nat} {s:Slc} {m:Option Nat} {L:List ByteArray} (i:LsAt h b s m L) (k:Keep [] h h'):LsAt h' b s m L:=i.keep k (by simp)
theorem LsAt.lt {h:Heap} {b:Nat} {s:Slc} {m:Option Nat} {L:List ByteArray} (i:LsAt h b s m L):∀q∈lsFp b s m,q<h.size:=fun q hq=>by
 simp only [lsFp,YAW,YAV] at hq;rcases hq with rfl | hq | hq
 ·exact lt_of_some i.o
 ·exact i.r.lt q hq
 ·cases hm:m with
  | none=>rw[hm] at hq;simp at hq
  | some r =>
    have:=i.m;rw[hm] at this hq;obtain ⟨es,c,e1,_⟩:=this;simp at hq;subst hq;exact msm_lt e1
theorem LsAt.new {h:Heap} {b:Nat} (e:h[b]? = some (vobj t_object_List_string LsK ((⟨none,0,0⟩,(none,())):LsK.Ty))):LsAt h b ⟨none,0,0⟩ none []:=⟨e,Row.nil,rfl⟩
theorem LsAt.off {h:Heap} {b:Nat} {s:Slc} {m:Option Nat} {L:List ByteArray} (i:LsAt h b s m L) {q:Nat} {cs:Array Value} {T:Nat} {f:Nat×Nat} (e:h[q]? = some (.cells cs T f)) (h1:T≠t_object_List_string) (h2:T≠t_string):q∉lsFp b s m:=fun hq=>by
 simp only [lsFp,YAW,YAV] at hq;rcases hq with rfl | hq | hq
 ·have:=i.o;rw[e] at this;unfold vobj at this;simp at this;exact h1 this.2.1
 ·exact rowTag i.r e h2 hq
 ·cases hm:m with
  | none=>rw[hm] at hq;simp at hq
  | some r =>
    have:=i.m;rw[hm] at this hq;obtain ⟨es,c,e1,_⟩:=this;simp at hq;subst hq;exact msm_ne e1 e rfl
theorem LsAt.offRow {h:Heap} {b:Nat} {s:Slc} {m:Option Nat} {L:List ByteArray} (i:LsAt h b s m L) {T:Nat} {k:Kd} {u:Slc} {xs:List k.Ty} (r:Row h T k u xs) (h1:T≠t_object_List_string) (h2:T≠t_string):∀q∈own u,q∉lsFp b s m:=fun q hq=>by
 rcases r with ⟨e1,_⟩ | ⟨b,zs,e1,_,_,e4⟩
 ·rw[e1] at hq;simp[own] at hq
 ·have:q=b:=by unfold own at hq;rw[e1] at hq;simpa using hq
  subst this;exact i.off e4 h1 h2
theorem ZAD.s {h:Heap} {b:Nat} {s:Slc} {m:Option Nat} {L:List ByteArray} {x:ByteArray} {K:Heap→Prop} (i:LsAt h b s m L) (hl:L.length≤100000)
 (hK:∀h' s' m',LsAt h' b s' m' (once L x)→Keep (lsFp b s m) h h'→(∀q∈lsFp b s' m',q∈lsFp b s m∨h.size≤q)→K h'):ZAD.C (some ⟨b,0⟩) x h K:=by
 apply ZAD.c;unfold ZAD.m;refine nck_go (ld_go (sm_fld i.o rfl (by decide)) ?_);refine jn_in (fun _ h1=>∃r,LsAt h1 b s (some r) L∧Keep [b] h h1∧(r∈m.toList∨h.size≤r)) ?_ ?_
 ·cases m with
  | none =>
    rw[if_pos (by rfl)];refine mkm_gen (k := .s) (e := .b) fun r h1 hr k1 e1 hs1=>nck_go ?_;have i1:=i.keep0 k1;refine st_fld (k' := .m) (n:=1) (x':=(s,(some r,()))) i1.o (by decide) rfl ?_;have hL:L=[]:=i.m;subst hL;refine ⟨r,⟨get_set i1.o,i1.r.keep keep_set ?_,⟨[],0,msm_keep e1 keep_set (by simp;exact msm_ne e1 i1.o),fun x => .inr ⟨rfl,by simp⟩⟩⟩,k1.then keep_set (by simp) (by simp),.inr (by omega)⟩;intro q hq hm;simp at hm;subst hm;exact rowTag i1.r i1.o (by decide) hq
  | some r =>
    rw[if_neg (by simp)];exact ⟨r,i,Keep.rfl,.inl (by simp)⟩
 ·rintro _ h1 ⟨r,i1,k1,hr⟩;refine nck_go (ld_go (sm_fld i1.o rfl (by decide)) ?_);obtain ⟨es,c,e1,e2⟩:=i1.m;refine lk_gen e1 ?_
  have hfp:∀q∈lsFp b s (some r),q∈lsFp b s m∨h.size≤q:=fun q hq=>by
   simp only [lsFp,YAW,YAV,Option.toList_some,YAY,or_false] at hq ⊢;rcases hq with h | h | rfl
   ·exact .inl (.inl h)
   ·exact .inl (.inr (.inl h))
   ·rcases hr with h | h
    ·exact .inl (.inr (.inr h))
    ·exact .inr h
  have kb:Keep (lsFp b s m) h h1:=k1.weak (by simp[lsFp]);refine jn_go ?_;rcases e2 x with ⟨f1,f2⟩ | ⟨f1,f2⟩
  ·rw[if_neg (by rw[f1];simp)];have:once L x=L:=by unfold once;rw[if_pos f2]
   rw[this] at hK;exact hK h1 s (some r) i1 kb hfp
  ·rw[if_pos (by rw[f1];simp)];have ho:once L x=L++[x]:=by unfold once;rw[if_neg f2]
   rw[ho] at hK;refine nck_go (ld_go (sm_fld i1.o rfl (by decide)) ?_);refine mu_gen e1 fun h2 c' k2 m2 hs2 =>?_;have o2:=k2.get i1.o (by simp;exact fun h=>msm_ne e1 i1.o h.symm);have r2:=i1.r.keep k2 (fun q hq hm=>by simp at hm;subst hm;exact msm_out e1 i1.r hq);refine nck_go (ld_go (sm_fld o2 rfl (by decide)) ?_);refine app2 (by_:=16) r2 rfl (by omega) fun s3 h3 k3 r3 o3=>nck_go ?_;have nb:b∉own s:=fun hq=>rowTag r2 o2 (by decide) hq;have nr:r∉own s:=msm_out m2 r2;have ob:=k3.get o2 nb;refine st_fld (k' := .sl) (n:=0) (x':=(s3,(some r,()))) ob (by decide) rfl ?_;have m3:=msm_keep m2 k3 nr;have hrb:r≠b:=msm_ne m3 ob;have nb3:b∉own s3:=fun hq=>rowTag r3 ob (by decide) hq;refine hK _ s3 (some r) ⟨get_set ob,r3.keep keep_set (fun q hq hm=>by simp at hm;subst hm;exact nb3 hq),MapOf.add rfl e2 (msm_keep m3 keep_set (by simpa using hrb))⟩ ?_ ?_
   ·have k12:Keep (lsFp b s m) h h2:=kb.then k2 (fun q hq _=>hq) (fun q hq hlt=>by simp at hq;subst hq;rcases hfp q (by simp[lsFp]) with h | h;exact h;omega);have k13:Keep (lsFp b s m) h h3:=k12.then k3 (fun q hq _=>hq) (fun q hq _=>by simp[lsFp,hq]);exact k13.then keep_set (fun q hq _=>hq) (fun q hq _=>by simp at hq;subst hq;simp[lsFp])
   ·intro q hq;simp only [lsFp,YAW,YAV,Option.toList_some,YAY,or_false] at hq;rcases hq with h | h | h
    ·exact .inl (by simp[lsFp,h])
    ·rcases o3 q h with h | h
     ·exact .inl (by simp[lsFp,h])
     ·right;have:=k1.1;omega
    ·exact hfp q (by simp[lsFp,h])
abbrev HK:Kd := .ar 32 .u8
def All2 {α β : Type} (R : α → β → Prop):List α → List β → Prop
 | [],[]=>True
 | a::la,b::lb=>R a b∧All2 R la lb
 | _,_=>False
theorem All2.len {α β : Type} {R : α → β → Prop}:∀ {la:List α} {lb:List β},All2 R la lb→la.length=lb.length
 | [],[],_=>rfl
 | _::_,_::_,h=>by simp[All2.len h.2]
theorem All2.mono {α β : Type} {R S : α → β → Prop} (f:∀a b,R a b→S a b):∀ {la:List α} {lb:List β},All2 R la lb→All2 S la lb
 | [],[],_=>trivial
 | _::_,_::_,h=>⟨f _ _ h.1,All2.mono f h.2⟩
theorem All2.monoM {α β : Type} {R S : α → β → Prop}:∀ {la:List α} {lb:List β},(∀a∈la,∀b∈lb,R a b→S a b)→All2 R la lb→All2 S la lb
 | [],[],_,_=>trivial
 | a::la,b::lb,f,h=>⟨f a (by simp) b (by simp) h.1,All2.monoM (fun x hx y hy=>f x (by simp[hx]) y (by simp[hy])) h.2⟩
theorem All2.at {α β : Type} {R : α → β → Prop}:∀ {la:List α} {lb:List β} {i:Nat} {a : α} {b : β},All2 R la lb→la[i]? = some a→lb[i]? = some b→R a b
 | a :: la, b :: lb, 0, _, _, h, h1, h2 => by
   simp only [List.getElem?_cons_zero,Option.some.injEq] at h1 h2;subst h1;subst h2;exact h.1
 | a::la,b::lb,i+1,_,_,h,h1,h2=>All2.at h.2 (by simpa using h1) (by simpa using h2)
theorem All2.app {α β : Type} {R : α → β → Prop}:∀ {la:List α} {lb:List β} {la':List α} {lb':List β},All2 R la lb→All2 R la' lb'→All2 R (la++la') (lb++lb')
 | [],[],_,_,_,h=>h
 | _::_,_::_,_,_,h,h'=>⟨h.1,All2.app h.2 h'⟩
theorem All2.getI {α β : Type} {R : α → β → Prop} {la:List α} {lb:List β} (h:All2 R la lb) {i:Nat} (h1:i<la.length) (h2:i<lb.length):R la[i] lb[i]:=h.at (YAL h1) (YAL h2)
theorem all2_nil {α β : Type} {R : α → β → Prop}:All2 R [] []:=trivial
abbrev MbK:Kd := .ag (.pr .i (.pr .sl .un))
abbrev NdK:Kd := .ag (.pr .i (.pr .i (.pr .i (.pr .i (.pr .s (.pr .sl .un))))))
abbrev StaK:Kd := .ag (.pr .sl .un)
structure MbAt (h:Heap) (v:MbK.Ty) (m:Mb):Prop where
 u:v.1=m.users
 g:∃gs,Seg .sl v.2.1 gs h∧All2 (fun s us=>Seg .i s us h∧us.length≤9223372036854775807) gs m.groups
abbrev NdV:=NdK.Ty
def vNum (v:NdV):Int:=v.1
def vKind (v:NdV):Int:=v.2.1
def vMode (v:NdV):Int:=v.2.2.1
def vLinks (v:NdV):Int:=v.2.2.2.1
def vData (v:NdV):ByteArray:=v.2.2.2.2.1
def vEnts (v:NdV):Slc:=v.2.2.2.2.2.1
structure NdAt (h:Heap) (v:NdV) (x:Nd):Prop where
 n:vNum v=x.num
 k:vKind v=x.kind
 m:vMode v=x.mode
 l:vLinks v=x.links
 d:vData v=x.data
 e:Seg DE (vEnts v) x.ents h
theorem NdAt.keep {h h':Heap} {v:NdV} {x:Nd} {S:List Nat} (a:NdAt h v x) (k:Keep S h h') (hn:∀b∈own (vEnts v),b∉S):NdAt h' v x:=⟨a.n,a.k,a.m,a.l,a.d,a.e.keep' k hn⟩
structure StW (h:Heap) (t0:Slc) (ss:List Slc) (vv:List (List NdV)) (X:Fs):Prop where
 t:Seg .sl t0 ss h
 r:All2 (fun s vs=>Seg NdK s vs h) ss vv
 n:All2 (All2 (NdAt h)) vv X
theorem StW.keep {h h':Heap} {t0:Slc} {ss:List Slc} {vv:List (List NdV)} {X:Fs} (w:StW h t0 ss vv X) (k:Keep [] h h'):StW h' t0 ss vv X:=
 ⟨w.t.keep (by decide) k,w.r.mono fun _ _ g=>g.keep (by decide) k,w.n.mono fun _ _ g=>g.mono fun _ _ a=>a.keep k (by simp)⟩
theorem MbAt.keep {h h':Heap} {v:MbK.Ty} {m:Mb} (a:MbAt h v m) (k:Keep [] h h'):MbAt h' v m:=by
 obtain ⟨gs,g1,g2⟩:=a.g;exact ⟨a.u,gs,g1.keep (by decide) k,g2.mono fun _ _ g=>⟨g.1.keep (by decide) k,g.2⟩⟩
theorem nd_f {l:Pl} {v:NdV} {h:Heap} (e:sm NdK l v h):sm .i (l.fld 0) (vNum v) h∧sm .i (l.fld 1) (vKind v) h∧sm .i (l.fld 2) (vMode v) h∧sm .i (l.fld 3) (vLinks v) h∧sm .s (l.fld 4) (vData v) h∧sm .sl (l.fld 5) (vEnts v) h:=
 ⟨sm_sub e (by decide) rfl,sm_sub e (by decide) rfl,sm_sub e (by decide) rfl,sm_sub e (by decide) rfl,sm_sub e (by decide) rfl,sm_sub e (by decide) rfl⟩
theorem risesI_iff:∀xs:List Int,risesI xs=true↔∀j,(h:j+1<xs.length)→xs[j]<xs[j+1]
 | []=>by simp[risesI]
 | [x]=>by simp[risesI]
 | x :: y :: r => by
   unfold risesI;rw[YAq,decide_eq_true_eq,risesI_iff (y::r)]
   constructor
   ·rintro ⟨h1,h2⟩ j hj
    cases j with
    | zero=>exact h1
    | succ j=>exact h2 j (by simpa using hj)
   ·intro h;exact ⟨h 0 (by simp),fun j hj=>h (j+1) (by simpa using hj)⟩
theorem ZB7.s {us:Slc} {xs:List Int} {n:Int} {h:Heap} {K:Bool→Heap→Prop} (g:Seg .i us xs h) (hl:xs.length≤9223372036854775807) (hK:K (grpMay xs n) h):ZB7.C us n h K:=by
 apply ZB7.c;unfold ZB7.m;have gl:=g.len;refine lp_go (fun (y:Int×Unit) (h1:Heap)=>h1=h∧∃t:Nat,y.1=t∧t≤xs.length∧(∀j,(hj:j<xs.length)→j<t→0≤xs[j]∧xs[j]<n∧(0<j→xs[j-1]'(by omega)<xs[j]))) (fun (y:Int×Unit) _=>xs.length-y.1.toNat) ?_ ?_
 ·exact ⟨rfl,0,rfl,YAp _,fun j _ h=>by omega⟩
 ·rintro ⟨(i:Int),_⟩ h1 ⟨rfl,t,e,ht,hall⟩;dsimp only at e ⊢;subst e;by_cases hlt:t<xs.length
  ·rw[if_pos (show decide ((t:Int)<(us.len:Int))=true from dT (by omega))];have hgx:xs[(t:Int).toNat]? = some xs[t]:=by simp[hlt]
   have bad:¬(0≤xs[t]∧xs[t]<n∧(0<t→xs[t-1]'(by omega)<xs[t]))→grpMay xs n=false:=by
    intro hb
    cases hm:grpMay xs n with
    | false=>rfl
    | true =>
      unfold grpMay at hm;simp only [YAq,List.all_eq_true,decide_eq_true_eq] at hm;refine absurd ⟨(hm.1.1 _ (YAM hlt)).1,(hm.1.1 _ (YAM hlt)).2,fun h0 =>?_⟩ hb;have:=(risesI_iff xs).1 hm.1.2 (t-1) (by omega);simpa[YAn h0] using this
   have hnext:(0≤xs[t]∧xs[t]<n∧(0<t→xs[t-1]'(by omega)<xs[t]))→∃t':Nat,w64 ((t:Int)+1)=t'∧t'≤xs.length∧t'=t+1∧(∀j,(hj:j<xs.length)→j<t'→0≤xs[j]∧xs[j]<n∧(0<j→xs[j-1]'(by omega)<xs[j])):=by
    intro hg;refine ⟨t+1,by rw[w64_id (by omega) (by omega)];omega,by omega,rfl,fun j hj hjt =>?_⟩;by_cases hje:j=t
    ·subst hje;exact hg
    ·exact hall j hj (by omega)
   refine jn_go ?_;refine seg_ix g (by omega) hgx rfl ?_;by_cases c1:xs[t]<0
   ·refine jn_at (true,()) h1 (by rw[if_pos (by simpa using c1)];exact ⟨by first | rfl | trivial,by first | rfl | trivial⟩) ?_;rw[if_pos (by rfl)];rw[bad (by rintro ⟨h,_⟩;omega)] at hK;exact hK
   by_cases c2:xs[t]≥n
   ·refine jn_at (true,()) h1 (by rw[if_neg (by simpa using c1),if_pos (by simpa using c2)];exact ⟨by first | rfl | trivial,by first | rfl | trivial⟩) ?_;rw[if_pos (by rfl)];rw[bad (by rintro ⟨_,h,_⟩;omega)] at hK;exact hK
   by_cases c3:0<t
   ·have hp:w64 ((t:Int)-1)=((t-1:Nat):Int):=w6 (by omega);have hgp:xs[((t-1:Nat):Int).toNat]? = some (xs[t-1]'(by omega)):=by rw[YAd,YAL]
    by_cases c4:xs[t]≤xs[t-1]'(by omega)
    ·refine jn_at (true,()) h1 ?_ ?_
     ·rw[if_neg (by simpa using c1),if_neg (by simpa using c2),if_pos (by simpa using c3),hp];refine seg_ix g (by omega) hgp rfl ?_;exact ⟨by simp[c4],by first | rfl | trivial⟩
     ·rw[if_pos (by rfl)];rw[bad (by rintro ⟨_,_,h⟩;have:=h c3;omega)] at hK;exact hK
    ·refine jn_at (false,()) h1 ?_ ?_
     ·rw[if_neg (by simpa using c1),if_neg (by simpa using c2),if_pos (by simpa using c3),hp];refine seg_ix g (by omega) hgp rfl ?_;exact ⟨by simp[c4],by first | rfl | trivial⟩
     ·rw[if_neg (by simp)];obtain ⟨t',e1,e2,e3,e4⟩:=hnext ⟨by omega,by omega,fun _=>by omega⟩;rw[e1];exact ⟨⟨by first | rfl | trivial,t',rfl,e2,e4⟩,by simp;omega⟩
   ·refine jn_at (false,()) h1 ?_ ?_
    ·rw[if_neg (by simpa using c1),if_neg (by simpa using c2),if_neg (by simp;omega)];exact ⟨by first | rfl | trivial,by first | rfl | trivial⟩
    ·rw[if_neg (by simp)];obtain ⟨t',e1,e2,e3,e4⟩:=hnext ⟨by omega,by omega,fun h=>absurd h c3⟩;rw[e1];exact ⟨⟨by first | rfl | trivial,t',rfl,e2,e4⟩,by simp;omega⟩
  ·rw[if_neg (show ¬decide ((t:Int)<(us.len:Int))=true by simp;omega)]
   have:grpMay xs n=decide ((us.len:Int)>0):=by
    have h1:(xs.all fun u=>decide (0≤u)&&decide (u<n))=true:=by
     rw[List.all_eq_true];intro u hu;obtain ⟨j,hj,rfl⟩:=List.mem_iff_getElem.1 hu;have:=hall j hj (by omega);simp[this.1,this.2.1]
    have h2:risesI xs=true:=(risesI_iff xs).2 fun j hj=>by
     have:=(hall (j+1) hj (by omega)).2.2 (by omega);simpa using this
    unfold grpMay;rw[h1,h2,gl]
    cases xs with
    | nil=>rfl
    | cons a b=>simp
   rw[←this];exact hK
theorem ZBh.s {us:Slc} {xs:List Int} {b:Nat} {v:MbK.Ty} {h:Heap} {K:Bool→Heap→Prop} (g:Seg .i us xs h) (hl:xs.length≤9223372036854775807) (e:h[b]? = some (vobj t_api_Members MbK v)) (hK:K (!grpMay xs v.1) h):ZBh.C us ⟨b,0⟩ h K:=by
 apply ZBh.c;unfold ZBh.m;obtain ⟨(u:Int),(gs:Slc),_⟩:=v;exact ⟨u,sm_fld e rfl (by decide),ZB7.s g hl hK⟩
theorem sadd_bb {a b:List UInt8} {K:ByteArray→Prop} (h:a.length+b.length≤9223372036854775807) (hK:K (bx (a++b))):sadd (bx a) (bx b) K:=by
 refine sadd_go (by rw[bx_size,bx_size];exact h) ?_;have:(⟨((bx a).data.toList++(bx b).data.toList).toArray⟩:ByteArray)=bx (a++b):=by simp[bx]
 rw[this];exact hK
theorem sm_frame {h h2:Heap} {b o T T2:Nat} {c:Array Value} {f f2:Nat×Nat} {k:Kd} {x:k.Ty} (e:h[b]? = some (.cells c T f)) (e2:h2[b]? = some (.cells c T2 f2)) (hs:sm k ⟨b,o⟩ x h):sm k ⟨b,o⟩ x h2:=by
 unfold sm rdCells at *;rw[e] at hs;rw[e2];exact hs
theorem s2b_seg {T:Nat} {d:ByteArray} {h:Heap} {K:Slc→Heap→Prop} (hK:∀s h',Keep [] h h'→Seg .u8 s d.data.toList h'→own s=[h.size]→s.len≤s.cap→h'.size=h.size+1→(∃c f,h'[h.size]? = some (.cells c T f))→K s h'):s2b T d h K:=by
 intro c hc _;have hl:d.size=d.data.toList.length:=rfl;have e2:(h.push (robj T .u8 (d.data.toList++List.replicate (c-d.size) (0:UInt8))))[h.size]? = some (robj T .u8 (d.data.toList++List.replicate (c-d.size) (0:UInt8))):=get_push;have r:Row (h.push (robj T .u8 (d.data.toList++List.replicate (c-d.size) (0:UInt8)))) T .u8 ⟨some ⟨h.size,0⟩,d.size,c⟩ d.data.toList:=Row.of_new e2 rfl rfl (by simp;omega);have g:=r.seg
 have e1:(h.push (.cells (d.data.toList.flatMap Kd.u8.cells++zeros .u8 (c-d.size)).toArray T (c,c+1)))[h.size]? = some (.cells ((d.data.toList++List.replicate (c-d.size) (0:UInt8)).flatMap Kd.u8.cells).toArray T (c,c+1)):=by
  rw[get_push,YAH];rfl
 refine hK _ _ keep_push ⟨rfl,fun i x hx =>?_,fun l hl' =>?_⟩ rfl hc (by simp) ⟨_,_,e1⟩
 ·obtain ⟨l,h1,h2⟩:=g.el i x hx
  cases h1
  exact ⟨_,rfl,sm_frame e2 e1 h2⟩
 ·cases hl'
  exact ⟨_,_,_,e1,YAp _⟩
theorem rd_lt {h:Heap} {l:Pl} {n:Nat} {cs:List Value} (e:rdCells h l n=some cs):∃c T f,h[l.b]? = some (.cells c T f)∧l.o+n≤c.size:=by
 unfold rdCells at e;split at e
 ·rename_i c T f he
  split at e
  ·exact ⟨c,T,f,he,by assumption⟩
  ·simp at e
 ·simp at e
theorem seg_takeB {k:Kd} {s:Slc} {xs:List k.Ty} {h:Heap} (g:Seg k s xs h) {n c:Nat} {w:Wd} (hn:n≤xs.length):Seg k (@Slc.mk s.a n c w) (xs.take n) h:=
 ⟨by rw[YAS];show n=_;omega,fun i x hx=>g.el i x (by
  by_cases hi:i<n
  ·rw[List.getElem?_take_of_lt hi] at hx;exact hx
  ·rw[List.getElem?_eq_none (by rw[YAS];omega)] at hx;simp at hx),g.blk⟩
theorem seg_preB {k:Kd} {s:Slc} {xs:List k.Ty} {h:Heap} {n sz:Nat} {K:Slc→Prop} (r:Seg k s xs h) (hc:s.len≤s.cap) (hn:n≤xs.length) (hK:∀s',own s'=own s→Seg k s' (xs.take n) h→K s'):slx s 0 (n:Int) (s.cap:Int) sz K:=by
 have hl:=r.len
 have e:(if (s.cap:Int).toNat=(0:Int).toNat then s.a else s.a.map fun l=>⟨l.b,l.o+(0:Int).toNat*sz⟩)=s.a:=by
  split
  ·rfl
  ·cases s.a <;> simp
 refine ⟨by omega,by omega,by omega,by omega,?_⟩;rw[e];refine hK _ (by unfold own;rfl) ?_;simp only [YAd,Int.toNat_zero,Nat.sub_zero];exact seg_takeB r hn
theorem seg_suf {k:Kd} {s:Slc} {xs:List k.Ty} {h:Heap} {m:Nat} {sz:Nat} {K:Slc→Prop} (g:Seg k s xs h) (hs:sz=k.size) (hc:s.len≤s.cap) (hm:m≤xs.length) (hK:∀s',Seg k s' (xs.drop m) h→s'.len≤s'.cap→(∀q∈own s',q∈own s)→K s'):slx s (m:Int) (s.len:Int) (s.cap:Int) sz K:=by
 subst hs;have hl:=g.len;refine ⟨by omega,by omega,by omega,by omega,hK _ ⟨?_,?_,?_⟩ ?_ ?_⟩
 ·simp;omega
 ·intro i x hx
  have hi:m+i<xs.length:=by
   by_cases h:m+i<xs.length
   ·exact h
   ·rw[List.getElem?_eq_none (by simp;omega)] at hx;simp at hx
  rw[List.getElem?_drop] at hx;obtain ⟨l,h1,h2⟩:=g.el (m+i) x hx;simp only [YAd];rw[if_neg (by omega),h1];refine ⟨_,rfl,?_⟩;show sm k ⟨l.b,l.o+m*k.size+i*k.size⟩ x h;have:l.o+m*k.size+i*k.size=l.o+(m+i)*k.size:=by rw[YAf];omega
  rw[this];exact h2
 ·intro l hl';simp only [YAd] at hl';by_cases hcm:s.cap=m
  ·rw[if_pos hcm] at hl';exact g.blk l hl'
  ·rw[if_neg hcm] at hl'
   cases ha:s.a with
   | none=>rw[ha] at hl';simp at hl'
   | some l0 =>
     rw[ha] at hl';simp only [Option.map_some,Option.some.injEq] at hl';subst hl'
     cases m with
     | zero =>
       obtain ⟨c,T,f,e1,e2⟩:=g.blk l0 ha;exact ⟨c,T,f,e1,by simpa using e2⟩
     | succ m =>
       obtain ⟨l,h1,h2⟩:=g.el m xs[m] (by simp);rw[ha] at h1
       cases h1
       obtain ⟨c,T,f,e1,e2⟩:=rd_lt h2;refine ⟨c,T,f,e1,?_⟩;show l0.o+(m+1)*k.size≤c.size;have:(m+1)*k.size=m*k.size+k.size:=by rw[YAf];omega
       have e2':l0.o+m*k.size+k.size≤c.size:=e2;omega
 ·show (s.len:Int).toNat-(m:Int).toNat≤(s.cap:Int).toNat-(m:Int).toNat;simp only [YAd];omega
 ·intro q hq;unfold own at hq ⊢;simp only [YAd] at hq;by_cases hcm:s.cap=m
  ·rw[if_pos hcm] at hq;exact hq
  ·rw[if_neg hcm] at hq
   cases ha:s.a with
   | none=>rw[ha] at hq;simp at hq
   | some l0=>rw[ha] at hq;simpa using hq
theorem ZBr.s {xs:Slc} {L:List (Kd.u8).Ty} {n:Nat} {h:Heap} {K:Slc→Heap→Prop} (g:Seg (Kd.u8) xs L h) (hc:xs.len≤xs.cap) (hn:0<n) (hn':n≤1000) (hl:L.length≤10000)
 (hK:∀s h' ss,Keep [] h h'→Row h' t_s_uint8 .sl s ss→All2 (fun u c=>Seg (Kd.u8) u c h) ss (chunk n L)→(∀q∈own s,h.size≤q)→(∀u∈ss,∀q∈own u,q∈own xs)→K s h'):ZBr.C xs n h K:=by
 apply ZBr.c;unfold ZBr.m;refine lp_go (fun (y:Slc×Slc×Unit) (h1:Heap)=>∃i ss,i≤(chunk n L).length∧Keep [] h h1∧Row h1 t_s_uint8 .sl y.1 ss∧(∀q∈own y.1,h.size≤q)∧All2 (fun u c=>Seg (Kd.u8) u c h) ss ((chunk n L).take i)∧Seg (Kd.u8) y.2.1 (L.drop (i*n)) h∧y.2.1.len≤y.2.1.cap∧(∀q∈own y.2.1,q∈own xs)∧∀u∈ss,∀q∈own u,q∈own xs) (fun (y:Slc×Slc×Unit) _=>y.2.1.len) ?_ ?_
 ·exact ⟨0,[],YAp _,Keep.rfl,Row.nil,by simp[own],trivial,by simpa using g,hc,fun q hq=>hq,by simp⟩
 ·rintro ⟨o,v,_⟩ h1 ⟨i,ss,hi,k1,r1,o1,a1,g1,c1,w1,u1⟩;dsimp only at r1 o1 g1 c1 w1 ⊢;have gl:=g1.len;rw[YAQ] at gl;have hcl:=chunk_len (n:=n) (xs:=L);have hdm:=Nat.div_add_mod (L.length+n-1) n;have hml:=Nat.mod_lt (L.length+n-1) hn;have hQb:(L.length+n-1)/n≤L.length+n-1:=Nat.div_le_self _ _;generalize hQ:(L.length+n-1)/n=Q at hcl hdm hQb;have al:=a1.len;rw[YAS] at al;by_cases h0:0<v.len
  ·rw[if_pos (by simpa using h0)]
   have hiQ:i<Q:=by
    by_cases hh:i<Q
    ·exact hh
    ·have:n*Q≤i*n:=by rw[YAj i n];exact YAk _ (by omega)
     omega
   have hm:mn2 (n:Int) (v.len:Int)=((min n v.len:Nat):Int):=by unfold mn2;split <;> omega
   rw[hm];refine seg_preB g1 c1 (by rw[YAQ];omega) fun s1 p1 g2 =>?_;refine app2 (by_:=24) r1 rfl (by omega) fun s3 h3 k3 r3 o3 =>?_;refine seg_suf g1 rfl c1 (by rw[YAQ];omega) fun s4 g4 c4 p4 =>?_;have kk:Keep [] h h3:=k1.new k3 o1
   have e4:(L.drop (i*n)).drop (min n v.len)=L.drop ((i+1)*n):=by
    rw[YAC,YAf,YAl];by_cases hnv:n≤v.len
    ·rw[YAh hnv]
    ·rw[YAi (by omega),YAE (by omega),YAE (by omega)]
   have e2:(L.drop (i*n)).take (min n v.len)=(chunk n L)[i]'(by omega):=by
    rw[chunk_at];by_cases hnv:n≤v.len
    ·rw[YAh hnv]
    ·rw[YAi (by omega),YAZ (by rw[YAQ];omega),YAZ (by rw[YAQ];omega)]
   rw[e4] at g4;rw[e2] at g2;have l4:=g4.len;rw[YAQ,YAf,YAl] at l4;refine ⟨⟨i+1,ss++[s1],by omega,kk,r3,fun q hq =>?_,?_,g4,c4,fun q hq=>w1 q (p4 q hq),fun u hu =>?_⟩,?_⟩
   ·rcases o3 q hq with h | h
    ·exact o1 q h
    ·have:=k1.1;omega
   ·rw[YAa (by omega)];exact a1.app (show All2 _ [s1] [_] from ⟨g2,trivial⟩)
   ·rcases List.mem_append.1 hu with h | h
    ·exact u1 u h
    ·rw[List.mem_singleton] at h;subst h;rw[p1];exact w1
   ·show s4.len<v.len;omega
  ·rw[if_neg (by simpa using h0)]
   have hiQ:i=Q:=by
    have:i*n≥L.length:=by omega
    by_cases hh:i<Q
    ·have h1:n*(i+1)≤n*Q:=YAk _ hh;rw[Nat.mul_add,Nat.mul_one,YAj n i] at h1;omega
    ·omega
   rw[YAZ (by omega)] at a1;exact hK o h1 ss k1 r1 a1 o1 u1
theorem ZAz.s {xs:Slc} {L:List (HK).Ty} {n:Nat} {h:Heap} {K:Slc→Heap→Prop} (g:Seg (HK) xs L h) (hc:xs.len≤xs.cap) (hn:0<n) (hn':n≤1000) (hl:L.length≤10000)
 (hK:∀s h' ss,Keep [] h h'→Row h' t_s_api_Hash .sl s ss→All2 (fun u c=>Seg (HK) u c h) ss (chunk n L)→(∀q∈own s,h.size≤q)→(∀u∈ss,∀q∈own u,q∈own xs)→K s h'):ZAz.C xs n h K:=by
 apply ZAz.c;unfold ZAz.m;refine lp_go (fun (y:Slc×Slc×Unit) (h1:Heap)=>∃i ss,i≤(chunk n L).length∧Keep [] h h1∧Row h1 t_s_api_Hash .sl y.1 ss∧(∀q∈own y.1,h.size≤q)∧All2 (fun u c=>Seg (HK) u c h) ss ((chunk n L).take i)∧Seg (HK) y.2.1 (L.drop (i*n)) h∧y.2.1.len≤y.2.1.cap∧(∀q∈own y.2.1,q∈own xs)∧∀u∈ss,∀q∈own u,q∈own xs) (fun (y:Slc×Slc×Unit) _=>y.2.1.len) ?_ ?_
 ·exact ⟨0,[],YAp _,Keep.rfl,Row.nil,by simp[own],trivial,by simpa using g,hc,fun q hq=>hq,by simp⟩
 ·rintro ⟨o,v,_⟩ h1 ⟨i,ss,hi,k1,r1,o1,a1,g1,c1,w1,u1⟩;dsimp only at r1 o1 g1 c1 w1 ⊢;have gl:=g1.len;rw[YAQ] at gl;have hcl:=chunk_len (n:=n) (xs:=L);have hdm:=Nat.div_add_mod (L.length+n-1) n;have hml:=Nat.mod_lt (L.length+n-1) hn;have hQb:(L.length+n-1)/n≤L.length+n-1:=Nat.div_le_self _ _;generalize hQ:(L.length+n-1)/n=Q at hcl hdm hQb;have al:=a1.len;rw[YAS] at al;by_cases h0:0<v.len
  ·rw[if_pos (by simpa using h0)]
   have hiQ:i<Q:=by
    by_cases hh:i<Q
    ·exact hh
    ·have:n*Q≤i*n:=by rw[YAj i n];exact YAk _ (by omega)
     omega
   have hm:mn2 (n:Int) (v.len:Int)=((min n v.len:Nat):Int):=by unfold mn2;split <;> omega
   rw[hm];refine seg_preB g1 c1 (by rw[YAQ];omega) fun s1 p1 g2 =>?_;refine app2 (by_:=24) r1 rfl (by omega) fun s3 h3 k3 r3 o3 =>?_;refine seg_suf g1 rfl c1 (by rw[YAQ];omega) fun s4 g4 c4 p4 =>?_;have kk:Keep [] h h3:=k1.new k3 o1
   have e4:(L.drop (i*n)).drop (min n v.len)=L.drop ((i+1)*n):=by
    rw[YAC,YAf,YAl];by_cases hnv:n≤v.len
    ·rw[YAh hnv]
    ·rw[YAi (by omega),YAE (by omega),YAE (by omega)]
   have e2:(L.drop (i*n)).take (min n v.len)=(chunk n L)[i]'(by omega):=by
    rw[chunk_at];by_cases hnv:n≤v.len
    ·rw[YAh hnv]
    ·rw[YAi (by omega),YAZ (by rw[YAQ];omega),YAZ (by rw[YAQ];omega)]
   rw[e4] at g4;rw[e2] at g2;have l4:=g4.len;rw[YAQ,YAf,YAl] at l4;refine ⟨⟨i+1,ss++[s1],by omega,kk,r3,fun q hq =>?_,?_,g4,c4,fun q hq=>w1 q (p4 q hq),fun u hu =>?_⟩,?_⟩
   ·rcases o3 q hq with h | h
    ·exact o1 q h
    ·have:=k1.1;omega
   ·rw[YAa (by omega)];exact a1.app (show All2 _ [s1] [_] from ⟨g2,trivial⟩)
   ·rcases List.mem_append.1 hu with h | h
    ·exact u1 u h
    ·rw[List.mem_singleton] at h;subst h;rw[p1];exact w1
   ·show s4.len<v.len;omega
  ·rw[if_neg (by simpa using h0)]
   have hiQ:i=Q:=by
    have:i*n≥L.length:=by omega
    by_cases hh:i<Q
    ·have h1:n*(i+1)≤n*Q:=YAk _ hh;rw[Nat.mul_add,Nat.mul_one,YAj n i] at h1;omega
    ·omega
   rw[YAZ (by omega)] at a1;exact hK o h1 ss k1 r1 a1 o1 u1
theorem flat32 {L:List HsV}:(L.flatMap (·.toList)).length=32*L.length:=by
 induction L with
 | nil=>rfl
 | cons h r ih=>rw[YAI,YAO,ih,YAP];simp;omega
theorem ZCg.s {c:UInt8} {hs:Slc} {L:List HsV} {h:Heap} {K:ByteArray→Heap→Prop} (g:Seg HK hs L h) (hl:L.length≤10000) (hK:∀h',Keep [] h h'→K (nodeS c L) h'):ZCg.C ⟨#[c]⟩ hs h K:=by
 apply ZCg.c;unfold ZCg.m;have gl:=g.len;rw[gl,u8I_nat];refine bs_gen fun b1 h1 hb1 k1 r1 hs1 =>?_;refine b2s_segq r1.seg fun q1 _ =>?_;show sadd (bx [c]) (bx [UInt8.ofNat L.length]) _;refine sadd_bb (by simp) ?_;have g1:=g.keep (by decide) k1;refine lp_go (fun (y:ByteArray×Int×Unit) (h2:Heap)=>∃n:Nat,y.2.1=n∧n≤L.length∧Keep [] h h2∧y.1=bx ([c]++[UInt8.ofNat L.length]++(L.take n).flatMap (·.toList))) (fun (y:ByteArray×Int×Unit) _=>L.length-y.2.1.toNat) ?_ ?_
 ·exact ⟨0,rfl,YAp _,k1,by simp⟩
 ·rintro ⟨(a:ByteArray),(i:Int),_⟩ h2 ⟨n,e,hn,k2,ea⟩;dsimp only at e ea ⊢;subst e;subst ea;by_cases hlt:n<L.length
  ·rw[if_pos (show decide ((n:Int)<(L.length:Int))=true from dT (by omega))];have hw:w64 ((n:Int)+1)=((n+1:Nat):Int):=w6 (by omega);rw[hw];refine seg_ix (g.keep (by decide) k2) (x:=L[n]) (by omega) (by simp[hlt]) rfl ?_;refine new_st_gen fun b3 h4 hb3 k4 e4 hs4 =>?_;refine ⟨by decide,by decide,by decide,?_⟩;have g4:Seg .u8 ⟨some ⟨b3,0⟩,32,32⟩ L[n].toList h4:=ar_seg e4;refine b2s_segq g4 fun q _ =>?_
   have fl:((L.take n).flatMap (·.toList)).length≤32*L.length:=by
    rw[flat32,YAS];omega
   refine sadd_bb (b:=L[n].toList) (by simp only [YAO,YAP,List.length_nil,Vector.length_toList];omega) ?_;refine ⟨⟨n+1,rfl,by omega,k2.n k4,?_⟩,by simp;omega⟩;rw[YAa hlt];simp only [YAH,YAI,YAJ,YAB,YAA]
  ·rw[if_neg (show ¬decide ((n:Int)<(L.length:Int))=true by simp;omega)];obtain rfl:n=L.length:=by omega
   rw[YAZ (YAg _)];exact hK h2 k2
theorem ZBX.s {all:Slc} {ss:List Slc} {cs:List (List (Kd.u8).Ty)} {wv:Value} {w:List (Kd.u8).Ty→ByteArray} {b:Nat} {s:Slc} {m:Option Nat} {L:List ByteArray} {h:Heap} {K:Slc→Heap→Prop}
 (ga:Seg .sl all ss h) (a:All2 (fun u c=>Seg (Kd.u8) u c h) ss cs) (i:LsAt h b s m L) (na:∀q∈own all,q∉lsFp b s m) (nu:∀u∈ss,∀q∈own u,q∉lsFp b s m) (hL:L.length+cs.length≤100000)
 (hw:∀u c h1 (Q:ByteArray→Heap→Prop),c∈cs→Seg (Kd.u8) u c h1→(∀h2,Keep [] h1 h2→Q (w c) h2)→callV Tryz.prog wv [Kd.sl.val u] .s h1 Q) (hz:∀c∈cs,(w c).size≤65536)
 (hK:∀o h' s' m',Row h' t_api_Hash HK o ((cs.map w).map hashS)→(∀q∈own o,h.size≤q)→LsAt h' b s' m' (onceL L (cs.map w))→Keep (lsFp b s m) h h'→(∀q∈lsFp b s' m',q∈lsFp b s m∨h.size≤q)→K o h'):ZBX.C (some ⟨b,0⟩) all wv h K:=by
 apply ZBX.c;unfold ZBX.m;have gl:=ga.len;have al:=a.len;refine lp_go (fun (y:Slc×Int×Unit) (h1:Heap)=>∃n s1 m1,y.2.1=((n:Nat):Int)∧n≤cs.length∧Row h1 t_api_Hash HK y.1 (((cs.take n).map w).map hashS)∧(∀q∈own y.1,h.size≤q)∧LsAt h1 b s1 m1 (onceL L ((cs.take n).map w))∧Keep (lsFp b s m) h h1∧∀q∈lsFp b s1 m1,q∈lsFp b s m∨h.size≤q) (fun (y:Slc×Int×Unit) _=>cs.length-y.2.1.toNat) ?_ ?_
 ·exact ⟨0,s,m,rfl,YAp _,by simpa using Row.nil,by simp[own],by rw[List.take_zero,YAU,onceL_nil];exact i,Keep.rfl,fun q hq => .inl hq⟩
 ·rintro ⟨(o:Slc),(j:Int),_⟩ h1 ⟨n,s1,m1,e,hn,r1,o1,i1,k1,f1⟩;dsimp only at e r1 o1 ⊢;subst e;by_cases hlt:n<cs.length
  ·rw[if_pos (show decide ((n:Int)<(all.len:Int))=true from dT (by omega))];have hwn:w64 ((n:Int)+1)=((n+1:Nat):Int):=w6 (by omega);rw[hwn];have hs:n<ss.length:=by omega
   refine seg_ix (ga.keep' k1 na) (x:=ss[n]) (by omega) (by simp[hs]) rfl ?_;have gu:=(a.getI hs hlt).keep' k1 (nu _ (YAM hs));have hz1:=hz _ (YAM hlt);refine hw _ _ _ _ (YAM hlt) gu fun h2 k2 =>?_;refine ZAV.s hz1 fun h3 k3 =>?_;refine new_st_gen fun b4 h5 hb4 k5 e5 hs5 =>?_;have e5:h5[b4]? = some (vobj t_api_Hash HK (hashS (w cs[n]))):=e5;have k15:Keep [] h1 h5:=(k2.n k3).n k5;have i5:=i1.keep0 k15;have hz15:h1.size≤h3.size:=(k2.n k3).1;have hz01:=k1.1;have hoL:=onceL_len (L:=L) (xs:=(cs.take n).map w);rw[YAR,YAS] at hoL;refine ZAD.s i5 (by omega) fun h6 s6 m6 i6 k6 f6 =>?_;have n4:b4∉lsFp b s1 m1:=i5.off e5 (by decide) (by decide);have e6:=k6.get e5 n4;refine ld_go (sm_all e6) ?_;have r5:=r1.keep k15 (by simp);have r6:=r5.keep k6 (i5.offRow r5 (by decide) (by decide));refine app2 (by_:=32) r6 rfl (by simp only [YAR,YAS];omega) fun s7 h7 k7 r7 o7 =>?_;have k06:Keep (lsFp b s m) h h6:=(k1.then k15 (fun q hq _=>hq) (by simp)).then k6 (fun q hq _=>hq) (fun q hq hlt=>by rcases f1 q hq with h | h;exact h;omega);have s16:=k15.1;have s56:=k6.1;refine ⟨⟨n+1,s6,m6,rfl,by omega,?_,?_,?_,?_,?_⟩,by simp;omega⟩
   ·rw[YAa hlt,YAT,YAT];exact r7
   ·intro q hq;rcases o7 q hq with h | h
    ·exact o1 q h
    ·have:=k06.1;omega
   ·have e8:onceL L ((cs.take (n+1)).map w)=once (onceL L ((cs.take n).map w)) (w cs[n]):=by
     rw[YAa hlt,YAT,onceL_app];rfl
    rw[e8];exact i6.keep k7 (fun q hq hm=>i6.offRow r6 (by decide) (by decide) q hm hq)
   ·exact k06.then k7 (fun q hq _=>hq) (fun q hq hlt=>by have:=o1 q hq;omega)
   ·intro q hq;rcases f6 q hq with h | h
    ·exact f1 q h
    ·right;omega
  ·rw[if_neg (show ¬decide ((n:Int)<(all.len:Int))=true by simp;omega)];obtain rfl:n=cs.length:=by omega
   rw[YAZ (YAg _)] at r1 i1;exact hK o h1 s1 m1 r1 o1 i1 k1 f1
theorem ZAu.s {all:Slc} {ss:List Slc} {cs:List (List (HK).Ty)} {wv:Value} {w:List (HK).Ty→ByteArray} {b:Nat} {s:Slc} {m:Option Nat} {L:List ByteArray} {h:Heap} {K:Slc→Heap→Prop}
 (ga:Seg .sl all ss h) (a:All2 (fun u c=>Seg (HK) u c h) ss cs) (i:LsAt h b s m L) (na:∀q∈own all,q∉lsFp b s m) (nu:∀u∈ss,∀q∈own u,q∉lsFp b s m) (hL:L.length+cs.length≤100000)
 (hw:∀u c h1 (Q:ByteArray→Heap→Prop),c∈cs→Seg (HK) u c h1→(∀h2,Keep [] h1 h2→Q (w c) h2)→callV Tryz.prog wv [Kd.sl.val u] .s h1 Q) (hz:∀c∈cs,(w c).size≤65536)
 (hK:∀o h' s' m',Row h' t_api_Hash HK o ((cs.map w).map hashS)→(∀q∈own o,h.size≤q)→LsAt h' b s' m' (onceL L (cs.map w))→Keep (lsFp b s m) h h'→(∀q∈lsFp b s' m',q∈lsFp b s m∨h.size≤q)→K o h'):ZAu.C (some ⟨b,0⟩) all wv h K:=by
 apply ZAu.c;unfold ZAu.m;have gl:=ga.len;have al:=a.len;refine lp_go (fun (y:Slc×Int×Unit) (h1:Heap)=>∃n s1 m1,y.2.1=((n:Nat):Int)∧n≤cs.length∧Row h1 t_api_Hash HK y.1 (((cs.take n).map w).map hashS)∧(∀q∈own y.1,h.size≤q)∧LsAt h1 b s1 m1 (onceL L ((cs.take n).map w))∧Keep (lsFp b s m) h h1∧∀q∈lsFp b s1 m1,q∈lsFp b s m∨h.size≤q) (fun (y:Slc×Int×Unit) _=>cs.length-y.2.1.toNat) ?_ ?_
 ·exact ⟨0,s,m,rfl,YAp _,by simpa using Row.nil,by simp[own],by rw[List.take_zero,YAU,onceL_nil];exact i,Keep.rfl,fun q hq => .inl hq⟩
 ·rintro ⟨(o:Slc),(j:Int),_⟩ h1 ⟨n,s1,m1,e,hn,r1,o1,i1,k1,f1⟩;dsimp only at e r1 o1 ⊢;subst e;by_cases hlt:n<cs.length
  ·rw[if_pos (show decide ((n:Int)<(all.len:Int))=true from dT (by omega))];have hwn:w64 ((n:Int)+1)=((n+1:Nat):Int):=w6 (by omega);rw[hwn];have hs:n<ss.length:=by omega
   refine seg_ix (ga.keep' k1 na) (x:=ss[n]) (by omega) (by simp[hs]) rfl ?_;have gu:=(a.getI hs hlt).keep' k1 (nu _ (YAM hs));have hz1:=hz _ (YAM hlt);refine hw _ _ _ _ (YAM hlt) gu fun h2 k2 =>?_;refine ZAV.s hz1 fun h3 k3 =>?_;refine new_st_gen fun b4 h5 hb4 k5 e5 hs5 =>?_;have e5:h5[b4]? = some (vobj t_api_Hash HK (hashS (w cs[n]))):=e5;have k15:Keep [] h1 h5:=(k2.n k3).n k5;have i5:=i1.keep0 k15;have hz15:h1.size≤h3.size:=(k2.n k3).1;have hz01:=k1.1;have hoL:=onceL_len (L:=L) (xs:=(cs.take n).map w);rw[YAR,YAS] at hoL;refine ZAD.s i5 (by omega) fun h6 s6 m6 i6 k6 f6 =>?_;have n4:b4∉lsFp b s1 m1:=i5.off e5 (by decide) (by decide);have e6:=k6.get e5 n4;refine ld_go (sm_all e6) ?_;have r5:=r1.keep k15 (by simp);have r6:=r5.keep k6 (i5.offRow r5 (by decide) (by decide));refine app2 (by_:=32) r6 rfl (by simp only [YAR,YAS];omega) fun s7 h7 k7 r7 o7 =>?_;have k06:Keep (lsFp b s m) h h6:=(k1.then k15 (fun q hq _=>hq) (by simp)).then k6 (fun q hq _=>hq) (fun q hq hlt=>by rcases f1 q hq with h | h;exact h;omega);have s16:=k15.1;have s56:=k6.1;refine ⟨⟨n+1,s6,m6,rfl,by omega,?_,?_,?_,?_,?_⟩,by simp;omega⟩
   ·rw[YAa hlt,YAT,YAT];exact r7
   ·intro q hq;rcases o7 q hq with h | h
    ·exact o1 q h
    ·have:=k06.1;omega
   ·have e8:onceL L ((cs.take (n+1)).map w)=once (onceL L ((cs.take n).map w)) (w cs[n]):=by
     rw[YAa hlt,YAT,onceL_app];rfl
    rw[e8];exact i6.keep k7 (fun q hq hm=>i6.offRow r6 (by decide) (by decide) q hm hq)
   ·exact k06.then k7 (fun q hq _=>hq) (fun q hq hlt=>by have:=o1 q hq;omega)
   ·intro q hq;rcases f6 q hq with h | h
    ·exact f1 q h
    ·right;omega
  ·rw[if_neg (show ¬decide ((n:Int)<(all.len:Int))=true by simp;omega)];obtain rfl:n=cs.length:=by omega
   rw[YAZ (YAg _)] at r1 i1;exact hK o h1 s1 m1 r1 o1 i1 k1 f1
theorem ZCL.s {u:Slc} {c:List UInt8} {h:Heap} {K:ByteArray→Heap→Prop} (g:Seg .u8 u c h) (hl:c.length≤1000000) (hK:∀h',Keep [] h h'→K (leafS c) h'):ZCL.C u h K:=by
 apply ZCL.c;unfold ZCL.m;refine b2s_segq g fun q _ =>?_;show sadd (bx [66]) (bx c) _;refine sadd_bb (by simp;omega) ?_;exact hK h Keep.rfl
theorem ZCI.s {u:Slc} {c:List HsV} {h:Heap} {K:ByteArray→Heap→Prop} (g:Seg HK u c h) (hl:c.length≤10000) (hK:∀h',Keep [] h h'→K (nodeS 73 c) h'):ZCI.C u h K:=by
 apply ZCI.c;unfold ZCI.m;exact ZCg.s g hl hK
theorem chunk_mem {α : Type} {n:Nat} {xs c:List α} (h:c∈chunk n xs):c.length≤n:=by
 obtain ⟨i,hi,rfl⟩:=List.mem_iff_getElem.1 h;rw[chunk_at,YAS];omega
theorem treeO_eq {d:ByteArray}:once (onceL (onceL [] (treeB d)) ((chunk 8 ((treeB d).map hashS)).map (nodeS 73))) (treeR d)=treeO d:=by
 have e:(chunk 8 ((treeB d).map hashS)).map (nodeS 73)=treeI d:=by unfold treeI;exact Eq.refl _
 rw[e];unfold treeO;rw[onceL_app,onceL_app,onceL_one]
theorem ZCt.s {d:ByteArray} {h:Heap} {K:Kd.Ty (.ar 32 .u8)→Slc→Int→Heap→Prop} (hd:d.size≤4096)
 (hK:∀o h',Keep [] h h'→Row h' t_string .s o (treeO d)→(∀q∈own o,h.size≤q)→K (hashS (treeR d)) o 0 h'):ZCt.C d h K:=by
 apply ZCt.c;unfold ZCt.m;refine new_gen fun b1 h1 hb1 k1 e1 hs1 =>?_;rw[if_neg (show ¬decide ((d.size:Int)>4096)=true by simp;omega)];refine new_gen fun b2 h3 hb2 k3 e3 hs3 =>?_;have i3:=LsAt.new e3;refine s2b_seg fun s1 h4 k4 g4 os1 c1 hs4 ho4 =>?_;have dl:d.data.toList.length=d.size:=rfl;refine ZBr.s g4 c1 (by decide) (by decide) (by omega) fun x2 h5 ss5 k5 r5 a5 o5 u5 =>?_;have i5:=(i3.keep0 k4).keep0 k5;obtain ⟨c4,f4,e4⟩:=ho4;have cl:(chunk 64 d.data.toList).length≤64:=by rw[chunk_len];omega
 have k15:Keep [] h h5:=((k1.n k3).n k4).n k5
 refine ZBX.s (cs:=chunk 64 d.data.toList) (w:=leafS) r5.seg (a5.mono fun _ _ g=>g.keep (by decide) k5) i5 (i5.offRow r5 (by decide) (by decide)) (fun u hu q hq=>by
  have:=u5 u hu q hq;rw[os1] at this;simp at this;subst this;exact i5.off (k5.g e4) (by decide) (by decide)) (by simp;omega) (fun u c h1 Q hc g hQ=>callV_go rfl (ZCL.s g (by have:=chunk_mem hc;omega) hQ)) (fun c hc=>by rw[leafS_size];have:=chunk_mem hc;omega) fun x3 h6 s6 m6 r6 o6 i6 k6 f6 =>?_
 have bl:(treeB d).length=(chunk 64 d.data.toList).length:=by unfold treeB;simp
 have lof:∀q∈lsFp b2 ⟨none,0,0⟩ none,h.size≤q:=fun q hq=>by simp[lsFp,own] at hq;have:=k1.1;omega
 have k06:Keep [] h h6:=k15.new k6 lof;have r6:Row h6 t_api_Hash HK x3 ((treeB d).map hashS):=r6;have i6:LsAt h6 b2 s6 m6 (onceL [] (treeB d)):=i6;refine ZAz.s r6.seg (by have:=r6.cap;have:=r6.len;omega) (by decide) (by decide) (by simp;omega) fun x4 h7 ss7 k7 r7 a7 o7 u7 =>?_;have i7:=i6.keep0 k7;have cl2:(chunk 8 ((treeB d).map hashS)).length≤8:=by rw[chunk_len];simp;omega
 have ol:=onceL_len (L:=([]:List ByteArray)) (xs:=treeB d);simp only [List.length_nil] at ol;have r67:=r6.keep k7 (by simp);refine ZAu.s (cs:=chunk 8 ((treeB d).map hashS)) (w:=nodeS 73) r7.seg (a7.mono fun _ _ g=>g.keep (by decide) k7) i7 (i7.offRow r7 (by decide) (by decide)) (fun u hu q hq=>i7.offRow r67 (by decide) (by decide) q (u7 u hu q hq)) (by omega) (fun u c h1 Q hc g hQ=>callV_go rfl (ZCI.s g (by have:=chunk_mem hc;omega) hQ)) (fun c hc=>by rw[nodeS_size];have:=chunk_mem hc;omega) fun x5 h8 s8 m8 r8 o8 i8 k8 f8 =>?_;have il:(treeI d).length=(chunk 8 ((treeB d).map hashS)).length:=by unfold treeI;simp
 have s56:=k6.1;have s67:=k7.1;have s78:=k8.1;have s05:=k15.1
 have lof6:∀q∈lsFp b2 s6 m6,h.size≤q:=fun q hq=>by
  rcases f6 q hq with h | h
  ·exact lof q h
  ·omega
 have k08:Keep [] h h8:=(k06.n k7).new k8 lof6;have r8:Row h8 t_api_Hash HK x5 ((treeI d).map hashS):=r8;refine ZCg.s (c:=82) r8.seg (by simp;omega) fun h9 k9 =>?_;have tz:(treeR d).size≤65536:=by unfold treeR;rw[nodeS_size];simp;omega
 refine ZAV.s (d:=treeR d) tz fun h10 k10 =>?_;refine new_st_gen fun b3 h12 hb3 k12 e12 hs12 =>?_;have e12:h12[b3]? = some (vobj t_api_Hash HK (hashS (treeR d))):=e12;have k812:Keep [] h8 h12:=(k9.n k10).n k12;have i12:=i8.keep0 k812;have ol2:=onceL_len (L:=onceL ([]:List ByteArray) (treeB d)) (xs:=(chunk 8 ((treeB d).map hashS)).map (nodeS 73));rw[YAR] at ol2;refine ZAD.s i12 (by omega) fun h13 s13 m13 i13 k13 f13 =>?_;have e13:=k13.get e12 (i12.off e12 (by decide) (by decide));refine ld_go (sm_all e13) (nck_go (ld_go (sm_fld i13.o rfl (by decide)) ?_))
 have k18:Keep [] h1 h12:=by
  have a:Keep [] h1 h5:=(k3.n k4).n k5;have lo1:∀q∈lsFp b2 ⟨none,0,0⟩ none,h1.size≤q:=fun q hq=>by simp[lsFp,own] at hq;omega
  have b:=(a.new k6 lo1).n k7;have a1:=a.1;exact (b.new k8 (fun q hq=>by rcases f6 q hq with h | h;exact lo1 q h;omega)).n k812
 have n1:b1∉lsFp b2 s8 m8:=fun hq=>by
  have lo1:∀q∈lsFp b2 ⟨none,0,0⟩ none,h1.size≤q:=fun q hq=>by simp[lsFp,own] at hq;omega
  have a1:=((k3.n k4).n k5).1;have a2:=k1.1;rcases f8 b1 hq with h | h
  ·rcases f6 b1 h with h | h
   ·have:=lo1 b1 h;omega
   ·omega
  ·omega
 have e1':h13[b1]? = some (vobj t_api_Hash HK (Vector.replicate 32 0)):=k13.get (k18.g e1) n1
 have lof8:∀q∈lsFp b2 s8 m8,h.size≤q:=fun q hq=>by
  rcases f8 q hq with h | h
  ·exact lof6 q h
  ·omega
 have k013:Keep [] h h13:=(k08.n k812).new k13 lof8;refine st_to e1' fun h14 k14 e14 hs14 =>?_;have n113:b1∉lsFp b2 s13 m13:=i13.off e1' (by decide) (by decide);have i14:=i13.keep k14 (fun q hq hm=>by simp at hm;subst hm;exact n113 hq);refine ⟨sm_fld i14.o rfl (by decide),ld_go (sm_all e14) ?_⟩;refine hK s13 h14 (k013.new k14 (by simp;omega)) (by rw[←treeO_eq];exact i14.r) fun q hq =>?_;rcases f13 q (by simp[lsFp,hq]) with h | h
 ·exact lof8 q h
 ·have:=k08.1;have:=k812.1;omega
end Go.Proofs.Tryz
