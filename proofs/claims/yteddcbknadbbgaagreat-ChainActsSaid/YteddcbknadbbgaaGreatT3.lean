import Derived.Test.YteddcbknadbbgaaGreatT2
import Derived.Test.YteddcbknadbbgaaGreatT1
import Derived.Shelf.Strings.Search2
import Derived.Lib.Overlaps
import Derived.Test.YteddcbknadbbgaaGreatModels3
import Derived.Test.YteddcbknadbbgaaGreatAl2
set_option linter.unusedVariables false
set_option linter.unusedSimpArgs false
set_option maxRecDepth 100000
open List renaming all_append → YAA, all_eq_false → YAB, all_eq_true → YAC, append_assoc → YAD, append_nil → YAE, drop_drop → YAF, drop_left' → YAG, flatMap_append → YAH, flatMap_cons → YAI, getD_eq_getElem?_getD → YAJ, getElem?_eq_getElem → YAK, getElem?_map → YAL, getElem_map → YAM, getElem_mem → YAN, length_append → YAO, length_cons → YAP, length_drop → YAQ, length_map → YAR, length_nil → YAS, length_take → YAT, map_append → YAU, replicate_succ → YAV, reverse_cons → YAW, take_left' → YAX, take_length → YAY, take_of_length_le → YAZ, take_succ_eq_append_getElem → YAa
open Int renaming toNat_natCast → YAb, toNat_of_nonneg → YAc
open Nat renaming le_refl → YAd, one_le_two_pow → YAe, pow_le_pow_right → YAf, pow_succ → YAg, zero_le → YAh
open Bool renaming and_eq_true → YAi, true_and → YAj
open Vector renaming length_toList → YAk
namespace Go.Proofs.Tryz
open Go Go.Al
theorem ZB8.s {v:MbK.Ty} {m:Mb} {h:Heap} {K:Bool→Heap→Prop} (a:MbAt h v m) (hK:∀h',Keep [] h h'→K (mbMay m) h'):ZB8.C v h K:=by
 apply ZB8.c;unfold ZB8.m;refine new_gen fun b h1 hb k1 e1 hs1 =>?_;have e1:h1[b]? = some (vobj t_api_Members MbK v):=e1;obtain ⟨(u:Int),(gs:Slc),_⟩:=v;obtain ⟨hu,gl,g1,g2⟩:=a;have hu:u=m.users:=hu;have g1:Seg .sl gs gl h:=g1;have glen:=g1.len;have l2:=g2.len;have s0:sm .i ((Pl.mk b 0).fld 0) u h1:=sm_fld e1 rfl (by decide);have s1:sm .sl ((Pl.mk b 0).fld 1) gs h1:=sm_fld e1 rfl (by decide);have hdef:mbMay m=(decide (1≤m.users)&&decide (m.users≤16)&&decide (m.groups.length≤8)&&m.groups.all fun g=>grpMay g m.users):=rfl;by_cases hc:1≤u∧u≤16∧m.groups.length≤8
 ·refine jn_at (false,()) h1 ?_ ?_
  ·refine ⟨_,s0,?_⟩;dsimp only;rw[if_neg (by simp;omega)];refine ⟨_,s0,?_⟩;dsimp only;rw[if_neg (by simp;omega)];refine ⟨_,s1,?_⟩;exact ⟨by simp;omega,by first | rfl | trivial⟩
  ·rw[if_neg (by simp)];refine ⟨_,s1,?_⟩;apply ZAU.c;unfold ZAU.m;apply ZAm.c;unfold ZAm.m;refine lp_go (fun (y:Int×Unit) (h2:Heap)=>h2=h1∧∃t:Nat,y.1=t∧t≤m.groups.length∧∀j,(hj:j<m.groups.length)→j<t→grpMay m.groups[j] m.users=true) (fun (y:Int×Unit) _=>m.groups.length-y.1.toNat) ?_ ?_
   ·exact ⟨rfl,0,rfl,YAh _,fun j _ h=>by omega⟩
   ·rintro ⟨(i:Int),_⟩ h2 ⟨rfl,t,e,ht,hall⟩;dsimp only at e ⊢;subst e;by_cases hlt:t<m.groups.length
    ·rw[if_pos (show decide ((t:Int)<(gs.len:Int))=true from dT (by omega))];have hgt:t<gl.length:=by omega
     refine seg_ix (g1.keep (by decide) k1) (x:=gl[t]) (by omega) (by simp[hgt]) rfl ?_;have gt:=g2.getI hgt hlt;refine callV_go (aa:=[Kd.sl.val gl[t],Kd.p.val (some ⟨b,0⟩)]) (by rfl) ?_;show ZBh.C gl[t] ⟨b,0⟩ h2 _;refine ZBh.s (gt.1.keep (by decide) k1) gt.2 e1 ?_;dsimp only;rw[hu]
     cases hg:grpMay m.groups[t] m.users with
     | false =>
       rw[if_pos (by rfl)]
       have:mbMay m=false:=by
        rw[hdef]
        have:(m.groups.all fun g=>grpMay g m.users)=false:=by
         cases ha:m.groups.all fun g=>grpMay g m.users with
         | false=>rfl
         | true=>rw[YAC] at ha;rw[ha _ (YAN hlt)] at hg;simp at hg
        rw[this];simp
       have hd:(!decide ((t:Int)≥0))=false:=by simp
       rw[hd,←this];exact hK _ k1
     | true =>
       rw[if_neg (by simp)];have hw:w64 ((t:Int)+1)=((t+1:Nat):Int):=w6 (by omega);rw[hw];refine ⟨⟨by first | rfl | trivial,t+1,rfl,by omega,fun j hj hjt =>?_⟩,by simp;omega⟩;by_cases hje:j=t
       ·subst hje;exact hg
       ·exact hall j hj (by omega)
    ·rw[if_neg (show ¬decide ((t:Int)<(gs.len:Int))=true by simp;omega)]
     have:mbMay m=true:=by
      rw[hdef]
      have:(m.groups.all fun g=>grpMay g m.users)=true:=by
       rw[YAC];intro x hx;obtain ⟨j,hj,rfl⟩:=List.mem_iff_getElem.1 hx;exact hall j hj (by omega)
      rw[this];simp;omega
     have hd:(!decide ((-1:Int)≥0))=true:=by simp
     rw[hd,←this];exact hK _ k1
 ·have hf:mbMay m=false:=by
   rw[hdef]
   cases hh:(decide (1≤m.users)&&decide (m.users≤16)&&decide (m.groups.length≤8)&&m.groups.all fun g=>grpMay g m.users) with
   | false=>rfl
   | true =>
     simp only [YAi,decide_eq_true_eq] at hh;exact absurd ⟨by omega,by omega,hh.1.2⟩ hc
  refine jn_at (true,()) h1 ?_ ?_
  ·refine ⟨_,s0,?_⟩;dsimp only;by_cases c1:u<1
   ·rw[if_pos (by simpa using c1)];exact ⟨by first | rfl | trivial,by first | rfl | trivial⟩
   rw[if_neg (by simpa using c1)];refine ⟨_,s0,?_⟩;dsimp only;by_cases c2:u>16
   ·rw[if_pos (by simpa using c2)];exact ⟨by first | rfl | trivial,by first | rfl | trivial⟩
   rw[if_neg (by simpa using c2)];refine ⟨_,s1,?_⟩;exact ⟨by simp;omega,by first | rfl | trivial⟩
  ·rw[if_pos (by rfl),←hf];exact hK _ k1
theorem mb_ok {m:Mb} (hm:mbMay m=true):1≤m.users∧m.users≤16∧m.groups.length≤8∧∀g∈m.groups,grpMay g m.users=true:=by
 unfold mbMay at hm;simp only [YAi,decide_eq_true_eq,YAC] at hm;exact ⟨hm.1.1.1,hm.1.1.2,hm.1.2,hm.2⟩
theorem ZAN.s {v:MbK.Ty} {m:Mb} {h:Heap} {K:Int→Heap→Prop} (a:MbAt h v m) (hm:mbMay m=true) (hK:∀h',Keep [] h h'→K (prins m) h'):ZAN.C v h K:=by
 apply ZAN.c;unfold ZAN.m;refine new_gen fun b h1 hb k1 e1 hs1 =>?_;have e1:h1[b]? = some (vobj t_api_Members MbK v):=e1;obtain ⟨q1,q2,q3,_⟩:=mb_ok hm;obtain ⟨(u:Int),(gs:Slc),_⟩:=v;obtain ⟨hu,gl,g1,g2⟩:=a;have hu:u=m.users:=hu;have g1:Seg .sl gs gl h:=g1;have glen:=g1.len;have l2:=g2.len;refine ld_go (k := .i) (x:=u) (sm_fld e1 rfl (by decide)) ?_;refine ld_go (k := .sl) (x:=gs) (sm_fld e1 rfl (by decide)) ?_
 have:w64 (u+(gs.len:Int))=prins m:=by
  unfold prins;rw[w64_id (by omega) (by omega)];omega
 rw[this];exact hK _ k1
theorem slices_Contains_int.s {us:Slc} {xs:List Int} {x:Int} {h:Heap} {K:Bool→Heap→Prop} (g:Seg .i us xs h) (hl:xs.length≤9223372036854775807) (hK:K (xs.contains x) h):ZAp.C us x h K:=by
 apply ZAp.c;unfold ZAp.m;apply ZBE.c;unfold ZBE.m;have gl:=g.len;refine lp_go (fun (y:Int×Unit) (h1:Heap)=>h1=h∧∃t:Nat,y.1=t∧t≤xs.length∧∀j,(hj:j<xs.length)→j<t→xs[j]≠x) (fun (y:Int×Unit) _=>xs.length-y.1.toNat) ?_ ?_
 ·exact ⟨rfl,0,rfl,YAh _,fun j _ h=>by omega⟩
 ·rintro ⟨(i:Int),_⟩ h1 ⟨rfl,t,e,ht,hall⟩;dsimp only at e ⊢;subst e;by_cases hlt:t<xs.length
  ·rw[if_pos (show decide ((t:Int)<(us.len:Int))=true from dT (by omega))];refine seg_ix g (x:=xs[t]) (by omega) (by simp[hlt]) rfl ?_;by_cases hx:x=xs[t]
   ·rw[if_pos (by simpa using hx)];have:xs.contains x=true:=by rw[List.contains_iff_mem,hx];exact YAN hlt
    have hd:decide ((t:Int)≥0)=true:=by simp
    rw[hd,←this];exact hK
   ·rw[if_neg (by simpa using hx)];have hw:w64 ((t:Int)+1)=((t+1:Nat):Int):=w6 (by omega);rw[hw];refine ⟨⟨by first | rfl | trivial,t+1,rfl,by omega,fun j hj hjt =>?_⟩,by simp;omega⟩;by_cases hje:j=t
    ·subst hje;exact fun e=>hx e.symm
    ·exact hall j hj (by omega)
  ·rw[if_neg (show ¬decide ((t:Int)<(us.len:Int))=true by simp;omega)]
   have:xs.contains x=false:=by
    cases hc:xs.contains x with
    | false=>rfl
    | true =>
      rw[List.contains_iff_mem] at hc;obtain ⟨j,hj,e⟩:=List.mem_iff_getElem.1 hc;exact absurd e (hall j hj (by omega))
   have hd:decide ((-1:Int)≥0)=false:=by simp
   rw[hd,←this];exact hK
theorem ZC9.s {v:MbK.Ty} {m:Mb} {u p:Int} {h:Heap} {K:Bool→Heap→Prop} (a:MbAt h v m) (hm:mbMay m=true) (hK:∀h',Keep [] h h'→K (mIn m u p) h'):ZC9.C v u p h K:=by
 apply ZC9.c;unfold ZC9.m;refine new_gen fun b h1 hb k1 e1 hs1 =>?_;have e1:h1[b]? = some (vobj t_api_Members MbK v):=e1;obtain ⟨q1,q2,q3,_⟩:=mb_ok hm;have a1:=a.keep k1;have hmem:sm MbK (Pl.mk b 0) v h1:=sm_all e1;have ae:=a;obtain ⟨hu,gl,g1,g2⟩:=a;have hu:v.1=m.users:=hu;have glen:=g1.len;have l2:=g2.len
 have s0:∀ {h'},Keep [] h1 h'→sm .i ((Pl.mk b 0).fld 0) m.users h':=fun k=>by
  have e:=k.g e1;obtain ⟨(u:Int),(gs:Slc),_⟩:=v;have hu:u=m.users:=hu;rw[←hu];exact sm_fld e rfl (by decide)
 have s1:∀ {h'},Keep [] h1 h'→sm .sl ((Pl.mk b 0).fld 1) v.2.1 h':=fun k=>by
  have e:=k.g e1;obtain ⟨(u:Int),(gs:Slc),_⟩:=v;exact sm_fld e rfl (by decide)
 refine jn_in (fun _ h2=>Keep [] h1 h2∧¬(u<0∨m.users≤u∨p<0∨prins m≤p)∧¬p<m.users) ?_ ?_
 ·refine jn_in (fun y h2=>Keep [] h1 h2∧y.1=decide (u<0∨m.users≤u∨p<0∨prins m≤p)) ?_ ?_
  ·by_cases c1:u<0
   ·rw[if_pos (by simpa using c1)];exact ⟨Keep.rfl,by simp[c1]⟩
   rw[if_neg (by simpa using c1)];refine ⟨_,s0 Keep.rfl,?_⟩;dsimp only;by_cases c2:u≥m.users
   ·rw[if_pos (by simpa using c2)];have c2':m.users≤u:=c2;exact ⟨Keep.rfl,by simp[c2']⟩
   rw[if_neg (by simpa using c2)];by_cases c3:p<0
   ·rw[if_pos (by simpa using c3)];exact ⟨Keep.rfl,by simp[c3]⟩
   rw[if_neg (by simpa using c3)];refine ⟨_,hmem,?_⟩;refine ZAN.s a1 hm fun h4 k4=>⟨k4,?_⟩;have c2':¬m.users≤u:=c2;simp[c1,c2',c3]
  ·rintro ⟨(g:Bool),_⟩ h2 ⟨k2,e⟩;dsimp only at e ⊢;subst e;by_cases hc:u<0∨m.users≤u∨p<0∨prins m≤p
   ·rw[if_pos (by simpa using hc)];have:mIn m u p=false:=by unfold mIn;rw[if_pos hc]
    rw[←this];exact hK _ (k1.n k2)
   ·rw[if_neg (by simpa using hc)];refine ⟨_,s0 k2,?_⟩;dsimp only;by_cases hp:p<m.users
    ·rw[if_pos (by simpa using hp)];have:mIn m u p=decide (u=p):=by unfold mIn;rw[if_neg hc,if_pos hp]
     rw[←this];exact hK _ (k1.n k2)
    ·rw[if_neg (by simpa using hp)];exact ⟨k2,hc,hp⟩
 ·rintro _ h2 ⟨k2,hc,hp⟩;refine ld_go (s1 k2) (ld_go (s0 k2) ?_);have hpr:prins m=m.users+m.groups.length:=rfl;have hpx:∃t:Nat,p-m.users=t∧t<m.groups.length:=⟨(p-m.users).toNat,by omega,by omega⟩;obtain ⟨t,ht,htl⟩:=hpx;rw[w64_id (by omega) (by omega),ht];have htg:t<gl.length:=by omega
  refine seg_ix ((g1.keep (by decide) k1).keep (by decide) k2) (x:=gl[t]) (by omega) (by simp[htg]) rfl ?_;have gt:=g2.getI htg htl;refine slices_Contains_int.s ((gt.1.keep (by decide) k1).keep (by decide) k2) gt.2 ?_
  have:mIn m u p=m.groups[t].contains u:=by
   unfold mIn;rw[if_neg hc,if_neg hp,ht,YAb,getD_at htl]
  rw[←this];exact hK _ (k1.n k2)
theorem ZBd.s {a b c d:Int} {h:Heap} {K:Bool→Heap→Prop} (hK:K (ndN a b c d) h):ZBd.C a b c d h K:=by
 apply ZBd.c;unfold ZBd.m;refine jn_at (ndN a b c d,()) h ?_ hK;unfold ndN;by_cases h1:1≤a
 ·by_cases h2:a≤32
  ·by_cases h3:b=0
   ·by_cases h4:c=0
    ·by_cases h5:1≤d <;> simp[h1,h2,h3,h4,h5]
    ·by_cases h4':c=1
     ·by_cases h5:1≤d <;> simp[h1,h2,h3,h4',h5]
     ·simp[h1,h2,h3,h4,h4']
   ·by_cases h3':b=1
    ·by_cases h4:c=0
     ·by_cases h5:1≤d <;> simp[h1,h2,h3',h4,h5]
     ·by_cases h4':c=1
      ·by_cases h5:1≤d <;> simp[h1,h2,h3',h4',h5]
      ·simp[h1,h2,h3',h4,h4']
    ·simp[h1,h2,h3,h3']
  ·simp[h1,h2]
 ·simp[h1]
theorem ZDE.s {l:Pl} {v:NdV} {x:Nd} {h:Heap} {K:Bool→Heap→Prop} (e:sm NdK l v h) (a:NdAt h v x) (hK:∀h',Keep [] h h'→K (ndMay x) h'):ZDE.C (some l) h K:=by
 apply ZDE.c;unfold ZDE.m;obtain ⟨f0,f1,f2,f3,f4,f5⟩:=nd_f e;rw[a.n] at f0;rw[a.k] at f1;rw[a.m] at f2;rw[a.l] at f3;rw[a.d] at f4;have gl:=a.e.len;refine nck_go (ld_go f0 (nck_go (ld_go f1 (nck_go (ld_go f2 (nck_go (ld_go f3 ?_)))))));refine ZBd.s ?_;have hd:ndMay x=(ndN x.num x.kind x.mode x.links&&(if x.kind=1 then decide (x.data=⟨#[]⟩)&&dirMay x.ents else decide (x.data.size≤4096)&&decide (x.ents=[]))):=rfl
 cases hn:ndN x.num x.kind x.mode x.links with
 | false =>
   rw[if_pos (by rfl)];have:ndMay x=false:=by rw[hd,hn];rfl
   rw[←this];exact hK h Keep.rfl
 | true =>
   rw[if_neg (by simp)];refine nck_go (ld_go f1 ?_);rw[hn,YAj] at hd;by_cases hk:x.kind=1
   ·rw[if_pos (by simpa using hk)];rw[if_pos hk] at hd;refine jn_in (fun y h'=>y.1=ndMay x∧Keep [] h h') ?_ ?_
    ·refine nck_go (ld_go f4 ?_);by_cases hdt:x.data=⟨#[]⟩
     ·rw[if_pos (by simp[hdt])];refine nck_go (ld_go f5 ?_);refine ZDT.s a.e fun h3 k3=>⟨?_,k3⟩;rw[hd];simp[hdt]
     ·rw[if_neg (by simp[hdt])];exact ⟨by rw[hd];simp[hdt],Keep.rfl⟩
    ·rintro ⟨(b:Bool),_⟩ h2 ⟨e2,k2⟩;dsimp only at e2 ⊢;rw[e2];exact hK h2 k2
   ·rw[if_neg (by simpa using hk)];rw[if_neg hk] at hd;refine jn_at (ndMay x,()) h ?_ (hK h Keep.rfl);refine nck_go (ld_go f4 ?_);by_cases hs:x.data.size≤4096
    ·rw[if_pos (by simp;omega)];refine nck_go (ld_go f5 ?_);refine ⟨?_,by first | rfl | trivial⟩;rw[hd,gl]
     have:decide ((x.ents.length:Int)=0)=decide (x.ents=[]):=by
      rw[decide_eq_decide]
      cases x.ents with
      | nil=>simp
      | cons a b=>simp;omega
     rw[this];simp[hs]
    ·rw[if_neg (by simp;omega)];exact ⟨by rw[hd];simp[hs],by first | rfl | trivial⟩
abbrev numV:Value := .func (.func ZAe.n) #[] #[]
theorem ZAe.s {v:NdV} {h:Heap} {K:Int→Heap→Prop} (hK:∀h',Keep [] h h'→K (vNum v) h'):ZAe.C v h K:=by
 apply ZAe.c;unfold ZAe.m;refine new_gen fun b h1 hb k1 e1 hs1 =>?_;have e1:h1[b]? = some (vobj t_api_Node NdK v):=e1;exact ld_go (nd_f (sm_all e1)).1 (hK h1 k1)
def risesV:List NdV→Bool
 | x::y::r=>decide (vNum x<vNum y)&&risesV (y::r)
 | _=>true
theorem risesV_iff:∀xs:List NdV,risesV xs=true↔∀j,(h:j+1<xs.length)→vNum xs[j]<vNum xs[j+1]
 | []=>by simp[risesV]
 | [x]=>by simp[risesV]
 | x :: y :: r => by
   unfold risesV;rw[YAi,decide_eq_true_eq,risesV_iff (y::r)]
   constructor
   ·rintro ⟨h1,h2⟩ j hj
    cases j with
    | zero=>exact h1
    | succ j=>exact h2 j (by simpa using hj)
   ·intro h;exact ⟨h 0 (by simp),fun j hj=>h (j+1) (by simpa using hj)⟩
theorem risesV_eq {h:Heap}:∀ {vs:List NdV} {xs:Tab},All2 (NdAt h) vs xs→risesV vs=risesN xs
 | [],[],_=>rfl
 | [v],[x],_=>rfl
 | v :: w :: r, x :: y :: q, a => by
   unfold risesV risesN;rw[a.1.n,a.2.1.n,risesV_eq a.2]
 | [_],_::_::_,a=>by simp[All2] at a
 | _::_::_,[_],a=>by simp[All2] at a
theorem risesV_lt {xs:List NdV} (hr:risesV xs=true) {i:Nat}:∀ {j:Nat},(hij:i<j)→(hj:j<xs.length)→vNum (xs[i]'(by omega))<vNum xs[j]
 | 0,hij,_=>by omega
 | j + 1, hij, hj => by
   have h1:=(risesV_iff xs).1 hr j hj;by_cases e:i=j
   ·subst e;exact h1
   ·have:=risesV_lt hr (i:=i) (j:=j) (by omega) (by omega);omega
theorem dir_RisingN.s {s:Slc} {vs:List NdV} {h:Heap} {K:Bool→Heap→Prop} (g:Seg NdK s vs h) (hl:vs.length≤9223372036854775807)
 (hK:∀h',Keep [] h h'→K (risesV vs) h'):ZAw.C s numV h K:=by
 apply ZAw.c;unfold ZAw.m;have hlen:=g.len;refine lp_go (fun (y:Int×Unit) (h1:Heap)=>∃t:Nat,y.1=(t:Int)+1∧(t+1≤vs.length∨t=0)∧Keep [] h h1∧∀j,(hj:j+1<vs.length)→j<t→vNum vs[j]<vNum vs[j+1]) (fun (y:Int×Unit) _=>vs.length-y.1.toNat) ?_ ?_
 ·exact ⟨0,rfl,.inr rfl,Keep.rfl,fun j _ h=>by omega⟩
 ·rintro ⟨(i:Int),_⟩ h1 ⟨t,e,ht,k1,hall⟩;dsimp only at e ⊢;subst e;by_cases hlt:t+1<vs.length
  ·rw[if_pos (show decide ((t:Int)+1<(s.len:Int))=true from dT (by omega))];have hw:w64 ((t:Int)+1+1)=((t+1:Nat):Int)+1:=w6 (by omega);have hw1:w64 ((t:Int)+1-1)=(t:Int):=w6 (by omega);rw[hw,hw1];have g1:=g.keep (by decide) k1;have hlt0:t<vs.length:=by omega
   obtain ⟨l0,hl0,hx0⟩:=seg_at g1 (i:=t) hlt0;obtain ⟨l1,hl1,hx1⟩:=seg_at g1 (i:=t+1) hlt;refine ⟨l0,hl0,by omega,by omega,vs[t],by rw[YAb];exact hx0,l1,hl1,by omega,by omega,vs[t+1],?_,?_⟩
   ·rw[show ((t:Int)+1).toNat=t+1 by omega];exact hx1
   refine callV_go (aa:=[NdK.val vs[t]]) (by rfl) ?_;show ZAe.C vs[t] h1 _;refine ZAe.s fun h2 k2 =>?_;refine ⟨by rw[show ((t:Int)+1).toNat=t+1 by omega];exact sm_keep' hx1 k2 (by simp),?_⟩;refine callV_go (aa:=[NdK.val vs[t+1]]) (by rfl) ?_;show ZAe.C vs[t+1] h2 _;refine ZAe.s fun h3 k3 =>?_;have k13:=(k1.n k2).n k3;by_cases hs:vNum vs[t]<vNum vs[t+1]
   ·rw[if_neg (show ¬decide (vNum vs[t]≥vNum vs[t+1])=true by simp;omega)];refine ⟨⟨t+1,rfl,by omega,k13,fun j hj hjt =>?_⟩,by simp;omega⟩;by_cases e:j=t
    ·subst e;exact hs
    ·exact hall j hj (by omega)
   ·rw[if_pos (show decide (vNum vs[t]≥vNum vs[t+1])=true from dT (by omega))]
    have:risesV vs=false:=by
     cases hr:risesV vs with
     | false=>rfl
     | true=>exact absurd ((risesV_iff vs).1 hr t hlt) hs
    rw[←this];exact hK _ k13
  ·rw[if_neg (show ¬decide ((t:Int)+1<(s.len:Int))=true by simp;omega)];have:risesV vs=true:=(risesV_iff vs).2 fun j hj=>hall j hj (by omega);rw[←this];exact hK _ k1
def cmpI (x y:Int):Int:=if x<y then -1 else if x>y then 1 else 0
theorem cmp_CompareI.s {x y:Int} {h:Heap} {K:Int→Heap→Prop} (hK:K (cmpI x y) h):ZCT.C x y h K:=by
 apply ZCT.c;unfold ZCT.m;refine ZCE.c _ ?_;unfold ZCE.m;refine ZCE.c _ ?_;unfold ZCE.m;dsimp only;rw[if_neg (by simp),if_neg (by simp)];unfold cmpI at hK;by_cases h1:x<y
 ·rw[if_pos (by simpa using h1)];rw[if_pos h1] at hK;exact hK
 ·rw[if_neg (by simpa using h1)];rw[if_neg h1] at hK;by_cases h2:x>y
  ·rw[if_pos (by simpa using h2)];rw[if_pos h2] at hK;exact hK
  ·rw[if_neg (by simpa using h2)];rw[if_neg h2] at hK;exact hK
theorem dir_PlaceN_c1.s {v:NdV} {k:Int} {b:Nat} {h:Heap} {K:Int→Heap→Prop} (hb:h[b]? = some (vobj t_func_api_Node_int .f numV)) (hK:∀h',Keep [] h h'→K (cmpI (vNum v) k) h'):ZAg.C v k ⟨b,0⟩ h K:=by
 apply ZAg.c;unfold ZAg.m;refine new_gen fun b1 h1 hb1 k1 e1 hs1 =>?_;have e1:h1[b1]? = some (vobj t_api_Node NdK v):=e1;refine ld_go (sm_all (k1.g hb)) (ld_go (sm_all e1) ?_);refine callV_go (aa:=[NdK.val v]) (by rfl) ?_;show ZAe.C v h1 _;refine ZAe.s fun h2 k2 =>?_;exact cmp_CompareI.s (hK _ (k1.n k2))
def foundV (vs:List NdV) (k:Int) (i:Nat):Bool:=match vs[i]? with | some v=>decide (vNum v=k) | none=>false
theorem dir_PlaceN.s {s:Slc} {xs:List NdV} {k:Int} {h:Heap} {K:Int→Bool→Heap→Prop} (g:Seg NdK s xs h) (hl:xs.length≤2305843009213693952)
 (hK:∀(i:Nat) h',Keep [] h h'→i≤xs.length→(risesV xs=true→(∀j,(hj:j<xs.length)→j<i→vNum xs[j]<k)∧∀j,(hj:j<xs.length)→i≤j→¬vNum xs[j]<k)→K i (foundV xs k i) h'):ZA0.C s k numV h K:=by
 apply ZA0.c;unfold ZA0.m;refine new_gen fun b h0 hbs k0 hb hs1 =>?_;have hb:h0[b]? = some (vobj t_func_api_Node_int .f numV):=hb;apply ZAF.c;unfold ZAF.m;have hlen:=g.len;refine lp_go (fun (y:Int×Int×Unit) (h1:Heap)=>0≤y.1∧y.1≤y.2.1∧y.2.1≤xs.length∧Keep [] h0 h1∧(risesV xs=true→(∀j,(hj:j<xs.length)→(j:Int)<y.1→vNum xs[j]<k)∧∀j,(hj:j<xs.length)→y.2.1≤(j:Int)→¬vNum xs[j]<k)) (fun (y:Int×Int×Unit) _=>(y.2.1-y.1).toNat) ?_ ?_
 ·exact ⟨by simp,by rw[hlen];simp,by rw[hlen];simp,Keep.rfl,fun _=>⟨fun j hj hlt=>by dsimp only at hlt;omega,fun j hj hlt=>by dsimp only at hlt;omega⟩⟩
 ·rintro ⟨(i:Int),(j:Int),_⟩ h1 ⟨i0,i1,i2,k1,hall⟩;dsimp only at *;have g1:=g.keep (by decide) (k0.n k1);have hb1:=k1.g hb;obtain ⟨i,rfl⟩:∃t:Nat,i=t:=⟨i.toNat,by omega⟩;obtain ⟨j,rfl⟩:∃t:Nat,j=t:=⟨j.toNat,by omega⟩;split
  ·rename_i hlt
   have hlt:i<j:=by
    have:(i:Int)<j:=by simpa using hlt
    omega
   rw[mid_eq (by omega)];have hm:(i+j)/2<xs.length:=by omega
   have hm1:i≤(i+j)/2:=by omega
   have hm2:(i+j)/2<j:=by omega
   generalize (i+j)/2=m at *;refine ⟨fun y h6=>(0≤y.1∧y.1≤y.2.1∧y.2.1≤xs.length∧Keep [] h0 h6∧(risesV xs=true→(∀j,(hj:j<xs.length)→(j:Int)<y.1→vNum xs[j]<k)∧∀j,(hj:j<xs.length)→y.2.1≤(j:Int)→¬vNum xs[j]<k))∧(y.2.1-y.1).toNat<((j:Int)-(i:Int)).toNat,?_,fun y h6 hh=>hh⟩;refine ⟨by decide,?_⟩;refine seg_ix (x:=xs[m]) g1 (by omega) (by simp[hm]) rfl ?_;refine callV_go (aa:=[NdK.val xs[m],Kd.i.val k,Kd.p.val (some ⟨b,0⟩)]) (by rfl) ?_;show ZAg.C xs[m] k ⟨b,0⟩ h1 _;refine dir_PlaceN_c1.s hb1 fun h2 k2 =>?_;have k12:=k1.n k2;refine jn_go ?_;have hw:w64 ((m:Int)+1)=(m:Int)+1:=w64_id (by omega) (by omega);rw[hw];by_cases hs:vNum xs[m]<k
   ·have:cmpI (vNum xs[m]) k<0:=by unfold cmpI;rw[if_pos hs];decide
    rw[if_pos (by simpa using this)];refine ⟨⟨show (0:Int)≤(m:Int)+1 by omega,show (m:Int)+1≤(j:Int) by omega,show (j:Int)≤xs.length by omega,k12,fun hr=>⟨fun q hq hlt =>?_,(hall hr).2⟩⟩,show ((j:Int)-((m:Int)+1)).toNat<((j:Int)-(i:Int)).toNat by omega⟩;by_cases e:q=m
    ·subst e;exact hs
    ·have hlt:(q:Int)<(m:Int)+1:=hlt;have:=risesV_lt hr (i:=q) (j:=m) (by omega) hm;omega
   ·have:¬cmpI (vNum xs[m]) k<0:=by unfold cmpI;rw[if_neg hs];split <;> decide
    rw[if_neg (by simpa using this)];refine ⟨⟨show (0:Int)≤(i:Int) by omega,show (i:Int)≤(m:Int) by omega,show (m:Int)≤xs.length by omega,k12,fun hr=>⟨(hall hr).1,fun q hq hle =>?_⟩⟩,show ((m:Int)-(i:Int)).toNat<((j:Int)-(i:Int)).toNat by omega⟩;by_cases e:q=m
    ·subst e;exact hs
    ·have hle:(m:Int)≤(q:Int):=hle;have:=risesV_lt hr (i:=m) (j:=q) (by omega) hq;omega
  ·rename_i hge
   have hge:¬i<j:=by
    have:¬(i:Int)<j:=by simpa using hge
    omega
   have hij:i=j:=by omega
   subst hij;have hlb:risesV xs=true→(∀j,(hj:j<xs.length)→j<i→vNum xs[j]<k)∧∀j,(hj:j<xs.length)→i≤j→¬vNum xs[j]<k:=fun hr=>⟨fun q hq hlt=>(hall hr).1 q hq (by omega),fun q hq hle=>(hall hr).2 q hq (by omega)⟩;refine jn_is ((i:Int),(foundV xs k i,())) (fun h6=>Keep [] h0 h6) ?_ fun h6 k6=>hK i _ (k0.n k6) (by omega) hlb;by_cases hi:i<xs.length
   ·rw[if_pos (by rw[hlen];simpa using hi)];refine seg_ix (x:=xs[i]) g1 (by omega) (by simp[hi]) rfl ?_;refine callV_go (aa:=[NdK.val xs[i],Kd.i.val k,Kd.p.val (some ⟨b,0⟩)]) (by rfl) ?_;show ZAg.C xs[i] k ⟨b,0⟩ h1 _;refine dir_PlaceN_c1.s hb1 fun h2 k2 =>?_;refine ⟨?_,k1.n k2⟩
    have:decide (cmpI (vNum xs[i]) k=0)=foundV xs k i:=by
     unfold foundV cmpI;simp only [hi,YAK];rw[decide_eq_decide];split
     ·omega
     ·split <;> omega
    rw[this]
   ·rw[if_neg (by rw[hlen];simpa using hi)];refine ⟨?_,k1⟩;have:foundV xs k i=false:=by unfold foundV;rw[List.getElem?_eq_none (by omega)]
    rw[this]
theorem ZAO.s {h:Heap} {w:Nat} {s:Slc} {bs:List UInt8} {z:HsV} {K:Int→Heap→Prop} (i:IsW h w s bs) (hb:bs.length+32≤65536)
 (hK:∀h' s',Keep (w::own s) h h'→IsW h' w s' (bs++z.toList)→(∀b∈own s',b∈own s∨h.size≤b)→K 0 h'):ZAO.C (some ⟨w,0⟩) z h K:=by
 apply ZAO.c;unfold ZAO.m;refine new_gen fun b1 h1 hb1 k1 e1 hs1 =>?_;have e1:h1[b1]? = some (vobj t_api_Hash HK z):=e1;rw[if_neg (by simp)];refine ⟨by decide,by decide,by decide,?_⟩;have g1:Seg .u8 ⟨some ⟨b1,0⟩,32,32⟩ z.toList h1:=ar_seg e1;refine b2s_segq g1 fun q _ =>?_;refine bs_gen fun b2 h2 hb2 k2 r2 hs2 =>?_;have i2:=(i.keep k1 (by simp) (by simp)).keep k2 (by simp) (by simp);have lw:=lt_of_some i.o;have ls:=i.r.lt;have s1:=k1.1;have zl:z.toList.length=32:=by simp
 have l1:lens [(⟨z.toList.toArray⟩:ByteArray)]=32:=by simp[lens,ByteArray.size]
 refine ZAZ.s (T:=t_string) i2 (parts:=[⟨z.toList.toArray⟩]) r2 ?_ ?_ (by omega) ?_ (by simp) (fun hgt=>by rw[l1] at hgt;omega) fun _ h' s' k' i' o' =>?_
 ·intro b hb;simp[own] at hb;omega
 ·intro b hb hm;simp[own] at hb;have:=ls b hm;omega
 ·intro p hp;simp only [List.mem_cons,List.not_mem_nil,or_false] at hp;subst hp;show z.toList.toArray.size≤_;simp
 ·have e:cat [(⟨z.toList.toArray⟩:ByteArray)]=z.toList:=by simp[cat]
  rw[e] at i';refine hK h' s' ((k1.then (U:=w::own s) k2 (by simp) (by simp)).then k' (fun x hx _=>hx) (fun x hx _=>hx)) i' fun b hb =>?_;rcases o' b hb with e | e
  ·exact .inl e
  ·right;have:=k2.1;omega
theorem NW.hash {h0 h:Heap} {w:Nat} {s:Slc} {bs:List UInt8} {z:HsV} {K:Int→Heap→Prop} (q:NW h0 h w s bs) (hb:bs.length+32≤65536)
 (hK:∀h' s',NW h0 h' w s' (bs++z.toList)→Keep (w::own s) h h'→(∀b,b<h.size→b∉w::own s→b∉w::own s')→K 0 h'):ZAO.C (some ⟨w,0⟩) z h K:=
 ZAO.s q.i hb fun h' s' k' i' o'=>hK h' s' (q.step k' i' o') k' (out_step o')
abbrev InK:Kd := .ag (.pr .i (.pr .i (.pr .i (.pr .i (.pr .i (.pr (.ar 32 .u8) .un))))))
def vIno (v:InK.Ty):Ino:=⟨v.1,v.2.1,v.2.2.1,v.2.2.2.1,v.2.2.2.2.1,v.2.2.2.2.2.1⟩
def inoV (x:Ino):InK.Ty:=(x.num,(x.kind,(x.mode,(x.links,(x.size,(x.root,()))))))
theorem cells32 {z:HsV}:(HK.cells z++([]:List Value)).take 32=HK.cells z:=by
 rw[YAE];exact YAZ (by rw[Kd.cells_length];exact YAd _)
theorem in_f {l:Pl} {v:InK.Ty} {h:Heap} (e:sm InK l v h):sm .i (l.fld 0) (vIno v).num h∧sm .i (l.fld 1) (vIno v).kind h∧sm .i (l.fld 2) (vIno v).mode h∧sm .i (l.fld 3) (vIno v).links h∧sm .i (l.fld 4) (vIno v).size h∧sm HK (l.fld 5) (vIno v).root h:=
 ⟨sm_sub e (by decide) rfl,sm_sub e (by decide) rfl,sm_sub e (by decide) rfl,sm_sub e (by decide) rfl,sm_sub e (by decide) rfl,sm_sub e (by decide) (cells32 (z:=v.2.2.2.2.2.1))⟩
theorem ZDc.s {l:Pl} {v:InK.Ty} {h:Heap} {K:Bool→Heap→Prop} (e:sm InK l v h) (hK:K (inodMay (vIno v)) h):ZDc.C (some l) h K:=by
 apply ZDc.c;unfold ZDc.m;obtain ⟨f0,f1,f2,f3,f4,f5⟩:=in_f e;generalize vIno v=x at *;refine nck_go (ld_go f1 ?_);refine jn_at (if x.kind=1 then 0 else 4096,()) h ?_ ?_
 ·by_cases hk:x.kind=1
  ·rw[if_pos (by simpa using hk),if_pos hk];exact ⟨rfl,rfl⟩
  ·rw[if_neg (by simpa using hk),if_neg hk];exact ⟨rfl,rfl⟩
 ·refine jn_at (inodMay x,()) h ?_ hK;refine nck_go (ld_go f0 (nck_go (ld_go f1 (nck_go (ld_go f2 (nck_go (ld_go f3 ?_)))))));refine ZBd.s ?_;unfold inodMay
  cases hn:ndN x.num x.kind x.mode x.links with
  | false=>rw[if_neg (by simp)];exact ⟨by simp,rfl⟩
  | true =>
    rw[if_pos rfl];refine nck_go (ld_go f4 ?_);by_cases h0:x.size≥0
    ·rw[if_pos (by simpa using h0)];refine nck_go (ld_go f4 ⟨?_,rfl⟩);have h0':0≤x.size:=h0;simp[h0']
    ·rw[if_neg (by simpa using h0)];have h0':¬0≤x.size:=h0;exact ⟨by simp[h0'],rfl⟩
theorem risesO_iff:∀xs:List Ino,risesO xs=true↔∀j,(h:j+1<xs.length)→xs[j].num<xs[j+1].num
 | []=>by simp[risesO]
 | [x]=>by simp[risesO]
 | x :: y :: r => by
   unfold risesO;rw[YAi,decide_eq_true_eq,risesO_iff (y::r)]
   constructor
   ·rintro ⟨h1,h2⟩ j hj
    cases j with
    | zero=>exact h1
    | succ j=>exact h2 j (by simpa using hj)
   ·intro h;exact ⟨h 0 (by simp),fun j hj=>h (j+1) (by simpa using hj)⟩
theorem ino_ok {x:Ino} (h:inodMay x=true):1≤x.num∧x.num≤32∧(x.kind=0∨x.kind=1)∧(x.mode=0∨x.mode=1)∧1≤x.links∧x.links≤32∧0≤x.size∧x.size≤4096:=by
 unfold inodMay ndN at h;simp only [YAi,Bool.or_eq_true,decide_eq_true_eq] at h;obtain ⟨⟨⟨⟨⟨⟨⟨a,b⟩,c⟩,d⟩,e⟩,f⟩,g⟩,i⟩:=h;refine ⟨a,b,c,d,e,f,g,?_⟩;split at i <;> omega
theorem itab_ok {xs:List Ino} (h:itabMay xs=true):(∀x∈xs,inodMay x=true)∧xs.length≤32:=by
 unfold itabMay at h;rw[YAi,YAC] at h;obtain ⟨h1,h2⟩:=h;refine ⟨h1,?_⟩;have hr:=(risesO_iff xs).1 h2
 have low:∀j,(hj:j<xs.length)→(j:Int)+1≤xs[j].num:=by
  intro j
  induction j with
  | zero=>intro hj;have:=(ino_ok (h1 _ (YAN hj))).1;omega
  | succ j ih=>intro hj;have:=ih (by omega);have:=hr j hj;omega
 by_cases hl:xs.length≤32
 ·exact hl
 ·have a:=low 32 (by omega);have b:=(ino_ok (h1 _ (YAN (show 32<xs.length by omega)))).2.1;omega
theorem inoBytes_len {x:Ino}:(inoBytes x).length=38:=by
 unfold inoBytes;simp only [YAO,be_len,YAk]
theorem itabFlat {xs:List Ino}:(xs.flatMap inoBytes).length=38*xs.length:=by
 induction xs with
 | nil=>rfl
 | cons x r ih=>rw[YAI,YAO,ih,inoBytes_len,YAP];omega
theorem ZBI.s {v:InK.Ty} {h:Heap} {K:Int→Heap→Prop} (hK:∀h',Keep [] h h'→K (vIno v).num h'):ZBI.C v h K:=by
 apply ZBI.c;unfold ZBI.m;refine new_gen fun b h1 hb k1 e1 hs1 =>?_;have e1:h1[b]? = some (vobj t_api_Inode InK v):=e1;exact ld_go (in_f (sm_all e1)).1 (hK h1 k1)
theorem dir_RisingI.s {s:Slc} {vs:List InK.Ty} {h:Heap} {K:Bool→Heap→Prop} (g:Seg InK s vs h) (hl:vs.length≤9223372036854775807)
 (hK:∀h',Keep [] h h'→K (risesO (vs.map vIno)) h'):ZAr.C s (.func (.func ZBI.n) #[] #[]) h K:=by
 apply ZAr.c;unfold ZAr.m;have hlen:=g.len;have hiff:=risesO_iff (vs.map vIno);simp only [YAR,YAM] at hiff;refine lp_go (fun (y:Int×Unit) (h1:Heap)=>∃t:Nat,y.1=(t:Int)+1∧(t+1≤vs.length∨t=0)∧Keep [] h h1∧∀j,(hj:j+1<vs.length)→j<t→(vIno vs[j]).num<(vIno vs[j+1]).num) (fun (y:Int×Unit) _=>vs.length-y.1.toNat) ?_ ?_
 ·exact ⟨0,rfl,.inr rfl,Keep.rfl,fun j _ h=>by omega⟩
 ·rintro ⟨(i:Int),_⟩ h1 ⟨t,e,ht,k1,hall⟩;dsimp only at e ⊢;subst e;by_cases hlt:t+1<vs.length
  ·rw[if_pos (show decide ((t:Int)+1<(s.len:Int))=true from dT (by omega))];have hw:w64 ((t:Int)+1+1)=((t+1:Nat):Int)+1:=w6 (by omega);have hw1:w64 ((t:Int)+1-1)=(t:Int):=w6 (by omega);rw[hw,hw1];have g1:=g.keep (by decide) k1;have hlt0:t<vs.length:=by omega
   obtain ⟨l0,hl0,hx0⟩:=seg_at g1 (i:=t) hlt0;obtain ⟨l1,hl1,hx1⟩:=seg_at g1 (i:=t+1) hlt;refine ⟨l0,hl0,by omega,by omega,vs[t],by rw[YAb];exact hx0,l1,hl1,by omega,by omega,vs[t+1],?_,?_⟩
   ·rw[show ((t:Int)+1).toNat=t+1 by omega];exact hx1
   refine callV_go (aa:=[InK.val vs[t]]) (by rfl) ?_;show ZBI.C vs[t] h1 _;refine ZBI.s fun h2 k2 =>?_;refine ⟨by rw[show ((t:Int)+1).toNat=t+1 by omega];exact sm_keep' hx1 k2 (by simp),?_⟩;refine callV_go (aa:=[InK.val vs[t+1]]) (by rfl) ?_;show ZBI.C vs[t+1] h2 _;refine ZBI.s fun h3 k3 =>?_;have k13:=(k1.n k2).n k3;by_cases hs:(vIno vs[t]).num<(vIno vs[t+1]).num
   ·rw[if_neg (show ¬decide ((vIno vs[t]).num≥(vIno vs[t+1]).num)=true by simp;omega)];refine ⟨⟨t+1,rfl,by omega,k13,fun j hj hjt =>?_⟩,by simp;omega⟩;by_cases e:j=t
    ·subst e;exact hs
    ·exact hall j hj (by omega)
   ·rw[if_pos (show decide ((vIno vs[t]).num≥(vIno vs[t+1]).num)=true from dT (by omega))]
    have:risesO (vs.map vIno)=false:=by
     cases hr:risesO (vs.map vIno) with
     | false=>rfl
     | true=>exact absurd (hiff.1 hr t hlt) hs
    rw[←this];exact hK _ k13
  ·rw[if_neg (show ¬decide ((t:Int)+1<(s.len:Int))=true by simp;omega)];have:risesO (vs.map vIno)=true:=hiff.2 fun j hj=>hall j hj (by omega);rw[←this];exact hK _ k1
theorem ZDZ.s {s:Slc} {vs:List InK.Ty} {h:Heap} {K:Bool→Heap→Prop} (g:Seg InK s vs h) (hl:vs.length≤9223372036854775807)
 (hK:∀h',Keep [] h h'→K (itabMay (vs.map vIno)) h'):ZDZ.C s h K:=by
 apply ZDZ.c;unfold ZDZ.m;have hlen:=g.len;refine lp_go (fun (y:Int×Unit) (h1:Heap)=>h1=h∧∃t:Nat,y.1=t∧t≤vs.length∧∀j,(hj:j<vs.length)→j<t→inodMay (vIno vs[j])=true) (fun (y:Int×Unit) _=>vs.length-y.1.toNat) ?_ ?_
 ·exact ⟨rfl,0,rfl,YAh _,fun j _ h=>by omega⟩
 ·rintro ⟨(i:Int),_⟩ h1 ⟨rfl,t,e,ht,hall⟩;dsimp only at e ⊢;subst e;by_cases hlt:t<vs.length
  ·rw[if_pos (show decide ((t:Int)<(s.len:Int))=true from dT (by omega))];have hw:w64 ((t:Int)+1)=((t+1:Nat):Int):=w6 (by omega);rw[hw];refine seg_ixl g (x:=vs[t]) (by omega) (by simp[hlt]) rfl fun l hl =>?_;refine ZDc.s hl ?_
   cases hm:inodMay (vIno vs[t]) with
   | false =>
     rw[if_pos (by rfl)]
     have:itabMay (vs.map vIno)=false:=by
      unfold itabMay;rw[Bool.and_eq_false_iff]
      left
      rw[YAB];exact ⟨vIno vs[t],List.mem_map_of_mem (YAN hlt),by rw[hm];simp⟩
     rw[←this];exact hK _ Keep.rfl
   | true =>
     rw[if_neg (by simp)];refine ⟨⟨by first | rfl | trivial,t+1,rfl,by omega,fun j hj hjt =>?_⟩,by simp;omega⟩;by_cases e:j=t
     ·subst e;exact hm
     ·exact hall j hj (by omega)
  ·rw[if_neg (show ¬decide ((t:Int)<(s.len:Int))=true by simp;omega)];refine dir_RisingI.s g hl fun h3 k3 =>?_
   have:itabMay (vs.map vIno)=risesO (vs.map vIno):=by
    have ha:(vs.map vIno).all inodMay=true:=by
     rw[YAC];intro x hx;obtain ⟨v,hv,rfl⟩:=List.mem_map.1 hx;obtain ⟨j,hj,rfl⟩:=List.mem_iff_getElem.1 hv;exact hall j hj (by omega)
    unfold itabMay;rw[ha];rfl
   rw[←this];exact hK _ k3
theorem ZDX.s {s:Slc} {vs:List InK.Ty} {h:Heap} {K:ByteArray→Int→Heap→Prop} (g:Seg InK s vs h) (hl:vs.length≤9223372036854775807)
 (hK:∀h',Keep [] h h'→K (if itabMay (vs.map vIno)=true then bx (itabBytes (vs.map vIno)) else ⟨#[]⟩) (if itabMay (vs.map vIno)=true then 0 else 1400) h'):ZDX.C s h K:=by
 apply ZDX.c;unfold ZDX.m;have hlen:=g.len;refine ZDZ.s g hl fun h1 k1 =>?_
 cases hm:itabMay (vs.map vIno) with
 | false =>
   rw[if_pos (by rfl)];rw[hm] at hK;exact hK _ k1
 | true =>
   rw[if_neg (by simp)];rw[hm] at hK;simp only [if_true] at hK;obtain ⟨hall,hl32⟩:=itab_ok hm;rw[YAR] at hl32;refine ZBs.s fun h2 k2 w2 =>?_;have q2:NW h h2 h1.size ⟨none,0,0⟩ []:=⟨k1.n k2,w2,k1.1,by simp[own]⟩;generalize h1.size=w at q2 ⊢;refine q2.num (x:=84) (n:=1) (.inl rfl) (by decide) (by simp) fun h3 s3 q3 k3 _ =>?_;rw[hlen];refine q3.num (x:=vs.length) (n:=1) (.inl rfl) (by omega) (by simp[be_len]) fun h4 s4 q4 k4 _ =>?_;refine lp_go (fun (y:Int×Unit) (h5:Heap)=>∃t s5,y.1=((t:Nat):Int)∧t≤vs.length∧NW h h5 w s5 (be 84 1++be vs.length 1++((vs.map vIno).take t).flatMap inoBytes)) (fun (y:Int×Unit) _=>vs.length-y.1.toNat) ?_ ?_
   ·exact ⟨0,s4,rfl,YAh _,by simpa using q4⟩
   ·rintro ⟨(i:Int),_⟩ h5 ⟨t,s5,e,ht,q5⟩;dsimp only at e ⊢;subst e;by_cases hlt:t<vs.length
    ·rw[if_pos (show decide ((t:Int)<(vs.length:Int))=true from dT (by omega))];have hw:w64 ((t:Int)+1)=((t+1:Nat):Int):=w6 (by omega);rw[hw];have hxo:=ino_ok (hall (vIno vs[t]) (List.mem_map_of_mem (YAN hlt)));have htk:(vs.map vIno).take (t+1)=(vs.map vIno).take t++[vIno vs[t]]:=by rw[YAa (by simpa using hlt),YAM]
     have hfl:(((vs.map vIno).take t).flatMap inoBytes).length≤1216:=by rw[itabFlat,YAT,YAR];omega
     refine seg_ix (g.keep (by decide) q5.k) (x:=vs[t]) (by omega) (by simp[hlt]) rfl ?_;refine new_st_gen fun b h6 hb k6 e6 hs6 =>?_;have e6:h6[b]? = some (vobj t_api_Inode InK vs[t]):=e6;have q6:=q5.keep k6 (by simp);have nb:b∉w::own s5:=q5.out (.inr ⟨by have:=lt_of_some q5.i.o;omega,fun hm=>by have:=q5.i.r.lt _ hm;omega⟩);obtain ⟨f0,f1,f2,f3,f4,f5⟩:=in_f (sm_all e6);refine ld_go f0 (ld_go f1 (ld_go f2 (ld_go f3 ?_)));have hib:inoBytes (vIno vs[t])=be (vIno vs[t]).num.toNat 1++be (vIno vs[t]).kind.toNat 1++be (vIno vs[t]).mode.toNat 1++be (vIno vs[t]).links.toNat 1++be (vIno vs[t]).size.toNat 2++(vIno vs[t]).root.toList:=rfl;generalize hB:be 84 1++be vs.length 1++((vs.map vIno).take t).flatMap inoBytes=B at q5 q6;have hBl:B.length≤1218:=by rw[←hB];simp only [YAO,be_len];omega
     have nsz:=lt_of_some e6;generalize hv:vs[t]=v at *;generalize hx:vIno v=x at *;refine lp_go (fun (y:Int×Unit) (h7:Heap)=>∃j s7,y.1=((j:Nat):Int)∧j≤4∧NW h h7 w s7 (B++([x.num,x.kind,x.mode,x.links].take j).flatMap fun z=>be z.toNat 1)∧h7[b]? = some (vobj t_api_Inode InK v)∧b∉w::own s7∧b<h7.size) (fun (y:Int×Unit) _=>4-y.1.toNat) ?_ ?_
     ·exact ⟨0,s5,rfl,by omega,by simpa using q6,e6,nb,nsz⟩
     ·rintro ⟨(j:Int),_⟩ h7 ⟨n,s7,e,hn,q7,e7,n7,b7⟩;dsimp only at e ⊢;subst e
      have fl:(([x.num,x.kind,x.mode,x.links].take n).flatMap fun z=>be z.toNat 1).length≤4:=by
       match n,hn with
       | 0,_ | 1,_ | 2,_ | 3,_ | 4,_=>simp[be_len]
      by_cases hn4:n<4
      ·rw[if_pos (show decide ((n:Int)<4)=true from dT (by omega))];refine ⟨(show (0:Int)≤(n:Int) by omega),(show (n:Int)<4 by omega),?_⟩;have hwn:w64 ((n:Int)+1)=((n+1:Nat):Int):=w6 (by omega);rw[hwn];have hv4:((((((Vector.replicate 4 (0:Int)).setIfInBounds 0 x.num).setIfInBounds 1 x.kind).setIfInBounds 2 x.mode).setIfInBounds 3 x.links).toList)=[x.num,x.kind,x.mode,x.links]:=rfl;rw[hv4]
       have hz:∃z,[x.num,x.kind,x.mode,x.links][n]? = some z∧0≤z∧z<256:=by
        match n,hn4 with
        | 0,_=>exact ⟨_,rfl,by omega,by omega⟩
        | 1,_=>exact ⟨_,rfl,by omega,by omega⟩
        | 2,_=>exact ⟨_,rfl,by omega,by omega⟩
        | 3,_=>exact ⟨_,rfl,by omega,by omega⟩
       obtain ⟨z,z1,z2,z3⟩:=hz
       have z4:[x.num,x.kind,x.mode,x.links].getD (n:Int).toNat 0=((z.toNat:Nat):Int):=by
        rw[YAb,YAJ,z1];show z=_;omega
       rw[z4];refine q7.num (n:=1) (.inl rfl) (by omega) (by simp only [YAO];omega) fun h8 s8 q8 k8 o8 =>?_;refine ⟨⟨n+1,s8,rfl,by omega,?_,k8.get e7 n7,o8 b b7 n7,Nat.lt_of_lt_of_le b7 k8.1⟩,by simp;omega⟩
       have:[x.num,x.kind,x.mode,x.links].take (n+1)=[x.num,x.kind,x.mode,x.links].take n++[z]:=by
        rw[List.take_add_one,z1];rfl
       rw[this,YAH,←YAD];simpa using q8
      ·rw[if_neg (show ¬decide ((n:Int)<4)=true by simp;omega)];obtain rfl:n=4:=by omega
       obtain ⟨f0,f1,f2,f3,f4,f5⟩:=in_f (sm_all e7);rw[hx] at f4 f5;refine ld_go f4 ?_;have hsz:x.size=((x.size.toNat:Nat):Int):=by omega
       rw[hsz];refine q7.num (n:=2) (.inr (.inl rfl)) (by omega) (by simp only [YAO];omega) fun h8 s8 q8 k8 o8 =>?_;have e8:=k8.get e7 n7;have n8:=o8 b b7 n7;obtain ⟨_,_,_,_,_,f5⟩:=in_f (sm_all e8);rw[hx] at f5;refine ld_go f5 ?_;refine q8.hash (by simp only [YAO,be_len];omega) fun h9 s9 q9 k9 _ =>?_;refine ⟨⟨t+1,s9,rfl,by omega,?_⟩,by simp;omega⟩;rw[htk,YAH,←YAD,hB];simp only [YAI,List.flatMap_nil,YAE];rw[hib];simpa[YAD] using q9
    ·rw[if_neg (show ¬decide ((t:Int)<(vs.length:Int))=true by simp;omega)];obtain rfl:t=vs.length:=by omega
     rw[YAZ (by simp)] at q5;refine ZAJ.s q5.i ?_;have:=hK _ q5.k;unfold itabBytes at this;rw[YAR] at this;exact this
structure Ett where
 user:Int
 seq:Int
 vec:List Int
 root:HVec
 tables:List HVec
 sign:By
def vecOk (x:Int):Bool:=decide (0≤x)&&decide (x≤256)
def vecMay (v:List Int):Bool:=v.all vecOk&&(decide (1≤v.length)&&decide (v.length≤16))
def ettMay (e:Ett):Bool:=decide (0≤e.user)&&(decide (e.user<16)&&(decide (1≤e.seq)&&(decide (e.seq≤256)&&(vecMay e.vec&&(decide (1≤e.tables.length)&&decide (e.tables.length≤24))))))
def bodyE (e:Ett):By:=[65,69]++be e.user.toNat 1++be e.seq.toNat 2++be e.vec.length 1++(e.vec.flatMap fun x=>be x.toNat 2)++e.root.toList++be e.tables.length 1++e.tables.flatMap fun z=>z.toList
def putMay (e:Ett):Bool:=ettMay e&&decide (e.sign.length≤8192)
def putE (e:Ett):By:=bodyE e++(be e.sign.length 2++e.sign)
def sayE (e:Ett):By:=(shaL (tagL 1 [bx (bodyE e)])).toList
def verE (e:Ett) (pub:By):Int:=if putMay e=true then (if hssV pub (sayE e) e.sign=0 then 0 else 1901) else 1900
abbrev EtK:Kd := .ag (.pr .i (.pr .i (.pr .sl (.pr (.ar 32 .u8) (.pr .sl (.pr .s .un))))))
structure EtAt (h:Heap) (v:EtK.Ty) (e:Ett):Prop where
 u:v.1=e.user
 q:v.2.1=e.seq
 w:Seg .i v.2.2.1 e.vec h
 r:v.2.2.2.1=e.root
 t:Seg (.ar 32 .u8) v.2.2.2.2.1 e.tables h
 s:v.2.2.2.2.2.1=bx e.sign
theorem EtAt.keep {h h':Heap} {v:EtK.Ty} {e:Ett} (a:EtAt h v e) (k:Keep [] h h'):EtAt h' v e:=⟨a.u,a.q,a.w.keep (by decide) k,a.r,a.t.keep (by decide) k,a.s⟩
theorem ZDf.s {s:Slc} {xs:List Int} {h:Heap} {K:Bool→Heap→Prop} (g:Seg .i s xs h) (hl:xs.length≤9223372036854775806) (hK:K (vecMay xs) h):ZDf.C s h K:=by
 apply ZDf.c;unfold ZDf.m;have gl:=g.len;refine lp_go (fun (y:Int×Unit) (h1:Heap)=>h1=h∧∃t:Nat,y.1=t∧t≤xs.length∧(xs.take t).all vecOk=true) (fun (y:Int×Unit) _=>xs.length-y.1.toNat) ?_ ?_
 ·exact ⟨rfl,0,rfl,YAh _,by simp⟩
 rintro ⟨(i:Int),_⟩ h1 ⟨rfl,t,e,ht,hall⟩;dsimp only at e ⊢;subst e;by_cases hlt:t<xs.length
 ·rw[if_pos (show decide ((t:Int)<(s.len:Int))=true from dT (by omega))];have hxe:xs.take (t+1)=xs.take t++[xs[t]]:=YAa hlt;refine jn_in (fun _ h'=>h'=h1∧vecOk xs[t]=true) ?_ ?_
  ·refine seg_ix g (x:=xs[t]) (by omega) (by simp[hlt]) rfl ?_;refine jn_at (!vecOk xs[t],()) h1 ?_ ?_
   ·unfold vecOk;by_cases h0:xs[t]<0
    ·rw[if_pos (dT h0)];exact ⟨by rw[dF (show ¬0≤xs[t] by omega)];rfl,rfl⟩
    ·rw[if_neg (by simpa using h0),dT (show 0≤xs[t] by omega)];refine ⟨?_,rfl⟩;by_cases h2:xs[t]>256
     ·rw[dT h2,dF (show ¬xs[t]≤256 by omega)];rfl
     ·rw[dF h2,dT (show xs[t]≤256 by omega)];rfl
   ·by_cases hv:vecOk xs[t]=true
    ·rw[hv,if_neg (by simp)];exact ⟨rfl,rfl⟩
    ·replace hv:vecOk xs[t]=false:=by simpa using hv
     rw[hv,if_pos (by rfl)]
     have:vecMay xs=false:=by
      unfold vecMay
      have:xs.all vecOk=false:=by
       rw[YAB];exact ⟨xs[t],YAN _,by rw[hv];simp⟩
      rw[this];rfl
     rw[this] at hK;exact hK
  ·rintro _ h2 ⟨rfl,hv⟩;have hw:w64 ((t:Int)+1)=((t+1:Nat):Int):=w6 (by omega);rw[hw];exact ⟨⟨rfl,t+1,rfl,by omega,by rw[hxe,YAA,hall];simp[hv]⟩,by simp;omega⟩
 ·rw[if_neg (show ¬decide ((t:Int)<(s.len:Int))=true from dn (by omega))];have:t=xs.length:=by omega
  rw[this,YAZ (YAd _)] at hall;refine jn_at (vecMay xs,()) h1 ?_ hK;unfold vecMay;rw[hall,gl];by_cases h1':1≤xs.length
  ·rw[if_pos (show decide ((xs.length:Int)≥1)=true from dT (by omega)),dT h1'];refine ⟨?_,rfl⟩;have:decide ((xs.length:Int)≤16)=decide (xs.length≤16):=decide_eq_decide.2 (by omega);rw[this];rfl
  ·rw[if_neg (show ¬decide ((xs.length:Int)≥1)=true from dn (by omega)),dF h1'];exact ⟨rfl,rfl⟩
theorem et_f {h:Heap} {b:Nat} {v:EtK.Ty} (e:h[b]? = some (vobj t_api_Entry EtK v)):sm .i ((Pl.mk b 0).fld 0) v.1 h∧sm .i ((Pl.mk b 0).fld 1) v.2.1 h∧sm .sl ((Pl.mk b 0).fld 2) v.2.2.1 h∧sm (.ar 32 .u8) ((Pl.mk b 0).fld 3) v.2.2.2.1 h∧sm .sl ((Pl.mk b 0).fld 35) v.2.2.2.2.1 h∧sm .s ((Pl.mk b 0).fld 36) v.2.2.2.2.2.1 h:=by
 have c3:(EtK.cells v).drop 3=(Kd.ar 32 .u8).cells v.2.2.2.1++(Kd.sl.cells v.2.2.2.2.1++(Kd.s.cells v.2.2.2.2.2.1++[])):=rfl;have l3:((Kd.ar 32 .u8).cells v.2.2.2.1).length=32:=Kd.cells_length ..
 have c35:(EtK.cells v).drop 35=Kd.sl.cells v.2.2.2.2.1++(Kd.s.cells v.2.2.2.2.2.1++[]):=by
  have:(EtK.cells v).drop 35=((EtK.cells v).drop 3).drop 32:=by rw[YAF]
  rw[this,c3,YAG l3]
 refine ⟨sm_fld (n:=0) (k' := .i) e rfl (by decide),sm_fld (n:=1) (k' := .i) e rfl (by decide),sm_fld (n:=2) (k' := .sl) e rfl (by decide),sm_sub (sm_all e) (by decide) ?_,sm_sub (sm_all e) (by decide) ?_,sm_sub (sm_all e) (by decide) ?_⟩
 ·rw[c3];exact YAX l3
 ·rw[c35];rfl
 ·have:(EtK.cells v).drop 36=((EtK.cells v).drop 35).drop 1:=by rw[YAF]
  rw[this,c35];rfl
theorem ZC5.s {b:Nat} {v:EtK.Ty} {e:Ett} {h:Heap} {K:Bool→Heap→Prop} (eb:h[b]? = some (vobj t_api_Entry EtK v)) (a:EtAt h v e) (hl:e.vec.length≤9223372036854775806) (hK:K (ettMay e) h):ZC5.C (some ⟨b,0⟩) h K:=by
 apply ZC5.c;unfold ZC5.m;obtain ⟨f0,f1,f2,f3,f4,f5⟩:=et_f eb;refine jn_at (ettMay e,()) h ?_ hK;unfold ettMay;refine nck_go (ld_go f0 ?_);rw[a.u];rcases Decidable.em (¬(0≤e.user)) with c1 | c1
 ·rw[if_neg (show ¬decide (e.user≥0)=true from fun h=>c1 (of_decide_eq_true h)),dF c1];exact ⟨rfl,rfl⟩
 replace c1:=Decidable.not_not.1 c1;rw[if_pos (show decide (e.user≥0)=true from dT c1),dT c1,YAj];refine nck_go (ld_go f0 ?_);rw[a.u];rcases Decidable.em (¬(e.user<16)) with c2 | c2
 ·rw[if_neg (show ¬decide (e.user<16)=true from fun h=>c2 (of_decide_eq_true h)),dF c2];exact ⟨rfl,rfl⟩
 replace c2:=Decidable.not_not.1 c2;rw[if_pos (show decide (e.user<16)=true from dT c2),dT c2,YAj];refine nck_go (ld_go f1 ?_);rw[a.q];rcases Decidable.em (¬(1≤e.seq)) with c3 | c3
 ·rw[if_neg (show ¬decide (e.seq≥1)=true from fun h=>c3 (of_decide_eq_true h)),dF c3];exact ⟨rfl,rfl⟩
 replace c3:=Decidable.not_not.1 c3;rw[if_pos (show decide (e.seq≥1)=true from dT c3),dT c3,YAj];refine nck_go (ld_go f1 ?_);rw[a.q];rcases Decidable.em (¬(e.seq≤256)) with c4 | c4
 ·rw[if_neg (show ¬decide (e.seq≤256)=true from fun h=>c4 (of_decide_eq_true h)),dF c4];exact ⟨rfl,rfl⟩
 replace c4:=Decidable.not_not.1 c4;rw[if_pos (show decide (e.seq≤256)=true from dT c4),dT c4,YAj];refine nck_go (ld_go f2 ?_);refine ZDf.s a.w hl ?_;rcases Decidable.em (¬(vecMay e.vec=true)) with c5 | c5
 ·rw[if_neg c5];replace c5:vecMay e.vec=false:=by simpa using c5
  rw[c5];exact ⟨rfl,rfl⟩
 replace c5:=Decidable.not_not.1 c5;rw[if_pos c5,c5,YAj];refine nck_go (ld_go f4 ?_);have tl:(v.2.2.2.2.1).len=e.tables.length:=a.t.len;rw[tl];rcases Decidable.em (¬(1≤e.tables.length)) with c6 | c6
 ·rw[if_neg (show ¬decide ((e.tables.length:Int)≥1)=true from dn (by omega)),dF c6];exact ⟨rfl,rfl⟩
 replace c6:=Decidable.not_not.1 c6;rw[if_pos (show decide ((e.tables.length:Int)≥1)=true from dT (by omega)),dT c6,YAj];refine nck_go (ld_go f4 ?_);rw[tl];have:decide ((e.tables.length:Int)≤24)=decide (e.tables.length≤24):=decide_eq_decide.2 (by omega);rw[this];exact ⟨rfl,rfl⟩
structure BW (T:Nat) (h0 h:Heap) (w b:Nat) (s:Slc) (bs:By):Prop where
 q:NW h0 h w s bs
 e:h[b]? = some (vobj T .p (some ⟨w,0⟩))
 n:b∉w::own s
theorem BW.num {T w b x n:Nat} {h0 h:Heap} {s:Slc} {bs:By} {K:Int→Heap→Prop} (i:BW T h0 h w b s bs) (hn:n=1∨n=2∨n=4) (hx:x<256^n) (hb:bs.length+n≤65536)
 (hK:∀h' s',BW T h0 h' w b s' (bs++be x n)→K 0 h'):ZAC.C (some ⟨w,0⟩) (x:Int) (n:Int) h K:=
 i.q.num hn hx hb fun h' s' q' k' o'=>hK h' s' ⟨q',k'.get i.e i.n,o' b (lt_of_some i.e) i.n⟩
theorem BW.hash {T w b:Nat} {h0 h:Heap} {s:Slc} {bs:By} {z:HVec} {K:Int→Heap→Prop} (i:BW T h0 h w b s bs) (hb:bs.length+32≤65536)
 (hK:∀h' s',BW T h0 h' w b s' (bs++z.toList)→K 0 h'):ZAO.C (some ⟨w,0⟩) z h K:=
 i.q.hash hb fun h' s' q' k' o'=>hK h' s' ⟨q',k'.get i.e i.n,o' b (lt_of_some i.e) i.n⟩
theorem BW.keep {T w b:Nat} {h0 h h':Heap} {s:Slc} {bs:By} {S:List Nat} (i:BW T h0 h w b s bs) (k:Keep S h h') (hs:∀x∈S,h.size≤x):BW T h0 h' w b s bs:=
 ⟨i.q.keep k hs,k.get i.e (fun hm=>by have:=hs b hm;have:=lt_of_some i.e;omega),i.n⟩
theorem fl_len {α : Type} {f : α → By} {c:Nat} (hf:∀x,(f x).length=c) (l:List α):(l.flatMap f).length=c*l.length:=by
 induction l with
 | nil=>simp
 | cons a r ih=>rw[YAI,YAO,ih,hf,YAP,Nat.mul_add];omega
theorem each_num.s {T w b:Nat} {h0 h:Heap} {s sl:Slc} {bs:By} {xs:List Int} {K:Int→Heap→Prop} (i:BW T h0 h w b s bs) (g:Seg .i sl xs h0) (ok:xs.all vecOk=true) (hl:xs.length≤16) (hb:bs.length≤1000)
 (hK:∀h' s',BW T h0 h' w b s' (bs++xs.flatMap fun x=>be x.toNat 2)→K 0 h'):ZC6.C sl (.func (.func ZCH.n) #[] #[Kd.p.val (some (Pl.mk b 0))]) h K:=by
 apply ZC6.c;unfold ZC6.m;have gl:=g.len;refine lp_go (fun (y:Int×Unit) (h1:Heap)=>∃(t:Nat) (s1:Slc),y.1=t∧t≤xs.length∧BW T h0 h1 w b s1 (bs++(xs.take t).flatMap fun x=>be x.toNat 2)) (fun (y:Int×Unit) _=>xs.length-y.1.toNat) ?_ ?_
 ·exact ⟨0,s,rfl,YAh _,by simpa using i⟩
 rintro ⟨(jj:Int),_⟩ h1 ⟨t,s1,e,ht,i1⟩;dsimp only at e ⊢;subst e;by_cases hlt:t<xs.length
 ·rw[if_pos (show decide ((t:Int)<(sl.len:Int))=true from dT (by omega))];refine seg_ix (g.keep (by decide) i1.q.k) (x:=xs[t]) (by omega) (by simp[hlt]) rfl ?_;refine callV_go (aa:=[Kd.i.val xs[t],Kd.p.val (some (Pl.mk b 0))]) (by rfl) ?_;show ZCH.C xs[t] ⟨b,0⟩ h1 _;apply ZCH.c;unfold ZCH.m;refine ld_go (sm_all i1.e) ?_;have hx:vecOk xs[t]=true:=List.all_eq_true.1 ok _ (YAN hlt);unfold vecOk at hx;simp only [YAi,decide_eq_true_eq] at hx;have hxn:xs[t]=((xs[t].toNat:Nat):Int):=by omega
  have hlen:(bs++(xs.take t).flatMap fun x=>be x.toNat 2).length≤1032:=by
   rw[YAO,fl_len (c:=2) (fun _=>be_len),YAT];omega
  have hxe:xs.take (t+1)=xs.take t++[xs[t]]:=YAa hlt;rw[hxn];refine i1.num (n:=2) (by decide) (by omega) (by omega) fun h2 s2 i2 =>?_;dsimp only;rw[if_neg (by decide)];have hw:w64 ((t:Int)+1)=((t+1:Nat):Int):=w6 (by omega);rw[hw];refine ⟨⟨t+1,s2,rfl,by omega,?_⟩,by simp;omega⟩;rw[hxe,YAH,←YAD];simpa using i2
 ·rw[if_neg (show ¬decide ((t:Int)<(sl.len:Int))=true from dn (by omega))];have:t=xs.length:=by omega
  rw[this,YAZ (YAd _)] at i1;exact hK h1 s1 i1
theorem each_hash.s {T w b:Nat} {h0 h:Heap} {s sl:Slc} {bs:By} {xs:List HVec} {K:Int→Heap→Prop} (i:BW T h0 h w b s bs) (g:Seg (.ar 32 .u8) sl xs h0) (hl:xs.length≤24) (hb:bs.length≤1000)
 (hK:∀h' s',BW T h0 h' w b s' (bs++xs.flatMap fun z=>z.toList)→K 0 h'):ZBa.C sl (.func (.func ZAO.n) #[Kd.p.val (some (Pl.mk w 0))] #[]) h K:=by
 apply ZBa.c;unfold ZBa.m;have gl:=g.len;refine lp_go (fun (y:Int×Unit) (h1:Heap)=>∃(t:Nat) (s1:Slc),y.1=t∧t≤xs.length∧BW T h0 h1 w b s1 (bs++(xs.take t).flatMap fun z=>z.toList)) (fun (y:Int×Unit) _=>xs.length-y.1.toNat) ?_ ?_
 ·exact ⟨0,s,rfl,YAh _,by simpa using i⟩
 rintro ⟨(jj:Int),_⟩ h1 ⟨t,s1,e,ht,i1⟩;dsimp only at e ⊢;subst e;by_cases hlt:t<xs.length
 ·rw[if_pos (show decide ((t:Int)<(sl.len:Int))=true from dT (by omega))];refine seg_ix (g.keep (by decide) i1.q.k) (x:=xs[t]) (by omega) (by simp[hlt]) rfl ?_;refine new_st_gen fun b2 h2 hb2 k2 e2 hs2 =>?_;refine ld_go (sm_all e2) ?_;refine callV_go (aa:=[Kd.p.val (some (Pl.mk w 0)),(Kd.ar 32 .u8).val xs[t]]) (by rfl) ?_;show ZAO.C (some ⟨w,0⟩) xs[t] h2 _
  have hlen:(bs++(xs.take t).flatMap fun z=>z.toList).length≤1768:=by
   rw[YAO,fl_len (c:=32) (fun z=>by simp),YAT];omega
  have hxe:xs.take (t+1)=xs.take t++[xs[t]]:=YAa hlt;refine (i1.keep k2 (by simp)).hash (by omega) fun h3 s3 i3 =>?_;rw[if_neg (by decide)];have hw:w64 ((t:Int)+1)=((t+1:Nat):Int):=w6 (by omega);rw[hw];refine ⟨⟨t+1,s3,rfl,by omega,?_⟩,by simp;omega⟩;rw[hxe,YAH,←YAD];simpa using i3
 ·rw[if_neg (show ¬decide ((t:Int)<(sl.len:Int))=true from dn (by omega))];have:t=xs.length:=by omega
  rw[this,YAZ (YAd _)] at i1;exact hK h1 s1 i1
theorem vecs_len {xs:List Int}:(xs.flatMap fun x=>be x.toNat 2).length=2*xs.length:=fl_len (c:=2) (fun _=>be_len) xs
theorem bodyE_len {e:Ett} (hm:ettMay e=true):(bodyE e).length≤1000:=by
 unfold ettMay vecMay at hm;simp only [YAi,decide_eq_true_eq] at hm;unfold bodyE;simp only [YAO,be_len,fl_len (c:=2) (fun _=>be_len),fl_len (f:=fun z:HVec=>z.toList) (c:=32) (fun z=>YAk ..),YAP,YAS,YAk];omega
theorem ZCl.s {b:Nat} {v:EtK.Ty} {e:Ett} {h:Heap} {K:Option Pl→Heap→Prop} (eb:h[b]? = some (vobj t_api_Entry EtK v)) (a:EtAt h v e) (hm:ettMay e=true) (hK:∀h' w s,NW h h' w s (bodyE e)→K (some ⟨w,0⟩) h'):ZCl.C (some ⟨b,0⟩) h K:=by
 apply ZCl.c;unfold ZCl.m;have hbl:=bodyE_len hm;have hm':=hm;unfold ettMay at hm';simp only [YAi,decide_eq_true_eq] at hm';obtain ⟨c1,c2,c3,c4,c5,c6,c7⟩:=hm';unfold vecMay at c5;simp only [YAi,decide_eq_true_eq] at c5;obtain ⟨c5,c8,c9⟩:=c5;refine ZBs.s fun h1 k1 i1 =>?_;have q1:NW h h1 h.size ⟨none,0,0⟩ []:=⟨k1,i1,YAd _,by simp[own]⟩;refine new_st_gen fun b2 h3 hb k3 e3 hs3 =>?_;have lt:=lt_of_some i1.o;refine lp_go (fun (y:Int×Unit) (h4:Heap)=>∃(t:Nat) (s:Slc),y.1=t∧t≤2∧BW 180 h h4 h.size b2 s ([65,69].take t)) (fun (y:Int×Unit) _=>2-y.1.toNat) ?_ ?_
 ·exact ⟨0,_,rfl,by decide,⟨q1.keep k3 (by simp),e3,by simp[own];omega⟩⟩
 rintro ⟨(jj:Int),_⟩ h4 ⟨t,s4,et,ht,i4⟩;dsimp only at et ⊢;subst et;by_cases hlt:t<2
 ·rw[if_pos (show decide ((t:Int)<2)=true from dT (by omega))];refine ld_go (sm_all i4.e) ?_;refine ixs_bx (l:=[65,69]) (i:=t) (by simpa using hlt) ?_;have hxe:[65,69].take (t+1)=[65,69].take t++[([65,69]:By)[t]]:=YAa (by simpa using hlt);generalize ([65,69]:By)[t]=ch at *;have hch:=ch.toNat_lt;have hb1:be ch.toNat 1=[ch]:=by simp[be]
  refine i4.num (n:=1) (by decide) (by omega) (by rw[YAT];omega) fun h5 s5 i5 =>?_;rw[hb1,←hxe] at i5;have hw:w64 ((t:Int)+1)=((t+1:Nat):Int):=w6 (by omega);rw[hw];exact ⟨⟨t+1,s5,rfl,by omega,i5⟩,by simp;omega⟩
 rw[if_neg (show ¬decide ((t:Int)<2)=true from dn (by omega))];obtain rfl:t=2:=by omega
 have ff:∀ {hh s bs},BW 180 h hh h.size b2 s bs→_:=fun i=>et_f (i.q.k.g eb);have wl:v.2.2.1.len=e.vec.length:=a.w.len;have tl:v.2.2.2.2.1.len=e.tables.length:=a.t.len;have hu:v.1=((e.user.toNat:Nat):Int):=a.u.trans (YAc c1).symm;have hq:v.2.1=((e.seq.toNat:Nat):Int):=a.q.trans (YAc (by omega)).symm;refine ld_go (sm_all i4.e) (nck_go (ld_go (ff i4).1 ?_));rw[hu];refine i4.num (n:=1) (by decide) (by omega) (by simp) fun h5 s5 i5 =>?_;refine ld_go (sm_all i5.e) (nck_go (ld_go (ff i5).2.1 ?_));rw[hq];refine i5.num (n:=2) (by decide) (by omega) (by simp[be_len]) fun h6 s6 i6 =>?_;refine ld_go (sm_all i6.e) (nck_go (ld_go (ff i6).2.2.1 ?_));rw[wl];refine i6.num (n:=1) (by decide) (by omega) (by simp[be_len]) fun h7 s7 i7 =>?_;refine nck_go (ld_go (ff i7).2.2.1 ?_);refine each_num.s i7 a.w c5 (by omega) (by simp[be_len]) fun h8 s8 i8 =>?_;refine ld_go (sm_all i8.e) (nck_go (ld_go (ff i8).2.2.2.1 ?_));rw[a.r];refine i8.hash (by simp only [YAO,be_len,vecs_len,YAT,YAP,YAS];omega) fun h9 s9 i9 =>?_;refine ld_go (sm_all i9.e) (nck_go (ld_go (ff i9).2.2.2.2.1 ?_));rw[tl];refine i9.num (n:=1) (by decide) (by omega) (by simp only [YAO,be_len,vecs_len,YAT,YAP,YAS,YAk];omega) fun h10 s10 i10 =>?_;refine nck_go (ld_go (ff i10).2.2.2.2.1 (ld_go (sm_all i10.e) ?_));refine each_hash.s i10 a.t c7 (by simp only [YAO,be_len,vecs_len,YAT,YAP,YAS,YAk];omega) fun h11 s11 i11 =>?_;exact ld_go (sm_all i11.e) (hK h11 h.size s11 i11.q)
theorem ZC4.s {v:EtK.Ty} {e:Ett} {h:Heap} {K:ByteArray→Int→Heap→Prop} (a:EtAt h v e) (hl:e.vec.length≤9223372036854775806) (hK:∀h',Keep [] h h'→K (if putMay e=true then bx (putE e) else ⟨#[]⟩) (if putMay e=true then 0 else 1900) h'):ZC4.C v h K:=by
 apply ZC4.c;unfold ZC4.m;refine new_gen fun b1 h1 hb1 k1 e1 hs1 =>?_;have e1:h1[b1]? = some (vobj t_api_Entry EtK v):=e1;have a1:=a.keep k1;obtain ⟨f0,f1,f2,f3,f4,f5⟩:=et_f e1;refine jn_at (!putMay e,()) h1 ?_ ?_
 ·refine ZC5.s e1 a1 hl ?_;unfold putMay
  cases hm:ettMay e with
  | false=>rw[if_pos (by rfl)];exact ⟨rfl,rfl⟩
  | true =>
    rw[if_neg (by simp)];refine ld_go f5 ?_;rw[a.s];refine ⟨?_,rfl⟩
    have:decide (((bx e.sign).size:Int)>8192) = !decide (e.sign.length≤8192):=by
     rw[bx_size];by_cases hc:e.sign.length≤8192
     ·rw[dT hc,dF (by omega)];rfl
     ·rw[dF hc,dT (by omega)];rfl
    rw[this];rfl
 cases hp:putMay e with
 | false =>
   rw[if_pos (by rfl)];rw[hp] at hK;exact hK h1 k1
 | true =>
   rw[if_neg (by simp)];rw[hp,if_pos rfl,if_pos rfl] at hK;unfold putMay at hp;simp only [YAi,decide_eq_true_eq] at hp;have hbl:=bodyE_len hp.1;refine ZCl.s e1 a1 hp.1 fun h2 w s q =>?_;refine ld_go (et_f (q.k.g e1)).2.2.2.2.2 ?_;rw[a.s];refine q.text (n:=2) (by decide) (by rw[bx_size];omega) (by rw[bx_size];omega) fun h3 s3 q3 k3 o3 =>?_;rw[bx_size,bx_dl] at q3;refine ZAJ.s q3.i ?_;exact hK h3 (k1.n q3.k)
theorem ZCa.s {b:Nat} {v:EtK.Ty} {e:Ett} {h:Heap} {K:ByteArray→Heap→Prop} (eb:h[b]? = some (vobj t_api_Entry EtK v)) (a:EtAt h v e) (hm:ettMay e=true) (hK:∀h',Keep [] h h'→K (bx (sayE e)) h'):ZCa.C (some ⟨b,0⟩) h K:=by
 apply ZCa.c;unfold ZCa.m;have hbl:=bodyE_len hm;refine ZCl.s eb a hm fun h1 w s q =>?_;refine ZAJ.s q.i ?_;refine bs_gen fun b2 h2 hb2 k2 r2 hs2 =>?_;refine ZDS.s (tag:=1) (ps:=[bx (bodyE e)]) r2.seg (by decide) (by show lens [bx (bodyE e)]≤_;simp[lens,bx_size];omega) (by simp[tagL,pieceL,be_len,bx_dl];omega) fun h3 k3 =>?_;obtain ⟨u,hu⟩:∃u,shaL (tagL 1 [bx (bodyE e)])=u:=⟨_,rfl⟩;have hs:sayE e=u.toList:=by unfold sayE;rw[hu]
 rw[hs] at hK;rw[hu];refine new_st_gen fun b4 h4 hb4 k4 e4 hs4 =>?_;refine ⟨by decide,by decide,by decide,?_⟩;have g4:Seg .u8 ⟨some ⟨b4,0⟩,32,32⟩ u.toList h4:=ar_seg e4;exact b2s_segq g4 fun q' _=>hK h4 (((q.k.n k2).n k3).n k4)
theorem ZCX.s {v:EtK.Ty} {e:Ett} {pub:By} {h:Heap} {K:Int→Heap→Prop} (a:EtAt h v e) (hl:e.vec.length≤9223372036854775806) (hK:∀h',Keep [] h h'→K (verE e pub) h'):ZCX.C v (bx pub) h K:=by
 apply ZCX.c;unfold ZCX.m;unfold verE at hK;refine new_gen fun b1 h1 hb1 k1 e1 hs1 =>?_;have e1:h1[b1]? = some (vobj t_api_Entry EtK v):=e1;have a1:=a.keep k1;obtain ⟨f0,f1,f2,f3,f4,f5⟩:=et_f e1;refine jn_at (!putMay e,()) h1 ?_ ?_
 ·refine ZC5.s e1 a1 hl ?_;unfold putMay
  cases hm:ettMay e with
  | false=>rw[if_pos (by rfl)];exact ⟨rfl,rfl⟩
  | true =>
    rw[if_neg (by simp)];refine ld_go f5 ?_;rw[a.s];refine ⟨?_,rfl⟩
    have:decide (((bx e.sign).size:Int)>8192) = !decide (e.sign.length≤8192):=by
     rw[bx_size];by_cases hc:e.sign.length≤8192
     ·rw[dT hc,dF (by omega)];rfl
     ·rw[dF hc,dT (by omega)];rfl
    rw[this];rfl
 cases hp:putMay e with
 | false =>
   rw[if_pos (by rfl)];rw[hp] at hK;exact hK h1 k1
 | true =>
   rw[if_neg (by simp)];rw[hp,if_pos rfl] at hK;unfold putMay at hp;simp only [YAi,decide_eq_true_eq] at hp;refine ld_go f5 ?_;refine ZCa.s e1 a1 hp.1 fun h2 k2 =>?_;refine ⟨(et_f (k2.g e1)).2.2.2.2.2,?_⟩;rw[a.s];refine ZC8.s (by omega) fun h3 k3 =>?_;have:=hK h3 ((k1.n k2).n k3);generalize hssV pub (sayE e) e.sign=r at *;by_cases h0:r=0
   ·rw[if_neg (by simp[h0])];rw[if_pos h0] at this;exact this
   ·rw[if_pos (by simp[h0])];rw[if_neg h0] at this;exact this
theorem ZCd.s {s:Slc} {xs:List Int} {h:Heap} {K:Bool→Heap→Prop} (g:Seg .i s xs h) (hl:xs.length≤9223372036854775806) (hK:K (vecMay xs) h):ZCd.C s h K:=by
 apply ZCd.c;unfold ZCd.m;have gl:=g.len;refine lp_go (fun (y:Int×Unit) (h1:Heap)=>h1=h∧∃t:Nat,y.1=t∧t≤xs.length∧(xs.take t).all vecOk=true) (fun (y:Int×Unit) _=>xs.length-y.1.toNat) ?_ ?_
 ·exact ⟨rfl,0,rfl,YAh _,by simp⟩
 rintro ⟨(i:Int),_⟩ h1 ⟨rfl,t,e,ht,hall⟩;dsimp only at e ⊢;subst e;by_cases hlt:t<xs.length
 ·rw[if_pos (show decide ((t:Int)<(s.len:Int))=true from dT (by omega))];have hxe:xs.take (t+1)=xs.take t++[xs[t]]:=YAa hlt;refine jn_in (fun _ h'=>h'=h1∧vecOk xs[t]=true) ?_ ?_
  ·refine jn_at (!vecOk xs[t],()) h1 ?_ ?_
   ·refine seg_ix g (x:=xs[t]) (by omega) (by simp[hlt]) rfl ?_;unfold vecOk;by_cases h0:xs[t]<0
    ·rw[if_pos (dT h0)];exact ⟨by rw[dF (show ¬0≤xs[t] by omega)];rfl,rfl⟩
    ·rw[if_neg (by simpa using h0),dT (show 0≤xs[t] by omega)];refine seg_ix g (x:=xs[t]) (by omega) (by simp[hlt]) rfl ⟨?_,rfl⟩;by_cases h2:xs[t]>256
     ·rw[dT h2,dF (show ¬xs[t]≤256 by omega)];rfl
     ·rw[dF h2,dT (show xs[t]≤256 by omega)];rfl
   ·by_cases hv:vecOk xs[t]=true
    ·rw[hv,if_neg (by simp)];exact ⟨rfl,rfl⟩
    ·replace hv:vecOk xs[t]=false:=by simpa using hv
     rw[hv,if_pos (by rfl)]
     have:vecMay xs=false:=by
      unfold vecMay
      have:xs.all vecOk=false:=by
       rw[YAB];exact ⟨xs[t],YAN _,by rw[hv];simp⟩
      rw[this];rfl
     rw[this] at hK;exact hK
  ·rintro _ h2 ⟨rfl,hv⟩;have hw:w64 ((t:Int)+1)=((t+1:Nat):Int):=w6 (by omega);rw[hw];exact ⟨⟨rfl,t+1,rfl,by omega,by rw[hxe,YAA,hall];simp[hv]⟩,by simp;omega⟩
 ·rw[if_neg (show ¬decide ((t:Int)<(s.len:Int))=true from dn (by omega))];have:t=xs.length:=by omega
  rw[this,YAZ (YAd _)] at hall;refine jn_at (vecMay xs,()) h1 ?_ hK;unfold vecMay;rw[hall,gl];by_cases h1':1≤xs.length
  ·rw[if_pos (show decide ((xs.length:Int)≥1)=true from dT (by omega)),dT h1'];refine ⟨?_,rfl⟩;have:decide ((xs.length:Int)≤16)=decide (xs.length≤16):=decide_eq_decide.2 (by omega);rw[this];rfl
  ·rw[if_neg (show ¬decide ((xs.length:Int)≥1)=true from dn (by omega)),dF h1'];exact ⟨rfl,rfl⟩
theorem ett_of {e:Ett} (h:ettMay e=true):0≤e.user∧e.user<16∧1≤e.seq∧e.seq≤256∧(∀x∈e.vec,0≤x∧x≤256)∧1≤e.vec.length∧e.vec.length≤16∧1≤e.tables.length∧e.tables.length≤24:=by
 unfold ettMay vecMay at h;simp only [YAi,decide_eq_true_eq,YAC] at h;obtain ⟨a,b,c,d,⟨f,g,i⟩,j,k⟩:=h;refine ⟨a,b,c,d,fun x hx =>?_,g,i,j,k⟩;have:=f x hx;unfold vecOk at this;simpa using this
theorem flat2_len:∀ {l:List Int},(l.flatMap fun x=>be x.toNat 2).length=2*l.length
 | []=>rfl
 | a::r=>by rw[YAI,YAO,be_len,flat2_len,YAP];omega
theorem flat32_len:∀ {l:List HVec},(l.flatMap fun z=>z.toList).length=32*l.length
 | []=>rfl
 | a :: r => by
   rw[YAI,YAO,flat32_len,YAP];simp;omega
theorem ZBu.s {v:EtK.Ty} {e:Ett} {h:Heap} {K:ByteArray→Int→Heap→Prop} (a:EtAt h v e) (hl:e.vec.length≤9223372036854775806)
 (hK:∀h',Keep [] h h'→K (if ettMay e=true then bx (bodyE e) else bx []) (if ettMay e=true then 0 else 1900) h'):ZBu.C v h K:=by
 apply ZBu.c;unfold ZBu.m;refine new_gen fun b h1 hb k1 e1 hs1 =>?_;have e1:h1[b]? = some (vobj t_api_Entry EtK v):=e1;have a1:=a.keep k1;obtain ⟨f0,f1,f2,f3,f35,f36⟩:=et_f e1;have tl:=a1.t.len;refine jn_in (fun y h'=>Keep [] h1 h'∧y=(!ettMay e,())) ?_ ?_
 ·rw[a.u] at f0;rw[a.q] at f1;unfold ettMay;refine ld_go f0 ?_;by_cases c0:e.user<0
  ·rw[if_pos (dT c0)];exact ⟨Keep.rfl,by simp[show ¬0≤e.user by omega]⟩
  rw[if_neg (by simpa using c0)];refine ld_go f0 ?_;by_cases c1:e.user≥16
  ·rw[if_pos (dT c1)];exact ⟨Keep.rfl,by simp[show ¬e.user<16 by omega]⟩
  rw[if_neg (by simpa using c1)];refine ld_go f1 ?_;by_cases c2:e.seq<1
  ·rw[if_pos (dT c2)];exact ⟨Keep.rfl,by simp[show ¬1≤e.seq by omega]⟩
  rw[if_neg (by simpa using c2)];refine ld_go f1 ?_;by_cases c3:e.seq>256
  ·rw[if_pos (dT c3)];exact ⟨Keep.rfl,by simp[show ¬e.seq≤256 by omega]⟩
  rw[if_neg (by simpa using c3)];refine ld_go f2 ?_;refine ZCd.s a1.w hl ?_
  cases hv:vecMay e.vec with
  | false=>rw[if_pos (by rfl)];exact ⟨Keep.rfl,by simp⟩
  | true =>
    rw[if_neg (by simp)];refine ld_go f35 ?_;rw[tl];by_cases c4:e.tables.length<1
    ·rw[if_pos (dT (by omega))];exact ⟨Keep.rfl,by simp[show ¬1≤e.tables.length by omega]⟩
    rw[if_neg (by simp;omega)];refine ld_go f35 ⟨Keep.rfl,?_⟩;rw[tl];by_cases c5:e.tables.length≤24
    ·rw[dF (show ¬((e.tables.length:Int)>24) by omega)];simp[c5,show 0≤e.user by omega,show e.user<16 by omega,show 1≤e.seq by omega,show e.seq≤256 by omega,show 1≤e.tables.length by omega]
    ·rw[dT (show ((e.tables.length:Int)>24) by omega)];simp[c5]
 rintro _ h2 ⟨k2,rfl⟩;dsimp only
 cases hm:ettMay e with
 | false =>
   rw[if_pos (by rfl)];rw[hm] at hK;exact hK h2 (k1.n k2)
 | true =>
   rw[if_neg (by simp)];rw[hm] at hK;obtain ⟨u0,u1,q0,q1,vx,v1,v16,t1,t24⟩:=ett_of hm;obtain ⟨f0,f1,f2,f3,f35,f36⟩:=et_f (k2.g e1);refine ld_go f0 (ld_go f1 (ld_go f2 ?_));have hun:((e.user.toNat:Nat):Int)=e.user:=YAc u0;have hqn:((e.seq.toNat:Nat):Int)=e.seq:=YAc (by omega);rw[a.u,a.q] ;have hK':=fun h' k=>hK h' k;simp only [if_true] at hK';unfold bodyE at hK';rw[←hun];refine ZAA.s (n:=1) (by decide) (by decide) (by omega) fun h4 k4=>⟨sm_keep (by decide) f2 k4,by rw[←a.q];exact sm_keep (by decide) f1 k4,?_⟩;show sadd (bx [65,69]) _ _;refine sadd_b (by rw[be_len];decide) ?_;rw[←hqn];refine ZAA.s (n:=2) (by decide) (by decide) (by omega) fun h5 k5=>⟨sm_keep (by decide) f2 (k4.n k5),?_⟩;refine sadd_b (by simp[be_len]) ?_;rw[a.w.len];refine ZAA.s (n:=1) (by decide) (by decide) (by omega) fun h6 k6 =>?_;refine sadd_b (by simp[be_len]) ?_;have k16:Keep [] h1 h6:=((k2.n k4).n k5).n k6;rw[hun,hqn] at *;generalize hP:[65,69]++be e.user.toNat 1++be e.seq.toNat 2++be e.vec.length 1=P at *;have hPl:P.length=6:=by rw[←hP];simp[be_len]
   have wl:=a.w.len;refine lp_go (fun (y:ByteArray×Int×Unit) (h7:Heap)=>∃t:Nat,y.2.1=t∧t≤e.vec.length∧Keep [] h1 h7∧y.1=bx (P++(e.vec.take t).flatMap fun x=>be x.toNat 2)) (fun (y:ByteArray×Int×Unit) _=>e.vec.length-y.2.1.toNat) ?_ ?_
   ·exact ⟨0,rfl,YAh _,k16,by simp⟩
   rintro ⟨(ac:ByteArray),(ii:Int),_⟩ h7 ⟨t,et,ht,k7,ea⟩;dsimp only at et ea ⊢;subst et;subst ea;obtain ⟨f0,f1,f2,f3,f35,f36⟩:=et_f (k7.g e1);refine ld_go f2 ?_;have hfl:(((e.vec.take t).flatMap fun x=>be x.toNat 2)).length≤32:=by rw[flat2_len,YAT];omega
   by_cases hlt:t<e.vec.length
   ·rw[if_pos (show decide ((t:Int)<(v.2.2.1.len:Int))=true from dT (by omega))];refine ld_go f2 ?_;refine seg_ix (a1.keep k7).w (x:=e.vec[t]) (by omega) (by simp[hlt]) rfl ?_;have hx:=vx _ (YAN hlt);have hxe:e.vec.take (t+1)=e.vec.take t++[e.vec[t]]:=YAa hlt;generalize e.vec[t]=x at *;have hxn:((x.toNat:Nat):Int)=x:=YAc hx.1;rw[←hxn];refine ZAA.s (n:=2) (by decide) (by decide) (by omega) fun h8 k8 =>?_;refine sadd_b (by rw[YAO,be_len];omega) ?_;have hw:w64 ((t:Int)+1)=((t+1:Nat):Int):=w6 (by omega);rw[hw];refine ⟨⟨t+1,rfl,by omega,k7.n k8,?_⟩,by simp;omega⟩;rw[hxe,YAH,←YAD];simp
   ·rw[if_neg (show ¬decide ((t:Int)<(v.2.2.1.len:Int))=true from dn (by omega))];obtain rfl:t=e.vec.length:=by omega
    rw[YAY] at *;refine ld_go f3 (ld_go f35 ?_);rw[a.r];refine ZAW.s fun h9 k9=>⟨sm_keep (by decide) f35 k9,?_⟩;have rl:(Vector.toList e.root).length=32:=by simp
    refine sadd_b (by rw[YAO,rl];omega) ?_;rw[tl];refine ZAA.s (n:=1) (by decide) (by decide) (by omega) fun h10 k10 =>?_;refine sadd_b (by rw[YAO,YAO,rl,be_len];omega) ?_;have k1_10:=(k7.n k9).n k10;generalize hQ:(P++e.vec.flatMap fun x=>be x.toNat 2)++Vector.toList e.root++be e.tables.length 1=Q at *;have hQl:Q.length≤100:=by rw[←hQ];simp only [YAO,rl,be_len];omega
    refine lp_go (fun (y:ByteArray×Int×Unit) (h11:Heap)=>∃t:Nat,y.2.1=t∧t≤e.tables.length∧Keep [] h1 h11∧y.1=bx (Q++(e.tables.take t).flatMap fun z=>z.toList)) (fun (y:ByteArray×Int×Unit) _=>e.tables.length-y.2.1.toNat) ?_ ?_
    ·exact ⟨0,rfl,YAh _,k1_10,by simp⟩
    rintro ⟨(ac:ByteArray),(ii:Int),_⟩ h11 ⟨t,et,ht,k11,ea⟩;dsimp only at et ea ⊢;subst et;subst ea;obtain ⟨f0,f1,f2,f3,f35,f36⟩:=et_f (k11.g e1);refine ld_go f35 ?_;have hfl2:(((e.tables.take t).flatMap fun z=>z.toList)).length≤768:=by rw[flat32_len,YAT];omega
    by_cases hlt:t<e.tables.length
    ·rw[if_pos (show decide ((t:Int)<(v.2.2.2.2.1.len:Int))=true from dT (by omega))];refine ld_go f35 ?_;refine seg_ix (a1.keep k11).t (x:=e.tables[t]) (by omega) (by simp[hlt]) rfl ?_;have hxe:e.tables.take (t+1)=e.tables.take t++[e.tables[t]]:=YAa hlt;generalize e.tables[t]=x at *;refine ZAW.s fun h12 k12 =>?_;have xl:(Vector.toList x).length=32:=by simp
     refine sadd_b (by rw[YAO,xl];omega) ?_;have hw:w64 ((t:Int)+1)=((t+1:Nat):Int):=w6 (by omega);rw[hw];refine ⟨⟨t+1,rfl,by omega,k11.n k12,?_⟩,by simp;omega⟩;rw[hxe,YAH,←YAD];simp
    ·rw[if_neg (show ¬decide ((t:Int)<(v.2.2.2.2.1.len:Int))=true from dn (by omega))];obtain rfl:t=e.tables.length:=by omega
     rw[YAY] at *;exact hK' h11 (k1.n k11)
theorem clone_int.s {es:Slc} {xs:List (Kd.Ty .i)} {h:Heap} {K:Slc→Heap→Prop} (g:Seg .i es xs h) (hl:xs.length*8≤140737488355328)
 (hK:∀s' h',Keep [] h h'→Row h' t_int .i s' xs→(∀b∈own s',h.size≤b)→K s' h'):ZAj.C es h K:=by
 apply ZAj.c;unfold ZAj.m;have hlen:=g.len;by_cases ha':es.isNil=true
 ·rw[if_pos ha'];have ha:=Slc.a_nil ha'
  have:xs=[]:=by
   cases xs with
   | nil=>rfl
   | cons x r=>obtain ⟨l,hl,_⟩:=g.el 0 x (by simp);rw[ha] at hl;simp at hl
  subst this;exact hK _ _ Keep.rfl Row.nil (by simp[own])
 ·rw[if_neg ha'];show slCells es (es.len*1) (h.push (robj t_int .i [])) _;refine slCells_seg (g.keep (by decide) keep_push) (by rw[hlen];rfl) ?_;refine ap_row (ys:=xs) (Row.of_new (zs:=[]) (b:=h.size) get_push rfl rfl rfl) hlen rfl (by simp only [YAS,Nat.zero_add,hlen];exact hl) fun s' h' r k o =>?_;refine hK s' h' (keep_push.new k (by simp[own])) (by simpa using r) fun b hb =>?_;rcases own_of o b hb with e | e
  ·simp[own] at e;omega
  ·rw[e];simp
theorem clone_str.s {es:Slc} {xs:List (Kd.Ty .s)} {h:Heap} {K:Slc→Heap→Prop} (g:Seg .s es xs h) (hl:xs.length*16≤140737488355328)
 (hK:∀s' h',Keep [] h h'→Row h' t_string .s s' xs→(∀b∈own s',h.size≤b)→K s' h'):ZAd.C es h K:=by
 apply ZAd.c;unfold ZAd.m;have hlen:=g.len;by_cases ha':es.isNil=true
 ·rw[if_pos ha'];have ha:=Slc.a_nil ha'
  have:xs=[]:=by
   cases xs with
   | nil=>rfl
   | cons x r=>obtain ⟨l,hl,_⟩:=g.el 0 x (by simp);rw[ha] at hl;simp at hl
  subst this;exact hK _ _ Keep.rfl Row.nil (by simp[own])
 ·rw[if_neg ha'];show slCells es (es.len*1) (h.push (robj t_string .s [])) _;refine slCells_seg (g.keep (by decide) keep_push) (by rw[hlen];rfl) ?_;refine ap_row (ys:=xs) (Row.of_new (zs:=[]) (b:=h.size) get_push rfl rfl rfl) hlen rfl (by simp only [YAS,Nat.zero_add,hlen];exact hl) fun s' h' r k o =>?_;refine hK s' h' (keep_push.new k (by simp[own])) (by simpa using r) fun b hb =>?_;rcases own_of o b hb with e | e
  ·simp[own] at e;omega
  ·rw[e];simp
theorem clone_hash.s {es:Slc} {xs:List (Kd.Ty (.ar 32 .u8))} {h:Heap} {K:Slc→Heap→Prop} (g:Seg (.ar 32 .u8) es xs h) (hl:xs.length*32≤140737488355328)
 (hK:∀s' h',Keep [] h h'→Row h' t_api_Hash (.ar 32 .u8) s' xs→(∀b∈own s',h.size≤b)→K s' h'):ZAI.C es h K:=by
 apply ZAI.c;unfold ZAI.m;have hlen:=g.len;by_cases ha':es.isNil=true
 ·rw[if_pos ha'];have ha:=Slc.a_nil ha'
  have:xs=[]:=by
   cases xs with
   | nil=>rfl
   | cons x r=>obtain ⟨l,hl,_⟩:=g.el 0 x (by simp);rw[ha] at hl;simp at hl
  subst this;exact hK _ _ Keep.rfl Row.nil (by simp[own])
 ·rw[if_neg ha'];show slCells es (es.len*32) (h.push (robj t_api_Hash (.ar 32 .u8) [])) _;refine slCells_seg (g.keep (by decide) keep_push) (by rw[hlen];rfl) ?_;refine ap_row (ys:=xs) (Row.of_new (zs:=[]) (b:=h.size) get_push rfl rfl rfl) hlen rfl (by simp only [YAS,Nat.zero_add,hlen];exact hl) fun s' h' r k o =>?_;refine hK s' h' (keep_push.new k (by simp[own])) (by simpa using r) fun b hb =>?_;rcases own_of o b hb with e | e
  ·simp[own] at e;omega
  ·rw[e];simp
theorem tagU {h:Heap} {T T':Nat} {k k':Kd} {u v:Slc} {xs:List k.Ty} {ys:List k'.Ty} (r:Row h T k u xs) (r':Row h T' k' v ys) (hT:T≠T'):∀q∈own u,q∉own v:=fun q hq=>by
 rcases r with ⟨e,_⟩ | ⟨b,zs,e,_,_,e4⟩
 ·rw[e] at hq;simp[own] at hq
 ·have:q=b:=by unfold own at hq;rw[e] at hq;simpa using hq
  subst this;exact rowT r' e4 hT
theorem equal_int.s {s1 s2:Slc} {xs ys:List Int} {h:Heap} {K:Bool→Heap→Prop} (g1:Seg .i s1 xs h) (g2:Seg .i s2 ys h) (hl:xs.length≤9223372036854775806) (hK:K (decide (xs=ys)) h):ZAy.C s1 s2 h K:=by
 apply ZAy.c;unfold ZAy.m;have l1:=g1.len;have l2:=g2.len;by_cases hle:xs.length=ys.length
 ·rw[if_neg (by rw[l1,l2,hle];simp)];refine lp_go (fun (y:Int×Unit) (h1:Heap)=>h1=h∧∃t:Nat,y.1=t∧t≤xs.length∧xs.take t=ys.take t) (fun (y:Int×Unit) _=>xs.length-y.1.toNat) ?_ ?_
  ·exact ⟨rfl,0,rfl,YAh _,by simp⟩
  rintro ⟨(i:Int),_⟩ h1 ⟨rfl,t,e,ht,hall⟩;dsimp only at e ⊢;subst e;by_cases hlt:t<xs.length
  ·rw[if_pos (show decide ((t:Int)<(s1.len:Int))=true from dT (by omega))];refine seg_ix g1 (x:=xs[t]) (by omega) (by simp[hlt]) rfl ?_;refine seg_ix g2 (x:=ys[t]'(by omega)) (by omega) (by rw[YAb];exact YAK (by omega)) rfl ?_;by_cases hx:xs[t]=ys[t]'(by omega)
   ·rw[if_neg (by simp[hx])];have hw:w64 ((t:Int)+1)=((t+1:Nat):Int):=w6 (by omega);rw[hw];refine ⟨⟨rfl,t+1,rfl,by omega,?_⟩,by simp;omega⟩;rw[YAa hlt,YAa (show t<ys.length by omega),hall,hx]
   ·rw[if_pos (by simpa using hx)];have:decide (xs=ys)=false:=dF fun e=>hx (by subst e;rfl);rw[this] at hK;exact hK
  ·rw[if_neg (show ¬decide ((t:Int)<(s1.len:Int))=true from dn (by omega))];rw[YAZ (by omega),YAZ (by omega)] at hall;rw[dT hall] at hK;exact hK
 ·rw[if_pos (by rw[l1,l2];simp;omega)];have:decide (xs=ys)=false:=dF fun e=>hle (by rw[e]);rw[this] at hK;exact hK
structure EtR (h:Heap) (v:EtK.Ty) (e:Ett):Prop where
 u:v.1=e.user
 q:v.2.1=e.seq
 w:Row h t_int .i v.2.2.1 e.vec
 r:v.2.2.2.1=e.root
 t:Row h t_api_Hash (.ar 32 .u8) v.2.2.2.2.1 e.tables
 s:v.2.2.2.2.2.1=bx e.sign
theorem EtR.at {h:Heap} {v:EtK.Ty} {e:Ett} (a:EtR h v e):EtAt h v e:=⟨a.u,a.q,a.w.seg,a.r,a.t.seg,a.s⟩
def etO (v:EtK.Ty):List Nat:=own v.2.2.1++own v.2.2.2.2.1
theorem EtR.keep {h h':Heap} {v:EtK.Ty} {e:Ett} {S:List Nat} (a:EtR h v e) (k:Keep S h h') (hS:∀b∈etO v,b∉S):EtR h' v e:=
 ⟨a.u,a.q,a.w.keep k (fun b hb=>hS b (by unfold etO;simp[hb])),a.r,a.t.keep k (fun b hb=>hS b (by unfold etO;simp[hb])),a.s⟩
theorem et_w2 {v:EtK.Ty} {y:Slc}:wrL (EtK.cells v) 2 (Kd.sl.cells y)=EtK.cells ((v.1,(v.2.1,(y,v.2.2.2))):EtK.Ty):=rfl
theorem et_w35 {v:EtK.Ty} {y:Slc}:wrL (EtK.cells v) 35 (Kd.sl.cells y)=EtK.cells ((v.1,(v.2.1,(v.2.2.1,(v.2.2.2.1,(y,v.2.2.2.2.2))))):EtK.Ty):=by
 have l3:((Kd.ar 32 .u8).cells v.2.2.2.1).length=32:=Kd.cells_length ..
 have e0:∀w:Slc×ByteArray×Unit,EtK.cells ((v.1,(v.2.1,(v.2.2.1,(v.2.2.2.1,w)))):EtK.Ty)=((Kd.i.cells v.1++(Kd.i.cells v.2.1++Kd.sl.cells v.2.2.1))++(Kd.ar 32 .u8).cells v.2.2.2.1)++(Kd.sl.cells w.1++(Kd.s.cells w.2.1++[])):=fun w=>by
  rw[YAD];rfl
 have e1:=e0 v.2.2.2.2;have e2:=e0 (y,v.2.2.2.2.2);rw[e2];have e1:EtK.cells v=_:=e1;rw[e1];have l35:((Kd.i.cells v.1++(Kd.i.cells v.2.1++Kd.sl.cells v.2.2.1))++(Kd.ar 32 .u8).cells v.2.2.2.1).length=35:=by rw[YAO,l3];rfl
 generalize ((Kd.i.cells v.1++(Kd.i.cells v.2.1++Kd.sl.cells v.2.2.1))++(Kd.ar 32 .u8).cells v.2.2.2.1)=A at *;unfold wrL;rw[YAX l35,←YAF,YAG l35,YAD]
 rfl
theorem ZCn.s {v:EtK.Ty} {e:Ett} {h:Heap} {K:EtK.Ty→Heap→Prop} (a:EtAt h v e) (hv:e.vec.length*8≤140737488355328) (ht:e.tables.length*32≤140737488355328)
 (hK:∀v' h',Keep [] h h'→EtR h' v' e→(∀b∈etO v',h.size≤b)→K v' h'):ZCn.C v h K:=by
 apply ZCn.c;unfold ZCn.m;refine new_gen fun b1 h1 hb1 k1 e1 hs1 =>?_;have e1:h1[b1]? = some (vobj t_api_Entry EtK v):=e1;refine new_gen fun b2 h2 hb2 k2 e2 hs2 =>?_;have e2:h2[b2]? = some (vobj t_api_Entry EtK _):=e2;have e12:=k2.g e1;have a2:=(a.keep k1).keep k2;refine ld_go (et_f e12).2.2.1 (ld_go (et_f e12).2.2.2.2.1 ?_);refine clone_int.s a2.w hv fun s3 h3 k3 r3 o3 =>?_;refine ⟨(et_f (k3.g e12)).2.2.2.2.1,?_⟩;refine clone_hash.s (a2.keep k3).t ht fun s4 h4 k4 r4 o4 =>?_;have k24:Keep [] h2 h4:=k3.n k4;have e14:=k24.g e12;have e24:=k24.g e2;have z1:=k1.1;have z2:=k2.1;have z3:=k3.1;refine st_fld (k:=EtK) (k' := .sl) (n:=2) e14 (by decide) et_w2 ?_;have e5:=get_set (o':=vobj t_api_Entry EtK ((v.1,(v.2.1,(s3,v.2.2.2))):EtK.Ty)) e14;have k5:Keep [b1] h4 (h4.setIfInBounds b1 (vobj t_api_Entry EtK ((v.1,(v.2.1,(s3,v.2.2.2))):EtK.Ty))):=keep_set;generalize h4.setIfInBounds b1 (vobj t_api_Entry EtK ((v.1,(v.2.1,(s3,v.2.2.2))):EtK.Ty))=h5 at e5 k5 ⊢;refine st_fld (k:=EtK) (k' := .sl) (n:=35) e5 (by decide) et_w35 ?_;dsimp only;have e6:=get_set (o':=vobj t_api_Entry EtK ((v.1,(v.2.1,(s3,(v.2.2.2.1,(s4,v.2.2.2.2.2))))):EtK.Ty)) e5;have k6:Keep [b1] h5 (h5.setIfInBounds b1 (vobj t_api_Entry EtK ((v.1,(v.2.1,(s3,(v.2.2.2.1,(s4,v.2.2.2.2.2))))):EtK.Ty))):=keep_set;generalize h5.setIfInBounds b1 (vobj t_api_Entry EtK ((v.1,(v.2.1,(s3,(v.2.2.2.1,(s4,v.2.2.2.2.2))))):EtK.Ty))=h6 at e6 k6 ⊢;refine ld_go (sm_all e6) ?_;have n21:b2≠b1:=by have:=lt_of_some e1;omega
 have e26:=k6.get (k5.get e24 (by simpa using n21)) (by simpa using n21);refine st_to e26 fun h7 k7 e7 hs7=>ld_go (sm_all e7) ?_;have off:∀ {T:Nat} {k:Kd} {u:Slc} {L:List k.Ty} {hh:Heap} {b:Nat} {x:EtK.Ty},Row hh T k u L→hh[b]? = some (vobj t_api_Entry EtK x)→T≠t_api_Entry→∀q∈own u,q∉[b]:=fun r e hT q hq hm=>by simp at hm;subst hm;exact rowT r e (fun h=>hT h.symm) hq
 have mv:∀ {T:Nat} {k:Kd} {u:Slc} {L:List k.Ty},Row h4 T k u L→T≠t_api_Entry→Row h7 T k u L:=fun r hT=>by
  have r5:=r.keep k5 (off r e14 hT);have r6:=r5.keep k6 (off r5 e5 hT);exact r6.keep k7 (off r6 e26 hT)
 refine hK _ h7 ?_ ⟨a.u,a.q,mv (r3.keep k4 (by simp)) (by decide),a.r,mv r4 (by decide),a.s⟩ fun b hb =>?_
 ·exact ((((k1.n k2).n k24).new k5 (by simp;omega)).new k6 (by simp;omega)).new k7 (by simp;omega)
 ·unfold etO at hb;rcases List.mem_append.1 hb with hb | hb
  ·have:=o3 b hb;omega
  ·have:=o4 b hb;omega
def MbU (n0:Nat) (h:Heap) (v:MbK.Ty) (m:Mb):Prop:=v.1=m.users∧∃gs,Row h t_s_int .sl v.2.1 gs∧(∀q∈own v.2.1,n0≤q)∧All2 (fun s us=>Row h t_int .i s us∧(∀q∈own s,n0≤q)∧us.length*8≤140737488355328) gs m.groups
theorem MbU.at {n0:Nat} {h:Heap} {v:MbK.Ty} {m:Mb} (a:MbU n0 h v m):MbAt h v m:=by
 obtain ⟨u,gs,r,_,al⟩:=a;exact ⟨u,gs,r.seg,All2.mono (fun s us x=>⟨x.1.seg,by have:=x.2.2;omega⟩) al⟩
theorem MbU.keep {n0:Nat} {h h':Heap} {v:MbK.Ty} {m:Mb} {S:List Nat} (a:MbU n0 h v m) (k:Keep S h h') (hS:∀b∈S,b<n0∨∀c f,h[b]? ≠ some (.cells c t_s_int f)∧h[b]? ≠ some (.cells c t_int f)):MbU n0 h' v m:=by
 obtain ⟨u,gs,r,o,al⟩:=a
 have kp:∀ {T:Nat} {k:Kd} {s:Slc} {L:List k.Ty},Row h T k s L→(∀q∈own s,n0≤q)→T=t_s_int∨T=t_int→Row h' T k s L:=fun {T k' s L} r o hT=>r.keep k fun b hb hm=>by
  rcases hS b hm with h1 | h1
  ·have:=o b hb;omega
  ·rcases r with ⟨e,_⟩ | ⟨b',zs,e,_,_,e4⟩
   ·rw[e] at hb;simp[own] at hb
   ·have:b=b':=by unfold own at hb;rw[e] at hb;simpa using hb
    subst this;rcases hT with rfl | rfl
    ·exact (h1 _ _).1 e4
    ·exact (h1 _ _).2 e4
 exact ⟨u,gs,kp r o (.inl rfl),o,All2.mono (fun s us x=>⟨kp x.1 x.2.1 (.inr rfl),x.2⟩) al⟩
theorem ZCV.s {mv:MbK.Ty} {m:Mb} {h:Heap} {K:MbK.Ty→Heap→Prop} (am:MbAt h mv m) (hb:m.groups.length*24≤140737488355328) (hg:∀g∈m.groups,g.length*8≤140737488355328)
 (hK:∀h' mv',Keep [] h h'→MbU h.size h' mv' m→K mv' h'):ZCV.C mv h K:=by
 obtain ⟨hu,gs,ggs,gal⟩:=am;obtain ⟨(u:Int),(gl:Slc),⟨⟩⟩:=mv;have hu:u=m.users:=hu;have ggs:Seg .sl gl gs h:=ggs;apply ZCV.c;unfold ZCV.m;refine new_gen fun b1 h1 hb1 k1 e1 hs1 =>?_;have e1:h1[b1]? = some (vobj t_api_Members MbK ((u,(gl,())):MbK.Ty)):=e1;refine new_gen fun b2 h2 hb2 k2 e2 hs2 =>?_;have e2:h2[b2]? = some (vobj t_api_Members MbK ((0,((⟨none,0,0⟩:Slc),())):MbK.Ty)):=e2;have e1:=k2.g e1;refine ld_go (k := .i) (x:=u) (sm_sub (sm_all e1) (by decide) rfl) ?_;refine new_st_gen fun b3 h4 hb3 k4 e4 hs4 =>?_;have e4:h4[b3]? = some (vobj t_api_Members MbK ((u,((⟨none,0,0⟩:Slc),())):MbK.Ty)):=e4;have e1:=k4.g e1;have e2:=k4.g e2;have k04:Keep [] h h4:=(k1.n k2).n k4;have gsl:=ggs.len;have gal':=gal.len;refine ld_go (k := .sl) (x:=gl) (sm_sub (sm_all e1) (by decide) rfl) ?_;refine lp_go (fun (y:Int×Unit) (h5:Heap)=>∃n:Nat,y.1=n∧n≤m.groups.length∧Keep [] h h5∧h4.size≤h5.size∧h5[b1]? = some (vobj t_api_Members MbK ((u,(gl,())):MbK.Ty))∧h5[b2]? = some (vobj t_api_Members MbK ((0,((⟨none,0,0⟩:Slc),())):MbK.Ty))∧∃s us,h5[b3]? = some (vobj t_api_Members MbK ((u,(s,())):MbK.Ty))∧Row h5 t_s_int .sl s us∧(∀q∈own s,h4.size≤q)∧All2 (fun s' us=>Row h5 t_int .i s' us∧(∀q∈own s',h4.size≤q)) us (m.groups.take n)) (fun (y:Int×Unit) _=>m.groups.length-y.1.toNat) ?_ ?_
 ·exact ⟨0,rfl,by omega,k04,YAd _,e1,e2,⟨none,0,0⟩,[],e4,Row.nil,by simp[own],all2_nil⟩
 rintro ⟨(i:Int),_⟩ h5 ⟨n,e,hn,k5,z5,g1,g2,s,us,g3,r5,o5,a5⟩;dsimp only at e ⊢;subst e;have z04:=k04.1;have z1:=k1.1;have z2:=k2.1;by_cases hlt:n<m.groups.length
 case neg=>
  rw[if_neg (show ¬decide ((n:Int)<(gl.len:Int))=true from dn (by omega))];obtain rfl:n=m.groups.length:=by omega
  rw[YAY] at a5;refine ld_go (sm_all g3) ?_;refine st_to (y:=((u,(s,())):MbK.Ty)) g2 fun h6 k6 e6 hs6 =>?_;refine ld_go (sm_all e6) ?_;have off:∀ {T:Nat} {k:Kd} {u:Slc} {L:List k.Ty},Row h5 T k u L→T≠t_api_Members→∀q∈own u,q∉[b2]:=fun r hT q hq hm=>by simp at hm;subst hm;exact rowT r g2 (fun e=>hT e.symm) hq
  refine hK h6 _ (k5.new k6 (by simp;omega)) ⟨hu,us,r5.keep k6 (off r5 (by decide)),fun q hq=>by have:=o5 q hq;omega,All2.monoM (fun u _ g hg' r=>⟨r.1.keep k6 (off r.1 (by decide)),fun q hq=>by have:=r.2 q hq;omega,hg g hg'⟩) a5⟩
 rw[if_pos (show decide ((n:Int)<(gl.len:Int))=true from dT (by omega))];have hwn:w64 ((n:Int)+1)=((n+1:Nat):Int):=w6 (by omega);rw[hwn];have hgn:n<gs.length:=by omega
 refine seg_ix (ggs.keep (by decide) k5) (x:=gs[n]) (by omega) (by rw[YAb];exact YAK hgn) rfl ?_;refine ld_go (k := .sl) (x:=s) (sm_sub (sm_all g3) (by decide) rfl) ?_;have hgx:=gal.getI hgn hlt;have hg8:=hg _ (YAN hlt);refine clone_int.s (hgx.1.keep (by decide) k5) hg8 fun s2 h7 k7 r7 o7 =>?_;have g37:=k7.g g3;refine ⟨sm_sub (sm_all g37) (by decide) rfl,?_⟩;refine bs_go ?_;have k8:Keep [] h7 (h7.push (robj t_s_int .sl [s2])):=keep_push;have e8:(h7.push (robj t_s_int .sl [s2]))[h7.size]? = some (robj t_s_int .sl [s2]):=get_push;have hz8:h7.size<(h7.push (robj t_s_int .sl [s2])).size:=by simp
 generalize hbv:h7.size=bv at e8 hz8;generalize (h7.push (robj t_s_int .sl [s2]))=h8 at k8 e8 hz8 ⊢;have k58:Keep [] h5 h8:=k7.n k8;refine ⟨sm_sub (sm_all (k58.g g3)) (by decide) rfl,?_⟩;refine slCells_row (k := .sl) (xs:=[s2]) e8 rfl (i:=0) (j:=1) (by simp) rfl (by simp) ?_;have r8:=r5.keep k58 (by simp);have al:=a5.len;rw[YAT] at al;refine ap_row (T:=t_s_int) (k := .sl) (ys:=[s2]) r8 rfl (by simp[Kd.cells]) (by simp only [List.length_singleton];omega) fun s4 h9 r9 k9 o9 =>?_;have g38:=k58.g g3;have g39:=k9.get g38 (rowT r8 g38 (by decide));have g19:=k9.get (k58.g g1) (rowT r8 (k58.g g1) (by decide));have g29:=k9.get (k58.g g2) (rowT r8 (k58.g g2) (by decide));refine st_fld (k:=MbK) (k' := .sl) (y:=s4) (n:=1) (x:=((u,(s,())):MbK.Ty)) (x':=((u,(s4,())):MbK.Ty)) g39 (by decide) rfl ?_;have e10:=get_set (o':=vobj t_api_Members MbK ((u,(s4,())):MbK.Ty)) g39;have k10:Keep [b3] h9 (h9.setIfInBounds b3 (vobj t_api_Members MbK ((u,(s4,())):MbK.Ty))):=keep_set;generalize h9.setIfInBounds b3 (vobj t_api_Members MbK ((u,(s4,())):MbK.Ty))=h10 at e10 k10;have off:∀ {T:Nat} {k:Kd} {u:Slc} {L:List k.Ty},Row h9 T k u L→T≠t_api_Members→∀q∈own u,q∉[b3]:=fun r hT q hq hm=>by simp at hm;subst hm;exact rowT r g39 (fun e=>hT e.symm) hq
 have rr:∀ {u:Slc} {L:List Int},Row h8 t_int .i u L→Row h10 t_int .i u L:=fun r=>by
  have r9':=r.keep k9 (tagU r r8 (by decide));exact r9'.keep k10 (off r9' (by decide))
 have z7:=k7.1;have z58:=k58.1;have z9:=k9.1;have z10:=k10.1;refine ⟨⟨n+1,rfl,by omega,((k5.n k58).new k9 fun q hq=>by have:=o5 q hq;omega).new k10 (by simp;omega),by omega,k10.get g19 (by simp;omega),k10.get g29 (by simp;omega),s4,us++[s2],e10,r9.keep k10 (off r9 (by decide)),fun q hq =>?_,?_⟩,by simp;omega⟩
 ·rcases own_of o9 q hq with e | e
  ·exact o5 q e
  ·omega
 ·rw[YAa hlt];exact All2.app (a5.mono fun _ _ r=>⟨rr (r.1.keep k58 (by simp)),r.2⟩) ⟨⟨rr (r7.keep k8 (by simp)),fun q hq=>by have:=o7 q hq;omega⟩,trivial⟩
def leafV (s:By):HVec:=shaL (0::s)
def joinV (a b:HVec):HVec:=shaL (1::(a.toList++b.toList))
def cutF:Nat→Nat→Nat→Nat
 | 0,_,k=>k
 | f+1,n,k=>if 2*k<n then cutF f n (2*k) else k
def cutN (n:Nat):Nat:=cutF n n 1
theorem cutF_eq {n b:Nat} (h1:2^b<n) (h2:n≤2^(b+1)):∀ {f j:Nat},j≤b→b-j<f→cutF f n (2^j)=2^b
 | 0,j,hj,hf=>by omega
 | f + 1, j, hj, hf => by
   unfold cutF;by_cases e:j=b
   ·subst e;rw[YAg] at h2;rw[if_neg (by omega)]
   ·have h3:2^(j+1)≤2^b:=YAf (by decide) (by omega);have h4:2*2^j=2^(j+1):=by rw[YAg,Nat.mul_comm]
    rw[h4,if_pos (by omega)];exact cutF_eq h1 h2 (by omega) (by omega)
theorem cut_eq {n b:Nat} (h1:2^b<n) (h2:n≤2^(b+1)):cutN n=2^b:=by
 have:b<2^b:=Nat.lt_two_pow_self;exact cutF_eq (j:=0) h1 h2 (by omega) (by omega)
theorem cut_ex {n:Nat} (h:2≤n):∃b,2^b<n∧n≤2^(b+1):=by
 refine ⟨(n-1).log2,?_,?_⟩
 ·have:=Nat.log2_self_le (n:=n-1) (by omega);omega
 ·have:=Nat.lt_log2_self (n:=n-1);omega
theorem cut_lt {n:Nat} (h:2≤n):1≤cutN n∧cutN n<n:=by
 obtain ⟨b,h1,h2⟩:=cut_ex h;rw[cut_eq h1 h2];exact ⟨YAe,h1⟩
def rootF:Nat→List By→HVec
 | 0,_=>shaL []
 | f+1,ls=>if ls.length=0 then shaL [] else if ls.length=1 then leafV (ls.getD 0 []) else joinV (rootF f (ls.take (cutN ls.length))) (rootF f (ls.drop (cutN ls.length)))
theorem rootF_more:∀ {f g:Nat} {ls:List By},ls.length≤f→ls.length≤g→rootF f ls=rootF g ls
 | 0,0,ls,_,_=>rfl
 | 0, g + 1, ls, h, _ => by
   have h0:ls.length=0:=by omega
   unfold rootF;rw[if_pos h0]
 | f + 1, 0, ls, _, h => by
   have h0:ls.length=0:=by omega
   unfold rootF;rw[if_pos h0]
 | f + 1, g + 1, ls, hf, hg => by
   unfold rootF;by_cases h0:ls.length=0
   ·rw[if_pos h0,if_pos h0]
   rw[if_neg h0,if_neg h0];by_cases h1:ls.length=1
   ·rw[if_pos h1,if_pos h1]
   rw[if_neg h1,if_neg h1];have hc:=cut_lt (n:=ls.length) (by omega);rw[rootF_more (f:=f) (g:=g) (ls:=ls.take (cutN ls.length)) (by rw[YAT];omega) (by rw[YAT];omega),rootF_more (f:=f) (g:=g) (ls:=ls.drop (cutN ls.length)) (by rw[YAQ];omega) (by rw[YAQ];omega)]
def rootV (ls:List By):HVec:=rootF ls.length ls
theorem rootV_nil:rootV []=shaL []:=rfl
theorem rootV_one {s:By}:rootV [s]=leafV s:=rfl
theorem rootV_cut {ls:List By} (h:2≤ls.length):rootV ls=joinV (rootV (ls.take (cutN ls.length))) (rootV (ls.drop (cutN ls.length))):=by
 have hc:=cut_lt h;have e:ls.length=(ls.length-1)+1:=by omega
 have e0:rootV ls=rootF ((ls.length-1)+1) ls:=by unfold rootV;rw[←e]
 rw[e0];unfold rootF;rw[if_neg (by omega),if_neg (by omega)];unfold rootV;rw[rootF_more (f:=ls.length-1) (g:=(ls.take (cutN ls.length)).length) (by rw[YAT];omega) (YAd _),rootF_more (f:=ls.length-1) (g:=(ls.drop (cutN ls.length)).length) (by rw[YAQ];omega) (YAd _)]
theorem rootV_split {l1 l2:List By} {b:Nat} (h1:l1.length=2^b) (h2:0<l2.length) (h3:l2.length≤2^b):rootV (l1++l2)=joinV (rootV l1) (rootV l2):=by
 have hp:1≤2^b:=YAe;have hl:(l1++l2).length=l1.length+l2.length:=YAO;have hc:cutN (l1++l2).length=2^b:=cut_eq (by omega) (by rw[YAg];omega);rw[rootV_cut (by omega),hc,YAX h1,YAG h1]
def Peaks:List (Nat×HVec)→List By→Prop
 | [],ls=>ls=[]
 | y::rest,ls=>∃b l1 l2,y.1=2^b∧ls=l1++l2∧l2.length=2^b∧y.2=rootV l2∧(∀z∈rest,2^(b+1)≤z.1)∧Peaks rest l1
def pushP:Nat→HVec→List (Nat×HVec)→List (Nat×HVec)
 | n,r,[]=>[(n,r)]
 | n,r,y::rest=>if y.1=n then pushP (2*n) (joinV y.2 r) rest else (n,r)::y::rest
def bagP:HVec→List (Nat×HVec)→HVec
 | acc,[]=>acc
 | acc,y::rest=>bagP (joinV y.2 acc) rest
def topP:List (Nat×HVec)→HVec
 | []=>shaL []
 | y::rest=>bagP y.2 rest
theorem push_peaks:∀ {row:List (Nat×HVec)} {ls lx:List By} {b:Nat},Peaks row ls→lx.length=2^b→(∀y∈row,2^b≤y.1)→Peaks (pushP (2^b) (rootV lx) row) (ls++lx)
 | [], ls, lx, b, h, hl, _ => by
   have h:ls=[]:=h;subst h;exact ⟨b,[],lx,rfl,rfl,hl,rfl,by simp,rfl⟩
 | y :: rest, ls, lx, b, h, hl, hy => by
   obtain ⟨c,l1,l2,e1,e2,e3,e4,e5,e6⟩:=h;unfold pushP;by_cases e:y.1=2^b
   ·rw[if_pos e];have hb:l2.length=2^b:=by omega
    have hbc:2^(c+1)=2^(b+1):=by rw[YAg,YAg];omega
    have hp:1≤2^b:=YAe;rw[e4,←rootV_split (b:=b) hb (by omega) (by omega),show 2*2^b=2^(b+1) by rw[YAg,Nat.mul_comm],e2,YAD];exact push_peaks e6 (by rw[YAO,hb,hl,YAg];omega) fun z hz=>by rw[←hbc];exact e5 z hz
   ·rw[if_neg e];have h1:=hy y (by simp)
    have hcb:b<c:=by
     rcases Nat.lt_trichotomy b c with h | h | h
     ·exact h
     ·rw[h] at e;exact absurd e1 e
     ·have:2^c<2^b:=Nat.pow_lt_pow_right (by decide) h;omega
    have h2:2^(b+1)≤2^c:=YAf (by decide) (by omega);refine ⟨b,ls,lx,rfl,rfl,hl,rfl,fun z hz =>?_,⟨c,l1,l2,e1,e2,e3,e4,e5,e6⟩⟩;rcases List.mem_cons.1 hz with rfl | hz
    ·omega
    ·have:=e5 z hz;have h3:2^c≤2^(c+1):=YAf (by decide) (by omega);omega
theorem bag_peaks:∀ {row:List (Nat×HVec)} {ls lx:List By},Peaks row ls→0<lx.length→(∀y∈row,lx.length≤y.1)→bagP (rootV lx) row=rootV (ls++lx)
 | [], ls, lx, h, _, _ => by
   have h:ls=[]:=h;subst h;rfl
 | y :: rest, ls, lx, h, h0, hy => by
   obtain ⟨c,l1,l2,e1,e2,e3,e4,e5,e6⟩:=h;unfold bagP;have h1:=hy y (by simp);rw[e4,←rootV_split (b:=c) e3 h0 (by omega),e2,YAD];refine bag_peaks e6 (by rw[YAO];omega) fun z hz =>?_;have:=e5 z hz;rw[YAg] at this;rw[YAO];omega
theorem top_peaks {row:List (Nat×HVec)} {ls:List By} (h:Peaks row ls):topP row=rootV ls:=by
 cases row with
 | nil =>
   have h:ls=[]:=h;subst h;rfl
 | cons y rest =>
   obtain ⟨c,l1,l2,e1,e2,e3,e4,e5,e6⟩:=h;show bagP y.2 rest=rootV ls;have hp:1≤2^c:=YAe;rw[e4,e2];refine bag_peaks e6 (by omega) fun z hz =>?_;have:=e5 z hz;rw[YAg] at this;omega
theorem ZCo.s {u v:Kd.Ty (.ar 32 .u8)} {h:Heap} {K:Kd.Ty (.ar 32 .u8)→Heap→Prop} (hK:∀h',Keep [] h h'→K (joinV u v) h'):ZCo.C u v h K:=by
 apply ZCo.c;unfold ZCo.m;refine new_gen fun b1 h1 hb1 k1 e1 hs1 =>?_;refine new_gen fun b2 h2 hb2 k2 e2 hs2 =>?_;refine new_gen fun b3 h3 hb3 k3 e3 hs3 =>?_;have e13:=k3.g (k2.g e1);have e23:=k3.g e2;refine ⟨by decide,by decide,by decide,?_⟩;have g:Seg .u8 ⟨some ⟨b1,0⟩,32,32⟩ (Vector.toList u) h3:=ar_seg e13;refine b2s_segq g fun q hq =>?_;have hu:(Vector.toList u).length=32:=by simp
 have hv:(Vector.toList v).length=32:=by simp
 show sadd (bx [1]) (bx (Vector.toList u)) _;refine sadd_b (by rw[hu];decide) ?_;refine ⟨by decide,by decide,by decide,?_⟩;have g2:Seg .u8 ⟨some ⟨b2,0⟩,32,32⟩ (Vector.toList v) h3:=ar_seg e23;refine b2s_segq g2 fun q2 hq2 =>?_;show sadd _ (bx (Vector.toList v)) _;refine sadd_b (by rw[YAO,hu,hv];decide) ?_;refine ZBM.t (by rw[bx_size,YAO,YAO,hu,hv];decide) fun h4 k4 =>?_;rw[bx_dl];refine st_to (k4.g e3) fun h5 k5 e5 hs5=>ld_go (sm_all e5) ?_;have z1:=k1.1;have z2:=k2.1;exact hK h5 ((((k1.n k2).n k3).n k4).new k5 (by simp;omega))
theorem ZDF.s {s:By} {h:Heap} {K:Kd.Ty (.ar 32 .u8)→Heap→Prop} (hs:s.length≤900000) (hK:∀h',Keep [] h h'→K (leafV s) h'):ZDF.C (bx s) h K:=by
 apply ZDF.c;unfold ZDF.m;refine new_gen fun b1 h1 hb1 k1 e1 hs1 =>?_;show sadd (bx [0]) (bx s) _;refine sadd_b (by simp;omega) ?_;refine ZBM.t (by rw[bx_size];simp;omega) fun h4 k4 =>?_;rw[bx_dl];refine st_to (k4.g e1) fun h5 k5 e5 hs5=>ld_go (sm_all e5) ?_;exact hK h5 ((k1.n k4).new k5 (by simp;omega))
theorem ZC3.s {h:Heap} {K:Kd.Ty (.ar 32 .u8)→Heap→Prop} (hK:∀h',Keep [] h h'→K (shaL []) h'):ZC3.C ⟨none,0,0⟩ h K:=by
 apply ZC3.c;unfold ZC3.m;refine new_gen fun b1 h1 hb1 k1 e1 hs1 =>?_;rw[if_pos (show decide (((0:Nat):Int)=0)=true from rfl)];show ZBM.C (bx []) h1 _;refine ZBM.t (by simp[bx_size]) fun h4 k4 =>?_;rw[bx_dl];refine st_to (k4.g e1) fun h5 k5 e5 hs5=>ld_go (sm_all e5) ?_;exact hK h5 ((k1.n k4).new k5 (by simp;omega))
abbrev WhK:Kd := .ag (.pr .i (.pr (.ar 32 .u8) .un))
def whV (x:Nat×HVec):WhK.Ty:=((x.1:Int),(x.2,()))
abbrev TrK2:Kd := .ag (.pr .sl (.pr .i .un))
structure TreeAt (n0:Nat) (h:Heap) (t:Nat) (ls:List By):Prop where
 e:∃(s:Slc) (row:List (Nat×HVec)),h[t]? = some (vobj t_mlog_Tree TrK2 (s,((ls.length:Int),())))∧Row h t_mlog_whole WhK s (row.reverse.map whV)∧Peaks row ls∧(∀b∈own s,n0≤b)
 l:n0≤t
theorem TreeAt.keep {n0 t:Nat} {h h':Heap} {ls:List By} {S:List Nat} (a:TreeAt n0 h t ls) (k:Keep S h h') (hS:∀b∈S,b<n0∨∀c f,h[b]? ≠ some (.cells c t_mlog_whole f)∧h[b]? ≠ some (.cells c t_mlog_Tree f)):TreeAt n0 h' t ls:=by
 obtain ⟨⟨s,row,e,r,p,o⟩,l⟩:=a;refine ⟨⟨s,row,k.get e fun hm =>?_,r.keep k fun b hb hm =>?_,p,o⟩,l⟩
 ·rcases hS t hm with h1 | h1
  ·omega
  ·exact (h1 _ _).2 e
 ·rcases hS b hm with h1 | h1
  ·have:=o b hb;omega
  ·rcases r with ⟨e,_⟩ | ⟨b',zs,e,_,_,e4⟩
   ·rw[e] at hb;simp[own] at hb
   ·have:b=b':=by unfold own at hb;rw[e] at hb;simpa using hb
    subst this;exact (h1 _ _).1 e4
theorem wh_f {l:Pl} {x:Nat×HVec} {h:Heap} (e:sm WhK l (whV x) h):sm .i (l.fld 0) (x.1:Int) h∧sm (.ar 32 .u8) (l.fld 1) x.2 h:=by
 refine ⟨sm_sub e (by decide) rfl,sm_sub e (by decide) ?_⟩;have l3:((Kd.ar 32 .u8).cells x.2).length=32:=Kd.cells_length ..;have:(WhK.cells (whV x)).drop 1=(Kd.ar 32 .u8).cells x.2++[]:=rfl;rw[this];exact YAX l3
theorem bagP_cons {acc:HVec} {y:Nat×HVec} {rest:List (Nat×HVec)}:bagP acc (y::rest)=bagP (joinV y.2 acc) rest:=by rw[bagP]
theorem peaks_len:∀ {row:List (Nat×HVec)} {ls:List By},Peaks row ls→row.length≤ls.length
 | [],ls,_=>YAh _
 | y :: rest, ls, h => by
   obtain ⟨b,l1,l2,_,e2,e3,_,_,e6⟩:=h;have:=peaks_len e6;have hp:1≤2^b:=YAe;rw[e2,YAO,YAP];omega
theorem ZAS.s {n0 t:Nat} {ls:List By} {h:Heap} {K:Kd.Ty (.ar 32 .u8)→Heap→Prop} (a:TreeAt n0 h t ls) (hl:ls.length≤1000000) (hK:∀h',Keep [] h h'→K (rootV ls) h'):ZAS.C (some ⟨t,0⟩) h K:=by
 obtain ⟨⟨s,row,e,r,p,o⟩,l⟩:=a;rw[←top_peaks p] at hK;apply ZAS.c;unfold ZAS.m;refine new_gen fun b1 h1 hb1 k1 e1 hs1 =>?_;rw[if_neg (by simp)];have fs:∀ {hh:Heap},hh[t]? = some (vobj t_mlog_Tree TrK2 (s,((ls.length:Int),())))→sm .sl ((Pl.mk t 0).fld 0) s hh:=fun e=>sm_fld (n:=0) (k' := .sl) e rfl (by decide);have et1:=k1.g e;have r1:=r.keep k1 (by simp);have rl:s.len=row.length:=by rw[r.len];simp
 refine nck_go (ld_go (fs et1) ?_)
 cases hrow:row with
 | nil =>
   rw[hrow] at rl hK;rw[if_pos (show decide ((s.len:Int)=0)=true from dT (by rw[rl];rfl))];refine ZC3.s fun h3 k3 =>?_;refine st_to (k3.g e1) fun h4 k4 e4 hs4=>ld_go (sm_all e4) ?_;exact hK h4 ((k1.n k3).new k4 (by simp;omega))
 | cons y rest =>
   rw[hrow] at rl hK r1;have rl:s.len=rest.length+1:=rl;rw[if_neg (show ¬decide ((s.len:Int)=0)=true from dn (by omega))];have hpk:=peaks_len p;rw[hrow,YAP] at hpk;refine nck_go (ld_go (fs et1) (nck_go (ld_go (fs et1) ?_)));have hw1:w64 ((s.len:Int)-1)=(rest.length:Int):=w6 (by omega);have hw2:w64 ((s.len:Int)-2)=(rest.length:Int)-1:=w6 (by omega);rw[hw1]
   have hget:∀i,(hi:i<rest.length)→(((y::rest).reverse.map whV))[i]? = some (whV (rest[rest.length-1-i]'(by omega))):=fun i hi=>by
    rw[YAL,YAW,List.getElem?_append_left (by simp;omega),List.getElem?_reverse hi];rw[YAK (by omega)];rfl
   have hgl:(((y::rest).reverse.map whV))[rest.length]? = some (whV y):=by
    rw[YAL,YAW,List.getElem?_append_right (by simp)];simp
   refine seg_ixl r1.seg (x:=whV y) (by omega) (by rw[YAb];exact hgl) rfl fun l4 hl4 =>?_;refine ld_go (wh_f hl4).2 ?_;refine new_gen fun b2 h5 hb2 k5 e5 hs5 =>?_;have et5:=k5.g et1;refine ⟨sm_keep (by decide) (wh_f hl4).2 k5,fs et5,fs et5,?_⟩;refine st_to e5 fun h6 k6 e6 hs6 =>?_;have n2:b2≠t:=by have:=lt_of_some et1;omega
   have k16:Keep [] h1 h6:=k5.new k6 (by simp;omega);have et6:=k16.g et1;refine nck_go (ld_go (fs et6) ?_);rw[hw2];have zb2:h1.size≤b2:=by omega
   refine lp_go (fun (z:Int×Unit) (h7:Heap)=>∃(i:Nat) (acc:HVec),z.1=(rest.length:Int)-1-(i:Int)∧i≤rest.length∧Keep [] h1 h7∧h7[b2]? = some (vobj t_api_Hash (.ar 32 .u8) acc)∧bagP acc (rest.drop i)=bagP y.2 rest) (fun (z:Int×Unit) _=>(z.1+1).toNat) ?_ ?_
   ·exact ⟨0,y.2,by simp,YAh _,k16,e6,rfl⟩
   rintro ⟨(jj:Int),_⟩ h7 ⟨i,acc,ej,hi,k7,e7,hb⟩;dsimp only at ej ⊢;subst ej;have et7:=k7.g et1;by_cases hlt:i<rest.length
   ·rw[if_pos (show decide ((rest.length:Int)-1-(i:Int)≥0)=true from dT (by omega))];refine nck_go (ld_go (fs et7) ?_);have hx:=hget (rest.length-1-i) (by omega);have hii:rest.length-1-(rest.length-1-i)=i:=by omega
    simp only [hii] at hx;refine seg_ixl (r1.keep k7 (by simp)).seg (x:=whV rest[i]) (by omega) (by rw[show ((rest.length:Int)-1-(i:Int)).toNat=rest.length-1-i by omega];exact hx) rfl fun l7 hl7 =>?_;refine ld_go (wh_f hl7).2 (ld_go (sm_all e7) ?_);refine ZCo.s fun h8 k8 =>?_;refine st_to (k8.g e7) fun h9 k9 e9 hs9 =>?_;have hw:w64 ((rest.length:Int)-1-(i:Int)-1)=(rest.length:Int)-1-((i+1:Nat):Int):=w6 (by omega);rw[hw];refine ⟨⟨i+1,joinV rest[i].2 acc,rfl,by omega,(k7.n k8).new k9 (by simp;omega),e9,?_⟩,by omega⟩;rw[←hb,List.drop_eq_getElem_cons hlt,bagP_cons]
   ·rw[if_neg (show ¬decide ((rest.length:Int)-1-(i:Int)≥0)=true from dn (by omega))];rw[List.drop_of_length_le (by omega)] at hb;have hb:acc=bagP y.2 rest:=hb;refine ld_go (sm_all e7) ?_;refine st_to (k7.g e1) fun h10 k10 e10 hs10=>ld_go (sm_all e10) ?_;rw[hb];exact hK h10 ((k1.n k7).new k10 (by simp;omega))
theorem slx_row {h:Heap} {T sz:Nat} {k:Kd} {s:Slc} {xs:List k.Ty} {x:k.Ty} {K:Slc→Prop} (r:Row h T k s (xs++[x])) (hK:∀s',Row h T k s' xs→own s'=own s→K s'):slx s 0 (xs.length:Int) (s.cap:Int) sz K:=by
 rcases r with ⟨_,e⟩ | ⟨b,zs,e1,e2,e3,e4⟩
 ·simp at e
 rw[YAO,List.length_singleton] at e2 e3;refine slx_go (lo:=0) (hi:=xs.length) (mx:=s.cap) e1 (by omega) (by omega) (YAd _) fun l hl _ h0 =>?_;have:=h0 rfl;subst this;refine hK _ (.inr ⟨b,x::zs,rfl,by simp,by simp;omega,by rw[e4];simp⟩) ?_;unfold own;rw[e1]
theorem peaks_le:∀ {row:List (Nat×HVec)} {ls:List By},Peaks row ls→∀y∈row,y.1≤ls.length
 | [],ls,_,y,hy=>by simp at hy
 | z :: rest, ls, h, y, hy => by
   obtain ⟨b,l1,l2,e1,e2,e3,_,_,e6⟩:=h;rw[e2,YAO];rcases List.mem_cons.1 hy with rfl | hy
   ·omega
   ·have:=peaks_le e6 y hy;omega
theorem pushP_eq {n:Nat} {r:HVec} {y:Nat×HVec} {rest:List (Nat×HVec)} (h:y.1=n):pushP n r (y::rest)=pushP (2*n) (joinV y.2 r) rest:=by rw[pushP,if_pos h]
theorem pushP_ne {n:Nat} {r:HVec} {y:Nat×HVec} {rest:List (Nat×HVec)} (h:y.1≠n):pushP n r (y::rest)=(n,r)::y::rest:=by rw[pushP,if_neg h]
theorem pushP_nil {n:Nat} {r:HVec}:pushP n r []=[(n,r)]:=by rw[pushP]
theorem ZBH.s {n0 t:Nat} {ls:List By} {s:By} {h:Heap} {K:Heap→Prop} (a:TreeAt n0 h t ls) (hs:s.length≤900000) (hl:ls.length≤1000000) (hn0:n0≤h.size) (hK:∀h',Keep [t] h h'→TreeAt n0 h' t (ls++[s])→K h'):ZBH.C (some ⟨t,0⟩) (bx s) h K:=by
 obtain ⟨⟨sl,row,et,r,p,o⟩,l⟩:=a
 have pp:=push_peaks (b:=0) (lx:=[s]) p rfl (fun y hy=>by
  cases row with
  | nil=>simp at hy
  | cons z rest =>
    have:∀ {row:List (Nat×HVec)} {ls:List By},Peaks row ls→∀y∈row,1≤y.1:=by
     intro row
     induction row with
     | nil=>intro ls _ y hy;simp at hy
     | cons z rest ih =>
       intro ls h y hy;obtain ⟨b,l1,l2,e1,e2,e3,_,_,e6⟩:=h;rcases List.mem_cons.1 hy with rfl | hy
       ·rw[e1];exact YAe
       ·exact ih e6 y hy
    exact this p y hy)
 rw[rootV_one,Nat.pow_zero] at pp;have hrl:=peaks_len p;have hle:=peaks_le p;apply ZBH.c;unfold ZBH.m;rw[if_neg (by simp)];refine ZDF.s hs fun h1 k1 =>?_;generalize leafV s=lf at *;refine new_st_gen fun b1 h3 hb1 k3 e3 hs3 =>?_;have e3:h3[b1]? = some (vobj t_mlog_whole WhK (whV (1,lf))):=e3;have k03:Keep [] h h3:=k1.n k3;have et3:=k03.g et;have fs:∀ {hh:Heap} {sl:Slc} {m:Int},hh[t]? = some (vobj t_mlog_Tree TrK2 (sl,(m,())))→sm .sl ((Pl.mk t 0).fld 0) sl hh:=fun e=>sm_fld (n:=0) (k' := .sl) e rfl (by decide);refine nck_go (ld_go (fs et3) ?_);have r3:=r.keep k03 (by simp);have rlen:sl.len=row.length:=by rw[r.len];simp
 refine slCells_seg r3.seg (by rw[rlen];simp[Kd.size]) ?_;refine ap_row (T:=t_mlog_whole) (k:=WhK) (xs:=[]) (ys:=row.reverse.map whV) (.inl ⟨rfl,rfl⟩) (by simp[rlen]) rfl (by simp only [YAS];omega) fun s4 h4 r4 k4 o4 =>?_;have k4:Keep [] h3 h4:=k4;have r4:Row h4 t_mlog_whole WhK s4 (row.reverse.map whV):=r4;have z1:=k1.1;have z3:=k3.1;have z4:=k4.1
 have own4:∀b∈own s4,h3.size≤b:=fun b hb=>by
  rcases own_of o4 b hb with h | h
  ·simp[own] at h
  ·omega
 have zb1:h.size≤b1∧b1<h3.size:=by have:=lt_of_some e3;omega
 have k04:Keep [] h h4:=k03.n k4;refine lp_go (fun (y:Slc×Unit) (h5:Heap)=>∃(n:Nat) (z:HVec) (row':List (Nat×HVec)),Row h5 t_mlog_whole WhK y.1 (row'.reverse.map whV)∧own y.1=own s4∧Keep [] h h5∧h4.size≤h5.size∧h5[b1]? = some (vobj t_mlog_whole WhK (whV (n,z)))∧pushP n z row'=pushP 1 lf row∧(∀x∈row',x∈row)∧row'.length≤ls.length∧n≤4000000) (fun (y:Slc×Unit) _=>y.1.len) ?_ ?_
 ·exact ⟨1,lf,row,r4,rfl,k04,YAd _,k4.g e3,rfl,fun x hx=>hx,hrl,by omega⟩
 rintro ⟨(s5:Slc),_⟩ h5 ⟨n,z,row',r5,o5,k5,z5,e5,hp,hsub,hrl',hn⟩;dsimp only at r5 o5 ⊢;have et5:=k5.g et;have fb:∀ {hh:Heap} {n:Nat} {z:HVec},hh[b1]? = some (vobj t_mlog_whole WhK (whV (n,z)))→_:=fun e=>wh_f (sm_all e);have nb1:b1∉own s5:=by rw[o5];exact fun hm=>by have:=own4 b1 hm;omega
 have hlen5:s5.len=row'.length:=by rw[r5.len];simp
 have fin:∀hh,hh=h5→pushP n z row'=(n,z)::row'→ld WhK (Pl.mk b1 0) hh (fun x9=>bs t_mlog_whole WhK [x9] hh fun s3 h9=>slCells s3 (s3.len*33) h9 fun cs2=>ap t_mlog_whole WhK 40 s5 s3.len cs2 h9 fun s4 h10=>nck (some (Pl.mk t 0)) fun l4=>st .sl (l4.fld 0) s4 h10 fun h11=>nck (some (Pl.mk t 0)) fun l5=>ld .i (l5.fld 1) h11 fun x10=>nck (some (Pl.mk t 0)) fun l6=>st .i (l6.fld 1) (w64 (x10+1)) h11 fun h12=>K h12):=by
  rintro hh rfl hpu;refine ld_go (sm_all e5) ?_;refine bs_gen fun b6 h6 hb6 k6 r6 hs6 =>?_;refine slCells_seg r6.seg (by simp[Kd.size]) ?_;have r56:=r5.keep k6 (by simp);refine ap_row (T:=t_mlog_whole) (k:=WhK) (xs:=row'.reverse.map whV) (ys:=[whV (n,z)]) r56 rfl rfl (by simp;omega) fun s7 h7 r7 k7 o7 =>?_;have et7:=k7.get (k6.g et5) (rowT r56 (k6.g et5) (by decide));have z6:=k6.1;have z7:=k7.1;have k07:Keep [] h h7:=(k5.n k6).new k7 (by rw[o5];intro q hq;have:=own4 q hq;omega);refine nck_go ?_;refine st_fld (k:=TrK2) (k' := .sl) (n:=0) (x':=((s7,((ls.length:Int),())):TrK2.Ty)) et7 (by decide) rfl ?_;have e8:=get_set (o':=vobj t_mlog_Tree TrK2 ((s7,((ls.length:Int),())):TrK2.Ty)) et7;have k8:Keep [t] h7 (h7.setIfInBounds t (vobj t_mlog_Tree TrK2 ((s7,((ls.length:Int),())):TrK2.Ty))):=keep_set;generalize h7.setIfInBounds t (vobj t_mlog_Tree TrK2 ((s7,((ls.length:Int),())):TrK2.Ty))=h8 at e8 k8 ⊢;refine nck_go (ld_go (sm_fld (n:=1) (k' := .i) (y:=(ls.length:Int)) e8 rfl (by decide)) (nck_go ?_));have hw:w64 ((ls.length:Int)+1)=(((ls++[s]).length:Nat):Int):=by rw[w64_id (by omega) (by omega)];simp
  rw[hw];refine st_fld (k:=TrK2) (k' := .i) (n:=1) (x':=((s7,((((ls++[s]).length:Nat):Int),())):TrK2.Ty)) e8 (by decide) rfl ?_;have e9:=get_set (o':=vobj t_mlog_Tree TrK2 ((s7,((((ls++[s]).length:Nat):Int),())):TrK2.Ty)) e8;have k9:Keep [t] h8 (h8.setIfInBounds t (vobj t_mlog_Tree TrK2 ((s7,((((ls++[s]).length:Nat):Int),())):TrK2.Ty))):=keep_set;generalize h8.setIfInBounds t (vobj t_mlog_Tree TrK2 ((s7,((((ls++[s]).length:Nat):Int),())):TrK2.Ty))=h9 at e9 k9 ⊢;have off:∀ {hh:Heap} {x:TrK2.Ty} {L:List WhK.Ty},Row hh t_mlog_whole WhK s7 L→hh[t]? = some (vobj t_mlog_Tree TrK2 x)→∀q∈own s7,q∉[t]:=fun r e q hq hm=>by simp at hm;subst hm;exact rowT r e (by decide) hq
  have r8:=r7.keep k8 (off r7 et7);have r9:=r8.keep k9 (off r8 e8);have kk:Keep [t] h h9:=(k07.then k8 (by simp) (fun x hx _=>hx)).then k9 (fun x hx _=>hx) (fun x hx _=>hx);refine hK h9 kk ⟨⟨s7,(n,z)::row',e9,?_,?_,fun b hb =>?_⟩,l⟩
  ·rw[YAW,YAU];exact r9
  ·rw[←hpu,hp];exact pp
  ·rcases own_of o7 b hb with h | h
   ·rw[o5] at h;have:=own4 b h;omega
   ·omega
 cases row' with
 | nil =>
   refine jn_at (false,()) h5 ?_ ?_
   ·rw[if_neg (show ¬decide ((s5.len:Int)>0)=true from fun h=>by have:=of_decide_eq_true h;rw[hlen5] at this;simp at this)];exact ⟨rfl,rfl⟩
   ·rw[if_neg (by simp)];exact fin h5 rfl pushP_nil
 | cons y rest =>
   have hlen5:s5.len=rest.length+1:=hlen5;have hw1:w64 ((s5.len:Int)-1)=(rest.length:Int):=by rw[w64_id (by omega) (by simp at hrl';omega)];omega
   have hrv:(y::rest).reverse.map whV=rest.reverse.map whV++[whV y]:=by rw[YAW,YAU];rfl
   rw[hrv] at r5
   have hgl:(rest.reverse.map whV++[whV y])[((rest.length:Int)).toNat]? = some (whV y):=by
    rw[YAb,List.getElem?_append_right (by simp)];simp
   have hyn:y.1≤1000000:=by have:=hle y (hsub y (by simp));omega
   rw[hw1];refine jn_at (decide (y.1=n),()) h5 ?_ ?_
   ·rw[if_pos (show decide ((s5.len:Int)>0)=true from dT (by omega))];refine seg_ixl r5.seg (x:=whV y) (by omega) hgl rfl fun l2 hl2 =>?_;refine ld_go (wh_f hl2).1 (ld_go (fb e5).1 ?_);refine ⟨?_,rfl⟩;have:decide ((y.1:Int)=(n:Int))=decide (y.1=n):=decide_eq_decide.2 (by omega);show (decide ((y.1:Int)=(n:Int)),())=_;rw[this]
   by_cases hyn':y.1=n
   ·rw[if_pos (by simpa using hyn')];refine ld_go (fb e5).1 ?_;refine seg_ixl r5.seg (x:=whV y) (by omega) hgl rfl fun l3 hl3 =>?_;refine ld_go (wh_f hl3).2 (ld_go (fb e5).2 ?_);refine ZCo.s fun h7 k7 =>?_;refine ⟨(fb (k7.g e5)).1,?_⟩;have hw2:w64 (2*(n:Int))=((2*n:Nat):Int):=w6 (by omega);have e57:=k7.g e5;show st WhK (Pl.mk b1 0) (w64 (2*(n:Int)),(joinV y.2 z,())) h7 _;rw[hw2];refine st_to e57 fun h8 k8 e8 hs8 =>?_;have r57:=(r5.keep k7 (by simp)).keep k8 (fun q hq hm=>by simp at hm;subst hm;exact nb1 hq);have hrr:(rest.reverse.map whV).length=rest.length:=by simp
    rw[←hrr];refine slx_row r57 fun s9 r9 o9 =>?_;rw[pushP_eq hyn'] at hp;have z7:=k7.1;have z8:=k8.1;refine ⟨⟨2*n,joinV y.2 z,rest,r9,by rw[o9,o5],(k5.n k7).new k8 (by simp;omega),by omega,e8,hp,fun x hx=>hsub x (by simp[hx]),by simp at hrl';omega,by omega⟩,?_⟩;show s9.len<s5.len;rw[r9.len,hlen5,hrr];omega
   ·rw[if_neg (by simpa using hyn')];rw[←hrv] at r5;exact fin h5 rfl (pushP_ne hyn')
abbrev KeK:Kd := .ag (.pr MbK (.pr .sl .un))
abbrev ChK:Kd := .ag (.pr KeK (.pr .sl (.pr .sl (.pr .p .un))))
structure Cn where
 m:Mb
 pubs:List By
 begin:List HVec
 all:List Ett
structure CnOk (C:Cn):Prop where
 m:mbMay C.m=true
 p:(C.pubs.length:Int)=C.m.users
 p60:∀s∈C.pubs,s.length=60
 b:(C.begin.length:Int)=prins C.m
 a:∀e∈C.all,putMay e=true∧(e.vec.length:Int)=C.m.users∧(e.tables.length:Int)=prins C.m
 n:C.all.length≤256
structure IsCh (n0:Nat) (h:Heap) (c t:Nat) (mv:MbK.Ty) (ps bs es:Slc) (evs:List EtK.Ty) (C:Cn):Prop where
 e:h[c]? = some (vobj t_chain_Chain ChK (((mv,(ps,())),(bs,(es,(some ⟨t,0⟩,())))):ChK.Ty))
 lc:n0≤c
 m:MbU n0 h mv C.m
 p:Row h t_string .s ps (C.pubs.map bx)
 op:∀q∈own ps,n0≤q
 b:Row h t_api_Hash (.ar 32 .u8) bs C.begin
 ob:∀q∈own bs,n0≤q
 a:Row h t_api_Entry EtK es evs
 oa:∀q∈own es,n0≤q
 x:All2 (fun v e=>EtR h v e∧∀q∈etO v,n0≤q) evs C.all
 t:TreeAt n0 h t (C.all.map putE)
def OffC (n0:Nat) (h:Heap) (ps es:Slc) (b:Nat):Prop:=
 b<n0∨(b∉own ps∧b∉own es∧∀T,T=t_chain_Chain∨T=t_s_int∨T=t_int∨T=t_api_Hash∨T=t_mlog_whole∨T=t_mlog_Tree→∀c f,h[b]? ≠ some (.cells c T f))
theorem row_keepC {n0 T:Nat} {h h':Heap} {k:Kd} {s:Slc} {xs:List k.Ty} {S:List Nat} (r:Row h T k s xs) (kk:Keep S h h') (o:∀q∈own s,n0≤q) (hS:∀b∈S,b<n0∨b∉own s∨∀c f,h[b]? ≠ some (.cells c T f)):Row h' T k s xs:=r.keep kk fun b hb hm=>by
 rcases hS b hm with h1 | h1 | h1
 ·have:=o b hb;omega
 ·exact h1 hb
 ·rcases r with ⟨e,_⟩ | ⟨b',zs,e,_,_,e4⟩
  ·rw[e] at hb;simp[own] at hb
  ·have:b=b':=by unfold own at hb;rw[e] at hb;simpa using hb
   subst this;exact h1 _ _ e4
theorem IsCh.keep {n0 c t:Nat} {h h':Heap} {mv:MbK.Ty} {ps bs es:Slc} {evs:List EtK.Ty} {C:Cn} {S:List Nat} (i:IsCh n0 h c t mv ps bs es evs C) (k:Keep S h h') (hS:∀b∈S,OffC n0 h ps es b):IsCh n0 h' c t mv ps bs es evs C:=by
 have tg:∀ {T:Nat},T=t_chain_Chain∨T=t_s_int∨T=t_int∨T=t_api_Hash∨T=t_mlog_whole∨T=t_mlog_Tree→∀b∈S,b<n0∨∀c f,h[b]? ≠ some (.cells c T f):=fun hT b hb=>by
  rcases hS b hb with h1 | h1
  ·exact .inl h1
  ·exact .inr (h1.2.2 _ hT)
 have tr:∀ {T:Nat} (s:Slc),T=t_chain_Chain∨T=t_s_int∨T=t_int∨T=t_api_Hash∨T=t_mlog_whole∨T=t_mlog_Tree→∀b∈S,b<n0∨b∉own s∨∀c f,h[b]? ≠ some (.cells c T f):=fun s hT b hb=>by
  rcases tg hT b hb with h1 | h1
  ·exact .inl h1
  ·exact .inr (.inr h1)
 refine ⟨k.get i.e fun hm =>?_,i.lc,i.m.keep k fun b hb =>?_,row_keepC i.p k i.op fun b hb =>?_,i.op,row_keepC i.b k i.ob (tr _ (by simp)),i.ob,row_keepC i.a k i.oa fun b hb =>?_,i.oa,?_,i.t.keep k fun b hb =>?_⟩
 ·rcases tg (T:=t_chain_Chain) (by simp) c hm with h1 | h1
  ·have:=i.lc;omega
  ·exact h1 _ _ i.e
 ·rcases tg (T:=t_s_int) (by simp) b hb with h1 | h1
  ·exact .inl h1
  ·rcases tg (T:=t_int) (by simp) b hb with h2 | h2
   ·exact .inl h2
   ·exact .inr fun c f=>⟨h1 c f,h2 c f⟩
 ·rcases hS b hb with h1 | h1
  ·exact .inl h1
  ·exact .inr (.inl h1.1)
 ·rcases hS b hb with h1 | h1
  ·exact .inl h1
  ·exact .inr (.inl h1.2.1)
 ·refine All2.mono (fun v e x=>⟨⟨x.1.u,x.1.q,row_keepC x.1.w k (fun q hq=>x.2 q (by unfold etO;simp[hq])) (tr _ (by simp)),x.1.r,row_keepC x.1.t k (fun q hq=>x.2 q (by unfold etO;simp[hq])) (tr _ (by simp)),x.1.s⟩,x.2⟩) i.x
 ·rcases tg (T:=t_mlog_whole) (by simp) b hb with h1 | h1
  ·exact .inl h1
  ·rcases tg (T:=t_mlog_Tree) (by simp) b hb with h2 | h2
   ·exact .inl h2
   ·exact .inr fun c f=>⟨h1 c f,h2 c f⟩
theorem IsCh.keep0 {n0 c t:Nat} {h h':Heap} {mv:MbK.Ty} {ps bs es:Slc} {evs:List EtK.Ty} {C:Cn} (i:IsCh n0 h c t mv ps bs es evs C) (k:Keep [] h h'):IsCh n0 h' c t mv ps bs es evs C:=i.keep k (by simp)
section
variable {n0 c t:Nat} {h:Heap} {mv:MbK.Ty} {ps bs es:Slc} {evs:List EtK.Ty} {C:Cn}
theorem IsCh.fu (i:IsCh n0 h c t mv ps bs es evs C):sm .i (((((Pl.mk c 0).fld 0).fld 0).fld 0)) mv.1 h:=sm_fld (n:=0) (k' := .i) i.e rfl (by decide)
theorem IsCh.fm (i:IsCh n0 h c t mv ps bs es evs C):sm MbK (((Pl.mk c 0).fld 0).fld 0) mv h:=sm_sub (sm_all i.e) (by decide) rfl
theorem IsCh.fp (i:IsCh n0 h c t mv ps bs es evs C):sm .sl (((Pl.mk c 0).fld 0).fld 2) ps h:=sm_fld (n:=2) (k' := .sl) i.e rfl (by decide)
theorem IsCh.fb (i:IsCh n0 h c t mv ps bs es evs C):sm .sl ((Pl.mk c 0).fld 3) bs h:=sm_fld (n:=3) (k' := .sl) i.e rfl (by decide)
theorem IsCh.fa (i:IsCh n0 h c t mv ps bs es evs C):sm .sl ((Pl.mk c 0).fld 4) es h:=sm_fld (n:=4) (k' := .sl) i.e rfl (by decide)
theorem IsCh.ft (i:IsCh n0 h c t mv ps bs es evs C):sm .p ((Pl.mk c 0).fld 5) (some ⟨t,0⟩) h:=sm_fld (n:=5) (k' := .p) i.e rfl (by decide)
theorem IsCh.al (i:IsCh n0 h c t mv ps bs es evs C):es.len=C.all.length:=by rw[i.a.len,i.x.len]
end
def lastVec (C:Cn):List Int:=match C.all.getLast? with
 | none=>List.replicate C.m.users.toNat 0
 | some e=>e.vec
def lastTab (C:Cn):List HVec:=match C.all.getLast? with
 | none=>C.begin
 | some e=>e.tables
def nextVec (C:Cn) (u:Int):List Int:=(lastVec C).set u.toNat ((lastVec C).getD u.toNat 0+1)
def tabsOk (C:Cn) (e:Ett):Bool:=(List.range (lastTab C).length).all fun (p:Nat)=>mIn C.m e.user (p:Int)||decide (e.tables.getD p (Vector.replicate 32 0)=(lastTab C).getD p (Vector.replicate 32 0))
theorem CnOk.u {C:Cn} (o:CnOk C):1≤C.m.users∧C.m.users≤16∧C.m.groups.length≤8:=by
 have:=o.m;unfold mbMay at this;simp only [YAi,decide_eq_true_eq] at this;exact ⟨this.1.1.1,this.1.1.2,this.1.2⟩
theorem put_vec {e:Ett} (h:putMay e=true):e.vec.all vecOk=true∧1≤e.vec.length∧e.vec.length≤16∧e.tables.length≤24:=by
 unfold putMay ettMay vecMay at h;simp only [YAi,decide_eq_true_eq] at h;obtain ⟨⟨_,_,_,_,⟨h1,h2,h3⟩,h4,h5⟩,_⟩:=h;exact ⟨h1,h2,h3,h5⟩
theorem CnOk.v {C:Cn} (o:CnOk C):((lastVec C).length:Int)=C.m.users∧(∀x∈lastVec C,0≤x∧x≤256)∧((lastTab C).length:Int)=prins C.m:=by
 obtain ⟨u1,u2,u3⟩:=o.u;unfold lastVec lastTab
 cases hg:C.all.getLast? with
 | none =>
   refine ⟨by rw[List.length_replicate];omega,fun x hx =>?_,o.b⟩;obtain ⟨_,rfl⟩:=List.mem_replicate.1 hx;omega
 | some e =>
   obtain ⟨h1,h2,h3⟩:=o.a e (List.mem_of_getLast? hg);refine ⟨h2,fun x hx =>?_,h3⟩;have:=List.all_eq_true.1 (put_vec h1).1 x hx;unfold vecOk at this;simpa using this
section
variable {n0 c t:Nat} {h:Heap} {mv:MbK.Ty} {ps bs es:Slc} {evs:List EtK.Ty} {C:Cn}
theorem chain_last.s {K:Slc→Slc→Heap→Prop} (i:IsCh n0 h c t mv ps bs es evs C) (o:CnOk C) (hK:∀h' s1 s2,Keep [] h h'→Seg .i s1 (lastVec C) h'→Seg (.ar 32 .u8) s2 (lastTab C) h'→K s1 s2 h'):ZBb.C (some ⟨c,0⟩) h K:=by
 apply ZBb.c;unfold ZBb.m;obtain ⟨u1,u2,u3⟩:=o.u;have al:=i.al;have on:=o.n;unfold lastVec lastTab at hK;refine nck_go (ld_go i.fa ?_);by_cases h0:C.all.length=0
 ·rw[if_pos (show decide ((es.len:Int)=0)=true from dT (by omega))];have hnil:C.all=[]:=List.length_eq_zero_iff.1 h0;rw[hnil] at hK;have hu:mv.1=((C.m.users.toNat:Nat):Int):=i.m.1.trans (YAc (by omega)).symm;refine nck_go (ld_go i.fu (nck_go (ld_go i.fb ?_)));rw[hu];refine mk_gen (by omega) (by omega) fun b h1 hb k1 r1 hs1 =>?_;exact ⟨(i.keep0 k1).fb,hK h1 _ _ k1 r1.seg (i.b.seg.keep (by decide) k1)⟩
 ·rw[if_neg (show ¬decide ((es.len:Int)=0)=true from dn (by omega))];refine nck_go (ld_go i.fa (nck_go (ld_go i.fa ?_)));have hw:w64 ((es.len:Int)-1)=((C.all.length-1:Nat):Int):=w6 (by omega);rw[hw];have el:=i.x.len;have hx:=i.x.getI (i:=C.all.length-1) (by omega) (by omega)
  have hg:C.all.getLast? = some (C.all[C.all.length-1]'(by omega)):=by
   rw[List.getLast?_eq_getElem?,YAK (by omega)]
  rw[hg] at hK;refine seg_ixl i.a.seg (x:=evs[C.all.length-1]'(by omega)) (by omega) (by rw[YAb];exact YAK (by omega)) rfl fun l hl =>?_;generalize evs[C.all.length-1]'(by omega)=v at *;generalize C.all[C.all.length-1]'(by omega)=e at *;have f2:sm .sl (l.fld 2) v.2.2.1 h:=sm_sub hl (by decide) rfl;have l3:((Kd.ar 32 .u8).cells v.2.2.2.1).length=32:=Kd.cells_length ..
  have c35:(EtK.cells v).drop 35=Kd.sl.cells v.2.2.2.2.1++(Kd.s.cells v.2.2.2.2.2.1++[]):=by
   have c3:(EtK.cells v).drop 3=(Kd.ar 32 .u8).cells v.2.2.2.1++(Kd.sl.cells v.2.2.2.2.1++(Kd.s.cells v.2.2.2.2.2.1++[])):=rfl;have:(EtK.cells v).drop 35=((EtK.cells v).drop 3).drop 32:=by rw[YAF]
   rw[this,c3,YAG l3]
  have f35:sm .sl (l.fld 35) v.2.2.2.2.1 h:=sm_sub hl (by decide) (by rw[c35];rfl);refine nck_go (ld_go f2 (nck_go (ld_go f35 ?_)));exact hK h _ _ Keep.rfl hx.1.w.seg hx.1.t.seg
theorem chain_next.s {u:Int} {K:Slc→Heap→Prop} (i:IsCh n0 h c t mv ps bs es evs C) (o:CnOk C) (hu:0≤u) (hu':u<C.m.users) (hK:∀h' s,Keep [] h h'→Row h' t_int .i s (nextVec C u)→(∀q∈own s,h.size≤q)→K s h'):ZBc.C (some ⟨c,0⟩) u h K:=by
 apply ZBc.c;unfold ZBc.m;obtain ⟨u1,u2,u3⟩:=o.u;obtain ⟨v1,v2,v3⟩:=o.v;refine chain_last.s i o fun h1 s1 s2 k1 g1 g2 =>?_;refine clone_int.s g1 (by omega) fun s3 h2 k2 r2 o2 =>?_;have z1:=k1.1;have z2:=k2.1;have hl:u.toNat<(lastVec C).length:=by omega
 have hg:(lastVec C)[u.toNat]? = some ((lastVec C)[u.toNat]):=YAK hl;have hd:(lastVec C).getD u.toNat 0=(lastVec C)[u.toNat]:=by rw[YAJ,hg];rfl
 unfold nextVec at hK;rw[hd] at hK;have hb:=v2 _ (YAN hl);refine ix_ld r2 hu hg rfl ?_;rw[w64_id (by omega) (by omega)];refine ix_st r2 hu (by omega) rfl fun h3 k3 r3 =>?_;exact hK h3 s3 ((k1.n k2).new k3 fun q hq=>by have:=o2 q hq;omega) r3 fun q hq=>by have:=o2 q hq;omega
theorem chain_tables.s {b:Nat} {v:EtK.Ty} {e:Ett} {K:Bool→Heap→Prop} (i:IsCh n0 h c t mv ps bs es evs C) (o:CnOk C) (eb:h[b]? = some (vobj t_api_Entry EtK v)) (a:EtAt h v e) (ht:(e.tables.length:Int)=prins C.m) (hK:∀h',Keep [] h h'→K (tabsOk C e) h'):ZBZ.C (some ⟨c,0⟩) (some ⟨b,0⟩) h K:=by
 apply ZBZ.c;unfold ZBZ.m;obtain ⟨u1,u2,u3⟩:=o.u;obtain ⟨v1,v2,v3⟩:=o.v;have hpr:prins C.m≤24:=by unfold prins;omega
 refine chain_last.s i o fun h1 s1 s2 k1 g1 g2 =>?_;have gl:=g2.len;unfold tabsOk at hK;have htl:e.tables.length=(lastTab C).length:=by omega
 generalize lastTab C=T at *;refine lp_go (fun (y:Int×Unit) (h2:Heap)=>∃n:Nat,y.1=n∧n≤T.length∧Keep [] h1 h2∧((List.range n).all fun (p:Nat)=>mIn C.m e.user (p:Int)||decide (e.tables.getD p (Vector.replicate 32 0)=T.getD p (Vector.replicate 32 0)))=true) (fun (y:Int×Unit) _=>T.length-y.1.toNat) ?_ ?_
 ·exact ⟨0,rfl,YAh _,Keep.rfl,by simp⟩
 rintro ⟨(jj:Int),_⟩ h2 ⟨n,en,hn,k2,hall⟩;dsimp only at en ⊢;subst en;have k02:Keep [] h h2:=k1.n k2;by_cases hlt:n<T.length
 ·rw[if_pos (show decide ((n:Int)<(s2.len:Int))=true from dT (by omega))];have hw:w64 ((n:Int)+1)=((n+1:Nat):Int):=w6 (by omega);rw[hw];have d1:e.tables.getD n (Vector.replicate 32 0)=e.tables[n]'(by omega):=by rw[YAJ,YAK (by omega)];rfl
  have d2:T.getD n (Vector.replicate 32 0)=T[n]:=by rw[YAJ,YAK hlt];rfl
  refine jn_in (fun _ h'=>Keep [] h1 h'∧(mIn C.m e.user (n:Int)||decide (e.tables.getD n (Vector.replicate 32 0)=T.getD n (Vector.replicate 32 0)))=true) ?_ ?_
  ·refine jn_in (fun y h'=>Keep [] h1 h'∧y=(!(mIn C.m e.user (n:Int)||decide (e.tables.getD n (Vector.replicate 32 0)=T.getD n (Vector.replicate 32 0))),())) ?_ ?_
   ·refine nck_go (ld_go (i.keep0 k02).fm (nck_go (ld_go (et_f (k02.g eb)).1 ?_)));rw[a.u];refine ZC9.s (i.keep0 k02).m.at o.m fun h5 k5 =>?_;have k15:Keep [] h1 h5:=k2.n k5;have k05:Keep [] h h5:=k1.n k15
    cases hm:mIn C.m e.user (n:Int) with
    | true=>rw[if_neg (by simp)];exact ⟨k15,rfl⟩
    | false =>
      rw[if_pos (by rfl)];refine nck_go (ld_go (et_f (k05.g eb)).2.2.2.2.1 ?_);refine seg_ix (a.keep k05).t (x:=e.tables[n]'(by omega)) (by omega) (by rw[YAb];exact YAK (by omega)) rfl ?_;refine seg_ix (g2.keep (by decide) k15) (x:=T[n]) (by omega) (by rw[YAb];exact YAK hlt) rfl ?_;refine ⟨k15,?_⟩;rw[d1,d2,Bool.false_or]
      have:Kd.beq (.ar 32 .u8) (e.tables[n]'(by omega)) T[n]=decide ((e.tables[n]'(by omega))=T[n]):=by
       have hb:=beq_eq (k := .ar 32 .u8) rfl (x:=e.tables[n]'(by omega)) (y:=T[n]);by_cases hx:e.tables[n]'(by omega)=T[n]
       ·rw[dT hx];exact hb.2 hx
       ·rw[dF hx]
        cases hc:Kd.beq (.ar 32 .u8) (e.tables[n]'(by omega)) T[n] with
        | true=>exact absurd (hb.1 hc) hx
        | false=>rfl
      rw[this]
   ·rintro _ h4 ⟨k4,rfl⟩
    cases hb:(mIn C.m e.user (n:Int)||decide (e.tables.getD n (Vector.replicate 32 0)=T.getD n (Vector.replicate 32 0))) with
    | true=>rw[if_neg (by simp)];exact ⟨k4,rfl⟩
    | false =>
      rw[if_pos (by rfl)];have:=hK h4 (k1.n k4)
      have hf:((List.range T.length).all fun (p:Nat)=>mIn C.m e.user (p:Int)||decide (e.tables.getD p (Vector.replicate 32 0)=T.getD p (Vector.replicate 32 0)))=false:=by
       rw[YAB];exact ⟨n,List.mem_range.2 hlt,by rw[hb];simp⟩
      rw[hf] at this;exact this
  ·rintro _ h3 ⟨k3,hb⟩;refine ⟨⟨n+1,rfl,by omega,k3,?_⟩,by simp;omega⟩;rw[List.range_succ,YAA,hall];simpa using hb
 ·rw[if_neg (show ¬decide ((n:Int)<(s2.len:Int))=true from dn (by omega))];obtain rfl:n=T.length:=by omega
  have:=hK h2 k02;rw[hall] at this;exact this
end
def frmC (C:Cn) (e:Ett):Bool:=putMay e&&(decide ((e.vec.length:Int)=C.m.users)&&(decide ((e.tables.length:Int)=prins C.m)&&decide (C.all.length<256)))
def chkC (C:Cn) (e:Ett):Int:=
 if frmC C e=true then
  if e.seq=(C.all.length:Int)+1 then
   if e.user<C.m.users then
    if e.vec=nextVec C e.user then
     if e.root=rootV (C.all.map putE) then
      if tabsOk C e=true then
       if verE e (C.pubs.getD e.user.toNat [])=0 then 0 else 2006
      else 2005
     else 2004
    else 2003
   else 2002
  else 2001
 else 2000
theorem put_user {e:Ett} (h:putMay e=true):0≤e.user∧e.user<16:=by
 unfold putMay ettMay at h;simp only [YAi,decide_eq_true_eq] at h;exact ⟨h.1.1,h.1.2.1⟩
section
variable {n0 c t:Nat} {h:Heap} {mv:MbK.Ty} {ps bs es:Slc} {evs:List EtK.Ty} {C:Cn}
theorem chain_Check.s {v:EtK.Ty} {e:Ett} {K:Int→Heap→Prop} (i:IsCh n0 h c t mv ps bs es evs C) (o:CnOk C) (a:EtAt h v e) (hl:e.vec.length≤9223372036854775806) (hK:∀h',Keep [] h h'→K (chkC C e) h'):ZA8.C (some ⟨c,0⟩) v h K:=by
 apply ZA8.c;unfold ZA8.m;have on:=o.n;obtain ⟨u1,u2,u3⟩:=o.u;have al:=i.al;unfold chkC at hK;refine new_gen fun b1 h1 hb1 k1 e1 hs1 =>?_;have e1:h1[b1]? = some (vobj t_api_Entry EtK v):=e1;rw[if_neg (by simp)];refine ld_go (sm_all e1) ?_;refine ZC4.s (a.keep k1) hl fun h2 k2 =>?_;have k12:Keep [] h1 h2:=k2;have wl:v.2.2.1.len=e.vec.length:=a.w.len;have tl:v.2.2.2.2.1.len=e.tables.length:=a.t.len;have hmu:mv.1=C.m.users:=i.m.1
 refine jn_in (fun _ h'=>Keep [] h1 h'∧(if frmC C e=true then
  if e.seq=(C.all.length:Int)+1 then
   if e.user<C.m.users then
    if e.vec=nextVec C e.user then
     if e.root=rootV (C.all.map putE) then
      if tabsOk C e=true then
       if verE e (C.pubs.getD e.user.toNat [])=0 then (0:Int) else 2006
      else 2005
     else 2004
    else 2003
   else 2002
  else 2001
 else 2000)=0) ?_ (fun _ h3 ⟨k3,h0⟩=>by
  have:=hK h3 (k1.n k3);rw[h0] at this;exact this)
 refine jn_in (fun y h'=>Keep [] h1 h'∧y=(!frmC C e,())) ?_ ?_
 ·unfold frmC
  cases hp:putMay e with
  | false=>rw[if_pos (show (!decide ((if false=true then (0:Int) else 1900)=0))=true from rfl)];exact ⟨k2,rfl⟩
  | true =>
    rw[if_neg (show ¬(!decide ((if true=true then (0:Int) else 1900)=0))=true by decide),YAj];have i2:=i.keep0 (k1.n k2);have e2:=k2.g e1;refine ld_go (et_f e2).2.2.1 (nck_go (ld_go i2.fu ?_));rw[wl,hmu];by_cases hv:(e.vec.length:Int)=C.m.users
    ·rw[if_neg (by simp[hv]),dT hv,YAj];refine ld_go (et_f e2).2.2.2.2.1 (nck_go (ld_go i2.fm ?_));refine ZAN.s i2.m.at o.m fun h5 k5 =>?_;have i5:=i2.keep0 k5;refine ⟨(et_f (k5.g e2)).2.2.2.2.1,?_⟩;rw[tl];by_cases ht:(e.tables.length:Int)=prins C.m
     ·rw[if_neg (by simp[ht]),dT ht,YAj];refine nck_go (ld_go i5.fa ?_);refine ⟨k2.n k5,?_⟩;rw[al]
      have:decide ((C.all.length:Int)≥256) = !decide (C.all.length<256):=by
       by_cases hc:C.all.length<256
       ·rw[dT hc,dF (by omega)];rfl
       ·rw[dF hc,dT (by omega)];rfl
      rw[this]
     ·rw[if_pos (by simpa using ht),dF ht];exact ⟨k2.n k5,rfl⟩
    ·rw[if_pos (by simpa using hv),dF hv];exact ⟨k2,rfl⟩
 rintro _ h4 ⟨k4,rfl⟩;have i4:=i.keep0 (k1.n k4);have e4:=k4.g e1;have a4:=a.keep (k1.n k4);rcases Decidable.em (¬(frmC C e=true)) with c0 | c0
 ·rw[if_neg c0] at hK;replace c0:frmC C e=false:=by simpa using c0
  rw[c0,if_pos (by rfl)];exact hK h4 (k1.n k4)
 replace c0:=Decidable.not_not.1 c0;rw[c0,if_neg (by simp)];rw[if_pos c0] at hK;rw[if_pos rfl];unfold frmC at c0;simp only [YAi,decide_eq_true_eq] at c0;obtain ⟨hp,hv,ht,hn⟩:=c0;obtain ⟨hu0,hu16⟩:=put_user hp;refine ld_go (et_f e4).2.1 (nck_go (ld_go i4.fa ?_));have hws:w64 ((es.len:Int)+1)=(C.all.length:Int)+1:=w6 (by omega);rw[a.q,hws];rcases Decidable.em (¬(e.seq=(C.all.length:Int)+1)) with c1 | c1
 ·rw[if_neg c1] at hK;rw[if_pos (by simpa using c1)];exact hK h4 (k1.n k4)
 replace c1:=Decidable.not_not.1 c1;rw[if_neg (by simp[c1])];rw[if_pos c1] at hK;rw[if_pos c1];refine ld_go (et_f e4).1 (nck_go (ld_go i4.fu ?_));rw[a.u,hmu];rcases Decidable.em (¬(e.user<C.m.users)) with c2 | c2
 ·rw[if_neg c2] at hK;rw[if_pos (show decide (e.user≥C.m.users)=true from dT (by omega))];exact hK h4 (k1.n k4)
 replace c2:=Decidable.not_not.1 c2;rw[if_neg (show ¬decide (e.user≥C.m.users)=true from dn (by omega))];rw[if_pos c2] at hK;rw[if_pos c2];refine ld_go (et_f e4).2.2.1 (ld_go (et_f e4).1 ?_);rw[a.u];refine chain_next.s i4 o hu0 c2 fun h6 s6 k6 r6 o6 =>?_;refine ⟨(et_f (k6.g e4)).2.2.1,?_⟩;have k16:Keep [] h1 h6:=k4.n k6;refine equal_int.s (a4.keep k6).w r6.seg (by omega) ?_;rcases Decidable.em (¬(e.vec=nextVec C e.user)) with c3 | c3
 ·rw[if_neg c3] at hK;rw[dF c3,if_pos (by rfl)];exact hK h6 (k1.n k16)
 replace c3:=Decidable.not_not.1 c3;rw[dT c3,if_neg (by simp)];rw[if_pos c3] at hK;rw[if_pos c3];have e6:=k16.g e1;have i6:=i.keep0 (k1.n k16);refine ld_go (et_f e6).2.2.2.1 (nck_go (ld_go i6.ft ?_));refine ZAS.s i6.t (by rw[YAR];omega) fun h8 k8 =>?_;have k18:Keep [] h1 h8:=k16.n k8;have e8:=k18.g e1;refine ⟨(et_f e8).2.2.2.1,?_⟩;rw[a.r];generalize hR:rootV (C.all.map putE)=R at *
 have hbq:Kd.beq (.ar 32 .u8) e.root R=decide (e.root=R):=by
  have hb:=beq_eq (k := .ar 32 .u8) rfl (x:=e.root) (y:=R);by_cases hx:e.root=R
  ·rw[dT hx];exact hb.2 hx
  ·rw[dF hx]
   cases hc:Kd.beq (.ar 32 .u8) e.root R with
   | true=>exact absurd (hb.1 hc) hx
   | false=>rfl
 rw[hbq];rcases Decidable.em (¬(e.root=R)) with c4 | c4
 ·rw[if_neg c4] at hK;rw[dF c4,if_pos (by rfl)];exact hK h8 (k1.n k18)
 replace c4:=Decidable.not_not.1 c4;rw[dT c4,if_neg (by simp)];rw[if_pos c4] at hK;rw[if_pos c4];have i8:=i.keep0 (k1.n k18);refine chain_tables.s i8 o e8 (a.keep (k1.n k18)) ht fun h9 k9 =>?_;have k19:Keep [] h1 h9:=k18.n k9;rcases Decidable.em (¬(tabsOk C e=true)) with c5 | c5
 ·rw[if_neg c5] at hK;replace c5:tabsOk C e=false:=by simpa using c5
  rw[c5,if_pos (by rfl)];exact hK h9 (k1.n k19)
 replace c5:=Decidable.not_not.1 c5;rw[c5,if_neg (by simp)];rw[if_pos c5] at hK;rw[if_pos rfl];have e9:=k19.g e1;have i9:=i.keep0 (k1.n k19);refine ld_go (sm_all e9) (nck_go (ld_go i9.fp (ld_go (et_f e9).1 ?_)));rw[a.u];have hpl:e.user.toNat<C.pubs.length:=by have:=o.p;omega
 have hpg:C.pubs.getD e.user.toNat []=C.pubs[e.user.toNat]:=by rw[YAJ,YAK hpl];rfl
 rw[hpg] at hK;rw[hpg];refine seg_ix i9.p.seg (x:=bx C.pubs[e.user.toNat]) hu0 (by rw[YAL,YAK hpl];rfl) rfl ?_;refine ZCX.s (a.keep (k1.n k19)) hl fun h10 k10 =>?_;have k110:Keep [] h1 h10:=k19.n k10;generalize verE e C.pubs[e.user.toNat]=w at *;by_cases c6:w=0
 ·rw[if_neg (by simp[c6])];exact ⟨k110,if_pos c6⟩
 ·rw[if_pos (by simpa using c6)];rw[if_neg c6] at hK;exact hK h10 (k1.n k110)
end
theorem chk_ok {C:Cn} {e:Ett} (o:CnOk C) (h:chkC C e=0):CnOk { C with all:=C.all++[e] }∧putMay e=true∧C.all.length<256:=by
 unfold chkC at h;by_cases c0:frmC C e=true
 ·unfold frmC at c0;simp only [YAi,decide_eq_true_eq] at c0;obtain ⟨hp,hv,ht,hn⟩:=c0;refine ⟨⟨o.m,o.p,o.p60,o.b,fun x hx =>?_,by simp;omega⟩,hp,hn⟩;rcases List.mem_append.1 hx with hx | hx
  ·exact o.a x hx
  ·simp only [List.mem_singleton] at hx;subst hx;exact ⟨hp,hv,ht⟩
 ·rw[if_neg c0] at h;simp at h
section
variable {n0 c t:Nat} {h:Heap} {mv:MbK.Ty} {ps bs es:Slc} {evs:List EtK.Ty} {C:Cn}
theorem IsCh.rest {h':Heap} {S:List Nat} (i:IsCh n0 h c t mv ps bs es evs C) (k:Keep S h h') (hS:∀b∈S,b∉own ps∧∀T,T=t_s_int∨T=t_int∨T=t_api_Hash→∀c f,h[b]? ≠ some (.cells c T f)) :
 MbU n0 h' mv C.m∧Row h' t_string .s ps (C.pubs.map bx)∧Row h' t_api_Hash (.ar 32 .u8) bs C.begin∧All2 (fun v e=>EtR h' v e∧∀q∈etO v,n0≤q) evs C.all:=by
 have tr:∀ {T:Nat} (s:Slc),T=t_s_int∨T=t_int∨T=t_api_Hash→∀b∈S,b<n0∨b∉own s∨∀c f,h[b]? ≠ some (.cells c T f):=fun s hT b hb => .inr (.inr ((hS b hb).2 _ hT));refine ⟨i.m.keep k fun b hb => .inr fun c f=>⟨(hS b hb).2 _ (by simp) c f,(hS b hb).2 _ (by simp) c f⟩,row_keepC i.p k i.op fun b hb => .inr (.inl (hS b hb).1),row_keepC i.b k i.ob (tr _ (by simp)),?_⟩;exact All2.mono (fun v e x=>⟨⟨x.1.u,x.1.q,row_keepC x.1.w k (fun q hq=>x.2 q (by unfold etO;simp[hq])) (tr _ (by simp)),x.1.r,row_keepC x.1.t k (fun q hq=>x.2 q (by unfold etO;simp[hq])) (tr _ (by simp)),x.1.s⟩,x.2⟩) i.x
theorem cell_ne {b T:Nat} {o:Obj} {T':Nat} {c':Array Value} {f':Nat×Nat} (e:h[b]? = some (.cells c' T' f')) (hT:T≠T'):∀c f,h[b]? ≠ some (.cells c T f):=fun c f e'=>by
 have:=Option.some.inj (e.symm.trans e')
 injection this with _ h2 _
 exact hT h2.symm
theorem chain_Add.s {v:EtK.Ty} {e:Ett} {K:Int→Heap→Prop} (i:IsCh n0 h c t mv ps bs es evs C) (o:CnOk C) (a:EtAt h v e) (hl:e.vec.length≤9223372036854775806)
 (hbad:chkC C e≠0→∀h',Keep [] h h'→K (chkC C e) h')
 (hok:chkC C e=0→∀h' es' evs',Keep ([c,t]++own es) h h'→IsCh n0 h' c t mv ps bs es' evs' { C with all:=C.all++[e] }→(∀q∈own es',q∈own es∨h.size≤q)→K 0 h'):ZA2.C (some ⟨c,0⟩) v h K:=by
 apply ZA2.c;unfold ZA2.m;have lc:=lt_of_some i.e;have hn0:n0≤h.size:=by have:=i.lc;omega
 refine new_gen fun b1 h1 hb1 k1 e1 hs1 =>?_;have e1:h1[b1]? = some (vobj t_api_Entry EtK v):=e1;refine ld_go (sm_all e1) ?_;refine chain_Check.s (i.keep0 k1) o (a.keep k1) hl fun h2 k2 =>?_;have k02:Keep [] h h2:=k1.n k2;by_cases hc:chkC C e=0
 case neg=>
  rw[if_pos (by simpa using hc)];exact hbad hc h2 k02
 replace hok:=hok hc;obtain ⟨_,hp,hn⟩:=chk_ok o hc;rw[hc,if_neg (by simp)];have e2:=k2.g e1;have a2:=a.keep k02;have i2:=i.keep0 k02;obtain ⟨_,_,pv,pt⟩:=put_vec hp;refine ld_go (sm_all e2) ?_;refine ZC4.s a2 hl fun h3 k3 =>?_;rw[hp,if_pos rfl];have k03:Keep [] h h3:=k02.n k3;have i3:=i.keep0 k03;refine nck_go (ld_go i3.fa (ld_go (sm_all (k3.g e2)) ?_));refine ZCn.s (a.keep k03) (by omega) (by omega) fun v' h4 k4 r4 o4 =>?_;have k04:Keep [] h h4:=k03.n k4;refine ⟨(i.keep0 k04).fa,?_⟩;refine bs_gen fun b5 h5 hb5 k5 r5 hs5 =>?_;have k05:Keep [] h h5:=k04.n k5;have i5:=i.keep0 k05;refine ⟨i5.fa,?_⟩;refine slCells_seg r5.seg (by simp[Kd.size]) ?_;have el:=i.x.len;refine ap_row (T:=t_api_Entry) (k:=EtK) (ys:=[v']) i5.a rfl rfl (by simp;omega) fun es' h6 r6 k6 o6 =>?_;have z3:=k03.1;have z4:=k4.1;have z5:=k05.1;have z6:=k6.1;have lt5:∀q∈own es,q<h.size:=i.a.lt;have tn:∃x,h5[t]? = some (vobj t_mlog_Tree TrK2 x):=by obtain ⟨⟨s,row,e,_⟩,_⟩:=i5.t;exact ⟨_,e⟩
 obtain ⟨tx,et5⟩:=tn;have nct:c≠t:=vobjN i5.e et5 (by decide);have nce:c∉own es:=rowT i5.a i5.e (by decide);have nte:t∉own es:=rowT i5.a et5 (by decide)
 have ltt:t<h.size:=by
  obtain ⟨⟨s,row,e,_⟩,_⟩:=i.t;exact lt_of_some e
 have e6:=k6.get i5.e nce;have et6:=k6.get et5 nte;refine nck_go ?_;refine st_fld (k:=ChK) (k' := .sl) (n:=4) (x':=(((mv,(ps,())),(bs,(es',(some ⟨t,0⟩,())))):ChK.Ty)) e6 (by decide) rfl ?_;have e7:=get_set (o':=vobj t_chain_Chain ChK (((mv,(ps,())),(bs,(es',(some ⟨t,0⟩,())))):ChK.Ty)) e6;have k7:Keep [c] h6 (h6.setIfInBounds c (vobj t_chain_Chain ChK (((mv,(ps,())),(bs,(es',(some ⟨t,0⟩,())))):ChK.Ty))):=keep_set;generalize h6.setIfInBounds c (vobj t_chain_Chain ChK (((mv,(ps,())),(bs,(es',(some ⟨t,0⟩,())))):ChK.Ty))=h7 at e7 k7 ⊢;refine nck_go (ld_go (sm_fld (n:=5) (k' := .p) (y:=some ⟨t,0⟩) e7 rfl (by decide)) ?_);have k57:Keep (c::own es) h5 h7:=k6.then k7 (fun x hx _=>by simp[hx]) (fun x hx _=>by simp at hx;simp[hx])
 have t7:TreeAt n0 h7 t (C.all.map putE):=i5.t.keep k57 fun b hb => .inr fun cc f=>by
  rcases List.mem_cons.1 hb with rfl | hb
  ·exact ⟨cell_ne (o:=vobj t_chain_Chain ChK (((mv,(ps,())),(bs,(es,(some ⟨t,0⟩,())))):ChK.Ty)) i5.e (by decide) cc f,cell_ne (o:=vobj t_chain_Chain ChK (((mv,(ps,())),(bs,(es,(some ⟨t,0⟩,())))):ChK.Ty)) i5.e (by decide) cc f⟩
  ·exact ⟨fun e'=>rowT i5.a e' (by decide) hb,fun e'=>rowT i5.a e' (by decide) hb⟩
 have hpl:(putE e).length≤20000:=by
  have hb:=bodyE_len (e:=e) (by unfold putMay at hp;simp only [YAi] at hp;exact hp.1);unfold putMay at hp;simp only [YAi,decide_eq_true_eq] at hp;unfold putE;simp only [YAO,be_len];omega
 refine ZBH.s t7 (by omega) (by rw[YAR];omega) (by have:=k57.1;omega) fun h8 k8 t8 =>?_;have k58:Keep ([c,t]++own es) h5 h8:=k57.then k8 (fun x hx _=>by simp at hx ⊢;rcases hx with h | h <;> simp[h]) (fun x hx _=>by simp at hx;simp[hx])
 obtain ⟨m8,p8,b8,x8⟩:=i5.rest k58 fun b hb=>by
  simp only [List.cons_append,List.nil_append,List.mem_cons] at hb;rcases hb with rfl | rfl | hb
  ·exact ⟨rowT i5.p i5.e (by decide),fun T hT=>cell_ne (o:=vobj t_chain_Chain ChK (((mv,(ps,())),(bs,(es,(some ⟨t,0⟩,())))):ChK.Ty)) i5.e (by rcases hT with rfl | rfl | rfl <;> decide)⟩
  ·exact ⟨rowT i5.p et5 (by decide),fun T hT=>cell_ne (o:=vobj t_mlog_Tree TrK2 tx) et5 (by rcases hT with rfl | rfl | rfl <;> decide)⟩
  ·exact ⟨tagU i5.a i5.p (by decide) b hb,fun T hT cc f e'=>rowT i5.a e' (by rcases hT with rfl | rfl | rfl <;> decide) hb⟩
 have nce':c∉own es':=rowT r6 e6 (by decide);have nte':t∉own es':=rowT r6 et6 (by decide);have r8:=(r6.keep k7 (fun q hq hm=>by simp at hm;subst hm;exact nce' hq)).keep k8 (fun q hq hm=>by simp at hm;subst hm;exact nte' hq)
 have fo:∀q∈own es',q∈own es∨h.size≤q:=fun q hq=>by
  rcases own_of o6 q hq with h | h
  ·exact .inl h
  ·right;omega
 refine hok h8 es' (evs++[v']) (k05.then k58 (by simp) (fun x hx _=>hx)) ⟨k8.get e7 (by simpa using nct),i.lc,m8,p8,i.op,b8,i.ob,r8,fun q hq =>?_,?_,?_⟩ fo
 ·rcases fo q hq with h | h
  ·exact i.oa q h
  ·omega
 ·refine All2.app x8 ⟨⟨(r4.keep k5 (by simp)).keep k58 fun q hq hm =>?_,fun q hq =>?_⟩,trivial⟩
  ·have:=o4 q hq;simp only [List.cons_append,List.nil_append,List.mem_cons] at hm;rcases hm with rfl | rfl | hm
   ·omega
   ·omega
   ·have:=lt5 q hm;omega
  ·have:=o4 q hq;omega
 ·rw[YAU];exact t8
end
def nxtMay (C:Cn) (u:Int) (n:Nat):Bool:=decide (0≤u)&&(decide (u<C.m.users)&&(decide ((n:Int)=prins C.m)&&decide (C.all.length<256)))
def nextE (C:Cn) (u:Int) (T:List HVec):Ett:=⟨u,(C.all.length:Int)+1,nextVec C u,rootV (C.all.map putE),T,[]⟩
def et0:EtK.Ty:=(0,(0,((⟨none,0,0⟩:Slc),(Vector.replicate 32 0,((⟨none,0,0⟩:Slc),((⟨#[]⟩:ByteArray),()))))))
section
variable {n0 c t:Nat} {h:Heap} {mv:MbK.Ty} {ps bs es:Slc} {evs:List EtK.Ty} {C:Cn}
theorem chain_Next.s {u:Int} {ts:Slc} {T:List HVec} {K:EtK.Ty→Int→Heap→Prop} (i:IsCh n0 h c t mv ps bs es evs C) (o:CnOk C) (g:Seg (.ar 32 .u8) ts T h) (hT:T.length*32≤140737488355328)
 (hbad:nxtMay C u T.length=false→∀h',Keep [] h h'→K et0 2000 h')
 (hok:nxtMay C u T.length=true→∀v h',Keep [] h h'→EtR h' v (nextE C u T)→(∀q∈etO v,h.size≤q)→K v 0 h'):ZBF.C (some ⟨c,0⟩) u ts h K:=by
 apply ZBF.c;unfold ZBF.m;have on:=o.n;obtain ⟨u1,u2,u3⟩:=o.u;have al:=i.al;have gl:=g.len;have hmu:mv.1=C.m.users:=i.m.1;refine new_gen fun b1 h1 hb1 k1 e1 hs1 =>?_;have e1:h1[b1]? = some (vobj t_api_Entry EtK et0):=e1;refine jn_in (fun _ h'=>Keep [] h1 h'∧nxtMay C u T.length=true) ?_ ?_
 ·rw[if_neg (by simp)];refine jn_in (fun y h'=>Keep [] h1 h'∧y=(!nxtMay C u T.length,())) ?_ ?_
  ·unfold nxtMay;have i1:=i.keep0 k1;by_cases c0:u<0
   ·rw[if_pos (dT c0),dF (show ¬0≤u by omega)];exact ⟨Keep.rfl,rfl⟩
   rw[if_neg (by simpa using c0),dT (show 0≤u by omega),YAj];refine nck_go (ld_go i1.fu ?_);rw[hmu];by_cases c1:u<C.m.users
   ·rw[if_neg (show ¬decide (u≥C.m.users)=true from dn (by omega)),dT c1,YAj];refine nck_go (ld_go i1.fm ?_);refine ZAN.s i1.m.at o.m fun h5 k5 =>?_;rw[gl];by_cases c2:(T.length:Int)=prins C.m
    ·rw[if_neg (by simp[c2]),dT c2,YAj];refine nck_go (ld_go (i1.keep0 k5).fa ⟨k5,?_⟩);rw[al]
     have:decide ((C.all.length:Int)≥256) = !decide (C.all.length<256):=by
      by_cases hc:C.all.length<256
      ·rw[dT hc,dF (by omega)];rfl
      ·rw[dF hc,dT (by omega)];rfl
     rw[this]
    ·rw[if_pos (by simpa using c2),dF c2];exact ⟨k5,rfl⟩
   ·rw[if_pos (show decide (u≥C.m.users)=true from dT (by omega)),dF c1];exact ⟨Keep.rfl,rfl⟩
  ·rintro _ h4 ⟨k4,rfl⟩
   cases hm:nxtMay C u T.length with
   | true=>rw[if_neg (by simp)];exact ⟨k4,rfl⟩
   | false =>
     rw[if_pos (by rfl)];refine st_to (y:=et0) (k4.g e1) fun h6 k6 e6 hs6=>ld_go (sm_all e6) ?_;exact hbad hm h6 ((k1.n k4).new k6 (by simp;omega))
 rintro _ h2 ⟨k2,hm⟩;replace hok:=hok hm;unfold nxtMay at hm;simp only [YAi,decide_eq_true_eq] at hm;obtain ⟨m0,m1,m2,m3⟩:=hm;have k02:Keep [] h h2:=k1.n k2;have i2:=i.keep0 k02;refine nck_go (ld_go i2.fa (nck_go (ld_go i2.ft ?_)));refine chain_next.s i2 o m0 m1 fun h7 s7 k7 r7 o7 =>?_;have i7:=i2.keep0 k7;refine ⟨i7.ft,i7.fa,?_⟩;refine ZAS.s i7.t (by rw[YAR];omega) fun h8 k8 =>?_;have i8:=i7.keep0 k8;refine ⟨i8.fa,?_⟩;have k08:Keep [] h h8:=(k02.n k7).n k8;refine clone_hash.s (g.keep (by decide) k08) hT fun s9 h9 k9 r9 o9 =>?_;have k09:Keep [] h h9:=k08.n k9;refine ⟨(i8.keep0 k9).fa,?_⟩;have hw:w64 ((es.len:Int)+1)=(C.all.length:Int)+1:=w6 (by omega);rw[hw];have e9:h9[b1]? = some (vobj t_api_Entry EtK et0):=((k2.n ((k7.n k8).n k9)).g e1);have z02:=k02.1;have z8:=k08.1;obtain ⟨R,hR⟩:∃R,rootV (C.all.map putE)=R:=⟨_,rfl⟩;unfold nextE at hok;rw[hR] at hok;rw[hR];refine st_to e9 fun h10 k10 e10 hs10=>ld_go (sm_all e10) ?_;have off:∀ {T:Nat} {k:Kd} {u:Slc} {L:List k.Ty},Row h9 T k u L→T≠t_api_Entry→∀q∈own u,q∉[b1]:=fun r hT q hq hm=>by simp at hm;subst hm;exact rowT r e9 (fun h=>hT h.symm) hq
 have r79:=(r7.keep k8 (by simp)).keep k9 (by simp);refine hok _ h10 (k09.new k10 (by simp;omega)) ⟨rfl,rfl,r79.keep k10 (off r79 (by decide)),rfl,r9.keep k10 (off r9 (by decide)),rfl⟩ fun q hq =>?_;unfold etO at hq;rcases List.mem_append.1 hq with hq | hq
 ·have:=o7 q hq;omega
 ·have:=o9 q hq;omega
end
theorem ZDH.s {h:Heap} {K:Option Pl→Heap→Prop} (hK:∀h',Keep [] h h'→TreeAt h.size h' h.size []→K (some ⟨h.size,0⟩) h'):ZDH.C h K:=by
 apply ZDH.c;unfold ZDH.m;refine new_go ?_;exact hK _ keep_push ⟨⟨⟨none,0,0⟩,[],get_push,.inl ⟨rfl,rfl⟩,rfl,by simp[own]⟩,YAd _⟩
structure Kys where
 m:Mb
 pubs:List By
def kysMay (k:Kys):Bool:=mbMay k.m&&(decide ((k.pubs.length:Int)=k.m.users)&&k.pubs.all fun s=>decide (s.length=60))
structure KeAt (h:Heap) (v:KeK.Ty) (k:Kys):Prop where
 m:MbAt h v.1 k.m
 p:Seg .s v.2.1 (k.pubs.map bx) h
theorem MbAt.keepU {h h':Heap} {v:MbK.Ty} {m:Mb} (a:MbAt h v m) (k:Keep [] h h'):MbAt h' v m:=by
 obtain ⟨u,gs,g,al⟩:=a;exact ⟨u,gs,g.keep (by decide) k,All2.mono (fun s us x=>⟨x.1.keep (by decide) k,x.2⟩) al⟩
theorem KeAt.keep {h h':Heap} {v:KeK.Ty} {y:Kys} (a:KeAt h v y) (k:Keep [] h h'):KeAt h' v y:=⟨a.m.keepU k,a.p.keep (by decide) k⟩
theorem keys_contains.s {s:Slc} {L:List By} {h:Heap} {K:Bool→Heap→Prop} (g:Seg .s s (L.map bx) h) (hl:L.length≤9223372036854775806) (hK:K (!(L.all fun s=>decide (s.length=60))) h):ZAK.C s (.func (.func ZBJ.n) #[] #[]) h K:=by
 apply ZAK.c;unfold ZAK.m;apply ZAY.c;unfold ZAY.m;have gl:=g.len;rw[YAR] at gl;refine lp_go (fun (y:Int×Unit) (h1:Heap)=>h1=h∧∃t:Nat,y.1=t∧t≤L.length∧(L.take t).all (fun s=>decide (s.length=60))=true) (fun (y:Int×Unit) _=>L.length-y.1.toNat) ?_ ?_
 ·exact ⟨rfl,0,rfl,YAh _,by simp⟩
 rintro ⟨(i:Int),_⟩ h1 ⟨rfl,t,e,ht,hall⟩;dsimp only at e ⊢;subst e;by_cases hlt:t<L.length
 ·rw[if_pos (show decide ((t:Int)<(s.len:Int))=true from dT (by omega))];refine seg_ix g (x:=bx L[t]) (by omega) (by rw[YAb,YAL,YAK hlt];rfl) rfl ?_;refine callV_go (aa:=[Kd.s.val (bx L[t])]) (by rfl) ?_;show ZBJ.C (bx L[t]) h1 _;apply ZBJ.c;unfold ZBJ.m;rw[bx_size];dsimp only;by_cases h60:L[t].length=60
  ·rw[if_neg (by rw[h60];decide)];have hw:w64 ((t:Int)+1)=((t+1:Nat):Int):=w6 (by omega);rw[hw];refine ⟨⟨rfl,t+1,rfl,by omega,?_⟩,by simp;omega⟩;rw[YAa hlt,YAA,hall];simp[h60]
  ·rw[if_pos (by simp;omega)]
   have:L.all (fun s=>decide (s.length=60))=false:=by
    rw[YAB];exact ⟨L[t],YAN _,by simpa using h60⟩
   rw[this] at hK;rw[dT (show (t:Int)≥0 by omega)];exact hK
 ·rw[if_neg (show ¬decide ((t:Int)<(s.len:Int))=true from dn (by omega))];have:t=L.length:=by omega
  rw[this,YAZ (YAd _)] at hall;rw[hall] at hK;exact hK
theorem ke_f {h:Heap} {b:Nat} {v:KeK.Ty} (e:h[b]? = some (vobj t_api_Keys KeK v)):sm MbK ((Pl.mk b 0).fld 0) v.1 h∧sm .sl ((Pl.mk b 0).fld 2) v.2.1 h∧sm .i (((Pl.mk b 0).fld 0).fld 0) v.1.1 h:=
 ⟨sm_sub (sm_all e) (by decide) rfl,sm_fld (n:=2) (k' := .sl) e rfl (by decide),sm_fld (n:=0) (k' := .i) e rfl (by decide)⟩
theorem ZA1.s {v:KeK.Ty} {k:Kys} {h:Heap} {K:Bool→Heap→Prop} (a:KeAt h v k) (hl:k.pubs.length≤9223372036854775806) (hK:∀h',Keep [] h h'→K (kysMay k) h'):ZA1.C v h K:=by
 apply ZA1.c;unfold ZA1.m;have pl:=a.p.len;rw[YAR] at pl;unfold kysMay at hK;refine new_gen fun b1 h1 hb1 k1 e1 hs1 =>?_;have e1:h1[b1]? = some (vobj t_api_Keys KeK v):=e1;refine jn_in (fun y h'=>Keep [] h1 h'∧y=(!(mbMay k.m&&decide ((k.pubs.length:Int)=k.m.users)),())) ?_ ?_
 ·refine ld_go (ke_f e1).1 ?_;refine ZB8.s (a.m.keepU k1) fun h3 k3 =>?_
  cases hm:mbMay k.m with
  | false=>rw[if_pos (by rfl)];exact ⟨k3,rfl⟩
  | true =>
    rw[if_neg (by simp)];have e3:=k3.g e1;refine ld_go (ke_f e3).2.1 (ld_go (ke_f e3).2.2 ⟨k3,?_⟩);rw[pl,a.m.u,YAj]
 rintro _ h2 ⟨k2,rfl⟩
 cases hc:(mbMay k.m&&decide ((k.pubs.length:Int)=k.m.users)) with
 | false =>
   rw[if_pos (by rfl)];have:=hK h2 (k1.n k2);rw[←Bool.and_assoc,hc] at this;exact this
 | true =>
   rw[if_neg (by simp)];refine ld_go (ke_f (k2.g e1)).2.1 ?_;refine keys_contains.s (a.keep (k1.n k2)).p hl ?_;have:=hK h2 (k1.n k2);rw[←Bool.and_assoc,hc,YAj] at this;rw[Bool.not_not];exact this
theorem findG_at {α : Type} {p : α → Bool}:∀ {xs:List α} {t:Nat},(ht:t<xs.length)→(∀j,(hj:j<xs.length)→j<t→p xs[j]=false)→p xs[t]=true→xs.find? p=some xs[t]
 | x :: r, 0, _, _, hp => by
   have hp:p x=true:=hp;simp[hp]
 | x :: r, t + 1, ht, h, hp => by
   have h0:p x=false:=h 0 (by simp) (by omega);have:=findG_at (xs:=r) (t:=t) (by simpa using ht) (fun j hj hlt=>by have:=h (j+1) (by simpa using hj) (by omega);simpa using this) (by simpa using hp);simp only [List.find?_cons,h0];rw[this];rfl
theorem findG_no {α : Type} {p : α → Bool} {xs:List α} (h:∀j,(hj:j<xs.length)→p xs[j]=false):xs.find? p=none:=by
 rw[List.find?_eq_none];intro x hx;obtain ⟨j,hj,rfl⟩:=List.mem_iff_getElem.1 hx;simp[h j hj]
theorem place_find {h:Heap} {vs:List NdV} {t:Tab} {k:Int} {i:Nat} (a:All2 (NdAt h) vs t) (hr:risesV vs=true) (lo:∀j,(hj:j<vs.length)→j<i→vNum vs[j]<k) (hi:∀j,(hj:j<vs.length)→i≤j→¬vNum vs[j]<k) :
 (foundV vs k i=true→∃(h1:i<vs.length) (h2:i<t.length),t.find? (fun x=>decide (x.num=k))=some t[i])∧(foundV vs k i=false→t.find? (fun x=>decide (x.num=k))=none):=by
 have hl:=a.len;have hn:∀j,(h1:j<vs.length)→(h2:j<t.length)→vNum vs[j]=t[j].num:=fun j h1 h2=>(a.getI h1 h2).n
 constructor
 ·intro hf;unfold foundV at hf;by_cases hiv:i<vs.length
  ·rw[YAK hiv] at hf;have hf:vNum vs[i]=k:=by simpa using hf
   have hit:i<t.length:=by omega
   refine ⟨hiv,hit,findG_at hit (fun j hj hlt =>?_) ?_⟩
   ·have:=lo j (by omega) hlt;rw[hn j (by omega) hj] at this;simp;omega
   ·rw[hn i hiv hit] at hf;simp[hf]
  ·rw[List.getElem?_eq_none (by omega)] at hf;simp at hf
 ·intro hf;refine findG_no fun j hj =>?_;have hjv:j<vs.length:=by omega
  cases hd:decide (t[j].num=k) with
  | false=>rfl
  | true =>
    have e:vNum vs[j]=k:=by rw[hn j hjv hj];exact of_decide_eq_true hd
    exfalso
    by_cases hji:j<i
    ·have:=lo j hjv hji;omega
    ·have hiv:i<vs.length:=by omega
     have h1:=hi i hiv (YAd _)
     have h2:vNum vs[i]=k:=by
      by_cases hij:i=j
      ·subst hij;exact e
      ·have:=risesV_lt hr (i:=i) (j:=j) (by omega) hjv;omega
     unfold foundV at hf;rw[YAK hiv] at hf;simp[h2] at hf
theorem tabOf_at {X:Fs} {o:Nat} (h:o<X.length):tabOf X (o:Int)=X[o]:=by
 unfold tabOf;rw[if_pos (by omega),YAb,getD_at h]
theorem ZC7.s {l:Pl} {t0:Slc} {ss:List Slc} {vv:List (List NdV)} {X:Fs} {r:Rf} {h:Heap} {K:Option Pl→Heap→Prop} (w:StW h t0 ss vv X) (hs:sm .sl (l.fld 0) t0 h) (hr:∀t∈X,risesN t=true∧t.length≤2305843009213693952)
 (hn:findN X r=none→∀h',Keep [] h h'→K none h')
 (hy:∀(o i:Nat) (h1:o<ss.length) (h2:o<vv.length) (h3:o<X.length) (h4:i<vv[o].length) (h5:i<X[o].length) (lb:Pl),r.1=o→ss[o].a=some lb→NdAt h vv[o][i] X[o][i]→sm NdK ⟨lb.b,lb.o+i*6⟩ vv[o][i] h→findN X r=some X[o][i]→X[o][i].num=r.2.1→∀h',Keep [] h h'→K (some ⟨lb.b,lb.o+i*6⟩) h'):ZC7.C (some l) r h K:=by
 apply ZC7.c;unfold ZC7.m;obtain ⟨(ow:Int),(nu:Int),⟨⟩⟩:=r;dsimp only at hy;refine new_gen fun b h1 hb k1 e1 hs1 =>?_;have e1:h1[b]? = some (vobj t_api_Ref RF (ow,(nu,()))):=e1;have tl:=w.t.len;have rl:=w.r.len;have nl:=w.n.len;have s0:∀ {h'},Keep [] h1 h'→sm .i ((Pl.mk b 0).fld 0) ow h':=fun k=>sm_sub (sm_all (k.g e1)) (by decide) rfl;have s1:∀ {h'},Keep [] h1 h'→sm .i ((Pl.mk b 0).fld 1) nu h':=fun k=>sm_sub (sm_all (k.g e1)) (by decide) rfl;have hs2:∀ {h'},Keep [] h1 h'→sm .sl (l.fld 0) t0 h':=fun k=>sm_keep' hs (k1.n k) (by simp);by_cases hc:0≤ow∧ow<X.length
 case neg=>
  refine jn_at (true,()) h1 ?_ ?_
  ·refine ld_go (s0 Keep.rfl) ?_;by_cases c1:ow<0
   ·rw[if_pos (by simpa using c1)];exact ⟨by first | rfl | trivial,by first | rfl | trivial⟩
   rw[if_neg (by simpa using c1)];refine ld_go (s0 Keep.rfl) (nck_go (ld_go (hs2 Keep.rfl) ?_));rw[show decide (ow≥(t0.len:Int))=true from dT (by omega)];exact ⟨by first | rfl | trivial,by first | rfl | trivial⟩
  ·rw[if_pos (by rfl)];refine hn ?_ h1 k1;unfold findN tabOf;rw[if_neg hc];rfl
 obtain ⟨o,ho⟩:∃t:Nat,ow=t:=⟨ow.toNat,by omega⟩;have hoX:o<X.length:=by omega
 have hov:o<vv.length:=by omega
 have hos:o<ss.length:=by omega
 refine jn_at (false,()) h1 ?_ ?_
 ·refine ld_go (s0 Keep.rfl) ?_;rw[if_neg (by simp;omega)];refine ld_go (s0 Keep.rfl) (nck_go (ld_go (hs2 Keep.rfl) ?_));exact ⟨by simp;omega,by first | rfl | trivial⟩
 rw[if_neg (by simp)];refine nck_go (ld_go (hs2 Keep.rfl) (ld_go (s0 Keep.rfl) ?_));rw[ho];have w1:=w.keep k1;refine seg_ix w1.t (x:=ss[o]) (by omega) (by simp[hos]) rfl ?_;refine ld_go (s1 Keep.rfl) ?_;have gs:=w.r.getI hos hov;have gn:=w.n.getI hov hoX;have hrN:=hr _ (YAN hoX);have hvl:=gn.len;refine dir_PlaceN.s (gs.keep (by decide) k1) (by omega) fun i h3 k3 hile hb2 =>?_;have hrv:risesV vv[o]=true:=by rw[risesV_eq gn];exact hrN.1
 obtain ⟨lo,hi⟩:=hb2 hrv;obtain ⟨pf1,pf2⟩:=place_find gn hrv lo hi;have hfN:findN X (ow,(nu,()))=X[o].find? fun x=>decide (x.num=nu):=by unfold findN;rw[ho,tabOf_at hoX]
 have k13:Keep [] h h3:=k1.n k3
 cases hf:foundV vv[o] nu i with
 | false =>
   rw[if_pos (by rfl)];exact hn (by rw[hfN];exact pf2 hf) h3 k13
 | true =>
   rw[if_neg (by simp)];obtain ⟨hi1,hi2,hfi⟩:=pf1 hf;refine nck_go (ld_go (hs2 k3) (ld_go (s0 k3) ?_));rw[ho];refine seg_ix (w1.t.keep (by decide) k3) (x:=ss[o]) (by omega) (by simp[hos]) rfl ?_;obtain ⟨lb,hlb,hsm⟩:=gs.el i vv[o][i] (by simp[hi1]);have hsl:=gs.len;refine ⟨lb,hlb,by omega,by omega,?_⟩;rw[YAb]
   have hnum:X[o][i].num=nu:=by
    have:=List.find?_some hfi;simpa using this
   exact hy o i hos hov hoX hi1 hi2 lb ho hlb (gn.getI hi1 hi2) hsm (by rw[hfN];exact hfi) hnum h3 k13
theorem ZDA.s {h:Heap} {K:Rf→Heap→Prop} (hK:∀h',Keep [] h h'→K rootR h'):ZDA.C h K:=by
 apply ZDA.c;unfold ZDA.m;refine new_gen fun b h1 hb k1 e1 hs1 =>?_;have e1:h1[b]? = some (vobj t_api_Ref RF (rf 0 0)):=e1;refine st_ld (y:=rootR) e1 fun h2 k2 e2 hs2 =>?_;exact hK h2 (k1.new k2 (by simp;omega))
theorem risesN_iff:∀xs:Tab,risesN xs=true↔∀j,(h:j+1<xs.length)→xs[j].num<xs[j+1].num
 | []=>by simp[risesN]
 | [x]=>by simp[risesN]
 | x :: y :: r => by
   unfold risesN;rw[YAi,decide_eq_true_eq,risesN_iff (y::r)]
   constructor
   ·rintro ⟨h1,h2⟩ j hj
    cases j with
    | zero=>exact h1
    | succ j=>exact h2 j (by simpa using hj)
   ·intro h;exact ⟨h 0 (by simp),fun j hj=>h (j+1) (by simpa using hj)⟩
theorem nd_ok {x:Nd} (h:ndMay x=true):1≤x.num∧x.num≤32∧(x.kind=0∨x.kind=1)∧(x.mode=0∨x.mode=1)∧1≤x.links∧x.links≤32∧(x.kind=1→x.data=⟨#[]⟩∧dirMay x.ents=true)∧(x.kind≠1→x.data.size≤4096∧x.ents=[]):=by
 unfold ndMay ndNum ndN at h;simp only [YAi,decide_eq_true_eq,Bool.or_eq_true] at h;obtain ⟨⟨⟨⟨⟨⟨h1,h2⟩,h3⟩,h4⟩,h5⟩,h6⟩,h7⟩:=h;refine ⟨h1,h2,h3,h4,h5,h6,fun hk =>?_,fun hk =>?_⟩
 ·rw[if_pos hk] at h7;simpa using h7
 ·rw[if_neg hk] at h7;simpa using h7
theorem nd_small {x:Nd} (h:ndMay x=true):x.data.size≤4096∧x.ents.length≤32∧dirMay x.ents=true:=by
 obtain ⟨_,_,_,_,_,_,h1,h2⟩:=nd_ok h;by_cases hk:x.kind=1
 ·obtain ⟨a,b⟩:=h1 hk;refine ⟨by rw[a];decide,(dir_ok b).1,b⟩
 ·obtain ⟨a,b⟩:=h2 hk;exact ⟨a,by rw[b];simp,by rw[b];rfl⟩
theorem tab_ok {t:Tab} (h:tabMay t=true):risesN t=true∧(∀x∈t,ndMay x=true)∧t.length≤32:=by
 unfold tabMay at h;simp only [YAi,YAC] at h;refine ⟨h.1,h.2,?_⟩
 have hg:∀j,(hj:j<t.length)→(j:Int)+1≤t[j].num:=by
  intro j
  induction j with
  | zero=>intro hj;have:=(nd_ok (h.2 _ (YAN hj))).1;omega
  | succ j ih =>
    intro hj;have h1:=ih (by omega);have h2:=(risesN_iff t).1 h.1 j hj;omega
 by_cases h0:t.length=0
 ·omega
 ·have h1:=hg (t.length-1) (by omega);have h2:=(nd_ok (h.2 _ (YAN (show t.length-1<t.length by omega)))).2.1;omega
theorem st_ok {X:Fs} (h:stMay X=true):1≤X.length∧X.length≤24∧(∀t∈X,tabMay t=true)∧∃x,findN X rootR=some x∧x.kind=1:=by
 unfold stMay at h;simp only [YAi,decide_eq_true_eq,YAC] at h;obtain ⟨⟨⟨h1,h2⟩,h3⟩,h4⟩:=h;refine ⟨h1,h2,h3,?_⟩
 cases hf:findN X rootR with
 | none=>rw[hf] at h4;simp at h4
 | some x=>rw[hf] at h4;exact ⟨x,rfl,by simpa using h4⟩
theorem ZDP.s {t0:Slc} {ss:List Slc} {vv:List (List NdV)} {X:Fs} {h:Heap} {K:Bool→Heap→Prop} (w:StW h t0 ss vv X) (hl:∀t∈X,t.length≤9223372036854775807) (hK:∀h',Keep [] h h'→K (stMay X) h'):ZDP.C (t0,()) h K:=by
 apply ZDP.c;unfold ZDP.m;refine new_gen fun b h1 hb k1 e1 hs1 =>?_;have e1:h1[b]? = some (vobj t_api_State StaK (t0,())):=e1;have tl:=w.t.len;have rl:=w.r.len;have nl:=w.n.len;have s0:∀ {h'},Keep [] h1 h'→sm .sl ((Pl.mk b 0).fld 0) t0 h':=fun k=>sm_fld (k.g e1) rfl (by decide);have hdef:stMay X=(decide (1≤X.length)&&decide (X.length≤24)&&X.all tabMay&&(match findN X rootR with | some x=>decide (x.kind=1) | none=>false)):=rfl;by_cases hc:1≤X.length∧X.length≤24
 case neg=>
  have hf:stMay X=false:=by
   rw[hdef];by_cases c1:1≤X.length
   ·have c2:¬X.length≤24:=fun h=>hc ⟨c1,h⟩;simp[c2]
   ·simp[c1]
  refine jn_at (true,()) h1 ?_ ?_
  ·refine ld_go (s0 Keep.rfl) ?_;by_cases c1:(t0.len:Int)<1
   ·rw[if_pos (by simpa using c1)];exact ⟨by first | rfl | trivial,by first | rfl | trivial⟩
   rw[if_neg (by simpa using c1)];refine ld_go (s0 Keep.rfl) ?_;exact ⟨by simp;omega,by first | rfl | trivial⟩
  ·rw[if_pos (by rfl),←hf];exact hK h1 k1
 refine jn_at (false,()) h1 ?_ ?_
 ·refine ld_go (s0 Keep.rfl) ?_;rw[if_neg (by simp;omega)];refine ld_go (s0 Keep.rfl) ?_;exact ⟨by simp;omega,by first | rfl | trivial⟩
 rw[if_neg (by simp)];refine ld_go (s0 Keep.rfl) ?_
 have bad:(∃t∈X,tabMay t=false)→stMay X=false:=by
  rintro ⟨t,ht,hf⟩;rw[hdef]
  have:X.all tabMay=false:=by
   cases ha:X.all tabMay with
   | false=>rfl
   | true=>rw[YAC] at ha;rw[ha t ht] at hf;simp at hf
  rw[this];simp
 refine lp_go (fun (y:Int×Unit) (h3:Heap)=>∃n:Nat,y.1=n∧n≤X.length∧Keep [] h1 h3∧∀j,(hj:j<X.length)→j<n→tabMay X[j]=true) (fun (y:Int×Unit) _=>X.length-y.1.toNat) ?_ ?_
 ·exact ⟨0,rfl,YAh _,Keep.rfl,fun j _ h=>by omega⟩
 ·rintro ⟨(i:Int),_⟩ h3 ⟨n,e,hn,k3,hall⟩;dsimp only at e ⊢;subst e;have k03:Keep [] h h3:=k1.n k3;have w3:=w.keep k03;by_cases hlt:n<X.length
  ·rw[if_pos (show decide ((n:Int)<(t0.len:Int))=true from dT (by omega))];have hns:n<ss.length:=by omega
   have hnv:n<vv.length:=by omega
   refine seg_ix w3.t (x:=ss[n]) (by omega) (by simp[hns]) rfl ?_;have gs:=w3.r.getI hns hnv;have gn:=w3.n.getI hnv hlt;have hvl:=gn.len;have hsl:=gs.len;have hXl:=hl _ (YAN hlt);have hw:w64 ((n:Int)+1)=((n+1:Nat):Int):=w6 (by omega);refine dir_RisingN.s gs (by omega) fun h4 k4 =>?_;rw[risesV_eq gn];have k04:=k03.n k4
   cases hr:risesN X[n] with
   | false =>
     rw[if_pos (by rfl),←bad ⟨X[n],YAN hlt,by unfold tabMay;rw[hr];rfl⟩];exact hK h4 k04
   | true =>
     rw[if_neg (by simp)];refine lp_go (fun (y:Int×Unit) (h5:Heap)=>∃q:Nat,y.1=q∧q≤X[n].length∧Keep [] h4 h5∧∀j,(hj:j<X[n].length)→j<q→ndMay X[n][j]=true) (fun (y:Int×Unit) _=>X[n].length-y.1.toNat) ?_ ?_
     ·exact ⟨0,rfl,YAh _,Keep.rfl,fun j _ h=>by omega⟩
     ·rintro ⟨(i:Int),_⟩ h5 ⟨q,e,hq,k5,hall5⟩;dsimp only at e ⊢;subst e;have k05:=k04.n k5;by_cases hlq:q<X[n].length
      ·rw[if_pos (show decide ((q:Int)<(ss[n].len:Int))=true from dT (by omega))];have hqv:q<vv[n].length:=by omega
       obtain ⟨l,hl1,hx1⟩:=seg_at ((gs.keep (by decide) k4).keep (by decide) k5) (i:=q) hqv;refine ⟨l,hl1,by omega,by omega,?_⟩;rw[YAb];refine ZDE.s hx1 (((gn.getI hqv hlq).keep k4 (by simp)).keep k5 (by simp)) fun h6 k6 =>?_
       cases hm:ndMay X[n][q] with
       | false =>
         have:tabMay X[n]=false:=by
          unfold tabMay
          have:X[n].all ndMay=false:=by
           cases ha:X[n].all ndMay with
           | false=>rfl
           | true=>rw[YAC] at ha;rw[ha _ (YAN hlq)] at hm;simp at hm
          rw[this];simp
         rw[if_pos (by rfl),←bad ⟨X[n],YAN hlt,this⟩];exact hK h6 (k05.n k6)
       | true =>
         rw[if_neg (by simp)];have hwq:w64 ((q:Int)+1)=((q+1:Nat):Int):=w6 (by omega);rw[hwq];refine ⟨⟨q+1,rfl,by omega,k5.n k6,fun j hj hjq =>?_⟩,by simp;omega⟩;by_cases hje:j=q
         ·subst hje;exact hm
         ·exact hall5 j hj (by omega)
      ·rw[if_neg (show ¬decide ((q:Int)<(ss[n].len:Int))=true by simp;omega)];rw[hw];refine ⟨⟨n+1,rfl,by omega,(k3.n k4).n k5,fun j hj hjn =>?_⟩,by simp;omega⟩;by_cases hje:j=n
       ·subst hje;unfold tabMay;rw[hr,YAj,YAC];intro x hx;obtain ⟨p,hp,rfl⟩:=List.mem_iff_getElem.1 hx;exact hall5 p hp (by omega)
       ·exact hall j hj (by omega)
  ·rw[if_neg (show ¬decide ((n:Int)<(t0.len:Int))=true by simp;omega)]
   have hta:X.all tabMay=true:=by
    rw[YAC];intro x hx;obtain ⟨j,hj,rfl⟩:=List.mem_iff_getElem.1 hx;exact hall j hj (by omega)
   have hd2:stMay X=(match findN X rootR with | some x=>decide (x.kind=1) | none=>false):=by
    rw[hdef,hta];simp[hc.1,hc.2]
   refine ZDA.s fun h7 k7 =>?_;have k07:=k03.n k7
   have hris:∀t∈X,risesN t=true∧t.length≤2305843009213693952:=fun t ht=>by
    have:=tab_ok (List.all_eq_true.1 hta t ht);exact ⟨this.1,by omega⟩
   refine ZC7.s (w.keep k07) (s0 (k3.n k7)) hris (fun hnone h8 k8 =>?_) fun o i g1 g2 g3 g4 g5 lb hro hlb hat hsm hfi hnum h8 k8 =>?_
   ·refine jn_at (false,()) h8 (by rw[if_neg (by simp)];exact ⟨by first | rfl | trivial,by first | rfl | trivial⟩) ?_;rw[hnone] at hd2;have hd3:stMay X=false:=hd2;have hK':=hK h8 (k07.n k8);rw[hd3] at hK';exact hK'
   ·rw[hfi] at hd2;refine jn_at (stMay X,()) h8 ?_ (hK h8 (k07.n k8));rw[if_pos (by simp)];have f1:=(nd_f (sm_keep' hsm k8 (by simp))).2.1;rw[hat.k] at f1;refine nck_go (ld_go f1 ?_);exact ⟨by rw[hd2],by first | rfl | trivial⟩
abbrev PcK:Kd := .ag (.pr .s (.pr .b (.pr InK .un)))
theorem wr_root {v:InK.Ty} {z:HsV}:wrL (InK.cells v) 5 (HK.cells z)=InK.cells (v.1,(v.2.1,(v.2.2.1,(v.2.2.2.1,(v.2.2.2.2.1,(z,())))))):=by
 have e:InK.cells v=[.int .i64 v.1,.int .i64 v.2.1,.int .i64 v.2.2.1,.int .i64 v.2.2.2.1,.int .i64 v.2.2.2.2.1]++(HK.cells v.2.2.2.2.2.1++[]):=rfl;have e2:InK.cells (v.1,(v.2.1,(v.2.2.1,(v.2.2.2.1,(v.2.2.2.2.1,(z,()))))))=[.int .i64 v.1,.int .i64 v.2.1,.int .i64 v.2.2.1,.int .i64 v.2.2.2.1,.int .i64 v.2.2.2.2.1]++(HK.cells z++[]):=rfl;have l1:(HK.cells z).length=32:=Kd.cells_length _ _;have l2:(HK.cells v.2.2.2.2.2.1).length=32:=Kd.cells_length _ _;rw[e,e2];unfold wrL;rw[l1,YAE,YAE,List.drop_eq_nil_of_le (by rw[YAO,l2];simp),YAE,List.take_append_of_le_length (by simp),YAZ (by simp)]
theorem treeO_mem {d:ByteArray}:treeR d∈treeO d:=by
 unfold treeO;rw[mem_onceL]
 right;simp
theorem treeO_len {d:ByteArray} (hd:d.size≤4096):(treeO d).length≤73:=by
 have h1:=treeB_len (d:=d);have h2:=treeI_len (d:=d);have h3:=onceL_len (L:=([]:List ByteArray)) (xs:=treeB d++treeI d++[treeR d]);unfold treeO;simp only [YAO,YAP,YAS] at h3;omega
theorem ndObjs_len {x:Nd} (h:ndMay x=true):1≤(ndObjs x).length∧(ndObjs x).length≤73:=by
 unfold ndObjs;split
 ·simp
 ·have:=treeO_len (nd_small h).1;exact ⟨List.length_pos_of_mem treeO_mem,this⟩
theorem ZAo.s {yl:Value} {c0:Nat} {sl:Slc} {vs:List NdV} {t:Tab} {h:Heap} {K:Heap→Prop} {L0:List ByteArray} {W0:List Nat} (I:List ByteArray→List Ino→List Nat→Heap→Prop) (ht:∀x∈t,ndMay x=true) (hl:t.length≤32) (hL:L0.length≤80000)
 (h0:∀ {L ns W h},I L ns W h→h[c0]? = some (vobj t_s_api_Node .sl sl)∧Seg NdK sl vs h∧All2 (NdAt h) vs t∧∀q∈W,q<h.size)
 (hst:∀ {L ns W h h'},I L ns W h→Keep [] h h'→I L ns W h')
 (hy:∀ {L ns W h} {o:ByteArray} {b:Bool} {x:Ino} {K:Bool→Heap→Prop},I L ns W h→L.length≤90000→ns.length≤32→(∀h' W',I (once L o) (if b=true then ns++[x] else ns) W' h'→Keep W h h'→(∀q∈W',q∈W∨h.size≤q)→K true h')→callV Tryz.prog yl [PcK.val (o,(b,(inoV x,())))] .b h K)
 (hI:I L0 [] W0 h) (hK:∀h' W',I (onceL L0 (t.flatMap ndObjs)) (t.map inoOf) W' h'→Keep W0 h h'→(∀q∈W',q∈W0∨h.size≤q)→K h'):ZAo.C yl ⟨c0,0⟩ h K:=by
 apply ZAo.c;unfold ZAo.m;refine ld_go (sm_all (h0 hI).1) ?_;have gl0:=(h0 hI).2.1.len;have al0:=(h0 hI).2.2.1.len;refine lp_go (fun (y:Int×Unit) (h1:Heap)=>∃j W,y.1=((j:Nat):Int)∧j≤t.length∧I (onceL L0 ((t.take j).flatMap ndObjs)) ((t.take j).map inoOf) W h1∧Keep W0 h h1∧∀q∈W,q∈W0∨h.size≤q) (fun (y:Int×Unit) _=>t.length-y.1.toNat) ?_ ?_
 ·exact ⟨0,W0,rfl,YAh _,by simpa[onceL_nil] using hI,Keep.rfl,fun q hq => .inl hq⟩
 ·rintro ⟨(i:Int),_⟩ h1 ⟨j,W,e,hj,i1,k1,w1⟩;dsimp only at e ⊢;subst e;obtain ⟨c1,g1,a1,lt1⟩:=h0 i1;by_cases hlt:j<t.length
  ·rw[if_pos (show decide ((j:Int)<(sl.len:Int))=true from dT (by omega))];have hw:w64 ((j:Int)+1)=((j+1:Nat):Int):=w6 (by omega);rw[hw];have hvs:j<vs.length:=by omega
   have hx:=ht _ (YAN hlt);have av:=a1.getI hvs hlt;have htake:t.take (j+1)=t.take j++[t[j]]:=YAa hlt
   have hflen:((t.take j).flatMap ndObjs).length≤73*j:=by
    have:∀(l:Tab),(∀x∈l,ndMay x=true)→(l.flatMap ndObjs).length≤73*l.length:=by
     intro l
     induction l with
     | nil=>intro _;simp
     | cons a r ih =>
       intro h;have h1:=ih fun x hx=>h x (by simp[hx]);have h2:=(ndObjs_len (h a (by simp))).2;rw[YAI,YAO,YAP];omega
    have h1:=this (t.take j) (fun x hx=>ht x (List.take_subset _ _ hx));rw[YAT] at h1;omega
   have hLl:=onceL_len (L:=L0) (xs:=(t.take j).flatMap ndObjs);generalize hLe:onceL L0 ((t.take j).flatMap ndObjs)=L at i1 hLl
   have hLn:onceL L0 ((t.take (j+1)).flatMap ndObjs)=onceL L (ndObjs t[j]):=by
    rw[htake,YAH,onceL_app,hLe];simp
   have hNn:(t.take (j+1)).map inoOf=(t.take j).map inoOf++[inoOf t[j]]:=by rw[htake,YAU];rfl
   have hNl:((t.take j).map inoOf).length≤j:=by simp;omega
   generalize hNe:(t.take j).map inoOf=N at i1 hNn hNl;rw[hLn.symm.trans hLn] at *;generalize hxe:t[j]=x at *;obtain ⟨hz1,hz2,hz3⟩:=nd_small hx;have ho:=ndObjs_len hx;refine jn_in (fun _ h2=>∃W',I (onceL L (ndObjs x)) (N++[inoOf x]) W' h2∧Keep W h1 h2∧∀q∈W',q∈W∨h1.size≤q) ?_ ?_
   ·refine ld_go (sm_all c1) ?_;refine seg_ixl g1 (x:=vs[j]) (by omega) (by simp[hvs]) rfl fun l hsm =>?_;generalize vs[j]=v at *;obtain ⟨f0,f1,f2,f3,f4,f5⟩:=nd_f hsm;rw[av.n] at f0;rw[av.k] at f1;rw[av.m] at f2;rw[av.l] at f3;rw[av.d] at f4;refine nck_go (ld_go f0 (nck_go (ld_go f1 (nck_go (ld_go f2 (nck_go (ld_go f3 ?_)))))));refine new_gen fun b1 h3 hb1 k3 e3 hs3 =>?_;refine ⟨sm_keep (by decide) f3 k3,sm_keep (by decide) f2 k3,sm_keep (by decide) f1 k3,sm_keep (by decide) f0 k3,?_⟩;refine st_to e3 fun h4 k4 e4 hs4 =>?_;have k14:Keep [] h1 h4:=k3.new k4 (by simp;omega);refine nck_go (ld_go (sm_keep (by decide) f1 k14) ?_);refine jn_in (fun y h5=>Keep [] h1 h5∧Row h5 t_string .s y.1 (ndObjs x)∧(∀q∈own y.1,h1.size≤q)∧h5[b1]? = some (vobj t_api_Inode InK (inoV (inoOf x)))) ?_ ?_
    ·by_cases hk:x.kind=1
     ·rw[if_pos (by simpa using hk)];refine nck_go (ld_go (sm_keep (by decide) f5 k14) ?_);refine ZDe.s (av.keep k14 (by simp)).e fun h6 k6 =>?_;rw[if_pos hz3]
      have hdz:(bx (putBytes x.ents)).size≤65536:=by
       rw[bx_size];have h1:=flat_le (dir_ok hz3).2.2;unfold putBytes;simp only [YAO,be_len];omega
      refine ZAV.s (d:=bx (putBytes x.ents)) hdz fun h7 k7 =>?_;have k47:Keep [] h4 h7:=k6.n k7;refine st_fld (k':=HK) (n:=5) (x':=_) (k47.g e4) (by decide) wr_root ?_;have eb:=k47.g e4;refine bs_gen fun b9 h9 hb9 k9 r9 hs9 =>?_;have k8:Keep [] h1 _:=(k14.n k47).new (keep_set (h:=h7) (b:=b1) (o:=vobj t_api_Inode InK (x.num,(x.kind,(x.mode,(x.links,(0,(hashS (bx (putBytes x.ents)),())))))))) (by simp;omega)
      have hd0:x.data=⟨#[]⟩:=by
       obtain ⟨_,_,_,_,_,_,q1,_⟩:=nd_ok hx;exact (q1 hk).1
      refine ⟨k8.n k9,?_,?_,?_⟩
      ·unfold ndObjs;rw[if_pos hk];exact r9
      ·intro q hq;have hq':q=b9:=by simpa[own] using hq
       rw[hq',hb9];exact k8.1
      ·refine k9.g ((get_set eb).trans ?_);unfold inoOf ndRoot inoV;rw[if_pos hk,hd0]
       rfl
     ·rw[if_neg (by simpa using hk)];refine nck_go (ld_go (sm_keep (by decide) f4 k14) ?_);refine st_fld (k' := .i) (n:=4) (x':=(x.num,(x.kind,(x.mode,(x.links,((x.data.size:Int),(Vector.replicate 32 0,()))))))) e4 (by decide) rfl ?_;have e10:=get_set (o':=vobj t_api_Inode InK (x.num,(x.kind,(x.mode,(x.links,((x.data.size:Int),(Vector.replicate 32 0,()))))))) e4;have k10:Keep [] h1 (h4.setIfInBounds b1 (vobj t_api_Inode InK (x.num,(x.kind,(x.mode,(x.links,((x.data.size:Int),(Vector.replicate 32 0,())))))))):=k14.new keep_set (by simp;omega);generalize h4.setIfInBounds b1 (vobj t_api_Inode InK (x.num,(x.kind,(x.mode,(x.links,((x.data.size:Int),(Vector.replicate 32 0,())))))))=h10 at e10 k10 ⊢;refine nck_go (ld_go (sm_keep (by decide) f4 k10) ?_);refine ZCt.s hz1 fun o h11 k11 r11 o11 =>?_;have e11:=k11.g e10;refine st_fld (k':=HK) (n:=5) (x':=_) e11 (by decide) wr_root ?_;refine ⟨(k10.n k11).new keep_set (by simp;omega),?_,?_,?_⟩
      ·unfold ndObjs;rw[if_neg hk];exact r11.keep keep_set (fun q hq hm=>by simp at hm;subst hm;have:=o11 _ hq;have:=lt_of_some e10;omega)
      ·intro q hq;have:=o11 q hq;have:=k10.1;omega
      ·refine (get_set e11).trans ?_;unfold inoOf ndRoot inoV;rw[if_neg hk]
    ·rintro ⟨(o:Slc),_⟩ h5 ⟨k5,r5,o5,e5⟩;dsimp only at r5 o5 ⊢;have i5:=hst i1 k5;have rl:=r5.len;have nW:∀q∈own o,q∉W:=fun q hq hm=>by have:=o5 q hq;have:=lt1 q hm;omega
     have nb1:b1∉W:=fun hm=>by have:=lt1 _ hm;omega
     refine lp_go (fun (y:Int×Unit) (h13:Heap)=>∃k W',y.1=((k:Nat):Int)∧k≤(ndObjs x).length∧I (onceL L ((ndObjs x).take k)) (if k=(ndObjs x).length then N++[inoOf x] else N) W' h13∧Keep W h5 h13∧∀q∈W',q∈W∨h5.size≤q) (fun (y:Int×Unit) _=>(ndObjs x).length-y.1.toNat) ?_ ?_
     ·exact ⟨0,W,rfl,YAh _,by rw[if_neg (by omega),List.take_zero,onceL_nil];exact i5,Keep.rfl,fun q hq => .inl hq⟩
     ·rintro ⟨(p:Int),_⟩ h13 ⟨k,W',e,hk,i13,k13,w13⟩;dsimp only at e ⊢;subst e;have hLk:=onceL_len (L:=L) (xs:=(ndObjs x).take k);rw[YAT] at hLk;by_cases hlk:k<(ndObjs x).length
      ·rw[if_pos (show decide ((k:Int)<(o.len:Int))=true from dT (by omega))];have hwk:w64 ((k:Int)+1)=((k+1:Nat):Int):=w6 (by omega);have hwl:w64 ((o.len:Int)-1)=(((ndObjs x).length-1:Nat):Int):=w6 (by omega);rw[hwk,hwl];refine ix_ld (r5.keep k13 nW) (x:=(ndObjs x)[k]) (by omega) (by simp[hlk]) rfl ?_;refine ld_go (sm_all (k13.get e5 nb1)) ?_;rw[if_neg (by omega)] at i13;refine hy i13 (by omega) (by omega) fun h14 W2 i14 k14 w14 =>?_;rw[if_neg (by simp)];refine ⟨⟨k+1,W2,rfl,by omega,?_,k13.then k14 (fun q hq _=>hq) (fun q hq hl=>by rcases w13 q hq with h | h;exact h;omega),fun q hq =>?_⟩,by simp;omega⟩
       ·rw[onceL_take hlk];by_cases hlast:k+1=(ndObjs x).length
        ·rw[if_pos hlast];rw[if_pos (show decide ((k:Int)=(((ndObjs x).length-1:Nat):Int))=true from dT (by omega))] at i14;exact i14
        ·rw[if_neg hlast];rw[if_neg (show ¬decide ((k:Int)=(((ndObjs x).length-1:Nat):Int))=true from dn (by omega))] at i14;exact i14
       ·rcases w14 q hq with h | h
        ·exact w13 q h
        ·right;have:=k13.1;omega
      ·rw[if_neg (show ¬decide ((k:Int)<(o.len:Int))=true by simp;omega)];obtain rfl:k=(ndObjs x).length:=by omega
       rw[if_pos rfl,YAZ (YAd _)] at i13;refine ⟨W',i13,k5.then k13 (by simp) (fun q hq _=>hq),fun q hq =>?_⟩;rcases w13 q hq with h | h
       ·exact .inl h
       ·right;have:=k5.1;omega
   ·rintro _ h2 ⟨W',i2,k2,w2⟩;refine ⟨⟨j+1,W',rfl,by omega,?_,k1.then k2 (fun q hq _=>hq) (fun q hq hl=>by rcases w1 q hq with h | h;exact h;omega),fun q hq =>?_⟩,by simp;omega⟩
    ·rw[hLn,hNn];exact i2
    ·rcases w2 q hq with h | h
     ·exact w1 q h
     ·right;have:=k1.1;omega
  ·rw[if_neg (show ¬decide ((j:Int)<(sl.len:Int))=true by simp;omega)];obtain rfl:j=t.length:=by omega
   rw[YAZ (YAd _)] at i1;exact hK h1 W i1 k1 w1
section
variable {h0 h:Heap} {w:Nat} {mv:MbK.Ty} {t0:Slc} {ss:List Slc} {vv:List (List NdV)} {a b:Slc} {W:Wk}
end
section
variable {h0 h:Heap} {w:Nat} {mv:MbK.Ty} {t0:Slc} {ss:List Slc} {vv:List (List NdV)} {a b:Slc} {W:Wk}
end
section
variable {h0 h:Heap} {w:Nat} {mv:MbK.Ty} {t0:Slc} {ss:List Slc} {vv:List (List NdV)} {a b:Slc} {W:Wk}
end
section
variable {h0 h:Heap} {w:Nat} {mv:MbK.Ty} {t0:Slc} {ss:List Slc} {vv:List (List NdV)} {a b:Slc} {W:Wk}
theorem risesN_lt {xs:Tab} (hr:risesN xs=true) {i:Nat}:∀ {j:Nat},(hij:i<j)→(hj:j<xs.length)→(xs[i]'(by omega)).num<xs[j].num
 | j + 1, hij, hj => by
   have h1:=(risesN_iff xs).1 hr j hj;by_cases h:i=j
   ·subst h;exact h1
   ·exact Int.lt_trans (risesN_lt hr (by omega) (by omega)) h1
theorem map_set {t:Tab} (hr:risesN t=true) {j:Nat} (hj:j<t.length) {x':Nd}:(t.map fun x=>if x.num=t[j].num then x' else x)=t.set j x':=by
 refine List.ext_getElem (by simp) fun n h1 h2 =>?_;rw[YAM,List.getElem_set];simp only [YAR] at h1;by_cases h:j=n
 ·subst h;simp
 ·rw[if_neg h,if_neg];intro he;by_cases hlt:n<j
  ·have:=risesN_lt hr hlt hj;omega
  ·have:=risesN_lt hr (show j<n by omega) h1;omega
end
section
variable {h0 h:Heap} {w:Nat} {mv:MbK.Ty} {t0:Slc} {ss:List Slc} {vv:List (List NdV)} {a b:Slc} {W:Wk}
end
section
variable {h0 h:Heap} {w:Nat} {mv:MbK.Ty} {t0:Slc} {ss:List Slc} {vv:List (List NdV)} {a b:Slc} {W:Wk}
end
section
variable {h0 h:Heap} {w:Nat} {mv:MbK.Ty} {t0:Slc} {ss:List Slc} {vv:List (List NdV)} {a b:Slc} {W:Wk}
end
section
variable {h0 h:Heap} {w:Nat} {mv:MbK.Ty} {t0:Slc} {ss:List Slc} {vv:List (List NdV)} {a b:Slc} {W:Wk}
end
section
variable {h0 h:Heap} {w:Nat} {mv:MbK.Ty} {t0:Slc} {ss:List Slc} {vv:List (List NdV)} {a b:Slc} {W:Wk}
end
section
variable {h0 h:Heap} {w:Nat} {mv:MbK.Ty} {t0:Slc} {ss:List Slc} {vv:List (List NdV)} {a b:Slc} {W:Wk}
end
section
variable {h0 h:Heap} {w:Nat} {mv:MbK.Ty} {t0:Slc} {ss:List Slc} {vv:List (List NdV)} {a b:Slc} {W:Wk}
end
def Lens (X:Fs):Prop:=X.length≤9223372036854775807∧∀t∈X,t.length≤9223372036854775807∧∀x∈t,x.ents.length≤9223372036854775807
theorem grp_iff {us:List Int} {n:Int}:grpMay us n=true↔us≠[]∧∀j,(hj:j<us.length)→0≤us[j]∧us[j]<n∧(0<j→us[j-1]'(by omega)<us[j]):=by
 unfold grpMay;simp only [YAi,YAC,decide_eq_true_eq,Bool.not_eq_true',List.isEmpty_eq_false_iff]
 constructor
 ·rintro ⟨⟨h1,h2⟩,h3⟩;refine ⟨h3,fun j hj=>⟨(h1 _ (YAN hj)).1,(h1 _ (YAN hj)).2,fun h0 =>?_⟩⟩;have:=(risesI_iff us).1 h2 (j-1) (by omega);simpa[Nat.sub_add_cancel h0] using this
 ·rintro ⟨h3,h⟩;refine ⟨⟨fun u hu =>?_,(risesI_iff us).2 fun j hj =>?_⟩,h3⟩
  ·obtain ⟨j,hj,rfl⟩:=List.mem_iff_getElem.1 hu;exact ⟨(h j hj).1,(h j hj).2.1⟩
  ·have:=(h (j+1) hj).2.2 (by omega);simpa using this
theorem ZAQ.s {v:MbK.Ty} {m:Mb} {h:Heap} {K:Bool→Heap→Prop} (a:MbAt h v m) (hgl:m.groups.length≤9223372036854775807) (hK:∀h',Keep [] h h'→K (mbMay m) h'):ZAQ.C v h K:=by
 apply ZAQ.c;unfold ZAQ.m;refine new_gen fun b h1 hb k1 e1 hs1 =>?_;have e1:h1[b]? = some (vobj t_api_Members MbK v):=e1;obtain ⟨gs,g1,g2⟩:=a.g;have hu:=a.u;obtain ⟨(u:Int),(sl:Slc),⟨⟩⟩:=v;dsimp only at hu g1;subst hu;have f0:sm .i ((Pl.mk b 0).fld 0) m.users h1:=sm_sub (sm_all e1) (by decide) rfl;have f1:sm .sl ((Pl.mk b 0).fld 1) sl h1:=sm_sub (sm_all e1) (by decide) rfl;have gl:=g1.len;have g2l:=g2.len;have g1':=g1.keep (by decide) k1;refine jn_in (fun y h'=>h'=h1∧y.1=decide (m.users<1∨16<m.users∨8<m.groups.length)) ?_ ?_
 ·refine ld_go f0 ?_;by_cases c1:m.users<1
  ·rw[if_pos (by simpa using c1)];exact ⟨rfl,by simp[c1]⟩
  rw[if_neg (by simpa using c1)];refine ld_go f0 ?_;by_cases c2:m.users>16
  ·rw[if_pos (by simpa using c2)];exact ⟨rfl,by simp[c2]⟩
  rw[if_neg (by simpa using c2)];refine ld_go f1 ⟨rfl,?_⟩;have:(sl.len:Int)=(m.groups.length:Int):=by omega
  rw[this];by_cases c3:8<m.groups.length
  ·rw[dT (by omega),dT (by omega)]
  ·rw[dF (by omega),dF (by omega)]
 rintro ⟨(y:Bool),_⟩ h2 ⟨rfl,ey⟩;dsimp only at ey ⊢;rw[ey];by_cases hc:m.users<1∨16<m.users∨8<m.groups.length
 ·rw[if_pos (dT hc)]
  have:mbMay m=false:=by
   unfold mbMay;rcases hc with h | h | h
   ·rw[dF (p:=1≤m.users) (by omega)];rfl
   ·rw[dF (p:=m.users≤16) (by omega)];simp
   ·rw[dF (p:=m.groups.length≤8) (by omega)];simp
  rw[←this];exact hK _ k1
 rw[if_neg (by rw[decide_eq_true_eq];exact hc)]
 have hmb:mbMay m=m.groups.all fun g=>grpMay g m.users:=by
  unfold mbMay;rw[dT (by omega),dT (by omega),dT (by omega)];rfl
 refine lp_go (fun (y:Int×Unit) (h2':Heap)=>h2'=h2∧∃n:Nat,y.1=n∧n≤m.groups.length∧∀j,(hj:j<m.groups.length)→j<n→grpMay m.groups[j] m.users=true) (fun (y:Int×Unit) _=>m.groups.length-y.1.toNat) ?_ ?_
 ·exact ⟨rfl,0,rfl,YAh _,fun j _ h=>by omega⟩
 ·rintro ⟨(i:Int),_⟩ h3 ⟨rfl,n,e,hn,hall⟩;dsimp only at e ⊢;subst e;have hw:w64 ((n:Int)+1)=((n+1:Nat):Int):=w6 (by omega);rw[hw];refine ld_go f1 ?_;by_cases hlt:n<m.groups.length
  ·rw[if_pos (show decide ((n:Int)<(sl.len:Int))=true from dT (by omega))];have hg:n<gs.length:=by omega
   refine ld_go f1 ?_;refine seg_ix g1' (x:=gs[n]) (by omega) (by simp[hg]) rfl ?_;obtain ⟨gr,grl⟩:=g2.getI hg hlt;have gr':=gr.keep (by decide) k1;have grlen:=gr.len
   have bad:grpMay m.groups[n] m.users=false→K false h3:=fun hb=>by
    have:mbMay m=false:=by
     rw[hmb,YAB];exact ⟨_,YAN hlt,by rw[hb];simp⟩
    rw[←this];exact hK _ k1
   generalize hG:m.groups[n]=G at *;generalize hS:gs[n]=S at *;refine lp_go (fun (y:Int×Unit) (h2':Heap)=>h2'=h3∧∃q:Nat,y.1=q∧q≤G.length∧∀j,(hj:j<G.length)→j<q→0≤G[j]∧G[j]<m.users∧(0<j→G[j-1]'(by omega)<G[j])) (fun (y:Int×Unit) _=>G.length-y.1.toNat) ?_ ?_
   ·exact ⟨rfl,0,rfl,YAh _,fun j _ h=>by omega⟩
   ·rintro ⟨(i:Int),_⟩ h4 ⟨rfl,q,e,hq,hall2⟩;dsimp only at e ⊢;subst e;by_cases hlq:q<G.length
    ·rw[if_pos (show decide ((q:Int)<(S.len:Int))=true from dT (by omega))];have hwq:w64 ((q:Int)+1)=((q+1:Nat):Int):=w6 (by omega);rw[hwq]
     have no:¬(0≤G[q]∧G[q]<m.users∧(0<q→G[q-1]'(by omega)<G[q]))→grpMay G m.users=false:=fun hn=>by
      cases hgm:grpMay G m.users with
      | false=>rfl
      | true=>exact absurd ((grp_iff.1 hgm).2 q hlq) hn
     have hgx:G[(q:Int).toNat]? = some G[q]:=by simp[hlq]
     refine jn_go ?_;refine jn_in (fun y h'=>h'=h4∧y.1=decide (¬(0≤G[q]∧G[q]<m.users∧(0<q→G[q-1]'(by omega)<G[q])))) ?_ ?_
     ·refine seg_ix gr' (x:=G[q]) (by omega) hgx rfl ?_;by_cases c1:G[q]<0
      ·rw[if_pos (by simpa using c1)];exact ⟨rfl,by rw[dT];rintro ⟨h,_⟩;omega⟩
      rw[if_neg (by simpa using c1)];refine seg_ix gr' (x:=G[q]) (by omega) hgx rfl (ld_go f0 ?_);by_cases c2:G[q]≥m.users
      ·rw[if_pos (by simpa using c2)];exact ⟨rfl,by rw[dT];rintro ⟨_,h,_⟩;omega⟩
      rw[if_neg (by simpa using c2)];by_cases c3:0<q
      ·rw[if_pos (by simpa using c3)];have hp:w64 ((q:Int)-1)=((q-1:Nat):Int):=w6 (by omega);rw[hp];refine seg_ix gr' (x:=G[q-1]'(by omega)) (by omega) (by rw[YAb,YAK]) rfl ?_;refine seg_ix gr' (x:=G[q]) (by omega) hgx rfl ?_;refine ⟨rfl,?_⟩;by_cases c4:G[q-1]'(by omega)≥G[q]
       ·rw[dT c4,dT];rintro ⟨_,_,h⟩;have:=h c3;omega
       ·rw[dF c4,dF];exact fun h=>h ⟨by omega,by omega,fun _=>by omega⟩
      ·rw[if_neg (by simp;omega)];refine ⟨rfl,?_⟩;dsimp only;rw[dF];exact fun h=>h ⟨by omega,by omega,fun h=>absurd h c3⟩
     ·rintro ⟨(y:Bool),_⟩ h5 ⟨rfl,ey⟩;dsimp only at ey ⊢;rw[ey];by_cases hb:(0≤G[q]∧G[q]<m.users∧(0<q→G[q-1]'(by omega)<G[q]))
      ·rw[if_neg (by rw[decide_eq_true_eq];exact fun h=>h hb)];refine ⟨⟨by first | rfl | trivial,q+1,rfl,by omega,fun j hj hjq =>?_⟩,by simp;omega⟩;by_cases hje:j=q
       ·subst hje;exact hb
       ·exact hall2 j hj (by omega)
      ·rw[if_pos (dT hb)];exact bad (no hb)
    ·rw[if_neg (show ¬decide ((q:Int)<(S.len:Int))=true by simp;omega)];by_cases hz:G.length=0
     ·rw[if_pos (by simp;omega)];refine bad ?_;have:G=[]:=List.length_eq_zero_iff.1 hz;subst this;rfl
     ·rw[if_neg (by simp;omega)];refine ⟨⟨by first | rfl | trivial,n+1,rfl,by omega,fun j hj hjn =>?_⟩,by simp;omega⟩;by_cases hje:j=n
      ·subst hje;rw[hG];exact grp_iff.2 ⟨fun h=>hz (by rw[h];rfl),fun p hp=>hall2 p hp (by omega)⟩
      ·exact hall j hj (by omega)
  ·rw[if_neg (show ¬decide ((n:Int)<(sl.len:Int))=true by simp;omega)]
   have:mbMay m=true:=by
    rw[hmb,YAC];intro g hg;obtain ⟨j,hj,rfl⟩:=List.mem_iff_getElem.1 hg;exact hall j hj (by omega)
   rw[←this];exact hK _ k1
theorem ZAR.s {v:MbK.Ty} {m:Mb} {h:Heap} {K:Int→Heap→Prop} (a:MbAt h v m) (hm:mbMay m=true) (hK:∀h',Keep [] h h'→K (prins m) h'):ZAR.C v h K:=by
 apply ZAR.c;unfold ZAR.m;refine new_gen fun b h1 hb k1 e1 hs1 =>?_;have e1:h1[b]? = some (vobj t_api_Members MbK v):=e1;obtain ⟨gs,g1,g2⟩:=a.g;have hu:=a.u;obtain ⟨(u:Int),(sl:Slc),⟨⟩⟩:=v;dsimp only at hu g1;subst hu;refine ld_go (k := .i) (x:=m.users) (sm_sub (sm_all e1) (by decide) rfl) (ld_go (k := .sl) (x:=sl) (sm_sub (sm_all e1) (by decide) rfl) ?_);have gl:=g1.len;have g2l:=g2.len;unfold mbMay at hm;simp only [YAi,decide_eq_true_eq] at hm;obtain ⟨⟨⟨m1,m2⟩,m3⟩,_⟩:=hm;rw[w64_id (by omega) (by omega)];have:m.users+(sl.len:Int)=prins m:=by unfold prins;omega
 rw[this];exact hK _ k1
def emptyS (m:Mb):Fs:=[⟨1,1,1,1,⟨#[]⟩,[]⟩]::List.replicate ((prins m).toNat-1) []
theorem nd1_at {h:Heap}:NdAt h ((1,(1,(1,(1,(⟨#[]⟩,((⟨none,0,0⟩:Slc),())))))):NdV) ⟨1,1,1,1,⟨#[]⟩,[]⟩:=⟨rfl,rfl,rfl,rfl,rfl,(Row.nil (T:=t_api_Dirent)).seg⟩
theorem all2_rep {α β : Type} {R : α → β → Prop} {a : α} {b : β} (h:R a b):∀n,All2 R (List.replicate n a) (List.replicate n b)
 | 0=>trivial
 | n+1=>by rw[YAV,YAV];exact ⟨h,all2_rep h n⟩
theorem ZCx.s {v:MbK.Ty} {m:Mb} {h:Heap} {K:StaK.Ty→Int→Heap→Prop} (a:MbAt h v m) (hgl:m.groups.length≤9223372036854775807)
 (hno:mbMay m=false→∀h',Keep [] h h'→K ((⟨none,0,0⟩:Slc),()) 1500 h')
 (hK:mbMay m=true→∀h' t0 ss vv,Keep [] h h'→StW h' t0 ss vv (emptyS m)→K (t0,()) 0 h'):ZCx.C v h K:=by
 apply ZCx.c;unfold ZCx.m;refine new_gen fun b1 h1 hb1 k1 e1 hs1 =>?_;have e1:h1[b1]? = some (vobj t_api_Members MbK v):=e1;refine new_gen fun b2 h2 hb2 k2 e2 hs2 =>?_;have e2:h2[b2]? = some (vobj t_api_State StaK ((⟨none,0,0⟩:Slc),())):=e2;have k02:Keep [] h h2:=k1.n k2;have c1:=k2.g e1;refine ld_go (sm_all c1) ?_;refine ZAQ.s (a.keep k02) hgl fun h3 k3 =>?_;have k03:=k02.n k3
 cases hm:mbMay m with
 | false =>
   rw[if_pos (by rfl)];refine st_ld (y:=(((⟨none,0,0⟩:Slc),()):StaK.Ty)) (k3.g e2) fun h4 k4 e4 hs4 =>?_;exact hno hm h4 (k03.new k4 (by simp;omega))
 | true =>
   rw[if_neg (by simp)];refine ld_go (sm_all (k3.g c1)) ?_;refine ZAR.s (a.keep k03) hm fun h5 k5 =>?_
   have hp:1≤prins m∧prins m≤24:=by
    unfold mbMay at hm;simp only [YAi,decide_eq_true_eq] at hm;obtain ⟨⟨⟨m1,m2⟩,m3⟩,_⟩:=hm;unfold prins;omega
   obtain ⟨n,hn⟩:∃n:Nat,prins m=((n+1:Nat):Int):=⟨(prins m).toNat-1,by omega⟩;rw[hn];refine mk_gen (by omega) (by omega) fun b h6 hb6 k6 r6 hs6 =>?_;refine new_st_gen fun b3 h8 hb3 k8 e8 hs8 =>?_;have e8:h8[b3]? = some (vobj t_api_State StaK ((⟨some ⟨b,0⟩,n+1,n+1⟩:Slc),())):=e8;refine ld_go (k := .sl) (x:=(⟨some ⟨b,0⟩,n+1,n+1⟩:Slc)) (sm_sub (sm_all e8) (by decide) rfl) ?_;refine bs_gen fun bq h9 hbq k9 r9 hs9 =>?_;have r69:=(r6.keep k8 (by simp)).keep k9 (by simp);have s8:=k8.1;have s9:=k9.1;refine ix_st (i:=0) (k := .sl) (x:=(⟨some ⟨bq,0⟩,1,1⟩:Slc)) r69 (by omega) (by simp) rfl fun h10 k10 r10 =>?_;have hown:own (⟨some ⟨b,0⟩,n+1,n+1⟩:Slc)=[b]:=rfl;refine ld_go (sm_all (k10.get (k9.g e8) (by rw[hown];simp;omega))) ?_;have s5:=k5.1;have s3:=k3.1;have l2:=lt_of_some e2;have k310:Keep [] h3 h10:=(((k5.n k6).n k8).n k9).new k10 (fun q hq=>by rw[hown] at hq;simp at hq;omega);refine st_ld (k310.g (k3.g e2)) fun h11 k11 e11 hs11 =>?_;refine hK hm h11 _ (⟨some ⟨bq,0⟩,1,1⟩::List.replicate n ⟨none,0,0⟩) ([(1,(1,(1,(1,(⟨#[]⟩,((⟨none,0,0⟩:Slc),()))))))]::List.replicate n []) ((k03.n k310).new k11 (by simp;omega)) ⟨?_,?_,?_⟩
   ·have:(List.replicate (n+1) (Kd.zero .sl)).set (0:Int).toNat (⟨some ⟨bq,0⟩,1,1⟩:Slc)=⟨some ⟨bq,0⟩,1,1⟩::List.replicate n ⟨none,0,0⟩:=by
     rw[YAV];rfl
    rw[←this];exact (r10.keep k11 (by rw[hown];simp;omega)).seg
   ·refine ⟨((r9.keep k10 (by rw[hown];simp[own];omega)).keep k11 (by simp[own];omega)).seg,all2_rep (R:=fun s vs=>Seg NdK s vs h11) (Row.nil (T:=t_api_Node)).seg n⟩
   ·unfold emptyS;have:(prins m).toNat-1=n:=by omega
    rw[this];exact ⟨⟨nd1_at,trivial⟩,all2_rep trivial n⟩
def cC:Cl:=⟨3,⟨#[47,102]⟩,⟨#[]⟩,⟨#[]⟩,0,9,0⟩
def cD:Cl:=⟨2,⟨#[47,100]⟩,⟨#[]⟩,⟨#[]⟩,0,0,1⟩
section
variable {h:Heap} {b:Nat} {a:An}
end
abbrev InoK:Kd := .ag (.pr .i (.pr .i (.pr .i (.pr .i (.pr .i (.pr (.ar 32 .u8) .un))))))
def iN (x:InoK.Ty):Int:=x.1
def iK (x:InoK.Ty):Int:=x.2.1
def iM (x:InoK.Ty):Int:=x.2.2.1
def iL (x:InoK.Ty):Int:=x.2.2.2.1
def iS (x:InoK.Ty):Int:=x.2.2.2.2.1
def inoMay (x:InoK.Ty):Bool:=ndN (iN x) (iK x) (iM x) (iL x)&&decide (0≤iS x)&&decide (iS x≤4096)&&(decide (iK x≠1)||decide (iS x=0))
theorem ino_f {l:Pl} {v:InoK.Ty} {h:Heap} (e:sm InoK l v h):sm .i (l.fld 0) (iN v) h∧sm .i (l.fld 1) (iK v) h∧sm .i (l.fld 2) (iM v) h∧sm .i (l.fld 3) (iL v) h∧sm .i (l.fld 4) (iS v) h∧sm (.ar 32 .u8) (l.fld 5) v.2.2.2.2.2.1 h:=
 ⟨sm_sub e (by decide) rfl,sm_sub e (by decide) rfl,sm_sub e (by decide) rfl,sm_sub e (by decide) rfl,sm_sub e (by decide) rfl,sm_sub e (by decide) (by
  show (([Value.int .i64 v.1]++([Value.int .i64 v.2.1]++([Value.int .i64 v.2.2.1]++([Value.int .i64 v.2.2.2.1]++([Value.int .i64 v.2.2.2.2.1]++((Kd.ar 32 .u8).cells v.2.2.2.2.2.1++[])))))).drop 5).take (Kd.ar 32 .u8).size=_;simp only [List.singleton_append,List.drop_succ_cons,List.drop_zero,YAE];rw[YAZ (by rw[Kd.cells_length];exact YAd _)])⟩
theorem ite_ge {a b:Int} {P Q:Prop} (h1:b≤a→P) (h2:a<b→Q):if decide (a≥b)=true then P else Q:=by
 by_cases h:b≤a
 ·rw[if_pos (by simpa using h)];exact h1 h
 ·rw[if_neg (by simpa using h)];exact h2 (by omega)
theorem ite_le {a b:Int} {P Q:Prop} (h1:a≤b→P) (h2:b<a→Q):if decide (a≤b)=true then P else Q:=by
 by_cases h:a≤b
 ·rw[if_pos (by simpa using h)];exact h1 h
 ·rw[if_neg (by simpa using h)];exact h2 (by omega)
theorem ite_eq {a b:Int} {P Q:Prop} (h1:a=b→P) (h2:a≠b→Q):if decide (a=b)=true then P else Q:=by
 by_cases h:a=b
 ·rw[if_pos (by simpa using h)];exact h1 h
 ·rw[if_neg (by simpa using h)];exact h2 h
theorem ZBS.s {x:InoK.Ty} {h:Heap} {K:Bool→Heap→Prop} (hK:∀h',Keep [] h h'→K (inoMay x) h'):ZBS.C x h K:=by
 apply ZBS.c;unfold ZBS.m;refine new_gen fun b1 h1 hb1 k1 e1 hs1 =>?_;obtain ⟨f0,f1,f2,f3,f4,_⟩:=ino_f (sm_all e1);refine jn_at (inoMay x,()) h1 ?_ (hK h1 k1);unfold inoMay ndN;generalize iN x=n at *;generalize iK x=k at *;generalize iM x=m at *;generalize iL x=l at *;generalize iS x=s at *
 repeat' first | with_reducible refine ld_go f0 ?_ | with_reducible refine ld_go f1 ?_ | with_reducible refine ld_go f2 ?_ | with_reducible refine ld_go f3 ?_ | with_reducible refine ld_go f4 ?_ | with_reducible refine ite_ge (fun hc =>?_) (fun hc =>?_) | with_reducible refine ite_le (fun hc =>?_) (fun hc =>?_) | with_reducible refine ite_eq (fun hc =>?_) (fun hc =>?_)
 all_goals
  refine ⟨Prod.ext ?_ rfl,by first | rfl | trivial⟩;dsimp only;show (_:Bool)=_;rw[Bool.eq_iff_iff];simp only [decide_eq_true_eq,YAi,Bool.or_eq_true,Bool.false_eq_true]
  clear f0 f1 f2 f3 f4 e1 hK
  simp only [Kd.Ty,false_iff] at *;omega
theorem ZCF.s {v:NdV} {x:Nd} {h:Heap} {K:Bool→Heap→Prop} (a:NdAt h v x) (hl:x.ents.length≤9223372036854775807) (hK:∀h',Keep [] h h'→K (ndMay x) h'):ZCF.C v h K:=by
 apply ZCF.c;unfold ZCF.m;refine new_gen fun b1 h1 hb1 k1 e1 hs1 =>?_;obtain ⟨f0,f1,f2,f3,f4,f5⟩:=nd_f (sm_all e1);rw[a.n] at f0;rw[a.k] at f1;rw[a.m] at f2;rw[a.l] at f3;rw[a.d] at f4;refine ld_go f0 (ld_go f1 (ld_go f2 (ld_go f3 ?_)));refine new_st_gen fun b2 h3 hb2 k3 e3 hs3 =>?_;have k03:Keep [] h h3:=k1.n k3;have g:=fun {n:Nat} {k:Kd} {y:k.Ty} (h':Heap) (kk:Keep [] h1 h') (hk:0<k.size) (e:sm k ((Pl.mk b1 0).fld n) y h1)=>sm_keep hk e kk;refine jn_in (fun y h'=>Keep [] h3 h'∧y.1 = !(ndNum x&&decide (x.data.size≤4096)&&dirMay x.ents)) ?_ ?_
 ·refine ld_go (sm_all e3) ?_;refine ZBS.s fun h5 k5 =>?_
  have hi:inoMay (x.num,(x.kind,(x.mode,(x.links,(0,(Vector.replicate 32 0,()))))))=ndNum x:=by
   unfold inoMay ndNum;show (ndN x.num x.kind x.mode x.links&&decide ((0:Int)≤0)&&decide ((0:Int)≤4096)&&(decide (x.kind≠1)||decide ((0:Int)=0)))=_;simp
  rw[hi]
  cases hn:ndNum x with
  | false=>rw[if_pos (by rfl)];exact ⟨k5,rfl⟩
  | true =>
    rw[if_neg (by simp)];have k15:Keep [] h1 h5:=k3.n k5;refine ld_go (g h5 k15 (by decide) f4) ?_;by_cases hd:x.data.size≤4096
    ·rw[if_neg (by simp;omega)];refine ld_go (g h5 k15 (by decide) f5) ?_;refine ZB6.s ((a.e.keep (by decide) k1).keep (by decide) k15) hl fun h6 k6=>⟨k5.n k6,?_⟩;rw[dT hd];rfl
    ·rw[if_pos (by simp;omega)];exact ⟨k5,by rw[dF hd];rfl⟩
 ·rintro ⟨(y:Bool),_⟩ h4 ⟨k4,ey⟩;dsimp only at ey ⊢;have k14:Keep [] h1 h4:=k3.n k4;have k04:Keep [] h h4:=k03.n k4;rw[ey]
  cases hb:(ndNum x&&decide (x.data.size≤4096)&&dirMay x.ents) with
  | false =>
    rw[if_pos (by rfl)]
    have:ndMay x=false:=by
     unfold ndMay
     cases hn:ndNum x with
     | false=>rfl
     | true =>
       rw[hn] at hb;simp only [YAj] at hb ⊢;split
       ·by_cases hd:x.data=⟨#[]⟩
        ·rw[hd] at hb;have h0:(⟨#[]⟩:ByteArray).size=0:=rfl;rw[h0] at hb;simp only [dT (show (0:Nat)≤4096 by omega),YAj] at hb;rw[hb];simp
        ·simp[hd]
       ·by_cases he:x.ents=[]
        ·rw[he,show dirMay []=true from rfl] at hb;simp only [Bool.and_true] at hb;rw[hb];rfl
        ·simp[he]
    have:=hK h4 k04
    simp_all
  | true =>
    rw[if_neg (by simp)];simp only [YAi,decide_eq_true_eq] at hb;obtain ⟨⟨h1',h2⟩,h3'⟩:=hb;refine ld_go (g h4 k14 (by decide) f1) ?_;have hK:=hK h4 k04;unfold ndMay at hK;rw[h1',h3'] at hK;by_cases hk:x.kind=1
    ·rw[if_pos (by simpa using hk)];rw[if_pos hk] at hK;refine ld_go (g h4 k14 (by decide) f4) ?_;simpa using hK
    ·rw[if_neg (by simpa using hk)];rw[if_neg hk,dT h2] at hK;refine ld_go (g h4 k14 (by decide) f5) ?_;have gl:=a.e.len
     have:decide (((vEnts v).len:Int)=0)=decide (x.ents=[]):=by
      rw[gl]
      cases x.ents with
      | nil=>rfl
      | cons=>simp;omega
     rw[this];simpa using hK
end Go.Proofs.Tryz
