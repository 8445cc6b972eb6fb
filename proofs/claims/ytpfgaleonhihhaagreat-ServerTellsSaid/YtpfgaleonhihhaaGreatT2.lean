import Derived.Test.YtpfgaleonhihhaaGreatT1
import Derived.Shelf.Strings.Search2
import Derived.Lib.Overlaps
import Derived.Test.YtpfgaleonhihhaaGreatModels3
import Derived.Test.YtpfgaleonhihhaaGreatAl2
set_option linter.unusedVariables false
set_option linter.unusedSimpArgs false
set_option maxRecDepth 100000
open List renaming all_eq_false → YAA, all_eq_true → YAB, append_assoc → YAC, append_nil → YAD, drop_drop → YAE, drop_eq_nil_of_le → YAF, drop_left' → YAG, flatMap_append → YAH, flatMap_cons → YAI, flatMap_nil → YAJ, getElem?_eq_getElem → YAK, getElem?_eq_none → YAL, getElem_map → YAM, getElem_mem → YAN, length_append → YAO, length_cons → YAP, length_drop → YAQ, length_map → YAR, length_nil → YAS, length_take → YAT, map_append → YAU, mem_append → YAV, mem_cons → YAW, not_mem_nil → YAX, replicate_succ → YAY, take_append_drop → YAZ, take_left' → YAa, take_of_length_le → YAb, take_succ_eq_append_getElem → YAc
open Int renaming toNat_natCast → YAd, toNat_of_nonneg → YAe
open Nat renaming add_mul → YAf, le_refl → YAg, min_eq_left → YAh, min_eq_right → YAi, mul_comm → YAj, mul_le_mul_left → YAk, zero_le → YAl
open Bool renaming and_eq_true → YAm, true_and → YAn
open Vector renaming length_toList → YAo
namespace Go.Proofs.Tryz
open Go Go.Al
def All2 {α β : Type} (R : α → β → Prop):List α → List β → Prop
 | [],[]=>True
 | a::la,b::lb=>R a b∧All2 R la lb
 | _,_=>False
theorem All2.len {α β : Type} {R : α → β → Prop}:∀ {la:List α} {lb:List β},All2 R la lb→la.length=lb.length
 | [],[],_=>rfl
 | _::_,_::_,h=>by simp[All2.len h.2]
theorem All2.mono {α β : Type} {R S : α → β → Prop} (f:∀a b,R a b→S a b):∀ {la:List α} {lb:List β},All2 R la lb→All2 S la lb
 | [],[],_=>trivial
 | _::_,_::_,h=>⟨f _ _ h.1,All2.mono f h.2⟩
theorem All2.monoM {α β : Type} {R S : α → β → Prop}:∀ {la:List α} {lb:List β},(∀a∈la,∀b∈lb,R a b→S a b)→All2 R la lb→All2 S la lb
 | [],[],_,_=>trivial
 | a::la,b::lb,f,h=>⟨f a (by simp) b (by simp) h.1,All2.monoM (fun x hx y hy=>f x (by simp[hx]) y (by simp[hy])) h.2⟩
theorem All2.at {α β : Type} {R : α → β → Prop}:∀ {la:List α} {lb:List β} {i:Nat} {a : α} {b : β},All2 R la lb→la[i]? = some a→lb[i]? = some b→R a b
 | a :: la, b :: lb, 0, _, _, h, h1, h2 => by
   simp only [List.getElem?_cons_zero,Option.some.injEq] at h1 h2;subst h1;subst h2;exact h.1
 | a::la,b::lb,i+1,_,_,h,h1,h2=>All2.at h.2 (by simpa using h1) (by simpa using h2)
theorem All2.app {α β : Type} {R : α → β → Prop}:∀ {la:List α} {lb:List β} {la':List α} {lb':List β},All2 R la lb→All2 R la' lb'→All2 R (la++la') (lb++lb')
 | [],[],_,_,_,h=>h
 | _::_,_::_,_,_,h,h'=>⟨h.1,All2.app h.2 h'⟩
theorem All2.getI {α β : Type} {R : α → β → Prop} {la:List α} {lb:List β} (h:All2 R la lb) {i:Nat} (h1:i<la.length) (h2:i<lb.length):R la[i] lb[i]:=h.at (YAK h1) (YAK h2)
theorem all2_nil {α β : Type} {R : α → β → Prop}:All2 R [] []:=trivial
abbrev MbK:Kd := .ag (.pr .i (.pr .sl .un))
abbrev NdK:Kd := .ag (.pr .i (.pr .i (.pr .i (.pr .i (.pr .s (.pr .sl .un))))))
abbrev StaK:Kd := .ag (.pr .sl .un)
structure MbAt (h:Heap) (v:MbK.Ty) (m:Mb):Prop where
 u:v.1=m.users
 g:∃gs,Seg .sl v.2.1 gs h∧All2 (fun s us=>Seg .i s us h∧us.length≤9223372036854775807) gs m.groups
abbrev NdV:=NdK.Ty
def vNum (v:NdV):Int:=v.1
def vKind (v:NdV):Int:=v.2.1
def vMode (v:NdV):Int:=v.2.2.1
def vLinks (v:NdV):Int:=v.2.2.2.1
def vData (v:NdV):ByteArray:=v.2.2.2.2.1
def vEnts (v:NdV):Slc:=v.2.2.2.2.2.1
structure NdAt (h:Heap) (v:NdV) (x:Nd):Prop where
 n:vNum v=x.num
 k:vKind v=x.kind
 m:vMode v=x.mode
 l:vLinks v=x.links
 d:vData v=x.data
 e:Seg DE (vEnts v) x.ents h
theorem NdAt.keep {h h':Heap} {v:NdV} {x:Nd} {S:List Nat} (a:NdAt h v x) (k:Keep S h h') (hn:∀b∈own (vEnts v),b∉S):NdAt h' v x:=⟨a.n,a.k,a.m,a.l,a.d,a.e.keep' k hn⟩
structure StW (h:Heap) (t0:Slc) (ss:List Slc) (vv:List (List NdV)) (X:Fs):Prop where
 t:Seg .sl t0 ss h
 r:All2 (fun s vs=>Seg NdK s vs h) ss vv
 n:All2 (All2 (NdAt h)) vv X
theorem StW.keep {h h':Heap} {t0:Slc} {ss:List Slc} {vv:List (List NdV)} {X:Fs} (w:StW h t0 ss vv X) (k:Keep [] h h'):StW h' t0 ss vv X:=
 ⟨w.t.keep (by decide) k,w.r.mono fun _ _ g=>g.keep (by decide) k,w.n.mono fun _ _ g=>g.mono fun _ _ a=>a.keep k (by simp)⟩
theorem MbAt.keep {h h':Heap} {v:MbK.Ty} {m:Mb} (a:MbAt h v m) (k:Keep [] h h'):MbAt h' v m:=by
 obtain ⟨gs,g1,g2⟩:=a.g;exact ⟨a.u,gs,g1.keep (by decide) k,g2.mono fun _ _ g=>⟨g.1.keep (by decide) k,g.2⟩⟩
theorem nd_f {l:Pl} {v:NdV} {h:Heap} (e:sm NdK l v h):sm .i (l.fld 0) (vNum v) h∧sm .i (l.fld 1) (vKind v) h∧sm .i (l.fld 2) (vMode v) h∧sm .i (l.fld 3) (vLinks v) h∧sm .s (l.fld 4) (vData v) h∧sm .sl (l.fld 5) (vEnts v) h:=
 ⟨sm_sub e (by decide) rfl,sm_sub e (by decide) rfl,sm_sub e (by decide) rfl,sm_sub e (by decide) rfl,sm_sub e (by decide) rfl,sm_sub e (by decide) rfl⟩
theorem risesI_iff:∀xs:List Int,risesI xs=true↔∀j,(h:j+1<xs.length)→xs[j]<xs[j+1]
 | []=>by simp[risesI]
 | [x]=>by simp[risesI]
 | x :: y :: r => by
   unfold risesI;rw[YAm,decide_eq_true_eq,risesI_iff (y::r)]
   constructor
   ·rintro ⟨h1,h2⟩ j hj
    cases j with
    | zero=>exact h1
    | succ j=>exact h2 j (by simpa using hj)
   ·intro h;exact ⟨h 0 (by simp),fun j hj=>h (j+1) (by simpa using hj)⟩
theorem ZBu.s {us:Slc} {xs:List Int} {n:Int} {h:Heap} {K:Bool→Heap→Prop} (g:Seg .i us xs h) (hl:xs.length≤9223372036854775807) (hK:K (grpMay xs n) h):ZBu.C us n h K:=by
 apply ZBu.c;unfold ZBu.m;have gl:=g.len;refine lp_go (fun (y:Int×Unit) (h1:Heap)=>h1=h∧∃t:Nat,y.1=t∧t≤xs.length∧(∀j,(hj:j<xs.length)→j<t→0≤xs[j]∧xs[j]<n∧(0<j→xs[j-1]'(by omega)<xs[j]))) (fun (y:Int×Unit) _=>xs.length-y.1.toNat) ?_ ?_
 ·exact ⟨rfl,0,rfl,YAl _,fun j _ h=>by omega⟩
 ·rintro ⟨(i:Int),_⟩ h1 ⟨rfl,t,e,ht,hall⟩;dsimp only at e ⊢;subst e;by_cases hlt:t<xs.length
  ·rw[if_pos (show decide ((t:Int)<(us.len:Int))=true from dT (by omega))];have hgx:xs[(t:Int).toNat]? = some xs[t]:=by simp[hlt]
   have bad:¬(0≤xs[t]∧xs[t]<n∧(0<t→xs[t-1]'(by omega)<xs[t]))→grpMay xs n=false:=by
    intro hb
    cases hm:grpMay xs n with
    | false=>rfl
    | true =>
      unfold grpMay at hm;simp only [YAm,YAB,decide_eq_true_eq] at hm;refine absurd ⟨(hm.1.1 _ (YAN hlt)).1,(hm.1.1 _ (YAN hlt)).2,fun h0 =>?_⟩ hb;have:=(risesI_iff xs).1 hm.1.2 (t-1) (by omega);simpa[Nat.sub_add_cancel h0] using this
   have hnext:(0≤xs[t]∧xs[t]<n∧(0<t→xs[t-1]'(by omega)<xs[t]))→∃t':Nat,w64 ((t:Int)+1)=t'∧t'≤xs.length∧t'=t+1∧(∀j,(hj:j<xs.length)→j<t'→0≤xs[j]∧xs[j]<n∧(0<j→xs[j-1]'(by omega)<xs[j])):=by
    intro hg;refine ⟨t+1,by rw[w64_id (by omega) (by omega)];omega,by omega,rfl,fun j hj hjt =>?_⟩;by_cases hje:j=t
    ·subst hje;exact hg
    ·exact hall j hj (by omega)
   refine jn_go ?_;refine seg_ix g (by omega) hgx rfl ?_;by_cases c1:xs[t]<0
   ·refine jn_at (true,()) h1 (by rw[if_pos (by simpa using c1)];exact ⟨by first | rfl | trivial,by first | rfl | trivial⟩) ?_;rw[if_pos (by rfl)];rw[bad (by rintro ⟨h,_⟩;omega)] at hK;exact hK
   by_cases c2:xs[t]≥n
   ·refine jn_at (true,()) h1 (by rw[if_neg (by simpa using c1),if_pos (by simpa using c2)];exact ⟨by first | rfl | trivial,by first | rfl | trivial⟩) ?_;rw[if_pos (by rfl)];rw[bad (by rintro ⟨_,h,_⟩;omega)] at hK;exact hK
   by_cases c3:0<t
   ·have hp:w64 ((t:Int)-1)=((t-1:Nat):Int):=w6 (by omega);have hgp:xs[((t-1:Nat):Int).toNat]? = some (xs[t-1]'(by omega)):=by rw[YAd,YAK]
    by_cases c4:xs[t]≤xs[t-1]'(by omega)
    ·refine jn_at (true,()) h1 ?_ ?_
     ·rw[if_neg (by simpa using c1),if_neg (by simpa using c2),if_pos (by simpa using c3),hp];refine seg_ix g (by omega) hgp rfl ?_;exact ⟨by simp[c4],by first | rfl | trivial⟩
     ·rw[if_pos (by rfl)];rw[bad (by rintro ⟨_,_,h⟩;have:=h c3;omega)] at hK;exact hK
    ·refine jn_at (false,()) h1 ?_ ?_
     ·rw[if_neg (by simpa using c1),if_neg (by simpa using c2),if_pos (by simpa using c3),hp];refine seg_ix g (by omega) hgp rfl ?_;exact ⟨by simp[c4],by first | rfl | trivial⟩
     ·rw[if_neg (by simp)];obtain ⟨t',e1,e2,e3,e4⟩:=hnext ⟨by omega,by omega,fun _=>by omega⟩;rw[e1];exact ⟨⟨by first | rfl | trivial,t',rfl,e2,e4⟩,by simp;omega⟩
   ·refine jn_at (false,()) h1 ?_ ?_
    ·rw[if_neg (by simpa using c1),if_neg (by simpa using c2),if_neg (by simp;omega)];exact ⟨by first | rfl | trivial,by first | rfl | trivial⟩
    ·rw[if_neg (by simp)];obtain ⟨t',e1,e2,e3,e4⟩:=hnext ⟨by omega,by omega,fun h=>absurd h c3⟩;rw[e1];exact ⟨⟨by first | rfl | trivial,t',rfl,e2,e4⟩,by simp;omega⟩
  ·rw[if_neg (show ¬decide ((t:Int)<(us.len:Int))=true by simp;omega)]
   have:grpMay xs n=decide ((us.len:Int)>0):=by
    have h1:(xs.all fun u=>decide (0≤u)&&decide (u<n))=true:=by
     rw[YAB];intro u hu;obtain ⟨j,hj,rfl⟩:=List.mem_iff_getElem.1 hu;have:=hall j hj (by omega);simp[this.1,this.2.1]
    have h2:risesI xs=true:=(risesI_iff xs).2 fun j hj=>by
     have:=(hall (j+1) hj (by omega)).2.2 (by omega);simpa using this
    unfold grpMay;rw[h1,h2,gl]
    cases xs with
    | nil=>rfl
    | cons a b=>simp
   rw[←this];exact hK
theorem ZBb.s {us:Slc} {xs:List Int} {b:Nat} {v:MbK.Ty} {h:Heap} {K:Bool→Heap→Prop} (g:Seg .i us xs h) (hl:xs.length≤9223372036854775807) (e:h[b]? = some (vobj t_api_Members MbK v)) (hK:K (!grpMay xs v.1) h):ZBb.C us ⟨b,0⟩ h K:=by
 apply ZBb.c;unfold ZBb.m;obtain ⟨(u:Int),(gs:Slc),_⟩:=v;exact ⟨u,sm_fld e rfl (by decide),ZBu.s g hl hK⟩
theorem sadd_bb {a b:List UInt8} {K:ByteArray→Prop} (h:a.length+b.length≤9223372036854775807) (hK:K (bx (a++b))):sadd (bx a) (bx b) K:=by
 refine sadd_go (by rw[bx_size,bx_size];exact h) ?_;have:(⟨((bx a).data.toList++(bx b).data.toList).toArray⟩:ByteArray)=bx (a++b):=by simp[bx]
 rw[this];exact hK
theorem sm_frame {h h2:Heap} {b o T T2:Nat} {c:Array Value} {f f2:Nat×Nat} {k:Kd} {x:k.Ty} (e:h[b]? = some (.cells c T f)) (e2:h2[b]? = some (.cells c T2 f2)) (hs:sm k ⟨b,o⟩ x h):sm k ⟨b,o⟩ x h2:=by
 unfold sm rdCells at *;rw[e] at hs;rw[e2];exact hs
theorem s2b_seg {T:Nat} {d:ByteArray} {h:Heap} {K:Slc→Heap→Prop} (hK:∀s h',Keep [] h h'→Seg .u8 s d.data.toList h'→own s=[h.size]→s.len≤s.cap→h'.size=h.size+1→(∃c f,h'[h.size]? = some (.cells c T f))→K s h'):s2b T d h K:=by
 intro c hc _;have hl:d.size=d.data.toList.length:=rfl;have e2:(h.push (robj T .u8 (d.data.toList++List.replicate (c-d.size) (0:UInt8))))[h.size]? = some (robj T .u8 (d.data.toList++List.replicate (c-d.size) (0:UInt8))):=get_push;have r:Row (h.push (robj T .u8 (d.data.toList++List.replicate (c-d.size) (0:UInt8)))) T .u8 ⟨some ⟨h.size,0⟩,d.size,c⟩ d.data.toList:=Row.of_new e2 rfl rfl (by simp;omega);have g:=r.seg
 have e1:(h.push (.cells (d.data.toList.flatMap Kd.u8.cells++zeros .u8 (c-d.size)).toArray T (c,c+1)))[h.size]? = some (.cells ((d.data.toList++List.replicate (c-d.size) (0:UInt8)).flatMap Kd.u8.cells).toArray T (c,c+1)):=by
  rw[get_push,YAH];rfl
 refine hK _ _ keep_push ⟨rfl,fun i x hx =>?_,fun l hl' =>?_⟩ rfl hc (by simp) ⟨_,_,e1⟩
 ·obtain ⟨l,h1,h2⟩:=g.el i x hx
  cases h1
  exact ⟨_,rfl,sm_frame e2 e1 h2⟩
 ·cases hl'
  exact ⟨_,_,_,e1,YAl _⟩
theorem rd_lt {h:Heap} {l:Pl} {n:Nat} {cs:List Value} (e:rdCells h l n=some cs):∃c T f,h[l.b]? = some (.cells c T f)∧l.o+n≤c.size:=by
 unfold rdCells at e;split at e
 ·rename_i c T f he
  split at e
  ·exact ⟨c,T,f,he,by assumption⟩
  ·simp at e
 ·simp at e
theorem seg_takeB {k:Kd} {s:Slc} {xs:List k.Ty} {h:Heap} (g:Seg k s xs h) {n c:Nat} {w:Wd} (hn:n≤xs.length):Seg k (@Slc.mk s.a n c w) (xs.take n) h:=
 ⟨by rw[YAT];show n=_;omega,fun i x hx=>g.el i x (by
  by_cases hi:i<n
  ·rw[List.getElem?_take_of_lt hi] at hx;exact hx
  ·rw[YAL (by rw[YAT];omega)] at hx;simp at hx),g.blk⟩
theorem seg_preB {k:Kd} {s:Slc} {xs:List k.Ty} {h:Heap} {n sz:Nat} {K:Slc→Prop} (r:Seg k s xs h) (hc:s.len≤s.cap) (hn:n≤xs.length) (hK:∀s',own s'=own s→Seg k s' (xs.take n) h→K s'):slx s 0 (n:Int) (s.cap:Int) sz K:=by
 have hl:=r.len
 have e:(if (s.cap:Int).toNat=(0:Int).toNat then s.a else s.a.map fun l=>⟨l.b,l.o+(0:Int).toNat*sz⟩)=s.a:=by
  split
  ·rfl
  ·cases s.a <;> simp
 refine ⟨by omega,by omega,by omega,by omega,?_⟩;rw[e];refine hK _ (by unfold own;rfl) ?_;simp only [YAd,Int.toNat_zero,Nat.sub_zero];exact seg_takeB r hn
theorem seg_suf {k:Kd} {s:Slc} {xs:List k.Ty} {h:Heap} {m:Nat} {sz:Nat} {K:Slc→Prop} (g:Seg k s xs h) (hs:sz=k.size) (hc:s.len≤s.cap) (hm:m≤xs.length) (hK:∀s',Seg k s' (xs.drop m) h→s'.len≤s'.cap→(∀q∈own s',q∈own s)→K s'):slx s (m:Int) (s.len:Int) (s.cap:Int) sz K:=by
 subst hs;have hl:=g.len;refine ⟨by omega,by omega,by omega,by omega,hK _ ⟨?_,?_,?_⟩ ?_ ?_⟩
 ·simp;omega
 ·intro i x hx
  have hi:m+i<xs.length:=by
   by_cases h:m+i<xs.length
   ·exact h
   ·rw[YAL (by simp;omega)] at hx;simp at hx
  rw[List.getElem?_drop] at hx;obtain ⟨l,h1,h2⟩:=g.el (m+i) x hx;simp only [YAd];rw[if_neg (by omega),h1];refine ⟨_,rfl,?_⟩;show sm k ⟨l.b,l.o+m*k.size+i*k.size⟩ x h;have:l.o+m*k.size+i*k.size=l.o+(m+i)*k.size:=by rw[YAf];omega
  rw[this];exact h2
 ·intro l hl';simp only [YAd] at hl';by_cases hcm:s.cap=m
  ·rw[if_pos hcm] at hl';exact g.blk l hl'
  ·rw[if_neg hcm] at hl'
   cases ha:s.a with
   | none=>rw[ha] at hl';simp at hl'
   | some l0 =>
     rw[ha] at hl';simp only [Option.map_some,Option.some.injEq] at hl';subst hl'
     cases m with
     | zero =>
       obtain ⟨c,T,f,e1,e2⟩:=g.blk l0 ha;exact ⟨c,T,f,e1,by simpa using e2⟩
     | succ m =>
       obtain ⟨l,h1,h2⟩:=g.el m xs[m] (by simp);rw[ha] at h1
       cases h1
       obtain ⟨c,T,f,e1,e2⟩:=rd_lt h2;refine ⟨c,T,f,e1,?_⟩;show l0.o+(m+1)*k.size≤c.size;have:(m+1)*k.size=m*k.size+k.size:=by rw[YAf];omega
       have e2':l0.o+m*k.size+k.size≤c.size:=e2;omega
 ·show (s.len:Int).toNat-(m:Int).toNat≤(s.cap:Int).toNat-(m:Int).toNat;simp only [YAd];omega
 ·intro q hq;unfold own at hq ⊢;simp only [YAd] at hq;by_cases hcm:s.cap=m
  ·rw[if_pos hcm] at hq;exact hq
  ·rw[if_neg hcm] at hq
   cases ha:s.a with
   | none=>rw[ha] at hq;simp at hq
   | some l0=>rw[ha] at hq;simpa using hq
theorem ZBY.s {xs:Slc} {L:List (Kd.u8).Ty} {n:Nat} {h:Heap} {K:Slc→Heap→Prop} (g:Seg (Kd.u8) xs L h) (hc:xs.len≤xs.cap) (hn:0<n) (hn':n≤1000) (hl:L.length≤10000)
 (hK:∀s h' ss,Keep [] h h'→Row h' t_s_uint8 .sl s ss→All2 (fun u c=>Seg (Kd.u8) u c h) ss (chunk n L)→(∀q∈own s,h.size≤q)→(∀u∈ss,∀q∈own u,q∈own xs)→K s h'):ZBY.C xs n h K:=by
 apply ZBY.c;unfold ZBY.m;refine lp_go (fun (y:Slc×Slc×Unit) (h1:Heap)=>∃i ss,i≤(chunk n L).length∧Keep [] h h1∧Row h1 t_s_uint8 .sl y.1 ss∧(∀q∈own y.1,h.size≤q)∧All2 (fun u c=>Seg (Kd.u8) u c h) ss ((chunk n L).take i)∧Seg (Kd.u8) y.2.1 (L.drop (i*n)) h∧y.2.1.len≤y.2.1.cap∧(∀q∈own y.2.1,q∈own xs)∧∀u∈ss,∀q∈own u,q∈own xs) (fun (y:Slc×Slc×Unit) _=>y.2.1.len) ?_ ?_
 ·exact ⟨0,[],YAl _,Keep.rfl,Row.nil,by simp[own],trivial,by simpa using g,hc,fun q hq=>hq,by simp⟩
 ·rintro ⟨o,v,_⟩ h1 ⟨i,ss,hi,k1,r1,o1,a1,g1,c1,w1,u1⟩;dsimp only at r1 o1 g1 c1 w1 ⊢;have gl:=g1.len;rw[YAQ] at gl;have hcl:=chunk_len (n:=n) (xs:=L);have hdm:=Nat.div_add_mod (L.length+n-1) n;have hml:=Nat.mod_lt (L.length+n-1) hn;have hQb:(L.length+n-1)/n≤L.length+n-1:=Nat.div_le_self _ _;generalize hQ:(L.length+n-1)/n=Q at hcl hdm hQb;have al:=a1.len;rw[YAT] at al;by_cases h0:0<v.len
  ·rw[if_pos (by simpa using h0)]
   have hiQ:i<Q:=by
    by_cases hh:i<Q
    ·exact hh
    ·have:n*Q≤i*n:=by rw[YAj i n];exact YAk _ (by omega)
     omega
   have hm:mn2 (n:Int) (v.len:Int)=((min n v.len:Nat):Int):=by unfold mn2;split <;> omega
   rw[hm];refine seg_preB g1 c1 (by rw[YAQ];omega) fun s1 p1 g2 =>?_;refine app2 (by_:=24) r1 rfl (by omega) fun s3 h3 k3 r3 o3 =>?_;refine seg_suf g1 rfl c1 (by rw[YAQ];omega) fun s4 g4 c4 p4 =>?_;have kk:Keep [] h h3:=k1.new k3 o1
   have e4:(L.drop (i*n)).drop (min n v.len)=L.drop ((i+1)*n):=by
    rw[YAE,YAf,Nat.one_mul];by_cases hnv:n≤v.len
    ·rw[YAh hnv]
    ·rw[YAi (by omega),YAF (by omega),YAF (by omega)]
   have e2:(L.drop (i*n)).take (min n v.len)=(chunk n L)[i]'(by omega):=by
    rw[chunk_at];by_cases hnv:n≤v.len
    ·rw[YAh hnv]
    ·rw[YAi (by omega),YAb (by rw[YAQ];omega),YAb (by rw[YAQ];omega)]
   rw[e4] at g4;rw[e2] at g2;have l4:=g4.len;rw[YAQ,YAf,Nat.one_mul] at l4;refine ⟨⟨i+1,ss++[s1],by omega,kk,r3,fun q hq =>?_,?_,g4,c4,fun q hq=>w1 q (p4 q hq),fun u hu =>?_⟩,?_⟩
   ·rcases o3 q hq with h | h
    ·exact o1 q h
    ·have:=k1.1;omega
   ·rw[YAc (by omega)];exact a1.app (show All2 _ [s1] [_] from ⟨g2,trivial⟩)
   ·rcases List.mem_append.1 hu with h | h
    ·exact u1 u h
    ·rw[List.mem_singleton] at h;subst h;rw[p1];exact w1
   ·show s4.len<v.len;omega
  ·rw[if_neg (by simpa using h0)]
   have hiQ:i=Q:=by
    have:i*n≥L.length:=by omega
    by_cases hh:i<Q
    ·have h1:n*(i+1)≤n*Q:=YAk _ hh;rw[Nat.mul_add,Nat.mul_one,YAj n i] at h1;omega
    ·omega
   rw[YAb (by omega)] at a1;exact hK o h1 ss k1 r1 a1 o1 u1
theorem ZAx.s {xs:Slc} {L:List (HK).Ty} {n:Nat} {h:Heap} {K:Slc→Heap→Prop} (g:Seg (HK) xs L h) (hc:xs.len≤xs.cap) (hn:0<n) (hn':n≤1000) (hl:L.length≤10000)
 (hK:∀s h' ss,Keep [] h h'→Row h' t_s_api_Hash .sl s ss→All2 (fun u c=>Seg (HK) u c h) ss (chunk n L)→(∀q∈own s,h.size≤q)→(∀u∈ss,∀q∈own u,q∈own xs)→K s h'):ZAx.C xs n h K:=by
 apply ZAx.c;unfold ZAx.m;refine lp_go (fun (y:Slc×Slc×Unit) (h1:Heap)=>∃i ss,i≤(chunk n L).length∧Keep [] h h1∧Row h1 t_s_api_Hash .sl y.1 ss∧(∀q∈own y.1,h.size≤q)∧All2 (fun u c=>Seg (HK) u c h) ss ((chunk n L).take i)∧Seg (HK) y.2.1 (L.drop (i*n)) h∧y.2.1.len≤y.2.1.cap∧(∀q∈own y.2.1,q∈own xs)∧∀u∈ss,∀q∈own u,q∈own xs) (fun (y:Slc×Slc×Unit) _=>y.2.1.len) ?_ ?_
 ·exact ⟨0,[],YAl _,Keep.rfl,Row.nil,by simp[own],trivial,by simpa using g,hc,fun q hq=>hq,by simp⟩
 ·rintro ⟨o,v,_⟩ h1 ⟨i,ss,hi,k1,r1,o1,a1,g1,c1,w1,u1⟩;dsimp only at r1 o1 g1 c1 w1 ⊢;have gl:=g1.len;rw[YAQ] at gl;have hcl:=chunk_len (n:=n) (xs:=L);have hdm:=Nat.div_add_mod (L.length+n-1) n;have hml:=Nat.mod_lt (L.length+n-1) hn;have hQb:(L.length+n-1)/n≤L.length+n-1:=Nat.div_le_self _ _;generalize hQ:(L.length+n-1)/n=Q at hcl hdm hQb;have al:=a1.len;rw[YAT] at al;by_cases h0:0<v.len
  ·rw[if_pos (by simpa using h0)]
   have hiQ:i<Q:=by
    by_cases hh:i<Q
    ·exact hh
    ·have:n*Q≤i*n:=by rw[YAj i n];exact YAk _ (by omega)
     omega
   have hm:mn2 (n:Int) (v.len:Int)=((min n v.len:Nat):Int):=by unfold mn2;split <;> omega
   rw[hm];refine seg_preB g1 c1 (by rw[YAQ];omega) fun s1 p1 g2 =>?_;refine app2 (by_:=24) r1 rfl (by omega) fun s3 h3 k3 r3 o3 =>?_;refine seg_suf g1 rfl c1 (by rw[YAQ];omega) fun s4 g4 c4 p4 =>?_;have kk:Keep [] h h3:=k1.new k3 o1
   have e4:(L.drop (i*n)).drop (min n v.len)=L.drop ((i+1)*n):=by
    rw[YAE,YAf,Nat.one_mul];by_cases hnv:n≤v.len
    ·rw[YAh hnv]
    ·rw[YAi (by omega),YAF (by omega),YAF (by omega)]
   have e2:(L.drop (i*n)).take (min n v.len)=(chunk n L)[i]'(by omega):=by
    rw[chunk_at];by_cases hnv:n≤v.len
    ·rw[YAh hnv]
    ·rw[YAi (by omega),YAb (by rw[YAQ];omega),YAb (by rw[YAQ];omega)]
   rw[e4] at g4;rw[e2] at g2;have l4:=g4.len;rw[YAQ,YAf,Nat.one_mul] at l4;refine ⟨⟨i+1,ss++[s1],by omega,kk,r3,fun q hq =>?_,?_,g4,c4,fun q hq=>w1 q (p4 q hq),fun u hu =>?_⟩,?_⟩
   ·rcases o3 q hq with h | h
    ·exact o1 q h
    ·have:=k1.1;omega
   ·rw[YAc (by omega)];exact a1.app (show All2 _ [s1] [_] from ⟨g2,trivial⟩)
   ·rcases List.mem_append.1 hu with h | h
    ·exact u1 u h
    ·rw[List.mem_singleton] at h;subst h;rw[p1];exact w1
   ·show s4.len<v.len;omega
  ·rw[if_neg (by simpa using h0)]
   have hiQ:i=Q:=by
    have:i*n≥L.length:=by omega
    by_cases hh:i<Q
    ·have h1:n*(i+1)≤n*Q:=YAk _ hh;rw[Nat.mul_add,Nat.mul_one,YAj n i] at h1;omega
    ·omega
   rw[YAb (by omega)] at a1;exact hK o h1 ss k1 r1 a1 o1 u1
theorem flat32 {L:List HsV}:(L.flatMap (·.toList)).length=32*L.length:=by
 induction L with
 | nil=>rfl
 | cons h r ih=>rw[YAI,YAO,ih,YAP];simp;omega
theorem ZCJ.s {c:UInt8} {hs:Slc} {L:List HsV} {h:Heap} {K:ByteArray→Heap→Prop} (g:Seg HK hs L h) (hl:L.length≤10000) (hK:∀h',Keep [] h h'→K (nodeS c L) h'):ZCJ.C ⟨#[c]⟩ hs h K:=by
 apply ZCJ.c;unfold ZCJ.m;have gl:=g.len;rw[gl,u8I_nat];refine bs_gen fun b1 h1 hb1 k1 r1 hs1 =>?_;refine b2s_segq r1.seg fun q1 _ =>?_;show sadd (bx [c]) (bx [UInt8.ofNat L.length]) _;refine sadd_bb (by simp) ?_;have g1:=g.keep (by decide) k1;refine lp_go (fun (y:ByteArray×Int×Unit) (h2:Heap)=>∃n:Nat,y.2.1=n∧n≤L.length∧Keep [] h h2∧y.1=bx ([c]++[UInt8.ofNat L.length]++(L.take n).flatMap (·.toList))) (fun (y:ByteArray×Int×Unit) _=>L.length-y.2.1.toNat) ?_ ?_
 ·exact ⟨0,rfl,YAl _,k1,by simp⟩
 ·rintro ⟨(a:ByteArray),(i:Int),_⟩ h2 ⟨n,e,hn,k2,ea⟩;dsimp only at e ea ⊢;subst e;subst ea;by_cases hlt:n<L.length
  ·rw[if_pos (show decide ((n:Int)<(L.length:Int))=true from dT (by omega))];have hw:w64 ((n:Int)+1)=((n+1:Nat):Int):=w6 (by omega);rw[hw];refine seg_ix (g.keep (by decide) k2) (x:=L[n]) (by omega) (by simp[hlt]) rfl ?_;refine new_st_gen fun b3 h4 hb3 k4 e4 hs4 =>?_;refine ⟨by decide,by decide,by decide,?_⟩;have g4:Seg .u8 ⟨some ⟨b3,0⟩,32,32⟩ L[n].toList h4:=ar_seg e4;refine b2s_segq g4 fun q _ =>?_
   have fl:((L.take n).flatMap (·.toList)).length≤32*L.length:=by
    rw[flat32,YAT];omega
   refine sadd_bb (b:=L[n].toList) (by simp only [YAO,YAP,YAS,YAo];omega) ?_;refine ⟨⟨n+1,rfl,by omega,k2.n k4,?_⟩,by simp;omega⟩;rw[YAc hlt];simp only [YAH,YAI,YAJ,YAD,YAC]
  ·rw[if_neg (show ¬decide ((n:Int)<(L.length:Int))=true by simp;omega)];obtain rfl:n=L.length:=by omega
   rw[YAb (YAg _)];exact hK h2 k2
theorem ZBP.s {all:Slc} {ss:List Slc} {cs:List (List (Kd.u8).Ty)} {wv:Value} {w:List (Kd.u8).Ty→ByteArray} {b:Nat} {s:Slc} {m:Option Nat} {L:List ByteArray} {h:Heap} {K:Slc→Heap→Prop}
 (ga:Seg .sl all ss h) (a:All2 (fun u c=>Seg (Kd.u8) u c h) ss cs) (i:LsAt h b s m L) (na:∀q∈own all,q∉lsFp b s m) (nu:∀u∈ss,∀q∈own u,q∉lsFp b s m) (hL:L.length+cs.length≤100000)
 (hw:∀u c h1 (Q:ByteArray→Heap→Prop),c∈cs→Seg (Kd.u8) u c h1→(∀h2,Keep [] h1 h2→Q (w c) h2)→callV Tryz.prog wv [Kd.sl.val u] .s h1 Q) (hz:∀c∈cs,(w c).size≤65536)
 (hK:∀o h' s' m',Row h' t_api_Hash HK o ((cs.map w).map hashS)→(∀q∈own o,h.size≤q)→LsAt h' b s' m' (onceL L (cs.map w))→Keep (lsFp b s m) h h'→(∀q∈lsFp b s' m',q∈lsFp b s m∨h.size≤q)→K o h'):ZBP.C (some ⟨b,0⟩) all wv h K:=by
 apply ZBP.c;unfold ZBP.m;have gl:=ga.len;have al:=a.len;refine lp_go (fun (y:Slc×Int×Unit) (h1:Heap)=>∃n s1 m1,y.2.1=((n:Nat):Int)∧n≤cs.length∧Row h1 t_api_Hash HK y.1 (((cs.take n).map w).map hashS)∧(∀q∈own y.1,h.size≤q)∧LsAt h1 b s1 m1 (onceL L ((cs.take n).map w))∧Keep (lsFp b s m) h h1∧∀q∈lsFp b s1 m1,q∈lsFp b s m∨h.size≤q) (fun (y:Slc×Int×Unit) _=>cs.length-y.2.1.toNat) ?_ ?_
 ·exact ⟨0,s,m,rfl,YAl _,by simpa using Row.nil,by simp[own],by rw[List.take_zero,List.map_nil,onceL_nil];exact i,Keep.rfl,fun q hq => .inl hq⟩
 ·rintro ⟨(o:Slc),(j:Int),_⟩ h1 ⟨n,s1,m1,e,hn,r1,o1,i1,k1,f1⟩;dsimp only at e r1 o1 ⊢;subst e;by_cases hlt:n<cs.length
  ·rw[if_pos (show decide ((n:Int)<(all.len:Int))=true from dT (by omega))];have hwn:w64 ((n:Int)+1)=((n+1:Nat):Int):=w6 (by omega);rw[hwn];have hs:n<ss.length:=by omega
   refine seg_ix (ga.keep' k1 na) (x:=ss[n]) (by omega) (by simp[hs]) rfl ?_;have gu:=(a.getI hs hlt).keep' k1 (nu _ (YAN hs));have hz1:=hz _ (YAN hlt);refine hw _ _ _ _ (YAN hlt) gu fun h2 k2 =>?_;refine ZAR.s hz1 fun h3 k3 =>?_;refine new_st_gen fun b4 h5 hb4 k5 e5 hs5 =>?_;have e5:h5[b4]? = some (vobj t_api_Hash HK (hashS (w cs[n]))):=e5;have k15:Keep [] h1 h5:=(k2.n k3).n k5;have i5:=i1.keep0 k15;have hz15:h1.size≤h3.size:=(k2.n k3).1;have hz01:=k1.1;have hoL:=onceL_len (L:=L) (xs:=(cs.take n).map w);rw[YAR,YAT] at hoL;refine ZAD.s i5 (by omega) fun h6 s6 m6 i6 k6 f6 =>?_;have n4:b4∉lsFp b s1 m1:=i5.off e5 (by decide) (by decide);have e6:=k6.get e5 n4;refine ld_go (sm_all e6) ?_;have r5:=r1.keep k15 (by simp);have r6:=r5.keep k6 (i5.offRow r5 (by decide) (by decide));refine app2 (by_:=32) r6 rfl (by simp only [YAR,YAT];omega) fun s7 h7 k7 r7 o7 =>?_;have k06:Keep (lsFp b s m) h h6:=(k1.then k15 (fun q hq _=>hq) (by simp)).then k6 (fun q hq _=>hq) (fun q hq hlt=>by rcases f1 q hq with h | h;exact h;omega);have s16:=k15.1;have s56:=k6.1;refine ⟨⟨n+1,s6,m6,rfl,by omega,?_,?_,?_,?_,?_⟩,by simp;omega⟩
   ·rw[YAc hlt,YAU,YAU];exact r7
   ·intro q hq;rcases o7 q hq with h | h
    ·exact o1 q h
    ·have:=k06.1;omega
   ·have e8:onceL L ((cs.take (n+1)).map w)=once (onceL L ((cs.take n).map w)) (w cs[n]):=by
     rw[YAc hlt,YAU,onceL_app];rfl
    rw[e8];exact i6.keep k7 (fun q hq hm=>i6.offRow r6 (by decide) (by decide) q hm hq)
   ·exact k06.then k7 (fun q hq _=>hq) (fun q hq hlt=>by have:=o1 q hq;omega)
   ·intro q hq;rcases f6 q hq with h | h
    ·exact f1 q h
    ·right;omega
  ·rw[if_neg (show ¬decide ((n:Int)<(all.len:Int))=true by simp;omega)];obtain rfl:n=cs.length:=by omega
   rw[YAb (YAg _)] at r1 i1;exact hK o h1 s1 m1 r1 o1 i1 k1 f1
theorem ZAr.s {all:Slc} {ss:List Slc} {cs:List (List (HK).Ty)} {wv:Value} {w:List (HK).Ty→ByteArray} {b:Nat} {s:Slc} {m:Option Nat} {L:List ByteArray} {h:Heap} {K:Slc→Heap→Prop}
 (ga:Seg .sl all ss h) (a:All2 (fun u c=>Seg (HK) u c h) ss cs) (i:LsAt h b s m L) (na:∀q∈own all,q∉lsFp b s m) (nu:∀u∈ss,∀q∈own u,q∉lsFp b s m) (hL:L.length+cs.length≤100000)
 (hw:∀u c h1 (Q:ByteArray→Heap→Prop),c∈cs→Seg (HK) u c h1→(∀h2,Keep [] h1 h2→Q (w c) h2)→callV Tryz.prog wv [Kd.sl.val u] .s h1 Q) (hz:∀c∈cs,(w c).size≤65536)
 (hK:∀o h' s' m',Row h' t_api_Hash HK o ((cs.map w).map hashS)→(∀q∈own o,h.size≤q)→LsAt h' b s' m' (onceL L (cs.map w))→Keep (lsFp b s m) h h'→(∀q∈lsFp b s' m',q∈lsFp b s m∨h.size≤q)→K o h'):ZAr.C (some ⟨b,0⟩) all wv h K:=by
 apply ZAr.c;unfold ZAr.m;have gl:=ga.len;have al:=a.len;refine lp_go (fun (y:Slc×Int×Unit) (h1:Heap)=>∃n s1 m1,y.2.1=((n:Nat):Int)∧n≤cs.length∧Row h1 t_api_Hash HK y.1 (((cs.take n).map w).map hashS)∧(∀q∈own y.1,h.size≤q)∧LsAt h1 b s1 m1 (onceL L ((cs.take n).map w))∧Keep (lsFp b s m) h h1∧∀q∈lsFp b s1 m1,q∈lsFp b s m∨h.size≤q) (fun (y:Slc×Int×Unit) _=>cs.length-y.2.1.toNat) ?_ ?_
 ·exact ⟨0,s,m,rfl,YAl _,by simpa using Row.nil,by simp[own],by rw[List.take_zero,List.map_nil,onceL_nil];exact i,Keep.rfl,fun q hq => .inl hq⟩
 ·rintro ⟨(o:Slc),(j:Int),_⟩ h1 ⟨n,s1,m1,e,hn,r1,o1,i1,k1,f1⟩;dsimp only at e r1 o1 ⊢;subst e;by_cases hlt:n<cs.length
  ·rw[if_pos (show decide ((n:Int)<(all.len:Int))=true from dT (by omega))];have hwn:w64 ((n:Int)+1)=((n+1:Nat):Int):=w6 (by omega);rw[hwn];have hs:n<ss.length:=by omega
   refine seg_ix (ga.keep' k1 na) (x:=ss[n]) (by omega) (by simp[hs]) rfl ?_;have gu:=(a.getI hs hlt).keep' k1 (nu _ (YAN hs));have hz1:=hz _ (YAN hlt);refine hw _ _ _ _ (YAN hlt) gu fun h2 k2 =>?_;refine ZAR.s hz1 fun h3 k3 =>?_;refine new_st_gen fun b4 h5 hb4 k5 e5 hs5 =>?_;have e5:h5[b4]? = some (vobj t_api_Hash HK (hashS (w cs[n]))):=e5;have k15:Keep [] h1 h5:=(k2.n k3).n k5;have i5:=i1.keep0 k15;have hz15:h1.size≤h3.size:=(k2.n k3).1;have hz01:=k1.1;have hoL:=onceL_len (L:=L) (xs:=(cs.take n).map w);rw[YAR,YAT] at hoL;refine ZAD.s i5 (by omega) fun h6 s6 m6 i6 k6 f6 =>?_;have n4:b4∉lsFp b s1 m1:=i5.off e5 (by decide) (by decide);have e6:=k6.get e5 n4;refine ld_go (sm_all e6) ?_;have r5:=r1.keep k15 (by simp);have r6:=r5.keep k6 (i5.offRow r5 (by decide) (by decide));refine app2 (by_:=32) r6 rfl (by simp only [YAR,YAT];omega) fun s7 h7 k7 r7 o7 =>?_;have k06:Keep (lsFp b s m) h h6:=(k1.then k15 (fun q hq _=>hq) (by simp)).then k6 (fun q hq _=>hq) (fun q hq hlt=>by rcases f1 q hq with h | h;exact h;omega);have s16:=k15.1;have s56:=k6.1;refine ⟨⟨n+1,s6,m6,rfl,by omega,?_,?_,?_,?_,?_⟩,by simp;omega⟩
   ·rw[YAc hlt,YAU,YAU];exact r7
   ·intro q hq;rcases o7 q hq with h | h
    ·exact o1 q h
    ·have:=k06.1;omega
   ·have e8:onceL L ((cs.take (n+1)).map w)=once (onceL L ((cs.take n).map w)) (w cs[n]):=by
     rw[YAc hlt,YAU,onceL_app];rfl
    rw[e8];exact i6.keep k7 (fun q hq hm=>i6.offRow r6 (by decide) (by decide) q hm hq)
   ·exact k06.then k7 (fun q hq _=>hq) (fun q hq hlt=>by have:=o1 q hq;omega)
   ·intro q hq;rcases f6 q hq with h | h
    ·exact f1 q h
    ·right;omega
  ·rw[if_neg (show ¬decide ((n:Int)<(all.len:Int))=true by simp;omega)];obtain rfl:n=cs.length:=by omega
   rw[YAb (YAg _)] at r1 i1;exact hK o h1 s1 m1 r1 o1 i1 k1 f1
theorem ZB2.s {u:Slc} {c:List UInt8} {h:Heap} {K:ByteArray→Heap→Prop} (g:Seg .u8 u c h) (hl:c.length≤1000000) (hK:∀h',Keep [] h h'→K (leafS c) h'):ZB2.C u h K:=by
 apply ZB2.c;unfold ZB2.m;refine b2s_segq g fun q _ =>?_;show sadd (bx [66]) (bx c) _;refine sadd_bb (by simp;omega) ?_;exact hK h Keep.rfl
theorem ZB1.s {u:Slc} {c:List HsV} {h:Heap} {K:ByteArray→Heap→Prop} (g:Seg HK u c h) (hl:c.length≤10000) (hK:∀h',Keep [] h h'→K (nodeS 73 c) h'):ZB1.C u h K:=by
 apply ZB1.c;unfold ZB1.m;exact ZCJ.s g hl hK
theorem chunk_mem {α : Type} {n:Nat} {xs c:List α} (h:c∈chunk n xs):c.length≤n:=by
 obtain ⟨i,hi,rfl⟩:=List.mem_iff_getElem.1 h;rw[chunk_at,YAT];omega
theorem treeO_eq {d:ByteArray}:once (onceL (onceL [] (treeB d)) ((chunk 8 ((treeB d).map hashS)).map (nodeS 73))) (treeR d)=treeO d:=by
 have e:(chunk 8 ((treeB d).map hashS)).map (nodeS 73)=treeI d:=by unfold treeI;exact Eq.refl _
 rw[e];unfold treeO;rw[onceL_app,onceL_app,onceL_one]
theorem ZCS.s {d:ByteArray} {h:Heap} {K:Kd.Ty (.ar 32 .u8)→Slc→Int→Heap→Prop} (hd:d.size≤4096)
 (hK:∀o h',Keep [] h h'→Row h' t_string .s o (treeO d)→(∀q∈own o,h.size≤q)→K (hashS (treeR d)) o 0 h'):ZCS.C d h K:=by
 apply ZCS.c;unfold ZCS.m;refine new_gen fun b1 h1 hb1 k1 e1 hs1 =>?_;rw[if_neg (show ¬decide ((d.size:Int)>4096)=true by simp;omega)];refine new_gen fun b2 h3 hb2 k3 e3 hs3 =>?_;have i3:=LsAt.new e3;refine s2b_seg fun s1 h4 k4 g4 os1 c1 hs4 ho4 =>?_;have dl:d.data.toList.length=d.size:=rfl;refine ZBY.s g4 c1 (by decide) (by decide) (by omega) fun x2 h5 ss5 k5 r5 a5 o5 u5 =>?_;have i5:=(i3.keep0 k4).keep0 k5;obtain ⟨c4,f4,e4⟩:=ho4;have cl:(chunk 64 d.data.toList).length≤64:=by rw[chunk_len];omega
 have k15:Keep [] h h5:=((k1.n k3).n k4).n k5
 refine ZBP.s (cs:=chunk 64 d.data.toList) (w:=leafS) r5.seg (a5.mono fun _ _ g=>g.keep (by decide) k5) i5 (i5.offRow r5 (by decide) (by decide)) (fun u hu q hq=>by
  have:=u5 u hu q hq;rw[os1] at this;simp at this;subst this;exact i5.off (k5.g e4) (by decide) (by decide)) (by simp;omega) (fun u c h1 Q hc g hQ=>callV_go rfl (ZB2.s g (by have:=chunk_mem hc;omega) hQ)) (fun c hc=>by rw[leafS_size];have:=chunk_mem hc;omega) fun x3 h6 s6 m6 r6 o6 i6 k6 f6 =>?_
 have bl:(treeB d).length=(chunk 64 d.data.toList).length:=by unfold treeB;simp
 have lof:∀q∈lsFp b2 ⟨none,0,0⟩ none,h.size≤q:=fun q hq=>by simp[lsFp,own] at hq;have:=k1.1;omega
 have k06:Keep [] h h6:=k15.new k6 lof;have r6:Row h6 t_api_Hash HK x3 ((treeB d).map hashS):=r6;have i6:LsAt h6 b2 s6 m6 (onceL [] (treeB d)):=i6;refine ZAx.s r6.seg (by have:=r6.cap;have:=r6.len;omega) (by decide) (by decide) (by simp;omega) fun x4 h7 ss7 k7 r7 a7 o7 u7 =>?_;have i7:=i6.keep0 k7;have cl2:(chunk 8 ((treeB d).map hashS)).length≤8:=by rw[chunk_len];simp;omega
 have ol:=onceL_len (L:=([]:List ByteArray)) (xs:=treeB d);simp only [YAS] at ol;have r67:=r6.keep k7 (by simp);refine ZAr.s (cs:=chunk 8 ((treeB d).map hashS)) (w:=nodeS 73) r7.seg (a7.mono fun _ _ g=>g.keep (by decide) k7) i7 (i7.offRow r7 (by decide) (by decide)) (fun u hu q hq=>i7.offRow r67 (by decide) (by decide) q (u7 u hu q hq)) (by omega) (fun u c h1 Q hc g hQ=>callV_go rfl (ZB1.s g (by have:=chunk_mem hc;omega) hQ)) (fun c hc=>by rw[nodeS_size];have:=chunk_mem hc;omega) fun x5 h8 s8 m8 r8 o8 i8 k8 f8 =>?_;have il:(treeI d).length=(chunk 8 ((treeB d).map hashS)).length:=by unfold treeI;simp
 have s56:=k6.1;have s67:=k7.1;have s78:=k8.1;have s05:=k15.1
 have lof6:∀q∈lsFp b2 s6 m6,h.size≤q:=fun q hq=>by
  rcases f6 q hq with h | h
  ·exact lof q h
  ·omega
 have k08:Keep [] h h8:=(k06.n k7).new k8 lof6;have r8:Row h8 t_api_Hash HK x5 ((treeI d).map hashS):=r8;refine ZCJ.s (c:=82) r8.seg (by simp;omega) fun h9 k9 =>?_;have tz:(treeR d).size≤65536:=by unfold treeR;rw[nodeS_size];simp;omega
 refine ZAR.s (d:=treeR d) tz fun h10 k10 =>?_;refine new_st_gen fun b3 h12 hb3 k12 e12 hs12 =>?_;have e12:h12[b3]? = some (vobj t_api_Hash HK (hashS (treeR d))):=e12;have k812:Keep [] h8 h12:=(k9.n k10).n k12;have i12:=i8.keep0 k812;have ol2:=onceL_len (L:=onceL ([]:List ByteArray) (treeB d)) (xs:=(chunk 8 ((treeB d).map hashS)).map (nodeS 73));rw[YAR] at ol2;refine ZAD.s i12 (by omega) fun h13 s13 m13 i13 k13 f13 =>?_;have e13:=k13.get e12 (i12.off e12 (by decide) (by decide));refine ld_go (sm_all e13) (nck_go (ld_go (sm_fld i13.o rfl (by decide)) ?_))
 have k18:Keep [] h1 h12:=by
  have a:Keep [] h1 h5:=(k3.n k4).n k5;have lo1:∀q∈lsFp b2 ⟨none,0,0⟩ none,h1.size≤q:=fun q hq=>by simp[lsFp,own] at hq;omega
  have b:=(a.new k6 lo1).n k7;have a1:=a.1;exact (b.new k8 (fun q hq=>by rcases f6 q hq with h | h;exact lo1 q h;omega)).n k812
 have n1:b1∉lsFp b2 s8 m8:=fun hq=>by
  have lo1:∀q∈lsFp b2 ⟨none,0,0⟩ none,h1.size≤q:=fun q hq=>by simp[lsFp,own] at hq;omega
  have a1:=((k3.n k4).n k5).1;have a2:=k1.1;rcases f8 b1 hq with h | h
  ·rcases f6 b1 h with h | h
   ·have:=lo1 b1 h;omega
   ·omega
  ·omega
 have e1':h13[b1]? = some (vobj t_api_Hash HK (Vector.replicate 32 0)):=k13.get (k18.g e1) n1
 have lof8:∀q∈lsFp b2 s8 m8,h.size≤q:=fun q hq=>by
  rcases f8 q hq with h | h
  ·exact lof6 q h
  ·omega
 have k013:Keep [] h h13:=(k08.n k812).new k13 lof8;refine st_to e1' fun h14 k14 e14 hs14 =>?_;have n113:b1∉lsFp b2 s13 m13:=i13.off e1' (by decide) (by decide);have i14:=i13.keep k14 (fun q hq hm=>by simp at hm;subst hm;exact n113 hq);refine ⟨sm_fld i14.o rfl (by decide),ld_go (sm_all e14) ?_⟩;refine hK s13 h14 (k013.new k14 (by simp;omega)) (by rw[←treeO_eq];exact i14.r) fun q hq =>?_;rcases f13 q (by simp[lsFp,hq]) with h | h
 ·exact lof8 q h
 ·have:=k08.1;have:=k812.1;omega
theorem ZBr.s {v:MbK.Ty} {m:Mb} {h:Heap} {K:Bool→Heap→Prop} (a:MbAt h v m) (hK:∀h',Keep [] h h'→K (mbMay m) h'):ZBr.C v h K:=by
 apply ZBr.c;unfold ZBr.m;refine new_gen fun b h1 hb k1 e1 hs1 =>?_;have e1:h1[b]? = some (vobj t_api_Members MbK v):=e1;obtain ⟨(u:Int),(gs:Slc),_⟩:=v;obtain ⟨hu,gl,g1,g2⟩:=a;have hu:u=m.users:=hu;have g1:Seg .sl gs gl h:=g1;have glen:=g1.len;have l2:=g2.len;have s0:sm .i ((Pl.mk b 0).fld 0) u h1:=sm_fld e1 rfl (by decide);have s1:sm .sl ((Pl.mk b 0).fld 1) gs h1:=sm_fld e1 rfl (by decide);have hdef:mbMay m=(decide (1≤m.users)&&decide (m.users≤16)&&decide (m.groups.length≤8)&&m.groups.all fun g=>grpMay g m.users):=rfl;by_cases hc:1≤u∧u≤16∧m.groups.length≤8
 ·refine jn_at (false,()) h1 ?_ ?_
  ·refine ⟨_,s0,?_⟩;dsimp only;rw[if_neg (by simp;omega)];refine ⟨_,s0,?_⟩;dsimp only;rw[if_neg (by simp;omega)];refine ⟨_,s1,?_⟩;exact ⟨by simp;omega,by first | rfl | trivial⟩
  ·rw[if_neg (by simp)];refine ⟨_,s1,?_⟩;apply ZAT.c;unfold ZAT.m;apply ZAc.c;unfold ZAc.m;refine lp_go (fun (y:Int×Unit) (h2:Heap)=>h2=h1∧∃t:Nat,y.1=t∧t≤m.groups.length∧∀j,(hj:j<m.groups.length)→j<t→grpMay m.groups[j] m.users=true) (fun (y:Int×Unit) _=>m.groups.length-y.1.toNat) ?_ ?_
   ·exact ⟨rfl,0,rfl,YAl _,fun j _ h=>by omega⟩
   ·rintro ⟨(i:Int),_⟩ h2 ⟨rfl,t,e,ht,hall⟩;dsimp only at e ⊢;subst e;by_cases hlt:t<m.groups.length
    ·rw[if_pos (show decide ((t:Int)<(gs.len:Int))=true from dT (by omega))];have hgt:t<gl.length:=by omega
     refine seg_ix (g1.keep (by decide) k1) (x:=gl[t]) (by omega) (by simp[hgt]) rfl ?_;have gt:=g2.getI hgt hlt;refine callV_go (aa:=[Kd.sl.val gl[t],Kd.p.val (some ⟨b,0⟩)]) (by rfl) ?_;show ZBb.C gl[t] ⟨b,0⟩ h2 _;refine ZBb.s (gt.1.keep (by decide) k1) gt.2 e1 ?_;dsimp only;rw[hu]
     cases hg:grpMay m.groups[t] m.users with
     | false =>
       rw[if_pos (by rfl)]
       have:mbMay m=false:=by
        rw[hdef]
        have:(m.groups.all fun g=>grpMay g m.users)=false:=by
         cases ha:m.groups.all fun g=>grpMay g m.users with
         | false=>rfl
         | true=>rw[YAB] at ha;rw[ha _ (YAN hlt)] at hg;simp at hg
        rw[this];simp
       have hd:(!decide ((t:Int)≥0))=false:=by simp
       rw[hd,←this];exact hK _ k1
     | true =>
       rw[if_neg (by simp)];have hw:w64 ((t:Int)+1)=((t+1:Nat):Int):=w6 (by omega);rw[hw];refine ⟨⟨by first | rfl | trivial,t+1,rfl,by omega,fun j hj hjt =>?_⟩,by simp;omega⟩;by_cases hje:j=t
       ·subst hje;exact hg
       ·exact hall j hj (by omega)
    ·rw[if_neg (show ¬decide ((t:Int)<(gs.len:Int))=true by simp;omega)]
     have:mbMay m=true:=by
      rw[hdef]
      have:(m.groups.all fun g=>grpMay g m.users)=true:=by
       rw[YAB];intro x hx;obtain ⟨j,hj,rfl⟩:=List.mem_iff_getElem.1 hx;exact hall j hj (by omega)
      rw[this];simp;omega
     have hd:(!decide ((-1:Int)≥0))=true:=by simp
     rw[hd,←this];exact hK _ k1
 ·have hf:mbMay m=false:=by
   rw[hdef]
   cases hh:(decide (1≤m.users)&&decide (m.users≤16)&&decide (m.groups.length≤8)&&m.groups.all fun g=>grpMay g m.users) with
   | false=>rfl
   | true =>
     simp only [YAm,decide_eq_true_eq] at hh;exact absurd ⟨by omega,by omega,hh.1.2⟩ hc
  refine jn_at (true,()) h1 ?_ ?_
  ·refine ⟨_,s0,?_⟩;dsimp only;by_cases c1:u<1
   ·rw[if_pos (by simpa using c1)];exact ⟨by first | rfl | trivial,by first | rfl | trivial⟩
   rw[if_neg (by simpa using c1)];refine ⟨_,s0,?_⟩;dsimp only;by_cases c2:u>16
   ·rw[if_pos (by simpa using c2)];exact ⟨by first | rfl | trivial,by first | rfl | trivial⟩
   rw[if_neg (by simpa using c2)];refine ⟨_,s1,?_⟩;exact ⟨by simp;omega,by first | rfl | trivial⟩
  ·rw[if_pos (by rfl),←hf];exact hK _ k1
theorem mb_ok {m:Mb} (hm:mbMay m=true):1≤m.users∧m.users≤16∧m.groups.length≤8∧∀g∈m.groups,grpMay g m.users=true:=by
 unfold mbMay at hm;simp only [YAm,decide_eq_true_eq,YAB] at hm;exact ⟨hm.1.1.1,hm.1.1.2,hm.1.2,hm.2⟩
theorem ZAz.s {v:MbK.Ty} {m:Mb} {h:Heap} {K:Int→Heap→Prop} (a:MbAt h v m) (hm:mbMay m=true) (hK:∀h',Keep [] h h'→K (prins m) h'):ZAz.C v h K:=by
 apply ZAz.c;unfold ZAz.m;refine new_gen fun b h1 hb k1 e1 hs1 =>?_;have e1:h1[b]? = some (vobj t_api_Members MbK v):=e1;obtain ⟨q1,q2,q3,_⟩:=mb_ok hm;obtain ⟨(u:Int),(gs:Slc),_⟩:=v;obtain ⟨hu,gl,g1,g2⟩:=a;have hu:u=m.users:=hu;have g1:Seg .sl gs gl h:=g1;have glen:=g1.len;have l2:=g2.len;refine ld_go (k := .i) (x:=u) (sm_fld e1 rfl (by decide)) ?_;refine ld_go (k := .sl) (x:=gs) (sm_fld e1 rfl (by decide)) ?_
 have:w64 (u+(gs.len:Int))=prins m:=by
  unfold prins;rw[w64_id (by omega) (by omega)];omega
 rw[this];exact hK _ k1
theorem ZBT.s {a b c d:Int} {h:Heap} {K:Bool→Heap→Prop} (hK:K (ndN a b c d) h):ZBT.C a b c d h K:=by
 apply ZBT.c;unfold ZBT.m;refine jn_at (ndN a b c d,()) h ?_ hK;unfold ndN;by_cases h1:1≤a
 ·by_cases h2:a≤32
  ·by_cases h3:b=0
   ·by_cases h4:c=0
    ·by_cases h5:1≤d <;> simp[h1,h2,h3,h4,h5]
    ·by_cases h4':c=1
     ·by_cases h5:1≤d <;> simp[h1,h2,h3,h4',h5]
     ·simp[h1,h2,h3,h4,h4']
   ·by_cases h3':b=1
    ·by_cases h4:c=0
     ·by_cases h5:1≤d <;> simp[h1,h2,h3',h4,h5]
     ·by_cases h4':c=1
      ·by_cases h5:1≤d <;> simp[h1,h2,h3',h4',h5]
      ·simp[h1,h2,h3',h4,h4']
    ·simp[h1,h2,h3,h3']
  ·simp[h1,h2]
 ·simp[h1]
theorem ZCr.s {l:Pl} {v:NdV} {x:Nd} {h:Heap} {K:Bool→Heap→Prop} (e:sm NdK l v h) (a:NdAt h v x) (hK:∀h',Keep [] h h'→K (ndMay x) h'):ZCr.C (some l) h K:=by
 apply ZCr.c;unfold ZCr.m;obtain ⟨f0,f1,f2,f3,f4,f5⟩:=nd_f e;rw[a.n] at f0;rw[a.k] at f1;rw[a.m] at f2;rw[a.l] at f3;rw[a.d] at f4;have gl:=a.e.len;refine nck_go (ld_go f0 (nck_go (ld_go f1 (nck_go (ld_go f2 (nck_go (ld_go f3 ?_)))))));refine ZBT.s ?_;have hd:ndMay x=(ndN x.num x.kind x.mode x.links&&(if x.kind=1 then decide (x.data=⟨#[]⟩)&&dirMay x.ents else decide (x.data.size≤4096)&&decide (x.ents=[]))):=rfl
 cases hn:ndN x.num x.kind x.mode x.links with
 | false =>
   rw[if_pos (by rfl)];have:ndMay x=false:=by rw[hd,hn];rfl
   rw[←this];exact hK h Keep.rfl
 | true =>
   rw[if_neg (by simp)];refine nck_go (ld_go f1 ?_);rw[hn,YAn] at hd;by_cases hk:x.kind=1
   ·rw[if_pos (by simpa using hk)];rw[if_pos hk] at hd;refine jn_in (fun y h'=>y.1=ndMay x∧Keep [] h h') ?_ ?_
    ·refine nck_go (ld_go f4 ?_);by_cases hdt:x.data=⟨#[]⟩
     ·rw[if_pos (by simp[hdt])];refine nck_go (ld_go f5 ?_);refine ZC5.s a.e fun h3 k3=>⟨?_,k3⟩;rw[hd];simp[hdt]
     ·rw[if_neg (by simp[hdt])];exact ⟨by rw[hd];simp[hdt],Keep.rfl⟩
    ·rintro ⟨(b:Bool),_⟩ h2 ⟨e2,k2⟩;dsimp only at e2 ⊢;rw[e2];exact hK h2 k2
   ·rw[if_neg (by simpa using hk)];rw[if_neg hk] at hd;refine jn_at (ndMay x,()) h ?_ (hK h Keep.rfl);refine nck_go (ld_go f4 ?_);by_cases hs:x.data.size≤4096
    ·rw[if_pos (by simp;omega)];refine nck_go (ld_go f5 ?_);refine ⟨?_,by first | rfl | trivial⟩;rw[hd,gl]
     have:decide ((x.ents.length:Int)=0)=decide (x.ents=[]):=by
      rw[decide_eq_decide]
      cases x.ents with
      | nil=>simp
      | cons a b=>simp;omega
     rw[this];simp[hs]
    ·rw[if_neg (by simp;omega)];exact ⟨by rw[hd];simp[hs],by first | rfl | trivial⟩
abbrev numV:Value := .func (.func ZAZ.n) #[] #[]
theorem ZAZ.s {v:NdV} {h:Heap} {K:Int→Heap→Prop} (hK:∀h',Keep [] h h'→K (vNum v) h'):ZAZ.C v h K:=by
 apply ZAZ.c;unfold ZAZ.m;refine new_gen fun b h1 hb k1 e1 hs1 =>?_;have e1:h1[b]? = some (vobj t_api_Node NdK v):=e1;exact ld_go (nd_f (sm_all e1)).1 (hK h1 k1)
def risesV:List NdV→Bool
 | x::y::r=>decide (vNum x<vNum y)&&risesV (y::r)
 | _=>true
theorem risesV_iff:∀xs:List NdV,risesV xs=true↔∀j,(h:j+1<xs.length)→vNum xs[j]<vNum xs[j+1]
 | []=>by simp[risesV]
 | [x]=>by simp[risesV]
 | x :: y :: r => by
   unfold risesV;rw[YAm,decide_eq_true_eq,risesV_iff (y::r)]
   constructor
   ·rintro ⟨h1,h2⟩ j hj
    cases j with
    | zero=>exact h1
    | succ j=>exact h2 j (by simpa using hj)
   ·intro h;exact ⟨h 0 (by simp),fun j hj=>h (j+1) (by simpa using hj)⟩
theorem risesV_eq {h:Heap}:∀ {vs:List NdV} {xs:Tab},All2 (NdAt h) vs xs→risesV vs=risesN xs
 | [],[],_=>rfl
 | [v],[x],_=>rfl
 | v :: w :: r, x :: y :: q, a => by
   unfold risesV risesN;rw[a.1.n,a.2.1.n,risesV_eq a.2]
 | [_],_::_::_,a=>by simp[All2] at a
 | _::_::_,[_],a=>by simp[All2] at a
theorem risesV_lt {xs:List NdV} (hr:risesV xs=true) {i:Nat}:∀ {j:Nat},(hij:i<j)→(hj:j<xs.length)→vNum (xs[i]'(by omega))<vNum xs[j]
 | 0,hij,_=>by omega
 | j + 1, hij, hj => by
   have h1:=(risesV_iff xs).1 hr j hj;by_cases e:i=j
   ·subst e;exact h1
   ·have:=risesV_lt hr (i:=i) (j:=j) (by omega) (by omega);omega
theorem dir_RisingN.s {s:Slc} {vs:List NdV} {h:Heap} {K:Bool→Heap→Prop} (g:Seg NdK s vs h) (hl:vs.length≤9223372036854775807)
 (hK:∀h',Keep [] h h'→K (risesV vs) h'):ZAu.C s numV h K:=by
 apply ZAu.c;unfold ZAu.m;have hlen:=g.len;refine lp_go (fun (y:Int×Unit) (h1:Heap)=>∃t:Nat,y.1=(t:Int)+1∧(t+1≤vs.length∨t=0)∧Keep [] h h1∧∀j,(hj:j+1<vs.length)→j<t→vNum vs[j]<vNum vs[j+1]) (fun (y:Int×Unit) _=>vs.length-y.1.toNat) ?_ ?_
 ·exact ⟨0,rfl,.inr rfl,Keep.rfl,fun j _ h=>by omega⟩
 ·rintro ⟨(i:Int),_⟩ h1 ⟨t,e,ht,k1,hall⟩;dsimp only at e ⊢;subst e;by_cases hlt:t+1<vs.length
  ·rw[if_pos (show decide ((t:Int)+1<(s.len:Int))=true from dT (by omega))];have hw:w64 ((t:Int)+1+1)=((t+1:Nat):Int)+1:=w6 (by omega);have hw1:w64 ((t:Int)+1-1)=(t:Int):=w6 (by omega);rw[hw,hw1];have g1:=g.keep (by decide) k1;have hlt0:t<vs.length:=by omega
   obtain ⟨l0,hl0,hx0⟩:=seg_at g1 (i:=t) hlt0;obtain ⟨l1,hl1,hx1⟩:=seg_at g1 (i:=t+1) hlt;refine ⟨l0,hl0,by omega,by omega,vs[t],by rw[YAd];exact hx0,l1,hl1,by omega,by omega,vs[t+1],?_,?_⟩
   ·rw[show ((t:Int)+1).toNat=t+1 by omega];exact hx1
   refine callV_go (aa:=[NdK.val vs[t]]) (by rfl) ?_;show ZAZ.C vs[t] h1 _;refine ZAZ.s fun h2 k2 =>?_;refine ⟨by rw[show ((t:Int)+1).toNat=t+1 by omega];exact sm_keep' hx1 k2 (by simp),?_⟩;refine callV_go (aa:=[NdK.val vs[t+1]]) (by rfl) ?_;show ZAZ.C vs[t+1] h2 _;refine ZAZ.s fun h3 k3 =>?_;have k13:=(k1.n k2).n k3;by_cases hs:vNum vs[t]<vNum vs[t+1]
   ·rw[if_neg (show ¬decide (vNum vs[t]≥vNum vs[t+1])=true by simp;omega)];refine ⟨⟨t+1,rfl,by omega,k13,fun j hj hjt =>?_⟩,by simp;omega⟩;by_cases e:j=t
    ·subst e;exact hs
    ·exact hall j hj (by omega)
   ·rw[if_pos (show decide (vNum vs[t]≥vNum vs[t+1])=true from dT (by omega))]
    have:risesV vs=false:=by
     cases hr:risesV vs with
     | false=>rfl
     | true=>exact absurd ((risesV_iff vs).1 hr t hlt) hs
    rw[←this];exact hK _ k13
  ·rw[if_neg (show ¬decide ((t:Int)+1<(s.len:Int))=true by simp;omega)];have:risesV vs=true:=(risesV_iff vs).2 fun j hj=>hall j hj (by omega);rw[←this];exact hK _ k1
def cmpI (x y:Int):Int:=if x<y then -1 else if x>y then 1 else 0
theorem cmp_CompareI.s {x y:Int} {h:Heap} {K:Int→Heap→Prop} (hK:K (cmpI x y) h):ZB7.C x y h K:=by
 apply ZB7.c;unfold ZB7.m;refine ZBs.c _ ?_;unfold ZBs.m;refine ZBs.c _ ?_;unfold ZBs.m;dsimp only;rw[if_neg (by simp),if_neg (by simp)];unfold cmpI at hK;by_cases h1:x<y
 ·rw[if_pos (by simpa using h1)];rw[if_pos h1] at hK;exact hK
 ·rw[if_neg (by simpa using h1)];rw[if_neg h1] at hK;by_cases h2:x>y
  ·rw[if_pos (by simpa using h2)];rw[if_pos h2] at hK;exact hK
  ·rw[if_neg (by simpa using h2)];rw[if_neg h2] at hK;exact hK
theorem dir_PlaceN_c1.s {v:NdV} {k:Int} {b:Nat} {h:Heap} {K:Int→Heap→Prop} (hb:h[b]? = some (vobj t_func_api_Node_int .f numV)) (hK:∀h',Keep [] h h'→K (cmpI (vNum v) k) h'):ZAb.C v k ⟨b,0⟩ h K:=by
 apply ZAb.c;unfold ZAb.m;refine new_gen fun b1 h1 hb1 k1 e1 hs1 =>?_;have e1:h1[b1]? = some (vobj t_api_Node NdK v):=e1;refine ld_go (sm_all (k1.g hb)) (ld_go (sm_all e1) ?_);refine callV_go (aa:=[NdK.val v]) (by rfl) ?_;show ZAZ.C v h1 _;refine ZAZ.s fun h2 k2 =>?_;exact cmp_CompareI.s (hK _ (k1.n k2))
def foundV (vs:List NdV) (k:Int) (i:Nat):Bool:=match vs[i]? with | some v=>decide (vNum v=k) | none=>false
theorem dir_PlaceN.s {s:Slc} {xs:List NdV} {k:Int} {h:Heap} {K:Int→Bool→Heap→Prop} (g:Seg NdK s xs h) (hl:xs.length≤2305843009213693952)
 (hK:∀(i:Nat) h',Keep [] h h'→i≤xs.length→(risesV xs=true→(∀j,(hj:j<xs.length)→j<i→vNum xs[j]<k)∧∀j,(hj:j<xs.length)→i≤j→¬vNum xs[j]<k)→K i (foundV xs k i) h'):ZA0.C s k numV h K:=by
 apply ZA0.c;unfold ZA0.m;refine new_gen fun b h0 hbs k0 hb hs1 =>?_;have hb:h0[b]? = some (vobj t_func_api_Node_int .f numV):=hb;apply ZAG.c;unfold ZAG.m;have hlen:=g.len;refine lp_go (fun (y:Int×Int×Unit) (h1:Heap)=>0≤y.1∧y.1≤y.2.1∧y.2.1≤xs.length∧Keep [] h0 h1∧(risesV xs=true→(∀j,(hj:j<xs.length)→(j:Int)<y.1→vNum xs[j]<k)∧∀j,(hj:j<xs.length)→y.2.1≤(j:Int)→¬vNum xs[j]<k)) (fun (y:Int×Int×Unit) _=>(y.2.1-y.1).toNat) ?_ ?_
 ·exact ⟨by simp,by rw[hlen];simp,by rw[hlen];simp,Keep.rfl,fun _=>⟨fun j hj hlt=>by dsimp only at hlt;omega,fun j hj hlt=>by dsimp only at hlt;omega⟩⟩
 ·rintro ⟨(i:Int),(j:Int),_⟩ h1 ⟨i0,i1,i2,k1,hall⟩;dsimp only at *;have g1:=g.keep (by decide) (k0.n k1);have hb1:=k1.g hb;obtain ⟨i,rfl⟩:∃t:Nat,i=t:=⟨i.toNat,by omega⟩;obtain ⟨j,rfl⟩:∃t:Nat,j=t:=⟨j.toNat,by omega⟩;split
  ·rename_i hlt
   have hlt:i<j:=by
    have:(i:Int)<j:=by simpa using hlt
    omega
   rw[mid_eq (by omega)];have hm:(i+j)/2<xs.length:=by omega
   have hm1:i≤(i+j)/2:=by omega
   have hm2:(i+j)/2<j:=by omega
   generalize (i+j)/2=m at *;refine ⟨fun y h6=>(0≤y.1∧y.1≤y.2.1∧y.2.1≤xs.length∧Keep [] h0 h6∧(risesV xs=true→(∀j,(hj:j<xs.length)→(j:Int)<y.1→vNum xs[j]<k)∧∀j,(hj:j<xs.length)→y.2.1≤(j:Int)→¬vNum xs[j]<k))∧(y.2.1-y.1).toNat<((j:Int)-(i:Int)).toNat,?_,fun y h6 hh=>hh⟩;refine ⟨by decide,?_⟩;refine seg_ix (x:=xs[m]) g1 (by omega) (by simp[hm]) rfl ?_;refine callV_go (aa:=[NdK.val xs[m],Kd.i.val k,Kd.p.val (some ⟨b,0⟩)]) (by rfl) ?_;show ZAb.C xs[m] k ⟨b,0⟩ h1 _;refine dir_PlaceN_c1.s hb1 fun h2 k2 =>?_;have k12:=k1.n k2;refine jn_go ?_;have hw:w64 ((m:Int)+1)=(m:Int)+1:=w64_id (by omega) (by omega);rw[hw];by_cases hs:vNum xs[m]<k
   ·have:cmpI (vNum xs[m]) k<0:=by unfold cmpI;rw[if_pos hs];decide
    rw[if_pos (by simpa using this)];refine ⟨⟨show (0:Int)≤(m:Int)+1 by omega,show (m:Int)+1≤(j:Int) by omega,show (j:Int)≤xs.length by omega,k12,fun hr=>⟨fun q hq hlt =>?_,(hall hr).2⟩⟩,show ((j:Int)-((m:Int)+1)).toNat<((j:Int)-(i:Int)).toNat by omega⟩;by_cases e:q=m
    ·subst e;exact hs
    ·have hlt:(q:Int)<(m:Int)+1:=hlt;have:=risesV_lt hr (i:=q) (j:=m) (by omega) hm;omega
   ·have:¬cmpI (vNum xs[m]) k<0:=by unfold cmpI;rw[if_neg hs];split <;> decide
    rw[if_neg (by simpa using this)];refine ⟨⟨show (0:Int)≤(i:Int) by omega,show (i:Int)≤(m:Int) by omega,show (m:Int)≤xs.length by omega,k12,fun hr=>⟨(hall hr).1,fun q hq hle =>?_⟩⟩,show ((m:Int)-(i:Int)).toNat<((j:Int)-(i:Int)).toNat by omega⟩;by_cases e:q=m
    ·subst e;exact hs
    ·have hle:(m:Int)≤(q:Int):=hle;have:=risesV_lt hr (i:=m) (j:=q) (by omega) hq;omega
  ·rename_i hge
   have hge:¬i<j:=by
    have:¬(i:Int)<j:=by simpa using hge
    omega
   have hij:i=j:=by omega
   subst hij;have hlb:risesV xs=true→(∀j,(hj:j<xs.length)→j<i→vNum xs[j]<k)∧∀j,(hj:j<xs.length)→i≤j→¬vNum xs[j]<k:=fun hr=>⟨fun q hq hlt=>(hall hr).1 q hq (by omega),fun q hq hle=>(hall hr).2 q hq (by omega)⟩;refine jn_is ((i:Int),(foundV xs k i,())) (fun h6=>Keep [] h0 h6) ?_ fun h6 k6=>hK i _ (k0.n k6) (by omega) hlb;by_cases hi:i<xs.length
   ·rw[if_pos (by rw[hlen];simpa using hi)];refine seg_ix (x:=xs[i]) g1 (by omega) (by simp[hi]) rfl ?_;refine callV_go (aa:=[NdK.val xs[i],Kd.i.val k,Kd.p.val (some ⟨b,0⟩)]) (by rfl) ?_;show ZAb.C xs[i] k ⟨b,0⟩ h1 _;refine dir_PlaceN_c1.s hb1 fun h2 k2 =>?_;refine ⟨?_,k1.n k2⟩
    have:decide (cmpI (vNum xs[i]) k=0)=foundV xs k i:=by
     unfold foundV cmpI;simp only [hi,YAK];rw[decide_eq_decide];split
     ·omega
     ·split <;> omega
    rw[this]
   ·rw[if_neg (by rw[hlen];simpa using hi)];refine ⟨?_,k1⟩;have:foundV xs k i=false:=by unfold foundV;rw[YAL (by omega)]
    rw[this]
theorem ZAC.s {h:Heap} {w:Nat} {s:Slc} {bs:List UInt8} {z:HsV} {K:Int→Heap→Prop} (i:IsW h w s bs) (hb:bs.length+32≤65536)
 (hK:∀h' s',Keep (w::own s) h h'→IsW h' w s' (bs++z.toList)→(∀b∈own s',b∈own s∨h.size≤b)→K 0 h'):ZAC.C (some ⟨w,0⟩) z h K:=by
 apply ZAC.c;unfold ZAC.m;refine new_gen fun b1 h1 hb1 k1 e1 hs1 =>?_;have e1:h1[b1]? = some (vobj t_api_Hash HK z):=e1;rw[if_neg (by simp)];refine ⟨by decide,by decide,by decide,?_⟩;have g1:Seg .u8 ⟨some ⟨b1,0⟩,32,32⟩ z.toList h1:=ar_seg e1;refine b2s_segq g1 fun q _ =>?_;refine bs_gen fun b2 h2 hb2 k2 r2 hs2 =>?_;have i2:=(i.keep k1 (by simp) (by simp)).keep k2 (by simp) (by simp);have lw:=lt_of_some i.o;have ls:=i.r.lt;have s1:=k1.1;have zl:z.toList.length=32:=by simp
 have l1:lens [(⟨z.toList.toArray⟩:ByteArray)]=32:=by simp[lens,ByteArray.size]
 refine ZAM.s (T:=t_string) i2 (parts:=[⟨z.toList.toArray⟩]) r2 ?_ ?_ (by omega) ?_ (by simp) (fun hgt=>by rw[l1] at hgt;omega) fun _ h' s' k' i' o' =>?_
 ·intro b hb;simp[own] at hb;omega
 ·intro b hb hm;simp[own] at hb;have:=ls b hm;omega
 ·intro p hp;simp only [YAW,YAX,or_false] at hp;subst hp;show z.toList.toArray.size≤_;simp
 ·have e:cat [(⟨z.toList.toArray⟩:ByteArray)]=z.toList:=by simp[cat]
  rw[e] at i';refine hK h' s' ((k1.then (U:=w::own s) k2 (by simp) (by simp)).then k' (fun x hx _=>hx) (fun x hx _=>hx)) i' fun b hb =>?_;rcases o' b hb with e | e
  ·exact .inl e
  ·right;have:=k2.1;omega
theorem NW.hash {h0 h:Heap} {w:Nat} {s:Slc} {bs:List UInt8} {z:HsV} {K:Int→Heap→Prop} (q:NW h0 h w s bs) (hb:bs.length+32≤65536)
 (hK:∀h' s',NW h0 h' w s' (bs++z.toList)→Keep (w::own s) h h'→(∀b,b<h.size→b∉w::own s→b∉w::own s')→K 0 h'):ZAC.C (some ⟨w,0⟩) z h K:=
 ZAC.s q.i hb fun h' s' k' i' o'=>hK h' s' (q.step k' i' o') k' (out_step o')
abbrev InK:Kd := .ag (.pr .i (.pr .i (.pr .i (.pr .i (.pr .i (.pr (.ar 32 .u8) .un))))))
def vIno (v:InK.Ty):Ino:=⟨v.1,v.2.1,v.2.2.1,v.2.2.2.1,v.2.2.2.2.1,v.2.2.2.2.2.1⟩
def inoV (x:Ino):InK.Ty:=(x.num,(x.kind,(x.mode,(x.links,(x.size,(x.root,()))))))
theorem cells32 {z:HsV}:(HK.cells z++([]:List Value)).take 32=HK.cells z:=by
 rw[YAD];exact YAb (by rw[Kd.cells_length];exact YAg _)
theorem in_f {l:Pl} {v:InK.Ty} {h:Heap} (e:sm InK l v h):sm .i (l.fld 0) (vIno v).num h∧sm .i (l.fld 1) (vIno v).kind h∧sm .i (l.fld 2) (vIno v).mode h∧sm .i (l.fld 3) (vIno v).links h∧sm .i (l.fld 4) (vIno v).size h∧sm HK (l.fld 5) (vIno v).root h:=
 ⟨sm_sub e (by decide) rfl,sm_sub e (by decide) rfl,sm_sub e (by decide) rfl,sm_sub e (by decide) rfl,sm_sub e (by decide) rfl,sm_sub e (by decide) (cells32 (z:=v.2.2.2.2.2.1))⟩
theorem ZDC.s {l:Pl} {v:InK.Ty} {h:Heap} {K:Bool→Heap→Prop} (e:sm InK l v h) (hK:K (inodMay (vIno v)) h):ZDC.C (some l) h K:=by
 apply ZDC.c;unfold ZDC.m;obtain ⟨f0,f1,f2,f3,f4,f5⟩:=in_f e;generalize vIno v=x at *;refine nck_go (ld_go f1 ?_);refine jn_at (if x.kind=1 then 0 else 4096,()) h ?_ ?_
 ·by_cases hk:x.kind=1
  ·rw[if_pos (by simpa using hk),if_pos hk];exact ⟨rfl,rfl⟩
  ·rw[if_neg (by simpa using hk),if_neg hk];exact ⟨rfl,rfl⟩
 ·refine jn_at (inodMay x,()) h ?_ hK;refine nck_go (ld_go f0 (nck_go (ld_go f1 (nck_go (ld_go f2 (nck_go (ld_go f3 ?_)))))));refine ZBT.s ?_;unfold inodMay
  cases hn:ndN x.num x.kind x.mode x.links with
  | false=>rw[if_neg (by simp)];exact ⟨by simp,rfl⟩
  | true =>
    rw[if_pos rfl];refine nck_go (ld_go f4 ?_);by_cases h0:x.size≥0
    ·rw[if_pos (by simpa using h0)];refine nck_go (ld_go f4 ⟨?_,rfl⟩);have h0':0≤x.size:=h0;simp[h0']
    ·rw[if_neg (by simpa using h0)];have h0':¬0≤x.size:=h0;exact ⟨by simp[h0'],rfl⟩
theorem risesO_iff:∀xs:List Ino,risesO xs=true↔∀j,(h:j+1<xs.length)→xs[j].num<xs[j+1].num
 | []=>by simp[risesO]
 | [x]=>by simp[risesO]
 | x :: y :: r => by
   unfold risesO;rw[YAm,decide_eq_true_eq,risesO_iff (y::r)]
   constructor
   ·rintro ⟨h1,h2⟩ j hj
    cases j with
    | zero=>exact h1
    | succ j=>exact h2 j (by simpa using hj)
   ·intro h;exact ⟨h 0 (by simp),fun j hj=>h (j+1) (by simpa using hj)⟩
theorem ino_ok {x:Ino} (h:inodMay x=true):1≤x.num∧x.num≤32∧(x.kind=0∨x.kind=1)∧(x.mode=0∨x.mode=1)∧1≤x.links∧x.links≤32∧0≤x.size∧x.size≤4096:=by
 unfold inodMay ndN at h;simp only [YAm,Bool.or_eq_true,decide_eq_true_eq] at h;obtain ⟨⟨⟨⟨⟨⟨⟨a,b⟩,c⟩,d⟩,e⟩,f⟩,g⟩,i⟩:=h;refine ⟨a,b,c,d,e,f,g,?_⟩;split at i <;> omega
theorem itab_ok {xs:List Ino} (h:itabMay xs=true):(∀x∈xs,inodMay x=true)∧xs.length≤32:=by
 unfold itabMay at h;rw[YAm,YAB] at h;obtain ⟨h1,h2⟩:=h;refine ⟨h1,?_⟩;have hr:=(risesO_iff xs).1 h2
 have low:∀j,(hj:j<xs.length)→(j:Int)+1≤xs[j].num:=by
  intro j
  induction j with
  | zero=>intro hj;have:=(ino_ok (h1 _ (YAN hj))).1;omega
  | succ j ih=>intro hj;have:=ih (by omega);have:=hr j hj;omega
 by_cases hl:xs.length≤32
 ·exact hl
 ·have a:=low 32 (by omega);have b:=(ino_ok (h1 _ (YAN (show 32<xs.length by omega)))).2.1;omega
theorem inoBytes_len {x:Ino}:(inoBytes x).length=38:=by
 unfold inoBytes;simp only [YAO,be_len,YAo]
theorem itabFlat {xs:List Ino}:(xs.flatMap inoBytes).length=38*xs.length:=by
 induction xs with
 | nil=>rfl
 | cons x r ih=>rw[YAI,YAO,ih,inoBytes_len,YAP];omega
theorem ZBD.s {v:InK.Ty} {h:Heap} {K:Int→Heap→Prop} (hK:∀h',Keep [] h h'→K (vIno v).num h'):ZBD.C v h K:=by
 apply ZBD.c;unfold ZBD.m;refine new_gen fun b h1 hb k1 e1 hs1 =>?_;have e1:h1[b]? = some (vobj t_api_Inode InK v):=e1;exact ld_go (in_f (sm_all e1)).1 (hK h1 k1)
theorem dir_RisingI.s {s:Slc} {vs:List InK.Ty} {h:Heap} {K:Bool→Heap→Prop} (g:Seg InK s vs h) (hl:vs.length≤9223372036854775807)
 (hK:∀h',Keep [] h h'→K (risesO (vs.map vIno)) h'):ZAp.C s (.func (.func ZBD.n) #[] #[]) h K:=by
 apply ZAp.c;unfold ZAp.m;have hlen:=g.len;have hiff:=risesO_iff (vs.map vIno);simp only [YAR,YAM] at hiff;refine lp_go (fun (y:Int×Unit) (h1:Heap)=>∃t:Nat,y.1=(t:Int)+1∧(t+1≤vs.length∨t=0)∧Keep [] h h1∧∀j,(hj:j+1<vs.length)→j<t→(vIno vs[j]).num<(vIno vs[j+1]).num) (fun (y:Int×Unit) _=>vs.length-y.1.toNat) ?_ ?_
 ·exact ⟨0,rfl,.inr rfl,Keep.rfl,fun j _ h=>by omega⟩
 ·rintro ⟨(i:Int),_⟩ h1 ⟨t,e,ht,k1,hall⟩;dsimp only at e ⊢;subst e;by_cases hlt:t+1<vs.length
  ·rw[if_pos (show decide ((t:Int)+1<(s.len:Int))=true from dT (by omega))];have hw:w64 ((t:Int)+1+1)=((t+1:Nat):Int)+1:=w6 (by omega);have hw1:w64 ((t:Int)+1-1)=(t:Int):=w6 (by omega);rw[hw,hw1];have g1:=g.keep (by decide) k1;have hlt0:t<vs.length:=by omega
   obtain ⟨l0,hl0,hx0⟩:=seg_at g1 (i:=t) hlt0;obtain ⟨l1,hl1,hx1⟩:=seg_at g1 (i:=t+1) hlt;refine ⟨l0,hl0,by omega,by omega,vs[t],by rw[YAd];exact hx0,l1,hl1,by omega,by omega,vs[t+1],?_,?_⟩
   ·rw[show ((t:Int)+1).toNat=t+1 by omega];exact hx1
   refine callV_go (aa:=[InK.val vs[t]]) (by rfl) ?_;show ZBD.C vs[t] h1 _;refine ZBD.s fun h2 k2 =>?_;refine ⟨by rw[show ((t:Int)+1).toNat=t+1 by omega];exact sm_keep' hx1 k2 (by simp),?_⟩;refine callV_go (aa:=[InK.val vs[t+1]]) (by rfl) ?_;show ZBD.C vs[t+1] h2 _;refine ZBD.s fun h3 k3 =>?_;have k13:=(k1.n k2).n k3;by_cases hs:(vIno vs[t]).num<(vIno vs[t+1]).num
   ·rw[if_neg (show ¬decide ((vIno vs[t]).num≥(vIno vs[t+1]).num)=true by simp;omega)];refine ⟨⟨t+1,rfl,by omega,k13,fun j hj hjt =>?_⟩,by simp;omega⟩;by_cases e:j=t
    ·subst e;exact hs
    ·exact hall j hj (by omega)
   ·rw[if_pos (show decide ((vIno vs[t]).num≥(vIno vs[t+1]).num)=true from dT (by omega))]
    have:risesO (vs.map vIno)=false:=by
     cases hr:risesO (vs.map vIno) with
     | false=>rfl
     | true=>exact absurd (hiff.1 hr t hlt) hs
    rw[←this];exact hK _ k13
  ·rw[if_neg (show ¬decide ((t:Int)+1<(s.len:Int))=true by simp;omega)];have:risesO (vs.map vIno)=true:=hiff.2 fun j hj=>hall j hj (by omega);rw[←this];exact hK _ k1
theorem ZDB.s {s:Slc} {vs:List InK.Ty} {h:Heap} {K:Bool→Heap→Prop} (g:Seg InK s vs h) (hl:vs.length≤9223372036854775807)
 (hK:∀h',Keep [] h h'→K (itabMay (vs.map vIno)) h'):ZDB.C s h K:=by
 apply ZDB.c;unfold ZDB.m;have hlen:=g.len;refine lp_go (fun (y:Int×Unit) (h1:Heap)=>h1=h∧∃t:Nat,y.1=t∧t≤vs.length∧∀j,(hj:j<vs.length)→j<t→inodMay (vIno vs[j])=true) (fun (y:Int×Unit) _=>vs.length-y.1.toNat) ?_ ?_
 ·exact ⟨rfl,0,rfl,YAl _,fun j _ h=>by omega⟩
 ·rintro ⟨(i:Int),_⟩ h1 ⟨rfl,t,e,ht,hall⟩;dsimp only at e ⊢;subst e;by_cases hlt:t<vs.length
  ·rw[if_pos (show decide ((t:Int)<(s.len:Int))=true from dT (by omega))];have hw:w64 ((t:Int)+1)=((t+1:Nat):Int):=w6 (by omega);rw[hw];refine seg_ixl g (x:=vs[t]) (by omega) (by simp[hlt]) rfl fun l hl =>?_;refine ZDC.s hl ?_
   cases hm:inodMay (vIno vs[t]) with
   | false =>
     rw[if_pos (by rfl)]
     have:itabMay (vs.map vIno)=false:=by
      unfold itabMay;rw[Bool.and_eq_false_iff]
      left
      rw[YAA];exact ⟨vIno vs[t],List.mem_map_of_mem (YAN hlt),by rw[hm];simp⟩
     rw[←this];exact hK _ Keep.rfl
   | true =>
     rw[if_neg (by simp)];refine ⟨⟨by first | rfl | trivial,t+1,rfl,by omega,fun j hj hjt =>?_⟩,by simp;omega⟩;by_cases e:j=t
     ·subst e;exact hm
     ·exact hall j hj (by omega)
  ·rw[if_neg (show ¬decide ((t:Int)<(s.len:Int))=true by simp;omega)];refine dir_RisingI.s g hl fun h3 k3 =>?_
   have:itabMay (vs.map vIno)=risesO (vs.map vIno):=by
    have ha:(vs.map vIno).all inodMay=true:=by
     rw[YAB];intro x hx;obtain ⟨v,hv,rfl⟩:=List.mem_map.1 hx;obtain ⟨j,hj,rfl⟩:=List.mem_iff_getElem.1 hv;exact hall j hj (by omega)
    unfold itabMay;rw[ha];rfl
   rw[←this];exact hK _ k3
theorem ZDD.s {s:Slc} {vs:List InK.Ty} {h:Heap} {K:ByteArray→Int→Heap→Prop} (g:Seg InK s vs h) (hl:vs.length≤9223372036854775807)
 (hK:∀h',Keep [] h h'→K (if itabMay (vs.map vIno)=true then bx (itabBytes (vs.map vIno)) else ⟨#[]⟩) (if itabMay (vs.map vIno)=true then 0 else 1400) h'):ZDD.C s h K:=by
 apply ZDD.c;unfold ZDD.m;have hlen:=g.len;refine ZDB.s g hl fun h1 k1 =>?_
 cases hm:itabMay (vs.map vIno) with
 | false =>
   rw[if_pos (by rfl)];rw[hm] at hK;exact hK _ k1
 | true =>
   rw[if_neg (by simp)];rw[hm] at hK;simp only [if_true] at hK;obtain ⟨hall,hl32⟩:=itab_ok hm;rw[YAR] at hl32;refine ZB4.s fun h2 k2 w2 =>?_;have q2:NW h h2 h1.size ⟨none,0,0⟩ []:=⟨k1.n k2,w2,k1.1,by simp[own]⟩;generalize h1.size=w at q2 ⊢;refine q2.num (x:=84) (n:=1) (.inl rfl) (by decide) (by simp) fun h3 s3 q3 k3 _ =>?_;rw[hlen];refine q3.num (x:=vs.length) (n:=1) (.inl rfl) (by omega) (by simp[be_len]) fun h4 s4 q4 k4 _ =>?_;refine lp_go (fun (y:Int×Unit) (h5:Heap)=>∃t s5,y.1=((t:Nat):Int)∧t≤vs.length∧NW h h5 w s5 (be 84 1++be vs.length 1++((vs.map vIno).take t).flatMap inoBytes)) (fun (y:Int×Unit) _=>vs.length-y.1.toNat) ?_ ?_
   ·exact ⟨0,s4,rfl,YAl _,by simpa using q4⟩
   ·rintro ⟨(i:Int),_⟩ h5 ⟨t,s5,e,ht,q5⟩;dsimp only at e ⊢;subst e;by_cases hlt:t<vs.length
    ·rw[if_pos (show decide ((t:Int)<(vs.length:Int))=true from dT (by omega))];have hw:w64 ((t:Int)+1)=((t+1:Nat):Int):=w6 (by omega);rw[hw];have hxo:=ino_ok (hall (vIno vs[t]) (List.mem_map_of_mem (YAN hlt)));have htk:(vs.map vIno).take (t+1)=(vs.map vIno).take t++[vIno vs[t]]:=by rw[YAc (by simpa using hlt),YAM]
     have hfl:(((vs.map vIno).take t).flatMap inoBytes).length≤1216:=by rw[itabFlat,YAT,YAR];omega
     refine seg_ix (g.keep (by decide) q5.k) (x:=vs[t]) (by omega) (by simp[hlt]) rfl ?_;refine new_st_gen fun b h6 hb k6 e6 hs6 =>?_;have e6:h6[b]? = some (vobj t_api_Inode InK vs[t]):=e6;have q6:=q5.keep k6 (by simp);have nb:b∉w::own s5:=q5.out (.inr ⟨by have:=lt_of_some q5.i.o;omega,fun hm=>by have:=q5.i.r.lt _ hm;omega⟩);obtain ⟨f0,f1,f2,f3,f4,f5⟩:=in_f (sm_all e6);refine ld_go f0 (ld_go f1 (ld_go f2 (ld_go f3 ?_)));have hib:inoBytes (vIno vs[t])=be (vIno vs[t]).num.toNat 1++be (vIno vs[t]).kind.toNat 1++be (vIno vs[t]).mode.toNat 1++be (vIno vs[t]).links.toNat 1++be (vIno vs[t]).size.toNat 2++(vIno vs[t]).root.toList:=rfl;generalize hB:be 84 1++be vs.length 1++((vs.map vIno).take t).flatMap inoBytes=B at q5 q6;have hBl:B.length≤1218:=by rw[←hB];simp only [YAO,be_len];omega
     have nsz:=lt_of_some e6;generalize hv:vs[t]=v at *;generalize hx:vIno v=x at *;refine lp_go (fun (y:Int×Unit) (h7:Heap)=>∃j s7,y.1=((j:Nat):Int)∧j≤4∧NW h h7 w s7 (B++([x.num,x.kind,x.mode,x.links].take j).flatMap fun z=>be z.toNat 1)∧h7[b]? = some (vobj t_api_Inode InK v)∧b∉w::own s7∧b<h7.size) (fun (y:Int×Unit) _=>4-y.1.toNat) ?_ ?_
     ·exact ⟨0,s5,rfl,by omega,by simpa using q6,e6,nb,nsz⟩
     ·rintro ⟨(j:Int),_⟩ h7 ⟨n,s7,e,hn,q7,e7,n7,b7⟩;dsimp only at e ⊢;subst e
      have fl:(([x.num,x.kind,x.mode,x.links].take n).flatMap fun z=>be z.toNat 1).length≤4:=by
       match n,hn with
       | 0,_ | 1,_ | 2,_ | 3,_ | 4,_=>simp[be_len]
      by_cases hn4:n<4
      ·rw[if_pos (show decide ((n:Int)<4)=true from dT (by omega))];refine ⟨(show (0:Int)≤(n:Int) by omega),(show (n:Int)<4 by omega),?_⟩;have hwn:w64 ((n:Int)+1)=((n+1:Nat):Int):=w6 (by omega);rw[hwn];have hv4:((((((Vector.replicate 4 (0:Int)).setIfInBounds 0 x.num).setIfInBounds 1 x.kind).setIfInBounds 2 x.mode).setIfInBounds 3 x.links).toList)=[x.num,x.kind,x.mode,x.links]:=rfl;rw[hv4]
       have hz:∃z,[x.num,x.kind,x.mode,x.links][n]? = some z∧0≤z∧z<256:=by
        match n,hn4 with
        | 0,_=>exact ⟨_,rfl,by omega,by omega⟩
        | 1,_=>exact ⟨_,rfl,by omega,by omega⟩
        | 2,_=>exact ⟨_,rfl,by omega,by omega⟩
        | 3,_=>exact ⟨_,rfl,by omega,by omega⟩
       obtain ⟨z,z1,z2,z3⟩:=hz
       have z4:[x.num,x.kind,x.mode,x.links].getD (n:Int).toNat 0=((z.toNat:Nat):Int):=by
        rw[YAd,List.getD_eq_getElem?_getD,z1];show z=_;omega
       rw[z4];refine q7.num (n:=1) (.inl rfl) (by omega) (by simp only [YAO];omega) fun h8 s8 q8 k8 o8 =>?_;refine ⟨⟨n+1,s8,rfl,by omega,?_,k8.get e7 n7,o8 b b7 n7,Nat.lt_of_lt_of_le b7 k8.1⟩,by simp;omega⟩
       have:[x.num,x.kind,x.mode,x.links].take (n+1)=[x.num,x.kind,x.mode,x.links].take n++[z]:=by
        rw[List.take_add_one,z1];rfl
       rw[this,YAH,←YAC];simpa using q8
      ·rw[if_neg (show ¬decide ((n:Int)<4)=true by simp;omega)];obtain rfl:n=4:=by omega
       obtain ⟨f0,f1,f2,f3,f4,f5⟩:=in_f (sm_all e7);rw[hx] at f4 f5;refine ld_go f4 ?_;have hsz:x.size=((x.size.toNat:Nat):Int):=by omega
       rw[hsz];refine q7.num (n:=2) (.inr (.inl rfl)) (by omega) (by simp only [YAO];omega) fun h8 s8 q8 k8 o8 =>?_;have e8:=k8.get e7 n7;have n8:=o8 b b7 n7;obtain ⟨_,_,_,_,_,f5⟩:=in_f (sm_all e8);rw[hx] at f5;refine ld_go f5 ?_;refine q8.hash (by simp only [YAO,be_len];omega) fun h9 s9 q9 k9 _ =>?_;refine ⟨⟨t+1,s9,rfl,by omega,?_⟩,by simp;omega⟩;rw[htk,YAH,←YAC,hB];simp only [YAI,YAJ,YAD];rw[hib];simpa[YAC] using q9
    ·rw[if_neg (show ¬decide ((t:Int)<(vs.length:Int))=true by simp;omega)];obtain rfl:t=vs.length:=by omega
     rw[YAb (by simp)] at q5;refine ZAV.s q5.i ?_;have:=hK _ q5.k;unfold itabBytes at this;rw[YAR] at this;exact this
structure Ett where
 user:Int
 seq:Int
 vec:List Int
 root:HVec
 tables:List HVec
 sign:By
def vecOk (x:Int):Bool:=decide (0≤x)&&decide (x≤256)
def vecMay (v:List Int):Bool:=v.all vecOk&&(decide (1≤v.length)&&decide (v.length≤16))
def ettMay (e:Ett):Bool:=decide (0≤e.user)&&(decide (e.user<16)&&(decide (1≤e.seq)&&(decide (e.seq≤256)&&(vecMay e.vec&&(decide (1≤e.tables.length)&&decide (e.tables.length≤24))))))
def bodyE (e:Ett):By:=[65,69]++be e.user.toNat 1++be e.seq.toNat 2++be e.vec.length 1++(e.vec.flatMap fun x=>be x.toNat 2)++e.root.toList++be e.tables.length 1++e.tables.flatMap fun z=>z.toList
def putMay (e:Ett):Bool:=ettMay e&&decide (e.sign.length≤8192)
def putE (e:Ett):By:=bodyE e++(be e.sign.length 2++e.sign)
def sayE (e:Ett):By:=(shaL (tagL 1 [bx (bodyE e)])).toList
def verE (e:Ett) (pub:By):Int:=if putMay e=true then (if hssV pub (sayE e) e.sign=0 then 0 else 1901) else 1900
abbrev EtK:Kd := .ag (.pr .i (.pr .i (.pr .sl (.pr (.ar 32 .u8) (.pr .sl (.pr .s .un))))))
structure EtAt (h:Heap) (v:EtK.Ty) (e:Ett):Prop where
 u:v.1=e.user
 q:v.2.1=e.seq
 w:Seg .i v.2.2.1 e.vec h
 r:v.2.2.2.1=e.root
 t:Seg (.ar 32 .u8) v.2.2.2.2.1 e.tables h
 s:v.2.2.2.2.2.1=bx e.sign
theorem EtAt.keep {h h':Heap} {v:EtK.Ty} {e:Ett} (a:EtAt h v e) (k:Keep [] h h'):EtAt h' v e:=⟨a.u,a.q,a.w.keep (by decide) k,a.r,a.t.keep (by decide) k,a.s⟩
theorem ZDF.s {s:Slc} {xs:List Int} {h:Heap} {K:Bool→Heap→Prop} (g:Seg .i s xs h) (hl:xs.length≤9223372036854775806) (hK:K (vecMay xs) h):ZDF.C s h K:=by
 apply ZDF.c;unfold ZDF.m;have gl:=g.len;refine lp_go (fun (y:Int×Unit) (h1:Heap)=>h1=h∧∃t:Nat,y.1=t∧t≤xs.length∧(xs.take t).all vecOk=true) (fun (y:Int×Unit) _=>xs.length-y.1.toNat) ?_ ?_
 ·exact ⟨rfl,0,rfl,YAl _,by simp⟩
 rintro ⟨(i:Int),_⟩ h1 ⟨rfl,t,e,ht,hall⟩;dsimp only at e ⊢;subst e;by_cases hlt:t<xs.length
 ·rw[if_pos (show decide ((t:Int)<(s.len:Int))=true from dT (by omega))];have hxe:xs.take (t+1)=xs.take t++[xs[t]]:=YAc hlt;refine jn_in (fun _ h'=>h'=h1∧vecOk xs[t]=true) ?_ ?_
  ·refine seg_ix g (x:=xs[t]) (by omega) (by simp[hlt]) rfl ?_;refine jn_at (!vecOk xs[t],()) h1 ?_ ?_
   ·unfold vecOk;by_cases h0:xs[t]<0
    ·rw[if_pos (dT h0)];exact ⟨by rw[dF (show ¬0≤xs[t] by omega)];rfl,rfl⟩
    ·rw[if_neg (by simpa using h0),dT (show 0≤xs[t] by omega)];refine ⟨?_,rfl⟩;by_cases h2:xs[t]>256
     ·rw[dT h2,dF (show ¬xs[t]≤256 by omega)];rfl
     ·rw[dF h2,dT (show xs[t]≤256 by omega)];rfl
   ·by_cases hv:vecOk xs[t]=true
    ·rw[hv,if_neg (by simp)];exact ⟨rfl,rfl⟩
    ·replace hv:vecOk xs[t]=false:=by simpa using hv
     rw[hv,if_pos (by rfl)]
     have:vecMay xs=false:=by
      unfold vecMay
      have:xs.all vecOk=false:=by
       rw[YAA];exact ⟨xs[t],YAN _,by rw[hv];simp⟩
      rw[this];rfl
     rw[this] at hK;exact hK
  ·rintro _ h2 ⟨rfl,hv⟩;have hw:w64 ((t:Int)+1)=((t+1:Nat):Int):=w6 (by omega);rw[hw];exact ⟨⟨rfl,t+1,rfl,by omega,by rw[hxe,List.all_append,hall];simp[hv]⟩,by simp;omega⟩
 ·rw[if_neg (show ¬decide ((t:Int)<(s.len:Int))=true from dn (by omega))];have:t=xs.length:=by omega
  rw[this,YAb (YAg _)] at hall;refine jn_at (vecMay xs,()) h1 ?_ hK;unfold vecMay;rw[hall,gl];by_cases h1':1≤xs.length
  ·rw[if_pos (show decide ((xs.length:Int)≥1)=true from dT (by omega)),dT h1'];refine ⟨?_,rfl⟩;have:decide ((xs.length:Int)≤16)=decide (xs.length≤16):=decide_eq_decide.2 (by omega);rw[this];rfl
  ·rw[if_neg (show ¬decide ((xs.length:Int)≥1)=true from dn (by omega)),dF h1'];exact ⟨rfl,rfl⟩
theorem et_f {h:Heap} {b:Nat} {v:EtK.Ty} (e:h[b]? = some (vobj t_api_Entry EtK v)):sm .i ((Pl.mk b 0).fld 0) v.1 h∧sm .i ((Pl.mk b 0).fld 1) v.2.1 h∧sm .sl ((Pl.mk b 0).fld 2) v.2.2.1 h∧sm (.ar 32 .u8) ((Pl.mk b 0).fld 3) v.2.2.2.1 h∧sm .sl ((Pl.mk b 0).fld 35) v.2.2.2.2.1 h∧sm .s ((Pl.mk b 0).fld 36) v.2.2.2.2.2.1 h:=by
 have c3:(EtK.cells v).drop 3=(Kd.ar 32 .u8).cells v.2.2.2.1++(Kd.sl.cells v.2.2.2.2.1++(Kd.s.cells v.2.2.2.2.2.1++[])):=rfl;have l3:((Kd.ar 32 .u8).cells v.2.2.2.1).length=32:=Kd.cells_length ..
 have c35:(EtK.cells v).drop 35=Kd.sl.cells v.2.2.2.2.1++(Kd.s.cells v.2.2.2.2.2.1++[]):=by
  have:(EtK.cells v).drop 35=((EtK.cells v).drop 3).drop 32:=by rw[YAE]
  rw[this,c3,YAG l3]
 refine ⟨sm_fld (n:=0) (k' := .i) e rfl (by decide),sm_fld (n:=1) (k' := .i) e rfl (by decide),sm_fld (n:=2) (k' := .sl) e rfl (by decide),sm_sub (sm_all e) (by decide) ?_,sm_sub (sm_all e) (by decide) ?_,sm_sub (sm_all e) (by decide) ?_⟩
 ·rw[c3];exact YAa l3
 ·rw[c35];rfl
 ·have:(EtK.cells v).drop 36=((EtK.cells v).drop 35).drop 1:=by rw[YAE]
  rw[this,c35];rfl
theorem ZCz.s {b:Nat} {v:EtK.Ty} {e:Ett} {h:Heap} {K:Bool→Heap→Prop} (eb:h[b]? = some (vobj t_api_Entry EtK v)) (a:EtAt h v e) (hl:e.vec.length≤9223372036854775806) (hK:K (ettMay e) h):ZCz.C (some ⟨b,0⟩) h K:=by
 apply ZCz.c;unfold ZCz.m;obtain ⟨f0,f1,f2,f3,f4,f5⟩:=et_f eb;refine jn_at (ettMay e,()) h ?_ hK;unfold ettMay;refine nck_go (ld_go f0 ?_);rw[a.u];rcases Decidable.em (¬(0≤e.user)) with c1 | c1
 ·rw[if_neg (show ¬decide (e.user≥0)=true from fun h=>c1 (of_decide_eq_true h)),dF c1];exact ⟨rfl,rfl⟩
 replace c1:=Decidable.not_not.1 c1;rw[if_pos (show decide (e.user≥0)=true from dT c1),dT c1,YAn];refine nck_go (ld_go f0 ?_);rw[a.u];rcases Decidable.em (¬(e.user<16)) with c2 | c2
 ·rw[if_neg (show ¬decide (e.user<16)=true from fun h=>c2 (of_decide_eq_true h)),dF c2];exact ⟨rfl,rfl⟩
 replace c2:=Decidable.not_not.1 c2;rw[if_pos (show decide (e.user<16)=true from dT c2),dT c2,YAn];refine nck_go (ld_go f1 ?_);rw[a.q];rcases Decidable.em (¬(1≤e.seq)) with c3 | c3
 ·rw[if_neg (show ¬decide (e.seq≥1)=true from fun h=>c3 (of_decide_eq_true h)),dF c3];exact ⟨rfl,rfl⟩
 replace c3:=Decidable.not_not.1 c3;rw[if_pos (show decide (e.seq≥1)=true from dT c3),dT c3,YAn];refine nck_go (ld_go f1 ?_);rw[a.q];rcases Decidable.em (¬(e.seq≤256)) with c4 | c4
 ·rw[if_neg (show ¬decide (e.seq≤256)=true from fun h=>c4 (of_decide_eq_true h)),dF c4];exact ⟨rfl,rfl⟩
 replace c4:=Decidable.not_not.1 c4;rw[if_pos (show decide (e.seq≤256)=true from dT c4),dT c4,YAn];refine nck_go (ld_go f2 ?_);refine ZDF.s a.w hl ?_;rcases Decidable.em (¬(vecMay e.vec=true)) with c5 | c5
 ·rw[if_neg c5];replace c5:vecMay e.vec=false:=by simpa using c5
  rw[c5];exact ⟨rfl,rfl⟩
 replace c5:=Decidable.not_not.1 c5;rw[if_pos c5,c5,YAn];refine nck_go (ld_go f4 ?_);have tl:(v.2.2.2.2.1).len=e.tables.length:=a.t.len;rw[tl];rcases Decidable.em (¬(1≤e.tables.length)) with c6 | c6
 ·rw[if_neg (show ¬decide ((e.tables.length:Int)≥1)=true from dn (by omega)),dF c6];exact ⟨rfl,rfl⟩
 replace c6:=Decidable.not_not.1 c6;rw[if_pos (show decide ((e.tables.length:Int)≥1)=true from dT (by omega)),dT c6,YAn];refine nck_go (ld_go f4 ?_);rw[tl];have:decide ((e.tables.length:Int)≤24)=decide (e.tables.length≤24):=decide_eq_decide.2 (by omega);rw[this];exact ⟨rfl,rfl⟩
structure BW (T:Nat) (h0 h:Heap) (w b:Nat) (s:Slc) (bs:By):Prop where
 q:NW h0 h w s bs
 e:h[b]? = some (vobj T .p (some ⟨w,0⟩))
 n:b∉w::own s
theorem BW.num {T w b x n:Nat} {h0 h:Heap} {s:Slc} {bs:By} {K:Int→Heap→Prop} (i:BW T h0 h w b s bs) (hn:n=1∨n=2∨n=4) (hx:x<256^n) (hb:bs.length+n≤65536)
 (hK:∀h' s',BW T h0 h' w b s' (bs++be x n)→K 0 h'):ZAA.C (some ⟨w,0⟩) (x:Int) (n:Int) h K:=
 i.q.num hn hx hb fun h' s' q' k' o'=>hK h' s' ⟨q',k'.get i.e i.n,o' b (lt_of_some i.e) i.n⟩
theorem BW.hash {T w b:Nat} {h0 h:Heap} {s:Slc} {bs:By} {z:HVec} {K:Int→Heap→Prop} (i:BW T h0 h w b s bs) (hb:bs.length+32≤65536)
 (hK:∀h' s',BW T h0 h' w b s' (bs++z.toList)→K 0 h'):ZAC.C (some ⟨w,0⟩) z h K:=
 i.q.hash hb fun h' s' q' k' o'=>hK h' s' ⟨q',k'.get i.e i.n,o' b (lt_of_some i.e) i.n⟩
theorem BW.keep {T w b:Nat} {h0 h h':Heap} {s:Slc} {bs:By} {S:List Nat} (i:BW T h0 h w b s bs) (k:Keep S h h') (hs:∀x∈S,h.size≤x):BW T h0 h' w b s bs:=
 ⟨i.q.keep k hs,k.get i.e (fun hm=>by have:=hs b hm;have:=lt_of_some i.e;omega),i.n⟩
theorem fl_len {α : Type} {f : α → By} {c:Nat} (hf:∀x,(f x).length=c) (l:List α):(l.flatMap f).length=c*l.length:=by
 induction l with
 | nil=>simp
 | cons a r ih=>rw[YAI,YAO,ih,hf,YAP,Nat.mul_add];omega
theorem each_num.s {T w b:Nat} {h0 h:Heap} {s sl:Slc} {bs:By} {xs:List Int} {K:Int→Heap→Prop} (i:BW T h0 h w b s bs) (g:Seg .i sl xs h0) (ok:xs.all vecOk=true) (hl:xs.length≤16) (hb:bs.length≤1000)
 (hK:∀h' s',BW T h0 h' w b s' (bs++xs.flatMap fun x=>be x.toNat 2)→K 0 h'):ZCe.C sl (.func (.func ZBq.n) #[] #[Kd.p.val (some (Pl.mk b 0))]) h K:=by
 apply ZCe.c;unfold ZCe.m;have gl:=g.len;refine lp_go (fun (y:Int×Unit) (h1:Heap)=>∃(t:Nat) (s1:Slc),y.1=t∧t≤xs.length∧BW T h0 h1 w b s1 (bs++(xs.take t).flatMap fun x=>be x.toNat 2)) (fun (y:Int×Unit) _=>xs.length-y.1.toNat) ?_ ?_
 ·exact ⟨0,s,rfl,YAl _,by simpa using i⟩
 rintro ⟨(jj:Int),_⟩ h1 ⟨t,s1,e,ht,i1⟩;dsimp only at e ⊢;subst e;by_cases hlt:t<xs.length
 ·rw[if_pos (show decide ((t:Int)<(sl.len:Int))=true from dT (by omega))];refine seg_ix (g.keep (by decide) i1.q.k) (x:=xs[t]) (by omega) (by simp[hlt]) rfl ?_;refine callV_go (aa:=[Kd.i.val xs[t],Kd.p.val (some (Pl.mk b 0))]) (by rfl) ?_;show ZBq.C xs[t] ⟨b,0⟩ h1 _;apply ZBq.c;unfold ZBq.m;refine ld_go (sm_all i1.e) ?_;have hx:vecOk xs[t]=true:=List.all_eq_true.1 ok _ (YAN hlt);unfold vecOk at hx;simp only [YAm,decide_eq_true_eq] at hx;have hxn:xs[t]=((xs[t].toNat:Nat):Int):=by omega
  have hlen:(bs++(xs.take t).flatMap fun x=>be x.toNat 2).length≤1032:=by
   rw[YAO,fl_len (c:=2) (fun _=>be_len),YAT];omega
  have hxe:xs.take (t+1)=xs.take t++[xs[t]]:=YAc hlt;rw[hxn];refine i1.num (n:=2) (by decide) (by omega) (by omega) fun h2 s2 i2 =>?_;dsimp only;rw[if_neg (by decide)];have hw:w64 ((t:Int)+1)=((t+1:Nat):Int):=w6 (by omega);rw[hw];refine ⟨⟨t+1,s2,rfl,by omega,?_⟩,by simp;omega⟩;rw[hxe,YAH,←YAC];simpa using i2
 ·rw[if_neg (show ¬decide ((t:Int)<(sl.len:Int))=true from dn (by omega))];have:t=xs.length:=by omega
  rw[this,YAb (YAg _)] at i1;exact hK h1 s1 i1
theorem each_hash.s {T w b:Nat} {h0 h:Heap} {s sl:Slc} {bs:By} {xs:List HVec} {K:Int→Heap→Prop} (i:BW T h0 h w b s bs) (g:Seg (.ar 32 .u8) sl xs h0) (hl:xs.length≤24) (hb:bs.length≤1000)
 (hK:∀h' s',BW T h0 h' w b s' (bs++xs.flatMap fun z=>z.toList)→K 0 h'):ZAe.C sl (.func (.func ZAC.n) #[Kd.p.val (some (Pl.mk w 0))] #[]) h K:=by
 apply ZAe.c;unfold ZAe.m;have gl:=g.len;refine lp_go (fun (y:Int×Unit) (h1:Heap)=>∃(t:Nat) (s1:Slc),y.1=t∧t≤xs.length∧BW T h0 h1 w b s1 (bs++(xs.take t).flatMap fun z=>z.toList)) (fun (y:Int×Unit) _=>xs.length-y.1.toNat) ?_ ?_
 ·exact ⟨0,s,rfl,YAl _,by simpa using i⟩
 rintro ⟨(jj:Int),_⟩ h1 ⟨t,s1,e,ht,i1⟩;dsimp only at e ⊢;subst e;by_cases hlt:t<xs.length
 ·rw[if_pos (show decide ((t:Int)<(sl.len:Int))=true from dT (by omega))];refine seg_ix (g.keep (by decide) i1.q.k) (x:=xs[t]) (by omega) (by simp[hlt]) rfl ?_;refine new_st_gen fun b2 h2 hb2 k2 e2 hs2 =>?_;refine ld_go (sm_all e2) ?_;refine callV_go (aa:=[Kd.p.val (some (Pl.mk w 0)),(Kd.ar 32 .u8).val xs[t]]) (by rfl) ?_;show ZAC.C (some ⟨w,0⟩) xs[t] h2 _
  have hlen:(bs++(xs.take t).flatMap fun z=>z.toList).length≤1768:=by
   rw[YAO,fl_len (c:=32) (fun z=>by simp),YAT];omega
  have hxe:xs.take (t+1)=xs.take t++[xs[t]]:=YAc hlt;refine (i1.keep k2 (by simp)).hash (by omega) fun h3 s3 i3 =>?_;rw[if_neg (by decide)];have hw:w64 ((t:Int)+1)=((t+1:Nat):Int):=w6 (by omega);rw[hw];refine ⟨⟨t+1,s3,rfl,by omega,?_⟩,by simp;omega⟩;rw[hxe,YAH,←YAC];simpa using i3
 ·rw[if_neg (show ¬decide ((t:Int)<(sl.len:Int))=true from dn (by omega))];have:t=xs.length:=by omega
  rw[this,YAb (YAg _)] at i1;exact hK h1 s1 i1
theorem vecs_len {xs:List Int}:(xs.flatMap fun x=>be x.toNat 2).length=2*xs.length:=fl_len (c:=2) (fun _=>be_len) xs
theorem bodyE_len {e:Ett} (hm:ettMay e=true):(bodyE e).length≤1000:=by
 unfold ettMay vecMay at hm;simp only [YAm,decide_eq_true_eq] at hm;unfold bodyE;simp only [YAO,be_len,fl_len (c:=2) (fun _=>be_len),fl_len (f:=fun z:HVec=>z.toList) (c:=32) (fun z=>YAo ..),YAP,YAS,YAo];omega
theorem ZCi.s {b:Nat} {v:EtK.Ty} {e:Ett} {h:Heap} {K:Option Pl→Heap→Prop} (eb:h[b]? = some (vobj t_api_Entry EtK v)) (a:EtAt h v e) (hm:ettMay e=true) (hK:∀h' w s,NW h h' w s (bodyE e)→K (some ⟨w,0⟩) h'):ZCi.C (some ⟨b,0⟩) h K:=by
 apply ZCi.c;unfold ZCi.m;have hbl:=bodyE_len hm;have hm':=hm;unfold ettMay at hm';simp only [YAm,decide_eq_true_eq] at hm';obtain ⟨c1,c2,c3,c4,c5,c6,c7⟩:=hm';unfold vecMay at c5;simp only [YAm,decide_eq_true_eq] at c5;obtain ⟨c5,c8,c9⟩:=c5;refine ZB4.s fun h1 k1 i1 =>?_;have q1:NW h h1 h.size ⟨none,0,0⟩ []:=⟨k1,i1,YAg _,by simp[own]⟩;refine new_st_gen fun b2 h3 hb k3 e3 hs3 =>?_;have lt:=lt_of_some i1.o;refine lp_go (fun (y:Int×Unit) (h4:Heap)=>∃(t:Nat) (s:Slc),y.1=t∧t≤2∧BW t_p_wire_Writer h h4 h.size b2 s ([65,69].take t)) (fun (y:Int×Unit) _=>2-y.1.toNat) ?_ ?_
 ·exact ⟨0,_,rfl,by decide,⟨q1.keep k3 (by simp),e3,by simp[own];omega⟩⟩
 rintro ⟨(jj:Int),_⟩ h4 ⟨t,s4,et,ht,i4⟩;dsimp only at et ⊢;subst et;by_cases hlt:t<2
 ·rw[if_pos (show decide ((t:Int)<2)=true from dT (by omega))];refine ld_go (sm_all i4.e) ?_;refine ixs_bx (l:=[65,69]) (i:=t) (by simpa using hlt) ?_;have hxe:[65,69].take (t+1)=[65,69].take t++[([65,69]:By)[t]]:=YAc (by simpa using hlt);generalize ([65,69]:By)[t]=ch at *;have hch:=ch.toNat_lt;have hb1:be ch.toNat 1=[ch]:=by simp[be]
  refine i4.num (n:=1) (by decide) (by omega) (by rw[YAT];omega) fun h5 s5 i5 =>?_;rw[hb1,←hxe] at i5;have hw:w64 ((t:Int)+1)=((t+1:Nat):Int):=w6 (by omega);rw[hw];exact ⟨⟨t+1,s5,rfl,by omega,i5⟩,by simp;omega⟩
 rw[if_neg (show ¬decide ((t:Int)<2)=true from dn (by omega))];obtain rfl:t=2:=by omega
 have ff:∀ {hh s bs},BW t_p_wire_Writer h hh h.size b2 s bs→_:=fun i=>et_f (i.q.k.g eb);have wl:v.2.2.1.len=e.vec.length:=a.w.len;have tl:v.2.2.2.2.1.len=e.tables.length:=a.t.len;have hu:v.1=((e.user.toNat:Nat):Int):=a.u.trans (YAe c1).symm;have hq:v.2.1=((e.seq.toNat:Nat):Int):=a.q.trans (YAe (by omega)).symm;refine ld_go (sm_all i4.e) (nck_go (ld_go (ff i4).1 ?_));rw[hu];refine i4.num (n:=1) (by decide) (by omega) (by simp) fun h5 s5 i5 =>?_;refine ld_go (sm_all i5.e) (nck_go (ld_go (ff i5).2.1 ?_));rw[hq];refine i5.num (n:=2) (by decide) (by omega) (by simp[be_len]) fun h6 s6 i6 =>?_;refine ld_go (sm_all i6.e) (nck_go (ld_go (ff i6).2.2.1 ?_));rw[wl];refine i6.num (n:=1) (by decide) (by omega) (by simp[be_len]) fun h7 s7 i7 =>?_;refine nck_go (ld_go (ff i7).2.2.1 ?_);refine each_num.s i7 a.w c5 (by omega) (by simp[be_len]) fun h8 s8 i8 =>?_;refine ld_go (sm_all i8.e) (nck_go (ld_go (ff i8).2.2.2.1 ?_));rw[a.r];refine i8.hash (by simp only [YAO,be_len,vecs_len,YAT,YAP,YAS];omega) fun h9 s9 i9 =>?_;refine ld_go (sm_all i9.e) (nck_go (ld_go (ff i9).2.2.2.2.1 ?_));rw[tl];refine i9.num (n:=1) (by decide) (by omega) (by simp only [YAO,be_len,vecs_len,YAT,YAP,YAS,YAo];omega) fun h10 s10 i10 =>?_;refine nck_go (ld_go (ff i10).2.2.2.2.1 (ld_go (sm_all i10.e) ?_));refine each_hash.s i10 a.t c7 (by simp only [YAO,be_len,vecs_len,YAT,YAP,YAS,YAo];omega) fun h11 s11 i11 =>?_;exact ld_go (sm_all i11.e) (hK h11 h.size s11 i11.q)
theorem ZCc.s {v:EtK.Ty} {e:Ett} {h:Heap} {K:ByteArray→Int→Heap→Prop} (a:EtAt h v e) (hl:e.vec.length≤9223372036854775806) (hK:∀h',Keep [] h h'→K (if putMay e=true then bx (putE e) else ⟨#[]⟩) (if putMay e=true then 0 else 1900) h'):ZCc.C v h K:=by
 apply ZCc.c;unfold ZCc.m;refine new_gen fun b1 h1 hb1 k1 e1 hs1 =>?_;have e1:h1[b1]? = some (vobj t_api_Entry EtK v):=e1;have a1:=a.keep k1;obtain ⟨f0,f1,f2,f3,f4,f5⟩:=et_f e1;refine jn_at (!putMay e,()) h1 ?_ ?_
 ·refine ZCz.s e1 a1 hl ?_;unfold putMay
  cases hm:ettMay e with
  | false=>rw[if_pos (by rfl)];exact ⟨rfl,rfl⟩
  | true =>
    rw[if_neg (by simp)];refine ld_go f5 ?_;rw[a.s];refine ⟨?_,rfl⟩
    have:decide (((bx e.sign).size:Int)>8192) = !decide (e.sign.length≤8192):=by
     rw[bx_size];by_cases hc:e.sign.length≤8192
     ·rw[dT hc,dF (by omega)];rfl
     ·rw[dF hc,dT (by omega)];rfl
    rw[this];rfl
 cases hp:putMay e with
 | false =>
   rw[if_pos (by rfl)];rw[hp] at hK;exact hK h1 k1
 | true =>
   rw[if_neg (by simp)];rw[hp,if_pos rfl,if_pos rfl] at hK;unfold putMay at hp;simp only [YAm,decide_eq_true_eq] at hp;have hbl:=bodyE_len hp.1;refine ZCi.s e1 a1 hp.1 fun h2 w s q =>?_;refine ld_go (et_f (q.k.g e1)).2.2.2.2.2 ?_;rw[a.s];refine q.text (n:=2) (by decide) (by rw[bx_size];omega) (by rw[bx_size];omega) fun h3 s3 q3 k3 o3 =>?_;rw[bx_size,bx_dl] at q3;refine ZAV.s q3.i ?_;exact hK h3 (k1.n q3.k)
theorem findG_at {α : Type} {p : α → Bool}:∀ {xs:List α} {t:Nat},(ht:t<xs.length)→(∀j,(hj:j<xs.length)→j<t→p xs[j]=false)→p xs[t]=true→xs.find? p=some xs[t]
 | x :: r, 0, _, _, hp => by
   have hp:p x=true:=hp;simp[hp]
 | x :: r, t + 1, ht, h, hp => by
   have h0:p x=false:=h 0 (by simp) (by omega);have:=findG_at (xs:=r) (t:=t) (by simpa using ht) (fun j hj hlt=>by have:=h (j+1) (by simpa using hj) (by omega);simpa using this) (by simpa using hp);simp only [List.find?_cons,h0];rw[this];rfl
theorem findG_no {α : Type} {p : α → Bool} {xs:List α} (h:∀j,(hj:j<xs.length)→p xs[j]=false):xs.find? p=none:=by
 rw[List.find?_eq_none];intro x hx;obtain ⟨j,hj,rfl⟩:=List.mem_iff_getElem.1 hx;simp[h j hj]
theorem place_find {h:Heap} {vs:List NdV} {t:Tab} {k:Int} {i:Nat} (a:All2 (NdAt h) vs t) (hr:risesV vs=true) (lo:∀j,(hj:j<vs.length)→j<i→vNum vs[j]<k) (hi:∀j,(hj:j<vs.length)→i≤j→¬vNum vs[j]<k) :
 (foundV vs k i=true→∃(h1:i<vs.length) (h2:i<t.length),t.find? (fun x=>decide (x.num=k))=some t[i])∧(foundV vs k i=false→t.find? (fun x=>decide (x.num=k))=none):=by
 have hl:=a.len;have hn:∀j,(h1:j<vs.length)→(h2:j<t.length)→vNum vs[j]=t[j].num:=fun j h1 h2=>(a.getI h1 h2).n
 constructor
 ·intro hf;unfold foundV at hf;by_cases hiv:i<vs.length
  ·rw[YAK hiv] at hf;have hf:vNum vs[i]=k:=by simpa using hf
   have hit:i<t.length:=by omega
   refine ⟨hiv,hit,findG_at hit (fun j hj hlt =>?_) ?_⟩
   ·have:=lo j (by omega) hlt;rw[hn j (by omega) hj] at this;simp;omega
   ·rw[hn i hiv hit] at hf;simp[hf]
  ·rw[YAL (by omega)] at hf;simp at hf
 ·intro hf;refine findG_no fun j hj =>?_;have hjv:j<vs.length:=by omega
  cases hd:decide (t[j].num=k) with
  | false=>rfl
  | true =>
    have e:vNum vs[j]=k:=by rw[hn j hjv hj];exact of_decide_eq_true hd
    exfalso
    by_cases hji:j<i
    ·have:=lo j hjv hji;omega
    ·have hiv:i<vs.length:=by omega
     have h1:=hi i hiv (YAg _)
     have h2:vNum vs[i]=k:=by
      by_cases hij:i=j
      ·subst hij;exact e
      ·have:=risesV_lt hr (i:=i) (j:=j) (by omega) hjv;omega
     unfold foundV at hf;rw[YAK hiv] at hf;simp[h2] at hf
theorem tabOf_at {X:Fs} {o:Nat} (h:o<X.length):tabOf X (o:Int)=X[o]:=by
 unfold tabOf;rw[if_pos (by omega),YAd,getD_at h]
theorem ZCk.s {l:Pl} {t0:Slc} {ss:List Slc} {vv:List (List NdV)} {X:Fs} {r:Rf} {h:Heap} {K:Option Pl→Heap→Prop} (w:StW h t0 ss vv X) (hs:sm .sl (l.fld 0) t0 h) (hr:∀t∈X,risesN t=true∧t.length≤2305843009213693952)
 (hn:findN X r=none→∀h',Keep [] h h'→K none h')
 (hy:∀(o i:Nat) (h1:o<ss.length) (h2:o<vv.length) (h3:o<X.length) (h4:i<vv[o].length) (h5:i<X[o].length) (lb:Pl),r.1=o→ss[o].a=some lb→NdAt h vv[o][i] X[o][i]→sm NdK ⟨lb.b,lb.o+i*6⟩ vv[o][i] h→findN X r=some X[o][i]→X[o][i].num=r.2.1→∀h',Keep [] h h'→K (some ⟨lb.b,lb.o+i*6⟩) h'):ZCk.C (some l) r h K:=by
 apply ZCk.c;unfold ZCk.m;obtain ⟨(ow:Int),(nu:Int),⟨⟩⟩:=r;dsimp only at hy;refine new_gen fun b h1 hb k1 e1 hs1 =>?_;have e1:h1[b]? = some (vobj t_api_Ref RF (ow,(nu,()))):=e1;have tl:=w.t.len;have rl:=w.r.len;have nl:=w.n.len;have s0:∀ {h'},Keep [] h1 h'→sm .i ((Pl.mk b 0).fld 0) ow h':=fun k=>sm_sub (sm_all (k.g e1)) (by decide) rfl;have s1:∀ {h'},Keep [] h1 h'→sm .i ((Pl.mk b 0).fld 1) nu h':=fun k=>sm_sub (sm_all (k.g e1)) (by decide) rfl;have hs2:∀ {h'},Keep [] h1 h'→sm .sl (l.fld 0) t0 h':=fun k=>sm_keep' hs (k1.n k) (by simp);by_cases hc:0≤ow∧ow<X.length
 case neg=>
  refine jn_at (true,()) h1 ?_ ?_
  ·refine ld_go (s0 Keep.rfl) ?_;by_cases c1:ow<0
   ·rw[if_pos (by simpa using c1)];exact ⟨by first | rfl | trivial,by first | rfl | trivial⟩
   rw[if_neg (by simpa using c1)];refine ld_go (s0 Keep.rfl) (nck_go (ld_go (hs2 Keep.rfl) ?_));rw[show decide (ow≥(t0.len:Int))=true from dT (by omega)];exact ⟨by first | rfl | trivial,by first | rfl | trivial⟩
  ·rw[if_pos (by rfl)];refine hn ?_ h1 k1;unfold findN tabOf;rw[if_neg hc];rfl
 obtain ⟨o,ho⟩:∃t:Nat,ow=t:=⟨ow.toNat,by omega⟩;have hoX:o<X.length:=by omega
 have hov:o<vv.length:=by omega
 have hos:o<ss.length:=by omega
 refine jn_at (false,()) h1 ?_ ?_
 ·refine ld_go (s0 Keep.rfl) ?_;rw[if_neg (by simp;omega)];refine ld_go (s0 Keep.rfl) (nck_go (ld_go (hs2 Keep.rfl) ?_));exact ⟨by simp;omega,by first | rfl | trivial⟩
 rw[if_neg (by simp)];refine nck_go (ld_go (hs2 Keep.rfl) (ld_go (s0 Keep.rfl) ?_));rw[ho];have w1:=w.keep k1;refine seg_ix w1.t (x:=ss[o]) (by omega) (by simp[hos]) rfl ?_;refine ld_go (s1 Keep.rfl) ?_;have gs:=w.r.getI hos hov;have gn:=w.n.getI hov hoX;have hrN:=hr _ (YAN hoX);have hvl:=gn.len;refine dir_PlaceN.s (gs.keep (by decide) k1) (by omega) fun i h3 k3 hile hb2 =>?_;have hrv:risesV vv[o]=true:=by rw[risesV_eq gn];exact hrN.1
 obtain ⟨lo,hi⟩:=hb2 hrv;obtain ⟨pf1,pf2⟩:=place_find gn hrv lo hi;have hfN:findN X (ow,(nu,()))=X[o].find? fun x=>decide (x.num=nu):=by unfold findN;rw[ho,tabOf_at hoX]
 have k13:Keep [] h h3:=k1.n k3
 cases hf:foundV vv[o] nu i with
 | false =>
   rw[if_pos (by rfl)];exact hn (by rw[hfN];exact pf2 hf) h3 k13
 | true =>
   rw[if_neg (by simp)];obtain ⟨hi1,hi2,hfi⟩:=pf1 hf;refine nck_go (ld_go (hs2 k3) (ld_go (s0 k3) ?_));rw[ho];refine seg_ix (w1.t.keep (by decide) k3) (x:=ss[o]) (by omega) (by simp[hos]) rfl ?_;obtain ⟨lb,hlb,hsm⟩:=gs.el i vv[o][i] (by simp[hi1]);have hsl:=gs.len;refine ⟨lb,hlb,by omega,by omega,?_⟩;rw[YAd]
   have hnum:X[o][i].num=nu:=by
    have:=List.find?_some hfi;simpa using this
   exact hy o i hos hov hoX hi1 hi2 lb ho hlb (gn.getI hi1 hi2) hsm (by rw[hfN];exact hfi) hnum h3 k13
theorem ZCl.s {h:Heap} {K:Rf→Heap→Prop} (hK:∀h',Keep [] h h'→K rootR h'):ZCl.C h K:=by
 apply ZCl.c;unfold ZCl.m;refine new_gen fun b h1 hb k1 e1 hs1 =>?_;have e1:h1[b]? = some (vobj t_api_Ref RF (rf 0 0)):=e1;refine st_ld (y:=rootR) e1 fun h2 k2 e2 hs2 =>?_;exact hK h2 (k1.new k2 (by simp;omega))
theorem risesN_iff:∀xs:Tab,risesN xs=true↔∀j,(h:j+1<xs.length)→xs[j].num<xs[j+1].num
 | []=>by simp[risesN]
 | [x]=>by simp[risesN]
 | x :: y :: r => by
   unfold risesN;rw[YAm,decide_eq_true_eq,risesN_iff (y::r)]
   constructor
   ·rintro ⟨h1,h2⟩ j hj
    cases j with
    | zero=>exact h1
    | succ j=>exact h2 j (by simpa using hj)
   ·intro h;exact ⟨h 0 (by simp),fun j hj=>h (j+1) (by simpa using hj)⟩
theorem nd_ok {x:Nd} (h:ndMay x=true):1≤x.num∧x.num≤32∧(x.kind=0∨x.kind=1)∧(x.mode=0∨x.mode=1)∧1≤x.links∧x.links≤32∧(x.kind=1→x.data=⟨#[]⟩∧dirMay x.ents=true)∧(x.kind≠1→x.data.size≤4096∧x.ents=[]):=by
 unfold ndMay ndNum ndN at h;simp only [YAm,decide_eq_true_eq,Bool.or_eq_true] at h;obtain ⟨⟨⟨⟨⟨⟨h1,h2⟩,h3⟩,h4⟩,h5⟩,h6⟩,h7⟩:=h;refine ⟨h1,h2,h3,h4,h5,h6,fun hk =>?_,fun hk =>?_⟩
 ·rw[if_pos hk] at h7;simpa using h7
 ·rw[if_neg hk] at h7;simpa using h7
theorem nd_small {x:Nd} (h:ndMay x=true):x.data.size≤4096∧x.ents.length≤32∧dirMay x.ents=true:=by
 obtain ⟨_,_,_,_,_,_,h1,h2⟩:=nd_ok h;by_cases hk:x.kind=1
 ·obtain ⟨a,b⟩:=h1 hk;refine ⟨by rw[a];decide,(dir_ok b).1,b⟩
 ·obtain ⟨a,b⟩:=h2 hk;exact ⟨a,by rw[b];simp,by rw[b];rfl⟩
theorem tab_ok {t:Tab} (h:tabMay t=true):risesN t=true∧(∀x∈t,ndMay x=true)∧t.length≤32:=by
 unfold tabMay at h;simp only [YAm,YAB] at h;refine ⟨h.1,h.2,?_⟩
 have hg:∀j,(hj:j<t.length)→(j:Int)+1≤t[j].num:=by
  intro j
  induction j with
  | zero=>intro hj;have:=(nd_ok (h.2 _ (YAN hj))).1;omega
  | succ j ih =>
    intro hj;have h1:=ih (by omega);have h2:=(risesN_iff t).1 h.1 j hj;omega
 by_cases h0:t.length=0
 ·omega
 ·have h1:=hg (t.length-1) (by omega);have h2:=(nd_ok (h.2 _ (YAN (show t.length-1<t.length by omega)))).2.1;omega
theorem st_ok {X:Fs} (h:stMay X=true):1≤X.length∧X.length≤24∧(∀t∈X,tabMay t=true)∧∃x,findN X rootR=some x∧x.kind=1:=by
 unfold stMay at h;simp only [YAm,decide_eq_true_eq,YAB] at h;obtain ⟨⟨⟨h1,h2⟩,h3⟩,h4⟩:=h;refine ⟨h1,h2,h3,?_⟩
 cases hf:findN X rootR with
 | none=>rw[hf] at h4;simp at h4
 | some x=>rw[hf] at h4;exact ⟨x,rfl,by simpa using h4⟩
theorem ZC1.s {t0:Slc} {ss:List Slc} {vv:List (List NdV)} {X:Fs} {h:Heap} {K:Bool→Heap→Prop} (w:StW h t0 ss vv X) (hl:∀t∈X,t.length≤9223372036854775807) (hK:∀h',Keep [] h h'→K (stMay X) h'):ZC1.C (t0,()) h K:=by
 apply ZC1.c;unfold ZC1.m;refine new_gen fun b h1 hb k1 e1 hs1 =>?_;have e1:h1[b]? = some (vobj t_api_State StaK (t0,())):=e1;have tl:=w.t.len;have rl:=w.r.len;have nl:=w.n.len;have s0:∀ {h'},Keep [] h1 h'→sm .sl ((Pl.mk b 0).fld 0) t0 h':=fun k=>sm_fld (k.g e1) rfl (by decide);have hdef:stMay X=(decide (1≤X.length)&&decide (X.length≤24)&&X.all tabMay&&(match findN X rootR with | some x=>decide (x.kind=1) | none=>false)):=rfl;by_cases hc:1≤X.length∧X.length≤24
 case neg=>
  have hf:stMay X=false:=by
   rw[hdef];by_cases c1:1≤X.length
   ·have c2:¬X.length≤24:=fun h=>hc ⟨c1,h⟩;simp[c2]
   ·simp[c1]
  refine jn_at (true,()) h1 ?_ ?_
  ·refine ld_go (s0 Keep.rfl) ?_;by_cases c1:(t0.len:Int)<1
   ·rw[if_pos (by simpa using c1)];exact ⟨by first | rfl | trivial,by first | rfl | trivial⟩
   rw[if_neg (by simpa using c1)];refine ld_go (s0 Keep.rfl) ?_;exact ⟨by simp;omega,by first | rfl | trivial⟩
  ·rw[if_pos (by rfl),←hf];exact hK h1 k1
 refine jn_at (false,()) h1 ?_ ?_
 ·refine ld_go (s0 Keep.rfl) ?_;rw[if_neg (by simp;omega)];refine ld_go (s0 Keep.rfl) ?_;exact ⟨by simp;omega,by first | rfl | trivial⟩
 rw[if_neg (by simp)];refine ld_go (s0 Keep.rfl) ?_
 have bad:(∃t∈X,tabMay t=false)→stMay X=false:=by
  rintro ⟨t,ht,hf⟩;rw[hdef]
  have:X.all tabMay=false:=by
   cases ha:X.all tabMay with
   | false=>rfl
   | true=>rw[YAB] at ha;rw[ha t ht] at hf;simp at hf
  rw[this];simp
 refine lp_go (fun (y:Int×Unit) (h3:Heap)=>∃n:Nat,y.1=n∧n≤X.length∧Keep [] h1 h3∧∀j,(hj:j<X.length)→j<n→tabMay X[j]=true) (fun (y:Int×Unit) _=>X.length-y.1.toNat) ?_ ?_
 ·exact ⟨0,rfl,YAl _,Keep.rfl,fun j _ h=>by omega⟩
 ·rintro ⟨(i:Int),_⟩ h3 ⟨n,e,hn,k3,hall⟩;dsimp only at e ⊢;subst e;have k03:Keep [] h h3:=k1.n k3;have w3:=w.keep k03;by_cases hlt:n<X.length
  ·rw[if_pos (show decide ((n:Int)<(t0.len:Int))=true from dT (by omega))];have hns:n<ss.length:=by omega
   have hnv:n<vv.length:=by omega
   refine seg_ix w3.t (x:=ss[n]) (by omega) (by simp[hns]) rfl ?_;have gs:=w3.r.getI hns hnv;have gn:=w3.n.getI hnv hlt;have hvl:=gn.len;have hsl:=gs.len;have hXl:=hl _ (YAN hlt);have hw:w64 ((n:Int)+1)=((n+1:Nat):Int):=w6 (by omega);refine dir_RisingN.s gs (by omega) fun h4 k4 =>?_;rw[risesV_eq gn];have k04:=k03.n k4
   cases hr:risesN X[n] with
   | false =>
     rw[if_pos (by rfl),←bad ⟨X[n],YAN hlt,by unfold tabMay;rw[hr];rfl⟩];exact hK h4 k04
   | true =>
     rw[if_neg (by simp)];refine lp_go (fun (y:Int×Unit) (h5:Heap)=>∃q:Nat,y.1=q∧q≤X[n].length∧Keep [] h4 h5∧∀j,(hj:j<X[n].length)→j<q→ndMay X[n][j]=true) (fun (y:Int×Unit) _=>X[n].length-y.1.toNat) ?_ ?_
     ·exact ⟨0,rfl,YAl _,Keep.rfl,fun j _ h=>by omega⟩
     ·rintro ⟨(i:Int),_⟩ h5 ⟨q,e,hq,k5,hall5⟩;dsimp only at e ⊢;subst e;have k05:=k04.n k5;by_cases hlq:q<X[n].length
      ·rw[if_pos (show decide ((q:Int)<(ss[n].len:Int))=true from dT (by omega))];have hqv:q<vv[n].length:=by omega
       obtain ⟨l,hl1,hx1⟩:=seg_at ((gs.keep (by decide) k4).keep (by decide) k5) (i:=q) hqv;refine ⟨l,hl1,by omega,by omega,?_⟩;rw[YAd];refine ZCr.s hx1 (((gn.getI hqv hlq).keep k4 (by simp)).keep k5 (by simp)) fun h6 k6 =>?_
       cases hm:ndMay X[n][q] with
       | false =>
         have:tabMay X[n]=false:=by
          unfold tabMay
          have:X[n].all ndMay=false:=by
           cases ha:X[n].all ndMay with
           | false=>rfl
           | true=>rw[YAB] at ha;rw[ha _ (YAN hlq)] at hm;simp at hm
          rw[this];simp
         rw[if_pos (by rfl),←bad ⟨X[n],YAN hlt,this⟩];exact hK h6 (k05.n k6)
       | true =>
         rw[if_neg (by simp)];have hwq:w64 ((q:Int)+1)=((q+1:Nat):Int):=w6 (by omega);rw[hwq];refine ⟨⟨q+1,rfl,by omega,k5.n k6,fun j hj hjq =>?_⟩,by simp;omega⟩;by_cases hje:j=q
         ·subst hje;exact hm
         ·exact hall5 j hj (by omega)
      ·rw[if_neg (show ¬decide ((q:Int)<(ss[n].len:Int))=true by simp;omega)];rw[hw];refine ⟨⟨n+1,rfl,by omega,(k3.n k4).n k5,fun j hj hjn =>?_⟩,by simp;omega⟩;by_cases hje:j=n
       ·subst hje;unfold tabMay;rw[hr,YAn,YAB];intro x hx;obtain ⟨p,hp,rfl⟩:=List.mem_iff_getElem.1 hx;exact hall5 p hp (by omega)
       ·exact hall j hj (by omega)
  ·rw[if_neg (show ¬decide ((n:Int)<(t0.len:Int))=true by simp;omega)]
   have hta:X.all tabMay=true:=by
    rw[YAB];intro x hx;obtain ⟨j,hj,rfl⟩:=List.mem_iff_getElem.1 hx;exact hall j hj (by omega)
   have hd2:stMay X=(match findN X rootR with | some x=>decide (x.kind=1) | none=>false):=by
    rw[hdef,hta];simp[hc.1,hc.2]
   refine ZCl.s fun h7 k7 =>?_;have k07:=k03.n k7
   have hris:∀t∈X,risesN t=true∧t.length≤2305843009213693952:=fun t ht=>by
    have:=tab_ok (List.all_eq_true.1 hta t ht);exact ⟨this.1,by omega⟩
   refine ZCk.s (w.keep k07) (s0 (k3.n k7)) hris (fun hnone h8 k8 =>?_) fun o i g1 g2 g3 g4 g5 lb hro hlb hat hsm hfi hnum h8 k8 =>?_
   ·refine jn_at (false,()) h8 (by rw[if_neg (by simp)];exact ⟨by first | rfl | trivial,by first | rfl | trivial⟩) ?_;rw[hnone] at hd2;have hd3:stMay X=false:=hd2;have hK':=hK h8 (k07.n k8);rw[hd3] at hK';exact hK'
   ·rw[hfi] at hd2;refine jn_at (stMay X,()) h8 ?_ (hK h8 (k07.n k8));rw[if_pos (by simp)];have f1:=(nd_f (sm_keep' hsm k8 (by simp))).2.1;rw[hat.k] at f1;refine nck_go (ld_go f1 ?_);exact ⟨by rw[hd2],by first | rfl | trivial⟩
abbrev PcK:Kd := .ag (.pr .s (.pr .b (.pr InK .un)))
theorem wr_root {v:InK.Ty} {z:HsV}:wrL (InK.cells v) 5 (HK.cells z)=InK.cells (v.1,(v.2.1,(v.2.2.1,(v.2.2.2.1,(v.2.2.2.2.1,(z,())))))):=by
 have e:InK.cells v=[.int .i64 v.1,.int .i64 v.2.1,.int .i64 v.2.2.1,.int .i64 v.2.2.2.1,.int .i64 v.2.2.2.2.1]++(HK.cells v.2.2.2.2.2.1++[]):=rfl;have e2:InK.cells (v.1,(v.2.1,(v.2.2.1,(v.2.2.2.1,(v.2.2.2.2.1,(z,()))))))=[.int .i64 v.1,.int .i64 v.2.1,.int .i64 v.2.2.1,.int .i64 v.2.2.2.1,.int .i64 v.2.2.2.2.1]++(HK.cells z++[]):=rfl;have l1:(HK.cells z).length=32:=Kd.cells_length _ _;have l2:(HK.cells v.2.2.2.2.2.1).length=32:=Kd.cells_length _ _;rw[e,e2];unfold wrL;rw[l1,YAD,YAD,YAF (by rw[YAO,l2];simp),YAD,List.take_append_of_le_length (by simp),YAb (by simp)]
theorem treeO_mem {d:ByteArray}:treeR d∈treeO d:=by
 unfold treeO;rw[mem_onceL]
 right;simp
theorem treeO_len {d:ByteArray} (hd:d.size≤4096):(treeO d).length≤73:=by
 have h1:=treeB_len (d:=d);have h2:=treeI_len (d:=d);have h3:=onceL_len (L:=([]:List ByteArray)) (xs:=treeB d++treeI d++[treeR d]);unfold treeO;simp only [YAO,YAP,YAS] at h3;omega
theorem ndObjs_len {x:Nd} (h:ndMay x=true):1≤(ndObjs x).length∧(ndObjs x).length≤73:=by
 unfold ndObjs;split
 ·simp
 ·have:=treeO_len (nd_small h).1;exact ⟨List.length_pos_of_mem treeO_mem,this⟩
theorem ZAh.s {yl:Value} {c0:Nat} {sl:Slc} {vs:List NdV} {t:Tab} {h:Heap} {K:Heap→Prop} {L0:List ByteArray} {W0:List Nat} (I:List ByteArray→List Ino→List Nat→Heap→Prop) (ht:∀x∈t,ndMay x=true) (hl:t.length≤32) (hL:L0.length≤80000)
 (h0:∀ {L ns W h},I L ns W h→h[c0]? = some (vobj t_s_api_Node .sl sl)∧Seg NdK sl vs h∧All2 (NdAt h) vs t∧∀q∈W,q<h.size)
 (hst:∀ {L ns W h h'},I L ns W h→Keep [] h h'→I L ns W h')
 (hy:∀ {L ns W h} {o:ByteArray} {b:Bool} {x:Ino} {K:Bool→Heap→Prop},I L ns W h→L.length≤90000→ns.length≤32→(∀h' W',I (once L o) (if b=true then ns++[x] else ns) W' h'→Keep W h h'→(∀q∈W',q∈W∨h.size≤q)→K true h')→callV Tryz.prog yl [PcK.val (o,(b,(inoV x,())))] .b h K)
 (hI:I L0 [] W0 h) (hK:∀h' W',I (onceL L0 (t.flatMap ndObjs)) (t.map inoOf) W' h'→Keep W0 h h'→(∀q∈W',q∈W0∨h.size≤q)→K h'):ZAh.C yl ⟨c0,0⟩ h K:=by
 apply ZAh.c;unfold ZAh.m;refine ld_go (sm_all (h0 hI).1) ?_;have gl0:=(h0 hI).2.1.len;have al0:=(h0 hI).2.2.1.len;refine lp_go (fun (y:Int×Unit) (h1:Heap)=>∃j W,y.1=((j:Nat):Int)∧j≤t.length∧I (onceL L0 ((t.take j).flatMap ndObjs)) ((t.take j).map inoOf) W h1∧Keep W0 h h1∧∀q∈W,q∈W0∨h.size≤q) (fun (y:Int×Unit) _=>t.length-y.1.toNat) ?_ ?_
 ·exact ⟨0,W0,rfl,YAl _,by simpa[onceL_nil] using hI,Keep.rfl,fun q hq => .inl hq⟩
 ·rintro ⟨(i:Int),_⟩ h1 ⟨j,W,e,hj,i1,k1,w1⟩;dsimp only at e ⊢;subst e;obtain ⟨c1,g1,a1,lt1⟩:=h0 i1;by_cases hlt:j<t.length
  ·rw[if_pos (show decide ((j:Int)<(sl.len:Int))=true from dT (by omega))];have hw:w64 ((j:Int)+1)=((j+1:Nat):Int):=w6 (by omega);rw[hw];have hvs:j<vs.length:=by omega
   have hx:=ht _ (YAN hlt);have av:=a1.getI hvs hlt;have htake:t.take (j+1)=t.take j++[t[j]]:=YAc hlt
   have hflen:((t.take j).flatMap ndObjs).length≤73*j:=by
    have:∀(l:Tab),(∀x∈l,ndMay x=true)→(l.flatMap ndObjs).length≤73*l.length:=by
     intro l
     induction l with
     | nil=>intro _;simp
     | cons a r ih =>
       intro h;have h1:=ih fun x hx=>h x (by simp[hx]);have h2:=(ndObjs_len (h a (by simp))).2;rw[YAI,YAO,YAP];omega
    have h1:=this (t.take j) (fun x hx=>ht x (List.take_subset _ _ hx));rw[YAT] at h1;omega
   have hLl:=onceL_len (L:=L0) (xs:=(t.take j).flatMap ndObjs);generalize hLe:onceL L0 ((t.take j).flatMap ndObjs)=L at i1 hLl
   have hLn:onceL L0 ((t.take (j+1)).flatMap ndObjs)=onceL L (ndObjs t[j]):=by
    rw[htake,YAH,onceL_app,hLe];simp
   have hNn:(t.take (j+1)).map inoOf=(t.take j).map inoOf++[inoOf t[j]]:=by rw[htake,YAU];rfl
   have hNl:((t.take j).map inoOf).length≤j:=by simp;omega
   generalize hNe:(t.take j).map inoOf=N at i1 hNn hNl;rw[hLn.symm.trans hLn] at *;generalize hxe:t[j]=x at *;obtain ⟨hz1,hz2,hz3⟩:=nd_small hx;have ho:=ndObjs_len hx;refine jn_in (fun _ h2=>∃W',I (onceL L (ndObjs x)) (N++[inoOf x]) W' h2∧Keep W h1 h2∧∀q∈W',q∈W∨h1.size≤q) ?_ ?_
   ·refine ld_go (sm_all c1) ?_;refine seg_ixl g1 (x:=vs[j]) (by omega) (by simp[hvs]) rfl fun l hsm =>?_;generalize vs[j]=v at *;obtain ⟨f0,f1,f2,f3,f4,f5⟩:=nd_f hsm;rw[av.n] at f0;rw[av.k] at f1;rw[av.m] at f2;rw[av.l] at f3;rw[av.d] at f4;refine nck_go (ld_go f0 (nck_go (ld_go f1 (nck_go (ld_go f2 (nck_go (ld_go f3 ?_)))))));refine new_gen fun b1 h3 hb1 k3 e3 hs3 =>?_;refine ⟨sm_keep (by decide) f3 k3,sm_keep (by decide) f2 k3,sm_keep (by decide) f1 k3,sm_keep (by decide) f0 k3,?_⟩;refine st_to e3 fun h4 k4 e4 hs4 =>?_;have k14:Keep [] h1 h4:=k3.new k4 (by simp;omega);refine nck_go (ld_go (sm_keep (by decide) f1 k14) ?_);refine jn_in (fun y h5=>Keep [] h1 h5∧Row h5 t_string .s y.1 (ndObjs x)∧(∀q∈own y.1,h1.size≤q)∧h5[b1]? = some (vobj t_api_Inode InK (inoV (inoOf x)))) ?_ ?_
    ·by_cases hk:x.kind=1
     ·rw[if_pos (by simpa using hk)];refine nck_go (ld_go (sm_keep (by decide) f5 k14) ?_);refine ZDE.s (av.keep k14 (by simp)).e fun h6 k6 =>?_;rw[if_pos hz3]
      have hdz:(bx (putBytes x.ents)).size≤65536:=by
       rw[bx_size];have h1:=flat_le (dir_ok hz3).2.2;unfold putBytes;simp only [YAO,be_len];omega
      refine ZAR.s (d:=bx (putBytes x.ents)) hdz fun h7 k7 =>?_;have k47:Keep [] h4 h7:=k6.n k7;refine st_fld (k':=HK) (n:=5) (x':=_) (k47.g e4) (by decide) wr_root ?_;have eb:=k47.g e4;refine bs_gen fun b9 h9 hb9 k9 r9 hs9 =>?_;have k8:Keep [] h1 _:=(k14.n k47).new (keep_set (h:=h7) (b:=b1) (o:=vobj t_api_Inode InK (x.num,(x.kind,(x.mode,(x.links,(0,(hashS (bx (putBytes x.ents)),())))))))) (by simp;omega)
      have hd0:x.data=⟨#[]⟩:=by
       obtain ⟨_,_,_,_,_,_,q1,_⟩:=nd_ok hx;exact (q1 hk).1
      refine ⟨k8.n k9,?_,?_,?_⟩
      ·unfold ndObjs;rw[if_pos hk];exact r9
      ·intro q hq;have hq':q=b9:=by simpa[own] using hq
       rw[hq',hb9];exact k8.1
      ·refine k9.g ((get_set eb).trans ?_);unfold inoOf ndRoot inoV;rw[if_pos hk,hd0]
       rfl
     ·rw[if_neg (by simpa using hk)];refine nck_go (ld_go (sm_keep (by decide) f4 k14) ?_);refine st_fld (k' := .i) (n:=4) (x':=(x.num,(x.kind,(x.mode,(x.links,((x.data.size:Int),(Vector.replicate 32 0,()))))))) e4 (by decide) rfl ?_;have e10:=get_set (o':=vobj t_api_Inode InK (x.num,(x.kind,(x.mode,(x.links,((x.data.size:Int),(Vector.replicate 32 0,()))))))) e4;have k10:Keep [] h1 (h4.setIfInBounds b1 (vobj t_api_Inode InK (x.num,(x.kind,(x.mode,(x.links,((x.data.size:Int),(Vector.replicate 32 0,())))))))):=k14.new keep_set (by simp;omega);generalize h4.setIfInBounds b1 (vobj t_api_Inode InK (x.num,(x.kind,(x.mode,(x.links,((x.data.size:Int),(Vector.replicate 32 0,())))))))=h10 at e10 k10 ⊢;refine nck_go (ld_go (sm_keep (by decide) f4 k10) ?_);refine ZCS.s hz1 fun o h11 k11 r11 o11 =>?_;have e11:=k11.g e10;refine st_fld (k':=HK) (n:=5) (x':=_) e11 (by decide) wr_root ?_;refine ⟨(k10.n k11).new keep_set (by simp;omega),?_,?_,?_⟩
      ·unfold ndObjs;rw[if_neg hk];exact r11.keep keep_set (fun q hq hm=>by simp at hm;subst hm;have:=o11 _ hq;have:=lt_of_some e10;omega)
      ·intro q hq;have:=o11 q hq;have:=k10.1;omega
      ·refine (get_set e11).trans ?_;unfold inoOf ndRoot inoV;rw[if_neg hk]
    ·rintro ⟨(o:Slc),_⟩ h5 ⟨k5,r5,o5,e5⟩;dsimp only at r5 o5 ⊢;have i5:=hst i1 k5;have rl:=r5.len;have nW:∀q∈own o,q∉W:=fun q hq hm=>by have:=o5 q hq;have:=lt1 q hm;omega
     have nb1:b1∉W:=fun hm=>by have:=lt1 _ hm;omega
     refine lp_go (fun (y:Int×Unit) (h13:Heap)=>∃k W',y.1=((k:Nat):Int)∧k≤(ndObjs x).length∧I (onceL L ((ndObjs x).take k)) (if k=(ndObjs x).length then N++[inoOf x] else N) W' h13∧Keep W h5 h13∧∀q∈W',q∈W∨h5.size≤q) (fun (y:Int×Unit) _=>(ndObjs x).length-y.1.toNat) ?_ ?_
     ·exact ⟨0,W,rfl,YAl _,by rw[if_neg (by omega),List.take_zero,onceL_nil];exact i5,Keep.rfl,fun q hq => .inl hq⟩
     ·rintro ⟨(p:Int),_⟩ h13 ⟨k,W',e,hk,i13,k13,w13⟩;dsimp only at e ⊢;subst e;have hLk:=onceL_len (L:=L) (xs:=(ndObjs x).take k);rw[YAT] at hLk;by_cases hlk:k<(ndObjs x).length
      ·rw[if_pos (show decide ((k:Int)<(o.len:Int))=true from dT (by omega))];have hwk:w64 ((k:Int)+1)=((k+1:Nat):Int):=w6 (by omega);have hwl:w64 ((o.len:Int)-1)=(((ndObjs x).length-1:Nat):Int):=w6 (by omega);rw[hwk,hwl];refine ix_ld (r5.keep k13 nW) (x:=(ndObjs x)[k]) (by omega) (by simp[hlk]) rfl ?_;refine ld_go (sm_all (k13.get e5 nb1)) ?_;rw[if_neg (by omega)] at i13;refine hy i13 (by omega) (by omega) fun h14 W2 i14 k14 w14 =>?_;rw[if_neg (by simp)];refine ⟨⟨k+1,W2,rfl,by omega,?_,k13.then k14 (fun q hq _=>hq) (fun q hq hl=>by rcases w13 q hq with h | h;exact h;omega),fun q hq =>?_⟩,by simp;omega⟩
       ·rw[onceL_take hlk];by_cases hlast:k+1=(ndObjs x).length
        ·rw[if_pos hlast];rw[if_pos (show decide ((k:Int)=(((ndObjs x).length-1:Nat):Int))=true from dT (by omega))] at i14;exact i14
        ·rw[if_neg hlast];rw[if_neg (show ¬decide ((k:Int)=(((ndObjs x).length-1:Nat):Int))=true from dn (by omega))] at i14;exact i14
       ·rcases w14 q hq with h | h
        ·exact w13 q h
        ·right;have:=k13.1;omega
      ·rw[if_neg (show ¬decide ((k:Int)<(o.len:Int))=true by simp;omega)];obtain rfl:k=(ndObjs x).length:=by omega
       rw[if_pos rfl,YAb (YAg _)] at i13;refine ⟨W',i13,k5.then k13 (by simp) (fun q hq _=>hq),fun q hq =>?_⟩;rcases w13 q hq with h | h
       ·exact .inl h
       ·right;have:=k5.1;omega
   ·rintro _ h2 ⟨W',i2,k2,w2⟩;refine ⟨⟨j+1,W',rfl,by omega,?_,k1.then k2 (fun q hq _=>hq) (fun q hq hl=>by rcases w1 q hq with h | h;exact h;omega),fun q hq =>?_⟩,by simp;omega⟩
    ·rw[hLn,hNn];exact i2
    ·rcases w2 q hq with h | h
     ·exact w1 q h
     ·right;have:=k1.1;omega
  ·rw[if_neg (show ¬decide ((j:Int)<(sl.len:Int))=true by simp;omega)];obtain rfl:j=t.length:=by omega
   rw[YAb (YAg _)] at i1;exact hK h1 W i1 k1 w1
theorem bx_inj3 {a b:List UInt8}:bx a=bx b↔a=b:=
 ⟨fun h=>by have:=congrArg (fun x:ByteArray=>x.data.toList) h;simpa[bx] using this,fun h=>by rw[h]⟩
section
variable {h0 h:Heap} {w:Nat} {mv:MbK.Ty} {t0:Slc} {ss:List Slc} {vv:List (List NdV)} {a b:Slc} {W:Wk}
end
section
variable {h0 h:Heap} {w:Nat} {mv:MbK.Ty} {t0:Slc} {ss:List Slc} {vv:List (List NdV)} {a b:Slc} {W:Wk}
end
section
variable {h0 h:Heap} {w:Nat} {mv:MbK.Ty} {t0:Slc} {ss:List Slc} {vv:List (List NdV)} {a b:Slc} {W:Wk}
end
section
variable {h0 h:Heap} {w:Nat} {mv:MbK.Ty} {t0:Slc} {ss:List Slc} {vv:List (List NdV)} {a b:Slc} {W:Wk}
theorem risesN_lt {xs:Tab} (hr:risesN xs=true) {i:Nat}:∀ {j:Nat},(hij:i<j)→(hj:j<xs.length)→(xs[i]'(by omega)).num<xs[j].num
 | j + 1, hij, hj => by
   have h1:=(risesN_iff xs).1 hr j hj;by_cases h:i=j
   ·subst h;exact h1
   ·exact Int.lt_trans (risesN_lt hr (by omega) (by omega)) h1
theorem map_set {t:Tab} (hr:risesN t=true) {j:Nat} (hj:j<t.length) {x':Nd}:(t.map fun x=>if x.num=t[j].num then x' else x)=t.set j x':=by
 refine List.ext_getElem (by simp) fun n h1 h2 =>?_;rw[YAM,List.getElem_set];simp only [YAR] at h1;by_cases h:j=n
 ·subst h;simp
 ·rw[if_neg h,if_neg];intro he;by_cases hlt:n<j
  ·have:=risesN_lt hr hlt hj;omega
  ·have:=risesN_lt hr (show j<n by omega) h1;omega
end
section
variable {h0 h:Heap} {w:Nat} {mv:MbK.Ty} {t0:Slc} {ss:List Slc} {vv:List (List NdV)} {a b:Slc} {W:Wk}
end
section
variable {h0 h:Heap} {w:Nat} {mv:MbK.Ty} {t0:Slc} {ss:List Slc} {vv:List (List NdV)} {a b:Slc} {W:Wk}
end
section
variable {h0 h:Heap} {w:Nat} {mv:MbK.Ty} {t0:Slc} {ss:List Slc} {vv:List (List NdV)} {a b:Slc} {W:Wk}
end
section
variable {h0 h:Heap} {w:Nat} {mv:MbK.Ty} {t0:Slc} {ss:List Slc} {vv:List (List NdV)} {a b:Slc} {W:Wk}
end
section
variable {h0 h:Heap} {w:Nat} {mv:MbK.Ty} {t0:Slc} {ss:List Slc} {vv:List (List NdV)} {a b:Slc} {W:Wk}
end
section
variable {h0 h:Heap} {w:Nat} {mv:MbK.Ty} {t0:Slc} {ss:List Slc} {vv:List (List NdV)} {a b:Slc} {W:Wk}
end
section
variable {h0 h:Heap} {w:Nat} {mv:MbK.Ty} {t0:Slc} {ss:List Slc} {vv:List (List NdV)} {a b:Slc} {W:Wk}
end
theorem ZBZ.s {a b:Slc} {xs ys:List ByteArray} {h:Heap} {K:Bool→Heap→Prop} (ga:Seg .s a xs h) (gb:Seg .s b ys h) (hl:xs.length≤9223372036854775807) (hK:K (decide (xs=ys)) h):ZBZ.C a b h K:=by
 apply ZBZ.c;unfold ZBZ.m;have la:=ga.len;have lb:=gb.len;by_cases hlen:xs.length=ys.length
 case neg=>
  rw[if_pos (by simp;omega)];rw[dF (fun e=>hlen (by rw[e]))] at hK;exact hK
 rw[if_neg (by simp;omega)];refine lp_go (fun (y:Int×Unit) (h1:Heap)=>h1=h∧∃t:Nat,y.1=t∧t≤xs.length∧∀j,(hj:j<xs.length)→j<t→xs[j]=ys[j]'(by omega)) (fun (y:Int×Unit) _=>xs.length-y.1.toNat) ?_ ?_
 ·exact ⟨rfl,0,rfl,YAl _,fun j _ h=>by omega⟩
 ·rintro ⟨(i:Int),_⟩ h1 ⟨rfl,t,e,ht,hall⟩;dsimp only at e ⊢;subst e;by_cases hlt:t<xs.length
  ·rw[if_pos (show decide ((t:Int)<(a.len:Int))=true from dT (by omega))];have hlt2:t<ys.length:=by omega
   refine seg_ix ga (x:=xs[t]) (by omega) (by simp[hlt]) rfl ?_;refine seg_ix gb (x:=ys[t]) (by omega) (by simp[hlt2]) rfl ?_;by_cases hx:xs[t]=ys[t]
   ·rw[if_neg (by simpa using hx)];have hw:w64 ((t:Int)+1)=((t+1:Nat):Int):=w6 (by omega);rw[hw];refine ⟨⟨by first | rfl | trivial,t+1,rfl,by omega,fun j hj hjt =>?_⟩,by simp;omega⟩;by_cases hje:j=t
    ·subst hje;exact hx
    ·exact hall j hj (by omega)
   ·rw[if_pos (by simpa using hx)];rw[dF (fun e=>hx (by simp[e]))] at hK;exact hK
  ·rw[if_neg (show ¬decide ((t:Int)<(a.len:Int))=true by simp;omega)];have:xs=ys:=List.ext_getElem hlen fun j h1 h2=>hall j h1 (by omega);rw[dT this] at hK;exact hK
def Lens (X:Fs):Prop:=X.length≤9223372036854775807∧∀t∈X,t.length≤9223372036854775807∧∀x∈t,x.ents.length≤9223372036854775807
theorem grp_iff {us:List Int} {n:Int}:grpMay us n=true↔us≠[]∧∀j,(hj:j<us.length)→0≤us[j]∧us[j]<n∧(0<j→us[j-1]'(by omega)<us[j]):=by
 unfold grpMay;simp only [YAm,YAB,decide_eq_true_eq,Bool.not_eq_true',List.isEmpty_eq_false_iff]
 constructor
 ·rintro ⟨⟨h1,h2⟩,h3⟩;refine ⟨h3,fun j hj=>⟨(h1 _ (YAN hj)).1,(h1 _ (YAN hj)).2,fun h0 =>?_⟩⟩;have:=(risesI_iff us).1 h2 (j-1) (by omega);simpa[Nat.sub_add_cancel h0] using this
 ·rintro ⟨h3,h⟩;refine ⟨⟨fun u hu =>?_,(risesI_iff us).2 fun j hj =>?_⟩,h3⟩
  ·obtain ⟨j,hj,rfl⟩:=List.mem_iff_getElem.1 hu;exact ⟨(h j hj).1,(h j hj).2.1⟩
  ·have:=(h (j+1) hj).2.2 (by omega);simpa using this
theorem ZAt.s {v:MbK.Ty} {m:Mb} {h:Heap} {K:Bool→Heap→Prop} (a:MbAt h v m) (hgl:m.groups.length≤9223372036854775807) (hK:∀h',Keep [] h h'→K (mbMay m) h'):ZAt.C v h K:=by
 apply ZAt.c;unfold ZAt.m;refine new_gen fun b h1 hb k1 e1 hs1 =>?_;have e1:h1[b]? = some (vobj t_api_Members MbK v):=e1;obtain ⟨gs,g1,g2⟩:=a.g;have hu:=a.u;obtain ⟨(u:Int),(sl:Slc),⟨⟩⟩:=v;dsimp only at hu g1;subst hu;have f0:sm .i ((Pl.mk b 0).fld 0) m.users h1:=sm_sub (sm_all e1) (by decide) rfl;have f1:sm .sl ((Pl.mk b 0).fld 1) sl h1:=sm_sub (sm_all e1) (by decide) rfl;have gl:=g1.len;have g2l:=g2.len;have g1':=g1.keep (by decide) k1;refine jn_in (fun y h'=>h'=h1∧y.1=decide (m.users<1∨16<m.users∨8<m.groups.length)) ?_ ?_
 ·refine ld_go f0 ?_;by_cases c1:m.users<1
  ·rw[if_pos (by simpa using c1)];exact ⟨rfl,by simp[c1]⟩
  rw[if_neg (by simpa using c1)];refine ld_go f0 ?_;by_cases c2:m.users>16
  ·rw[if_pos (by simpa using c2)];exact ⟨rfl,by simp[c2]⟩
  rw[if_neg (by simpa using c2)];refine ld_go f1 ⟨rfl,?_⟩;have:(sl.len:Int)=(m.groups.length:Int):=by omega
  rw[this];by_cases c3:8<m.groups.length
  ·rw[dT (by omega),dT (by omega)]
  ·rw[dF (by omega),dF (by omega)]
 rintro ⟨(y:Bool),_⟩ h2 ⟨rfl,ey⟩;dsimp only at ey ⊢;rw[ey];by_cases hc:m.users<1∨16<m.users∨8<m.groups.length
 ·rw[if_pos (dT hc)]
  have:mbMay m=false:=by
   unfold mbMay;rcases hc with h | h | h
   ·rw[dF (p:=1≤m.users) (by omega)];rfl
   ·rw[dF (p:=m.users≤16) (by omega)];simp
   ·rw[dF (p:=m.groups.length≤8) (by omega)];simp
  rw[←this];exact hK _ k1
 rw[if_neg (by rw[decide_eq_true_eq];exact hc)]
 have hmb:mbMay m=m.groups.all fun g=>grpMay g m.users:=by
  unfold mbMay;rw[dT (by omega),dT (by omega),dT (by omega)];rfl
 refine lp_go (fun (y:Int×Unit) (h2':Heap)=>h2'=h2∧∃n:Nat,y.1=n∧n≤m.groups.length∧∀j,(hj:j<m.groups.length)→j<n→grpMay m.groups[j] m.users=true) (fun (y:Int×Unit) _=>m.groups.length-y.1.toNat) ?_ ?_
 ·exact ⟨rfl,0,rfl,YAl _,fun j _ h=>by omega⟩
 ·rintro ⟨(i:Int),_⟩ h3 ⟨rfl,n,e,hn,hall⟩;dsimp only at e ⊢;subst e;have hw:w64 ((n:Int)+1)=((n+1:Nat):Int):=w6 (by omega);rw[hw];refine ld_go f1 ?_;by_cases hlt:n<m.groups.length
  ·rw[if_pos (show decide ((n:Int)<(sl.len:Int))=true from dT (by omega))];have hg:n<gs.length:=by omega
   refine ld_go f1 ?_;refine seg_ix g1' (x:=gs[n]) (by omega) (by simp[hg]) rfl ?_;obtain ⟨gr,grl⟩:=g2.getI hg hlt;have gr':=gr.keep (by decide) k1;have grlen:=gr.len
   have bad:grpMay m.groups[n] m.users=false→K false h3:=fun hb=>by
    have:mbMay m=false:=by
     rw[hmb,YAA];exact ⟨_,YAN hlt,by rw[hb];simp⟩
    rw[←this];exact hK _ k1
   generalize hG:m.groups[n]=G at *;generalize hS:gs[n]=S at *;refine lp_go (fun (y:Int×Unit) (h2':Heap)=>h2'=h3∧∃q:Nat,y.1=q∧q≤G.length∧∀j,(hj:j<G.length)→j<q→0≤G[j]∧G[j]<m.users∧(0<j→G[j-1]'(by omega)<G[j])) (fun (y:Int×Unit) _=>G.length-y.1.toNat) ?_ ?_
   ·exact ⟨rfl,0,rfl,YAl _,fun j _ h=>by omega⟩
   ·rintro ⟨(i:Int),_⟩ h4 ⟨rfl,q,e,hq,hall2⟩;dsimp only at e ⊢;subst e;by_cases hlq:q<G.length
    ·rw[if_pos (show decide ((q:Int)<(S.len:Int))=true from dT (by omega))];have hwq:w64 ((q:Int)+1)=((q+1:Nat):Int):=w6 (by omega);rw[hwq]
     have no:¬(0≤G[q]∧G[q]<m.users∧(0<q→G[q-1]'(by omega)<G[q]))→grpMay G m.users=false:=fun hn=>by
      cases hgm:grpMay G m.users with
      | false=>rfl
      | true=>exact absurd ((grp_iff.1 hgm).2 q hlq) hn
     have hgx:G[(q:Int).toNat]? = some G[q]:=by simp[hlq]
     refine jn_go ?_;refine jn_in (fun y h'=>h'=h4∧y.1=decide (¬(0≤G[q]∧G[q]<m.users∧(0<q→G[q-1]'(by omega)<G[q])))) ?_ ?_
     ·refine seg_ix gr' (x:=G[q]) (by omega) hgx rfl ?_;by_cases c1:G[q]<0
      ·rw[if_pos (by simpa using c1)];exact ⟨rfl,by rw[dT];rintro ⟨h,_⟩;omega⟩
      rw[if_neg (by simpa using c1)];refine seg_ix gr' (x:=G[q]) (by omega) hgx rfl (ld_go f0 ?_);by_cases c2:G[q]≥m.users
      ·rw[if_pos (by simpa using c2)];exact ⟨rfl,by rw[dT];rintro ⟨_,h,_⟩;omega⟩
      rw[if_neg (by simpa using c2)];by_cases c3:0<q
      ·rw[if_pos (by simpa using c3)];have hp:w64 ((q:Int)-1)=((q-1:Nat):Int):=w6 (by omega);rw[hp];refine seg_ix gr' (x:=G[q-1]'(by omega)) (by omega) (by rw[YAd,YAK]) rfl ?_;refine seg_ix gr' (x:=G[q]) (by omega) hgx rfl ?_;refine ⟨rfl,?_⟩;by_cases c4:G[q-1]'(by omega)≥G[q]
       ·rw[dT c4,dT];rintro ⟨_,_,h⟩;have:=h c3;omega
       ·rw[dF c4,dF];exact fun h=>h ⟨by omega,by omega,fun _=>by omega⟩
      ·rw[if_neg (by simp;omega)];refine ⟨rfl,?_⟩;dsimp only;rw[dF];exact fun h=>h ⟨by omega,by omega,fun h=>absurd h c3⟩
     ·rintro ⟨(y:Bool),_⟩ h5 ⟨rfl,ey⟩;dsimp only at ey ⊢;rw[ey];by_cases hb:(0≤G[q]∧G[q]<m.users∧(0<q→G[q-1]'(by omega)<G[q]))
      ·rw[if_neg (by rw[decide_eq_true_eq];exact fun h=>h hb)];refine ⟨⟨by first | rfl | trivial,q+1,rfl,by omega,fun j hj hjq =>?_⟩,by simp;omega⟩;by_cases hje:j=q
       ·subst hje;exact hb
       ·exact hall2 j hj (by omega)
      ·rw[if_pos (dT hb)];exact bad (no hb)
    ·rw[if_neg (show ¬decide ((q:Int)<(S.len:Int))=true by simp;omega)];by_cases hz:G.length=0
     ·rw[if_pos (by simp;omega)];refine bad ?_;have:G=[]:=List.length_eq_zero_iff.1 hz;subst this;rfl
     ·rw[if_neg (by simp;omega)];refine ⟨⟨by first | rfl | trivial,n+1,rfl,by omega,fun j hj hjn =>?_⟩,by simp;omega⟩;by_cases hje:j=n
      ·subst hje;rw[hG];exact grp_iff.2 ⟨fun h=>hz (by rw[h];rfl),fun p hp=>hall2 p hp (by omega)⟩
      ·exact hall j hj (by omega)
  ·rw[if_neg (show ¬decide ((n:Int)<(sl.len:Int))=true by simp;omega)]
   have:mbMay m=true:=by
    rw[hmb,YAB];intro g hg;obtain ⟨j,hj,rfl⟩:=List.mem_iff_getElem.1 hg;exact hall j hj (by omega)
   rw[←this];exact hK _ k1
theorem ZBB.s {v:MbK.Ty} {m:Mb} {h:Heap} {K:Int→Heap→Prop} (a:MbAt h v m) (hm:mbMay m=true) (hK:∀h',Keep [] h h'→K (prins m) h'):ZBB.C v h K:=by
 apply ZBB.c;unfold ZBB.m;refine new_gen fun b h1 hb k1 e1 hs1 =>?_;have e1:h1[b]? = some (vobj t_api_Members MbK v):=e1;obtain ⟨gs,g1,g2⟩:=a.g;have hu:=a.u;obtain ⟨(u:Int),(sl:Slc),⟨⟩⟩:=v;dsimp only at hu g1;subst hu;refine ld_go (k := .i) (x:=m.users) (sm_sub (sm_all e1) (by decide) rfl) (ld_go (k := .sl) (x:=sl) (sm_sub (sm_all e1) (by decide) rfl) ?_);have gl:=g1.len;have g2l:=g2.len;unfold mbMay at hm;simp only [YAm,decide_eq_true_eq] at hm;obtain ⟨⟨⟨m1,m2⟩,m3⟩,_⟩:=hm;rw[w64_id (by omega) (by omega)];have:m.users+(sl.len:Int)=prins m:=by unfold prins;omega
 rw[this];exact hK _ k1
def emptyS (m:Mb):Fs:=[⟨1,1,1,1,⟨#[]⟩,[]⟩]::List.replicate ((prins m).toNat-1) []
theorem nd1_at {h:Heap}:NdAt h ((1,(1,(1,(1,(⟨#[]⟩,((⟨none,0,0⟩:Slc),())))))):NdV) ⟨1,1,1,1,⟨#[]⟩,[]⟩:=⟨rfl,rfl,rfl,rfl,rfl,(Row.nil (T:=t_api_Dirent)).seg⟩
theorem all2_rep {α β : Type} {R : α → β → Prop} {a : α} {b : β} (h:R a b):∀n,All2 R (List.replicate n a) (List.replicate n b)
 | 0=>trivial
 | n+1=>by rw[YAY,YAY];exact ⟨h,all2_rep h n⟩
theorem ZCR.s {v:MbK.Ty} {m:Mb} {h:Heap} {K:StaK.Ty→Int→Heap→Prop} (a:MbAt h v m) (hgl:m.groups.length≤9223372036854775807)
 (hno:mbMay m=false→∀h',Keep [] h h'→K ((⟨none,0,0⟩:Slc),()) 1500 h')
 (hK:mbMay m=true→∀h' t0 ss vv,Keep [] h h'→StW h' t0 ss vv (emptyS m)→K (t0,()) 0 h'):ZCR.C v h K:=by
 apply ZCR.c;unfold ZCR.m;refine new_gen fun b1 h1 hb1 k1 e1 hs1 =>?_;have e1:h1[b1]? = some (vobj t_api_Members MbK v):=e1;refine new_gen fun b2 h2 hb2 k2 e2 hs2 =>?_;have e2:h2[b2]? = some (vobj t_api_State StaK ((⟨none,0,0⟩:Slc),())):=e2;have k02:Keep [] h h2:=k1.n k2;have c1:=k2.g e1;refine ld_go (sm_all c1) ?_;refine ZAt.s (a.keep k02) hgl fun h3 k3 =>?_;have k03:=k02.n k3
 cases hm:mbMay m with
 | false =>
   rw[if_pos (by rfl)];refine st_ld (y:=(((⟨none,0,0⟩:Slc),()):StaK.Ty)) (k3.g e2) fun h4 k4 e4 hs4 =>?_;exact hno hm h4 (k03.new k4 (by simp;omega))
 | true =>
   rw[if_neg (by simp)];refine ld_go (sm_all (k3.g c1)) ?_;refine ZBB.s (a.keep k03) hm fun h5 k5 =>?_
   have hp:1≤prins m∧prins m≤24:=by
    unfold mbMay at hm;simp only [YAm,decide_eq_true_eq] at hm;obtain ⟨⟨⟨m1,m2⟩,m3⟩,_⟩:=hm;unfold prins;omega
   obtain ⟨n,hn⟩:∃n:Nat,prins m=((n+1:Nat):Int):=⟨(prins m).toNat-1,by omega⟩;rw[hn];refine mk_gen (by omega) (by omega) fun b h6 hb6 k6 r6 hs6 =>?_;refine new_st_gen fun b3 h8 hb3 k8 e8 hs8 =>?_;have e8:h8[b3]? = some (vobj t_api_State StaK ((⟨some ⟨b,0⟩,n+1,n+1⟩:Slc),())):=e8;refine ld_go (k := .sl) (x:=(⟨some ⟨b,0⟩,n+1,n+1⟩:Slc)) (sm_sub (sm_all e8) (by decide) rfl) ?_;refine bs_gen fun bq h9 hbq k9 r9 hs9 =>?_;have r69:=(r6.keep k8 (by simp)).keep k9 (by simp);have s8:=k8.1;have s9:=k9.1;refine ix_st (i:=0) (k := .sl) (x:=(⟨some ⟨bq,0⟩,1,1⟩:Slc)) r69 (by omega) (by simp) rfl fun h10 k10 r10 =>?_;have hown:own (⟨some ⟨b,0⟩,n+1,n+1⟩:Slc)=[b]:=rfl;refine ld_go (sm_all (k10.get (k9.g e8) (by rw[hown];simp;omega))) ?_;have s5:=k5.1;have s3:=k3.1;have l2:=lt_of_some e2;have k310:Keep [] h3 h10:=(((k5.n k6).n k8).n k9).new k10 (fun q hq=>by rw[hown] at hq;simp at hq;omega);refine st_ld (k310.g (k3.g e2)) fun h11 k11 e11 hs11 =>?_;refine hK hm h11 _ (⟨some ⟨bq,0⟩,1,1⟩::List.replicate n ⟨none,0,0⟩) ([(1,(1,(1,(1,(⟨#[]⟩,((⟨none,0,0⟩:Slc),()))))))]::List.replicate n []) ((k03.n k310).new k11 (by simp;omega)) ⟨?_,?_,?_⟩
   ·have:(List.replicate (n+1) (Kd.zero .sl)).set (0:Int).toNat (⟨some ⟨bq,0⟩,1,1⟩:Slc)=⟨some ⟨bq,0⟩,1,1⟩::List.replicate n ⟨none,0,0⟩:=by
     rw[YAY];rfl
    rw[←this];exact (r10.keep k11 (by rw[hown];simp;omega)).seg
   ·refine ⟨((r9.keep k10 (by rw[hown];simp[own];omega)).keep k11 (by simp[own];omega)).seg,all2_rep (R:=fun s vs=>Seg NdK s vs h11) (Row.nil (T:=t_api_Node)).seg n⟩
   ·unfold emptyS;have:(prins m).toNat-1=n:=by omega
    rw[this];exact ⟨⟨nd1_at,trivial⟩,all2_rep trivial n⟩
def cC:Cl:=⟨3,⟨#[47,102]⟩,⟨#[]⟩,⟨#[]⟩,0,9,0⟩
def cD:Cl:=⟨2,⟨#[47,100]⟩,⟨#[]⟩,⟨#[]⟩,0,0,1⟩
section
variable {h:Heap} {b:Nat} {a:An}
end
abbrev InoK:Kd := .ag (.pr .i (.pr .i (.pr .i (.pr .i (.pr .i (.pr (.ar 32 .u8) .un))))))
def iN (x:InoK.Ty):Int:=x.1
def iK (x:InoK.Ty):Int:=x.2.1
def iM (x:InoK.Ty):Int:=x.2.2.1
def iL (x:InoK.Ty):Int:=x.2.2.2.1
def iS (x:InoK.Ty):Int:=x.2.2.2.2.1
def inoMay (x:InoK.Ty):Bool:=ndN (iN x) (iK x) (iM x) (iL x)&&decide (0≤iS x)&&decide (iS x≤4096)&&(decide (iK x≠1)||decide (iS x=0))
theorem ino_f {l:Pl} {v:InoK.Ty} {h:Heap} (e:sm InoK l v h):sm .i (l.fld 0) (iN v) h∧sm .i (l.fld 1) (iK v) h∧sm .i (l.fld 2) (iM v) h∧sm .i (l.fld 3) (iL v) h∧sm .i (l.fld 4) (iS v) h∧sm (.ar 32 .u8) (l.fld 5) v.2.2.2.2.2.1 h:=
 ⟨sm_sub e (by decide) rfl,sm_sub e (by decide) rfl,sm_sub e (by decide) rfl,sm_sub e (by decide) rfl,sm_sub e (by decide) rfl,sm_sub e (by decide) (by
  show (([Value.int .i64 v.1]++([Value.int .i64 v.2.1]++([Value.int .i64 v.2.2.1]++([Value.int .i64 v.2.2.2.1]++([Value.int .i64 v.2.2.2.2.1]++((Kd.ar 32 .u8).cells v.2.2.2.2.2.1++[])))))).drop 5).take (Kd.ar 32 .u8).size=_;simp only [List.singleton_append,List.drop_succ_cons,List.drop_zero,YAD];rw[YAb (by rw[Kd.cells_length];exact YAg _)])⟩
theorem ite_ge {a b:Int} {P Q:Prop} (h1:b≤a→P) (h2:a<b→Q):if decide (a≥b)=true then P else Q:=by
 by_cases h:b≤a
 ·rw[if_pos (by simpa using h)];exact h1 h
 ·rw[if_neg (by simpa using h)];exact h2 (by omega)
theorem ite_le {a b:Int} {P Q:Prop} (h1:a≤b→P) (h2:b<a→Q):if decide (a≤b)=true then P else Q:=by
 by_cases h:a≤b
 ·rw[if_pos (by simpa using h)];exact h1 h
 ·rw[if_neg (by simpa using h)];exact h2 (by omega)
theorem ite_eq {a b:Int} {P Q:Prop} (h1:a=b→P) (h2:a≠b→Q):if decide (a=b)=true then P else Q:=by
 by_cases h:a=b
 ·rw[if_pos (by simpa using h)];exact h1 h
 ·rw[if_neg (by simpa using h)];exact h2 h
theorem ZBO.s {x:InoK.Ty} {h:Heap} {K:Bool→Heap→Prop} (hK:∀h',Keep [] h h'→K (inoMay x) h'):ZBO.C x h K:=by
 apply ZBO.c;unfold ZBO.m;refine new_gen fun b1 h1 hb1 k1 e1 hs1 =>?_;obtain ⟨f0,f1,f2,f3,f4,_⟩:=ino_f (sm_all e1);refine jn_at (inoMay x,()) h1 ?_ (hK h1 k1);unfold inoMay ndN;generalize iN x=n at *;generalize iK x=k at *;generalize iM x=m at *;generalize iL x=l at *;generalize iS x=s at *
 repeat' first | with_reducible refine ld_go f0 ?_ | with_reducible refine ld_go f1 ?_ | with_reducible refine ld_go f2 ?_ | with_reducible refine ld_go f3 ?_ | with_reducible refine ld_go f4 ?_ | with_reducible refine ite_ge (fun hc =>?_) (fun hc =>?_) | with_reducible refine ite_le (fun hc =>?_) (fun hc =>?_) | with_reducible refine ite_eq (fun hc =>?_) (fun hc =>?_)
 all_goals
  refine ⟨Prod.ext ?_ rfl,by first | rfl | trivial⟩;dsimp only;show (_:Bool)=_;rw[Bool.eq_iff_iff];simp only [decide_eq_true_eq,YAm,Bool.or_eq_true,Bool.false_eq_true]
  clear f0 f1 f2 f3 f4 e1 hK
  simp only [Kd.Ty,false_iff] at *;omega
theorem ZBv.s {v:NdV} {x:Nd} {h:Heap} {K:Bool→Heap→Prop} (a:NdAt h v x) (hl:x.ents.length≤9223372036854775807) (hK:∀h',Keep [] h h'→K (ndMay x) h'):ZBv.C v h K:=by
 apply ZBv.c;unfold ZBv.m;refine new_gen fun b1 h1 hb1 k1 e1 hs1 =>?_;obtain ⟨f0,f1,f2,f3,f4,f5⟩:=nd_f (sm_all e1);rw[a.n] at f0;rw[a.k] at f1;rw[a.m] at f2;rw[a.l] at f3;rw[a.d] at f4;refine ld_go f0 (ld_go f1 (ld_go f2 (ld_go f3 ?_)));refine new_st_gen fun b2 h3 hb2 k3 e3 hs3 =>?_;have k03:Keep [] h h3:=k1.n k3;have g:=fun {n:Nat} {k:Kd} {y:k.Ty} (h':Heap) (kk:Keep [] h1 h') (hk:0<k.size) (e:sm k ((Pl.mk b1 0).fld n) y h1)=>sm_keep hk e kk;refine jn_in (fun y h'=>Keep [] h3 h'∧y.1 = !(ndNum x&&decide (x.data.size≤4096)&&dirMay x.ents)) ?_ ?_
 ·refine ld_go (sm_all e3) ?_;refine ZBO.s fun h5 k5 =>?_
  have hi:inoMay (x.num,(x.kind,(x.mode,(x.links,(0,(Vector.replicate 32 0,()))))))=ndNum x:=by
   unfold inoMay ndNum;show (ndN x.num x.kind x.mode x.links&&decide ((0:Int)≤0)&&decide ((0:Int)≤4096)&&(decide (x.kind≠1)||decide ((0:Int)=0)))=_;simp
  rw[hi]
  cases hn:ndNum x with
  | false=>rw[if_pos (by rfl)];exact ⟨k5,rfl⟩
  | true =>
    rw[if_neg (by simp)];have k15:Keep [] h1 h5:=k3.n k5;refine ld_go (g h5 k15 (by decide) f4) ?_;by_cases hd:x.data.size≤4096
    ·rw[if_neg (by simp;omega)];refine ld_go (g h5 k15 (by decide) f5) ?_;refine ZBo.s ((a.e.keep (by decide) k1).keep (by decide) k15) hl fun h6 k6=>⟨k5.n k6,?_⟩;rw[dT hd];rfl
    ·rw[if_pos (by simp;omega)];exact ⟨k5,by rw[dF hd];rfl⟩
 ·rintro ⟨(y:Bool),_⟩ h4 ⟨k4,ey⟩;dsimp only at ey ⊢;have k14:Keep [] h1 h4:=k3.n k4;have k04:Keep [] h h4:=k03.n k4;rw[ey]
  cases hb:(ndNum x&&decide (x.data.size≤4096)&&dirMay x.ents) with
  | false =>
    rw[if_pos (by rfl)]
    have:ndMay x=false:=by
     unfold ndMay
     cases hn:ndNum x with
     | false=>rfl
     | true =>
       rw[hn] at hb;simp only [YAn] at hb ⊢;split
       ·by_cases hd:x.data=⟨#[]⟩
        ·rw[hd] at hb;have h0:(⟨#[]⟩:ByteArray).size=0:=rfl;rw[h0] at hb;simp only [dT (show (0:Nat)≤4096 by omega),YAn] at hb;rw[hb];simp
        ·simp[hd]
       ·by_cases he:x.ents=[]
        ·rw[he,show dirMay []=true from rfl] at hb;simp only [Bool.and_true] at hb;rw[hb];rfl
        ·simp[he]
    have:=hK h4 k04
    simp_all
  | true =>
    rw[if_neg (by simp)];simp only [YAm,decide_eq_true_eq] at hb;obtain ⟨⟨h1',h2⟩,h3'⟩:=hb;refine ld_go (g h4 k14 (by decide) f1) ?_;have hK:=hK h4 k04;unfold ndMay at hK;rw[h1',h3'] at hK;by_cases hk:x.kind=1
    ·rw[if_pos (by simpa using hk)];rw[if_pos hk] at hK;refine ld_go (g h4 k14 (by decide) f4) ?_;simpa using hK
    ·rw[if_neg (by simpa using hk)];rw[if_neg hk,dT h2] at hK;refine ld_go (g h4 k14 (by decide) f5) ?_;have gl:=a.e.len
     have:decide (((vEnts v).len:Int)=0)=decide (x.ents=[]):=by
      rw[gl]
      cases x.ents with
      | nil=>rfl
      | cons=>simp;omega
     rw[this];simpa using hK
section
variable {t0:Slc} {ss:List Slc} {vv:List (List NdV)} {X:Fs} {h:Heap}
theorem StW.lens (w:StW h t0 ss vv X):t0.len=X.length∧ss.length=X.length∧vv.length=X.length:=by
 have h1:=w.t.len;have h2:=w.r.len;have h3:=w.n.len;exact ⟨by omega,by omega,by omega⟩
theorem StW.tab (w:StW h t0 ss vv X) {o:Nat} (ho:o<X.length) {K:Slc→Prop} (hK:K (ss[o]'(by have:=w.lens;omega))):ix t0 (o:Int) 1 fun l=>ld .sl l h K:=by
 have:=w.lens;exact seg_ix w.t (x:=ss[o]'(by omega)) (by omega) (by first | (simp;done) | (simp;omega)) rfl hK
theorem StW.row (w:StW h t0 ss vv X) {o:Nat} (ho:o<X.length):Seg NdK (ss[o]'(by have:=w.lens;omega)) (vv[o]'(by have:=w.lens;omega)) h:=by
 have:=w.lens;exact w.r.getI (by omega) (by omega)
theorem StW.nds (w:StW h t0 ss vv X) {o:Nat} (ho:o<X.length):All2 (NdAt h) (vv[o]'(by have:=w.lens;omega)) X[o]:=by
 have:=w.lens;exact w.n.getI (by omega) ho
theorem StW.rlen (w:StW h t0 ss vv X) {o:Nat} (ho:o<X.length):(ss[o]'(by have:=w.lens;omega)).len=(X[o]).length∧(vv[o]'(by have:=w.lens;omega)).length=(X[o]).length:=by
 have h1:=(w.row ho).len;have h2:=(w.nds ho).len;exact ⟨by omega,h2⟩
theorem StW.nd (w:StW h t0 ss vv X) {o j:Nat} (ho:o<X.length) (hj:j<(X[o]).length) {K:NdV→Prop} (hK:∀v,NdAt h v (X[o])[j]→K v):ix (ss[o]'(by have:=w.lens;omega)) (j:Int) 6 fun l=>ld NdK l h K:=by
 have h1:=w.rlen ho;exact seg_ix (w.row ho) (x:=(vv[o]'(by have:=w.lens;omega))[j]'(by omega)) (by omega) (by first | (simp;done) | (simp;omega)) rfl (hK _ ((w.nds ho).getI (by omega) hj))
theorem StW.ndl (w:StW h t0 ss vv X) {o j:Nat} (ho:o<X.length) (hj:j<(X[o]).length) {K:Pl→Prop} (hK:∀l v,sm NdK l v h→NdAt h v (X[o])[j]→K l):ix (ss[o]'(by have:=w.lens;omega)) (j:Int) 6 fun l=>K l:=by
 have h1:=w.rlen ho;refine seg_ixl (w.row ho) (x:=(vv[o]'(by have:=w.lens;omega))[j]'(by omega)) (by omega) (by first | (simp;done) | (simp;omega)) rfl fun l hl=>hK l _ hl ((w.nds ho).getI (by omega) hj)
theorem ZC8.s {r:Rf} {K:Int→Heap→Prop} (w:StW h t0 ss vv X) (hl:∀t∈X,t.length≤9223372036854775807)
 (hN:findN X r=none→∀h',Keep [] h h'→K (-1) h')
 (hS:∀o j,(ho:o<X.length)→(hj:j<(X[o]).length)→r.1=(o:Int)→findN X r=some (X[o])[j]→∀h',Keep [] h h'→K (j:Int) h'):ZC8.C (t0,()) r h K:=by
 obtain ⟨(ro:Int),(rn:Int),⟨⟩⟩:=r;apply ZC8.c;unfold ZC8.m;refine new_gen fun b1 h1 hb1 k1 e1 hs1 =>?_;have e1:h1[b1]? = some (vobj t_api_State StaK ((t0,()):StaK.Ty)):=e1;refine new_gen fun b2 h2 hb2 k2 e2 hs2 =>?_;have e2:h2[b2]? = some (vobj t_api_Ref RF ((ro,(rn,())):RF.Ty)):=e2;have e1:=k2.g e1;have k02:Keep [] h h2:=k1.n k2;have w2:=w.keep k02;have f0:sm .sl ((Pl.mk b1 0).fld 0) t0 h2:=sm_sub (sm_all e1) (by decide) rfl;have fo:sm .i ((Pl.mk b2 0).fld 0) ro h2:=sm_sub (sm_all e2) (by decide) rfl;have fn:sm .i ((Pl.mk b2 0).fld 1) rn h2:=sm_sub (sm_all e2) (by decide) rfl;have L:=w2.lens;by_cases hr:0≤ro∧ro<X.length
 ·refine jn_at (false,()) h2 ?_ ?_
  ·refine ld_go fo ?_;rw[if_neg (show ¬decide (ro<0)=true by simp;omega)];refine ld_go fo (ld_go f0 ⟨?_,by first | rfl | trivial⟩);rw[dF (show ¬ro≥(t0.len:Int) by omega)]
  rw[if_neg (by simp)];obtain ⟨o,rfl⟩:∃o:Nat,ro=o:=⟨ro.toNat,by omega⟩;have ho:o<X.length:=by omega
  have hlo:=hl _ (YAN ho);have rl:=w2.rlen ho;refine lp_go (fun (y:Int×Unit) (h3:Heap)=>h3=h2∧∃n:Nat,y.1=n∧n≤(X[o]).length∧∀j,(hj:j<(X[o]).length)→j<n→decide ((X[o])[j].num=rn)=false) (fun (y:Int×Unit) _=>(X[o]).length-y.1.toNat) ?_ ?_
  ·exact ⟨rfl,0,rfl,by omega,fun j hj h=>by omega⟩
  ·rintro ⟨(i:Int),_⟩ h3 ⟨rfl,n,e,hn,hall⟩;dsimp only at e ⊢;subst e;refine ld_go f0 (ld_go fo (w2.tab ho ?_));by_cases hlt:n<(X[o]).length
   ·rw[if_pos (show decide ((n:Int)<((ss[o]'(by omega)).len:Int))=true from dT (by omega))];have hw:w64 ((n:Int)+1)=((n+1:Nat):Int):=w6 (by omega);rw[hw];refine ld_go f0 (ld_go fo (w2.tab ho ?_));refine w2.ndl ho hlt fun l v hsm ha =>?_;have g:=(nd_f hsm).1;rw[ha.n] at g;refine ld_go g (ld_go fn ?_);by_cases hq:(X[o])[n].num=rn
    ·rw[if_pos (show decide ((X[o])[n].num=rn)=true from dT hq)];refine hS o n ho hlt rfl ?_ h3 k02;unfold findN;rw[tabOf_at ho];exact findG_at hlt hall (dT hq)
    ·rw[if_neg (show ¬decide ((X[o])[n].num=rn)=true by simpa using hq)];refine ⟨⟨by first | rfl | trivial,n+1,rfl,by omega,fun j hj hjn =>?_⟩,by simp;omega⟩;by_cases hje:j=n
     ·subst hje;exact dF hq
     ·exact hall j hj (by omega)
   ·rw[if_neg (show ¬decide ((n:Int)<((ss[o]'(by omega)).len:Int))=true by simp;omega)];refine hN ?_ h3 k02;unfold findN;rw[tabOf_at ho];exact findG_no fun j hj=>hall j hj (by omega)
 ·refine jn_at (true,()) h2 ?_ ?_
  ·refine ld_go fo ?_;by_cases h0:ro<0
   ·rw[if_pos (show decide (ro<0)=true from dT h0)];exact ⟨rfl,by first | rfl | trivial⟩
   ·rw[if_neg (show ¬decide (ro<0)=true by simp;omega)];refine ld_go fo (ld_go f0 ⟨?_,by first | rfl | trivial⟩);rw[dT (show ro≥(t0.len:Int) by omega)]
  rw[if_pos (by rfl)];refine hN ?_ h2 k02;unfold findN tabOf;rw[if_neg hr];rfl
theorem tabMay_iff {t:Tab}:tabMay t=true↔∀j,(hj:j<t.length)→ndMay t[j]=true∧(0<j→(t[j-1]'(by omega)).num<t[j].num):=by
 unfold tabMay;rw[YAm,risesN_iff,YAB]
 constructor
 ·rintro ⟨h1,h2⟩ j hj;refine ⟨h2 _ (YAN hj),fun h0 =>?_⟩;have:=h1 (j-1) (by omega);have e:j-1+1=j:=by omega
  simp only [e] at this;exact this
 ·intro hh;refine ⟨fun j hj =>?_,fun x hx =>?_⟩
  ·exact (hh (j+1) hj).2 (by omega)
  ·obtain ⟨j,hj,rfl⟩:=List.getElem_of_mem hx;exact (hh j hj).1
theorem ZBa.s {K:Bool→Heap→Prop} (w:StW h t0 ss vv X) (hl:Lens X) (hK:∀h',Keep [] h h'→K (stMay X) h'):ZBa.C (t0,()) h K:=by
 apply ZBa.c;unfold ZBa.m;refine new_gen fun b1 h1 hb1 k1 e1 hs1 =>?_;have e1:h1[b1]? = some (vobj t_api_State StaK ((t0,()):StaK.Ty)):=e1;have w1:=w.keep k1;have L:=w1.lens;have f0:∀h',Keep [] h1 h'→sm .sl ((Pl.mk b1 0).fld 0) t0 h':=fun h' k=>sm_sub (sm_all (k.g e1)) (by decide) rfl;by_cases hlen:1≤X.length∧X.length≤24
 case neg=>
  refine jn_at (true,()) h1 ?_ ?_
  ·refine ld_go (f0 h1 Keep.rfl) ?_;by_cases h0:X.length<1
   ·rw[if_pos (show decide ((t0.len:Int)<1)=true from dT (by omega))];exact ⟨rfl,by first | rfl | trivial⟩
   ·rw[if_neg (show ¬decide ((t0.len:Int)<1)=true by simp;omega)];refine ld_go (f0 h1 Keep.rfl) ⟨?_,by first | rfl | trivial⟩;rw[dT (show (t0.len:Int)>24 by omega)]
  rw[if_pos (by rfl)]
  have hm:stMay X=false:=by
   cases hm:stMay X with
   | false=>rfl
   | true=>have:=st_ok hm;exact absurd ⟨this.1,this.2.1⟩ hlen
  rw[hm] at hK;exact hK h1 k1
 refine jn_at (false,()) h1 ?_ ?_
 ·refine ld_go (f0 h1 Keep.rfl) ?_;rw[if_neg (show ¬decide ((t0.len:Int)<1)=true by simp;omega)];refine ld_go (f0 h1 Keep.rfl) ⟨?_,by first | rfl | trivial⟩;rw[dF (show ¬(t0.len:Int)>24 by omega)]
 rw[if_neg (by simp)]
 have bad:∀o,(ho:o<X.length)→tabMay X[o]=false→∀h',Keep [] h h'→K false h':=fun o ho hb h' k=>by
  have hm:stMay X=false:=by
   cases hm:stMay X with
   | false=>rfl
   | true=>have:=(st_ok hm).2.2.1 _ (YAN ho);rw[hb] at this;simp at this
  rw[hm] at hK;exact hK h' k
 refine lp_go (fun (y:Int×Unit) (h3:Heap)=>∃n:Nat,y.1=n∧n≤X.length∧Keep [] h1 h3∧∀j,(hj:j<X.length)→j<n→tabMay X[j]=true) (fun (y:Int×Unit) _=>X.length-y.1.toNat) ?_ ?_
 ·exact ⟨0,rfl,by omega,Keep.rfl,fun j hj h=>by omega⟩
 ·rintro ⟨(i:Int),_⟩ h3 ⟨n,e,hn,k3,hall⟩;dsimp only at e ⊢;subst e;have k03:Keep [] h h3:=k1.n k3;refine ld_go (f0 h3 k3) ?_;by_cases hlt:n<X.length
  ·rw[if_pos (show decide ((n:Int)<(t0.len:Int))=true from dT (by omega))];have hw:w64 ((n:Int)+1)=((n+1:Nat):Int):=w6 (by omega);rw[hw];have w3:=w1.keep k3;refine ld_go (f0 h3 k3) (w3.tab hlt ?_);have rl:=w3.rlen hlt;have hlo:=(hl.2 _ (YAN hlt)).1;refine lp_go (fun (y:Int×Unit) (h4:Heap)=>∃q:Nat,y.1=q∧q≤(X[n]).length∧Keep [] h1 h4∧∀j,(hj:j<(X[n]).length)→j<q→ndMay (X[n])[j]=true∧(0<j→((X[n])[j-1]'(by omega)).num<(X[n])[j].num)) (fun (y:Int×Unit) _=>(X[n]).length-y.1.toNat) ?_ ?_
   ·exact ⟨0,rfl,by omega,k3,fun j hj h=>by omega⟩
   ·rintro ⟨(i:Int),_⟩ h4 ⟨q,e,hq,k4,hall2⟩;dsimp only at e ⊢;subst e;have w4:=w1.keep k4;have k04:Keep [] h h4:=k1.n k4;by_cases hlq:q<(X[n]).length
    ·rw[if_pos (show decide ((q:Int)<((ss[n]'(by omega)).len:Int))=true from dT (by omega))];have hwq:w64 ((q:Int)+1)=((q+1:Nat):Int):=w6 (by omega);rw[hwq]
     have no:¬(ndMay (X[n])[q]=true∧(0<q→((X[n])[q-1]'(by omega)).num<(X[n])[q].num))→tabMay X[n]=false:=fun hno=>by
      cases hm:tabMay X[n] with
      | false=>rfl
      | true=>exact absurd (tabMay_iff.1 hm q hlq) hno
     refine jn_in (fun _ h'=>Keep [] h1 h'∧ndMay (X[n])[q]=true∧(0<q→((X[n])[q-1]'(by omega)).num<(X[n])[q].num)) ?_ ?_
     ·refine jn_in (fun y h'=>Keep [] h1 h'∧y.1 = !decide (ndMay (X[n])[q]=true∧(0<q→((X[n])[q-1]'(by omega)).num<(X[n])[q].num))) ?_ ?_
      ·refine w4.nd hlt hlq fun v ha =>?_;refine ZBv.s ha (hl.2 _ (YAN hlt) |>.2 _ (YAN hlq)) fun h7 k7 =>?_;have k17:Keep [] h1 h7:=k4.n k7;have w7:=w1.keep k17
       cases hm:ndMay (X[n])[q] with
       | false=>rw[if_pos (by rfl)];exact ⟨k17,by simp⟩
       | true =>
         rw[if_neg (by simp)];by_cases h0:0<q
         ·rw[if_pos (show decide ((q:Int)>0)=true from dT (by omega))];have hwm:w64 ((q:Int)-1)=((q-1:Nat):Int):=w6 (by omega);rw[hwm];refine w7.ndl hlt (show q-1<(X[n]).length by omega) fun l v hs ha =>?_;have g:=(nd_f hs).1;rw[ha.n] at g;refine ld_go g ?_;refine w7.ndl hlt hlq fun l v hs ha =>?_;have g':=(nd_f hs).1;rw[ha.n] at g';refine ld_go g' ⟨k17,?_⟩;by_cases hlt2:((X[n])[q-1]'(by omega)).num<(X[n])[q].num
          ·have hd:true=true∧(0<q→((X[n])[q-1]'(by omega)).num<(X[n])[q].num):=⟨rfl,fun _=>hlt2⟩;rw[dT hd];show decide (((X[n])[q-1]'(by omega)).num≥(X[n])[q].num)=false;exact dF (show ¬((X[n])[q].num≤((X[n])[q-1]'(by omega)).num) by omega)
          ·have hd:¬(true=true∧(0<q→((X[n])[q-1]'(by omega)).num<(X[n])[q].num)):=fun h=>hlt2 (h.2 h0);rw[dF hd];show decide (((X[n])[q-1]'(by omega)).num≥(X[n])[q].num)=true;exact dT (show (X[n])[q].num≤((X[n])[q-1]'(by omega)).num by omega)
         ·rw[if_neg (show ¬decide ((q:Int)>0)=true by simp;omega)];refine ⟨k17,?_⟩;rw[dT (⟨rfl,fun h=>absurd h h0⟩:true=true∧(0<q→((X[n])[q-1]'(by omega)).num<(X[n])[q].num))]
          rfl
      ·rintro ⟨(y:Bool),_⟩ h6 ⟨k6,ey⟩;dsimp only at ey ⊢;rw[ey];by_cases hok:ndMay (X[n])[q]=true∧(0<q→((X[n])[q-1]'(by omega)).num<(X[n])[q].num)
       ·rw[dT hok,if_neg (by simp)];exact ⟨k6,hok⟩
       ·rw[dF hok,if_pos (by rfl)];exact bad n hlt (no hok) h6 (k1.n k6)
     ·rintro ⟨⟩ h5 ⟨k5,hok⟩;refine ⟨⟨q+1,rfl,by omega,k5,fun j hj hjq =>?_⟩,by simp;omega⟩;by_cases hje:j=q
      ·subst hje;exact hok
      ·exact hall2 j hj (by omega)
    ·rw[if_neg (show ¬decide ((q:Int)<((ss[n]'(by omega)).len:Int))=true by simp;omega)];refine ⟨⟨n+1,rfl,by omega,k4,fun j hj hjn =>?_⟩,by simp;omega⟩;by_cases hje:j=n
     ·subst hje;exact tabMay_iff.2 fun p hp=>hall2 p hp (by omega)
     ·exact hall j hj (by omega)
  ·rw[if_neg (show ¬decide ((n:Int)<(t0.len:Int))=true by simp;omega)];have w3:=w1.keep k3;refine ld_go (sm_all (k3.g e1)) ?_
   have all:X.all tabMay=true:=List.all_eq_true.2 fun t ht=>by
    obtain ⟨j,hj,rfl⟩:=List.getElem_of_mem ht;exact hall j hj (by omega)
   have hst:stMay X=(match findN X rootR with | some x=>decide (x.kind=1) | none=>false):=by
    unfold stMay;rw[all,dT hlen.1,dT hlen.2];rfl
   refine ZC8.s w3 (fun t ht=>(hl.2 t ht).1) (fun hnone h8 k8 =>?_) fun o j ho hj hro hfi h8 k8 =>?_
   ·rw[show findN X rootR=none from hnone] at hst;have k08:Keep [] h h8:=k03.n k8;refine jn_at (false,()) h8 ?_ ?_
    ·rw[if_neg (by decide)];exact ⟨rfl,by first | rfl | trivial⟩
    ·rw[hst] at hK;exact hK h8 k08
   ·have k08:Keep [] h h8:=k03.n k8;have k18:Keep [] h1 h8:=k3.n k8;have w8:=w1.keep k18;have ho0:o=0:=by have:(0:Int)=(o:Int):=hro;omega
    subst ho0;rw[show findN X rootR=some (X[0])[j] from hfi] at hst;refine jn_at (decide ((X[0])[j].kind=1),()) h8 ?_ ?_
    ·rw[if_pos (show decide ((j:Int)≥0)=true from dT (by omega))];refine ld_go (f0 h8 k18) ?_
     have ht:=w8.tab ho (K:=fun x=>ix x (j:Int) 6 fun l6=>ld .i (l6.fld 1) h8 fun x14=>(decide (x14=(1:Int)),())=(decide ((X[0])[j].kind=1),())∧h8=h8) (w8.ndl ho hj fun l v hs ha=>by
      have g:=(nd_f hs).2.1;rw[ha.k] at g;exact ld_go g ⟨rfl,rfl⟩)
     exact ht
    ·rw[hst] at hK;exact hK h8 k08
end
theorem lv_go:∀ {ds:List Nat} {h:Heap} {K:Heap→Prop},(∀d∈ds,h[d]? = some (.deferred (some [])))→ds.Nodup→(∀h',Keep ds h h'→K h')→lv ds h K
 | [],h,K,_,_,hK=>hK h Keep.rfl
 | d :: r, h, K, hd, hn, hK => by
   obtain ⟨h1,h2⟩:=List.nodup_cons.1 hn;refine ⟨hd d (by simp),lv_go (fun q hq=>get_set_ne (hd q (by simp[hq])) (fun e=>h1 (e ▸ hq))) h2 fun h' k'=>hK h' (keep_set.then k' (fun q hq _ =>?_) (fun q hq _=>by simp[hq]))⟩;simp at hq;simp[hq]
theorem may_ino {t:Tab} (h:tabMay t=true):itabMay (t.map inoOf)=true:=by
 obtain ⟨h1,h2,h3⟩:=tab_ok h;unfold itabMay;rw[YAm]
 constructor
 ·rw[YAB];intro y hy;obtain ⟨x,hx,rfl⟩:=List.mem_map.1 hy;obtain ⟨a,b,c,d,e,f,g,i⟩:=nd_ok (h2 x hx);unfold inodMay ndN inoOf;have hz:=(nd_small (h2 x hx)).1
  have:(x.data.size:Int)≤if x.kind=1 then 0 else 4096:=by
   split
   ·rename_i hk
    rw[(g hk).1];decide
   ·omega
  simp[a,b,c,d,e,f,this]
 ·rw[risesO_iff];intro j hj;simp only [YAM];exact (risesN_iff t).1 h1 j (by simpa using hj)
theorem tabText_size {t:Tab} (h:t.length≤32):(tabText t).size≤1218:=by
 unfold tabText itabBytes;rw[bx_size];simp only [YAO,be_len,itabFlat,YAR];omega
theorem flatObjs_len:∀ {l:Tab},(∀x∈l,ndMay x=true)→(l.flatMap ndObjs).length≤73*l.length
 | [],_=>by simp
 | a :: r, h => by
   have h1:=flatObjs_len (l:=r) fun x hx=>h x (by simp[hx]);have h2:=(ndObjs_len (h a (by simp))).2;rw[YAI,YAO,YAP];omega
theorem vobj_ne {h:Heap} {b T T':Nat} {k k':Kd} {x:k.Ty} {y:k'.Ty} (e:h[b]? = some (vobj T k x)) (e':h[b]? = some (vobj T' k' y)) (hT:T≠T'):False:=by
 have:=Option.some.inj (e.symm.trans e');unfold vobj at this
 injection this with _ h2 _
 exact hT h2
structure BdI (h0:Heap) (b2 b3 b4 c0 l:Nat) (sl:Slc) (ob:Obj) (L:List ByteArray) (ns:List Ino) (s:Slc) (m:Option Nat) (sN:Slc) (hh:Heap):Prop where
 ls:LsAt hh b2 s m L
 rw:Row hh t_api_Inode InK sN (ns.map inoV)
 e4:hh[b4]? = some (vobj t_s_api_Inode .sl sN)
 e3:hh[b3]? = some (vobj t_p_object_List_string .p (some ⟨b2,0⟩))
 ec:hh[c0]? = some (vobj t_s_api_Node .sl sl)
 el:hh[l]? = some ob
 k:Keep [] h0 hh
 n1:l∉lsFp b2 s m
 n2:l∉own sN
 lo:∀q∈lsFp b2 s m++own sN++[b4,l],h0.size≤q
def bdW (b2 b4 l:Nat) (s:Slc) (m:Option Nat) (sN:Slc):List Nat:=lsFp b2 s m++own sN++[b4,l]
theorem BdI.keep0 {h0 hh h':Heap} {b2 b3 b4 c0 l:Nat} {sl:Slc} {ob:Obj} {L:List ByteArray} {ns:List Ino} {s:Slc} {m:Option Nat} {sN:Slc} (i:BdI h0 b2 b3 b4 c0 l sl ob L ns s m sN hh) (k:Keep [] hh h'):BdI h0 b2 b3 b4 c0 l sl ob L ns s m sN h':=
 ⟨i.ls.keep0 k,i.rw.keep k (by simp),k.g i.e4,k.g i.e3,k.g i.ec,k.g i.el,i.k.n k,i.n1,i.n2,i.lo⟩
theorem BdI.lt {h0 hh:Heap} {b2 b3 b4 c0 l:Nat} {sl:Slc} {ob:Obj} {L:List ByteArray} {ns:List Ino} {s:Slc} {m:Option Nat} {sN:Slc} (i:BdI h0 b2 b3 b4 c0 l sl ob L ns s m sN hh):∀q∈bdW b2 b4 l s m sN,q<hh.size:=fun q hq=>by
 simp only [bdW,YAV,YAW,YAX,or_false] at hq;rcases hq with (h | h) | rfl | rfl
 ·exact i.ls.lt q h
 ·exact i.rw.lt q h
 ·exact lt_of_some i.e4
 ·exact lt_of_some i.el
theorem BdI.turn {h0 hh:Heap} {b2 b3 b4 c0 l:Nat} {sl:Slc} {ob ob':Obj} {L:List ByteArray} {ns:List Ino} {s:Slc} {m:Option Nat} {sN:Slc} (i:BdI h0 b2 b3 b4 c0 l sl ob L ns s m sN hh) (c3:b3≠l) (c4:b4≠l) (cc:c0≠l):BdI h0 b2 b3 b4 c0 l sl ob' L ns s m sN (hh.setIfInBounds l ob'):=by
 have ks:Keep [l] hh (hh.setIfInBounds l ob'):=keep_set;exact ⟨i.ls.keep ks (fun q hq hm=>by simp at hm;subst hm;exact i.n1 hq),i.rw.keep ks (fun q hq hm=>by simp at hm;subst hm;exact i.n2 hq),ks.get i.e4 (by simpa using c4),ks.get i.e3 (by simpa using c3),ks.get i.ec (by simpa using cc),get_set i.el,i.k.new ks (fun q hq=>by simp at hq;subst hq;exact i.lo _ (by simp)),i.n1,i.n2,i.lo⟩
theorem ZBz.s {t0:Slc} {ss:List Slc} {vv:List (List NdV)} {X:Fs} {h:Heap} {K:Slc→Slc→Int→Heap→Prop} (w:StW h t0 ss vv X) (sb:∀t∈X,t.length≤9223372036854775807)
 (hbad:stMay X=false→∀h',Keep [] h h'→K ⟨none,0,0⟩ ⟨none,0,0⟩ 1500 h')
 (hok:stMay X=true→∀h' o1 o2,Keep [] h h'→Row h' t_api_Hash HK o1 (buildH X)→Row h' t_string .s o2 (buildO X)→(∀q∈own o1,h.size≤q)→(∀q∈own o2,h.size≤q)→K o1 o2 0 h'):ZBz.C (t0,()) h K:=by
 apply ZBz.c;unfold ZBz.m;refine new_gen fun b1 h1 hb1 k1 e1 hs1 =>?_;have e1:h1[b1]? = some (vobj t_api_State StaK ((t0,()):StaK.Ty)):=e1;refine ld_go (sm_all e1) ?_;refine ZC1.s (w.keep k1) sb fun h2 k2 =>?_;have k02:Keep [] h h2:=k1.n k2
 cases hm:stMay X with
 | false =>
   rw[if_pos (by rfl)];exact hbad hm h2 k02
 | true=>
 rw[if_neg (by simp)];obtain ⟨x1,x2,x3,_⟩:=st_ok hm;refine new_gen fun b2 h3 hb2 k3 e3 hs3 =>?_;refine new_st_gen fun b3 h5 hb3 k5 e5 hs5 =>?_;have e5:h5[b3]? = some (vobj t_p_object_List_string .p (some ⟨b2,0⟩)):=e5;have i5:=(LsAt.new e3).keep0 k5;have e15:h5[b1]? = some (vobj t_api_State StaK ((t0,()):StaK.Ty)):=k5.g (k3.g (k2.g e1));refine ld_go (sm_sub (k' := .sl) (y:=t0) (n:=0) (sm_all e15) (by decide) rfl) ?_;have k05:Keep [] h h5:=(k02.n k3).n k5;have L0:=w.lens;refine lp_go (fun (y:List Nat×Slc×Int×Unit) (h6:Heap)=>∃n s m,y.2.2.1=((n:Nat):Int)∧n≤X.length∧Keep [] h h6∧LsAt h6 b2 s m (onceL [] ((X.take n).flatMap tabObjs))∧(∀q∈lsFp b2 s m,h.size≤q)∧h6[b3]? = some (vobj t_p_object_List_string .p (some ⟨b2,0⟩))∧Row h6 t_api_Hash HK y.2.1 ((X.take n).map fun t=>hashS (tabText t))∧(∀q∈own y.2.1,h.size≤q)∧(∀d∈y.1,h6[d]? = some (.deferred (some []))∧h.size≤d)∧y.1.Nodup) (fun (y:List Nat×Slc×Int×Unit) _=>X.length-y.2.2.1.toNat) ?_ ?_
 ·have s2:=k02.1;exact ⟨0,⟨none,0,0⟩,none,rfl,YAl _,k05,i5,fun q hq=>by simp[lsFp,own] at hq;omega,e5,Row.nil,by simp[own],by simp,List.nodup_nil⟩
 ·rintro ⟨(ds:List Nat),(hs:Slc),(i:Int),_⟩ h6 ⟨n,s,m,e,hn,k6,i6,lo6,e36,r6,o6,d6,nd6⟩;dsimp only at e r6 o6 d6 nd6 ⊢;subst e;by_cases hlt:n<X.length
  case neg=>
   rw[if_neg (show ¬decide ((n:Int)<(t0.len:Int))=true by simp;omega)];obtain rfl:n=X.length:=by omega
   rw[YAb (YAg _)] at i6 r6;refine ld_go (sm_all e36) (nck_go (ld_go (sm_fld i6.o rfl (by decide)) ?_));refine lv_go (fun d hd=>(d6 d hd).1) nd6 fun h7 k7 =>?_
   have nD:∀ {T:Nat} {k:Kd} {u:Slc} {xs:List k.Ty},Row h6 T k u xs→∀q∈own u,q∉ds:=fun r q hq hm=>by
    have e1:=(d6 q hm).1;rcases r with ⟨e,_⟩ | ⟨b,zs,e,_,_,e4⟩
    ·rw[e] at hq;simp[own] at hq
    ·have:q=b:=by unfold own at hq;rw[e] at hq;simpa using hq
     subst this;rw[e4] at e1;simp[robj] at e1
   exact hok hm h7 hs s (k6.new k7 fun d hd=>(d6 d hd).2) (r6.keep k7 (nD r6)) (i6.r.keep k7 (nD i6.r)) o6 (fun q hq=>lo6 q (by simp[lsFp,hq]))
  rw[if_pos (show decide ((n:Int)<(t0.len:Int))=true from dT (by omega))];have hwn:w64 ((n:Int)+1)=((n+1:Nat):Int):=w6 (by omega);rw[hwn];have w6:=w.keep k6;refine w6.tab hlt ?_;have gW:∀hh,Keep [] h hh→Seg NdK (ss[n]'(by omega)) (vv[n]'(by omega)) hh∧All2 (NdAt hh) (vv[n]'(by omega)) X[n]:=fun hh kk=>⟨(w.keep kk).row hlt,(w.keep kk).nds hlt⟩;have htm:=x3 _ (YAN hlt);obtain ⟨_,tm2,tm3⟩:=tab_ok htm;have htake:X.take (n+1)=X.take n++[X[n]]:=YAc hlt
  have hfl:((X.take n).flatMap tabObjs).length≤2400*n:=by
   have:∀(l:Fs),(∀t∈l,tabMay t=true)→(l.flatMap tabObjs).length≤2400*l.length:=by
    intro l
    induction l with
    | nil=>intro _;simp
    | cons a r ih =>
      intro h;have h1:=ih fun x hx=>h x (by simp[hx]);obtain ⟨_,q2,q3⟩:=tab_ok (h a (by simp));have h2:=flatObjs_len q2;rw[YAI,YAO,YAP];unfold tabObjs at h1 ⊢;rw[YAO,YAP,YAS];omega
   have h1:=this (X.take n) (fun x hx=>x3 x (List.take_subset _ _ hx));rw[YAT] at h1;omega
  have hLl:=onceL_len (L:=([]:List ByteArray)) (xs:=(X.take n).flatMap tabObjs);simp only [YAS,Nat.zero_add] at hLl
  have hLn:onceL [] ((X.take (n+1)).flatMap tabObjs)=once (onceL (onceL [] ((X.take n).flatMap tabObjs)) (X[n].flatMap ndObjs)) (tabText X[n]):=by
   rw[htake,YAH,onceL_app];simp only [YAI,YAJ,YAD];rw[show tabObjs X[n]=X[n].flatMap ndObjs++[tabText X[n]] from rfl,onceL_app,onceL_one]
  have hHn:(X.take (n+1)).map (fun t=>hashS (tabText t))=(X.take n).map (fun t=>hashS (tabText t))++[hashS (tabText X[n])]:=by rw[htake,YAU];rfl
  have hHl:((X.take n).map fun t=>hashS (tabText t)).length≤24:=by simp;omega
  generalize onceL [] ((X.take n).flatMap tabObjs)=L at i6 hLl hLn;generalize ((X.take n).map fun t=>hashS (tabText t))=H at r6 hHn hHl;generalize X[n]=t at *;generalize ss[n]'(by omega)=sl at *;generalize vv[n]'(by omega)=vs at *;refine new_gen fun b4 h7 hb4 k7 e7 hs7 =>?_;have e7:h7[b4]? = some (vobj t_s_api_Inode .sl ⟨none,0,0⟩):=e7;apply ZC3.c;unfold ZC3.m;refine new_gen fun c0 h8 hc0 k8 ec hs8 =>?_;have ec:h8[c0]? = some (vobj t_s_api_Node .sl sl):=ec;have k68:Keep [] h6 h8:=k7.n k8;have k08:Keep [] h h8:=k6.n k68;refine ⟨⟨ZAh.n,ZAh.fn,_,_,rfl,by kernel_rfl,by kernel_rfl,by kernel_rfl⟩,fun o hyd =>?_⟩;generalize hl:h8.size+1=l at hyd ⊢;have kH:Keep [] h8 ((h8.push (.deferred (some []))).push (o .ready)):=keep_push.trans keep_push;have hsz8:(h8.push (.deferred (some []))).size=h8.size+1:=by simp
  have eL:((h8.push (.deferred (some []))).push (o .ready))[l]? = some (o .ready):=by rw[←hl,←hsz8];exact get_push
  have eN:((h8.push (.deferred (some []))).push (o .ready))[h8.size]? = some (.deferred (some [])):=get_push_old get_push;have szH:((h8.push (.deferred (some []))).push (o .ready)).size=h8.size+2:=by simp
  generalize ((h8.push (.deferred (some []))).push (o .ready))=H8 at kH eL eN szH ⊢;have k6H:Keep [] h6 H8:=k68.n kH;have k0H:Keep [] h H8:=k08.n kH;have lt3:=lt_of_some e36;have lt2:=i6.lt;have s0:=k6.1;have c3:b3≠l:=by omega
  have c4:b4≠l:=by omega
  have cc:c0≠l:=by omega
  have iH:BdI h b2 b3 b4 c0 l sl (o .ready) L [] s m ⟨none,0,0⟩ H8:=
   ⟨i6.keep0 k6H,Row.nil,kH.g (k8.g e7),k6H.g e36,kH.g ec,eL,k0H,fun hq=>by have:=lt2 l hq;omega,by simp[own],fun q hq=>by
    simp only [own,YAD,YAV,YAW,YAX,or_false] at hq;rcases hq with h | h | h
    ·exact lo6 q h
    ·omega
    ·omega⟩
  refine callV_go (aa:=[yv l,Kd.p.val (some ⟨c0,0⟩)]) (by rfl) ?_;show ZAh.C (yv l) ⟨c0,0⟩ H8 _;refine ZAh.s (sl:=sl) (vs:=vs) (t:=t) (L0:=L) (W0:=bdW b2 b4 l s m ⟨none,0,0⟩) (fun L ns W hh=>∃s m sN,BdI h b2 b3 b4 c0 l sl (o .ready) L ns s m sN hh∧W=bdW b2 b4 l s m sN) tm2 tm3 (by omega) ?_ ?_ ?_ ⟨s,m,_,iH,rfl⟩ ?_
  ·rintro L ns W hh ⟨s,m,sN,i,rfl⟩;exact ⟨i.ec,(gW hh i.k).1,(gW hh i.k).2,i.lt⟩
  ·rintro L ns W hh hh' ⟨s,m,sN,i,rfl⟩ kk;exact ⟨s,m,sN,i.keep0 kk,rfl⟩
  ·rintro L ns W hh ob b x K' ⟨s,m,sN,i,rfl⟩ hLb hNb hK';refine hyd ((ob,(b,(inoV x,()))),()) hh K' i.el ?_;refine new_st_gen fun b5 h14 hb5 k14 e14 hs14 =>?_;have e14:h14[b5]? = some (vobj t_state_piece_203 PcK ((ob,(b,(inoV x,()))):PcK.Ty)):=e14;have i14:=i.keep0 k14;have ltW:=i.lt;refine ⟨i14.el,?_⟩;have i10:=i14.turn (ob':=o .busy) c3 c4 cc;have k10:Keep [l] h14 (h14.setIfInBounds l (o .busy)):=keep_set;have z10:(h14.setIfInBounds l (o .busy)).size=h14.size:=by simp
   have n5l:b5≠l:=by have:=ltW l (by simp[bdW]);omega
   have e10:=k10.get e14 (by simpa using n5l);generalize h14.setIfInBounds l (o .busy)=h10 at i10 k10 z10 e10 ⊢;have l5:b5=hh.size:=hb5;have nfp:b5∉lsFp b2 s m:=fun hq=>by have:=ltW b5 (by simp[bdW,hq]);omega
   refine jn_go (ld_go (sm_all i10.e3) (ld_go (sm_fld e10 rfl (by decide)) ?_));refine ZAD.s i10.ls (by omega) fun h16 s' m' i16 k16 f16 =>?_;have e16:=k16.get e10 nfp;refine ld_go (sm_fld (n:=1) (k' := .b) (y:=b) e16 rfl (by decide)) ?_;have a4:=k16.get i10.e4 (i10.ls.off i10.e4 (by decide) (by decide));have a3:=k16.get i10.e3 (i10.ls.off i10.e3 (by decide) (by decide));have ac:=k16.get i10.ec (i10.ls.off i10.ec (by decide) (by decide));have al:=k16.get i10.el i10.n1;have ar:=i10.rw.keep k16 (i10.ls.offRow i10.rw (by decide) (by decide));have lo1:∀q∈lsFp b2 s m,h.size≤q:=fun q hq=>i.lo q (by simp[hq]);have z1:=i.k.1;have z2:=k14.1;have z3:=k16.1;have ll:=ltW l (by simp[bdW])
   have n1':l∉lsFp b2 s' m':=fun hq=>by
    rcases f16 l hq with h | h
    ·exact i10.n1 h
    ·omega
   have i16':BdI h b2 b3 b4 c0 l sl (o .busy) (once L ob) ns s' m' sN h16:=⟨i16,ar,a4,a3,ac,al,i10.k.new k16 lo1,n1',i10.n2,fun q hq=>by
    simp only [YAV,YAW,YAX,or_false] at hq;rcases hq with (hq | hq) | hq
    ·rcases f16 q hq with h | h
     ·exact lo1 q h
     ·omega
    ·exact i.lo q (by simp[hq])
    ·exact i.lo q (by simp[hq])⟩
   have kA:Keep (bdW b2 b4 l s m sN) hh h16:=(k14.then k10 (by simp) (fun q hq _=>by simp at hq;subst hq;simp[bdW])).then k16 (fun q hq _=>hq) (fun q hq _=>by simp[bdW,hq])
   have wA:∀q∈bdW b2 b4 l s' m' sN,q∈bdW b2 b4 l s m sN∨hh.size≤q:=fun q hq=>by
    simp only [bdW,YAV,YAW,YAX,or_false] at hq ⊢;rcases hq with (hq | hq) | hq
    ·rcases f16 q hq with h | h
     ·exact .inl (.inl (.inl h))
     ·right;omega
    ·exact .inl (.inl (.inr hq))
    ·exact .inl (.inr hq)
   refine jn_go ?_
   cases b with
   | false =>
     rw[if_neg (by simp)];refine ⟨i16'.el,hK' _ _ ⟨s',m',sN,i16'.turn c3 c4 cc,rfl⟩ (kA.then keep_set (fun q hq _=>hq) (fun q hq _=>by simp at hq;subst hq;simp[bdW])) wA⟩
   | true =>
     rw[if_pos rfl];refine ld_go (sm_all i16'.e4) ?_;refine ld_go (sm_sub (k':=InK) (y:=inoV x) (n:=2) (sm_all e16) (by decide) ?_) ?_
     ·have:(PcK.cells ((ob,(true,(inoV x,()))):PcK.Ty)).drop 2=InK.cells (inoV x)++[]:=rfl;rw[this,YAD];exact YAb (by rw[Kd.cells_length];exact YAg _)
     refine app2 (by_:=72) i16'.rw rfl (by simp only [YAR];omega) fun sN' h19 k19 r19 o19 =>?_;have q4:=k19.get i16'.e4 (rowTag i16'.rw i16'.e4 (by decide));refine st_to q4 fun h20 k20 e20 hs20 =>?_;have k1620:Keep (b4::own sN) h16 h20:=k19.then k20 (fun q hq _=>by simp[hq]) (fun q hq _=>by simp at hq;simp[hq]);have n4ls:b4∉lsFp b2 s' m':=i16.off a4 (by decide) (by decide);have nrls:∀q∈own sN,q∉lsFp b2 s' m':=i16.offRow ar (by decide) (by decide)
     have x3':b3∉b4::own sN:=fun hq=>by
      rcases List.mem_cons.1 hq with h | h
      ·subst h;exact vobj_ne a3 a4 (by decide)
      ·exact rowTag ar a3 (by decide) h
     have xc':c0∉b4::own sN:=fun hq=>by
      rcases List.mem_cons.1 hq with h | h
      ·subst h;exact vobj_ne ac a4 (by decide)
      ·exact rowTag ar ac (by decide) h
     have xl':l∉b4::own sN:=fun hq=>by
      rcases List.mem_cons.1 hq with h | h
      ·exact c4 h.symm
      ·exact i10.n2 h
     have lo2:∀q∈b4::own sN,h.size≤q:=fun q hq=>by
      rcases List.mem_cons.1 hq with h | h
      ·subst h;exact i.lo _ (by simp)
      ·exact i.lo q (by simp[h])
     have n4':b4∉own sN':=rowTag r19 q4 (by decide)
     have i20:BdI h b2 b3 b4 c0 l sl (o .busy) (once L ob) (ns++[x]) s' m' sN' h20:=⟨i16.keep k1620 (fun q hq hm=>by
      rcases List.mem_cons.1 hm with h | h
      ·subst h;exact n4ls hq
      ·exact nrls q h hq),by
       rw[YAU];exact r19.keep k20 (fun q hq hm=>by simp at hm;subst hm;exact n4' hq),e20,k1620.get a3 x3',k1620.get ac xc',k1620.get al xl',i16'.k.new k1620 lo2,n1',fun hq=>by
      rcases o19 l hq with h | h
      ·exact i10.n2 h
      ·omega,fun q hq=>by
      simp only [YAV,YAW,YAX,or_false] at hq;rcases hq with (hq | hq) | hq
      ·exact i16'.lo q (by simp[hq])
      ·rcases o19 q hq with h | h
       ·exact i.lo q (by simp[h])
       ·omega
      ·exact i.lo q (by simp[hq])⟩
     refine ⟨i20.el,?_⟩;rw[if_pos rfl] at hK'
     refine hK' _ _ ⟨s',m',sN',i20.turn c3 c4 cc,rfl⟩ ((kA.then k1620 (fun q hq _=>hq) (fun q hq _=>by
      rcases List.mem_cons.1 hq with h | h
      ·subst h;simp[bdW]
      ·simp[bdW,h])).then keep_set (fun q hq _=>hq) (fun q hq _=>by simp at hq;subst hq;simp[bdW])) fun q hq =>?_
     have hq2:q∈bdW b2 b4 l s' m' sN∨q∈own sN':=by
      simp only [bdW,YAV,YAW,YAX,or_false] at hq ⊢;rcases hq with (hq | hq) | hq
      ·exact .inl (.inl (.inl hq))
      ·exact .inr hq
      ·exact .inl (.inr hq)
     rcases hq2 with h | h
     ·exact wA q h
     ·rcases o19 q h with h | h
      ·left;simp[bdW,h]
      ·right;omega
  ·rintro h9 W' ⟨s9,m9,sN,i9,rfl⟩ k9 f9;refine .inl ⟨i9.el,?_⟩;have i11:=i9.turn (ob':=o (.over false)) c3 c4 cc;have k11:Keep [l] h9 (h9.setIfInBounds l (o (.over false))):=keep_set;have z11:(h9.setIfInBounds l (o (.over false))).size=h9.size:=by simp
   generalize h9.setIfInBounds l (o (.over false))=h11 at i11 k11 z11 ⊢;have lH:=iH.lt
   have nH:∀q,q<h6.size→q∉lsFp b2 s m→q∉bdW b2 b4 l s m ⟨none,0,0⟩:=fun q hq hn hm=>by
    simp only [bdW,own,YAD,YAV,YAW,YAX,or_false] at hm;rcases hm with h | h | h
    ·exact hn h
    ·omega
    ·omega
   have kH11:Keep (bdW b2 b4 l s m ⟨none,0,0⟩) H8 h11:=k9.then k11 (fun q hq _=>hq) (fun q hq _=>by simp at hq;subst hq;simp[bdW]);have stay:∀(q:Nat) (ob:Obj),h6[q]? = some ob→q∉lsFp b2 s m→h11[q]? = some ob:=fun q ob e hn=>kH11.get (k6H.g e) (nH q (lt_of_some e) hn);have r11:Row h11 t_api_Hash HK hs H:=(r6.keep k6H (by simp)).keep kH11 (fun q hq=>nH q (r6.lt q hq) (i6.offRow r6 (by decide) (by decide) q hq))
   have dOff:∀d,h6[d]? = some (.deferred (some []))→d∉lsFp b2 s m:=fun d e hq=>by
    simp only [lsFp,YAW,YAV] at hq;rcases hq with rfl | hq | hq
    ·rw[i6.o] at e;simp[vobj] at e
    ·rcases i6.r with ⟨e',_⟩ | ⟨b,zs,e',_,_,e4⟩
     ·rw[e'] at hq;simp[own] at hq
     ·have:d=b:=by unfold own at hq;rw[e'] at hq;simpa using hq
      subst this;rw[e4] at e;simp[robj] at e
    ·cases hmm:m with
     | none=>rw[hmm] at hq;simp at hq
     | some r =>
       have:=i6.m;rw[hmm] at this hq;obtain ⟨es,c,e1,_⟩:=this;simp at hq;subst hq;unfold msm mobj at e1;rw[e] at e1;simp at e1
   have eN11:h11[h8.size]? = some (.deferred (some [])):=kH11.get eN (fun hm=>by
    simp only [bdW,own,YAD,YAV,YAW,YAX,or_false] at hm;rcases hm with h | h | h
    ·have:=lt2 _ h;omega
    ·omega
    ·omega)
   refine ld_go (sm_all i11.e4) ?_;have gN:=i11.rw.seg
   have hmv:(t.map inoOf).map (vIno∘inoV)=t.map inoOf:=by
    rw[show (vIno∘inoV)=id from funext fun x=>rfl,List.map_id]
   refine ZDD.s gN (by simp;omega) fun h21 k21 =>?_;rw[List.map_map,hmv,may_ino htm];simp only [if_true];have hts:=tabText_size tm3;show ZAR.C (tabText t) h21 _;refine ZAR.s (by omega) fun h22 k22 =>?_;refine new_st_gen fun b6 h24 hb6 k24 e24 hs24 =>?_;have e24:h24[b6]? = some (vobj t_api_Hash HK (hashS (tabText t))):=e24;have kk:Keep [] h11 h24:=(k21.n k22).n k24;have i24:=i11.keep0 kk;have hO:=onceL_len (L:=L) (xs:=t.flatMap ndObjs);have hO2:=flatObjs_len tm2;refine ld_go (sm_all i24.e3) ?_;show ZAD.C (some ⟨b2,0⟩) (tabText t) h24 _;refine ZAD.s i24.ls (by omega) fun h25 s25 m25 i25 k25 f25 =>?_;have e25:=k25.get e24 (i24.ls.off e24 (by decide) (by decide));refine ld_go (sm_all e25) ?_;have r24:=r11.keep kk (by simp);have r25:=r24.keep k25 (i24.ls.offRow r24 (by decide) (by decide));refine app2 (by_:=32) r25 rfl (by omega) fun s27 h27 k27 r27 o27 =>?_;have z21:=kk.1;have z25:=k25.1;have zH:=kH11.1;have z6:=k6H.1;have lo11:∀q∈lsFp b2 s9 m9,h.size≤q:=fun q hq=>i11.lo q (by simp[hq])
   have stay2:∀(q:Nat),h11[q]? = some (.deferred (some []))→h27[q]? = some (.deferred (some [])):=fun q e=>by
    have e24':=kk.g e
    have e25':=k25.get e24' (fun hq=>by
     simp only [lsFp,YAW,YAV] at hq;rcases hq with rfl | hq | hq
     ·rw[i24.ls.o] at e24';simp[vobj] at e24'
     ·rcases i24.ls.r with ⟨e',_⟩ | ⟨b,zs,e',_,_,e4⟩
      ·rw[e'] at hq;simp[own] at hq
      ·have:q=b:=by unfold own at hq;rw[e'] at hq;simpa using hq
       subst this;rw[e4] at e24';simp[robj] at e24'
     ·cases hmm:m9 with
      | none=>rw[hmm] at hq;simp at hq
      | some r =>
        have:=i24.ls.m;rw[hmm] at this hq;obtain ⟨es,c,e1,_⟩:=this;simp at hq;subst hq;unfold msm mobj at e1;rw[e24'] at e1;simp at e1)
    exact k27.get e25' (fun hq=>by
     rcases r25 with ⟨e',_⟩ | ⟨b,zs,e',_,_,e4⟩
     ·rw[e'] at hq;simp[own] at hq
     ·have:q=b:=by unfold own at hq;rw[e'] at hq;simpa using hq
      subst this;rw[e4] at e25';simp[robj] at e25')
   have e325:=k25.get i24.e3 (i24.ls.off i24.e3 (by decide) (by decide));refine ⟨⟨n+1,s25,m25,rfl,by omega,?_,?_,?_,?_,?_,?_,?_,?_⟩,by simp;omega⟩
   ·exact ((i11.k.n kk).new k25 lo11).new k27 o6
   ·rw[hLn];exact i25.keep k27 (fun q hq hm=>i25.offRow r25 (by decide) (by decide) q hm hq)
   ·intro q hq;rcases f25 q hq with h | h
    ·exact lo11 q h
    ·have:=i11.k.1;omega
   ·exact k27.get e325 (rowTag r25 e325 (by decide))
   ·rw[hHn];exact r27
   ·intro q hq;rcases o27 q hq with h | h
    ·exact o6 q h
    ·have:=i11.k.1;omega
   ·intro d hd;rcases List.mem_cons.1 hd with rfl | hd
    ·exact ⟨stay2 _ eN11,by have:=k08.1;omega⟩
    ·exact ⟨stay2 _ (stay d _ (d6 d hd).1 (dOff d (d6 d hd).1)),(d6 d hd).2⟩
   ·refine List.nodup_cons.2 ⟨fun hd =>?_,nd6⟩;have:=lt_of_some (d6 _ hd).1;have:=k68.1;omega
theorem known_snoc {os:List ByteArray} {d:ByteArray} {x:HsV} (hd:d.size≤65536):known (os++[d]) x=match known os x with | some y=>some y | none=>if hashS d=x then some d else none:=by
 unfold known;rw[List.find?_append]
 cases List.find? (fun d=>decide (d.size≤65536)&&decide (hashS d=x)) os with
 | some y=>rfl
 | none =>
   simp only [Option.none_or,List.find?_cons,List.find?_nil];by_cases h:hashS d=x
   ·rw[if_pos h,dT hd,dT h];rfl
   ·rw[if_neg h,dF h,Bool.and_false]
theorem hv_list {l:List UInt8} (h:l.length=32):(hv l).toList=l:=by
 unfold hv;rw[dif_pos h];simp[Vector.toList]
theorem hv_toList {z:HsV}:hv z.toList=z:=by
 apply Vector.toList_inj.1;rw[hv_list (by simp)]
theorem bx_inj {a b:List UInt8}:bx a=bx b↔a=b:=by
 constructor
 ·intro h;have:=congrArg (fun x:ByteArray=>x.data.toList) h;simpa[bx] using this
 ·rintro rfl;rfl
theorem sm_hash {T:Nat} {s:Slc} {l:List UInt8} {h:Heap} {K:Pl→Prop} (g:Seg .u8 s l h) (hl:l.length=32) (hK:∀p,sm HK p (hv l) h→K p):32≤s.len∧nck s.a K:=by
 refine ⟨by rw[g.len];omega,?_⟩;obtain ⟨p,hp,e⟩:=g.el 0 (l[0]'(by omega)) (by simp);refine ⟨p,hp,hK p ?_⟩;have:=seg_rd (s:=s) (g.blk p hp) (fun i x hi=>by obtain ⟨l',hl',e⟩:=g.el i x hi;rw[hp] at hl';cases hl';exact e);rw[hl] at this;show rdCells h p 32=some ((hv l).toList.flatMap Kd.u8.cells);rw[hv_list hl];simpa[Kd.size] using this
theorem innersS_cons {K:Kn} {n:Nat} {L:Ldr} {i:Nat} {x:HsV} {r:List HsV}:innersS K n L i (x::r)=((namedS K 73 L x (min 8 (n-i*8))).1++(innersS K n (namedS K 73 L x (min 8 (n-i*8))).2 (i+1) r).1,(innersS K n (namedS K 73 L x (min 8 (n-i*8))).2 (i+1) r).2):=rfl
theorem leavesS_cons {K:Kn} {n:Nat} {L:Ldr} {i:Nat} {x:HsV} {r:List HsV}:leavesS K n L i (x::r)=match K x with
 | none=>leavesS K n ⟨once L.want x,L.bad⟩ (i+1) r
 | some s=>if isLeaf (min 64 (n-i*64)) s=true then (s.data.toList.drop 1++(leavesS K n L (i+1) r).1,(leavesS K n L (i+1) r).2) else leavesS K n ⟨L.want,true⟩ (i+1) r:=rfl
def rdW (l:List UInt8):Int×Int×List UInt8:=if l.length<2 then (0,300,l) else ((beVal (l.take 2):Int),0,l.drop 2)
def rdH (l:List UInt8):HsV×Int×List UInt8:=if l.length<32 then (Vector.replicate 32 0,300,l) else (hv (l.take 32),0,l.drop 32)
def rdI4 (l:List UInt8):List UInt8:=(rdN (rdN (rdN (rdN l).2.2).2.2).2.2).2.2
def rdI (l:List UInt8):InK.Ty×Int×List UInt8:=
 (((rdN l).1,((rdN (rdN l).2.2).1,((rdN (rdN (rdN l).2.2).2.2).1,((rdN (rdN (rdN (rdN l).2.2).2.2).2.2).1,((rdW (rdI4 l)).1,((rdH (rdW (rdI4 l)).2.2).1,())))))),(rdH (rdW (rdI4 l)).2.2).2.1,(rdH (rdW (rdI4 l)).2.2).2.2)
theorem ZAS.s {r:Nat} {l:List UInt8} {h:Heap} {K:Kd.Ty (.ar 32 .u8)→Int→Heap→Prop} (i:IsRd h r l) (hK:∀h',Keep [r] h h'→IsRd h' r (rdH l).2.2→K (rdH l).1 (rdH l).2.1 h'):ZAS.C (some ⟨r,0⟩) h K:=by
 apply ZAS.c;unfold ZAS.m;refine new_gen fun b1 h1 hb1 k1 e1 hs1 =>?_;have lr:=lt_of_some i.o;have nb:b1≠r:=by omega
 rw[if_neg (by simp)];unfold rdH at hK;refine ZAi.s (n:=32) (i.keep k1 (by simp)) (fun hl =>?_) (fun hl h3 k3 i3 =>?_)
 ·rw[if_pos hl] at hK;rw[if_pos (by rfl)];refine st_to e1 fun h4 k4 e4 hs4=>ld_go (sm_all e4) ?_;have i4:=(i.keep k1 (by simp)).keep k4 (by simpa using nb.symm);exact hK h4 ((k1.then k4 (by simp) (fun q hq hl=>by simp at hq;omega))) i4
 ·rw[if_neg (by omega)] at hK;rw[if_neg (by simp)];refine s2b_seg fun s5 h5 k5 g5 w5 c5 hs5 _ =>?_;rw[bx_data2] at g5;refine sm_hash (T:=0) g5 (by rw[YAT];omega) fun p hp=>ld_go hp ?_;refine st_to (k5.g (k3.get e1 (by simpa using nb))) fun h6 k6 e6 hs6=>ld_go (sm_all e6) ?_;have i6:=(i3.keep k5 (by simp)).keep k6 (by simpa using nb.symm);refine hK h6 (((k1.then (U:=[r]) k3 (by simp) (fun x hx _=>hx)).then k5 (fun x hx _=>hx) (by simp)).then k6 (fun x hx _=>hx) (fun q hq hl=>by simp at hq;omega)) i6
def rdJ:Nat→List UInt8→List InK.Ty→List InK.Ty×Int
 | 0,_,acc=>(acc,0)
 | n+1,l,acc=>if (rdI l).2.1≠0 then ([],(rdI l).2.1) else rdJ n (rdI l).2.2 (acc++[(rdI l).1])
theorem be2_val {x:Nat} (h:x<65536):beVal (be x 2)=x:=by
 have:be x 2=[UInt8.ofNat (x/256),UInt8.ofNat x]:=by simp[be,List.range_succ]
 rw[this];simp only [beVal,List.foldl_cons,List.foldl_nil,UInt8.toNat_ofNat'];omega
theorem rdW_be {x:Nat} {r:List UInt8} (h:x<65536):rdW (be x 2++r)=((x:Int),0,r):=by
 unfold rdW;rw[if_neg (by rw[YAO,be_len];omega),YAa be_len,YAG be_len,be2_val h]
theorem rdH_hv {z:HsV} {r:List UInt8}:rdH (z.toList++r)=(z,0,r):=by
 unfold rdH;have hl:z.toList.length=32:=by simp
 rw[if_neg (by rw[YAO,hl];omega),YAa hl,YAG hl,hv_toList]
theorem rdI_ino {x:Ino} {r:List UInt8} (h:inodMay x=true):rdI (inoBytes x++r)=(inoV x,0,r):=by
 obtain ⟨a1,a2,a3,a4,a5,a6,a7,a8⟩:=ino_ok h;obtain ⟨n,k,m,l,s,z⟩:=x;dsimp only at *;obtain ⟨n,rfl⟩:∃t:Nat,n=t:=⟨n.toNat,by omega⟩;obtain ⟨k,rfl⟩:∃t:Nat,k=t:=⟨k.toNat,by omega⟩;obtain ⟨m,rfl⟩:∃t:Nat,m=t:=⟨m.toNat,by omega⟩;obtain ⟨l,rfl⟩:∃t:Nat,l=t:=⟨l.toNat,by omega⟩;obtain ⟨s,rfl⟩:∃t:Nat,s=t:=⟨s.toNat,by omega⟩
 have e:inoBytes ⟨n,k,m,l,s,z⟩++r=be n 1++(be k 1++(be m 1++(be l 1++(be s 2++(z.toList++r))))):=by
  unfold inoBytes;simp only [YAd,YAC]
 have e1:=rdN_be (x:=n) (r:=be k 1++(be m 1++(be l 1++(be s 2++(z.toList++r))))) (by omega);have e2:=rdN_be (x:=k) (r:=be m 1++(be l 1++(be s 2++(z.toList++r)))) (by omega);have e3:=rdN_be (x:=m) (r:=be l 1++(be s 2++(z.toList++r))) (by omega);have e4:=rdN_be (x:=l) (r:=be s 2++(z.toList++r)) (by omega);have e5:=rdW_be (x:=s) (r:=z.toList++r) (by omega);unfold rdI rdI4;rw[e];simp only [e1,e2,e3,e4,e5,rdH_hv]
 rfl
theorem rdJ_all:∀(xs:List Ino) (r:List UInt8) (acc:List InK.Ty),(∀x∈xs,inodMay x=true)→rdJ xs.length (xs.flatMap inoBytes++r) acc=(acc++xs.map inoV,0)
 | [],r,acc,_=>by simp[rdJ]
 | e :: t, r, acc, h => by
   have he:=rdI_ino (r:=t.flatMap inoBytes++r) (h e (by simp));rw[YAI,YAC,YAP];simp only [rdJ];rw[he];simp only [ne_eq,not_true_eq_false,if_false];rw[rdJ_all t r (acc++[inoV e]) (fun x hx=>h x (by simp[hx]))];simp
theorem map_vV {xs:List Ino}:(xs.map inoV).map vIno=xs:=by
 rw[List.map_map,show (vIno∘inoV)=id from funext fun x=>rfl,List.map_id]
structure Msg where
 kind:Int
 user:Int
 frm:Int
 ents:List Ett
 wants:List HVec
 objs:List By
def mEnt (e:Ett):By:=be (putE e).length 2++putE e
def mTxt (s:By):By:=be s.length 2++s
def headM (m:Msg):By:=[77,71]++be m.kind.toNat 1++be m.user.toNat 1++be m.frm.toNat 2
def bytesM (m:Msg):By:=headM m++be m.ents.length 1++m.ents.flatMap mEnt++be m.wants.length 1++(m.wants.flatMap fun z=>z.toList)++be m.objs.length 1++m.objs.flatMap mTxt
def msgMay (m:Msg):Bool:=decide (0≤m.kind)&&(decide (m.kind≤6)&&(decide (0≤m.user)&&(decide (m.user≤255)&&(decide (0≤m.frm)&&(decide (m.frm≤65535)&&(decide (m.ents.length≤255)&&(m.ents.all putMay&&(decide (m.wants.length≤255)&&(decide (m.objs.length≤255)&&m.objs.all fun s=>decide (s.length≤65535))))))))))
def putM (m:Msg):Bool:=msgMay m&&decide ((bytesM m).length≤65536)
def rMany {α : Type} (f:By→Option α × By):Nat→By→List α → List α × By
 | 0,l,acc=>(acc,l)
 | n + 1, l, acc => match (f l).1 with
   | none=>([],(f l).2)
   | some x=>rMany f n (f l).2 (acc++[x])
def rN1 (l:By):Int×By:=if l.length<1 then (0,l) else ((beVal (l.take 1):Int),l.drop 1)
def rN2 (l:By):Int×By:=if l.length<2 then (0,l) else ((beVal (l.take 2):Int),l.drop 2)
def rWd (l:By):Option Int×By:=if l.length<2 then (none,l) else (some (beVal (l.take 2):Int),l.drop 2)
def rHs (l:By):Option HVec×By:=if l.length<32 then (none,l) else (some (hv (l.take 32)),l.drop 32)
def rTxt (l:By):Option By×By:=if l.length<2 then (none,l) else if (l.drop 2).length<beVal (l.take 2) then (none,l) else (some ((l.drop 2).take (beVal (l.take 2))),(l.drop 2).drop (beVal (l.take 2)))
def hvO (z:Option HVec):HVec:=match z with | some x=>x | none=>Vector.replicate 32 0
def byO (z:Option By):By:=match z with | some x=>x | none=>[]
def parE (s:By):Ett:=
 let u:=rN1 (s.drop 2)
 let q:=rN2 u.2
 let n:=rN1 q.2
 let v:=rMany rWd n.1.toNat n.2 []
 let r:=rHs v.2
 let k:=rN1 r.2
 let t:=rMany rHs k.1.toNat k.2 []
 ⟨u.1,q.1,v.1,hvO r.1,t.1,byO (rTxt t.2).1⟩
def getE (s:By):Option Ett:=if 2≤s.length∧putMay (parE s)=true∧putE (parE s)=s then some (parE s) else none
def rEt (l:By):Option Ett×By:=match (rTxt l).1 with | none=>(none,(rTxt l).2) | some s=>(getE s,(rTxt l).2)
def parM (s:By):Msg:=
 let k:=rN1 (s.drop 2)
 let u:=rN1 k.2
 let f:=rN2 u.2
 let a:=rN1 f.2
 let es:=rMany rEt a.1.toNat a.2 []
 let b:=rN1 es.2
 let ws:=rMany rHs b.1.toNat b.2 []
 let c:=rN1 ws.2
 ⟨k.1,u.1,f.1,es.1,ws.1,(rMany rTxt c.1.toNat c.2 []).1⟩
def getM (s:By):Option Msg:=if 2≤s.length∧s.length≤65536∧putM (parM s)=true∧bytesM (parM s)=s then some (parM s) else none
theorem be1_val {x:Nat} (h:x<256):beVal (be x 1)=x:=by
 simp[be,beVal];omega
theorem rN1_be {x:Nat} {r:By} (h:x<256):rN1 (be x 1++r)=((x:Int),r):=by
 have hl:(be x 1).length=1:=be_len;unfold rN1;rw[if_neg (by simp[be_len]),YAa hl,YAG hl,be1_val h]
theorem rN2_be {x:Nat} {r:By} (h:x<65536):rN2 (be x 2++r)=((x:Int),r):=by
 have hl:(be x 2).length=2:=be_len;unfold rN2;rw[if_neg (by simp[be_len]),YAa hl,YAG hl,be2_val h]
theorem rWd_be {x:Nat} {r:By} (h:x<65536):rWd (be x 2++r)=(some (x:Int),r):=by
 have hl:(be x 2).length=2:=be_len;unfold rWd;rw[if_neg (by simp[be_len]),YAa hl,YAG hl,be2_val h]
theorem rHs_hv {z:HVec} {r:By}:rHs (z.toList++r)=(some z,r):=by
 have h:=rdH_hv (z:=z) (r:=r);unfold rdH at h;unfold rHs;have hl:¬(z.toList++r).length<32:=by simp
 rw[if_neg hl] at h ⊢;simp only [Prod.mk.injEq] at h;rw[h.1,h.2.2]
theorem rTxt_txt {s r:By} (h:s.length<65536):rTxt (mTxt s++r)=(some s,r):=by
 have hl:(be s.length 2).length=2:=be_len;unfold rTxt mTxt;rw[YAC,if_neg (by simp[be_len]),YAa hl,YAG hl,be2_val h,if_neg (by simp),YAa rfl,YAG rfl]
theorem rMany_all {α : Type} {f:By→Option α × By} {g : α → By} {p : α → Prop} (hf:∀x r,p x→f (g x++r)=(some x,r)):∀(xs:List α) (r:By) (acc:List α),(∀x∈xs,p x)→rMany f xs.length (xs.flatMap g++r) acc=(acc++xs,r)
 | [],r,acc,_=>by simp[rMany]
 | x :: t, r, acc, h => by
   rw[YAP,YAI,YAC];unfold rMany;rw[hf x _ (h x List.mem_cons_self)];dsimp only;rw[rMany_all hf t r _ fun y hy=>h y (List.mem_cons_of_mem _ hy)];simp
theorem putE_len {e:Ett} (h:putMay e=true):(putE e).length<65536:=by
 unfold putMay at h;simp only [YAm,decide_eq_true_eq] at h;have:=bodyE_len h.1;unfold putE;simp only [YAO,be_len];omega
theorem parE_put {e:Ett} (h:putMay e=true):parE (putE e)=e:=by
 have h':=h;unfold putMay ettMay vecMay at h';simp only [YAm,decide_eq_true_eq] at h';obtain ⟨⟨c1,c2,c3,c4,⟨c5,c6,c7⟩,c8,c9⟩,c10⟩:=h'
 have hd:(putE e).drop 2=be e.user.toNat 1++(be e.seq.toNat 2++(be e.vec.length 1++((e.vec.flatMap fun x=>be x.toNat 2)++(e.root.toList++(be e.tables.length 1++((e.tables.flatMap fun z=>z.toList)++(mTxt e.sign++[]))))))):=by
  unfold putE bodyE mTxt;simp only [YAC,YAD]
  rfl
 have hv:∀x r,vecOk x=true→rWd (be x.toNat 2++r)=(some x,r):=fun x r hx=>by
  unfold vecOk at hx;simp only [YAm,decide_eq_true_eq] at hx;rw[rWd_be (by omega),YAe hx.1]
 have e1:∀r,rMany rWd e.vec.length ((e.vec.flatMap fun x=>be x.toNat 2)++r) []=(e.vec,r):=fun r=>by
  rw[rMany_all hv _ _ _ (List.all_eq_true.1 c5)];rfl
 have e2:∀r,rMany rHs e.tables.length ((e.tables.flatMap fun z=>z.toList)++r) []=(e.tables,r):=fun r=>by
  rw[rMany_all (p:=fun _=>True) (fun x r _=>rHs_hv) _ _ _ (fun _ _=>trivial)];rfl
 unfold parE;rw[hd];dsimp only;rw[rN1_be (by omega)];dsimp only;rw[rN2_be (by omega)];dsimp only;rw[rN1_be (by omega)];dsimp only;rw[YAd,e1];dsimp only;rw[rHs_hv];dsimp only;rw[rN1_be (by omega)];dsimp only;rw[YAd,e2];dsimp only;rw[rTxt_txt (by omega)];have u1:((e.user.toNat:Nat):Int)=e.user:=YAe c1;have u2:((e.seq.toNat:Nat):Int)=e.seq:=YAe (by omega);rw[u1,u2]
 rfl
theorem getE_put {e:Ett} (h:putMay e=true):getE (putE e)=some e:=by
 unfold getE;rw[parE_put h,if_pos ⟨by unfold putE bodyE;simp,h,rfl⟩]
theorem getE_some {s:By} {e:Ett} (h:getE s=some e):putMay e=true∧putE e=s:=by
 unfold getE at h;split at h
 ·rename_i hc
  cases h
  exact ⟨hc.2.1,hc.2.2⟩
 ·cases h
theorem rEt_ent {e:Ett} {r:By} (h:putMay e=true):rEt (mEnt e++r)=(some e,r):=by
 have:=rTxt_txt (s:=putE e) (r:=r) (putE_len h);unfold rEt;unfold mTxt at this;unfold mEnt;rw[this];dsimp only;rw[getE_put h]
theorem parM_put {m:Msg} (h:msgMay m=true):parM (bytesM m)=m:=by
 have h':=h;unfold msgMay at h';simp only [YAm,decide_eq_true_eq] at h';obtain ⟨c1,c2,c3,c4,c5,c6,c7,c8,c9,c10,c11⟩:=h'
 have hd:(bytesM m).drop 2=be m.kind.toNat 1++(be m.user.toNat 1++(be m.frm.toNat 2++(be m.ents.length 1++(m.ents.flatMap mEnt++(be m.wants.length 1++((m.wants.flatMap fun z=>z.toList)++(be m.objs.length 1++(m.objs.flatMap mTxt++[])))))))):=by
  unfold bytesM headM;simp only [YAC,YAD]
  rfl
 have e1:∀r,rMany rEt m.ents.length (m.ents.flatMap mEnt++r) []=(m.ents,r):=fun r=>by
  rw[rMany_all (p:=fun e=>putMay e=true) (fun x r hx=>rEt_ent hx) _ _ _ (List.all_eq_true.1 c8)];rfl
 have e2:∀r,rMany rHs m.wants.length ((m.wants.flatMap fun z=>z.toList)++r) []=(m.wants,r):=fun r=>by
  rw[rMany_all (p:=fun _=>True) (fun x r _=>rHs_hv) _ _ _ (fun _ _=>trivial)];rfl
 have e3:∀r,rMany rTxt m.objs.length (m.objs.flatMap mTxt++r) []=(m.objs,r):=fun r=>by
  rw[rMany_all (p:=fun s=>s.length<65536) (fun x r hx=>rTxt_txt hx) _ _ _ (fun s hs=>by have:=List.all_eq_true.1 c11 s hs;simp at this;omega)];rfl
 unfold parM;rw[hd];dsimp only;rw[rN1_be (by omega)];dsimp only;rw[rN1_be (by omega)];dsimp only;rw[rN2_be (by omega)];dsimp only;rw[rN1_be (by omega)];dsimp only;rw[YAd,e1];dsimp only;rw[rN1_be (by omega)];dsimp only;rw[YAd,e2];dsimp only;rw[rN1_be (by omega)];dsimp only;rw[YAd,e3];have u1:((m.kind.toNat:Nat):Int)=m.kind:=YAe (by omega);have u2:((m.user.toNat:Nat):Int)=m.user:=YAe (by omega);have u3:((m.frm.toNat:Nat):Int)=m.frm:=YAe (by omega);rw[u1,u2,u3]
theorem getM_put {m:Msg} (h:putM m=true):getM (bytesM m)=some m:=by
 have h':=h;unfold putM at h';simp only [YAm,decide_eq_true_eq] at h';unfold getM;rw[parM_put h'.1,if_pos ⟨by unfold bytesM headM;simp,h'.2,h,rfl⟩]
theorem getM_some {s:By} {m:Msg} (h:getM s=some m):putM m=true∧bytesM m=s:=by
 unfold getM at h;split at h
 ·rename_i hc
  cases h
  exact ⟨hc.2.2.1,hc.2.2.2⟩
 ·cases h
def rStr {α : Type} (f:By→Option α × By):Nat→By→List α → Option (List α × By)
 | 0,l,acc=>some (acc,l)
 | n + 1, l, acc => match (f l).1 with
   | none=>none
   | some x=>rStr f n (f l).2 (acc++[x])
def dEt3 (u q:Int) (v:List Int) (z:HVec) (t:List HVec) (l:By):Option Ett:=match (rTxt l).1 with
 | none=>none
 | some s=>if putMay ⟨u,q,v,z,t,s⟩=true∧(rTxt l).2=[] then some ⟨u,q,v,z,t,s⟩ else none
def dEt2 (u q:Int) (v:List Int) (l:By):Option Ett:=match (rHs l).1 with
 | none=>none
 | some z => if (rHs l).2.length < 1 then none else match rStr rHs (rN1 (rHs l).2).1.toNat (rN1 (rHs l).2).2 [] with
   | none=>none
   | some (t,r)=>dEt3 u q v z t r
def dEt (s:By):Option Ett:=
 if s.length<6∨s.take 2≠[65,69] then none else
 match rStr rWd (rN1 (rN2 (rN1 (s.drop 2)).2).2).1.toNat (rN1 (rN2 (rN1 (s.drop 2)).2).2).2 [] with
 | none=>none
 | some (v,l)=>dEt2 (rN1 (s.drop 2)).1 (rN2 (rN1 (s.drop 2)).2).1 v l
theorem be_val1 {l:By} (h:l.length=1):be (beVal l) 1=l:=by
 obtain ⟨a,rfl⟩:∃a,l=[a]:=by
  match l,h with
  | [a],_=>exact ⟨a,rfl⟩
 simp[be,beVal]
theorem be_val2 {l:By} (h:l.length=2):be (beVal l) 2=l:=by
 obtain ⟨a,b,rfl⟩:∃a b,l=[a,b]:=by
  match l,h with
  | [a,b],_=>exact ⟨a,b,rfl⟩
 have hb:=b.toNat_lt;have h2:be (beVal [a,b]) 2=[UInt8.ofNat (beVal [a,b]/256^1),UInt8.ofNat (beVal [a,b]/256^0)]:=by simp[be,List.range_succ]
 have hv:beVal [a,b]=a.toNat*256+b.toNat:=by simp[beVal]
 rw[h2,hv];have e1:(a.toNat*256+b.toNat)/256^1=a.toNat:=by omega
 rw[e1,Nat.pow_zero,Nat.div_one]
 have e2:UInt8.ofNat (a.toNat*256+b.toNat)=b:=by
  apply UInt8.toNat_inj.1;rw[UInt8.toNat_ofNat'];omega
 rw[e2,UInt8.ofNat_toNat]
theorem rN1_snd {l:By} (h:1≤l.length):0≤(rN1 l).1∧(rN1 l).1<256∧l=be (rN1 l).1.toNat 1++(rN1 l).2:=by
 have hl:(l.take 1).length=1:=by simp;omega
 have hv:=beVal_lt (l.take 1);rw[hl] at hv;unfold rN1;rw[if_neg (by omega)];dsimp only;refine ⟨by omega,by omega,?_⟩;rw[YAd,be_val1 hl,YAZ]
theorem rN2_snd {l:By} (h:2≤l.length):0≤(rN2 l).1∧(rN2 l).1<65536∧l=be (rN2 l).1.toNat 2++(rN2 l).2:=by
 have hl:(l.take 2).length=2:=by simp;omega
 have hv:=beVal_lt (l.take 2);rw[hl] at hv;unfold rN2;rw[if_neg (by omega)];dsimp only;refine ⟨by omega,by omega,?_⟩;rw[YAd,be_val2 hl,YAZ]
theorem rWd_snd {l:By} {x:Int} (h:(rWd l).1=some x):0≤x∧l=be x.toNat 2++(rWd l).2:=by
 unfold rWd at h ⊢;by_cases hc:l.length<2
 ·rw[if_pos hc] at h;cases h
 ·rw[if_neg hc] at h ⊢;have hl:(l.take 2).length=2:=by simp;omega
  dsimp only at h ⊢
  cases h
  refine ⟨by omega,?_⟩;rw[YAd,be_val2 hl,YAZ]
theorem rHs_snd {l:By} {x:HVec} (h:(rHs l).1=some x):True∧l=x.toList++(rHs l).2:=by
 unfold rHs at h ⊢;by_cases hc:l.length<32
 ·rw[if_pos hc] at h;cases h
 ·rw[if_neg hc] at h ⊢;have hl:(l.take 32).length=32:=by simp;omega
  dsimp only at h ⊢
  cases h
  refine ⟨trivial,?_⟩;rw[hv_list hl,YAZ]
theorem rTxt_snd {l s:By} (h:(rTxt l).1=some s):s.length≤65535∧l=mTxt s++(rTxt l).2:=by
 unfold rTxt at h ⊢;by_cases hc:l.length<2
 ·rw[if_pos hc] at h;cases h
 ·rw[if_neg hc] at h ⊢;have hl:(l.take 2).length=2:=by simp;omega
  have hv:=beVal_lt (l.take 2);rw[hl] at hv;by_cases hd:(l.drop 2).length<beVal (l.take 2)
  ·rw[if_pos hd] at h;cases h
  ·rw[if_neg hd] at h ⊢;dsimp only at h ⊢
   cases h
   have hsl:((l.drop 2).take (beVal (l.take 2))).length=beVal (l.take 2):=by rw[YAT];omega
   refine ⟨by omega,?_⟩;unfold mTxt;rw[hsl,be_val2 hl,YAC,YAZ,YAZ]
theorem rEt_snd {l:By} {e:Ett} (h:(rEt l).1=some e):putMay e=true∧l=mEnt e++(rEt l).2:=by
 unfold rEt at h ⊢
 cases ht:(rTxt l).1 with
 | none=>rw[ht] at h;cases h
 | some s =>
   rw[ht] at h;dsimp only at h ⊢;obtain ⟨a,b⟩:=getE_some h;obtain ⟨c,d⟩:=rTxt_snd ht;refine ⟨a,?_⟩;unfold mEnt;rw[b];exact d
theorem rStr_all {α : Type} {f:By→Option α × By} {g : α → By} {p : α → Prop} (hf:∀x r,p x→f (g x++r)=(some x,r)):∀(xs:List α) (r:By) (acc:List α),(∀x∈xs,p x)→rStr f xs.length (xs.flatMap g++r) acc=some (acc++xs,r)
 | [],r,acc,_=>by simp[rStr]
 | x :: t, r, acc, h => by
   rw[YAP,YAI,YAC];unfold rStr;rw[hf x _ (h x List.mem_cons_self)];dsimp only;rw[rStr_all hf t r _ fun y hy=>h y (List.mem_cons_of_mem _ hy)];simp
theorem rStr_snd {α : Type} {f:By→Option α × By} {g : α → By} {p : α → Prop} (hf:∀l x,(f l).1=some x→p x∧l=g x++(f l).2):∀(n:Nat) (l:By) (acc ys:List α) (r:By),rStr f n l acc=some (ys,r)→∃xs,ys=acc++xs∧xs.length=n∧(∀x∈xs,p x)∧l=xs.flatMap g++r
 | 0, l, acc, ys, r, h => by
   simp only [rStr,Option.some.injEq,Prod.mk.injEq] at h;exact ⟨[],by simp[h.1],rfl,by simp,by simp[h.2]⟩
 | n + 1, l, acc, ys, r, h => by
   unfold rStr at h
   cases hx:(f l).1 with
   | none=>rw[hx] at h;cases h
   | some x =>
     rw[hx] at h;obtain ⟨xs,e1,e2,e3,e4⟩:=rStr_snd hf n _ _ _ _ h;obtain ⟨px,el⟩:=hf l x hx;refine ⟨x::xs,by rw[e1];simp,by simp[e2],fun y hy =>?_,?_⟩
     ·rcases List.mem_cons.1 hy with rfl | hy
      ·exact px
      ·exact e3 y hy
     ·rw[YAI,YAC,←e4];exact el
theorem dEt_put {e:Ett} (h:putMay e=true):dEt (putE e)=some e:=by
 have h':=h;unfold putMay ettMay vecMay at h';simp only [YAm,decide_eq_true_eq] at h';obtain ⟨⟨c1,c2,c3,c4,⟨c5,c6,c7⟩,c8,c9⟩,c10⟩:=h'
 have hd:(putE e).drop 2=be e.user.toNat 1++(be e.seq.toNat 2++(be e.vec.length 1++((e.vec.flatMap fun x=>be x.toNat 2)++(e.root.toList++(be e.tables.length 1++((e.tables.flatMap fun z=>z.toList)++(mTxt e.sign++[]))))))):=by
  unfold putE bodyE mTxt;simp only [YAC,YAD]
  rfl
 have hv:∀x r,vecOk x=true→rWd (be x.toNat 2++r)=(some x,r):=fun x r hx=>by
  unfold vecOk at hx;simp only [YAm,decide_eq_true_eq] at hx;rw[rWd_be (by omega),YAe hx.1]
 have e1:∀r,rStr rWd e.vec.length ((e.vec.flatMap fun x=>be x.toNat 2)++r) []=some (e.vec,r):=fun r=>by
  rw[rStr_all hv _ _ _ (List.all_eq_true.1 c5)];rfl
 have e2:∀r,rStr rHs e.tables.length ((e.tables.flatMap fun z=>z.toList)++r) []=some (e.tables,r):=fun r=>by
  rw[rStr_all (p:=fun _=>True) (fun x r _=>rHs_hv) _ _ _ (fun _ _=>trivial)];rfl
 have u1:((e.user.toNat:Nat):Int)=e.user:=YAe c1;have u2:((e.seq.toNat:Nat):Int)=e.seq:=YAe (by omega)
 have ht:(putE e).take 2=[65,69]:=by
  unfold putE bodyE;simp only [YAC]
  rfl
 have hl:6≤(putE e).length:=by
  unfold putE bodyE;simp only [YAO,be_len,YAP,YAS];omega
 unfold dEt;rw[if_neg (by rw[ht];simp;omega),hd,rN1_be (by omega)];dsimp only;rw[rN2_be (by omega)];dsimp only;rw[rN1_be (by omega)];dsimp only;rw[YAd,e1];dsimp only;unfold dEt2;rw[rHs_hv];dsimp only;rw[if_neg (by simp[be_len]),rN1_be (by omega)];dsimp only;rw[YAd,e2];dsimp only;unfold dEt3;rw[rTxt_txt (by omega)];dsimp only;rw[u1,u2,if_pos ⟨h,rfl⟩]
theorem dEt_eq (s:By):dEt s=getE s:=by
 cases hg:getE s with
 | some e =>
   obtain ⟨a,b⟩:=getE_some hg;rw[←b,dEt_put a]
 | none =>
   cases hd:dEt s with
   | none=>rfl
   | some e =>
     exfalso
     suffices h:putMay e=true∧putE e=s by
      rw[←h.2,getE_put h.1] at hg;cases hg
     unfold dEt at hd;split at hd
     ·cases hd
     rename_i hc
     have hl:6≤s.length:=Nat.le_of_not_lt fun hh=>hc (.inl hh);have ht:s.take 2=[65,69]:=Decidable.not_not.1 fun hh=>hc (.inr hh);obtain ⟨u0,u1,eu⟩:=rN1_snd (l:=s.drop 2) (by simp;omega)
     have lu:(rN1 (s.drop 2)).2.length=s.length-3:=by
      have:=congrArg List.length eu;simp only [YAO,be_len,YAQ] at this;omega
     obtain ⟨q0,q1,eq⟩:=rN2_snd (l:=(rN1 (s.drop 2)).2) (by omega)
     have lq:(rN2 (rN1 (s.drop 2)).2).2.length=s.length-5:=by
      have:=congrArg List.length eq;simp only [YAO,be_len] at this;omega
     obtain ⟨n0,n1,en⟩:=rN1_snd (l:=(rN2 (rN1 (s.drop 2)).2).2) (by omega);generalize (rN1 (s.drop 2))=U at *;generalize (rN2 U.2)=Q at *;generalize (rN1 Q.2)=N at *;split at hd
     ·cases hd
     rename_i v l hv
     obtain ⟨xs,e1,e2,e3,e4⟩:=rStr_snd (g:=fun x=>be x.toNat 2) (p:=fun x=>0≤x) (fun l x h=>rWd_snd h) _ _ _ _ _ hv;rw[List.nil_append] at e1;subst e1;unfold dEt2 at hd;split at hd
     ·cases hd
     rename_i z hz
     obtain ⟨_,ez⟩:=rHs_snd hz;split at hd
     ·cases hd
     rename_i hk
     obtain ⟨k0,k1,ek⟩:=rN1_snd (l:=(rHs l).2) (by omega);split at hd
     ·cases hd
     rename_i t r hr
     obtain ⟨ts,f1,f2,f3,f4⟩:=rStr_snd (g:=fun x:HVec=>x.toList) (p:=fun x=>True) (fun l x h=>rHs_snd h) _ _ _ _ _ hr;rw[List.nil_append] at f1;subst f1;unfold dEt3 at hd;split at hd
     ·cases hd
     rename_i sg hsg
     obtain ⟨g1,g2⟩:=rTxt_snd hsg;split at hd
     ·rename_i hm
      cases hd
      refine ⟨hm.1,?_⟩;have hs:s=[65,69]++s.drop 2:=by rw[←ht,YAZ]
      rw[hs,eu,eq,en,e4,ez,ek,f4,g2,hm.2];unfold putE bodyE mTxt;dsimp only;rw[e2,f2];simp only [YAC,YAD]
     ·cases hd
end Go.Proofs.Tryz
