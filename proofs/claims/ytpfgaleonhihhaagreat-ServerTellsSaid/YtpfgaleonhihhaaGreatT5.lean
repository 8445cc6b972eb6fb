import Derived.Test.YtpfgaleonhihhaaGreatT4
import Derived.Test.YtpfgaleonhihhaaGreatT1
import Derived.Test.YtpfgaleonhihhaaGreatModels4
import Derived.Test.YtpfgaleonhihhaaGreatT3
import Derived.Test.YtpfgaleonhihhaaGreatT2
set_option linter.unusedVariables false
set_option linter.unusedSimpArgs false
set_option maxRecDepth 100000
open List renaming length_append → YAA, length_map → YAB, length_nil → YAC
open Bool renaming and_eq_true → YAD
namespace Go.Proofs.Tryz
open Go Go.Al
def fet (v:Srv) (u:Int):By×Srv:=if 0≤v.holder∧v.holder≠u then (bytesM ⟨6,u,0,[],[],[]⟩,v) else (bytesM ⟨1,u,0,[],[],[]⟩,{ v with holder:=u,left:=10 })
def fetK (v:Srv) (u:Int):Int:=if 0≤v.holder∧v.holder≠u then 6 else 1
theorem put01 {k u:Int} (hk:k=0∨k=1∨k=6) (hu:u=0∨u=1):putM ⟨k,u,0,[],[],[]⟩=true:=by
 rcases hk with rfl | rfl | rfl <;> rcases hu with rfl | rfl <;> decide
theorem fetch_new {v:Srv} {u:Int} (hall:v.C.all=[]) (hus:v.C.m.users=2) (hu:u=0∨u=1):takeS v (bytesM ⟨0,u,0,[],[],[]⟩)=fet v u:=by
 unfold takeS fet;rw[getM_put (put01 (.inl rfl) hu)];dsimp only;rw[if_neg (by rw[hus];omega),if_pos rfl];unfold fetchS sizedM entsM;dsimp only;rw[hall];by_cases hc:0≤v.holder∧v.holder≠u
 ·rw[if_pos hc,if_pos hc];show (ansM ⟨6,u,0,[],[],[]⟩,v)=_;rw[ansM_put (put01 (.inr (.inr rfl)) hu)]
 ·rw[if_neg hc,if_neg hc];show (ansM ⟨1,u,0,[],[],[]⟩,_)=_;rw[ansM_put (put01 (.inr (.inl rfl)) hu)]
theorem fet_ok {v:Srv} {u:Int} (o:SrvOk v) (hall:v.C.all=[]) (hus:v.C.m.users=2) (hu:u=0∨u=1):SrvOk (fet v u).2∧(fet v u).2.C=v.C:=by
 have:=(takeS_ok (s:=bytesM ⟨0,u,0,[],[],[]⟩) o).1;rw[fetch_new hall hus hu] at this;refine ⟨this,?_⟩;unfold fet;split <;> rfl
def ms_ (k u:Int):MsK.Ty:=(k,(u,(0,(⟨none,0,0⟩,(⟨none,0,0⟩,(⟨none,0,0⟩,()))))))
theorem put_fetch {u:Int} {h:Heap} {K:ByteArray→Int→Heap→Prop} (hu:u=0∨u=1) (hK:∀h',Keep [] h h'→K (bx (bytesM ⟨0,u,0,[],[],[]⟩)) 0 h'):ZAv.C (ms_ 0 u) h K:=by
 refine ZAv.s (MsR.nil (n0:=0)).at ⟨by simp,by simp,by simp,by simp⟩ fun h' k' =>?_;rw[put01 (.inl rfl) hu];exact hK h' k'
theorem fet_len {v:Srv} {u:Int}:(fet v u).1.length≤1000:=by
 unfold fet;split <;> · show (bytesM _).length≤1000;unfold bytesM headM;simp[be_len]
theorem get_fet {v:Srv} {u:Int} {h:Heap} {K:MsK.Ty→Int→Heap→Prop} (hu:u=0∨u=1) (hK:∀w h',Keep [] h h'→w.1=fetK v u→w.2.1=u→w.2.2.1=0→K w 0 h'):ZA9.C (bx (fet v u).1) h K:=by
 refine ZA9.s (by have:=fet_len (v:=v) (u:=u);omega) fun w er evs h' k' res =>?_
 have hg:getM (fet v u).1=some ⟨fetK v u,u,0,[],[],[]⟩:=by
  unfold fet fetK;split
  ·exact getM_put (put01 (.inr (.inr rfl)) hu)
  ·exact getM_put (put01 (.inr (.inl rfl)) hu)
 rw[hg] at res;obtain ⟨rfl,m⟩:=res;exact hK w h' k' m.k m.u m.f
section
variable {n0 b c t st r:Nat} {h:Heap} {mv:MbK.Ty} {ps bs es:Slc} {evs:List EtK.Ty} {v:Srv}
theorem take_fetch {u:Int} {K:ByteArray→Heap→Prop} (i:IsSv n0 h b c t st r mv ps bs es evs v) (o:SrvOk v) (hall:v.C.all=[]) (hus:v.C.m.users=2) (hu:u=0∨u=1)
 (hK:∀h',Keep [b] h h'→IsSv n0 h' b c t st r mv ps bs es evs (fet v u).2→K (bx (fet v u).1) h'):ZAP.C (some ⟨b,0⟩) (bx (bytesM ⟨0,u,0,[],[],[]⟩)) h K:=by
 have hz:(bytesM ⟨0,u,0,[],[],[]⟩).length≤1000:=by unfold bytesM headM;simp[be_len]
 refine server_Take.q i o (by omega) (fun m hm =>?_) fun h' k' i' =>?_
 ·rw[getM_put (put01 (.inl rfl) hu)] at hm
  cases hm
  show (0:Int)≠4
  decide
 ·rw[fetch_new hall hus hu] at i' ⊢;exact hK h' k' i'
end
theorem ZCH.s {h:Heap} {K:MbK.Ty→Heap→Prop} (hK:∀v h',Keep [] h h'→MbU h.size h' v clb→K v h'):ZCH.C h K:=by
 apply ZCH.c;unfold ZCH.m;refine new_gen fun b1 h1 hb1 k1 e1 hs1 =>?_;have e1:h1[b1]? = some (vobj t_api_Members MbK (((0,(⟨none,0,0⟩,()))):MbK.Ty)):=e1;have z1:=k1.1;refine bs_gen fun b2 h2 hb2 k2 r2 hs2 =>?_;refine bs_gen fun b3 h3 hb3 k3 r3 hs3 =>?_;have z2:=k2.1;have e3:=(k2.n k3).g e1;refine st_to e3 fun h4 k4 e4 hs4=>ld_go (sm_all e4) ?_;have r2':=r2.keep k3 (by simp);refine hK _ h4 (((k1.n k2).n k3).new k4 (by simp;omega)) ⟨rfl,_,r3.keep k4 fun q hq hm =>?_,fun q hq =>?_,?_⟩
 ·simp at hm;subst hm;exact rowT r3 e3 (by decide) hq
 ·simp[own] at hq;omega
 ·refine ⟨⟨r2'.keep k4 fun q hq hm =>?_,fun q hq =>?_,by decide⟩,trivial⟩
  ·simp at hm;subst hm;exact rowT r2' e3 (by decide) hq
  ·simp[own] at hq;omega
theorem mk23 {x y:By} {h:Heap} {K:KeK.Ty→Slc→Int→Heap→Prop} (hx:x.length≤1024) (hy:y.length≤1024) (hK:∀kv ks h',Keep [] h h'→MdU h.size h' kv ks (seedD x) (seedD y) 0 0→K kv ks 0 h') :
 ZCH.C h fun x1 h1=>Go.Al.bs t_string .s [bx x,bx y] h1 fun s1 h2=>ZA6.C x1 s1 1 h2 K:=by
 refine ZCH.s fun cv h1 k1 cm=>bs_gen fun b2 h2 hb2 k2 r2 hs2 =>?_;have z1:=k1.1;have z2:=k2.1;have cm:=cm.keep k2 (by simp);refine ZA6.s (L:=[x,y]) (hh:=1) cm.at (by decide) r2.seg rfl (by decide) (by decide) (fun q hq =>?_) fun h3 ps ks k3 rp op rk ok =>?_
 ·simp only [List.mem_cons,List.not_mem_nil,or_false] at hq;rcases hq with rfl | rfl <;> assumption
 ·refine hK _ ks h3 ((k1.n k2).n k3) ⟨cm.keep k3 (by simp),?_,fun q hq =>?_,?_,fun q hq =>?_⟩
  ·simp only [List.map_cons,List.map_nil,keyO_seed] at rp;exact rp
  ·have:=op q hq;omega
  ·simp only [List.map_cons,List.map_nil,keyO_seed] at rk;exact rk
  ·have:=ok q hq;omega
theorem new23 {n1 b1:Nat} {kv:KeK.Ty} {ks:Slc} {A B:Sd} {h:Heap} {K:Option Pl→Int→Heap→Prop} (md:MdU n1 h kv ks A B 0 0) (hK:∀h' n0 b c t st r mv ps bs,Keep [] h h'→h.size≤n0→IsSv n0 h' b c t st r mv ps bs ⟨none,0,0⟩ [] (newV (clbK A B))→K (some ⟨b,0⟩) 0 h'):ZBg.C kv h K:=
 ZBg.s (k:=clbK A B) md.at (by unfold clbK;simp) (by intro g hg;unfold clbK clb at hg;simp at hg;subst hg;decide) (fun hn=>by rw[clb_may] at hn;simp at hn) fun _=>hK
theorem newV_f {A B:Sd}:SrvOk (newV (clbK A B))∧(newV (clbK A B)).C.all=[]∧(newV (clbK A B)).C.m.users=2∧(newV (clbK A B)).holder = -1:=⟨newV_ok clb_may,rfl,rfl,rfl⟩
theorem msz_at {h:Heap}:KeAt h ((((0,(⟨none,0,0⟩,())):MbK.Ty),(⟨none,0,0⟩,())):KeK.Ty) ⟨⟨0,[]⟩,[]⟩:=⟨⟨rfl,[],(Row.nil (T:=t_s_int)).seg,trivial⟩,Row.nil (T:=t_string).seg⟩
theorem awake_a {v:Srv} (h:v.holder = -1):fet v 1=(bytesM ⟨1,1,0,[],[],[]⟩,{ v with holder:=1,left:=10 })∧fetK v 1=1:=by
 unfold fet fetK;rw[h];exact ⟨rfl,rfl⟩
theorem getM_x:getM [120]=none:=by unfold getM;rw[if_neg fun h=>by have:=h.1;simp at this]
theorem ZCW.s {h:Heap} {K:Bool→Heap→Prop} (hK:∀h',Keep [] h h'→K true h'):ZCW.C h K:=by
 apply ZCW.c;unfold ZCW.m;refine mk23 (x:=[97]) (y:=[98]) (by decide) (by decide) fun kv ks h1 k1 md =>?_;generalize seedD [97]=A at md;generalize seedD [98]=B at md;refine new_st_gen fun p1 h3 hp1 k3 e3 hs3 =>?_;have e3:h3[p1]? = some (vobj t_api_Keys KeK kv):=e3;refine ld_go (sm_all e3) ?_;have k03:Keep [] h h3:=k1.n k3;refine new23 (b1:=0) (md.keep0 k3) fun h4 n0 b c t st r mv ps bs k4 hn0 i4 =>?_;obtain ⟨o4,ca,cu,ch⟩:=newV_f (A:=A) (B:=B);generalize newV (clbK A B)=v at i4 o4 ca cu ch;have k04:Keep [] h h4:=k03.n k4;refine ZBg.s (k:=⟨⟨0,[]⟩,[]⟩) msz_at (by simp) (by simp) (fun _ h5 k5 =>?_) (fun hm=>by cases hm);have i5:=i4.keep0 k5;have k05:Keep [] h h5:=k04.n k5;refine jn_at (false,()) h5 ?_ ?_
 ·refine ZBi.s ?_;rw[if_neg (by simp)];exact ⟨rfl,rfl⟩
 rw[if_neg (by simp)];have lb:=i4.lb;have z05:=k03.1;have kb:∀ {x y:Heap},Keep [] h x→Keep [b] x y→Keep [] h y:=fun a k=>a.new k (by simp;omega);refine put_fetch (u:=1) (.inr rfl) fun h6 k6 =>?_;refine put_fetch (u:=0) (.inl rfl) fun h7 k7 =>?_;have i7:=(i5.keep0 k6).keep0 k7;have k07:Keep [] h h7:=(k05.n k6).n k7;refine take_fetch (u:=1) i7 o4 ca cu (.inr rfl) fun h8 k8 i8 =>?_;obtain ⟨o8,c8⟩:=fet_ok (u:=1) o4 ca cu (.inr rfl);refine get_fet (u:=1) (.inr rfl) fun w9 h9 k9 w1 w2 w3 =>?_;obtain ⟨f1,f2⟩:=awake_a ch;rw[f2] at w1;rw[f1] at i8 o8 c8;generalize hv8:({ v with holder:=1,left:=10 }:Srv)=v8 at i8 o8 c8;have a8:v8.C.all=[]∧v8.C.m.users=2∧v8.holder=1∧v8.left=10:=by rw[←hv8];exact ⟨ca,cu,rfl,rfl⟩
 obtain ⟨ca8,cu8,ch8,cl8⟩:=a8;refine new_st_gen fun p2 h11 hp2 k11 e11 hs11 =>?_;have e11:h11[p2]? = some (vobj t_api_Msg MsK w9):=e11;have i11:=(i8.keep0 k9).keep0 k11;have k011:Keep [] h h11:=((kb k07 k8).n k9).n k11;refine take_fetch (u:=0) i11 o8 ca8 cu8 (.inl rfl) fun h12 k12 i12 =>?_;have f3:fet v8 0=(bytesM ⟨6,0,0,[],[],[]⟩,v8):=by unfold fet;rw[ch8];rfl
 refine get_fet (u:=0) (.inl rfl) fun w13 h13 k13 y1 y2 y3 =>?_;have f4:fetK v8 0=6:=by unfold fetK;rw[ch8];rfl
 rw[f4] at y1;rw[f3] at i12;refine new_st_gen fun p3 h15 hp3 k15 e15 hs15 =>?_;have e15:h15[p3]? = some (vobj t_api_Msg MsK w13):=e15;have i15:=(i12.keep0 k13).keep0 k15;have k015:Keep [] h h15:=((kb k011 k12).n k13).n k15;have n2b:p2≠b:=vobjN e11 i11.e (by decide);have e15':=k15.g (k13.g (k12.get e11 (by simpa using n2b)));refine server_Holder.s i15 ?_;rw[ch8,if_neg (by decide)];refine server_Tick.s i15 o8 fun h16 k16 i16 =>?_;have f5:tickS v8 10=(0,{ v8 with holder := -1,left:=0 }):=by unfold tickS;rw[cl8];rfl
 obtain ⟨o16,c16⟩:=tickS_ok (n:=10) o8;rw[f5] at i16 o16 ⊢;refine server_Holder.s i16 ?_;refine server_Tick.s i16 o16 fun h17 k17 i17 =>?_;have f6:tickS ({ v8 with holder := -1,left:=0 }:Srv) (-1)=(2300,{ v8 with holder := -1,left:=0 }):=rfl;rw[f6] at i17 ⊢
 have e17 := k17.get (k16.get e15 (by have : p3 ≠ b := vobjN e15 i15.e (by decide)
                                      simpa using this)) (by have : p3 ≠ b := vobjN e15 i15.e (by decide)
                                                             simpa using this)
 have e17':=k17.get (k16.get e15' (by simpa using n2b)) (by simpa using n2b);have k017:Keep [] h h17:=kb (kb k015 k16) k17;have F2:=ms_f e17';have F3:=ms_f e17;rw[w1,w2] at F2;rw[y1] at F3;refine jn_in (fun y h'=>y=(true,())∧Keep [] h h') ?_ ?_
 ·refine ZBi.s ?_;rw[if_pos (by decide)];refine ld_go F2.1 ?_;rw[if_pos (by decide)];refine ld_go F2.2.1 ?_;rw[if_pos (by decide)];refine ld_go F3.1 ?_;rw[if_pos (by decide),if_pos (by decide),if_pos (by decide)];refine ZBi.s ?_;rw[if_pos (by rfl),if_pos (by rfl)];refine ZBi.s ?_;rw[if_pos (by rfl)];show ZAP.C (some ⟨b,0⟩) (bx [120]) h17 _;refine server_Take.q i17 o16 (by decide) (fun m hm=>by rw[getM_x] at hm;cases hm) fun h18 k18 i18 =>?_;have f7:takeS ({ v8 with holder := -1,left:=0 }:Srv) [120]=([],{ v8 with holder := -1,left:=0 }):=by unfold takeS;rw[getM_x]
  rw[f7] at i18 ⊢;rw[if_pos (show decide (bx []=(⟨#[]⟩:ByteArray))=true by decide)];refine server_Log.s i18 o16.c fun x h19 k19 lr _=>⟨?_,(kb k017 k18).n k19⟩;have hl:({ v8 with holder := -1,left:=0 }:Srv).C.all=[]:=ca8;rw[lr.n,hl]
  rfl
 ·rintro _ h' ⟨rfl,k'⟩;exact hK h' k'
theorem once_nd {α : Type} [DecidableEq α]:∀ {xs L:List α},L.Nodup→(onceL L xs).Nodup
 | [],L,h=>h
 | x :: r, L, h => by
   refine once_nd (xs:=r) (L:=once L x) ?_;unfold once;split
   ·exact h
   ·rename_i hx
    refine List.nodup_append.2 ⟨h,by simp,fun a ha b hb =>?_⟩;simp at hb;subst hb;exact fun e=>hx (e ▸ ha)
theorem put_all:∀ {L pre:List ByteArray},(pre++L).Nodup→noClash (pre++L)→(∀d∈pre++L,d.size≤4096)→(pre++L).length≤1024→L.foldl putO pre=pre++L
 | [],pre,_,_,_,_=>by simp
 | d :: r, pre, hn, hc, hz, hl => by
   have e:putO pre d=pre++[d]:=by
    unfold putO;have h1:=hz d (by simp);rw[if_neg (by omega)]
    have h2:heldO pre d=false:=by
     unfold heldO
     cases hk:known pre (hashS d) with
     | none=>rfl
     | some y =>
       obtain ⟨a,b⟩:=known_some hk;have:=hc y (by simp[a]) d (by simp) b;subst this;have:=(List.nodup_append.1 hn).2.2 y a y (by simp);exact absurd rfl this
    rw[h2,if_neg (by simp)];simp only [YAA,List.length_cons] at hl;rw[if_neg (by omega)]
   rw[List.foldl_cons,e,put_all (L:=r) (pre:=pre++[d])] <;> simp only [List.append_assoc,List.singleton_append] <;> assumption
def nobody:By:=[110,111,98,111,100,121]
theorem clb_objs {o:ByteArray} (h:o∈buildO (emptyS clb)):o.size≤100∧o.size≠6:=by
 rw[mem_buildO,mem_allO] at h;obtain ⟨t,ht,h⟩:=h
 have ht:t=[rootU]∨t=[]:=by
  rw[emptyU_eq] at ht;rcases List.mem_cons.1 ht with rfl | ht
  ·exact .inl rfl
  ·exact .inr (List.eq_of_mem_replicate ht)
 rcases h with ⟨x,hx,h⟩ | rfl
 ·rcases ht with rfl | rfl
  ·simp at hx;subst hx;unfold ndAll at h;rw[if_pos (by rfl)] at h;simp at h;subst h;rw[bx_size]
   decide
  ·simp at hx
 ·unfold tabText itabBytes;rw[bx_size];rcases ht with rfl | rfl
  ·simp[be_len,inoBytes]
  ·simp[be_len]
theorem fill_all {α : Type} {mk:List α → Msg}:∀ {L acc:List α},(∀n,n≤L.length→putM (mk (acc++L.take n))=true)→fillM mk acc L=acc++L
 | [],acc,_=>by simp[fillM]
 | x :: r, acc, h => by
   have h1:=h 1 (by simp);show (if putM (mk (acc++[x]))=true then _ else _)=_;rw[if_pos (by simpa using h1),fill_all (L:=r) (acc:=acc++[x]) fun n hn =>?_]
   ·simp
   ·have:=h (n+1) (by simp;omega);simpa using this
theorem flatT_len:∀(l:List By),(∀t∈l,t.length≤100)→(l.flatMap mTxt).length≤102*l.length
 | [],_=>by simp
 | z :: r, h => by
   have h1:=flatT_len r fun t ht=>h t (by simp[ht]);have h2:=h z (by simp);rw[List.flatMap_cons,YAA,List.length_cons,mTxt_len];omega
theorem putW {W:List HVec} (h:W.length≤255):putM ⟨2,1,0,[],W,[]⟩=true:=by
 unfold putM msgMay;simp only [YAD,decide_eq_true_eq,List.all_nil,and_true,YAC];refine ⟨⟨by decide,by decide,by decide,by decide,by decide,by decide,by decide,trivial,h,by decide⟩,?_⟩;have:=flatH_len W;rw[bytes_mid];unfold mid;have h7:=hdM_len (m:=⟨2,1,0,[],W,[]⟩);simp only [YAA,be_len,List.flatMap_nil,YAC,this,h7];omega
theorem putT {T:List By} (h:T.length≤64) (hz:∀t∈T,t.length≤100):putM ⟨3,1,0,[],[],T⟩=true:=by
 unfold putM msgMay;simp only [YAD,decide_eq_true_eq,List.all_nil,and_true,YAC,List.all_eq_true];refine ⟨⟨by decide,by decide,by decide,by decide,by decide,by decide,by decide,trivial,by decide,by omega,fun t ht=>by have:=hz t ht;omega⟩,?_⟩;have:=flatT_len T hz;rw[bytes_mid];unfold mid;have h7:=hdM_len (m:=⟨3,1,0,[],[],T⟩);simp only [YAA,be_len,List.flatMap_nil,YAC,h7];omega
theorem want_told {v:Srv} {W:List HVec} (hW:W.length≤64) (hz:∀t∈W.map (foundO v.os),t.length≤100):wantS v ⟨2,1,0,[],W,[]⟩=bytesM ⟨3,1,0,[],[],W.map (foundO v.os)⟩:=by
 unfold wantS;rw[if_neg (show ¬64<W.length by omega)]
 have hf:fillM (objsM 1) [] (W.map (foundO v.os))=W.map (foundO v.os):=by
  rw[fill_all fun n hn =>?_,List.nil_append];rw[List.nil_append];exact putT (by simp;omega) fun t ht=>hz t (List.take_subset _ _ ht)
 show ansM (objsM 1 (fillM (objsM 1) [] (W.map (foundO v.os))))=_;rw[hf];exact ansM_put (putT (by simpa using hW) hz)
theorem take_want {v:Srv} {W:List HVec} (hus:v.C.m.users=2) (hW:W.length≤255):takeS v (bytesM ⟨2,1,0,[],W,[]⟩)=(wantS v ⟨2,1,0,[],W,[]⟩,v):=by
 unfold takeS;rw[getM_put (putW hW)];dsimp only;rw[if_neg (by rw[hus];decide),if_neg (by decide),if_pos rfl]
theorem u64_modE {x:Int} {n:Nat} (h:n≤1000000):∃k:Nat,k≤n∧u64I (w64 ((n:Int)+1))≠0∧w64 (((u64I x)%(u64I (w64 ((n:Int)+1)))).toNat:Int)=k:=by
 have h1:w64 ((n:Int)+1)=((n+1:Nat):Int):=w6 (by omega);rw[h1];have h2:(u64I ((n+1:Nat):Int)).toNat=n+1:=u64_nat (by omega);have h3:((u64I x)%(u64I ((n+1:Nat):Int))).toNat<n+1:=by rw[UInt64.toNat_mod,h2];exact Nat.mod_lt _ (by omega)
 refine ⟨((u64I x)%(u64I ((n+1:Nat):Int))).toNat,by omega,fun e =>?_,w64_id (by omega) (by omega)⟩;rw[e] at h2;simp at h2
theorem and_15E {x:Int}:∃k:Nat,k≤15∧andI x 15=k:=by
 have:=andI_mask x (k:=4) (by decide);have e:((2^4-1:Nat):Int)=15:=by decide
 rw[e] at this;refine ⟨(x%16).toNat,by omega,?_⟩;rw[this];have:((2^4:Nat):Int)=16:=by decide
 rw[this];omega
theorem want_len {W:List HVec} (hW:W.length≤255):(bytesM ⟨2,1,0,[],W,[]⟩).length≤65536:=by
 have:=putW hW;unfold putM at this;simp only [YAD,decide_eq_true_eq] at this;exact this.2
def msW (ws:Slc):MsK.Ty:=(2,(1,(0,(⟨none,0,0⟩,(ws,(⟨none,0,0⟩,()))))))
theorem msW_at {h:Heap} {ws:Slc} {W:List HVec} (r:Row h t_api_Hash HK ws W):MsAt h (msW ws) [] ⟨2,1,0,[],W,[]⟩:=⟨rfl,rfl,rfl,(Row.nil (T:=t_api_Entry)).seg,trivial,r.seg,(Row.nil (T:=t_string)).seg⟩
structure TlS (h15 hh:Heap) (b2:Nat) (os:List ByteArray) (n:Nat) (ts:Slc) (ws:Slc) (W:List HVec) (T:List By):Prop where
 k:Keep [] h15 hh
 e:hh[b2]? = some (vobj t_api_Msg MsK (msW ws))
 w:Row hh t_api_Hash HK ws W
 ow:∀q∈own ws,h15.size≤q
 t:Row hh t_string .s ts (T.map bx)
 ot:∀q∈own ts,h15.size≤q
 n:W.length=n
 f:W.map (foundO os)=T
 z:∀t∈T,t.length≤100
 b:h15.size≤b2
section
variable {h15 hh h':Heap} {b2 n:Nat} {os:List ByteArray} {ts ws:Slc} {W:List HVec} {T:List By}
theorem TlS.keep0 (g:TlS h15 hh b2 os n ts ws W T) (k:Keep [] hh h'):TlS h15 h' b2 os n ts ws W T:=
 ⟨g.k.n k,k.g g.e,g.w.keep k (by simp),g.ow,g.t.keep k (by simp),g.ot,g.n,g.f,g.z,g.b⟩
theorem TlS.add {z:HVec} {x:By} {K:Heap→Prop} (g:TlS h15 hh b2 os n ts ws W T) (hl:n≤1000) (hf:foundO os z=x) (hx:x.length≤100) (hK:∀h' ws' ,Keep [] h15 h'→h'[b2]? = some (vobj t_api_Msg MsK (msW ws'))→Row h' t_api_Hash HK ws' (W++[z])→(∀q∈own ws',h15.size≤q)→Row h' t_string .s ts (T.map bx)→K h') :
 bs t_api_Hash HK [z] hh fun s6 h22=>sm .sl ((Pl.mk b2 0).fld 4) ws h22∧slCells s6 (s6.len*32) h22 fun cs=>ap t_api_Hash HK 32 ws s6.len cs h22 fun s7 h23=>Go.Al.st .sl ((Pl.mk b2 0).fld 4) s7 h23 K:=by
 have gn:=g.n;refine app2s (by_:=32) g.w rfl (by omega) (fun h' k'=>(ms_f (k'.g g.e)).2.2.2.2.1) fun s7 h23 k23 r23 o23 =>?_;have e3:=k23.get g.e (rowT g.w g.e (by decide));refine mst4 e3 fun h24 k24 e24 hs24 =>?_;have zz:=g.k.1;have t3:=g.t.keep k23 (tagU g.t g.w (by decide));refine hK h24 s7 ((g.k.new k23 g.ow).new k24 (by simpa using g.b)) e24 (r23.keep k24 fun q hq hm=>by simp at hm;subst hm;exact rowT r23 e3 (by decide) hq) (fun q hq =>?_) (t3.keep k24 fun q hq hm=>by simp at hm;subst hm;exact rowT t3 e3 (by decide) hq);rcases o23 q hq with h | h
 ·exact g.ow q h
 ·omega
end
theorem ZBM.s {picks:Slc} {xs:List Int} {more:Int} {h:Heap} {K:Bool→Heap→Prop} (g:Seg .i picks xs h) (hK:∀h',Keep [] h h'→K true h'):ZBM.C picks more h K:=by
 apply ZBM.c;unfold ZBM.m;refine ZCW.s fun h0 k0 =>?_;rw[if_neg (by simp)];refine mk23 (x:=[97]) (y:=[98]) (by decide) (by decide) fun kv ks h1 k1 md =>?_;generalize seedD [97]=A at md;generalize seedD [98]=B at md;refine new_st_gen fun p1 h3 hp1 k3 e3 hs3 =>?_;have e3:h3[p1]? = some (vobj t_api_Keys KeK kv):=e3;refine ld_go (sm_all e3) ?_;have k03:Keep [] h h3:=(k0.n k1).n k3;refine new23 (b1:=0) (md.keep0 k3) fun h4 n0 b c t st r mv ps bs k4 hn0 i4 =>?_;obtain ⟨o4,ca,cu,ch⟩:=newV_f (A:=A) (B:=B);have hos:(newV (clbK A B)).os=(buildO (emptyS clb)).foldl putO []:=rfl;generalize newV (clbK A B)=v at i4 o4 ca cu ch hos;have k04:Keep [] h h4:=k03.n k4;refine ld_go (ke_f (k4.g e3)).1 ?_;refine ZCX.s (m:=clb) (md.m.keep (k3.n k4) (by simp)).at (by decide) fun h8 o1 o2 k8 r1 r2 =>?_;have hob:∀o∈buildO (emptyS clb),o.size≤100∧o.size≠6:=fun o ho=>clb_objs ho;have hnd:(buildO (emptyS clb)).Nodup:=once_nd List.nodup_nil;have hlen:=objs_len (X:=emptyS clb) (by decide)
 have hne:buildO (emptyS clb)≠[]:=fun e=>by
  unfold buildO at e;have:=onceL_ne.1 e;exact absurd this.2 (by rw[emptyU_eq];unfold tabObjs;simp)
 have hhl:(buildH (emptyS clb)).length=3:=rfl;have l1:=r1.len;rw[hhl] at l1;generalize buildH (emptyS clb)=BH at r1
 have hl4:(buildO (emptyS clb)).length≤1024:=by
  have h1:=onceL_len (L:=([]:List ByteArray)) (xs:=(emptyS clb).flatMap tabObjs);have h2:((emptyS clb).flatMap tabObjs).length=4:=rfl;unfold buildO;rw[h2] at h1;simp only [YAC] at h1;omega
 have hl2:(buildO (emptyS clb)).length≤100000:=by omega
 generalize buildO (emptyS clb)=O at *;have l2:=r2.len;have hO:O.length≠0:=fun e=>hne (List.length_eq_zero_iff.1 e);have i8:=i4.keep0 k8;have k08:Keep [] h h8:=k04.n k8;refine jn_at (false,()) h8 ?_ ?_
 ·refine ZBi.s ?_;rw[if_neg (by simp),if_neg (by simp),if_neg (by simp;omega)];refine ⟨?_,rfl⟩;rw[dF (show ¬((o2.len:Int)=0) by omega)]
 rw[if_neg (by simp)];refine bs_gen fun q1 h11 hq1 k11 r11 hs11 =>?_;have r2a:=r2.keep k11 (by simp);refine slCells_seg r2a.seg (by rw[l2];rfl) ?_;refine ap_row r11 l2 rfl (by simp;omega) fun s3 h12 r12 k12 o12 =>?_;have z11:=k11.1;have w11:∀q∈own (⟨some ⟨q1,0⟩,([]:List ByteArray).length,([]:List ByteArray).length⟩:Slc),h8.size≤q:=fun q hq=>by simp[own] at hq;omega
 have k812:Keep [] h8 h12:=k11.new k12 w11
 have ow12:∀q∈own s3,h8.size≤q:=fun q hq=>by
  rcases own_of o12 q hq with h | h
  ·exact w11 q h
  ·omega
 refine app2 (by_:=16) (x:=bx nobody) r12 rfl (by simp;omega) fun s5 h14 k14 r14 o14 =>?_;have k814:Keep [] h8 h14:=k812.new k14 ow12;have hnb:(bx nobody).size=6:=by rw[bx_size];rfl
 have hcl:∀h',Keep [] h14 h'→Keep [] h h':=fun h' k'=>(k08.n k814).n k';rw[List.nil_append] at r14;refine ZCn.s r14.seg (by simp;omega) (fun o ho =>?_) (fun _ h15 k15 =>?_) (fun hno h15 k15 =>?_)
 ·rcases List.mem_append.1 ho with h | h
  ·have:=(hob o h).1;omega
  ·simp at h;subst h;omega
 ·rw[if_pos (by rfl)];exact hK h15 (hcl h15 k15)
 rw[if_neg (by simp)];have k815:Keep [] h8 h15:=k814.n k15;have i15:=i8.keep0 k815;have r215:=r2.keep k815 (by simp);have hnoO:noClash O:=fun a ha b hb e=>hno a (by simp[ha]) b (by simp[hb]) e
 have hvos:v.os=O:=by
  rw[hos];have:=put_all (L:=O) (pre:=[]) (by simpa using hnd) (by simpa using hnoO) (fun d hd=>by have:=(hob d (by simpa using hd)).1;omega) (by simpa using hl4);simpa using this
 have hin:∀o∈O,foundO O (hashS o)=o.data.toList:=fun o ho=>by
  unfold foundO;rw[known_of hnoO ho (by have:=(hob o ho).1;omega)]
 have hnot:foundO O (hashS (bx nobody))=[]:=by
  unfold foundO
  cases hk:known O (hashS (bx nobody)) with
  | none=>rfl
  | some y =>
    obtain ⟨a,e⟩:=known_some hk;have:=hno y (by simp[a]) (bx nobody) (by simp) e;subst this;exact absurd hnb (hob _ a).2
 refine new_st_gen fun b2 h17 hb2 k17 e17 hs17 =>?_;have e17:h17[b2]? = some (vobj t_api_Msg MsK (msW ⟨none,0,0⟩)):=e17;have gl:=g.len;have k0_15:Keep [] h h15:=hcl h15 k15;refine lp_go (fun (y:Slc×Int×Unit) (hh:Heap)=>∃(n:Nat) (ws:Slc) (W:List HVec) (T:List By),y.2.1=n∧n≤xs.length∧n≤64∧TlS h15 hh b2 O n y.1 ws W T) (fun (y:Slc×Int×Unit) _=>64-y.2.1.toNat) ?_ ?_
 ·exact ⟨0,⟨none,0,0⟩,[],[],rfl,Nat.zero_le _,by decide,⟨k17,e17,.inl ⟨rfl,rfl⟩,by simp[own],.inl ⟨rfl,rfl⟩,by simp[own],rfl,rfl,by simp,by omega⟩⟩
 rintro ⟨(ts:Slc),(ii:Int),_⟩ h18 ⟨n,ws,W,T,en,hnx,hn64,S⟩;dsimp only at en S ⊢;subst en;refine jn_at (decide (n<xs.length∧n<64),()) h18 ?_ ?_
 ·refine itL (fun c'=>⟨?_,rfl⟩) fun c'=>⟨by rw[dF (by omega)],rfl⟩;by_cases h40:n<64
  ·rw[dT (show (n:Int)<64 by omega),dT (by omega)]
  ·rw[dF (show ¬(n:Int)<64 by omega),dF (by omega)]
 by_cases hrun:n<xs.length∧n<64
 ·rw[if_pos (dT hrun)];obtain ⟨hlt,h64⟩:=hrun;have hw:w64 ((n:Int)+1)=((n+1:Nat):Int):=w6 (by omega);rw[hw];refine jn_in (fun y h'=>∃ws W T,TlS h15 h' b2 O (n+1) y.1 ws W T) ?_ ?_
  rotate_left
  ·rintro ⟨(ts':Slc),_⟩ h20 ⟨ws',W',T',S'⟩;exact ⟨⟨n+1,ws',W',T',rfl,by omega,by omega,S'⟩,by show 64-((n+1:Nat):Int).toNat<64-((n:Nat):Int).toNat;omega⟩
  refine seg_ix (g.keep (by decide) (k0_15.n S.k)) (x:=xs[n]) (by omega) (by rw[Int.toNat_natCast];exact List.getElem?_eq_getElem hlt) rfl ?_;generalize xs[n]=x;obtain ⟨k,hk,hk1,hk2⟩:=u64_modE (x:=x) (n:=O.length) (by omega);rw[l2];refine ⟨hk1,?_⟩;rw[hk2]
  have fin:∀ {z:HVec} {u:By} {h21:Heap},foundO O z=u→u.length≤100→Keep [] h18 h21→∀(Q:Heap→Prop),(∀h24,(∃ws',Keep [] h15 h24∧h24[b2]? = some (vobj t_api_Msg MsK (msW ws'))∧Row h24 t_api_Hash HK ws' (W++[z])∧(∀q∈own ws',h15.size≤q)∧Row h24 t_string .s ts (T.map bx))→Q h24) →
   Go.Al.bs t_api_Hash HK [z] h21 fun s6 h22=>sm .sl ((Pl.mk b2 0).fld 4) ws h22∧slCells s6 (s6.len*32) h22 fun cs=>ap t_api_Hash HK 32 ws s6.len cs h22 fun s7 h23=>Go.Al.st .sl ((Pl.mk b2 0).fld 4) s7 h23 Q:=by
   intro z u h21 hf hu k21 Q hQ;refine (S.keep0 k21).add (by omega) hf hu fun h24 ws' a1 a2 a3 a4 a5=>hQ h24 ⟨ws',a1,a2,a3,a4,a5⟩
  have fin2:∀ {z:HVec} {u:By} {h24:Heap} {ws':Slc},foundO O z=u→u.length≤100→Keep [] h15 h24→h24[b2]? = some (vobj t_api_Msg MsK (msW ws'))→Row h24 t_api_Hash HK ws' (W++[z])→(∀q∈own ws',h15.size≤q)→Row h24 t_string .s ts (T.map bx) →
   Go.Al.bs t_string .s [bx u] h24 fun s8 h25=>slCells s8 (s8.len*1) h25 fun cs4=>ap t_string .s 16 ts s8.len cs4 h25 fun s9 h26=>∃ws W T,TlS h15 h26 b2 O (n+1) s9 ws W T:=by
   intro z u h24 ws' hf hu a1 a2 a3 a4 a5;have hTn:T.length=n:=by rw[←S.f,YAB,S.n]
   refine app2 (by_:=16) a5 rfl (by rw[YAB];omega) fun s9 h26 k26 r26 o26 =>?_;have z15:=a1.1;refine ⟨ws',W++[z],T++[u],⟨a1.new k26 S.ot,k26.get a2 (rowT a5 a2 (by decide)),a3.keep k26 (tagU a3 a5 (by decide)),a4,?_,fun q hq =>?_,by simp[S.n],by rw[List.map_append,S.f];simp[hf],fun t ht =>?_,S.b⟩⟩
   ·rw[List.map_append];exact r26
   ·rcases o26 q hq with h | h
    ·exact S.ot q h
    ·omega
   ·rcases List.mem_append.1 ht with h | h
    ·exact S.z t h
    ·simp at h;subst h;exact hu
  by_cases hkl:k=O.length
  ·rw[if_pos (by simp[hkl])];refine ld_go (ms_f S.e).2.2.2.2.1 ?_;show ZAK.C (bx nobody) h18 _;refine ZAK.s (by rw[hnb];decide) fun h21 k21=>⟨(ms_f (k21.g S.e)).2.2.2.2.1,?_⟩;refine fin hnot (by decide) k21 _ ?_;rintro h24 ⟨ws',a1,a2,a3,a4,a5⟩;exact fin2 (z:=hashS (bx nobody)) (u:=[]) hnot (by decide) a1 a2 a3 a4 a5
  ·rw[if_neg (by simp;omega)];have hklt:k<O.length:=by omega
   have hix:O[((k:Nat):Int).toNat]? = some O[k]:=by rw[Int.toNat_natCast];exact List.getElem?_eq_getElem hklt
   have hmem:O[k]∈O:=List.getElem_mem hklt;have hsz:=hob _ hmem;refine ld_go (ms_f S.e).2.2.2.2.1 ?_;refine seg_ix (r215.keep S.k (by simp)).seg (x:=O[k]) (by omega) hix rfl ?_;refine ZAK.s (by omega) fun h21 k21=>⟨(ms_f (k21.g S.e)).2.2.2.2.1,?_⟩;have hfo:=hin _ hmem;have hdl:O[k].data.toList.length≤100:=hsz.1;refine fin hfo hdl k21 _ ?_;rintro h24 ⟨ws',a1,a2,a3,a4,a5⟩;refine seg_ix (r215.keep a1 (by simp)).seg (x:=O[k]) (by omega) hix rfl ?_;have:=fin2 (z:=hashS O[k]) (u:=O[k].data.toList) hfo hdl a1 a2 a3 a4 a5;rw[bx_list] at this;exact this
 rw[if_neg (by simpa using hrun)];have Sn:=S.n;have hTl:T.length=n:=by rw[←S.f,YAB,S.n]
 refine ld_go (sm_all S.e) ?_;refine ZAv.s (msW_at S.w) ⟨by simp,by simp,by show W.length≤_;omega,by simp⟩ fun h33 k33 =>?_;rw[putW (by omega),if_pos rfl];have S33:=S.keep0 k33;have i33:=i15.keep0 S33.k;have lb:=i4.lb;have z4:=k03.1;have hbb:h.size≤b:=by omega
 have hwl:=want_len (W:=W) (by omega);refine server_Take.q i33 o4 (by omega) (fun m hm =>?_) fun h34 k34 i34 =>?_
 ·rw[getM_put (putW (by omega))] at hm
  cases hm
  show (2:Int)≠4
  decide
 rw[take_want cu (by omega)] at i34 ⊢;have hfd:W.map (foundO v.os)=T:=by rw[hvos];exact S.f
 have hw3:wantS v ⟨2,1,0,[],W,[]⟩=bytesM ⟨3,1,0,[],[],T⟩:=by
  have:=want_told (v:=v) (W:=W) (by omega) (by rw[hfd];exact S.z);rw[hfd] at this;exact this
 rw[hw3];have hpT:=putT (T:=T) (by omega) S.z
 have hbl:(bytesM ⟨3,1,0,[],[],T⟩).length≤65536:=by
  have:=hpT;unfold putM at this;simp only [YAD,decide_eq_true_eq] at this;exact this.2
 refine ZA9.s (by show (bytesM ⟨3,1,0,[],[],T⟩).length≤_;omega) fun w er evs h35 k35 res =>?_;rw[getM_put hpT] at res;obtain ⟨rfl,mr⟩:=res;refine new_st_gen fun b3 h37 hb3 k37 e37 hs37 =>?_;have e37:h37[b3]? = some (vobj t_api_Msg MsK w):=e37;obtain ⟨m,hm15,hme⟩:=and_15E (x:=more);rw[hme];have hwm:w64 (65+(m:Int))=((65+m:Nat):Int):=w6 (by omega);rw[hwm];refine mk_gen (by omega) (by omega) fun q2 h38 hq2 k38 r38 hs38 =>?_;have n2b:b2≠b:=vobjN S33.e i33.e (by decide);have e34:=k34.get S33.e (by simpa using n2b);have e38:=k38.g (k37.g (k35.g e34));refine mst4 e38 fun h39 k39 e39 hs39 =>?_;have r39:Row h39 t_api_Hash HK ⟨some ⟨q2,0⟩,65+m,65+m⟩ (List.replicate (65+m) (Vector.replicate 32 0)):=r38.keep k39 fun q hq hmm=>by simp at hmm;subst hmm;exact rowT r38 e38 (by decide) hq
 refine ld_go (sm_all e39) ?_;generalize hZ:List.replicate (65+m) (Vector.replicate 32 (0:UInt8))=Z at r39;have hZl:Z.length=65+m:=by rw[←hZ,List.length_replicate]
 refine ZAv.s (msW_at r39) ⟨by simp,by simp,by show Z.length≤_;omega,by simp⟩ fun h40 k40 =>?_;rw[putW (by omega),if_pos rfl];have z38:=k38.1
 have n23:b3≠b2:=by
  have:=lt_of_some e34;have:=k35.1;omega
 have e3_40:=k40.g (k39.get (k38.g e37) (by simpa using n23));have F:=ms_f e3_40;rw[mr.k,mr.u] at F;have k35_40:Keep [b2] h35 h40:=((k37.n k38).then k39 (by simp) (fun q hq _=>hq)).then k40 (fun q hq _=>hq) (by simp);have k34_40:Keep [b2] h34 h40:=k35.then k35_40 (by simp) (fun q hq _=>hq);have z34:=k35.1
 have so:Row h40 t_string .s w.2.2.2.2.2.1 (T.map bx):=mr.o.keep k35_40 fun q hq hmm=>by
  simp at hmm;subst hmm;exact rowT mr.o (k35.g e34) (by decide) hq
 have hs0:=S33.k.1;have kb3:Keep [] h h34:=(k0_15.n S33.k).new k34 (by simpa using hbb);have hb2h:h.size≤b2:=by have:=S.b;have:=k0_15.1;omega
 have kh40:Keep [] h h40:=kb3.new k34_40 (by simpa using hb2h)
 have st40:Row h40 t_string .s ts (T.map bx):=by
  have a1:=S33.t.keep k34 fun q hq hmm=>by simp at hmm;subst hmm;exact rowT S33.t i33.e (by decide) hq
  exact a1.keep k34_40 fun q hq hmm=>by simp at hmm;subst hmm;exact rowT a1 e34 (by decide) hq
 refine jn_in (fun y h'=>y=(true,())∧Keep [] h h') ?_ ?_
 rotate_left
 ·rintro _ h' ⟨rfl,k'⟩;exact hK h' k'
 rw[if_pos (by rfl)];refine ld_go F.1 ?_;rw[if_pos (by rfl)];refine ld_go F.2.1 ?_;rw[if_pos (by rfl)];refine ld_go (ms_f e3_40).2.2.2.2.2 ?_;refine ZBZ.s so.seg st40.seg (by rw[YAB];omega) ?_;rw[if_pos (dT rfl)]
 have i40:IsSv n0 h40 b c t st r mv ps bs ⟨none,0,0⟩ [] v:=i34.keep k34_40 fun q hq=>by
  simp at hq;subst hq;exact .inr ⟨.inr ⟨rowT i34.c.p e34 (by decide),by simp[own],fun T hT=>cell_ne (o := .cells #[] 0 (0,0)) e34 (by rcases hT with rfl | rfl | rfl | rfl | rfl | rfl <;> decide)⟩,n2b,vobjN e34 i34.s.e (by decide),fun e=>i34.s.ne e34 e.symm⟩
 have hzl:=want_len (W:=Z) (by omega);refine server_Take.q i40 o4 (by omega) (fun m' hm' =>?_) fun h43 k43 i43 =>?_
 ·rw[getM_put (putW (by omega))] at hm'
  cases hm'
  show (2:Int)≠4
  decide
 rw[take_want cu (by omega)]
 have:wantS v ⟨2,1,0,[],Z,[]⟩=[]:=by
  unfold wantS;rw[if_pos (show 64<Z.length by omega)]
 rw[this];exact ⟨rfl,kh40.new k43 (by simpa using hbb)⟩
end Go.Proofs.Tryz
