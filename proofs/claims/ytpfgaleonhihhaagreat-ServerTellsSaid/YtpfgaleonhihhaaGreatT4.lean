import Derived.Test.YtpfgaleonhihhaaGreatT3
import Derived.Test.YtpfgaleonhihhaaGreatT2
import Derived.Test.YtpfgaleonhihhaaGreatT1
set_option linter.unusedVariables false
set_option linter.unusedSimpArgs false
set_option maxRecDepth 100000
open List renaming append_assoc → YAA, drop_eq_nil_of_le → YAB, drop_zero → YAC, flatMap_append → YAD, flatMap_cons → YAE, flatMap_nil → YAF, getElem?_eq_getElem → YAG, getElem_map → YAH, getElem_mem → YAI, length_append → YAJ, length_cons → YAK, length_drop → YAL, length_map → YAM, length_nil → YAN, length_take → YAO, map_append → YAP, take_of_length_le → YAQ, take_subset → YAR, take_succ_eq_append_getElem → YAS, take_zero → YAT
open Int renaming toNat_natCast → YAU, toNat_of_nonneg → YAV
open Nat renaming le_refl → YAW, le_trans → YAX, sub_self → YAY, zero_le → YAZ
open Bool renaming and_eq_true → YAa
namespace Go.Proofs.Tryz
open Go Go.Al
theorem tagO {h:Heap} {T T':Nat} {k k':Kd} {u v:Slc} {xs:List k.Ty} {ys:List k'.Ty} (r:Row h T k u xs) (r':Row h T' k' v ys) (hT:T≠T'):∀q∈own u,q∉own v:=fun q hq=>by
 rcases r with ⟨e,_⟩ | ⟨b,zs,e,_,_,e4⟩
 ·rw[e] at hq;simp[own] at hq
 ·have:q=b:=by unfold own at hq;rw[e] at hq;simpa using hq
  subst this;exact rowTag r' e4 hT
theorem ZAo.s {s:Slc} {L:List ByteArray} {x:ByteArray} {h:Heap} {K:Slc→Heap→Prop} (r:Row h t_string .s s L) (hl:L.length≤1000000)
 (hK:∀s' h',Row h' t_string .s s' (once L x)→Keep (own s) h h'→(∀q∈own s',q∈own s∨h.size≤q)→K s' h'):ZAo.C s x h K:=by
 apply ZAo.c;unfold ZAo.m;have rl:=r.len;refine lp_go (fun (y:Int×Unit) (h1:Heap)=>h1=h∧∃n:Nat,y.1=n∧n≤L.length∧x∉L.take n) (fun (y:Int×Unit) _=>L.length-y.1.toNat) ?_ ?_
 ·exact ⟨rfl,0,rfl,YAZ _,by simp⟩
 rintro ⟨(i:Int),_⟩ h1 ⟨rfl,n,e,hn,hni⟩;dsimp only at e ⊢;subst e;by_cases hlt:n<L.length
 ·rw[if_pos (show decide ((n:Int)<(s.len:Int))=true from dT (by omega))];have hw:w64 ((n:Int)+1)=((n+1:Nat):Int):=w6 (by omega);rw[hw];refine ix_ld r (x:=L[n]) (by omega) (by simp[hlt]) rfl ?_;by_cases he:L[n]=x
  ·rw[if_pos (by simpa using he)];have:once L x=L:=by unfold once;rw[if_pos (he ▸ YAI hlt)]
   rw[this] at hK;exact hK s h1 r Keep.rfl fun q hq => .inl hq
  ·rw[if_neg (by simpa using he)];refine ⟨⟨rfl,n+1,rfl,by omega,?_⟩,by simp;omega⟩;rw[YAS hlt];intro hm;rcases List.mem_append.1 hm with h | h
   ·exact hni h
   ·simp at h;exact he h.symm
 ·rw[if_neg (show ¬decide ((n:Int)<(s.len:Int))=true by simp;omega)];obtain rfl:n=L.length:=by omega
  rw[YAQ (YAW _)] at hni;have:once L x=L++[x]:=by unfold once;rw[if_neg hni]
  rw[this] at hK;exact app2 (by_:=16) r rfl (by omega) fun s2 h2 k2 r2 o2=>hK s2 h2 r2 k2 o2
theorem ZCw.s {c:UInt8} {hs:Slc} {L:List HsV} {h:Heap} {K:ByteArray→Heap→Prop} (g:Seg HK hs L h) (hl:L.length≤10000) (hK:∀h',Keep [] h h'→K (nodeS c L) h'):ZCw.C ⟨#[c]⟩ hs h K:=by
 apply ZCw.c;unfold ZCw.m;have gl:=g.len;rw[gl];refine ZAB.s (x:=L.length) (n:=1) (by decide) (by decide) (by omega) fun h1 k1 =>?_;have hb:(⟨(be L.length 1).toArray⟩:ByteArray)=bx [UInt8.ofNat L.length]:=by rw[be1];rfl
 rw[hb];show sadd (bx [c]) (bx [UInt8.ofNat L.length]) _;refine sadd_bb (by simp) ?_;refine lp_go (fun (y:ByteArray×Int×Unit) (h2:Heap)=>∃n:Nat,y.2.1=n∧n≤L.length∧Keep [] h h2∧y.1=bx ([c]++[UInt8.ofNat L.length]++(L.take n).flatMap (·.toList))) (fun (y:ByteArray×Int×Unit) _=>L.length-y.2.1.toNat) ?_ ?_
 ·exact ⟨0,rfl,YAZ _,k1,by simp⟩
 ·rintro ⟨(a:ByteArray),(i:Int),_⟩ h2 ⟨n,e,hn,k2,ea⟩;dsimp only at e ea ⊢;subst e;subst ea;by_cases hlt:n<L.length
  ·rw[if_pos (show decide ((n:Int)<(L.length:Int))=true from dT (by omega))];have hw:w64 ((n:Int)+1)=((n+1:Nat):Int):=w6 (by omega);rw[hw];refine seg_ix (g.keep (by decide) k2) (x:=L[n]) (by omega) (by simp[hlt]) rfl ?_;refine ZAy.s fun h3 k3 =>?_
   have fl:((L.take n).flatMap (·.toList)).length≤32*L.length:=by
    rw[flat32,YAO];omega
   refine sadd_bb (b:=L[n].toList) (by simp only [YAJ,YAK,YAN,Vector.length_toList];omega) ?_;refine ⟨⟨n+1,rfl,by omega,k2.n k3,?_⟩,by simp;omega⟩;rw[YAS hlt];simp only [YAD,YAE,YAF,List.append_nil,YAA]
  ·rw[if_neg (show ¬decide ((n:Int)<(L.length:Int))=true by simp;omega)];obtain rfl:n=L.length:=by omega
   rw[YAQ (YAW _)];exact hK h2 k2
theorem mid_take {α : Type} {l:List α} {lo n:Nat}:(l.take (min l.length (lo+n))).drop lo=(l.drop lo).take n:=by
 rw[List.drop_take];by_cases h:lo+n≤l.length
 ·rw[Nat.min_eq_right h]
  congr 1;omega
 ·rw[Nat.min_eq_left (by omega),YAQ (by rw[YAL];exact YAW _),YAQ (by rw[YAL];omega)]
theorem treeB_at {d:ByteArray} {n:Nat} (h:n<(treeB d).length):(treeB d)[n]=leafS ((d.data.toList.drop (n*64)).take 64):=by
 have hl:n<((chunk 64 d.data.toList).map leafS).length:=h;show ((chunk 64 d.data.toList).map leafS)[n]'hl=_;rw[YAH,chunk_at]
theorem treeI_at {d:ByteArray} {n:Nat} (h:n<(treeI d).length):(treeI d)[n]=nodeS 73 ((((treeB d).map hashS).drop (n*8)).take 8):=by
 have hl:n<((chunk 8 ((treeB d).map hashS)).map (nodeS 73)).length:=h;show ((chunk 8 ((treeB d).map hashS)).map (nodeS 73))[n]'hl=_;rw[YAH,chunk_at]
theorem ZBV.s {d:ByteArray} {h:Heap} {K:Kd.Ty (.ar 32 .u8)→Slc→Int→Heap→Prop} (hd:d.size≤4096)
 (hK:∀o h',Keep [] h h'→Row h' t_string .s o (treeO d)→(∀q∈own o,h.size≤q)→K (hashS (treeR d)) o 0 h'):ZBV.C d h K:=by
 apply ZBV.c;unfold ZBV.m;refine new_gen fun b1 h1 hb1 k1 e1 hs1 =>?_;have e1:h1[b1]? = some (vobj t_api_Hash HK (Vector.replicate 32 0)):=e1;rw[if_neg (show ¬decide ((d.size:Int)>4096)=true by simp;omega)];have lB:=treeB_len (d:=d);have lI:=treeI_len (d:=d);have dl:d.data.toList.length=d.size:=rfl;have hdx:d=bx d.data.toList:=bx_list.symm;have z1:=k1.1;refine lp_go (fun (y:Slc×Slc×Int×Unit) (h3:Heap)=>∃n:Nat,y.2.2.1=((n*64:Nat):Int)∧n≤(treeB d).length∧Keep [] h1 h3∧Row h3 t_string .s y.1 (onceL [] ((treeB d).take n))∧(∀q∈own y.1,h1.size≤q)∧Row h3 t_api_Hash HK y.2.1 (((treeB d).take n).map hashS)∧∀q∈own y.2.1,h1.size≤q) (fun (y:Slc×Slc×Int×Unit) _=>d.size-y.2.2.1.toNat) ?_ ?_
 ·exact ⟨0,rfl,YAZ _,Keep.rfl,Row.nil,by simp[own],Row.nil,by simp[own]⟩
 rintro ⟨(u:Slc),(v:Slc),(ii:Int),_⟩ h3 ⟨n,e,hn,k3,ru,ou,rv,ov⟩;dsimp only at e ru ou rv ov ⊢;subst e;by_cases hlt:n<(treeB d).length
 ·rw[if_pos (show decide (((n*64:Nat):Int)<(d.size:Int))=true from dT (by omega))];have hw:w64 (((n*64:Nat):Int)+64)=(((n+1)*64:Nat):Int):=w6 (by omega);have hmn:mn2 (d.size:Int) (((n+1)*64:Nat):Int)=((min d.size (n*64+64):Nat):Int):=by unfold mn2;split <;> omega
  rw[hw,hmn];refine ⟨by omega,by omega,by omega,?_⟩
  have hex:d.extract ((n*64:Nat):Int).toNat ((min d.size (n*64+64):Nat):Int).toNat=bx ((d.data.toList.drop (n*64)).take 64):=by
   rw[YAU,YAU]
   conv=>lhs;rw[hdx]
   rw[bx_ext,bx_size,mid_take]
  rw[hex];show sadd (bx [66]) (bx _) _;refine sadd_bb (by simp only [YAK,YAN,YAO];omega) ?_;have hB:=treeB_at hlt;have hx:bx ([66]++(d.data.toList.drop (n*64)).take 64)=(treeB d)[n]:=by rw[hB];rfl
  rw[hx]
  have hsz:((treeB d)[n]).size≤65536:=by
   rw[hB,leafS_size,YAO];omega
  have hol:=onceL_len (L:=([]:List ByteArray)) (xs:=(treeB d).take n);rw[YAO] at hol;simp only [YAN] at hol;refine ZAo.s ru (by omega) fun u4 h4 r4 k4 o4 =>?_;refine ZAK.s hsz fun h5 k5 =>?_;have rv5:=(rv.keep k4 (tagO rv ru (by decide))).keep k5 (by simp);have ru5:=r4.keep k5 (by simp);refine app2 (by_:=32) rv5 rfl (by simp only [YAM,YAO];omega) fun v7 h7 k7 r7 o7 =>?_;have z3:=k3.1;have z4:=k4.1;have z5:=k5.1;refine ⟨⟨n+1,rfl,by omega,((k3.new k4 ou).n k5).new k7 ov,?_,fun q hq =>?_,?_,fun q hq =>?_⟩,by simp;omega⟩
  ·rw[onceL_take hlt];exact ru5.keep k7 (tagO ru5 rv5 (by decide))
  ·rcases o4 q hq with h | h
   ·exact ou q h
   ·omega
  ·rw[YAS hlt,YAP];exact r7
  ·rcases o7 q hq with h | h
   ·exact ov q h
   ·omega
 rw[if_neg (show ¬decide (((n*64:Nat):Int)<(d.size:Int))=true from dn (by omega))];obtain rfl:n=(treeB d).length:=by omega
 rw[YAQ (YAW _)] at ru rv;have z3:=k3.1;have rvl:=rv.len;rw[YAM] at rvl;refine lp_go (fun (y:Slc×Slc×Int×Unit) (h8:Heap)=>∃m:Nat,y.2.2.1=((m*8:Nat):Int)∧m≤(treeI d).length∧Keep [] h1 h8∧h3.size≤h8.size∧Row h8 t_string .s y.1 (onceL (onceL [] (treeB d)) ((treeI d).take m))∧(∀q∈own y.1,h1.size≤q)∧Row h8 t_api_Hash HK y.2.1 (((treeI d).take m).map hashS)∧(∀q∈own y.2.1,h3.size≤q)∧Row h8 t_api_Hash HK v ((treeB d).map hashS)) (fun (y:Slc×Slc×Int×Unit) _=>(treeB d).length-y.2.2.1.toNat) ?_ ?_
 ·exact ⟨0,rfl,YAZ _,k3,YAW _,ru,ou,Row.nil,by simp[own],rv⟩
 rintro ⟨(u2:Slc),(w:Slc),(ii:Int),_⟩ h8 ⟨m,e,hm,k8,z8,ru8,ou8,rw8,ow8,rv8⟩;dsimp only at e ru8 ou8 rw8 ow8 ⊢;subst e;have hol1:=onceL_len (L:=([]:List ByteArray)) (xs:=treeB d);have hol2:=onceL_len (L:=onceL [] (treeB d)) (xs:=(treeI d).take m);rw[YAO] at hol2;simp only [YAN] at hol1;have vlt:=rv.lt;by_cases hlt:m<(treeI d).length
 ·rw[if_pos (show decide (((m*8:Nat):Int)<(v.len:Int))=true from dT (by omega))];have hw:w64 (((m*8:Nat):Int)+8)=(((m+1)*8:Nat):Int):=w6 (by omega);have hmn:mn2 (v.len:Int) (((m+1)*8:Nat):Int)=((min (treeB d).length (m*8+8):Nat):Int):=by unfold mn2;split <;> omega
  rw[hw,hmn];have hvc:=rv8.cap;rw[YAM] at hvc
  obtain ⟨bb,hva⟩:∃bb,v.a=some ⟨bb,0⟩:=by
   rcases rv8 with ⟨e,_⟩ | ⟨bb,zs,e,_⟩
   ·rw[e] at rvl;simp at rvl;omega
   ·exact ⟨bb,e⟩
  refine slx_go' (lo:=m*8) (hi:=min (treeB d).length (m*8+8)) (mx:=v.cap) hva (by omega) (by omega) (by omega) fun l hl1 hl2 _ =>?_;have hlo:m*8<v.cap:=by omega
  have gsub:=row_sub (c:=v.cap-m*8) rv8 hva (lo:=m*8) (hi:=min (treeB d).length (m*8+8)) (by omega) (by rw[YAM];omega);rw[hl2 hlo]
  have hsl:(((treeB d).map hashS).take (min (treeB d).length (m*8+8))).drop (m*8)=(((treeB d).map hashS).drop (m*8)).take 8:=by
   have:=mid_take (l:=(treeB d).map hashS) (lo:=m*8) (n:=8);rw[YAM] at this;exact this
  rw[hsl] at gsub;refine ZCw.s (c:=73) gsub (by rw[YAO];omega) fun h9 k9 =>?_;have hI:=treeI_at hlt;rw[←hI]
  have hsz:((treeI d)[m]).size≤65536:=by
   rw[hI,nodeS_size,YAO];omega
  have ru9:=ru8.keep k9 (by simp);have rw9:=rw8.keep k9 (by simp);have rv9:=rv8.keep k9 (by simp);refine ZAo.s ru9 (by omega) fun u10 h10 r10 k10 o10 =>?_;refine ZAK.s hsz fun h11 k11 =>?_;have rw11:=(rw9.keep k10 (tagO rw9 ru9 (by decide))).keep k11 (by simp);have rv11:=(rv9.keep k10 (tagO rv9 ru9 (by decide))).keep k11 (by simp);have ru11:=r10.keep k11 (by simp);refine app2 (by_:=32) rw11 rfl (by simp only [YAM,YAO];omega) fun w13 h13 k13 r13 o13 =>?_;have z9:=k9.1;have z10:=k10.1;have z11:=k11.1;have z13:=k13.1;refine ⟨⟨m+1,rfl,by omega,(((k8.n k9).new k10 ou8).n k11).new k13 (fun q hq=>by have:=ow8 q hq;omega),by omega,?_,fun q hq =>?_,?_,fun q hq =>?_,?_⟩,by simp;omega⟩
  ·rw[onceL_take hlt];exact ru11.keep k13 (tagO ru11 rw11 (by decide))
  ·rcases o10 q hq with h | h
   ·exact ou8 q h
   ·omega
  ·rw[YAS hlt,YAP];exact r13
  ·rcases o13 q hq with h | h
   ·exact ow8 q h
   ·omega
  ·exact rv11.keep k13 (fun q hq hm=>by have h1:=vlt q hq;have h2:=ow8 q hm;omega)
 rw[if_neg (show ¬decide (((m*8:Nat):Int)<(v.len:Int))=true from dn (by omega))];obtain rfl:m=(treeI d).length:=by omega
 rw[YAQ (YAW _)] at ru8 rw8;refine ZCw.s (c:=82) rw8.seg (by simp;omega) fun h14 k14 =>?_;have hsz:(treeR d).size≤65536:=by unfold treeR;rw[nodeS_size];simp;omega
 show ZAo.C u2 (treeR d) h14 _;refine ZAo.s (ru8.keep k14 (by simp)) (by have:=onceL_len (L:=onceL [] (treeB d)) (xs:=treeI d);omega) fun u15 h15 r15 k15 o15 =>?_;show ZAK.C (treeR d) h15 _;refine ZAK.s hsz fun h16 k16 =>?_;have k116:=((k8.n k14).new k15 ou8).n k16;refine st_to (k116.g e1) fun h17 k17 e17 hs17=>ld_go (sm_all e17) ?_
 have hO:once (onceL (onceL [] (treeB d)) (treeI d)) (treeR d)=treeO d:=by
  unfold treeO;rw[onceL_app,onceL_app,onceL_one]
 rw[hO] at r15;have z14:=k14.1;have z18:=k8.1;have z1':=lt_of_some e1;refine hK u15 h17 ((k1.n k116).new k17 (by simp;omega)) ((r15.keep k16 (by simp)).keep k17 (fun q hq hm =>?_)) fun q hq =>?_
 ·simp at hm;subst hm;rcases o15 _ hq with h | h
  ·have:=ou8 _ h;omega
  ·omega
 ·rcases o15 q hq with h | h
  ·have:=ou8 q h;omega
  ·omega
theorem inod_eq {v:InK.Ty} (h:inodMay (vIno v)=true):inoMay v=true:=by
 unfold inodMay at h;unfold inoMay;simp only [YAa,decide_eq_true_eq] at h ⊢;obtain ⟨⟨h1,h2⟩,h3⟩:=h;have e1:iN v=(vIno v).num:=rfl;have e2:iK v=(vIno v).kind:=rfl;have e3:iM v=(vIno v).mode:=rfl;have e4:iL v=(vIno v).links:=rfl;have e5:iS v=(vIno v).size:=rfl;rw[e1,e2,e3,e4,e5];generalize vIno v=x at *;refine ⟨⟨⟨h1,h2⟩,?_⟩,?_⟩
 ·split at h3 <;> omega
 ·by_cases hk:x.kind=1
  ·rw[if_pos hk] at h3;simp[hk];omega
  ·simp[hk]
theorem ZCF.s {s:Slc} {vs:List InK.Ty} {h:Heap} {K:Bool→Heap→Prop} (g:Seg InK s vs h) (hm:itabMay (vs.map vIno)=true)
 (hK:∀h',Keep [] h h'→K true h'):ZCF.C s h K:=by
 apply ZCF.c;unfold ZCF.m;have gl:=g.len;have hlen:=(itab_ok hm).2;rw[YAM] at hlen;have hall:∀j (hj:j<vs.length),inoMay vs[j]=true:=fun j hj=>inod_eq ((itab_ok hm).1 _ (List.mem_map_of_mem (YAI hj)))
 have hr:∀j (hj:j+1<vs.length),(vIno vs[j]).num<(vIno vs[j+1]).num:=fun j hj=>by
  have h1:risesO (vs.map vIno)=true:=by
   unfold itabMay at hm;rw[YAa] at hm;exact hm.2
  have:=(risesO_iff (vs.map vIno)).1 h1 j (by simpa using hj);simpa using this
 refine lp_go (fun (y:Int×Unit) (h1:Heap)=>∃n:Nat,y.1=n∧n≤vs.length∧Keep [] h h1) (fun (y:Int×Unit) _=>vs.length-y.1.toNat) ?_ ?_
 ·exact ⟨0,rfl,YAZ _,Keep.rfl⟩
 rintro ⟨(i:Int),_⟩ h1 ⟨n,e,hn,k1⟩;dsimp only at e ⊢;subst e;by_cases hlt:n<vs.length
 ·rw[if_pos (show decide ((n:Int)<(s.len:Int))=true from dT (by omega))];have hw:w64 ((n:Int)+1)=((n+1:Nat):Int):=w6 (by omega);rw[hw];refine jn_go ?_;refine jn_in (fun y h'=>y.1=false∧Keep [] h h') ?_ ?_
  ·refine seg_ix (g.keep (by decide) k1) (x:=vs[n]) (by omega) (by simp[hlt]) rfl ?_;refine ZBO.s fun h4 k4 =>?_;have k04:=k1.n k4;rw[hall n hlt,if_neg (by simp)];by_cases h0:0<n
   ·rw[if_pos (show decide ((n:Int)>0)=true from dT (by omega))];have hw1:w64 ((n:Int)-1)=((n-1:Nat):Int):=w6 (by omega);rw[hw1];have g4:=g.keep (by decide) k04;have hp:n-1<vs.length:=by omega
    refine seg_ixl g4 (x:=vs[n-1]) (by omega) (by simp[hp]) rfl fun l hl=>ld_go (in_f hl).1 ?_;refine seg_ixl g4 (x:=vs[n]) (by omega) (by simp[hlt]) rfl fun l' hl'=>ld_go (in_f hl').1 ?_;have:=hr (n-1) (by omega);have e1:n-1+1=n:=by omega
    simp only [e1] at this;exact ⟨dF (show ¬(vIno vs[n-1]).num≥(vIno vs[n]).num by omega),k04⟩
   ·rw[if_neg (show ¬decide ((n:Int)>0)=true from dn (by omega))];exact ⟨rfl,k04⟩
  ·rintro ⟨(y:Bool),_⟩ h3 ⟨hy,k3⟩;dsimp only at hy;subst hy;rw[if_neg (by simp)];exact ⟨⟨n+1,rfl,by omega,k3⟩,by simp;omega⟩
 ·rw[if_neg (show ¬decide ((n:Int)<(s.len:Int))=true from dn (by omega))];exact hK h1 k1
theorem be_bx {x n:Nat}:(⟨(be x n).toArray⟩:ByteArray)=bx (be x n):=rfl
theorem ZB8.s {s:Slc} {vs:List InK.Ty} {h:Heap} {K:ByteArray→Int→Heap→Prop} (g:Seg InK s vs h) (hm:itabMay (vs.map vIno)=true)
 (hK:∀h',Keep [] h h'→K (bx (itabBytes (vs.map vIno))) 0 h'):ZB8.C s h K:=by
 apply ZB8.c;unfold ZB8.m;have gl:=g.len;obtain ⟨hall,hlen⟩:=itab_ok hm;rw[YAM] at hlen;refine ZCF.s g hm fun h1 k1 =>?_;rw[if_neg (by simp),gl];refine ZAB.s (x:=vs.length) (n:=1) (by decide) (by decide) (by omega) fun h2 k2 =>?_;rw[be_bx];show sadd (bx [84]) (bx (be vs.length 1)) _;refine sadd_bb (by simp[be_len]) ?_;have k02:=k1.n k2;refine lp_go (fun (y:ByteArray×Int×Unit) (h3:Heap)=>∃n:Nat,y.2.1=n∧n≤vs.length∧Keep [] h h3∧y.1=bx ([84]++be vs.length 1++((vs.map vIno).take n).flatMap inoBytes)) (fun (y:ByteArray×Int×Unit) _=>vs.length-y.2.1.toNat) ?_ ?_
 ·exact ⟨0,rfl,YAZ _,k02,by simp⟩
 rintro ⟨(a:ByteArray),(i:Int),_⟩ h3 ⟨n,e,hn,k3,ea⟩;dsimp only at e ea ⊢;subst e;subst ea;by_cases hlt:n<vs.length
 ·rw[if_pos (show decide ((n:Int)<(vs.length:Int))=true from dT (by omega))];have hw:w64 ((n:Int)+1)=((n+1:Nat):Int):=w6 (by omega);rw[hw];have hxo:=ino_ok (hall (vIno vs[n]) (List.mem_map_of_mem (YAI hlt)));have htk:(vs.map vIno).take (n+1)=(vs.map vIno).take n++[vIno vs[n]]:=by rw[YAS (by simpa using hlt),YAH]
  have hfl:(((vs.map vIno).take n).flatMap inoBytes).length≤1216:=by rw[itabFlat,YAO,YAM];omega
  refine seg_ix (g.keep (by decide) k3) (x:=vs[n]) (by omega) (by simp[hlt]) rfl ?_;refine new_st_gen fun b h5 hb k5 e5 hs5 =>?_;have e5:h5[b]? = some (vobj t_api_Inode InK vs[n]):=e5;generalize vs[n]=v at *;obtain ⟨f0,f1,f2,f3,f4,f5⟩:=in_f (sm_all e5);have hib:inoBytes (vIno v)=be (vIno v).num.toNat 1++be (vIno v).kind.toNat 1++be (vIno v).mode.toNat 1++be (vIno v).links.toNat 1++be (vIno v).size.toNat 2++(vIno v).root.toList:=rfl;generalize vIno v=x at *;obtain ⟨xn,xk,xm,xl,xs,xr⟩:=x;dsimp only at hxo f0 f1 f2 f3 f4 f5 hib;obtain ⟨a1,a2,a3,a4,a5,a6,a7,a8⟩:=hxo;obtain ⟨n1,rfl⟩:∃t:Nat,xn=t:=⟨xn.toNat,by omega⟩;obtain ⟨n2,rfl⟩:∃t:Nat,xk=t:=⟨xk.toNat,by omega⟩;obtain ⟨n3,rfl⟩:∃t:Nat,xm=t:=⟨xm.toNat,by omega⟩;obtain ⟨n4,rfl⟩:∃t:Nat,xl=t:=⟨xl.toNat,by omega⟩;obtain ⟨n5,rfl⟩:∃t:Nat,xs=t:=⟨xs.toNat,by omega⟩;simp only [YAU] at hib;have st:∀ {k:Kd} {l:Pl} {x:k.Ty} {ha hb:Heap},0<k.size→sm k l x ha→Keep [] ha hb→sm k l x hb:=fun hs e k=>sm_keep hs e k;refine ld_go f0 (ld_go f1 (ld_go f2 (ld_go f3 (ld_go f4 (ld_go f5 ?_)))));refine ZAB.s (x:=n1) (n:=1) (by decide) (by decide) (by omega) fun h6 k6 =>?_;refine ⟨st (by decide) f5 k6,st (by decide) f4 k6,st (by decide) f3 k6,st (by decide) f2 k6,st (by decide) f1 k6,?_⟩;rw[be_bx];refine sadd_bb (by simp only [YAJ,YAK,YAN,be_len];omega) ?_;refine ZAB.s (x:=n2) (n:=1) (by decide) (by decide) (by omega) fun h7 k7 =>?_;have k57:=k6.n k7;refine ⟨st (by decide) f5 k57,st (by decide) f4 k57,st (by decide) f3 k57,st (by decide) f2 k57,?_⟩;rw[be_bx];refine sadd_bb (by simp only [YAJ,YAK,YAN,be_len];omega) ?_;refine ZAB.s (x:=n3) (n:=1) (by decide) (by decide) (by omega) fun h8 k8 =>?_;have k58:=k57.n k8;refine ⟨st (by decide) f5 k58,st (by decide) f4 k58,st (by decide) f3 k58,?_⟩;rw[be_bx];refine sadd_bb (by simp only [YAJ,YAK,YAN,be_len];omega) ?_;refine ZAB.s (x:=n4) (n:=1) (by decide) (by decide) (by omega) fun h9 k9 =>?_;have k59:=k58.n k9;refine ⟨st (by decide) f5 k59,st (by decide) f4 k59,?_⟩;rw[be_bx];refine sadd_bb (by simp only [YAJ,YAK,YAN,be_len];omega) ?_;refine ZAB.s (x:=n5) (n:=2) (by decide) (by decide) (by omega) fun h10 k10 =>?_;have k510:=k59.n k10;refine ⟨st (by decide) f5 k510,?_⟩;rw[be_bx];refine sadd_bb (by simp only [YAJ,YAK,YAN,be_len];omega) ?_;refine ZAy.s fun h11 k11 =>?_;refine sadd_bb (by simp only [YAJ,YAK,YAN,be_len,Vector.length_toList];omega) ?_;refine ⟨⟨n+1,rfl,by omega,(k3.n k5).n (k510.n k11),?_⟩,by simp;omega⟩;rw[htk,YAD];simp only [YAE,YAF,List.append_nil];rw[hib];simp only [YAA]
 ·rw[if_neg (show ¬decide ((n:Int)<(vs.length:Int))=true from dn (by omega))];obtain rfl:n=vs.length:=by omega
  rw[YAQ (by simp)];have:=hK h3 k3;unfold itabBytes at this;rw[YAM] at this;have e84:be 84 1=[84]:=rfl;rw[e84] at this;exact this
theorem ZCO.s {t0:Slc} {ss:List Slc} {vv:List (List NdV)} {X:Fs} {h:Heap} {K:Slc→Slc→Int→Heap→Prop} (w:StW h t0 ss vv X) (lens:Lens X)
 (hbad:stMay X=false→∀h',Keep [] h h'→K ⟨none,0,0⟩ ⟨none,0,0⟩ 1500 h')
 (hok:stMay X=true→∀h' o1 o2,Keep [] h h'→Row h' t_api_Hash HK o1 (buildH X)→Row h' t_string .s o2 (buildO X)→K o1 o2 0 h'):ZCO.C (t0,()) h K:=by
 apply ZCO.c;unfold ZCO.m;refine new_gen fun b1 h1 hb1 k1 e1 hs1 =>?_;have e1:h1[b1]? = some (vobj t_api_State StaK ((t0,()):StaK.Ty)):=e1;refine ld_go (sm_all e1) ?_;refine ZBa.s (w.keep k1) lens fun h2 k2 =>?_;have k02:Keep [] h h2:=k1.n k2
 cases hm:stMay X with
 | false =>
   rw[if_pos (by rfl)];exact hbad hm h2 k02
 | true=>
 rw[if_neg (by simp)];obtain ⟨x1,x2,x3,_⟩:=st_ok hm;have e2:=k2.g e1;have L0:=w.lens;have z1:=k1.1;have z2:=k2.1;have hb1':b1=h.size:=hb1
 have hflat:∀ {m:Nat},m≤X.length→((X.take m).flatMap tabObjs).length≤2400*m:=fun {m} hmX=>by
  have:∀(l:Fs),(∀t∈l,tabMay t=true)→(l.flatMap tabObjs).length≤2400*l.length:=by
   intro l
   induction l with
   | nil=>intro _;simp
   | cons a r ih =>
     intro h;have h1:=ih fun x hx=>h x (by simp[hx]);obtain ⟨_,q2,q3⟩:=tab_ok (h a (by simp));have h2:=flatObjs_len q2;rw[YAE,YAJ,YAK];unfold tabObjs at h1 ⊢;rw[YAJ,YAK,YAN];omega
  have h1:=this (X.take m) (fun x hx=>x3 x (YAR _ _ hx));rw[YAO] at h1;omega
 refine lp_go (fun (y:Slc×Slc×Int×Unit) (h3:Heap)=>∃n:Nat,y.2.2.1=n∧n≤X.length∧Keep [] h2 h3∧Row h3 t_string .s y.1 (onceL [] ((X.take n).flatMap tabObjs))∧(∀q∈own y.1,h2.size≤q)∧Row h3 t_api_Hash HK y.2.1 ((X.take n).map fun t=>hashS (tabText t))∧∀q∈own y.2.1,h2.size≤q) (fun (y:Slc×Slc×Int×Unit) _=>X.length-y.2.2.1.toNat) ?_ ?_
 ·exact ⟨0,rfl,YAZ _,Keep.rfl,Row.nil,by simp[own],Row.nil,by simp[own]⟩
 rintro ⟨(u:Slc),(v:Slc),(ii:Int),_⟩ h3 ⟨n,e,hn,k3,ru,ou,rv,ov⟩;dsimp only at e ru ou rv ov ⊢;subst e;have fld:∀ {hh:Heap},Keep [] h2 hh→sm .sl ((Pl.mk b1 0).fld 0) t0 hh:=fun kk=>sm_fld (n:=0) (k' := .sl) (kk.g e2) rfl (by decide);refine ld_go (fld k3) ?_;by_cases hlt:n<X.length
 case neg=>
  rw[if_neg (show ¬decide ((n:Int)<(t0.len:Int))=true from dn (by omega))];obtain rfl:n=X.length:=by omega
  rw[YAQ (YAW _)] at ru rv;exact hok hm h3 v u (k02.n k3) rv ru
 rw[if_pos (show decide ((n:Int)<(t0.len:Int))=true from dT (by omega))];have hwn:w64 ((n:Int)+1)=((n+1:Nat):Int):=w6 (by omega);rw[hwn];have htm:=x3 _ (YAI hlt);obtain ⟨_,tm2,tm3⟩:=tab_ok htm;have htake:X.take (n+1)=X.take n++[X[n]]:=YAS hlt;have hfl:=hflat (m:=n) hn;have hLl:=onceL_len (L:=([]:List ByteArray)) (xs:=(X.take n).flatMap tabObjs);simp only [YAN,Nat.zero_add] at hLl
 have hLn:onceL [] ((X.take (n+1)).flatMap tabObjs)=once (onceL (onceL [] ((X.take n).flatMap tabObjs)) (X[n].flatMap ndObjs)) (tabText X[n]):=by
  rw[htake,YAD,onceL_app];simp only [YAE,YAF,List.append_nil];rw[show tabObjs X[n]=X[n].flatMap ndObjs++[tabText X[n]] from rfl,onceL_app,onceL_one]
 have hHn:(X.take (n+1)).map (fun t=>hashS (tabText t))=(X.take n).map (fun t=>hashS (tabText t))++[hashS (tabText X[n])]:=by rw[htake,YAP];rfl
 have hHl:((X.take n).map fun t=>hashS (tabText t)).length≤24:=by simp;omega
 generalize onceL [] ((X.take n).flatMap tabObjs)=L at ru hLl hLn;generalize ((X.take n).map fun t=>hashS (tabText t))=H at rv hHn hHl;have gW:∀hh,Keep [] h hh→∃sl vs,Seg NdK sl vs hh∧All2 (NdAt hh) vs X[n]∧sl.len=X[n].length∧∀ {K:Slc→Prop},K sl→ix t0 (n:Int) 1 fun l=>ld .sl l hh K:=fun hh kk=>⟨_,_,(w.keep kk).row hlt,(w.keep kk).nds hlt,((w.keep kk).rlen hlt).1,fun hK=>(w.keep kk).tab hlt hK⟩;generalize X[n]=t at *;have z3:=k3.1;refine lp_go (fun (y:Slc×Slc×Int×Unit) (h4:Heap)=>∃j:Nat,y.2.2.1=j∧j≤t.length∧Keep [] h2 h4∧Row h4 t_string .s y.1 (onceL L ((t.take j).flatMap ndObjs))∧(∀q∈own y.1,h2.size≤q)∧Row h4 t_api_Inode InK y.2.1 (((t.take j).map inoOf).map inoV)∧(∀q∈own y.2.1,h2.size≤q)∧Row h4 t_api_Hash HK v H) (fun (y:Slc×Slc×Int×Unit) _=>t.length-y.2.2.1.toNat) ?_ ?_
 ·exact ⟨0,rfl,YAZ _,k3,ru,ou,Row.nil,by simp[own],rv⟩
 rintro ⟨(u4:Slc),(s4:Slc),(ii:Int),_⟩ h4 ⟨j,e,hj,k4,ru4,ou4,rs4,os4,rv4⟩;dsimp only at e ru4 ou4 rs4 os4 ⊢;subst e;have z4:=k4.1;have k04:=k02.n k4;obtain ⟨sl,vs,gN,aN,slen,hix⟩:=gW h4 k04;have hfl2:=flatObjs_len (l:=t.take j) (fun x hx=>tm2 x (YAR _ _ hx));rw[YAO] at hfl2;have hLl2:=onceL_len (L:=L) (xs:=(t.take j).flatMap ndObjs);refine ld_go (fld k4) (hix ?_);by_cases hlj:j<t.length
 case neg=>
  rw[if_neg (show ¬decide ((j:Int)<(sl.len:Int))=true from dn (by omega))];obtain rfl:j=t.length:=by omega
  rw[YAQ (YAW _)] at ru4 rs4;refine ZB8.s rs4.seg (by rw[map_vV];exact may_ino htm) fun h23 k23 =>?_;rw[map_vV];have hts:=tabText_size tm3;have hfl3:=flatObjs_len tm2;have hLl3:=onceL_len (L:=L) (xs:=t.flatMap ndObjs);show ZAo.C u4 (tabText t) h23 _;refine ZAo.s (ru4.keep k23 (by simp)) (by omega) fun u24 h24 r24 k24 o24 =>?_;show ZAK.C (tabText t) h24 _;refine ZAK.s (by omega) fun h25 k25 =>?_;have rv25:=((rv4.keep k23 (by simp)).keep k24 (tagO (rv4.keep k23 (by simp)) (ru4.keep k23 (by simp)) (by decide))).keep k25 (by simp);have ru25:=r24.keep k25 (by simp);refine app2 (by_:=32) rv25 rfl (by omega) fun v27 h27 k27 r27 o27 =>?_;have z23:=k23.1;have z24:=k24.1;have z25:=k25.1;refine ⟨⟨n+1,rfl,by omega,(((k4.n k23).new k24 ou4).n k25).new k27 ov,?_,fun q hq =>?_,?_,fun q hq =>?_⟩,by simp;omega⟩
  ·rw[hLn];exact ru25.keep k27 (tagO ru25 rv25 (by decide))
  ·rcases o24 q hq with h | h
   ·exact ou4 q h
   ·omega
  ·rw[hHn];exact r27
  ·rcases o27 q hq with h | h
   ·exact ov q h
   ·omega
 rw[if_pos (show decide ((j:Int)<(sl.len:Int))=true from dT (by omega))];have hwj:w64 ((j:Int)+1)=((j+1:Nat):Int):=w6 (by omega);rw[hwj];have hx:=tm2 _ (YAI hlj);have al:=aN.len;have hjv:j<vs.length:=by omega
 have av:=aN.getI hjv hlj;have htk:t.take (j+1)=t.take j++[t[j]]:=YAS hlj
 have hLn2:onceL L ((t.take (j+1)).flatMap ndObjs)=onceL (onceL L ((t.take j).flatMap ndObjs)) (ndObjs t[j]):=by
  rw[htk,YAD,onceL_app];simp
 have hSn:((t.take (j+1)).map inoOf).map inoV=((t.take j).map inoOf).map inoV++[inoV (inoOf t[j])]:=by rw[htk,YAP,YAP];rfl
 have hSl:(((t.take j).map inoOf).map inoV).length≤32:=by simp;omega
 have ho:=ndObjs_len hx;obtain ⟨hz1,hz2,hz3⟩:=nd_small hx;have hgx:vs[(j:Int).toNat]? = some vs[j]:=by simp[hjv]
 generalize t[j]=x at *;generalize hM:onceL L ((t.take j).flatMap ndObjs)=M at *;generalize ((t.take j).map inoOf).map inoV=N at *;have u4lt:=ru4.lt;refine jn_in (fun y h5=>Keep [] h2 h5∧Row h5 t_string .s y.1 (onceL M (ndObjs x))∧(∀q∈own y.1,h2.size≤q)∧Row h5 t_api_Inode InK y.2.1 (N++[inoV (inoOf x)])∧(∀q∈own y.2.1,h2.size≤q)∧Row h5 t_api_Hash HK v H) ?_ ?_
 ·refine ld_go (fld k4) (hix ?_);refine seg_ix gN (x:=vs[j]) (by omega) hgx rfl ?_;generalize vs[j]=nv at *;refine new_st_gen fun b2 h7 hb2 k7 e7 hs7 =>?_;have e7:h7[b2]? = some (vobj t_api_Node NdK nv):=e7;obtain ⟨f0,f1,f2,f3,f4,f5⟩:=nd_f (sm_all e7);rw[av.n] at f0;rw[av.k] at f1;rw[av.m] at f2;rw[av.l] at f3;rw[av.d] at f4;refine ld_go f0 (ld_go f1 (ld_go f2 (ld_go f3 (ld_go f4 ?_))));refine new_st_gen fun b3 h9 hb3 k9 e9 hs9 =>?_;have e9:h9[b3]? = some (vobj t_api_Inode InK ((x.num,(x.kind,(x.mode,(x.links,((x.data.size:Int),(Vector.replicate 32 0,())))))):InK.Ty)):=e9;have k49:Keep [] h4 h9:=k7.n k9;have z9:=k49.1;refine ld_go (sm_keep (by decide) f1 k9) ?_;have ru9:=ru4.keep k49 (by simp);have rs9:=rs4.keep k49 (by simp);have rv9:=rv4.keep k49 (by simp);have k29:=k4.n k49;have b3lt:=lt_of_some e9;have hb3':b3=h7.size:=hb3;have b3lo:h4.size≤b3:=by have:=k7.1;omega
  refine jn_in (fun y h10=>Keep [] h2 h10∧Row h10 t_string .s y.1 (onceL M (ndObjs x))∧(∀q∈own y.1,h2.size≤q)∧h10[b3]? = some (vobj t_api_Inode InK (inoV (inoOf x)))∧Row h10 t_api_Inode InK s4 N∧Row h10 t_api_Hash HK v H) ?_ ?_
  ·by_cases hk:x.kind=1
   ·rw[if_pos (by simpa using hk)];refine ld_go (sm_keep (by decide) f5 k9) ?_;refine ZCV.s (av.keep k49 (by simp)).e (by omega) fun h11 k11 =>?_;rw[if_pos hz3]
    have hdz:(bx (putBytes x.ents)).size≤65536:=by
     rw[bx_size];have h1:=flat_le (dir_ok hz3).2.2;unfold putBytes;simp only [YAJ,be_len];omega
    show ZAo.C u4 (bx (putBytes x.ents)) h11 _;have ru11:=ru9.keep k11 (by simp);have e11:=k11.g e9;refine ZAo.s ru11 (by omega) fun u12 h12 r12 k12 o12 =>?_;show ZAK.C (bx (putBytes x.ents)) h12 _;refine ZAK.s hdz fun h13 k13 =>?_;have e13:=k13.g (k12.get e11 (rowTag ru11 e11 (by decide)));refine st_fld (k':=HK) (n:=5) (x':=_) e13 (by decide) wr_root ?_;have r13:=r12.keep k13 (by simp);have rs13:=((rs9.keep k11 (by simp)).keep k12 (tagO (rs9.keep k11 (by simp)) ru11 (by decide))).keep k13 (by simp);have rv13:=((rv9.keep k11 (by simp)).keep k12 (tagO (rv9.keep k11 (by simp)) ru11 (by decide))).keep k13 (by simp)
    have offb:∀ {T:Nat} {kk:Kd} {uu:Slc} {ys:List kk.Ty},Row h13 T kk uu ys→(T≠t_api_Inode∨∀q∈own uu,q<h4.size)→∀q∈own uu,q∉[b3]:=fun r hT q hq hm=>by
     simp at hm;subst hm;rcases hT with h | h
     ·exact rowTag r e13 (fun e=>h e.symm) hq
     ·have:=h _ hq;omega
    have z11:=k11.1;refine ⟨(((k29.n k11).new k12 ou4).n k13).new keep_set (by simp;omega),?_,fun q hq =>?_,?_,rs13.keep keep_set (offb rs13 (.inr rs4.lt)),rv13.keep keep_set (offb rv13 (.inl (by decide)))⟩
    ·have e:onceL M (ndObjs x)=once M (bx (putBytes x.ents)):=by unfold ndObjs;rw[if_pos hk];rfl
     rw[e];exact r13.keep keep_set (offb r13 (.inl (by decide)))
    ·rcases o12 q hq with h | h
     ·exact ou4 q h
     ·omega
    ·refine (get_set e13).trans ?_
     have hd0:x.data.size=0:=by
      obtain ⟨_,_,_,_,_,_,q1,_⟩:=nd_ok hx;rw[(q1 hk).1];rfl
     unfold inoOf ndRoot inoV;rw[if_pos hk]
   ·rw[if_neg (by simpa using hk)];refine ld_go (sm_keep (by decide) f4 k9) ?_;refine ZBV.s hz1 fun o h15 k15 r15 o15 =>?_;refine new_st_gen fun b4 h17 hb4 k17 e17 hs17 =>?_;have e17:h17[b4]? = some (vobj t_api_Hash HK (hashS (treeR x.data))):=e17;have k917:=k15.n k17;have z917:=k917.1;have rO:=r15.keep k17 (by simp);have rOl:=rO.len;have rOlt:=r15.lt;have z17:=k17.1;have hol:=treeO_len hz1;refine lp_go (fun (y:Slc×Int×Unit) (h18:Heap)=>∃k:Nat,y.2.1=k∧k≤(treeO x.data).length∧Keep (own u4) h17 h18∧Row h18 t_string .s y.1 (onceL M ((treeO x.data).take k))∧(∀q∈own y.1,q∈own u4∨h17.size≤q)) (fun (y:Slc×Int×Unit) _=>(treeO x.data).length-y.2.1.toNat) ?_ ?_
    ·exact ⟨0,rfl,YAZ _,Keep.rfl,ru9.keep k917 (by simp),fun q hq => .inl hq⟩
    rintro ⟨(w5:Slc),(kk:Int),_⟩ h18 ⟨k,e,hk5,k18,r18,o18⟩;dsimp only at e r18 o18 ⊢;subst e;have nO:∀q∈own o,q∉own u4:=fun q hq hm=>by have h1:=u4lt q hm;have h2:=o15 q hq;omega
    have rO18:=rO.keep k18 nO;have z18:=k18.1;by_cases hlk:k<(treeO x.data).length
    ·rw[if_pos (show decide ((k:Int)<(o.len:Int))=true from dT (by omega))];have hwk:w64 ((k:Int)+1)=((k+1:Nat):Int):=w6 (by omega);rw[hwk];refine ix_ld rO18 (x:=(treeO x.data)[k]) (by omega) (by simp[hlk]) rfl ?_;have hLk:=onceL_len (L:=M) (xs:=(treeO x.data).take k);rw[YAO] at hLk;refine ZAo.s r18 (by omega) fun u19 h19 r19 k19 o19 =>?_;refine ⟨⟨k+1,rfl,by omega,k18.then k19 (fun q hq _=>hq) (fun q hq hl=>by rcases o18 q hq with h | h;exact h;omega),by rw[onceL_take hlk];exact r19,fun q hq =>?_⟩,by simp;omega⟩;rcases o19 q hq with h | h
     ·exact o18 q h
     ·right;omega
    ·rw[if_neg (show ¬decide ((k:Int)<(o.len:Int))=true from dn (by omega))];obtain rfl:k=(treeO x.data).length:=by omega
     rw[YAQ (YAW _)] at r18;have ru17:=ru9.keep k917 (by simp);have e18:=k18.get e17 (rowTag ru17 e17 (by decide));have e317:=k917.g e9;have e318:=k18.get e317 (rowTag ru17 e317 (by decide));refine ld_go (sm_all e18) ?_;refine st_fld (k':=HK) (n:=5) (x':=_) e318 (by decide) wr_root ?_;have rs18:=(rs9.keep k917 (by simp)).keep k18 (tagO (rs9.keep k917 (by simp)) ru17 (by decide));have rv18:=(rv9.keep k917 (by simp)).keep k18 (tagO (rv9.keep k917 (by simp)) ru17 (by decide))
     have offb:∀ {T:Nat} {kk:Kd} {uu:Slc} {ys:List kk.Ty},Row h18 T kk uu ys→(T≠t_api_Inode∨∀q∈own uu,q<h4.size)→∀q∈own uu,q∉[b3]:=fun r hT q hq hm=>by
      simp at hm;subst hm;rcases hT with h | h
      ·exact rowTag r e318 (fun e=>h e.symm) hq
      ·have:=h _ hq;omega
     refine ⟨((k29.n k917).new k18 ou4).new keep_set (by simp;omega),?_,fun q hq =>?_,?_,rs18.keep keep_set (offb rs18 (.inr rs4.lt)),rv18.keep keep_set (offb rv18 (.inl (by decide)))⟩
     ·have e:ndObjs x=treeO x.data:=by unfold ndObjs;rw[if_neg hk]
      rw[e];exact r18.keep keep_set (offb r18 (.inl (by decide)))
     ·rcases o18 q hq with h | h
      ·exact ou4 q h
      ·omega
     ·refine (get_set e318).trans ?_;unfold inoOf ndRoot inoV;rw[if_neg hk]
  ·rintro ⟨(y:Slc),_⟩ h10 ⟨k10,ry,oy,e10,rs10,rv10⟩;dsimp only at ry oy ⊢;refine ld_go (sm_all e10) ?_;refine app2 (by_:=72) rs10 rfl (by omega) fun s22 h22 k22 r22 o22 =>?_;refine ⟨k10.new k22 os4,ry.keep k22 (tagO ry rs10 (by decide)),oy,r22,fun q hq =>?_,rv10.keep k22 (tagO rv10 rs10 (by decide))⟩;rcases o22 q hq with h | h
   ·exact os4 q h
   ·have:=k10.1;omega
 ·rintro ⟨(y:Slc),(y2:Slc),_⟩ h5 ⟨k5,ry,oy,rs5,os5,rv5⟩;dsimp only at ry oy rs5 os5 ⊢;exact ⟨⟨j+1,rfl,by omega,k5,by rw[hLn2];exact ry,oy,by rw[hSn];exact rs5,os5,rv5⟩,by simp;omega⟩
def keyO (hh:Nat) (x:By):HKey:=⟨3,hh,(shaL (tagL 2 [bx x])).toList.take 16,(shaL (tagL 3 [bx x])).toList,0⟩
theorem keyO_seed {x:By}:keyO 1 x=(seedD x).k 0:=by
 unfold keyO Sd.k seedD;dsimp only;unfold Hl;generalize shaL (tagL 2 [bx x])=a;generalize shaL (tagL 3 [bx x])=b
 rfl
theorem keyO_may {hh:Nat} {x:By} (h1:1≤hh) (h5:hh≤5):hssMay (keyO hh x)=true:=by
 unfold keyO;generalize shaL (tagL 2 [bx x])=a;generalize shaL (tagL 3 [bx x])=b;have ha:(a.toList.take 16).length=16:=by simp
 have hb:b.toList.length=32:=by simp
 unfold hssMay lmsMay;dsimp only;rw[ha,hb];have hp:(0:Int)≤2^hh:=Int.le_of_lt (Int.pow_pos (by decide));have hp2:(0:Int)≤2^(2*hh):=Int.le_of_lt (Int.pow_pos (by decide));simp[otsP,hp,hp2];omega
theorem ke_w2 {v:MbK.Ty} {x y:Slc}:wrL (KeK.cells ((v,(x,())):KeK.Ty)) 2 (Kd.sl.cells y)=KeK.cells ((v,(y,())):KeK.Ty):=by
 obtain ⟨a,b,c⟩:=v
 rfl
theorem ZA6.s {mv:MbK.Ty} {m:Mb} {ss:Slc} {L:List By} {hh:Nat} {h:Heap} {K:KeK.Ty→Slc→Int→Heap→Prop} (a:MbAt h mv m) (hm:mbMay m=true) (g:Seg .s ss (L.map bx) h) (hn:(L.length:Int)=m.users) (hh1:1≤hh) (hh5:hh≤5) (hx:∀x∈L,x.length≤1024)
 (hK:∀h' ps ks,Keep [] h h'→Row h' t_string .s ps ((L.map fun x=>hssPub (keyO hh x)).map bx)→(∀q∈own ps,h.size≤q)→Row h' t_api_HssKey LkK ks (L.map fun x=>hkV (keyO hh x))→(∀q∈own ks,h.size≤q)→K (mv,(ps,())) ks 0 h'):ZA6.C mv ss (hh:Int) h K:=by
 have hmb:=hm;unfold mbMay at hmb;simp only [YAa,decide_eq_true_eq] at hmb;have hL16:L.length≤16:=by have:=hmb.1.1.2;omega
 have hgl:m.groups.length≤9223372036854775807:=by have:=hmb.1.2;omega
 have gl:=g.len;rw[YAM] at gl;apply ZA6.c;unfold ZA6.m;refine new_gen fun b1 h1 hb1 k1 e1 hs1 =>?_;have e1:h1[b1]? = some (vobj t_api_Members MbK mv):=e1;refine new_gen fun b2 h2 hb2 k2 e2 hs2 =>?_;have e2:h2[b2]? = some (vobj t_api_Keys KeK (((0,(⟨none,0,0⟩,())),(⟨none,0,0⟩,())):KeK.Ty)):=e2;have k12:Keep [] h h2:=k1.n k2;have e12:=k2.g e1;have z1:=k1.1;have z2:=k2.1;refine jn_in (fun y h'=>y=(false,())∧Keep [] h2 h') ?_ ?_
 ·refine ld_go (sm_all e12) ?_;refine ZAt.s (a.keepU k12) hgl fun h3 k3 =>?_;rw[hm,if_neg (by simp)];have e13:=k3.g e12;have f0:sm .i ((Pl.mk b1 0).fld 0) m.users h3:=by rw[←a.u];exact sm_fld (n:=0) (k' := .i) e13 rfl (by decide)
  refine ld_go f0 ?_;rw[if_neg (by rw[gl,hn];simp),if_neg (by simp;omega)];exact ⟨by rw[dF (show ¬(hh:Int)>5 by omega)],k3⟩
 rintro _ h3 ⟨rfl,k3⟩;rw[if_neg (by simp)];refine ld_go (sm_all (k3.g e12)) ?_;refine new_st_gen fun b3 h4 hb3 k4 e4 hs4 =>?_;have e4:h4[b3]? = some (vobj t_api_Keys KeK ((mv,(⟨none,0,0⟩,())):KeK.Ty)):=e4;have k24:Keep [] h2 h4:=k3.n k4;have k04:Keep [] h h4:=k12.n k24;have z24:=k3.1;have lb2:b2<h2.size:=by omega
 refine lp_go (fun (y:Slc×Int×Unit) (h8:Heap)=>∃(n:Nat) (ps:Slc),y.2.1=n∧n≤L.length∧Keep [] h h8∧h8[b2]? = some (vobj t_api_Keys KeK (((0,(⟨none,0,0⟩,())),(⟨none,0,0⟩,())):KeK.Ty))∧h8[b3]? = some (vobj t_api_Keys KeK ((mv,(ps,())):KeK.Ty)) ∧
  Row h8 t_string .s ps (((L.take n).map fun x=>hssPub (keyO hh x)).map bx)∧(∀q∈own ps,h.size≤q)∧Row h8 t_api_HssKey LkK y.1 ((L.take n).map fun x=>hkV (keyO hh x))∧∀q∈own y.1,h.size≤q) (fun (y:Slc×Int×Unit) _=>L.length-y.2.1.toNat) ?_ ?_
 ·exact ⟨0,⟨none,0,0⟩,rfl,YAZ _,k04,k24.g e2,e4,.inl ⟨rfl,rfl⟩,by simp[own],.inl ⟨rfl,rfl⟩,by simp[own]⟩
 rintro ⟨(ks:Slc),(jj:Int),_⟩ h8 ⟨n,ps,e,hnL,k8,e28,e38,rp,op,rk,ok⟩;dsimp only at e rk ok ⊢;subst e;have z8:=k8.1;by_cases hlt:n<L.length
 ·rw[if_pos (show decide ((n:Int)<(ss.len:Int))=true from dT (by omega))];have hw:w64 ((n:Int)+1)=((n+1:Nat):Int):=w6 (by omega);rw[hw];have hxl:=hx _ (YAI hlt);have hidx:(L.map bx)[((n:Nat):Int).toNat]? = some (bx L[n]):=by rw[YAU,List.getElem?_map,YAG hlt];rfl
  have hte:L.take (n+1)=L.take n++[L[n]]:=YAS hlt;generalize L[n]=x at *;refine seg_ix (g.keep (by decide) k8) (x:=bx x) (by omega) hidx rfl ?_;rw[if_neg (show ¬decide (((bx x).size:Int)>1024)=true from fun h=>by have:=of_decide_eq_true h;rw[bx_size] at this;omega)];refine seg_ix (g.keep (by decide) k8) (x:=bx x) (by omega) hidx rfl ?_
  have hl1:∀t,(tagL t [bx x]).length≤1000000:=fun t=>by
   unfold tagL pieceL;simp[be_len,bx_data2];omega
  have hl2:lens [bx x]≤65536:=by simp only [lens,List.map_cons,List.map_nil,List.sum_cons,List.sum_nil,bx_size];omega
  refine bs_gen fun bq h10 hbq k10 r10 hs10 =>?_;refine ZCa.s (tag:=2) r10.seg (by decide) hl2 (hl1 2) fun h11 k11 =>?_;have hkey:keyO hh x=⟨3,hh,(shaL (tagL 2 [bx x])).toList.take 16,(shaL (tagL 3 [bx x])).toList,0⟩:=Eq.refl _;have hkm:=keyO_may (x:=x) hh1 hh5;generalize hkx:keyO hh x=kx at *;generalize shaL (tagL 2 [bx x])=va at *;refine new_st_gen fun b4 h13 hb4 k13 e13 hs13 =>?_;have e13:h13[b4]? = some (vobj t_api_Hash (.ar 32 .u8) va):=e13;have k8_13:Keep [] h8 h13:=(k10.n k11).n k13;refine seg_ix (g.keep (by decide) (k8.n k8_13)) (x:=bx x) (by omega) hidx rfl ?_;refine bs_gen fun bq2 h14 hbq2 k14 r14 hs14 =>?_;refine ZCa.s (tag:=3) r14.seg (by decide) hl2 (hl1 3) fun h15 k15 =>?_;generalize shaL (tagL 3 [bx x])=vb at *;refine new_st_gen fun b5 h17 hb5 k17 e17 hs17 =>?_;have e17:h17[b5]? = some (vobj t_api_Hash (.ar 32 .u8) vb):=e17;have k13_17:Keep [] h13 h17:=(k14.n k15).n k17;have e47:=k13_17.g e13;have k8_17:Keep [] h8 h17:=k8_13.n k13_17
  have hcut:∀ {KK:ByteArray→Prop},KK (bx (va.toList.take 16))→sls (bx va.toList) 0 16 KK:=fun hk=>by
   refine sls_by (lo:=0) (hi:=16) (by decide) (by simp) ?_;rw[YAC];exact hk
  have hval:((3,((hh:Int),(bx (va.toList.take 16),(bx vb.toList,(0,()))))):LkK.Ty)=hkV kx:=by rw[hkey];rfl
  refine jn_in (fun y h'=>∃b,y=(Pl.mk b 0,())∧h'[b]? = some (vobj t_api_HssKey LkK (hkV kx))∧Keep [] h17 h'∧h17.size≤b) ?_ ?_
  ·refine ld_go (sm_all e47) (ld_go (sm_all e17) ⟨?_,?_⟩)
   ·refine ZAy.s fun h19 k19=>⟨sm_keep (by decide) (sm_all e17) k19,hcut ⟨?_,?_⟩⟩
    ·refine ZAy.s fun h20 k20 =>?_;refine new_st_gen fun b6 h22 hb6 k22 e22 hs22 =>?_;have:=(k19.n k20).1;exact ⟨b6,rfl,by rw[←hval];exact e22,(k19.n k20).n k22,by omega⟩
    ·refine new_gen fun b7 h23 hb7 k23 e23 hs23=>⟨sm_keep (by decide) (sm_all e17) (k19.n k23),?_⟩;refine ZAy.s fun h24 k24' =>?_;have:=k19.1;have:=k23.1;refine st_to (k24'.g e23) fun h25 k25 e25 hs25 =>?_;exact ⟨b7,rfl,by rw[←hval];exact e25,((k19.n k23).n k24').new k25 (by simp;omega),by omega⟩
   ·refine new_gen fun b8 h26 hb8 k26 e26 hs26=>⟨sm_keep (by decide) (sm_all e17) k26,sm_keep (by decide) (sm_all e47) k26,?_⟩;refine ZAy.s fun h27 k27=>⟨sm_keep (by decide) (sm_all e17) (k26.n k27),hcut ?_⟩;refine ZAy.s fun h28 k28 =>?_;have:=k26.1;refine st_to ((k27.n k28).g e26) fun h29 k29 e29 hs29 =>?_;exact ⟨b8,rfl,by rw[←hval];exact e29,((k26.n k27).n k28).new k29 (by simp;omega),by omega⟩
  ·rintro _ h18 ⟨bk,rfl,ek,k18,hbk⟩;refine ld_go (sm_all ek) ?_;refine ZBc.s hkm fun h30 k30 =>?_;refine ld_go (sm_all (k30.g ek)) ?_;have k8_30:Keep [] h8 h30:=(k8_17.n k18).n k30;refine bs_gen fun bu h31 hbu k31 r31 hs31 =>?_;refine slCells_seg r31.seg (by simp[Kd.size]) ?_;have k8_31:Keep [] h8 h31:=k8_30.n k31;have tl:(L.take n).length=n:=by rw[YAO];omega
   have rk31:=rk.keep k8_31 (by simp);refine ap_row (T:=t_api_HssKey) (k:=LkK) (ys:=[hkV kx]) rk31 rfl rfl (by rw[YAM,tl];simp;omega) fun s6 h32 r6 k32 o6 =>?_;have e33:h32[b3]? = _:=k32.get (k8_31.g e38) (rowT rk31 (k8_31.g e38) (by decide));have e32:h32[b2]? = _:=k32.get (k8_31.g e28) (rowT rk31 (k8_31.g e28) (by decide));have rp32:=(rp.keep k8_31 (by simp)).keep k32 (tagO (rp.keep k8_31 (by simp)) rk31 (by decide));refine ld_go (ke_f e33).2.1 ?_;refine bs_gen fun bv h33 hbv k33 r33 hs33 =>?_;refine slCells_seg r33.seg (by simp[Kd.size]) ?_;have rp33:=rp32.keep k33 (by simp);refine ap_row (T:=t_string) (k := .s) (ys:=[bx (hssPub kx)]) rp33 rfl rfl (by rw[YAM,YAM,tl];simp;omega) fun s8 h34 r8 k34 o8 =>?_;have e34:=k34.get (k33.g e33) (rowT rp33 (k33.g e33) (by decide));have e24:=k34.get (k33.g e32) (rowT rp33 (k33.g e32) (by decide));have r6':=r6.keep k33 (by simp);have r6'':=r6'.keep k34 (tagO r6' rp33 (by decide));refine st_fld (k:=KeK) (k' := .sl) (n:=2) e34 (by decide) ke_w2 ?_;have e35:=get_set (o':=vobj t_api_Keys KeK ((mv,(s8,())):KeK.Ty)) e34;have k35:Keep [b3] h34 (h34.setIfInBounds b3 (vobj t_api_Keys KeK ((mv,(s8,())):KeK.Ty))):=keep_set;generalize h34.setIfInBounds b3 (vobj t_api_Keys KeK ((mv,(s8,())):KeK.Ty))=h35 at *;have z831:=k8_31.1;have z32:=k32.1;have z33:=k33.1;have hb3':h2.size≤b3:=by omega
   refine ⟨⟨n+1,s8,rfl,by omega,?_,k35.get e24 (by simp;omega),e35,?_,fun q hq =>?_,?_,fun q hq =>?_⟩,by simp;omega⟩
   ·exact ((((k8.n k8_31).new k32 ok).n k33).new k34 op).new k35 (by simp;omega)
   ·have:=r8.keep k35 (fun q hq hm=>by simp at hm;subst hm;exact rowT r8 e34 (by decide) hq);rw[hte];simpa[hkx] using this
   ·rcases own_of o8 q hq with h | h
    ·exact op q h
    ·omega
   ·have:=r6''.keep k35 (fun q hq hm=>by simp at hm;subst hm;exact rowT r6'' e34 (by decide) hq);rw[hte];simpa[hkx] using this
   ·rcases own_of o6 q hq with h | h
    ·exact ok q h
    ·omega
 ·rw[if_neg (show ¬decide ((n:Int)<(ss.len:Int))=true from dn (by omega))];obtain rfl:n=L.length:=by omega
  rw[List.take_length] at rp rk;refine ld_go (sm_all e38) ?_;refine st_to e28 fun h36 k36 e36 hs36=>ld_go (sm_all e36) ?_;refine hK h36 ps ks (k8.new k36 (by simp;omega)) (rp.keep k36 fun q hq hm =>?_) op (rk.keep k36 fun q hq hm =>?_) ok
  ·simp at hm;subst hm;exact rowT rp e28 (by decide) hq
  ·simp at hm;subst hm;exact rowT rk e28 (by decide) hq
structure MdU (n0:Nat) (h:Heap) (kv:KeK.Ty) (ks:Slc) (a b:Sd) (x y:Nat):Prop where
 m:MbU n0 h kv.1 clb
 p:Row h t_string .s kv.2.1 ([a.pub,b.pub].map bx)
 op:∀q∈own kv.2.1,n0≤q
 k:Row h t_api_HssKey LkK ks [hkV (a.k x),hkV (b.k y)]
 ok:∀q∈own ks,n0≤q
theorem MdU.at {n0:Nat} {h:Heap} {kv:KeK.Ty} {ks:Slc} {a b:Sd} {x y:Nat} (m:MdU n0 h kv ks a b x y):KeAt h kv (clbK a b):=⟨m.m.at,m.p.seg⟩
theorem MdU.keep {n0:Nat} {h h':Heap} {kv:KeK.Ty} {ks:Slc} {a b:Sd} {x y:Nat} {S:List Nat} (m:MdU n0 h kv ks a b x y) (k:Keep S h h') (hS:∀b∈S,b<n0∨∀T,T=t_s_int∨T=t_int∨T=t_string∨T=t_api_HssKey→∀c f,h[b]? ≠ some (.cells c T f)):MdU n0 h' kv ks a b x y:=by
 refine ⟨m.m.keep k fun b hb =>?_,row_keepC m.p k m.op fun b hb =>?_,m.op,row_keepC m.k k m.ok fun b hb =>?_,m.ok⟩
 ·rcases hS b hb with h1 | h1
  ·exact .inl h1
  ·exact .inr fun c f=>⟨h1 _ (by simp) c f,h1 _ (by simp) c f⟩
 ·rcases hS b hb with h1 | h1
  ·exact .inl h1
  ·exact .inr (.inr (h1 _ (by simp)))
 ·rcases hS b hb with h1 | h1
  ·exact .inl h1
  ·exact .inr (.inr (h1 _ (by simp)))
theorem MdU.keep0 {n0:Nat} {h h':Heap} {kv:KeK.Ty} {ks:Slc} {a b:Sd} {x y:Nat} (m:MdU n0 h kv ks a b x y) (k:Keep [] h h'):MdU n0 h' kv ks a b x y:=m.keep k (by simp)
theorem prins_mb {m:Mb} (hm:mbMay m=true):1≤prins m∧prins m≤24∧m.groups.length≤8:=by
 unfold mbMay at hm;simp only [YAa,decide_eq_true_eq] at hm;have:=hm.1.1.1;have:=hm.1.1.2;have:=hm.1.2;unfold prins;omega
theorem empty_lensU {m:Mb} (hm:mbMay m=true):Lens (emptyS m):=by
 obtain ⟨p1,p24,g8⟩:=prins_mb hm;unfold emptyS;refine ⟨by simp only [YAK,List.length_replicate];omega,fun t ht =>?_⟩;rcases List.mem_cons.1 ht with e | e
 ·subst e;exact ⟨by simp,fun x hx=>by simp at hx;subst hx;simp⟩
 ·rw[List.eq_of_mem_replicate e];exact ⟨by simp,by simp⟩
theorem ZCX.s {v:MbK.Ty} {m:Mb} {h:Heap} {K:Slc→Slc→Heap→Prop} (a:MbAt h v m) (hm:mbMay m=true) (hK:∀h' o1 o2,Keep [] h h'→Row h' t_api_Hash HK o1 (buildH (emptyS m))→Row h' t_string .s o2 (buildO (emptyS m))→K o1 o2 h'):ZCX.C v h K:=by
 obtain ⟨p1,p24,g8⟩:=prins_mb hm;apply ZCX.c;unfold ZCX.m;refine new_gen fun b1 h1 hb1 k1 e1 hs1 =>?_;have e1:h1[b1]? = some (vobj t_api_Members MbK v):=e1;refine ld_go (sm_all e1) ?_;refine ZCR.s (a.keepU k1) (by omega) (fun hn=>by rw[hm] at hn;simp at hn) fun _ h2 t0 ss vv k2 w =>?_;refine new_st_gen fun b2 h3 hb2 k3 e3 hs3 =>?_;refine ld_go (sm_all e3) ?_;refine ZCO.s (w.keep k3) (empty_lensU hm) (fun hn=>by rw[emptyU_may p1 p24] at hn;simp at hn) fun _ h4 o1 o2 k4 r1 r2 =>?_;exact hK h4 o1 o2 (((k1.n k2).n k3).n k4) r1 r2
section
variable {n1 c:Nat} {h:Heap} {kv:KeK.Ty} {fs es ls:Slc} {evs:List EtK.Ty} {C:Cn}
end
section
variable {n1 c:Nat} {h:Heap} {kv:KeK.Ty} {fs es ls:Slc} {evs:List EtK.Ty} {C:Cn}
end
section
variable {n1 c:Nat} {h:Heap} {kv:KeK.Ty} {fs es ls:Slc} {evs:List EtK.Ty} {C:Cn}
end
section
variable {n p:Nat} {h:Heap} {e:Ett} {K:Heap→Prop}
end
theorem EtR.keepS {h h':Heap} {v:EtK.Ty} {e:Ett} {S:List Nat} (a:EtR h v e) (k:Keep S h h') (hS:∀b∈S,∀T,T=t_int∨T=t_api_Hash→∀c f,h[b]? ≠ some (.cells c T f)):EtR h' v e:=
 ⟨a.u,a.q,row_keepC (n0:=0) a.w k (fun _ _=>YAZ _) (fun b hb => .inr (.inr (hS b hb _ (by simp)))),a.r,row_keepC (n0:=0) a.t k (fun _ _=>YAZ _) (fun b hb => .inr (.inr (hS b hb _ (by simp)))),a.s⟩
theorem row_tagU {T T':Nat} {k:Kd} {s:Slc} {L:List k.Ty} {h:Heap} (r:Row h T k s L) (hT:T≠T'):∀q∈own s,∀cc f,h[q]? ≠ some (.cells cc T' f):=fun q hq cc f e=>rowT r e (fun h=>hT h.symm) hq
section
variable {n1 c:Nat} {h:Heap} {kv:KeK.Ty} {fs es ls:Slc} {evs:List EtK.Ty} {C:Cn}
end
def ResV {k:Kd} {α : Type} (V:Heap→k.Ty → α → Prop) (h:Heap) (x:k.Ty) (er:Int):Option α → Prop
 | none=>er≠0
 | some a=>er=0∧V h x a
theorem rMany_z {α : Type} {f:By→Option α × By} {l:By} {acc:List α}:rMany f 0 l acc=(acc,l):=rfl
theorem rMany_s {α : Type} {f:By→Option α × By} {n:Nat} {l:By} {acc:List α}:rMany f (n+1) l acc=match (f l).1 with | none=>([],(f l).2) | some x=>rMany f n (f l).2 (acc++[x]):=rfl
theorem many_flat {k:Kd} {α : Type} {T by_ sz r n:Nat} {fv:Value} {f:By→Option α × By} {V:Heap→k.Ty → α → Prop} {OK:Heap→Nat→Prop} {l:By} {h:Heap} {K:Slc→Int→Heap→Prop}
 (hsz:sz=k.size) (hby:by_≤1000) (i:IsRd h r l) (hn:n≤65535)
 (hV:∀h h' S x a,V h x a→Keep S h h'→(∀b∈S,OK h b)→V h' x a)
 (hR:∀h1 rest,IsRd h1 r rest→OK h1 r) (hS:∀h1 s xs,Row h1 T k s xs→∀q∈own s,OK h1 q)
 (hc:∀h1 rest (K':(Kd.tp (.pr k (.pr .i .un))).Ty→Heap→Prop),Keep [r] h h1→IsRd h1 r rest→(∀x er h2,Keep [r] h1 h2→IsRd h2 r (f rest).2→ResV V h2 x er (f rest).1→K' (x,(er,())) h2)→callV Tryz.prog fv [] (.tp (.pr k (.pr .i .un))) h1 K')
 (hK:∀s' er vals h',Keep [r] h h'→IsRd h' r (rMany f n l []).2→Row h' T k s' vals→(∀q∈own s',h.size≤q)→All2 (V h') vals (rMany f n l []).1→K s' er h') :
 lp (.pr .sl (.pr .i .un)) (fun y1 h1 next1=>
 if (decide (y1.2.1<(n:Int)))=true then (callV Tryz.prog fv [] (.tp (.pr k (.pr .i .un))) h1 fun x1 h2=>
 if (!(decide (x1.2.1=(0:Int))))=true then K ⟨none,0,0⟩ x1.2.1 h2
 else bs T k [x1.1] h2 fun s1 h3=>
 slCells s1 (s1.len*sz) h3 fun cs1=>
 ap T k by_ y1.1 s1.len cs1 h3 fun s2 h4=>
 next1 (s2,w64 (y1.2.1+1),()) h4)
 else K y1.1 0 h1) (⟨none,0,0⟩,0,()) h:=by
 have hrl:=lt_of_some i.o;refine lp_go (fun (y:Slc×Int×Unit) (h1:Heap)=>∃t rest acc vals,y.2.1=((t:Nat):Int)∧t≤n∧Keep [r] h h1∧IsRd h1 r rest∧Row h1 T k y.1 vals∧All2 (V h1) vals acc∧vals.length=t∧(∀q∈own y.1,h.size≤q)∧rMany f (n-t) rest acc=rMany f n l []) (fun (y:Slc×Int×Unit) _=>n-y.2.1.toNat) ?_ ?_
 ·exact ⟨0,l,[],[],rfl,YAZ _,Keep.rfl,i,Row.nil,trivial,rfl,by simp[own],rfl⟩
 rintro ⟨(s:Slc),(j:Int),_⟩ h1 ⟨t,rest,acc,vals,e,ht,k1,i1,r1,a1,hal,ho,hrd⟩;dsimp only at e r1 ho ⊢;subst e;by_cases hlt:t<n
 ·rw[if_pos (show decide ((t:Int)<(n:Int))=true from dT (by omega))];have hw:w64 ((t:Int)+1)=((t+1:Nat):Int):=w6 (by omega);rw[hw];have hnt:n-t=(n-(t+1))+1:=by omega
  rw[hnt,rMany_s] at hrd;have hsz1:=k1.1;refine hc h1 rest _ k1 i1 fun x er h2 k2 i2 rv =>?_;dsimp only;have k02:Keep [r] h h2:=k1.then k2 (fun x hx _=>hx) (fun x hx _=>hx);have hro:r∉own s:=fun hm=>by have:=ho r hm;omega
  cases hf:(f rest).1 with
  | none =>
    rw[hf] at rv hrd;rw[if_pos (by simpa[ResV] using rv)];dsimp only at hrd;have:=hK ⟨none,0,0⟩ er [] h2 k02;rw[←hrd] at this;exact this i2 Row.nil (by simp[own]) trivial
  | some a =>
    rw[hf] at rv hrd;obtain ⟨rfl,hva⟩:=rv;rw[if_neg (by simp)];dsimp only at hrd;have r2:Row h2 T k s vals:=r1.keep k2 (fun q hq hm=>by simp at hm;subst hm;exact hro hq);have a2:All2 (V h2) vals acc:=a1.mono fun x a hv=>hV _ _ _ _ _ hv k2 fun b hb=>by simp at hb;subst hb;exact hR h1 rest i1
    refine app2 (by_:=by_) r2 hsz (by rw[hal];have:(t+1)*by_≤65535*1000:=Nat.mul_le_mul (by omega) hby;omega) fun s5 h5 k5 r5 o5 =>?_;have i3:=i2.keep k5 hro;refine ⟨⟨t+1,(f rest).2,acc++[a],vals++[x],rfl,by omega,k02.then k5 (fun x hx _=>hx) (fun x hx hl=>by have:=ho x hx;omega),i3,r5,?_,by simp;omega,?_,hrd⟩,by simp;omega⟩
    ·refine (a2.mono fun x a hv=>hV _ _ _ _ _ hv k5 fun b hb=>hS h2 s vals r2 b hb).app ?_;exact ⟨hV _ _ _ _ _ hva k5 fun b hb=>hS h2 s vals r2 b hb,trivial⟩
    ·intro q hq;rcases o5 q hq with h' | h'
     ·exact ho q h'
     ·have:=k02.1;omega
 ·rw[if_neg (show ¬decide ((t:Int)<(n:Int))=true by simp;omega)];obtain rfl:t=n:=by omega
  rw[YAY,rMany_z] at hrd;have:=hK s 0 vals h1 k1;rw[←hrd] at this;exact this i1 r1 ho a1
theorem many_box {k:Kd} {α : Type} {T by_ sz r n:Nat} {z0:k.Ty} {fv:Value} {f:By→Option α × By} {V:Heap→k.Ty → α → Prop} {OK:Heap→Nat→Prop} {l:By} {h:Heap} {K:Slc→Int→Heap→Prop}
 (hsz:sz=k.size) (hby:by_≤1000) (i:IsRd h r l) (hn:n≤65535)
 (hV:∀h h' S x a,V h x a→Keep S h h'→(∀b∈S,OK h b)→V h' x a)
 (hR:∀h1 rest,IsRd h1 r rest→OK h1 r) (hS:∀h1 s xs,Row h1 T k s xs→∀q∈own s,OK h1 q)
 (hc:∀h1 rest (K':(Kd.tp (.pr k (.pr .i .un))).Ty→Heap→Prop),Keep [r] h h1→IsRd h1 r rest→(∀x er h2,Keep [r] h1 h2→IsRd h2 r (f rest).2→ResV V h2 x er (f rest).1→K' (x,(er,())) h2)→callV Tryz.prog fv [] (.tp (.pr k (.pr .i .un))) h1 K')
 (hK:∀s' er vals h',Keep [r] h h'→IsRd h' r (rMany f n l []).2→Row h' T k s' vals→(∀q∈own s',h.size≤q)→All2 (V h') vals (rMany f n l []).1→K s' er h') :
 lp (.pr .sl (.pr .i .un)) (fun y1 h1 next1=>
 if (decide (y1.2.1<(n:Int)))=true then (callV Tryz.prog fv [] (.tp (.pr k (.pr .i .un))) h1 fun x1 h2=>
 new T k z0 h2 fun b1 h3=>
 Go.Al.st k (Pl.mk b1 0) x1.1 h3 fun h4=>
 if (!(decide (x1.2.1=(0:Int))))=true then K ⟨none,0,0⟩ x1.2.1 h4
 else ld k (Pl.mk b1 0) h4 fun x2=>
 bs T k [x2] h4 fun s1 h5=>
 slCells s1 (s1.len*sz) h5 fun cs1=>
 ap T k by_ y1.1 s1.len cs1 h5 fun s2 h6=>
 next1 (s2,w64 (y1.2.1+1),()) h6)
 else K y1.1 0 h1) (⟨none,0,0⟩,0,()) h:=by
 have hrl:=lt_of_some i.o;refine lp_go (fun (y:Slc×Int×Unit) (h1:Heap)=>∃t rest acc vals,y.2.1=((t:Nat):Int)∧t≤n∧Keep [r] h h1∧IsRd h1 r rest∧Row h1 T k y.1 vals∧All2 (V h1) vals acc∧vals.length=t∧(∀q∈own y.1,h.size≤q)∧rMany f (n-t) rest acc=rMany f n l []) (fun (y:Slc×Int×Unit) _=>n-y.2.1.toNat) ?_ ?_
 ·exact ⟨0,l,[],[],rfl,YAZ _,Keep.rfl,i,Row.nil,trivial,rfl,by simp[own],rfl⟩
 rintro ⟨(s:Slc),(j:Int),_⟩ h1 ⟨t,rest,acc,vals,e,ht,k1,i1,r1,a1,hal,ho,hrd⟩;dsimp only at e r1 ho ⊢;subst e;by_cases hlt:t<n
 ·rw[if_pos (show decide ((t:Int)<(n:Int))=true from dT (by omega))];have hw:w64 ((t:Int)+1)=((t+1:Nat):Int):=w6 (by omega);rw[hw];have hnt:n-t=(n-(t+1))+1:=by omega
  rw[hnt,rMany_s] at hrd;have hsz1:=k1.1;refine hc h1 rest _ k1 i1 fun x er h2' k2' i2' rv =>?_;dsimp only;refine new_st_gen fun b3 h2 hb3 k23 e3 hs3 =>?_;have k2:Keep [r] h1 h2:=k2'.then k23 (fun x hx _=>hx) (by simp);have i2:=i2'.keep k23 (by simp);have k02:Keep [r] h h2:=k1.then k2 (fun x hx _=>hx) (fun x hx _=>hx);have hro:r∉own s:=fun hm=>by have:=ho r hm;omega
  cases hf:(f rest).1 with
  | none =>
    rw[hf] at rv hrd;rw[if_pos (by simpa[ResV] using rv)];dsimp only at hrd;have:=hK ⟨none,0,0⟩ er [] h2 k02;rw[←hrd] at this;exact this i2 Row.nil (by simp[own]) trivial
  | some a =>
    rw[hf] at rv hrd;obtain ⟨rfl,hva⟩:=rv;rw[if_neg (by simp)];refine ld_go (sm_all e3) ?_;dsimp only at hrd;have r2:Row h2 T k s vals:=r1.keep k2 (fun q hq hm=>by simp at hm;subst hm;exact hro hq);have a2:All2 (V h2) vals acc:=a1.mono fun x a hv=>hV _ _ _ _ _ hv k2 fun b hb=>by simp at hb;subst hb;exact hR h1 rest i1
    have hva2:=hV _ _ _ _ _ hva k23 (by simp);refine app2 (by_:=by_) r2 hsz (by rw[hal];have:(t+1)*by_≤65535*1000:=Nat.mul_le_mul (by omega) hby;omega) fun s5 h5 k5 r5 o5 =>?_;have i3:=i2.keep k5 hro;refine ⟨⟨t+1,(f rest).2,acc++[a],vals++[x],rfl,by omega,k02.then k5 (fun x hx _=>hx) (fun x hx hl=>by have:=ho x hx;omega),i3,r5,?_,by simp;omega,?_,hrd⟩,by simp;omega⟩
    ·refine (a2.mono fun x a hv=>hV _ _ _ _ _ hv k5 fun b hb=>hS h2 s vals r2 b hb).app ?_;exact ⟨hV _ _ _ _ _ hva2 k5 fun b hb=>hS h2 s vals r2 b hb,trivial⟩
    ·intro q hq;rcases o5 q hq with h' | h'
     ·exact ho q h'
     ·have:=k02.1;omega
 ·rw[if_neg (show ¬decide ((t:Int)<(n:Int))=true by simp;omega)];obtain rfl:t=n:=by omega
  rw[YAY,rMany_z] at hrd;have:=hK s 0 vals h1 k1;rw[←hrd] at this;exact this i1 r1 ho a1
section
variable {r b n:Nat} {l:By} {h:Heap}
theorem many_int (i:IsRd h r l) (hb:h[b]? = some (vobj t_p_wire_Reader .p (some ⟨r,0⟩))) (hne:b≠r) (hn:n≤65535) {K:Slc→Int→Heap→Prop}
 (hK:∀s' er h',Keep [r] h h'→IsRd h' r (rMany rWd n l []).2→Row h' t_int .i s' (rMany rWd n l []).1→(∀q∈own s',h.size≤q)→K s' er h'):ZCh.C n (.func (.func ZCE.n) #[] #[Kd.p.val (some ⟨b,0⟩)]) h K:=by
 apply ZCh.c;unfold ZCh.m;refine many_flat (k := .i) (f:=rWd) (V:=fun _ x a=>x=a) (OK:=fun _ _=>True) rfl (by decide) i hn (fun _ _ _ _ _ hv _ _=>hv) (fun _ _ _=>trivial) (fun _ _ _ _ _ _=>trivial) (fun h1 rest K' k1 i1 hh =>?_) fun s' er vals h' k' i' r' o' a' =>?_
 ·refine callV_go (aa:=[Kd.p.val (some (Pl.mk b 0))]) (by rfl) ?_;show ZCE.C ⟨b,0⟩ h1 fun x e h=>K' (x,(e,())) h;apply ZCE.c;unfold ZCE.m;refine ld_go (sm_all (k1.get hb (by simpa using hne))) ?_;unfold rWd at hh;refine ZAE.s (n:=2) i1 (.inr (.inl rfl)) (fun hl =>?_) (fun hl h' k' i' =>?_)
  ·rw[if_pos hl] at hh;exact hh 0 300 h1 Keep.rfl i1 (show (300:Int)≠0 by decide)
  ·rw[if_neg (by omega)] at hh;exact hh _ 0 h' k' i' ⟨rfl,rfl⟩
 ·refine hK s' er h' k' i' ?_ o'
  have:∀ {xs ys:List Int},All2 (fun x a=>x=a) xs ys→xs=ys:=fun {xs}=>by
   induction xs with
   | nil=>intro ys h;cases ys with | nil=>rfl | cons=>exact h.elim
   | cons x xs ih=>intro ys h;cases ys with | nil=>exact h.elim | cons y ys=>obtain ⟨rfl,h2⟩:=h;rw[ih h2]
  rw[←this a'];exact r'
theorem many_hash (i:IsRd h r l) (hn:n≤65535) {K:Slc→Int→Heap→Prop}
 (hK:∀s' er h',Keep [r] h h'→IsRd h' r (rMany rHs n l []).2→Row h' t_api_Hash (.ar 32 .u8) s' (rMany rHs n l []).1→(∀q∈own s',h.size≤q)→K s' er h'):ZA7.C n (.func (.func ZAS.n) #[Kd.p.val (some ⟨r,0⟩)] #[]) h K:=by
 apply ZA7.c;unfold ZA7.m;refine many_box (k := .ar 32 .u8) (f:=rHs) (V:=fun _ x a=>x=a) (OK:=fun _ _=>True) rfl (by decide) i hn (fun _ _ _ _ _ hv _ _=>hv) (fun _ _ _=>trivial) (fun _ _ _ _ _ _=>trivial) (fun h1 rest K' k1 i1 hh =>?_) fun s' er vals h' k' i' r' o' a' =>?_
 ·refine callV_go (aa:=[Kd.p.val (some (Pl.mk r 0))]) (by rfl) ?_;show ZAS.C (some ⟨r,0⟩) h1 fun x e h=>K' (x,(e,())) h;refine ZAS.s i1 fun h' k' i' =>?_;unfold rdH at i' ⊢;unfold rHs at hh;by_cases hl:rest.length<32
  ·rw[if_pos hl] at hh i' ⊢;exact hh _ 300 h' k' i' (show (300:Int)≠0 by decide)
  ·rw[if_neg hl] at hh i' ⊢;exact hh _ 0 h' k' i' ⟨rfl,rfl⟩
 ·refine hK s' er h' k' i' ?_ o'
  have:∀ {xs ys:List HVec},All2 (fun x a=>x=a) xs ys→xs=ys:=fun {xs}=>by
   induction xs with
   | nil=>intro ys h;cases ys with | nil=>rfl | cons=>exact h.elim
   | cons x xs ih=>intro ys h;cases ys with | nil=>exact h.elim | cons y ys=>obtain ⟨rfl,h2⟩:=h;rw[ih h2]
  rw[←this a'];exact r'
theorem many_text (i:IsRd h r l) (hb:h[b]? = some (vobj t_p_wire_Reader .p (some ⟨r,0⟩))) (hne:b≠r) (hn:n≤65535) {K:Slc→Int→Heap→Prop}
 (hK:∀s' er h',Keep [r] h h'→IsRd h' r (rMany rTxt n l []).2→Row h' t_string .s s' ((rMany rTxt n l []).1.map bx)→(∀q∈own s',h.size≤q)→K s' er h'):ZBn.C n (.func (.func ZCN.n) #[] #[Kd.p.val (some ⟨b,0⟩)]) h K:=by
 apply ZBn.c;unfold ZBn.m;refine many_flat (k := .s) (f:=rTxt) (V:=fun _ x a=>x=bx a) (OK:=fun _ _=>True) rfl (by decide) i hn (fun _ _ _ _ _ hv _ _=>hv) (fun _ _ _=>trivial) (fun _ _ _ _ _ _=>trivial) (fun h1 rest K' k1 i1 hh =>?_) fun s' er vals h' k' i' r' o' a' =>?_
 ·refine callV_go (aa:=[Kd.p.val (some (Pl.mk b 0))]) (by rfl) ?_;show ZCN.C ⟨b,0⟩ h1 fun x e h=>K' (x,(e,())) h;apply ZCN.c;unfold ZCN.m;refine ld_go (sm_all (k1.get hb (by simpa using hne))) ?_;unfold rTxt at hh;refine ZAd.s (n:=2) i1 (.inr (.inl rfl)) (fun h' k' i' hx =>?_) (fun hl hc h' k' i' =>?_)
  ·by_cases hl:rest.length<2
   ·rw[if_pos hl] at hh;exact hh _ 300 h' k' i' (show (300:Int)≠0 by decide)
   ·rw[if_neg hl,if_pos (hx (by omega))] at hh;exact hh _ 300 h' k' i' (show (300:Int)≠0 by decide)
  ·rw[if_neg (by omega),if_neg (by omega)] at hh;exact hh _ 0 h' k' i' ⟨rfl,rfl⟩
 ·refine hK s' er h' k' i' ?_ o'
  have:∀ {xs:List ByteArray} {ys:List By},All2 (fun x a=>x=bx a) xs ys→xs=ys.map bx:=fun {xs}=>by
   induction xs with
   | nil=>intro ys h;cases ys with | nil=>rfl | cons=>exact h.elim
   | cons x xs ih=>intro ys h;cases ys with | nil=>exact h.elim | cons y ys=>obtain ⟨rfl,h2⟩:=h;rw[ih h2];rfl
  rw[←this a'];exact r'
end
theorem et_w3 {v:EtK.Ty} {z:HVec}:wrL (EtK.cells v) 3 ((Kd.ar 32 .u8).cells z)=EtK.cells ((v.1,(v.2.1,(v.2.2.1,(z,v.2.2.2.2)))):EtK.Ty):=by
 have l3:∀z:HVec,((Kd.ar 32 .u8).cells z).length=32:=fun z=>Kd.cells_length ..;have e0:∀z:HVec,EtK.cells ((v.1,(v.2.1,(v.2.2.1,(z,v.2.2.2.2)))):EtK.Ty)=(Kd.i.cells v.1++(Kd.i.cells v.2.1++Kd.sl.cells v.2.2.1))++((Kd.ar 32 .u8).cells z++(Kd.sl.cells v.2.2.2.2.1++(Kd.s.cells v.2.2.2.2.2.1++[]))):=fun z=>rfl;have e1:=e0 v.2.2.2.1;rw[e0 z];have e1:EtK.cells v=_:=e1;rw[e1];have la:(Kd.i.cells v.1++(Kd.i.cells v.2.1++Kd.sl.cells v.2.2.1)).length=3:=rfl;generalize (Kd.i.cells v.1++(Kd.i.cells v.2.1++Kd.sl.cells v.2.2.1))=A at *;have q1:=l3 z;have q2:=l3 v.2.2.2.1;generalize (Kd.ar 32 .u8).cells z=Z at *;generalize (Kd.ar 32 .u8).cells v.2.2.2.1=Y at *;generalize (Kd.sl.cells v.2.2.2.2.1++(Kd.s.cells v.2.2.2.2.2.1++[]))=R;unfold wrL;rw[List.take_left' la,q1]
 have:(A++(Y++R)).drop (3+32)=R:=by
  rw[←YAA];exact List.drop_left' (by rw[YAJ,la,q2])
 rw[this,YAA]
section
variable {b:Nat} {v:EtK.Ty} {h:Heap} {K:Heap→Prop} (e:h[b]? = some (vobj t_api_Entry EtK v))
include e
theorem est0 {x:Int} (hK:∀h',Keep [b] h h'→h'[b]? = some (vobj t_api_Entry EtK ((x,v.2):EtK.Ty))→h'.size=h.size→K h'):Go.Al.st .i ((Pl.mk b 0).fld 0) x h K:=
 st_fld (k:=EtK) (x':=((x,v.2):EtK.Ty)) (k' := .i) (n:=0) e (by decide) rfl (hK _ keep_set (get_set e) (by simp))
theorem est1 {x:Int} (hK:∀h',Keep [b] h h'→h'[b]? = some (vobj t_api_Entry EtK ((v.1,(x,v.2.2)):EtK.Ty))→h'.size=h.size→K h'):Go.Al.st .i ((Pl.mk b 0).fld 1) x h K:=
 st_fld (k:=EtK) (x':=((v.1,(x,v.2.2)):EtK.Ty)) (k' := .i) (n:=1) e (by decide) rfl (hK _ keep_set (get_set e) (by simp))
theorem est2 {x:Slc} (hK:∀h',Keep [b] h h'→h'[b]? = some (vobj t_api_Entry EtK ((v.1,(v.2.1,(x,v.2.2.2))):EtK.Ty))→h'.size=h.size→K h'):Go.Al.st .sl ((Pl.mk b 0).fld 2) x h K:=
 st_fld (k:=EtK) (k' := .sl) (n:=2) e (by decide) et_w2 (hK _ keep_set (get_set e) (by simp))
theorem est3 {x:HVec} (hK:∀h',Keep [b] h h'→h'[b]? = some (vobj t_api_Entry EtK ((v.1,(v.2.1,(v.2.2.1,(x,v.2.2.2.2)))):EtK.Ty))→h'.size=h.size→K h'):Go.Al.st (.ar 32 .u8) ((Pl.mk b 0).fld 3) x h K:=
 st_fld (k:=EtK) (k' := .ar 32 .u8) (n:=3) e (by decide) et_w3 (hK _ keep_set (get_set e) (by simp))
theorem est35 {x:Slc} (hK:∀h',Keep [b] h h'→h'[b]? = some (vobj t_api_Entry EtK ((v.1,(v.2.1,(v.2.2.1,(v.2.2.2.1,(x,v.2.2.2.2.2))))):EtK.Ty))→h'.size=h.size→K h'):Go.Al.st .sl ((Pl.mk b 0).fld 35) x h K:=
 st_fld (k:=EtK) (k' := .sl) (n:=35) e (by decide) et_w35 (hK _ keep_set (get_set e) (by simp))
theorem est36 {x:By} (hK:∀h',Keep [b] h h'→h'[b]? = some (vobj t_api_Entry EtK ((v.1,(v.2.1,(v.2.2.1,(v.2.2.2.1,(v.2.2.2.2.1,(bx x,())))))):EtK.Ty))→h'.size=h.size→K h'):Go.Al.st .s ((Pl.mk b 0).fld 36) (bx x) h K:=
 st_fld (k:=EtK) (k' := .s) (n:=36) e (by decide) et_w36 (hK _ keep_set (get_set e) (by simp))
end
section
variable {r:Nat} {l:By} {h:Heap}
theorem num1' {K:Int→Int→Heap→Prop} (i:IsRd h r l) (hK:∀er h',Keep [r] h h'→IsRd h' r (rN1 l).2→K (rN1 l).1 er h'):ZAE.C (some ⟨r,0⟩) 1 h K:=by
 unfold rN1 at hK;refine ZAE.s (n:=1) i (.inl rfl) (fun hl =>?_) (fun hl h' k' i' =>?_)
 ·rw[if_pos hl] at hK;exact hK 300 h Keep.rfl i
 ·rw[if_neg (by omega)] at hK;exact hK 0 h' k' i'
theorem num2' {K:Int→Int→Heap→Prop} (i:IsRd h r l) (hK:∀er h',Keep [r] h h'→IsRd h' r (rN2 l).2→K (rN2 l).1 er h'):ZAE.C (some ⟨r,0⟩) 2 h K:=by
 unfold rN2 at hK;refine ZAE.s (n:=2) i (.inr (.inl rfl)) (fun hl =>?_) (fun hl h' k' i' =>?_)
 ·rw[if_pos hl] at hK;exact hK 300 h Keep.rfl i
 ·rw[if_neg (by omega)] at hK;exact hK 0 h' k' i'
theorem hash' {K:Kd.Ty (.ar 32 .u8)→Int→Heap→Prop} (i:IsRd h r l) (hK:∀er h',Keep [r] h h'→IsRd h' r (rHs l).2→K (hvO (rHs l).1) er h'):ZAS.C (some ⟨r,0⟩) h K:=by
 refine ZAS.s i fun h' k' i' =>?_;unfold rdH at i' ⊢;unfold rHs at hK;by_cases hl:l.length<32
 ·rw[if_pos hl] at hK i' ⊢;exact hK _ h' k' i'
 ·rw[if_neg hl] at hK i' ⊢;exact hK _ h' k' i'
theorem text' {K:ByteArray→Int→Heap→Prop} (i:IsRd h r l) (hK:∀er h',Keep [r] h h'→IsRd h' r (rTxt l).2→(er=0↔(rTxt l).1≠none)→K (bx (byO (rTxt l).1)) er h'):ZAd.C (some ⟨r,0⟩) 2 h K:=by
 unfold rTxt at hK;refine ZAd.s (n:=2) i (.inr (.inl rfl)) (fun h' k' i' hx =>?_) (fun hl hc h' k' i' =>?_)
 ·by_cases hl:l.length<2
  ·rw[if_pos hl] at hK;exact hK 300 h' k' i' ⟨fun h=>absurd h (by decide),fun h=>absurd rfl h⟩
  ·rw[if_neg hl,if_pos (hx (by omega))] at hK;exact hK 300 h' k' i' ⟨fun h=>absurd h (by decide),fun h=>absurd rfl h⟩
 ·rw[if_neg (by omega),if_neg (by omega)] at hK;exact hK 0 h' k' i' ⟨fun _=>by simp,fun _=>rfl⟩
theorem rN1_lt:0≤(rN1 l).1∧(rN1 l).1≤255:=by
 by_cases h:1≤l.length
 ·have:=rN1_snd h;omega
 ·unfold rN1;rw[if_pos (by omega)];exact ⟨Int.le_refl 0,by show (0:Int)≤255;decide⟩
theorem rN2_lt:0≤(rN2 l).1∧(rN2 l).1≤65535:=by
 by_cases h:2≤l.length
 ·have:=rN2_snd h;omega
 ·unfold rN2;rw[if_pos (by omega)];exact ⟨Int.le_refl 0,by show (0:Int)≤65535;decide⟩
end
theorem rMany_len {α : Type} {f:By→Option α × By}:∀(n:Nat) (l:By) (acc:List α),(rMany f n l acc).1.length≤acc.length+n
 | 0,l,acc=>by rw[rMany_z];simp
 | n + 1, l, acc => by
   rw[rMany_s];split
   ·simp
   ·have:=rMany_len (f:=f) n (f l).2 (acc++[by assumption]);simp at this ⊢;omega
theorem ZCv.s {s:By} {h:Heap} {K:EtK.Ty→Int→Heap→Prop} (hz:s.length≤9223372036854775807)
 (hK:∀v er h',Keep [] h h'→ResV EtR h' v er (getE s)→(∀q∈etO v,h.size≤q)→K v er h'):ZCv.C (bx s) h K:=by
 apply ZCv.c;unfold ZCv.m;refine new_gen fun b1 h1 hb1 k1 e1 hs1 =>?_;have e1:h1[b1]? = some (vobj t_api_Entry EtK et0):=e1;have z1:=k1.1;rw[bx_size];by_cases hl:s.length<2
 ·rw[if_pos (dT (by omega))];refine st_to e1 fun h2 k2 e2 hs2=>ld_go (sm_all e2) ?_;refine hK _ 1900 h2 (k1.new k2 (by simp;omega)) ?_ (by intro q hq;simp[etO,own] at hq);have:getE s=none:=by unfold getE;rw[if_neg (fun hh=>by omega)]
  rw[this];exact show (1900:Int)≠0 by decide
 rw[if_neg (by simp;omega)];refine ⟨by decide,by omega,by rw[bx_size];omega,?_⟩;rw[bx_ext,YAU,YAQ (YAW _),show (2:Int).toNat=2 from rfl];refine ZCg.s fun h3 k3 i3 =>?_;rw[bx_dl] at i3;have l3:=lt_of_some i3.o;generalize hr:h1.size=r at *;refine new_st_gen fun b2 h5 hb2 k5 e5 hs5 =>?_;have e5:h5[b2]? = some (vobj t_p_wire_Reader .p (some ⟨r,0⟩)):=e5;refine new_gen fun b3 h6 hb3 k6 e6 hs6 =>?_;have e6:h6[b3]? = some (vobj t_api_Entry EtK et0):=e6;have i6:=(i3.keep k5 (by simp)).keep k6 (by simp);have z3:=k3.1;have z5:=k5.1
 have n12:b1≠r∧b2≠r∧b3≠r∧b2≠b3∧b1≠b3∧b1≠b2:=by
  have:=lt_of_some e1;omega
 obtain ⟨n1,n2,n3,n4,n5,n6⟩:=n12;have k06:Keep [] h h6:=((k1.n k3).n k5).n k6;have nw:h.size≤b1∧h.size≤r∧h.size≤b2∧h.size≤b3:=by omega
 obtain ⟨w1,wr,w2,w3⟩:=nw;have E1:=(k3.n (k5.n k6)).g e1;have E2:=k6.g e5;have kr:∀ {x y:Heap},Keep [] h x→Keep [r] x y→Keep [] h y:=fun a b=>a.new b (by simpa using wr);have kb:∀ {x y:Heap},Keep [] h x→Keep [b3] x y→Keep [] h y:=fun a b=>a.new b (by simpa using w3);refine ld_go (sm_all E2) (num1' i6 fun _ h7 k7 i7 =>?_);refine est0 (k7.get e6 (by simpa using n3)) fun h8 k8 e8 hs8 =>?_;have i8:=i7.keep k8 (by simpa using n3.symm);have E2:=k8.get (k7.get E2 (by simpa using n2)) (by simpa using n4);have E1:=k8.get (k7.get E1 (by simpa using n1)) (by simpa using n5);have k08:=kb (kr k06 k7) k8;refine ld_go (sm_all E2) (num2' i8 fun _ h9 k9 i9 =>?_);refine est1 (k9.get e8 (by simpa using n3)) fun h10 k10 e10 hs10 =>?_;have i10:=i9.keep k10 (by simpa using n3.symm);have E2:=k10.get (k9.get E2 (by simpa using n2)) (by simpa using n4);have E1:=k10.get (k9.get E1 (by simpa using n1)) (by simpa using n5);have k010:=kb (kr k08 k9) k10;refine ld_go (sm_all E2) (num1' i10 fun _ h11 k11 i11 =>?_);have c11:=rN1_lt (l:=(rN2 (rN1 (s.drop 2)).2).2);have E2:=k11.get E2 (by simpa using n2);have E1:=k11.get E1 (by simpa using n1);have k011:=kr k010 k11;rw[show (rN1 (rN2 (rN1 (s.drop 2)).2).2).1=(((rN1 (rN2 (rN1 (s.drop 2)).2).2).1.toNat:Nat):Int) by omega];refine many_int i11 E2 n2 (by omega) fun sv _ h12 k12 i12 rv ov =>?_;refine est2 (k12.get (k11.get e10 (by simpa using n3)) (by simpa using n3)) fun h13 k13 e13 hs13 =>?_;have i13:=i12.keep k13 (by simpa using n3.symm);have k012:=kr k011 k12;have k013:=kb k012 k13;have E2:=k13.get (k12.get E2 (by simpa using n2)) (by simpa using n4);have E1:=k13.get (k12.get E1 (by simpa using n1)) (by simpa using n5);have rv:=rv.keep k13 (fun q hq hm=>by simp at hm;subst hm;exact rowT rv (k12.get (k11.get e10 (by simpa using n3)) (by simpa using n3)) (by decide) hq);have ovn:∀q∈own sv,h.size≤q:=fun q hq=>YAX k011.1 (ov q hq);refine ld_go (sm_all E2) (hash' i13 fun _ h14 k14 i14 =>?_);refine est3 (k14.get e13 (by simpa using n3)) fun h15 k15 e15 hs15 =>?_;have i15:=i14.keep k15 (by simpa using n3.symm);have k014:=kr k013 k14;have k015:=kb k014 k15;have E2:=k15.get (k14.get E2 (by simpa using n2)) (by simpa using n4);have E1:=k15.get (k14.get E1 (by simpa using n1)) (by simpa using n5);have rv:=rv.keep k14 (fun q hq hm=>by simp at hm;subst hm;exact rowT rv i13.o (by decide) hq);have rv:=rv.keep k15 (fun q hq hm=>by simp at hm;subst hm;exact rowT rv (k14.get e13 (by simpa using n3)) (by decide) hq);refine ld_go (sm_all E2) (num1' i15 fun _ h16 k16 i16 =>?_);have k016:=kr k015 k16;have E2:=k16.get E2 (by simpa using n2);have E1:=k16.get E1 (by simpa using n1);have rv:=rv.keep k16 (fun q hq hm=>by simp at hm;subst hm;exact rowT rv i15.o (by decide) hq);have e16:=k16.get e15 (by simpa using n3);refine ld_go (sm_all E2) ?_;generalize hP:(rHs (rMany rWd (rN1 (rN2 (rN1 (s.drop 2)).2).2).1.toNat (rN1 (rN2 (rN1 (s.drop 2)).2).2).2 []).2)=P at *;have c16:=rN1_lt (l:=P.2);rw[show (rN1 P.2).1=(((rN1 P.2).1.toNat:Nat):Int) by omega];refine many_hash i16 (by omega) fun st _ h17 k17 i17 rt ot =>?_;have k017:=kr k016 k17;have E2:=k17.get E2 (by simpa using n2);have E1:=k17.get E1 (by simpa using n1);have rv:=rv.keep k17 (fun q hq hm=>by simp at hm;subst hm;exact rowT rv i16.o (by decide) hq);have e17:=k17.get e16 (by simpa using n3);have otn:∀q∈own st,h.size≤q:=fun q hq=>YAX k016.1 (ot q hq);refine est35 e17 fun h18 k18 e18 hs18 =>?_;have i18:=i17.keep k18 (by simpa using n3.symm);have k018:=kb k017 k18;have E2:=k18.get E2 (by simpa using n4);have E1:=k18.get E1 (by simpa using n5);have rv:=rv.keep k18 (fun q hq hm=>by simp at hm;subst hm;exact rowT rv e17 (by decide) hq);have rt:=rt.keep k18 (fun q hq hm=>by simp at hm;subst hm;exact rowT rt e17 (by decide) hq);refine ld_go (sm_all E2) (text' i18 fun _ h19 k19 i19 _ =>?_);have k019:=kr k018 k19;have E1:=k19.get E1 (by simpa using n1);have rv:=rv.keep k19 (fun q hq hm=>by simp at hm;subst hm;exact rowT rv i18.o (by decide) hq);have rt:=rt.keep k19 (fun q hq hm=>by simp at hm;subst hm;exact rowT rt i18.o (by decide) hq);have e19:=k19.get e18 (by simpa using n3);refine est36 e19 fun h20 k20 e20 hs20 =>?_;have k020:=kb k019 k20;have E1:=k20.get E1 (by simpa using n5);have rv:=rv.keep k20 (fun q hq hm=>by simp at hm;subst hm;exact rowT rv e19 (by decide) hq);have rt:=rt.keep k20 (fun q hq hm=>by simp at hm;subst hm;exact rowT rt e19 (by decide) hq);refine ld_go (sm_all e20) ?_;have er:EtR h20 (((rN1 (s.drop 2)).1,((rN2 (rN1 (s.drop 2)).2).1,(sv,(hvO P.1,(st,(bx (byO (rTxt (rMany rHs (rN1 P.2).1.toNat (rN1 P.2).2 []).2).1),())))))):EtK.Ty) (parE s):=⟨rfl,rfl,rv,by unfold parE;dsimp only;rw[hP],by unfold parE;dsimp only;rw[hP];exact rt,by unfold parE;dsimp only;rw[hP]⟩
 have hvl:(parE s).vec.length≤9223372036854775806:=by
  have:=rMany_len (f:=rWd) (rN1 (rN2 (rN1 (s.drop 2)).2).2).1.toNat (rN1 (rN2 (rN1 (s.drop 2)).2).2).2 [];have hh:(parE s).vec=(rMany rWd (rN1 (rN2 (rN1 (s.drop 2)).2).2).1.toNat (rN1 (rN2 (rN1 (s.drop 2)).2).2).2 []).1:=rfl;rw[hh];simp at this;omega
 refine ZCc.s er.at hvl fun h21 k21 =>?_;have k021:=k020.n k21;have E1:=k21.g E1;have e21:=k21.g e20;have er:=er.keep k21 (by simp)
 have hgo:∀q∈etO (((rN1 (s.drop 2)).1,((rN2 (rN1 (s.drop 2)).2).1,(sv,(hvO P.1,(st,(bx (byO (rTxt (rMany rHs (rN1 P.2).1.toNat (rN1 P.2).2 []).2).1),())))))):EtK.Ty),h.size≤q:=fun q hq=>by
  unfold etO at hq;rcases List.mem_append.1 hq with h' | h'
  ·exact ovn q h'
  ·exact otn q h'
 by_cases hg:putMay (parE s)=true∧putE (parE s)=s
 ·have hget:getE s=some (parE s):=by unfold getE;rw[if_pos ⟨by omega,hg.1,hg.2⟩]
  refine jn_at (false,()) h21 ?_ ?_
  ·rw[hg.1,if_pos rfl,if_pos rfl,if_neg (by decide),hg.2];exact ⟨by simp,rfl⟩
  rw[if_neg (by simp)];refine ld_go (sm_all e21) ?_;refine st_to E1 fun h24 k24 e24 hs24=>ld_go (sm_all e24) ?_;refine hK _ 0 h24 (k021.new k24 (by simpa using w1)) ?_ hgo;rw[hget];refine ⟨rfl,er.keep k24 fun q hq hm =>?_⟩;simp at hm;subst hm;rcases List.mem_append.1 hq with h' | h'
  ·exact rowT er.w E1 (by decide) h'
  ·exact rowT er.t E1 (by decide) h'
 ·have hget:getE s=none:=by unfold getE;rw[if_neg fun hh=>hg hh.2]
  refine jn_at (true,()) h21 ?_ ?_
  ·by_cases hp:putMay (parE s)=true
   ·rw[hp,if_pos rfl,if_pos rfl,if_neg (by decide)];have:¬bx (putE (parE s))=bx s:=fun hh=>hg ⟨hp,bx_inj3.1 hh⟩;exact ⟨by simp[this],rfl⟩
   ·rw[if_neg hp,if_neg hp,if_pos (by decide)];exact ⟨rfl,rfl⟩
  rw[if_pos (by rfl)];refine st_to E1 fun h24 k24 e24 hs24=>ld_go (sm_all e24) ?_;refine hK _ 1900 h24 (k021.new k24 (by simpa using w1)) ?_ (by intro q hq;simp[etO,own] at hq);rw[hget];exact show (1900:Int)≠0 by decide
structure MsR (n0:Nat) (h:Heap) (v:MsK.Ty) (evs:List EtK.Ty) (m:Msg):Prop where
 k:v.1=m.kind
 u:v.2.1=m.user
 f:v.2.2.1=m.frm
 e:Row h t_api_Entry EtK v.2.2.2.1 evs
 oe:∀q∈own v.2.2.2.1,n0≤q
 x:All2 (fun v e=>EtR h v e∧∀q∈etO v,n0≤q) evs m.ents
 w:Row h t_api_Hash (.ar 32 .u8) v.2.2.2.2.1 m.wants
 ow:∀q∈own v.2.2.2.2.1,n0≤q
 o:Row h t_string .s v.2.2.2.2.2.1 (m.objs.map bx)
 oo:∀q∈own v.2.2.2.2.2.1,n0≤q
theorem MsR.at {n0:Nat} {h:Heap} {v:MsK.Ty} {evs:List EtK.Ty} {m:Msg} (a:MsR n0 h v evs m):MsAt h v evs m:=⟨a.k,a.u,a.f,a.e.seg,a.x.mono fun _ _ r=>r.1.at,a.w.seg,a.o.seg⟩
theorem MsR.keep {n0:Nat} {h h':Heap} {v:MsK.Ty} {evs:List EtK.Ty} {m:Msg} {S:List Nat} (a:MsR n0 h v evs m) (k:Keep S h h') (hS:∀b∈S,b<n0∨∀T,T=t_api_Entry∨T=t_int∨T=t_api_Hash∨T=t_string→∀c f,h[b]? ≠ some (.cells c T f)):MsR n0 h' v evs m:=by
 have rk:∀ {T:Nat} {kk:Kd} {s:Slc} {L:List kk.Ty},T=t_api_Entry∨T=t_int∨T=t_api_Hash∨T=t_string→Row h T kk s L→(∀q∈own s,n0≤q)→Row h' T kk s L:=fun hT r o=>row_keepC r k o fun b hb=>by
  rcases hS b hb with h1 | h1
  ·exact .inl h1
  ·exact .inr (.inr (h1 _ hT))
 refine ⟨a.k,a.u,a.f,rk (by simp) a.e a.oe,a.oe,a.x.mono fun v e x=>⟨⟨x.1.u,x.1.q,rk (by simp) x.1.w fun q hq=>x.2 q (by unfold etO;simp[hq]),x.1.r,rk (by simp) x.1.t fun q hq=>x.2 q (by unfold etO;simp[hq]),x.1.s⟩,x.2⟩,rk (by simp) a.w a.ow,a.ow,rk (by simp) a.o a.oo,a.oo⟩
theorem MsR.keep0 {n0:Nat} {h h':Heap} {v:MsK.Ty} {evs:List EtK.Ty} {m:Msg} (a:MsR n0 h v evs m) (k:Keep [] h h'):MsR n0 h' v evs m:=a.keep k (by simp)
def ResM (n0:Nat) (h:Heap) (v:MsK.Ty) (evs:List EtK.Ty) (er:Int):Option Msg→Prop
 | none=>er≠0
 | some m=>er=0∧MsR n0 h v evs m
section
variable {b:Nat} {v:MsK.Ty} {h:Heap} {K:Heap→Prop} (e:h[b]? = some (vobj t_api_Msg MsK v))
include e
theorem mst0 {x:Int} (hK:∀h',Keep [b] h h'→h'[b]? = some (vobj t_api_Msg MsK ((x,v.2):MsK.Ty))→h'.size=h.size→K h'):Go.Al.st .i ((Pl.mk b 0).fld 0) x h K:=
 st_fld (k:=MsK) (x':=((x,v.2):MsK.Ty)) (k' := .i) (n:=0) e (by decide) rfl (hK _ keep_set (get_set e) (by simp))
theorem mst1 {x:Int} (hK:∀h',Keep [b] h h'→h'[b]? = some (vobj t_api_Msg MsK ((v.1,(x,v.2.2)):MsK.Ty))→h'.size=h.size→K h'):Go.Al.st .i ((Pl.mk b 0).fld 1) x h K:=
 st_fld (k:=MsK) (x':=((v.1,(x,v.2.2)):MsK.Ty)) (k' := .i) (n:=1) e (by decide) rfl (hK _ keep_set (get_set e) (by simp))
theorem mst2 {x:Int} (hK:∀h',Keep [b] h h'→h'[b]? = some (vobj t_api_Msg MsK ((v.1,(v.2.1,(x,v.2.2.2))):MsK.Ty))→h'.size=h.size→K h'):Go.Al.st .i ((Pl.mk b 0).fld 2) x h K:=
 st_fld (k:=MsK) (x':=((v.1,(v.2.1,(x,v.2.2.2))):MsK.Ty)) (k' := .i) (n:=2) e (by decide) rfl (hK _ keep_set (get_set e) (by simp))
theorem mst3 {x:Slc} (hK:∀h',Keep [b] h h'→h'[b]? = some (vobj t_api_Msg MsK ((v.1,(v.2.1,(v.2.2.1,(x,v.2.2.2.2)))):MsK.Ty))→h'.size=h.size→K h'):Go.Al.st .sl ((Pl.mk b 0).fld 3) x h K:=
 st_fld (k:=MsK) (x':=((v.1,(v.2.1,(v.2.2.1,(x,v.2.2.2.2)))):MsK.Ty)) (k' := .sl) (n:=3) e (by decide) rfl (hK _ keep_set (get_set e) (by simp))
theorem mst4 {x:Slc} (hK:∀h',Keep [b] h h'→h'[b]? = some (vobj t_api_Msg MsK ((v.1,(v.2.1,(v.2.2.1,(v.2.2.2.1,(x,v.2.2.2.2.2))))):MsK.Ty))→h'.size=h.size→K h'):Go.Al.st .sl ((Pl.mk b 0).fld 4) x h K:=
 st_fld (k:=MsK) (x':=((v.1,(v.2.1,(v.2.2.1,(v.2.2.2.1,(x,v.2.2.2.2.2))))):MsK.Ty)) (k' := .sl) (n:=4) e (by decide) rfl (hK _ keep_set (get_set e) (by simp))
theorem mst5 {x:Slc} (hK:∀h',Keep [b] h h'→h'[b]? = some (vobj t_api_Msg MsK ((v.1,(v.2.1,(v.2.2.1,(v.2.2.2.1,(v.2.2.2.2.1,(x,())))))):MsK.Ty))→h'.size=h.size→K h'):Go.Al.st .sl ((Pl.mk b 0).fld 5) x h K:=
 st_fld (k:=MsK) (x':=((v.1,(v.2.1,(v.2.2.1,(v.2.2.2.1,(v.2.2.2.2.1,(x,())))))):MsK.Ty)) (k' := .sl) (n:=5) e (by decide) rfl (hK _ keep_set (get_set e) (by simp))
end
def OkE (h:Heap) (b:Nat):Prop:=∀T,T=t_int∨T=t_api_Hash→∀c f,h[b]? ≠ some (.cells c T f)
section
variable {r b n:Nat} {l:By} {h:Heap}
theorem ZBX.t {K:EtK.Ty→Int→Heap→Prop} (i:IsRd h r l) (hb:h[b]? = some (vobj t_p_wire_Reader .p (some ⟨r,0⟩))) (hne:b≠r)
 (hK:∀v er h',Keep [r] h h'→IsRd h' r (rEt l).2→ResV EtR h' v er (rEt l).1→(∀q∈etO v,h.size≤q)→K v er h'):ZBX.C ⟨b,0⟩ h K:=by
 apply ZBX.c;unfold ZBX.m;have lr:=lt_of_some i.o;refine new_gen fun b1 h1 hb1 k1 e1 hs1 =>?_;have e1:h1[b1]? = some (vobj t_api_Entry EtK et0):=e1;have n1:b1≠r:=by omega
 refine ld_go (sm_all (k1.g hb)) ?_;refine text' (i.keep k1 (by simp)) fun er h2 k2 i2 her =>?_;have k02:Keep [r] h h2:=k1.then k2 (by simp) (fun x hx _=>hx);have E2:=k2.get e1 (by simpa using n1);unfold rEt at hK
 cases ht:(rTxt l).1 with
 | none =>
   rw[ht] at hK her;have her:er≠0:=fun hh=>her.1 hh rfl;rw[if_pos (by simpa using her)];refine st_to E2 fun h3 k3 e3 hs3=>ld_go (sm_all e3) ?_;exact hK et0 er h3 (k02.then k3 (fun x hx _=>hx) (fun x hx hl=>by simp at hx;omega)) (i2.keep k3 (by simpa using n1.symm)) her (by intro q hq;simp[etO,et0,own] at hq)
 | some s =>
   rw[ht] at hK her;have her:er=0:=her.2 (by simp);rw[if_neg (by simp[her])];have hs:=(rTxt_snd ht).1;show ZCv.C (bx s) h2 _;refine ZCv.s (by omega) fun v e4 h4 k4 rv ov =>?_;refine st_to (k4.g E2) fun h5 k5 e5 hs5=>ld_go (sm_all e5) ?_;have z02:=k02.1;refine hK v e4 h5 ((k02.then k4 (fun x hx _=>hx) (by simp)).then k5 (fun x hx _=>hx) (fun x hx hl=>by simp at hx;omega)) ((i2.keep k4 (by simp)).keep k5 (by simpa using n1.symm)) ?_ (fun q hq=>YAX z02 (ov q hq));dsimp only
   cases hg:getE s with
   | none=>rw[hg] at rv;exact rv
   | some e =>
     rw[hg] at rv;refine ⟨rv.1,rv.2.keepS k5 fun q hq T hT =>?_⟩;simp at hq;subst hq;exact cell_ne (o := .cells #[] 0 (0,0)) (k4.g E2) (by rcases hT with rfl | rfl <;> decide)
theorem many_entry {K:Slc→Int→Heap→Prop} (i:IsRd h r l) (hb:h[b]? = some (vobj t_p_wire_Reader .p (some ⟨r,0⟩))) (hne:b≠r) (hn:n≤65535)
 (hK:∀s' er vals h',Keep [r] h h'→IsRd h' r (rMany rEt n l []).2→Row h' t_api_Entry EtK s' vals→(∀q∈own s',h.size≤q)→All2 (fun v e=>EtR h' v e∧∀q∈etO v,h.size≤q) vals (rMany rEt n l []).1→K s' er h'):ZBJ.C n (.func (.func ZBX.n) #[] #[Kd.p.val (some ⟨b,0⟩)]) h K:=by
 apply ZBJ.c;unfold ZBJ.m
 refine many_box (k:=EtK) (f:=rEt) (V:=fun h' v e=>EtR h' v e∧∀q∈etO v,h.size≤q) (OK:=OkE) rfl (by decide) i hn (fun h1 h2 S x a hv k hS=>⟨hv.1.keepS k hS,hv.2⟩)
  (fun h1 rest i1 T hT=>cell_ne (o := .cells #[] 0 (0,0)) i1.o (by rcases hT with rfl | rfl <;> decide)) (fun h1 s xs rr q hq T hT=>row_tagU rr (by rcases hT with rfl | rfl <;> decide) q hq) (fun h1 rest K' k1 i1 hh =>?_) fun s' er vals h' k' i' r' o' a' =>?_
 ·refine callV_go (aa:=[Kd.p.val (some (Pl.mk b 0))]) (by rfl) ?_;show ZBX.C ⟨b,0⟩ h1 fun x e h=>K' (x,(e,())) h;have z1:=k1.1;refine ZBX.t i1 (k1.get hb (by simpa using hne)) hne fun v er h' k' i' rv ov=>hh v er h' k' i' ?_
  cases hg:(rEt rest).1 with
  | none=>rw[hg] at rv;exact rv
  | some e=>rw[hg] at rv;exact ⟨rv.1,rv.2,fun q hq=>YAX z1 (ov q hq)⟩
 ·exact hK s' er vals h' k' i' r' o' a'
end
theorem rMany_in {α : Type} {f:By→Option α × By} {x : α}:∀(n:Nat) (l:By) (acc:List α),x∈(rMany f n l acc).1→x∈acc∨∃l',(f l').1=some x
 | 0,l,acc,h => .inl h
 | n + 1, l, acc, h => by
   rw[rMany_s] at h;split at h
   ·simp at h
   ·rename_i y hy
    rcases rMany_in n _ _ h with h' | h'
    ·rcases List.mem_append.1 h' with h' | h'
     ·exact .inl h'
     ·simp at h';subst h';exact .inr ⟨l,hy⟩
    ·exact .inr h'
theorem rEt_may {l:By} {e:Ett} (h:(rEt l).1=some e):putMay e=true:=(rEt_snd h).1
theorem putm_vec {e:Ett} (h:putMay e=true):e.vec.length≤16∧e.tables.length≤24:=by
 unfold putMay ettMay vecMay at h;simp only [YAa,decide_eq_true_eq] at h;obtain ⟨⟨_,_,_,_,⟨_,_,h7⟩,_,h9⟩,_⟩:=h;exact ⟨h7,h9⟩
theorem parM_b (s:By):MsB (parM s):=by
 have c:∀l:By,(rN1 l).1.toNat≤255:=fun l=>by have:=rN1_lt (l:=l);omega
 refine ⟨fun e he =>?_,?_,?_,?_⟩
 ·unfold parM at he;dsimp only at he;rcases rMany_in _ _ _ he with h | ⟨l,h⟩
  ·simp at h
  ·have:=(putm_vec (rEt_may h)).1;omega
 ·unfold parM;dsimp only;refine YAX (rMany_len ..) ?_;have:=c (rN2 (rN1 (rN1 (s.drop 2)).2).2).2;simp;omega
 ·unfold parM;dsimp only;refine YAX (rMany_len ..) ?_;have:=c (rMany rEt (rN1 (rN2 (rN1 (rN1 (List.drop 2 s)).2).2).2).1.toNat (rN1 (rN2 (rN1 (rN1 (List.drop 2 s)).2).2).2).2 []).2;simp;omega
 ·unfold parM;dsimp only;refine YAX (rMany_len ..) ?_;simp only [YAN,Nat.zero_add];exact YAX (c _) (by decide)
theorem ZC7.s {s:By} {h:Heap} {K:MsK.Ty→Int→Heap→Prop} (hz:s.length≤9223372036854775807)
 (hK:∀v er evs h',Keep [] h h'→ResM h.size h' v evs er (getM s)→K v er h'):ZC7.C (bx s) h K:=by
 apply ZC7.c;unfold ZC7.m;refine new_gen fun b1 h1 hb1 k1 e1 hs1 =>?_;have e1:h1[b1]? = some (vobj t_api_Msg MsK ((0,(0,(0,(⟨none,0,0⟩,(⟨none,0,0⟩,(⟨none,0,0⟩,())))))):MsK.Ty)):=e1;have z1:=k1.1;rw[bx_size];by_cases hl:s.length<2∨s.length>65536
 ·refine jn_at (true,()) h1 ?_ ?_
  ·by_cases h2:s.length<2
   ·rw[if_pos (dT (by omega))];exact ⟨rfl,rfl⟩
   ·rw[if_neg (by simp;omega)];exact ⟨by simp;omega,rfl⟩
  rw[if_pos (by rfl)];refine st_to e1 fun h2 k2 e2 hs2=>ld_go (sm_all e2) ?_;refine hK _ 2200 [] h2 (k1.new k2 (by simp;omega)) ?_;have:getM s=none:=by unfold getM;rw[if_neg (fun hh=>by omega)]
  rw[this];exact show (2200:Int)≠0 by decide
 refine jn_at (false,()) h1 ?_ ?_
 ·rw[if_neg (by simp;omega)];exact ⟨by simp;omega,rfl⟩
 rw[if_neg (by simp)];refine ⟨by decide,by omega,by rw[bx_size];omega,?_⟩;rw[bx_ext,YAU,YAQ (YAW _),show (2:Int).toNat=2 from rfl];refine ZCg.s fun h3 k3 i3 =>?_;rw[bx_dl] at i3;have l3:=lt_of_some i3.o;generalize hr:h1.size=r at *;refine new_st_gen fun b2 h5 hb2 k5 e5 hs5 =>?_;have e5:h5[b2]? = some (vobj t_p_wire_Reader .p (some ⟨r,0⟩)):=e5;refine new_gen fun b3 h6 hb3 k6 e6 hs6 =>?_;have e6:h6[b3]? = some (vobj t_api_Msg MsK ((0,(0,(0,(⟨none,0,0⟩,(⟨none,0,0⟩,(⟨none,0,0⟩,())))))):MsK.Ty)):=e6;have i6:=(i3.keep k5 (by simp)).keep k6 (by simp);have z3:=k3.1;have z5:=k5.1
 have n12:b1≠r∧b2≠r∧b3≠r∧b2≠b3∧b1≠b3∧b1≠b2:=by
  have:=lt_of_some e1;omega
 obtain ⟨n1,n2,n3,n4,n5,n6⟩:=n12;have k06:Keep [] h h6:=((k1.n k3).n k5).n k6;have nw:h.size≤b1∧h.size≤r∧h.size≤b2∧h.size≤b3:=by omega
 obtain ⟨w1,wr,w2,w3⟩:=nw;have E1:=(k3.n (k5.n k6)).g e1;have E2:=k6.g e5;have kr:∀ {x y:Heap},Keep [] h x→Keep [r] x y→Keep [] h y:=fun a b=>a.new b (by simpa using wr);have kb:∀ {x y:Heap},Keep [] h x→Keep [b3] x y→Keep [] h y:=fun a b=>a.new b (by simpa using w3);refine ld_go (sm_all E2) (num1' i6 fun _ h7 k7 i7 =>?_);refine mst0 (k7.get e6 (by simpa using n3)) fun h8 k8 e8 hs8 =>?_;have i8:=i7.keep k8 (by simpa using n3.symm);have E2:=k8.get (k7.get E2 (by simpa using n2)) (by simpa using n4);have E1:=k8.get (k7.get E1 (by simpa using n1)) (by simpa using n5);have k08:=kb (kr k06 k7) k8;refine ld_go (sm_all E2) (num1' i8 fun _ h9 k9 i9 =>?_);refine mst1 (k9.get e8 (by simpa using n3)) fun h10 k10 e10 hs10 =>?_;have i10:=i9.keep k10 (by simpa using n3.symm);have E2:=k10.get (k9.get E2 (by simpa using n2)) (by simpa using n4);have E1:=k10.get (k9.get E1 (by simpa using n1)) (by simpa using n5);have k010:=kb (kr k08 k9) k10;refine ld_go (sm_all E2) (num2' i10 fun _ h11 k11 i11 =>?_);refine mst2 (k11.get e10 (by simpa using n3)) fun h12 k12 e12 hs12 =>?_;have i12:=i11.keep k12 (by simpa using n3.symm);have E2:=k12.get (k11.get E2 (by simpa using n2)) (by simpa using n4);have E1:=k12.get (k11.get E1 (by simpa using n1)) (by simpa using n5);have k012:=kb (kr k010 k11) k12;refine ld_go (sm_all E2) ?_;apply ZBf.c;unfold ZBf.m;refine num1' i12 fun _ h13 k13 i13 =>?_;have k013:=kr k012 k13;have E2:=k13.get E2 (by simpa using n2);have E1:=k13.get E1 (by simpa using n1);have c13:=rN1_lt (l:=(rN2 (rN1 (rN1 (s.drop 2)).2).2).2);rw[show (rN1 (rN2 (rN1 (rN1 (s.drop 2)).2).2).2).1=(((rN1 (rN2 (rN1 (rN1 (s.drop 2)).2).2).2).1.toNat:Nat):Int) by omega];refine many_entry i13 E2 n2 (by omega) fun se _ evs h14 k14 i14 re oe xe =>?_;have k014:=kr k013 k14;have e14:=k14.get (k13.get e12 (by simpa using n3)) (by simpa using n3);have E2:=k14.get E2 (by simpa using n2);have E1:=k14.get E1 (by simpa using n1);refine mst3 e14 fun h15 k15 e15 hs15 =>?_;have k015:=kb k014 k15;have i15:=i14.keep k15 (by simpa using n3.symm);have E2:=k15.get E2 (by simpa using n4);have E1:=k15.get E1 (by simpa using n5);have z13:=k013.1;have oe:∀q∈own se,h.size≤q:=fun q hq=>YAX z13 (oe q hq);have xe:All2 (fun v e=>EtR h14 v e∧∀q∈etO v,h.size≤q) evs _:=xe.mono fun v e x=>⟨x.1,fun q hq=>YAX z13 (x.2 q hq)⟩
 have tm:∀ {x:Heap} {w:MsK.Ty},x[b3]? = some (vobj t_api_Msg MsK w)→∀q∈[b3],∀T,T≠t_api_Msg→∀c f,x[q]? ≠ some (.cells c T f):=fun ex q hq T hT=>by
  simp at hq;subst hq;exact cell_ne (o := .cells #[] 0 (0,0)) ex hT
 have tr:∀ {x:Heap} {rest:By},IsRd x r rest→∀q∈[r],∀T,T≠t_wire_Reader→∀c f,x[q]? ≠ some (.cells c T f):=fun ix q hq T hT=>by
  simp at hq;subst hq;exact cell_ne (o := .cells #[] 0 (0,0)) ix.o hT
 have stepE:∀ {x y:Heap} {S:List Nat} {L:List Ett},Keep S x y→(∀q∈S,∀T,T=t_api_Entry∨T=t_int∨T=t_api_Hash∨T=t_string→∀c f,x[q]? ≠ some (.cells c T f))→Row x t_api_Entry EtK se evs∧All2 (fun v e=>EtR x v e∧∀q∈etO v,h.size≤q) evs L→Row y t_api_Entry EtK se evs∧All2 (fun v e=>EtR y v e∧∀q∈etO v,h.size≤q) evs L:=fun kk hS a=>
  ⟨row_keepC (n0:=0) a.1 kk (fun _ _=>YAZ _) fun q hq => .inr (.inr (hS q hq _ (by simp))),a.2.mono fun v e x=>⟨x.1.keepS kk fun q hq T hT=>hS q hq T (by rcases hT with rfl | rfl <;> simp),x.2⟩⟩
 have P:=stepE k15 (fun q hq T hT=>tm e14 q hq T (by rcases hT with rfl | rfl | rfl | rfl <;> decide)) ⟨re,xe⟩;refine ld_go (sm_all E2) (ld_go (sm_all E2) ?_);apply ZBm.c;unfold ZBm.m;dsimp only;generalize hM:rMany rEt (rN1 (rN2 (rN1 (rN1 (s.drop 2)).2).2).2).1.toNat (rN1 (rN2 (rN1 (rN1 (s.drop 2)).2).2).2).2 []=M at *;refine num1' i15 fun _ h16 k16 i16 =>?_;have k016:=kr k015 k16;have E2:=k16.get E2 (by simpa using n2);have E1:=k16.get E1 (by simpa using n1);have P:=stepE k16 (fun q hq T hT=>tr i15 q hq T (by rcases hT with rfl | rfl | rfl | rfl <;> decide)) P;have c16:=rN1_lt (l:=M.2);rw[show (rN1 M.2).1=(((rN1 M.2).1.toNat:Nat):Int) by omega];refine many_hash i16 (by omega) fun sw _ h17 k17 i17 rw_ ow =>?_;have k017:=kr k016 k17;have e17:=k17.get (k16.get e15 (by simpa using n3)) (by simpa using n3);have E2:=k17.get E2 (by simpa using n2);have E1:=k17.get E1 (by simpa using n1);have P:=stepE k17 (fun q hq T hT=>tr i16 q hq T (by rcases hT with rfl | rfl | rfl | rfl <;> decide)) P;refine mst4 e17 fun h18 k18 e18 hs18 =>?_;have k018:=kb k017 k18;have i18:=i17.keep k18 (by simpa using n3.symm);have E2:=k18.get E2 (by simpa using n4);have E1:=k18.get E1 (by simpa using n5);have P:=stepE k18 (fun q hq T hT=>tm e17 q hq T (by rcases hT with rfl | rfl | rfl | rfl <;> decide)) P;have rw_:=row_keepC (n0:=0) rw_ k18 (fun _ _=>YAZ _) fun q hq => .inr (.inr (tm e17 q hq _ (by decide)));have z16:=k016.1;have ow:∀q∈own sw,h.size≤q:=fun q hq=>YAX z16 (ow q hq);refine ld_go (sm_all E2) ?_;apply ZCK.c;unfold ZCK.m;dsimp only;generalize hN:rMany rHs (rN1 M.2).1.toNat (rN1 M.2).2 []=N at *;refine num1' i18 fun _ h19 k19 i19 =>?_;have k019:=kr k018 k19;have E2:=k19.get E2 (by simpa using n2);have E1:=k19.get E1 (by simpa using n1);have P:=stepE k19 (fun q hq T hT=>tr i18 q hq T (by rcases hT with rfl | rfl | rfl | rfl <;> decide)) P;have rw_:=row_keepC (n0:=0) rw_ k19 (fun _ _=>YAZ _) fun q hq => .inr (.inr (tr i18 q hq _ (by decide)));have c19:=rN1_lt (l:=N.2);rw[show (rN1 N.2).1=(((rN1 N.2).1.toNat:Nat):Int) by omega];refine many_text i19 E2 n2 (by omega) fun so _ h20 k20 i20 ro oo =>?_;have k020:=kr k019 k20;have e20:=k20.get (k19.get e18 (by simpa using n3)) (by simpa using n3);have E1:=k20.get E1 (by simpa using n1);have P:=stepE k20 (fun q hq T hT=>tr i19 q hq T (by rcases hT with rfl | rfl | rfl | rfl <;> decide)) P;have rw_:=row_keepC (n0:=0) rw_ k20 (fun _ _=>YAZ _) fun q hq => .inr (.inr (tr i19 q hq _ (by decide)));refine mst5 e20 fun h21 k21 e21 hs21 =>?_;have k021:=kb k020 k21;have E1:=k21.get E1 (by simpa using n5);have P:=stepE k21 (fun q hq T hT=>tm e20 q hq T (by rcases hT with rfl | rfl | rfl | rfl <;> decide)) P;have rw_:=row_keepC (n0:=0) rw_ k21 (fun _ _=>YAZ _) fun q hq => .inr (.inr (tm e20 q hq _ (by decide)));have ro:=row_keepC (n0:=0) ro k21 (fun _ _=>YAZ _) fun q hq => .inr (.inr (tm e20 q hq _ (by decide)));have z19:=k019.1;have oo:∀q∈own so,h.size≤q:=fun q hq=>YAX z19 (oo q hq);refine ld_go (sm_all e21) ?_
 have hpar:parM s=⟨(rN1 (s.drop 2)).1,(rN1 (rN1 (s.drop 2)).2).1,(rN2 (rN1 (rN1 (s.drop 2)).2).2).1,M.1,N.1,(rMany rTxt (rN1 N.2).1.toNat (rN1 N.2).2 []).1⟩:=by
  unfold parM;dsimp only;rw[hM,hN]
 have mr:MsR h.size h21 (((rN1 (s.drop 2)).1,((rN1 (rN1 (s.drop 2)).2).1,((rN2 (rN1 (rN1 (s.drop 2)).2).2).1,(se,(sw,(so,())))))):MsK.Ty) evs (parM s):=by
  rw[hpar];exact ⟨rfl,rfl,rfl,P.1,oe,P.2,rw_,ow,ro,oo⟩
 refine ZB5.s mr.at (parM_b s) fun h22 k22 =>?_;have k022:=k021.n k22;have E1:=k22.g E1;have e22:=k22.g e21;have mr:=mr.keep0 k22;by_cases hg:putM (parM s)=true∧bytesM (parM s)=s
 ·have hget:getM s=some (parM s):=by unfold getM;rw[if_pos ⟨by omega,by omega,hg.1,hg.2⟩]
  refine jn_at (false,()) h22 ?_ ?_
  ·rw[hg.1,if_pos rfl,if_pos rfl,if_neg (by decide),hg.2];exact ⟨by simp,rfl⟩
  rw[if_neg (by simp)];refine ld_go (sm_all e22) ?_;refine st_to E1 fun h24 k24 e24 hs24=>ld_go (sm_all e24) ?_;refine hK _ 0 evs h24 (k022.new k24 (by simpa using w1)) ?_;rw[hget];refine ⟨rfl,mr.keep k24 fun q hq => .inr fun T hT =>?_⟩;simp at hq;subst hq;exact cell_ne (o := .cells #[] 0 (0,0)) E1 (by rcases hT with rfl | rfl | rfl | rfl <;> decide)
 ·have hget:getM s=none:=by unfold getM;rw[if_neg fun hh=>hg hh.2.2]
  refine jn_at (true,()) h22 ?_ ?_
  ·by_cases hp:putM (parM s)=true
   ·rw[hp,if_pos rfl,if_pos rfl,if_neg (by decide)];have:¬bx (bytesM (parM s))=bx s:=fun hh=>hg ⟨hp,bx_inj3.1 hh⟩;exact ⟨by simp[this],rfl⟩
   ·rw[if_neg hp,if_neg hp,if_pos (by decide)];exact ⟨rfl,rfl⟩
  rw[if_pos (by rfl)];refine st_to E1 fun h24 k24 e24 hs24=>ld_go (sm_all e24) ?_;refine hK _ 2200 [] h24 (k022.new k24 (by simpa using w1)) ?_;rw[hget];exact show (2200:Int)≠0 by decide
section
variable {r:Nat} {l:By} {h:Heap}
theorem dnum1 {K:Int→Int→Heap→Prop} (i:IsRr h r l) (hK:∀er h',Keep [r] h h'→IsRr h' r (rN1 l).2→(er=0↔1≤l.length)→K (rN1 l).1 er h'):ZAI.C (some ⟨r,0⟩) 1 h K:=by
 unfold rN1 at hK;refine ref1_Num.s (n:=1) i (.inl rfl) (fun hl =>?_) (fun hl h' k' i' =>?_)
 ·rw[if_pos hl] at hK;exact hK 300 h Keep.rfl i ⟨fun h=>absurd h (by decide),fun h=>by omega⟩
 ·rw[if_neg (by omega)] at hK;exact hK 0 h' k' i' ⟨fun _=>hl,fun _=>rfl⟩
theorem dnum2 {K:Int→Int→Heap→Prop} (i:IsRr h r l) (hK:∀er h',Keep [r] h h'→IsRr h' r (rN2 l).2→(er=0↔2≤l.length)→K (rN2 l).1 er h'):ZAI.C (some ⟨r,0⟩) 2 h K:=by
 unfold rN2 at hK;refine ref1_Num.s (n:=2) i (.inr (.inl rfl)) (fun hl =>?_) (fun hl h' k' i' =>?_)
 ·rw[if_pos hl] at hK;exact hK 300 h Keep.rfl i ⟨fun h=>absurd h (by decide),fun h=>by omega⟩
 ·rw[if_neg (by omega)] at hK;exact hK 0 h' k' i' ⟨fun _=>hl,fun _=>rfl⟩
theorem dtext {K:ByteArray→Int→Heap→Prop} (i:IsRr h r l) (hK:∀er h',Keep [r] h h'→IsRr h' r (rTxt l).2→(er=0↔(rTxt l).1≠none)→K (bx (byO (rTxt l).1)) er h'):ZA3.C (some ⟨r,0⟩) 2 h K:=by
 unfold rTxt at hK;refine ref1_Text.s (n:=2) i (.inr (.inl rfl)) (fun h' k' i' hx =>?_) (fun hl hc h' k' i' =>?_)
 ·by_cases hl:l.length<2
  ·rw[if_pos hl] at hK;exact hK 300 h' k' i' ⟨fun h=>absurd h (by decide),fun h=>absurd rfl h⟩
  ·rw[if_neg hl,if_pos (hx (by omega))] at hK;exact hK 300 h' k' i' ⟨fun h=>absurd h (by decide),fun h=>absurd rfl h⟩
 ·rw[if_neg (by omega),if_neg (by omega)] at hK;exact hK 0 h' k' i' ⟨fun _=>by simp,fun _=>rfl⟩
theorem dhash {K:Kd.Ty (.ar 32 .u8)→Int→Heap→Prop} (i:IsRr h r l) (hK:∀er h',Keep [r] h h'→IsRr h' r (rHs l).2→(er=0↔(rHs l).1≠none)→K (hvO (rHs l).1) er h'):ZBF.C (some ⟨r,0⟩) h K:=by
 apply ZBF.c;unfold ZBF.m;have i0:=i;obtain ⟨s,a,e0,rfl,ha,hs⟩:=i.ex;refine new_gen fun b1 h1 hb1 k1 e1 hs1=>new_gen fun b2 h2 hb2 k2 e2 hs2 =>?_;have e1:h1[b1]? = some (vobj t_api_Hash HK (Vector.replicate 32 0)):=e1;have e2:h2[b2]? = some (vobj t_api_Hash HK (Vector.replicate 32 0)):=e2;have k02:Keep [] h h2:=k1.n k2;have lr:=lt_of_some e0;have z1:=k1.1;have nr:b1≠r∧b2≠r∧b1≠b2∧h.size≤b1∧h.size≤b2:=by omega
 obtain ⟨n1,n2,n12,w1,w2⟩:=nr;refine ref1_Left.s (i0.keep k02 (by simp)) ?_;unfold rHs at hK;have hsl:s.data.toList.length=s.size:=rfl;by_cases hl:(s.data.toList.drop a).length<32
 ·rw[if_pos hl] at hK;rw[if_pos (dT (by omega))];refine ld_go (sm_all e2) (st_to (k2.g e1) fun h4 k4 e4 hs4=>ld_go (sm_all e4) ?_);exact hK 300 h4 ((k02.new k4 (by simpa using w1)).weak (by simp)) ((i0.keep k02 (by simp)).keep k4 (by simpa using n1.symm)) ⟨fun h=>absurd h (by decide),fun h=>absurd rfl h⟩
 rw[if_neg hl] at hK;rw[if_neg (show ¬decide (((s.data.toList.drop a).length:Int)<32)=true from dn (by omega))];rw[YAL,hsl] at hl;refine ⟨by decide,by decide,by decide,?_⟩;have er2:=k02.g e0;refine nck_go (ld_go (sm_fld (n:=0) (k' := .s) (y:=s) er2 rfl (by decide)) (nck_go (ld_go (sm_fld (n:=1) (k' := .i) (y:=(a:Int)) er2 rfl (by decide)) (nck_go (ld_go (sm_fld (n:=1) (k' := .i) (y:=(a:Int)) er2 rfl (by decide)) ?_)))));have hw:w64 ((a:Int)+32)=((a+32:Nat):Int):=w6 (by omega);rw[hw];refine ⟨by omega,by omega,by omega,?_⟩
 have hx:s.extract ((a:Int)).toNat (((a+32:Nat):Int)).toNat=bx ((s.data.toList.drop a).take 32):=by
  have:s.extract ((a:Int)).toNat (((a+32:Nat):Int)).toNat=(bx s.data.toList).extract ((a:Int)).toNat (((a+32:Nat):Int)).toNat:=by rw[bx_list]
  rw[this,bx_ext];simp only [YAU];rw[List.drop_take,Nat.add_sub_cancel_left]
 rw[hx];generalize hg:(s.data.toList.drop a).take 32=L at *;have lL:L.length=32:=by rw[←hg,YAO,YAL,hsl];omega
 show cp ⟨some ⟨b2,0⟩,32,32⟩ (min (bx L).size 32) (((bx L).data.toList.take (min (bx L).size 32)).flatMap Kd.u8.cells) h2 _;rw[bx_size,bx_dl,lL];refine cp_row (k := .u8) (i:=0) (ys:=L) (xs:=(Vector.replicate 32 (0:UInt8)).toList) (e:=e2) rfl (by simp) (by show List.flatMap _ (L.take 32)=_;rw[YAQ (by omega)]) (by simp[lL]) ?_
 have hrow:((Vector.replicate 32 (0:UInt8)).toList.take 0++L++(Vector.replicate 32 (0:UInt8)).toList.drop (0+L.length))=(hv L).toList:=by
  rw[hv_list lL,YAB (by rw[lL];simp)];simp
 rw[hrow];have k5:Keep [b2] h2 (h2.setIfInBounds b2 (robj t_api_Hash .u8 (hv L).toList)):=keep_set;have e5:(h2.setIfInBounds b2 (robj t_api_Hash .u8 (hv L).toList))[b2]? = some (vobj t_api_Hash HK (hv L)):=get_set e2;show nck _ _;generalize h2.setIfInBounds b2 (robj t_api_Hash .u8 (hv L).toList)=h5 at k5 e5 ⊢;have er5:=k5.get er2 (by simpa using n2.symm);refine nck_go (ld_go (sm_fld (n:=1) (k' := .i) (y:=(a:Int)) er5 rfl (by decide)) (nck_go ?_));rw[hw];refine st_fld (k:=RRK) (k' := .i) (n:=1) (x':=((s,(((a+32:Nat):Int),())):RRK.Ty)) er5 (by decide) rfl ?_;have k6:Keep [r] h5 (h5.setIfInBounds r (vobj t_almonryref1_Reader RRK ((s,(((a+32:Nat):Int),())):RRK.Ty))):=keep_set;have er6:=get_set (o':=vobj t_almonryref1_Reader RRK ((s,(((a+32:Nat):Int),())):RRK.Ty)) er5;generalize h5.setIfInBounds r (vobj t_almonryref1_Reader RRK ((s,(((a+32:Nat):Int),())):RRK.Ty))=h6 at k6 er6 ⊢;refine ld_go (sm_all (k6.get e5 (by simpa using n2))) ?_;refine st_to (k6.get (k5.get (k2.g e1) (by simpa using n12)) (by simpa using n1)) fun h7 k7 e7 hs7=>ld_go (sm_all e7) ?_;have k05:Keep [] h h5:=k02.new k5 (by simpa using w2);refine hK 0 h7 ((k05.then k6 (by simp) (fun q hq _=>hq)).then k7 (fun q hq _=>hq) (fun q hq hl=>by simp at hq;omega)) ⟨s,a+32,k7.get er6 (by simpa using n1.symm),by rw[List.drop_drop],by omega,hs⟩ ⟨fun _=>by simp,fun _=>rfl⟩
end
theorem rWd_eq {l:By}:(rWd l).1=(if 2≤l.length then some (rN2 l).1 else none)∧(rWd l).2=(rN2 l).2:=by
 unfold rWd rN2;by_cases h:l.length<2
 ·rw[if_pos h,if_pos h,if_neg (by omega)];exact ⟨rfl,rfl⟩
 ·rw[if_neg h,if_neg h,if_pos (by omega)];exact ⟨rfl,rfl⟩
theorem rStr_z {α : Type} {f:By→Option α × By} {l:By} {acc:List α}:rStr f 0 l acc=some (acc,l):=rfl
theorem rStr_s {α : Type} {f:By→Option α × By} {n:Nat} {l:By} {acc:List α}:rStr f (n+1) l acc=match (f l).1 with | none=>none | some x=>rStr f n (f l).2 (acc++[x]):=rfl
structure GI (h hh:Heap) (b1 b2 b3:Nat) (v:EtK.Ty) (vec:List Int) (tabs:List HVec) (rest:By):Prop where
 k:Keep [] h hh
 e1:hh[b1]? = some (vobj t_api_Entry EtK et0)
 r:IsRr hh b2 rest
 e3:hh[b3]? = some (vobj t_api_Entry EtK v)
 w:Row hh t_int .i v.2.2.1 vec
 ow:∀q∈own v.2.2.1,h.size≤q
 t:Row hh t_api_Hash HK v.2.2.2.2.1 tabs
 ot:∀q∈own v.2.2.2.2.1,h.size≤q
 n1:h.size≤b1
 n2:h.size≤b2
 n3:h.size≤b3
 n13:b1≠b3
section
variable {h hh h':Heap} {b1 b2 b3:Nat} {v:EtK.Ty} {vec:List Int} {tabs:List HVec} {rest:By}
theorem IsRr.o {h:Heap} {r:Nat} {l:List UInt8} (i:IsRr h r l):∃x,h[r]? = some (vobj t_almonryref1_Reader RRK x):=by
 obtain ⟨s,a,e,_⟩:=i.ex;exact ⟨_,e⟩
theorem GI.keep0 (g:GI h hh b1 b2 b3 v vec tabs rest) (k:Keep [] hh h'):GI h h' b1 b2 b3 v vec tabs rest:=
 ⟨g.k.n k,k.g g.e1,g.r.keep k (by simp),k.g g.e3,g.w.keep k (by simp),g.ow,g.t.keep k (by simp),g.ot,g.n1,g.n2,g.n3,g.n13⟩
theorem GI.rd {rest':By} (g:GI h hh b1 b2 b3 v vec tabs rest) (k:Keep [b2] hh h') (i:IsRr h' b2 rest'):GI h h' b1 b2 b3 v vec tabs rest':=by
 obtain ⟨x,ex⟩:=g.r.o;have a1:b1≠b2:=vobjN g.e1 ex (by decide);have a3:b3≠b2:=vobjN g.e3 ex (by decide);exact ⟨g.k.new k (by simpa using g.n2),k.get g.e1 (by simpa using a1),i,k.get g.e3 (by simpa using a3),g.w.keep k (fun q hq hm=>by simp at hm;subst hm;exact rowT g.w ex (by decide) hq),g.ow,g.t.keep k (fun q hq hm=>by simp at hm;subst hm;exact rowT g.t ex (by decide) hq),g.ot,g.n1,g.n2,g.n3,g.n13⟩
theorem GI.st {v':EtK.Ty} (g:GI h hh b1 b2 b3 v vec tabs rest) (k:Keep [b3] hh h') (e:h'[b3]? = some (vobj t_api_Entry EtK v')) (h1:v'.2.2.1=v.2.2.1) (h2:v'.2.2.2.2.1=v.2.2.2.2.1):GI h h' b1 b2 b3 v' vec tabs rest:=by
 obtain ⟨x,ex⟩:=g.r.o;have a3:b2≠b3:=vobjN ex g.e3 (by decide);refine ⟨g.k.new k (by simpa using g.n3),k.get g.e1 (by simpa using g.n13),g.r.keep k (by simpa using a3),e,?_,by rw[h1];exact g.ow,?_,by rw[h2];exact g.ot,g.n1,g.n2,g.n3,g.n13⟩
 ·rw[h1];exact g.w.keep k (fun q hq hm=>by simp at hm;subst hm;exact rowT g.w g.e3 (by decide) hq)
 ·rw[h2];exact g.t.keep k (fun q hq hm=>by simp at hm;subst hm;exact rowT g.t g.e3 (by decide) hq)
theorem GI.addV {x:Int} {K:Heap→Prop} (g:GI h hh b1 b2 b3 v vec tabs rest) (hl:vec.length≤100000) (hK:∀h' v',GI h h' b1 b2 b3 v' (vec++[x]) tabs rest→v'.1=v.1→v'.2.1=v.2.1→v'.2.2.2.1=v.2.2.2.1→v'.2.2.2.2.2.1=v.2.2.2.2.2.1→K h') :
 bs t_int .i [x] hh fun s2 h14=>slCells s2 (s2.len*1) h14 fun cs=>ap t_int .i 8 v.2.2.1 s2.len cs h14 fun s3 h15=>Go.Al.st .sl ((Pl.mk b3 0).fld 2) s3 h15 K:=by
 obtain ⟨y,ex⟩:=g.r.o;refine app2 (by_:=8) g.w rfl (by omega) fun s3 h3 k3 r3 o3 =>?_;have nb:∀ {b:Nat} {T:Nat} {k:Kd} {z:k.Ty},hh[b]? = some (vobj T k z)→T≠t_int→b∉own v.2.2.1:=fun e hT=>rowT g.w e hT;have e3:=k3.get g.e3 (nb g.e3 (by decide));have a3:b2≠b3:=vobjN ex g.e3 (by decide);refine est2 e3 fun h4 k4 e4 hs4 =>?_;have z:=g.k.1;have k0:Keep [] h h4:=(g.k.new k3 g.ow).new k4 (by simpa using g.n3);refine hK h4 _ ⟨k0,k4.get (k3.get g.e1 (nb g.e1 (by decide))) (by simpa using g.n13),(g.r.keep k3 (nb ex (by decide))).keep k4 (by simpa using a3),e4,r3.keep k4 (fun q hq hm=>by simp at hm;subst hm;exact rowT r3 e3 (by decide) hq),fun q hq =>?_,?_,g.ot,g.n1,g.n2,g.n3,g.n13⟩ rfl rfl rfl rfl
 ·rcases o3 q hq with h | h
  ·exact g.ow q h
  ·omega
 ·have t3:=g.t.keep k3 (tagU g.t g.w (by decide));exact t3.keep k4 (fun q hq hm=>by simp at hm;subst hm;exact rowT t3 e3 (by decide) hq)
theorem GI.addT {x:HVec} {K:Heap→Prop} (g:GI h hh b1 b2 b3 v vec tabs rest) (hl:tabs.length≤100000) (hK:∀h' v',GI h h' b1 b2 b3 v' vec (tabs++[x]) rest→v'.1=v.1→v'.2.1=v.2.1→v'.2.2.2.1=v.2.2.2.1→v'.2.2.2.2.2.1=v.2.2.2.2.2.1→K h') :
 bs t_api_Hash HK [x] hh fun s2 h14=>slCells s2 (s2.len*32) h14 fun cs=>ap t_api_Hash HK 32 v.2.2.2.2.1 s2.len cs h14 fun s3 h15=>Go.Al.st .sl ((Pl.mk b3 0).fld 35) s3 h15 K:=by
 obtain ⟨y,ex⟩:=g.r.o;refine app2 (by_:=32) g.t rfl (by omega) fun s3 h3 k3 r3 o3 =>?_;have nb:∀ {b:Nat} {T:Nat} {k:Kd} {z:k.Ty},hh[b]? = some (vobj T k z)→T≠t_api_Hash→b∉own v.2.2.2.2.1:=fun e hT=>rowT g.t e hT;have e3:=k3.get g.e3 (nb g.e3 (by decide));have a3:b2≠b3:=vobjN ex g.e3 (by decide);refine est35 e3 fun h4 k4 e4 hs4 =>?_;have z:=g.k.1;have k0:Keep [] h h4:=(g.k.new k3 g.ot).new k4 (by simpa using g.n3);refine hK h4 _ ⟨k0,k4.get (k3.get g.e1 (nb g.e1 (by decide))) (by simpa using g.n13),(g.r.keep k3 (nb ex (by decide))).keep k4 (by simpa using a3),e4,?_,g.ow,r3.keep k4 (fun q hq hm=>by simp at hm;subst hm;exact rowT r3 e3 (by decide) hq),fun q hq =>?_,g.n1,g.n2,g.n3,g.n13⟩ rfl rfl rfl rfl
 ·have w3:=g.w.keep k3 (tagU g.w g.t (by decide));exact w3.keep k4 (fun q hq hm=>by simp at hm;subst hm;exact rowT w3 e3 (by decide) hq)
 ·rcases o3 q hq with h | h
  ·exact g.ot q h
  ·omega
theorem GI.bad {K:EtK.Ty→Int→Heap→Prop} (g:GI h hh b1 b2 b3 v vec tabs rest) (hK:∀h',Keep [] h h'→K et0 1900 h'):Go.Al.st EtK (Pl.mk b1 0) et0 hh fun h3=>ld EtK (Pl.mk b1 0) h3 fun x=>K x 1900 h3:=
 st_to g.e1 fun h3 k3 e3 hs3=>ld_go (sm_all e3) (hK h3 (g.k.new k3 (by simpa using g.n1)))
end
theorem ZC0.s {s:By} {h:Heap} {K:EtK.Ty→Int→Heap→Prop} (hz:s.length≤9223372036854775807)
 (hK:∀v er h',Keep [] h h'→ResV EtR h' v er (getE s)→(∀q∈etO v,h.size≤q)→K v er h'):ZC0.C (bx s) h K:=by
 rw[←dEt_eq] at hK;apply ZC0.c;unfold ZC0.m;refine new_gen fun b1 h1 hb1 k1 e1 hs1 =>?_;have e1:h1[b1]? = some (vobj t_api_Entry EtK et0):=e1;have hno:dEt s=none→∀h',Keep [] h h'→K et0 1900 h':=fun hd h' k'=>hK et0 1900 h' k' (by rw[hd];exact show (1900:Int)≠0 by decide) (by simp[etO,et0,own]);have w1:h.size≤b1:=by omega
 rw[bx_size];by_cases hb:s.length<6∨s.take 2≠[65,69]
 ·have hd:dEt s=none:=by unfold dEt;rw[if_pos hb]
  refine jn_at (true,()) h1 ?_ ?_
  ·refine itL (fun _=>⟨rfl,rfl⟩) fun hl=>⟨by decide,by omega,by rw[bx_size];omega,?_,rfl⟩;rw[bx_ext];have h2:s.take 2≠[65,69]:=hb.resolve_left (by omega);have:¬bx ((s.take 2).drop 0)=bx [65,69]:=fun e=>h2 (by rw[YAC] at e;exact bx_inj3.1 e);show ((!decide (bx ((s.take 2).drop 0)=bx [65,69])),())=_;rw[dF this];rfl
  ·rw[if_pos (by rfl)];exact st_to e1 fun h3 k3 e3 hs3=>ld_go (sm_all e3) (hno hd h3 (k1.new k3 (by simpa using w1)))
 have hl6:6≤s.length:=by omega
 have h2:s.take 2=[65,69]:=by
  cases Classical.em (s.take 2=[65,69]) with
  | inl h=>exact h
  | inr h=>exact absurd (.inr h) hb
 refine jn_at (false,()) h1 ?_ ?_
 ·refine itL (fun _=>by omega) fun hl=>⟨by decide,by omega,by rw[bx_size];omega,?_,rfl⟩;rw[bx_ext];show ((!decide (bx ((s.take 2).drop 0)=bx [65,69])),())=_;rw[YAC,h2,dT rfl];rfl
 rw[if_neg (by simp)]
 have hdE:dEt s=match rStr rWd (rN1 (rN2 (rN1 (s.drop 2)).2).2).1.toNat (rN1 (rN2 (rN1 (s.drop 2)).2).2).2 [] with
  | none=>none
  | some (v,l)=>dEt2 (rN1 (s.drop 2)).1 (rN2 (rN1 (s.drop 2)).2).1 v l:=by
  unfold dEt;rw[if_neg hb]
  rfl
 refine new_gen fun b2 h3 hb2 k3 e3 hs3=>new_gen fun b3 h5 hb3 k5 e5 hs5 =>?_;have e5:h5[b3]? = some (vobj t_api_Entry EtK et0):=e5;have i3:IsRr h3 b2 (s.drop 2):=⟨bx s,2,e3,by rw[bx_dl],by rw[bx_size];omega,by rw[bx_size];exact hz⟩;have g5:GI h h5 b1 b2 b3 et0 [] [] (s.drop 2):=⟨(k1.n k3).n k5,k5.g (k3.g e1),i3.keep k5 (by simp),e5,.inl ⟨rfl,rfl⟩,by simp[et0,own],.inl ⟨rfl,rfl⟩,by simp[et0,own],w1,by omega,by omega,by omega⟩;generalize s.drop 2=l0 at g5 hdE;refine dnum1 g5.r fun _ h6 k6 i6 _ =>?_;have g6:=g5.rd k6 i6;refine dnum2 g6.r fun _ h7 k7 i7 _ =>?_;have g7:=g6.rd k7 i7;refine dnum1 g7.r fun _ h8 k8 i8 _ =>?_;have g8:=g7.rd k8 i8;have hu:=rN1_lt (l:=l0);have hq:=rN2_lt (l:=(rN1 l0).2);have hn:=rN1_lt (l:=(rN2 (rN1 l0).2).2);generalize (rN1 l0).1=u at *;generalize (rN2 (rN1 l0).2).1=q at *;generalize rN1 (rN2 (rN1 l0).2).2=nl at *;obtain ⟨n,l1⟩:=nl;dsimp only at *;refine est0 g8.e3 fun h9 k9 e9 hs9 =>?_;have g9:=g8.st k9 e9 rfl rfl;refine est1 g9.e3 fun h10 k10 e10 hs10 =>?_;have g10:=g9.st k10 e10 rfl rfl;have hnn:((n.toNat:Nat):Int)=n:=YAV hn.1;generalize n.toNat=N at *;subst hnn;refine lp_go (fun (y:Int×Unit) (hh:Heap)=>∃(t:Nat) (v:EtK.Ty) (vec:List Int) (rest:By),y.1=t∧t≤N∧GI h hh b1 b2 b3 v vec [] rest∧vec.length=t∧v.1=u∧v.2.1=q∧rStr rWd N l1 []=rStr rWd (N-t) rest vec) (fun (y:Int×Unit) _=>N-y.1.toNat) ?_ ?_
 ·exact ⟨0,_,[],l1,rfl,YAZ _,g10,rfl,rfl,rfl,rfl⟩
 rintro ⟨(ii:Int),_⟩ h11 ⟨t,v,vec,rest,et,ht,g11,vl,vu,vq,hr⟩;dsimp only at et ⊢;subst et;by_cases hlt:t<N
 ·rw[if_pos (show decide ((t:Int)<(N:Int))=true from dT (by omega))];have hw:w64 ((t:Int)+1)=((t+1:Nat):Int):=w6 (by omega);rw[hw];refine dnum2 g11.r fun er h12 k12 i12 her =>?_;have g12:=g11.rd k12 i12;have hwd:=rWd_eq (l:=rest);rw[show N-t=(N-t-1)+1 by omega,rStr_s,hwd.1,hwd.2] at hr;by_cases h2:2≤rest.length
  case neg=>
   rw[if_neg h2] at hr;rw[if_pos (by simpa using fun h=>h2 (her.1 h))];exact g12.bad (hno (by rw[hdE,hr]))
  rw[if_pos h2] at hr;rw[if_neg (by simpa using her.2 h2)];refine ld_go (et_f g12.e3).2.2.1 ?_;refine g12.addV (by omega) fun h16 v' g16 a1 a2 a3 a4 =>?_;exact ⟨⟨t+1,v',_,_,rfl,by omega,g16,by simp[vl],by rw[a1,vu],by rw[a2,vq],by rw[hr];rfl⟩,by show N-((t+1:Nat):Int).toNat<N-((t:Nat):Int).toNat;omega⟩
 rw[if_neg (show ¬decide ((t:Int)<(N:Int))=true from dn (by omega))];obtain rfl:t=N:=by omega
 rw[YAY,rStr_z] at hr;rw[hr] at hdE;dsimp only at hdE
 clear hr
 refine dhash g11.r fun er h17 k17 i17 her =>?_;have g17:=g11.rd k17 i17;refine new_st_gen fun b4 h19 hb4 k19 e19 hs19 =>?_;have e19:h19[b4]? = some (vobj t_api_Hash HK (hvO (rHs rest).1)):=e19;have g19:=g17.keep0 k19;have z17:=g17.k.1;refine dnum1 g19.r fun er2 h20 k20 i20 her2 =>?_;have g20:=g19.rd k20 i20;have hm:=rN1_lt (l:=(rHs rest).2);obtain ⟨rx,erx⟩:=g19.r.o;have n42:b4≠b2:=vobjN e19 erx (by decide);have e20:=k20.get e19 (by simpa using n42);unfold dEt2 at hdE
 cases hh:(rHs rest).1 with
 | none =>
   rw[hh] at hdE her;refine jn_at (true,()) h20 ?_ ?_
   ·rw[if_pos (by simpa using fun h=>her.1 h rfl)];exact ⟨rfl,rfl⟩
   ·rw[if_pos (by rfl)];exact g20.bad (hno hdE)
 | some z=>
 rw[hh] at hdE her e20;have her:er=0:=her.2 (by simp);dsimp only at hdE;by_cases hl1:(rHs rest).2.length<1
 ·rw[if_pos hl1] at hdE;refine jn_at (true,()) h20 ?_ ?_
  ·rw[if_neg (by simpa using her)];have:er2≠0:=fun h=>by have:=her2.1 h;omega
   exact ⟨by rw[dF this];rfl,rfl⟩
  ·rw[if_pos (by rfl)];exact g20.bad (hno hdE)
 rw[if_neg hl1] at hdE;refine jn_at (false,()) h20 ?_ ?_
 ·rw[if_neg (by simpa using her)];exact ⟨by rw[dT (her2.2 (by omega))];rfl,rfl⟩
 rw[if_neg (by simp)];generalize rN1 (rHs rest).2=nl at *;obtain ⟨n',l2⟩:=nl;dsimp only at *;refine ld_go (sm_all e20) ?_;refine est3 g20.e3 fun h23 k23 e23 hs23 =>?_;have g23:=g20.st k23 e23 rfl rfl;have hnn:((n'.toNat:Nat):Int)=n':=YAV hm.1;generalize n'.toNat=M at *;subst hnn;refine lp_go (fun (y:Int×Unit) (hh:Heap)=>∃(t:Nat) (v:EtK.Ty) (tabs:List HVec) (rest:By),y.1=t∧t≤M∧GI h hh b1 b2 b3 v vec tabs rest∧tabs.length=t∧v.1=u∧v.2.1=q∧v.2.2.2.1=z∧rStr rHs M l2 []=rStr rHs (M-t) rest tabs) (fun (y:Int×Unit) _=>M-y.1.toNat) ?_ ?_
 ·exact ⟨0,_,[],l2,rfl,YAZ _,g23,rfl,vu,vq,rfl,rfl⟩
 rintro ⟨(ii:Int),_⟩ h24 ⟨t',v4,tabs,rest4,et,ht',g24,tl,vu4,vq4,vz4,hr⟩;dsimp only at et ⊢;subst et;by_cases hlt:t'<M
 ·rw[if_pos (show decide ((t':Int)<(M:Int))=true from dT (by omega))];have hw:w64 ((t':Int)+1)=((t'+1:Nat):Int):=w6 (by omega);rw[hw];refine dhash g24.r fun er4 h25 k25 i25 her4 =>?_;have g25:=g24.rd k25 i25;refine new_st_gen fun b5 h27 hb5 k27 e27 hs27 =>?_;have e27:h27[b5]? = some (vobj t_api_Hash HK (hvO (rHs rest4).1)):=e27;have g27:=g25.keep0 k27;rw[show M-t'=(M-t'-1)+1 by omega,rStr_s] at hr
  cases hx:(rHs rest4).1 with
  | none =>
    rw[hx] at hr her4;rw[if_pos (by simpa using fun h=>her4.1 h rfl)];exact g27.bad (hno (by rw[hdE,hr]))
  | some x =>
    rw[hx] at hr her4 e27;rw[if_neg (by simpa using her4.2 (by simp))];refine ld_go (et_f g27.e3).2.2.2.2.1 (ld_go (sm_all e27) ?_);refine g27.addT (by omega) fun h31 v' g31 a1 a2 a3 a4 =>?_;exact ⟨⟨t'+1,v',_,_,rfl,by omega,g31,by simp[tl],by rw[a1,vu4],by rw[a2,vq4],by rw[a3,vz4],by rw[hr];rfl⟩,by show M-((t'+1:Nat):Int).toNat<M-((t':Nat):Int).toNat;omega⟩
 rw[if_neg (show ¬decide ((t':Int)<(M:Int))=true from dn (by omega))];obtain rfl:t'=M:=by omega
 rw[YAY,rStr_z] at hr;rw[hr] at hdE;dsimp only at hdE;unfold dEt3 at hdE;refine dtext g24.r fun er5 h32 k32 i32 her5 =>?_;have g32:=g24.rd k32 i32;obtain ⟨sx,hsx⟩:∃sx,byO (rTxt rest4).1=sx:=⟨_,rfl⟩;rw[hsx];refine est36 g32.e3 fun h33 k33 e33 hs33 =>?_;have g33:=g32.st k33 e33 rfl rfl;refine ld_go (sm_all e33) ?_;have ea:EtR h33 ((v4.1,(v4.2.1,(v4.2.2.1,(v4.2.2.2.1,(v4.2.2.2.2.1,(bx sx,())))))):EtK.Ty) ⟨u,q,vec,z,tabs,sx⟩:=⟨vu4,vq4,g33.w,vz4,g33.t,rfl⟩;refine ZCd.s ea.at (by show vec.length≤_;omega) fun h34 k34 =>?_;have g34:=g33.keep0 k34
 cases hx:(rTxt rest4).1 with
 | none =>
   rw[hx] at hdE her5;refine jn_at (true,()) h34 ?_ ?_
   ·rw[if_pos (by simpa using fun h=>her5.1 h rfl)];exact ⟨rfl,rfl⟩
   ·rw[if_pos (by rfl)];exact g34.bad (hno hdE)
 | some x=>
 rw[hx] at hdE her5 hsx;have her5:=her5.2 (by simp);have hsx:x=sx:=hsx;subst hsx;dsimp only at hdE;by_cases hp:putMay ⟨u,q,vec,z,tabs,x⟩=true
 case neg=>
  rw[if_neg (fun h=>hp h.1)] at hdE;refine jn_at (true,()) h34 ?_ ?_
  ·rw[if_neg (by simpa using her5),if_neg hp,if_pos (by decide)];exact ⟨rfl,rfl⟩
  ·rw[if_pos (by rfl)];exact g34.bad (hno hdE)
 by_cases he:(rTxt rest4).2=[]
 case neg=>
  rw[if_neg (fun h=>he h.2)] at hdE;refine jn_at (true,()) h34 ?_ ?_
  ·rw[if_neg (by simpa using her5),if_pos hp,if_neg (by simp)];refine ref1_Left.s g34.r ⟨?_,rfl⟩;have:(rTxt rest4).2.length≠0:=fun h=>he (List.length_eq_zero_iff.1 h);rw[dF (by omega)];rfl
  ·rw[if_pos (by rfl)];exact g34.bad (hno hdE)
 rw[if_pos ⟨hp,he⟩] at hdE;refine jn_at (false,()) h34 ?_ ?_
 ·rw[if_neg (by simpa using her5),if_pos hp,if_neg (by simp)];refine ref1_Left.s g34.r ⟨?_,rfl⟩;rw[he];rfl
 rw[if_neg (by simp)];refine ld_go (sm_all (k34.g e33)) ?_;refine st_to g34.e1 fun h38 k38 e38 hs38=>ld_go (sm_all e38) ?_;rw[hdE] at hK;have kf:Keep [] h h38:=g34.k.new k38 (by simpa using g34.n1);have ea34:=ea.keep k34 (by simp);refine hK _ 0 h38 kf ⟨rfl,ea34.keepS k38 fun q hq T hT =>?_⟩ fun q hq =>?_
 ·simp at hq;subst hq;exact cell_ne (o := .cells #[] 0 (0,0)) g34.e1 (by rcases hT with rfl | rfl <;> decide)
 ·rcases List.mem_append.1 hq with h | h
  ·exact g33.ow q h
  ·exact g33.ot q h
abbrev StoK:Kd := .ag (.pr .i (.pr .m .un))
structure StoAt (h:Heap) (st r:Nat) (os:List ByteArray):Prop where
 e:h[st]? = some (vobj t_object_Store StoK ((1024,(some r,())):StoK.Ty))
 m:∃es c,msm HK .s r es c h∧es.length=os.length∧∀k,mfind HK .s k es=known os k
theorem StoAt.keep {h h':Heap} {st r:Nat} {os:List ByteArray} {S:List Nat} (i:StoAt h st r os) (k:Keep S h h') (h1:st∉S) (h2:r∉S):StoAt h' st r os:=by
 obtain ⟨es,c,a,b,d⟩:=i.m;exact ⟨k.get i.e h1,es,c,msm_keep a k h2,b,d⟩
theorem StoAt.keep0 {h h':Heap} {st r:Nat} {os:List ByteArray} (i:StoAt h st r os) (k:Keep [] h h'):StoAt h' st r os:=i.keep k (by simp) (by simp)
theorem mlen_gen {k e:Kd} {r:Nat} {es:List (k.Ty×e.Ty×Nat)} {c:Nat} {h:Heap} {K:Int→Option (Heap→Prop)→Prop} (hm:msm k e r es c h) (hK:∀q,K (es.length:Int) q):mlen (some r) h K:=by
 refine ⟨_,c,hm,?_⟩;simp only [List.size_toArray,YAM];exact hK _
theorem mput_new {k e:Kd} {key:k.Ty} {v:e.Ty} {c:Nat}:∀ {es:List (k.Ty×e.Ty×Nat)},mfind k e key es=none→(mput k e key v c es).length=es.length+1
 | [],_=>rfl
 | y :: r, h => by
   unfold mfind at h;unfold mput;split at h
   ·cases h
   ·rename_i hb
    rw[if_neg hb,YAK,mput_new h,YAK]
theorem ZCj.s {h:Heap} {K:Option Pl→Int→Heap→Prop} (hK:∀h' st r,Keep [] h h'→StoAt h' st r []→h.size≤st→h.size≤r→K (some ⟨st,0⟩) 0 h'):ZCj.C 1024 h K:=by
 apply ZCj.c;unfold ZCj.m;refine jn_at (false,()) h ?_ ?_
 ·rw[if_neg (by decide)];exact ⟨by decide,rfl⟩
 rw[if_neg (by simp)];refine mkm_gen (k:=HK) (e := .s) fun r h1 hr k1 m1 hs1 =>?_;refine new_gen fun b h2 hb k2 e2 hs2 =>?_;exact hK h2 b r (k1.n k2) ⟨e2,[],0,msm_keep m1 k2 (by simp),rfl,fun k=>rfl⟩ (by omega) (by omega)
section
variable {h:Heap} {st r:Nat} {os:List ByteArray}
theorem ZBI.s {z:HVec} {K:ByteArray→Int→Heap→Prop} (i:StoAt h st r os) (hK:∀h',Keep [] h h'→K (bx (foundO os z)) (if (known os z).isSome=true then 0 else 1101) h'):ZBI.C (some ⟨st,0⟩) z h K:=by
 apply ZBI.c;unfold ZBI.m;refine new_gen fun b1 h1 hb1 k1 e1 hs1 =>?_;have e1:h1[b1]? = some (vobj t_api_Hash HK z):=e1;have i1:=i.keep0 k1;obtain ⟨es,c,m1,ml,mk⟩:=i1.m;rw[if_neg (by simp)];refine nck_go (ld_go (sm_fld i1.e rfl (by decide)) (ld_go (sm_all e1) (lk_gen m1 ?_)));have:=hK h1 k1;unfold foundO at this;rw[mk z]
 cases hk:known os z with
 | none=>rw[hk] at this;rw[if_pos (by rfl)];exact this
 | some d =>
   rw[hk] at this;rw[if_neg (by simp)];dsimp only at this;rw[bx_list] at this;exact this
theorem ZBC.s {d:ByteArray} {K:Kd.Ty (.ar 32 .u8)→Int→Heap→Prop} (i:StoAt h st r os) (hK:∀z e h',Keep [r] h h'→StoAt h' st r (putO os d)→K z e h'):ZBC.C (some ⟨st,0⟩) d h K:=by
 apply ZBC.c;unfold ZBC.m;unfold putO at hK;refine new_gen fun b1 h1 hb1 k1 e1 hs1 =>?_;have i1:=i.keep0 k1
 have hnr:∀ {x:Heap} {q:Nat} {T:Nat} {cs:Array Value} {f:Nat×Nat} {os':List ByteArray},StoAt x st r os'→x[q]? = some (.cells cs T f)→r≠q:=fun i e=>by
  obtain ⟨es,c,m1,ml,mk⟩:=i.m;exact msm_ne m1 e
 rw[if_neg (by simp)];by_cases hz:4096<d.size
 ·rw[if_pos hz] at hK;rw[if_pos (dT (by omega))];refine st_to e1 fun h2 k2 e2 hs2=>ld_go (sm_all e2) ?_;have kk:Keep [] h h2:=k1.new k2 (by simp;omega);exact hK _ _ h2 (kk.weak (by simp)) (i.keep0 kk)
 rw[if_neg hz] at hK;rw[if_neg (by simp;omega)];refine ZAR.s (by omega) fun h2 k2 =>?_;obtain ⟨u,hu⟩:∃u,hashS d=u:=⟨_,rfl⟩;unfold heldO at hK;rw[hu] at hK ⊢;refine new_st_gen fun b2 h3 hb2 k3 e3 hs3 =>?_;have e3:h3[b2]? = some (vobj t_api_Hash HK u):=e3;have k03:Keep [] h h3:=(k1.n k2).n k3;have i3:=i.keep0 k03;have E1:=(k2.n k3).g e1;have z1:=k2.1;have l1:=lt_of_some e1;have l3:=lt_of_some i.e;obtain ⟨es,c,m3,ml,mk⟩:=i3.m;refine nck_go (ld_go (sm_fld i3.e rfl (by decide)) (ld_go (sm_all e3) (lk_gen m3 ?_)));rw[mk u]
 have fin:∀(os':List ByteArray) (x:Heap),Keep [r] h x→StoAt x st r os'→x[b1]? = some (vobj t_api_Hash HK (Vector.replicate 32 0))→x[b2]? = some (vobj t_api_Hash HK u)→(∀z e h',Keep [r] h h'→StoAt h' st r os'→K z e h')→ld HK (Pl.mk b2 0) x fun x12=>Go.Al.st HK (Pl.mk b1 0) x12 x fun h10=>ld HK (Pl.mk b1 0) h10 fun x13=>K x13 0 h10:=fun os' x kx ix ex1 ex2 hk=>by
  refine ld_go (sm_all ex2) ?_;refine st_to ex1 fun h4 k4 e4 hs4=>ld_go (sm_all e4) ?_;refine hk _ _ h4 (kx.then k4 (fun q hq _=>hq) (fun q hq hl=>by simp at hq;omega)) (ix.keep k4 ?_ ?_)
  ·simp;omega
  ·have:=hnr ix ex1;simpa using this
 cases hk:known os u with
 | some y =>
   rw[hk] at hK;refine jn_at () h3 ?_ ?_
   ·rw[if_neg (by simp)];exact ⟨rfl,rfl⟩
   ·exact fin os h3 (k03.weak (by simp)) i3 E1 e3 hK
 | none =>
   rw[hk,if_neg (by simp)] at hK;by_cases hm:1024≤os.length
   ·rw[if_pos hm] at hK;refine ⟨fun _ _=>False,?_,fun _ _ h=>h.elim⟩;dsimp only;rw[if_pos (by rfl)];refine nck_go (ld_go (sm_fld i3.e rfl (by decide)) (mlen_gen m3 fun q=>nck_go (ld_go (sm_fld i3.e rfl (by decide)) ?_)));rw[ml,if_pos (by simp;omega)];refine st_to E1 fun h4 k4 e4 hs4=>ld_go (sm_all e4) ?_;have kk:Keep [] h h4:=k03.new k4 (by simp;omega);exact hK _ _ h4 (kk.weak (by simp)) (i.keep0 kk)
   ·rw[if_neg hm] at hK;refine jn_in (fun _ x=>Keep [r] h x∧StoAt x st r (os++[d])∧x[b1]? = some (vobj t_api_Hash HK (Vector.replicate 32 0))∧x[b2]? = some (vobj t_api_Hash HK u)) ?_ ?_
    ·rw[if_pos (by rfl)];refine nck_go (ld_go (sm_fld i3.e rfl (by decide)) (mlen_gen m3 fun q=>nck_go (ld_go (sm_fld i3.e rfl (by decide)) ?_)));rw[ml,if_neg (by simp;omega)];refine nck_go (ld_go (sm_fld i3.e rfl (by decide)) (ld_go (sm_all e3) (mu_gen m3 fun h4 c4 k4 m4 hs4 =>?_)));have hrs:=hnr i3 i3.e;have n1:=hnr i3 E1;have n2:=hnr i3 e3;refine ⟨k03.then k4 (by simp) (fun q hq _=>hq),⟨k4.get i3.e (by simpa using hrs.symm),_,c4,m4,?_,fun x =>?_⟩,k4.get E1 (by simpa using n1.symm),k4.get e3 (by simpa using n2.symm)⟩
     ·rw[mput_new (by rw[mk u,hk]),YAJ,ml];rfl
     ·rw[mfind_put (k:=HK) rfl,known_snoc (by omega),hu];by_cases hx:HK.beq x u=true
      ·have:=(beq_eq (k:=HK) rfl).1 hx;rw[if_pos hx,this,hk];show _=if u=u then _ else _
       rw[if_pos rfl]
      ·have:¬u=x:=fun e=>hx ((beq_eq (k:=HK) rfl).2 e.symm);rw[if_neg hx,mk x]
       cases known os x with
       | some y'=>rfl
       | none =>
         show _=if u=x then _ else _
         rw[if_neg this]
    ·rintro _ x ⟨kx,ix,ex1,ex2⟩;exact fin _ x kx ix ex1 ex2 hK
end
def MsR.own (v:MsK.Ty):List Nat:=Go.Al.own v.2.2.2.1++Go.Al.own v.2.2.2.2.2.1
theorem MsR.nil {n0:Nat} {h:Heap} {k u f:Int}:MsR n0 h ((k,(u,(f,(⟨none,0,0⟩,(⟨none,0,0⟩,(⟨none,0,0⟩,())))))):MsK.Ty) [] ⟨k,u,f,[],[],[]⟩:=
 ⟨rfl,rfl,rfl,.inl ⟨rfl,rfl⟩,by simp[Go.Al.own],trivial,.inl ⟨rfl,rfl⟩,by simp[Go.Al.own],.inl ⟨rfl,rfl⟩,by simp[Go.Al.own]⟩
theorem ZAj.s {n0 b:Nat} {v:MsK.Ty} {evs:List EtK.Ty} {m:Msg} {x:EtK.Ty} {e:Ett} {h:Heap} {K:Heap→Prop} (eb:h[b]? = some (vobj t_api_Msg MsK v)) (a:MsR n0 h v evs m) (hx:EtR h x e) (ox:∀q∈etO x,n0≤q) (hn:n0≤h.size) (hl:m.ents.length≤100000)
 (hK:∀h' v',Keep (b::MsR.own v) h h'→h'[b]? = some (vobj t_api_Msg MsK v')→MsR n0 h' v' (evs++[x]) { m with ents:=m.ents++[e] }→(∀q∈MsR.own v',q∈MsR.own v∨h.size≤q)→K h'):ZAj.C (some ⟨b,0⟩) x h K:=by
 apply ZAj.c;unfold ZAj.m;refine new_gen fun b1 h1 hb1 k1 e1 hs1 =>?_;have e1:h1[b1]? = some (vobj t_api_Entry EtK x):=e1;have a1:=a.keep0 k1;have eb1:=k1.g eb;refine nck_go (ld_go (ms_f eb1).2.2.2.1 (ld_go (sm_all e1) ?_));have xl:=a.x.len;have lb:=lt_of_some eb;refine app2s (by_:=112) a1.e rfl (by omega) (fun h' k'=>(ms_f (k'.g eb1)).2.2.2.1) fun s2 h3 k3 r3 o3=>nck_go ?_;have nb:b∉Go.Al.own v.2.2.2.1:=rowT a1.e eb1 (by decide);have eb3:=k3.get eb1 nb;have hS:∀ {q:Nat},q∈Go.Al.own v.2.2.2.1→∀ {T:Nat},t_api_Entry≠T→∀c f,h1[q]? ≠ some (.cells c T f):=fun {q} hq {T} hT=>row_tagU a1.e hT _ hq;refine mst3 eb3 fun h4 k4 e4 hs4 =>?_;have kk:Keep (b::Go.Al.own v.2.2.2.1) h1 h4:=k3.then k4 (fun q hq _=>by simp[hq]) (fun q hq _=>by simp at hq;simp[hq])
 have tg:∀ {T:Nat},t_api_Msg≠T→t_api_Entry≠T→∀q∈b::Go.Al.own v.2.2.2.1,∀c f,h1[q]? ≠ some (.cells c T f):=fun h1' h2' q hq=>by
  rcases List.mem_cons.1 hq with rfl | hq
  ·exact cell_ne (o := .cells #[] 0 (0,0)) eb1 (fun h=>h1' h.symm)
  ·exact hS hq h2'
 have kp:∀ {w:EtK.Ty} {y:Ett},EtR h1 w y→EtR h4 w y:=fun r=>r.keepS kk fun q hq T hT=>by rcases hT with rfl | rfl <;> exact tg (by decide) (by decide) q hq
 have nb3:b∉Go.Al.own s2:=rowT r3 eb3 (by decide);have z1:=k1.1
 refine hK h4 _ (k1.then kk (by simp) (fun q hq _=>by
  rcases List.mem_cons.1 hq with h | h
  ·simp[h]
  ·simp[MsR.own,h])) e4 ⟨a.k,a.u,a.f,r3.keep k4 (fun q hq hm=>by simp at hm;subst hm;exact nb3 hq),fun q hq =>?_,?_,?_,a.ow,?_,a.oo⟩ fun q hq =>?_
 ·rcases o3 q hq with h | h
  ·exact a.oe q h
  ·omega
 ·exact All2.app (a1.x.mono fun w y r=>⟨kp r.1,r.2⟩) ⟨⟨kp (hx.keep k1 (by simp)),ox⟩,trivial⟩
 ·exact row_keepC (n0:=0) a1.w kk (fun _ _=>YAZ _) fun q hq => .inr (.inr (tg (by decide) (by decide) q hq))
 ·exact row_keepC (n0:=0) a1.o kk (fun _ _=>YAZ _) fun q hq => .inr (.inr (tg (by decide) (by decide) q hq))
 ·rcases List.mem_append.1 hq with h | h
  ·rcases o3 q h with h | h
   ·exact .inl (by simp[MsR.own,h])
   ·right;omega
  ·exact .inl (by simp only [MsR.own,List.mem_append];exact .inr h)
theorem ZAk.s {n0 b:Nat} {v:MsK.Ty} {evs:List EtK.Ty} {m:Msg} {x:By} {h:Heap} {K:Heap→Prop} (eb:h[b]? = some (vobj t_api_Msg MsK v)) (a:MsR n0 h v evs m) (hn:n0≤h.size) (hl:m.objs.length≤100000)
 (hK:∀h' v',Keep (b::MsR.own v) h h'→h'[b]? = some (vobj t_api_Msg MsK v')→MsR n0 h' v' evs { m with objs:=m.objs++[x] }→(∀q∈MsR.own v',q∈MsR.own v∨h.size≤q)→K h'):ZAk.C (some ⟨b,0⟩) (bx x) h K:=by
 apply ZAk.c;unfold ZAk.m;have lb:=lt_of_some eb;refine nck_go (ld_go (ms_f eb).2.2.2.2.2 ?_);refine app2 (by_:=16) a.o rfl (by rw[YAM];omega) fun s2 h3 k3 r3 o3=>nck_go ?_;have nb:b∉Go.Al.own v.2.2.2.2.2.1:=rowT a.o eb (by decide);have eb3:=k3.get eb nb;refine mst5 eb3 fun h4 k4 e4 hs4 =>?_;have kk:Keep (b::Go.Al.own v.2.2.2.2.2.1) h h4:=k3.then k4 (fun q hq _=>by simp[hq]) (fun q hq _=>by simp at hq;simp[hq])
 have tg:∀ {T:Nat},t_api_Msg≠T→t_string≠T→∀q∈b::Go.Al.own v.2.2.2.2.2.1,∀c f,h[q]? ≠ some (.cells c T f):=fun h1' h2' q hq=>by
  rcases List.mem_cons.1 hq with rfl | hq
  ·exact cell_ne (o := .cells #[] 0 (0,0)) eb (fun h=>h1' h.symm)
  ·exact row_tagU a.o h2' _ hq
 have kp:∀ {w:EtK.Ty} {y:Ett},EtR h w y→EtR h4 w y:=fun r=>r.keepS kk fun q hq T hT=>by rcases hT with rfl | rfl <;> exact tg (by decide) (by decide) q hq
 have nb3:b∉Go.Al.own s2:=rowT r3 eb3 (by decide)
 refine hK h4 _ (kk.weak fun q hq _=>by
  rcases List.mem_cons.1 hq with h | h
  ·simp[h]
  ·simp[MsR.own,h]) e4 ⟨a.k,a.u,a.f,?_,a.oe,a.x.mono fun w y r=>⟨kp r.1,r.2⟩,?_,a.ow,?_,fun q hq =>?_⟩ fun q hq =>?_
 ·exact row_keepC (n0:=0) a.e kk (fun _ _=>YAZ _) fun q hq => .inr (.inr (tg (by decide) (by decide) q hq))
 ·exact row_keepC (n0:=0) a.w kk (fun _ _=>YAZ _) fun q hq => .inr (.inr (tg (by decide) (by decide) q hq))
 ·show Row h4 t_string .s s2 ((m.objs++[x]).map bx);rw[YAP];exact r3.keep k4 (fun q hq hm=>by simp at hm;subst hm;exact nb3 hq)
 ·rcases o3 q hq with h | h
  ·exact a.oo q h
  ·omega
 ·rcases List.mem_append.1 hq with h | h
  ·exact .inl (by simp only [MsR.own,List.mem_append];exact .inl h)
  ·rcases o3 q h with h | h
   ·exact .inl (by simp only [MsR.own,List.mem_append];exact .inr h)
   ·right;omega
theorem ZA1.s {v:MsK.Ty} {evs:List EtK.Ty} {m:Msg} {h:Heap} {K:ByteArray→Heap→Prop} (a:MsAt h v evs m) (o:MsB m) (hK:∀h',Keep [] h h'→K (bx (ansM m)) h'):ZA1.C v h K:=by
 apply ZA1.c;unfold ZA1.m;refine new_gen fun b1 h1 hb1 k1 e1 hs1 =>?_;have e1:h1[b1]? = some (vobj t_api_Msg MsK v):=e1;refine ld_go (sm_all e1) ?_;refine ZB5.s (a.keep k1) o fun h2 k2 =>?_;have:=hK h2 (k1.n k2);unfold ansM at this;rw[apply_ite bx] at this;exact this
def ItX {α : Type} (k:Kd) (V:Nat→Heap→k.Ty → α → Prop) (it:Value) (h:Heap) (L:List α):Prop:=
 entV Tryz.prog it∧∀(l:Nat) (H:Heap) (I:Nat→Heap→Prop) (St:Heap→Prop) (K:Heap→Prop),(∀j hh,I j hh→Keep [] h hh∧H.size≤hh.size)→(∀j hh hh',I j hh→Keep [] hh hh'→I j hh') →
  (∀j hh x K',(hj:j<L.length)→I j hh→V H.size hh x L[j]→(∀h',I (j+1) h'→K' true h')→(∀h',St h'→K' false h')→callV Tryz.prog (yv l) [k.val x] .b hh K') →
  I 0 H→(∀h',I L.length h'→K h')→(∀h',St h'→K h')→callV Tryz.prog it [yv l] .un H fun _ h'=>K h'
def EtN (n0:Nat) (h:Heap) (v:EtK.Ty) (e:Ett):Prop:=EtR h v e∧∀q∈etO v,n0≤q
section
variable {n0 c t:Nat} {h:Heap} {mv:MbK.Ty} {ps bs es:Slc} {evs:List EtK.Ty} {C:Cn}
theorem chain_From.s {at_:Nat} {K:Value→Heap→Prop} (i:IsCh n0 h c t mv ps bs es evs C) (o:CnOk C) (hat:at_≤1000000)
 (hK:∀it h',Keep [] h h'→ItX EtK EtN it h' (C.all.drop at_)→K it h'):ZBS.C (some ⟨c,0⟩) (at_:Int) h K:=by
 apply ZBS.c;unfold ZBS.m;refine new_gen fun b1 h1 hb1 k1 e1 hs1=>new_gen fun b2 h2 hb2 k2 e2 hs2 =>?_;have e1:h1[b1]? = some (vobj t_p_chain_Chain .p (some ⟨c,0⟩)):=e1;have e2:h2[b2]? = some (vobj t_int .i (at_:Int)):=e2;have k02:Keep [] h h2:=k1.n k2;refine hK _ h2 k02 ⟨⟨ZAg.n,ZAg.fn,_,_,rfl,by kernel_rfl,by kernel_rfl,by kernel_rfl⟩,fun l H I St K' hk hkk hy h0 hend hst =>?_⟩;refine callV_go (aa:=[yv l,Kd.p.val (some ⟨b2,0⟩),Kd.p.val (some ⟨b1,0⟩)]) (by rfl) ?_;show ZAg.C (yv l) ⟨b2,0⟩ ⟨b1,0⟩ H _;apply ZAg.c;unfold ZAg.m;have z02:=k02.1;have E1:=k2.g e1;refine ld_go (sm_all ((hk _ _ h0).1.g e2)) ?_;have hmx:mx2 (at_:Int) 0=((at_:Nat):Int):=by unfold mx2;split <;> omega
 rw[hmx];have al:=i.al;have xl:=i.x.len;have on:=o.n;refine lp_go (fun (y:Int×Unit) (hh:Heap)=>∃j:Nat,y.1=((at_+j:Nat):Int)∧j≤(C.all.drop at_).length∧I j hh) (fun (y:Int×Unit) _=>2000000-y.1.toNat) ?_ ?_
 ·exact ⟨0,rfl,YAZ _,h0⟩
 rintro ⟨(ii:Int),_⟩ hh ⟨j,ej,hj,ij⟩;dsimp only at ej ⊢;subst ej;obtain ⟨kh,zH⟩:=hk _ _ ij;have k0h:Keep [] h hh:=k02.n kh;have ih:=i.keep0 k0h;refine ld_go (sm_all (kh.g E1)) (nck_go (ld_go ih.fa ?_));rw[YAL] at hj;by_cases hlt:at_+j<C.all.length
 case neg=>
  rw[if_neg (show ¬decide (((at_+j:Nat):Int)<(es.len:Int))=true from dn (by omega))];have:j=(C.all.drop at_).length:=by rw[YAL];omega
  rw[this] at ij;exact hend hh ij
 rw[if_pos (show decide (((at_+j:Nat):Int)<(es.len:Int))=true from dT (by omega))];refine ld_go (sm_all (kh.g E1)) (nck_go (ld_go ih.fa ?_));have hx:=ih.x.getI (i:=at_+j) (by omega) hlt;refine seg_ix ih.a.seg (x:=evs[at_+j]'(by omega)) (by omega) (by rw[YAU];exact YAG (by omega)) rfl ?_;have ha:=o.a _ (YAI (l:=C.all) hlt);obtain ⟨_,_,pv,pt⟩:=put_vec ha.1;refine ZCI.s hx.1.at (by omega) (by omega) fun v' h3 k3 r3 o3 =>?_;have hd:(C.all.drop at_)[j]'(by rw[YAL];omega)=C.all[at_+j]:=by rw[List.getElem_drop]
 have z0h:=k0h.1;refine hy j h3 v' _ (by rw[YAL];omega) (hkk _ _ _ ij k3) ?_ (fun h' i' =>?_) (fun h' s' =>?_)
 ·rw[hd];exact ⟨r3,fun q hq=>by have:=o3 q hq;omega⟩
 ·rw[if_neg (by simp)];have hw:w64 (((at_+j:Nat):Int)+1)=((at_+(j+1):Nat):Int):=w6 (by omega);rw[hw];exact ⟨⟨j+1,rfl,by rw[YAL];omega,i'⟩,by show 2000000-((at_+(j+1):Nat):Int).toNat<2000000-((at_+j:Nat):Int).toNat;omega⟩
 ·rw[if_pos (by rfl)];exact hst h' s'
end
theorem EtN.keepS {n0:Nat} {h h':Heap} {v:EtK.Ty} {e:Ett} {S:List Nat} (a:EtN n0 h v e) (k:Keep S h h') (hS:∀b∈S,∀T,T=t_int∨T=t_api_Hash→∀c f,h[b]? ≠ some (.cells c T f)):EtN n0 h' v e:=⟨a.1.keepS k hS,a.2⟩
theorem rEt_eq {l:By}:(rEt l).1=(match (rTxt l).1 with | none=>none | some s=>getE s)∧(rEt l).2=(rTxt l).2:=by
 unfold rEt
 cases (rTxt l).1 <;> exact ⟨rfl,rfl⟩
theorem ZA4.s {r:Nat} {l:By} {h:Heap} {K:Slc→Bool→Heap→Prop} (i:IsRr h r l)
 (hbad:(l.length<1∨rStr rEt (rN1 l).1.toNat (rN1 l).2 []=none)→∀h' rest,Keep [r] h h'→IsRr h' r rest→K ⟨none,0,0⟩ false h')
 (hok:∀es rest,1≤l.length→rStr rEt (rN1 l).1.toNat (rN1 l).2 []=some (es,rest)→∀h' s evs,Keep [r] h h'→IsRr h' r rest→Row h' t_api_Entry EtK s evs→(∀q∈own s,h.size≤q)→All2 (EtN h.size h') evs es→K s true h'):ZA4.C (some ⟨r,0⟩) h K:=by
 apply ZA4.c;unfold ZA4.m;refine dnum1 i fun er h1 k1 i1 her =>?_;have hn:=rN1_lt (l:=l);have h0:l.length<1→(rN1 l).1=0:=fun h=>by unfold rN1;rw[if_pos h]
 generalize rN1 l=nl at *;obtain ⟨n,l1⟩:=nl;dsimp only at *;have hnn:((n.toNat:Nat):Int)=n:=YAV hn.1;generalize n.toNat=N at *;subst hnn;have h0:l.length<1→N=0:=fun h=>Int.ofNat.inj (h0 h);have z1:=k1.1;refine lp_go (fun (y:Slc×Int×Unit) (hh:Heap)=>∃(t:Nat) (evs:List EtK.Ty) (es:List Ett) (rest:By),y.2.1=t∧t≤N∧(t=0→y.1=⟨none,0,0⟩)∧Keep [r] h hh∧IsRr hh r rest∧Row hh t_api_Entry EtK y.1 evs∧(∀q∈own y.1,h.size≤q)∧All2 (EtN h.size hh) evs es∧es.length=t∧rStr rEt N l1 []=rStr rEt (N-t) rest es) (fun (y:Slc×Int×Unit) _=>N-y.2.1.toNat) ?_ ?_
 ·exact ⟨0,[],[],l1,rfl,YAZ _,fun _=>rfl,k1,i1,.inl ⟨rfl,rfl⟩,by simp[own],trivial,rfl,rfl⟩
 rintro ⟨(s:Slc),(ii:Int),_⟩ h2 ⟨t,evs,es,rest,et,ht,tz,k2,i2,r2,o2,x2,tl,hr⟩;dsimp only at et r2 o2 tz ⊢;subst et;by_cases hlt:t<N
 case neg=>
  rw[if_neg (show ¬decide ((t:Int)<(N:Int))=true from dn (by omega))];obtain rfl:t=N:=by omega
  rw[YAY,rStr_z] at hr;by_cases h1:1≤l.length
  ·rw[dT (her.2 h1)];exact hok es rest h1 hr h2 s evs k2 i2 r2 o2 x2
  ·rw[dF (fun h=>h1 (her.1 h))];have:=h0 (by omega);rw[tz (by omega)];exact hbad (.inl (by omega)) h2 rest k2 i2
 rw[if_pos (show decide ((t:Int)<(N:Int))=true from dT (by omega))];have hw:w64 ((t:Int)+1)=((t+1:Nat):Int):=w6 (by omega);rw[hw];refine ⟨_,?_,fun _ _ h=>h⟩;refine dtext i2 fun er3 h4 k4 i4 her3 =>?_
 have ht2:(byO (rTxt rest).1).length≤65535:=by
  cases hx:(rTxt rest).1 with
  | none=>simp[byO]
  | some x=>exact (rTxt_snd hx).1
 refine ZC0.s (by omega) fun v er5 h5 k5 rv ov =>?_;refine new_st_gen fun b1 h7 hb1 k7 e7 hs7 =>?_;have e7:h7[b1]? = some (vobj t_api_Entry EtK v):=e7;have k27:Keep [r] h2 h7:=(k4.then k5 (fun q hq _=>hq) (by simp)).then k7 (fun q hq _=>hq) (by simp);have k07:Keep [r] h h7:=k2.then k27 (fun q hq _=>hq) (fun q hq _=>hq);have i7:=(i4.keep k5 (by simp)).keep k7 (by simp);rw[show N-t=(N-t-1)+1 by omega,rStr_s] at hr;rw[rEt_eq.1,rEt_eq.2] at hr
 cases hx:(rTxt rest).1 with
 | none =>
   rw[hx] at hr her3;refine jn_at (true,()) h7 ?_ ?_
   ·rw[if_pos (by simpa using fun h=>her3.1 h rfl)];exact ⟨rfl,rfl⟩
   ·rw[if_pos (by rfl)];exact hbad (.inr hr) h7 _ k07 i7
 | some x=>
 rw[hx] at hr her3 rv;have her3:=her3.2 (by simp);dsimp only [byO] at hr rv
 cases hg:getE x with
 | none =>
   rw[hg] at hr rv;have rv:er5≠0:=rv;refine jn_at (true,()) h7 ?_ ?_
   ·rw[if_neg (by simpa using her3)];exact ⟨by rw[dF rv];rfl,rfl⟩
   ·rw[if_pos (by rfl)];exact hbad (.inr hr) h7 _ k07 i7
 | some e=>
 rw[hg] at hr rv;obtain ⟨re,rv⟩:=rv;refine jn_at (false,()) h7 ?_ ?_
 ·rw[if_neg (by simpa using her3)];exact ⟨by rw[dT re];rfl,rfl⟩
 rw[if_neg (by simp)];refine ld_go (sm_all e7) ?_;obtain ⟨rx,erx⟩:=i2.o;have r7:Row h7 t_api_Entry EtK s evs:=r2.keep k27 fun q hq hm=>by simp at hm;subst hm;exact rowT r2 erx (by decide) hq
 have xl:=x2.len;refine app2 (by_:=112) r7 rfl (by omega) fun s2 h10 k10 r10 o10 =>?_;have hS:∀q∈own s,∀T,T=t_int∨T=t_api_Hash→∀c f,h7[q]? ≠ some (.cells c T f):=fun q hq T hT=>row_tagU r7 (by rcases hT with rfl | rfl <;> decide) q hq;obtain ⟨rx7,erx7⟩:=i7.o;have i10:=i7.keep k10 (rowT r7 erx7 (by decide));have z5:=k2.1;have z4:=k4.1;have z7:=k07.1;have ee:EtN h.size h10 v e:=⟨((rv.keep k7 (by simp)).keepS k10 hS),fun q hq=>by have:=ov q hq;omega⟩
 have x7:All2 (EtN h.size h7) evs es:=x2.mono fun a b x=>x.keepS k27 fun q hq T hT=>by
  simp at hq;subst hq;exact cell_ne (o := .cells #[] 0 (0,0)) erx (by rcases hT with rfl | rfl <;> decide)
 refine ⟨⟨t+1,evs++[v],es++[e],_,rfl,by omega,fun h=>by omega,k07.then k10 (fun q hq _=>hq) (fun q hq hl=>by have:=o2 q hq;omega),i10,r10,fun q hq =>?_,All2.app (x7.mono fun a b x=>x.keepS k10 hS) ⟨ee,trivial⟩,by simp[tl],by rw[hr];rfl⟩,by show N-((t+1:Nat):Int).toNat<N-((t:Nat):Int).toNat;omega⟩;rcases o10 q hq with h | h
 ·exact o2 q h
 ·omega
def ms0:MsK.Ty:=(0,(0,(0,(⟨none,0,0⟩,(⟨none,0,0⟩,(⟨none,0,0⟩,()))))))
theorem mem2 {α β : Type} {R : α → β → Prop}:∀ {la:List α} {lb:List β} {x : α},All2 R la lb→x∈la→∃y,R x y
 | a :: r, b :: s, x, h, hx => by
   rcases List.mem_cons.1 hx with rfl | hx
   ·exact ⟨b,h.1⟩
   ·exact mem2 h.2 hx
structure MI (h hh:Heap) (b1 b2 b3:Nat) (v:MsK.Ty) (evs:List EtK.Ty) (m:Msg) (rest:By):Prop where
 k:Keep [] h hh
 e1:hh[b1]? = some (vobj t_api_Msg MsK ms0)
 r:IsRr hh b2 rest
 e3:hh[b3]? = some (vobj t_api_Msg MsK v)
 m:MsR h.size hh v evs m
 n1:h.size≤b1
 n2:h.size≤b2
 n3:h.size≤b3
 n13:b1≠b3
 d:∀y∈evs,∀q∈own y.2.2.2.2.1,q∉own v.2.2.2.2.1
section
variable {h hh h':Heap} {b1 b2 b3:Nat} {v:MsK.Ty} {evs:List EtK.Ty} {m:Msg} {rest:By}
theorem MI.keep0 (g:MI h hh b1 b2 b3 v evs m rest) (k:Keep [] hh h'):MI h h' b1 b2 b3 v evs m rest:=
 ⟨g.k.n k,k.g g.e1,g.r.keep k (by simp),k.g g.e3,g.m.keep0 k,g.n1,g.n2,g.n3,g.n13,g.d⟩
theorem MI.rd {rest':By} (g:MI h hh b1 b2 b3 v evs m rest) (k:Keep [b2] hh h') (i:IsRr h' b2 rest'):MI h h' b1 b2 b3 v evs m rest':=by
 obtain ⟨x,ex⟩:=g.r.o;have a1:b1≠b2:=vobjN g.e1 ex (by decide);have a3:b3≠b2:=vobjN g.e3 ex (by decide)
 exact ⟨g.k.new k (by simpa using g.n2),k.get g.e1 (by simpa using a1),i,k.get g.e3 (by simpa using a3),g.m.keep k (fun q hq=>by
  simp at hq;subst hq;exact .inr fun T hT=>cell_ne (o := .cells #[] 0 (0,0)) ex (by rcases hT with rfl | rfl | rfl | rfl <;> decide)),g.n1,g.n2,g.n3,g.n13,g.d⟩
theorem MI.st {v':MsK.Ty} (g:MI h hh b1 b2 b3 v evs m rest) (k:Keep [b3] hh h') (e:h'[b3]? = some (vobj t_api_Msg MsK v')) (h1:v'.2.2.2=v.2.2.2):MI h h' b1 b2 b3 v' evs { m with kind:=v'.1,user:=v'.2.1,frm:=v'.2.2.1 } rest:=by
 obtain ⟨x,ex⟩:=g.r.o;have a3:b2≠b3:=vobjN ex g.e3 (by decide)
 have q:=g.m.keep k (fun q hq=>by
  simp at hq;subst hq;exact .inr fun T hT=>cell_ne (o := .cells #[] 0 (0,0)) g.e3 (by rcases hT with rfl | rfl | rfl | rfl <;> decide))
 refine ⟨g.k.new k (by simpa using g.n3),k.get g.e1 (by simpa using g.n13),g.r.keep k (by simpa using a3),e,⟨rfl,rfl,rfl,?_,?_,q.x,?_,?_,?_,?_⟩,g.n1,g.n2,g.n3,g.n13,?_⟩ <;> rw[h1]
 ·exact q.e
 ·exact q.oe
 ·exact q.w
 ·exact q.ow
 ·exact q.o
 ·exact q.oo
 ·exact g.d
theorem MI.setE {s:Slc} {evs':List EtK.Ty} {es:List Ett} {K:Heap→Prop} (g:MI h hh b1 b2 b3 v evs m rest) (re:Row hh t_api_Entry EtK s evs') (oe:∀q∈own s,h.size≤q) (x:All2 (EtN h.size hh) evs' es) (hd:∀y∈evs',∀q∈own y.2.2.2.2.1,q∉own v.2.2.2.2.1)
 (hK:∀h' v',MI h h' b1 b2 b3 v' evs' { m with ents:=es } rest→K h'):Go.Al.st .sl ((Pl.mk b3 0).fld 3) s hh K:=by
 refine mst3 g.e3 fun h4 k4 e4 hs4 =>?_;obtain ⟨y,ex⟩:=g.r.o;have a3:b2≠b3:=vobjN ex g.e3 (by decide)
 have tg:∀q∈[b3],∀T,T=t_api_Entry∨T=t_int∨T=t_api_Hash∨T=t_string→∀c f,hh[q]? ≠ some (.cells c T f):=fun q hq T hT=>by
  simp at hq;subst hq;exact cell_ne (o := .cells #[] 0 (0,0)) g.e3 (by rcases hT with rfl | rfl | rfl | rfl <;> decide)
 have q:=g.m.keep k4 (fun q hq => .inr (tg q hq));exact hK h4 _ ⟨g.k.new k4 (by simpa using g.n3),k4.get g.e1 (by simpa using g.n13),g.r.keep k4 (by simpa using a3),e4,⟨q.k,q.u,q.f,row_keepC (n0:=0) re k4 (fun _ _=>YAZ _) fun q hq => .inr (.inr (tg q hq _ (by simp))),oe,x.mono fun a b x=>x.keepS k4 fun q hq T hT=>tg q hq T (by rcases hT with rfl | rfl <;> simp),q.w,q.ow,q.o,q.oo⟩,g.n1,g.n2,g.n3,g.n13,hd⟩
theorem MI.addW {x:HVec} {K:Heap→Prop} (g:MI h hh b1 b2 b3 v evs m rest) (hl:m.wants.length≤100000) (hK:∀h' v',MI h h' b1 b2 b3 v' evs { m with wants:=m.wants++[x] } rest→K h') :
 bs t_api_Hash HK [x] hh fun s2 h14=>slCells s2 (s2.len*32) h14 fun cs=>ap t_api_Hash HK 32 v.2.2.2.2.1 s2.len cs h14 fun s3 h15=>Go.Al.st .sl ((Pl.mk b3 0).fld 4) s3 h15 K:=by
 obtain ⟨y,ex⟩:=g.r.o;refine app2 (by_:=32) g.m.w rfl (by omega) fun s3 h3 k3 r3 o3 =>?_;have nb:∀ {b:Nat} {T:Nat} {k:Kd} {z:k.Ty},hh[b]? = some (vobj T k z)→T≠t_api_Hash→b∉own v.2.2.2.2.1:=fun e hT=>rowT g.m.w e hT;have e3:=k3.get g.e3 (nb g.e3 (by decide));have a3:b2≠b3:=vobjN ex g.e3 (by decide);refine mst4 e3 fun h4 k4 e4 hs4 =>?_;have z:=g.k.1;have k0:Keep [] h h4:=(g.k.new k3 g.m.ow).new k4 (by simpa using g.n3)
 have tg:∀q∈[b3],∀T,T=t_api_Entry∨T=t_int∨T=t_api_Hash∨T=t_string→∀c f,h3[q]? ≠ some (.cells c T f):=fun q hq T hT=>by
  simp at hq;subst hq;exact cell_ne (o := .cells #[] 0 (0,0)) e3 (by rcases hT with rfl | rfl | rfl | rfl <;> decide)
 have kk:∀ {T:Nat} {kd:Kd} {s:Slc} {L:List kd.Ty},T=t_api_Entry∨T=t_string→Row hh T kd s L→Row h4 T kd s L:=fun hT r=>by
  have r1:=r.keep k3 (tagU r g.m.w (by rcases hT with rfl | rfl <;> decide));exact row_keepC (n0:=0) r1 k4 (fun _ _=>YAZ _) fun q hq => .inr (.inr (tg q hq _ (by rcases hT with rfl | rfl <;> simp)))
 refine hK h4 _ ⟨k0,k4.get (k3.get g.e1 (nb g.e1 (by decide))) (by simpa using g.n13),(g.r.keep k3 (nb ex (by decide))).keep k4 (by simpa using a3),e4,⟨g.m.k,g.m.u,g.m.f,kk (by simp) g.m.e,g.m.oe,All2.monoM ?_ g.m.x,r3.keep k4 (fun q hq hm=>by simp at hm;subst hm;exact rowT r3 e3 (by decide) hq),fun q hq =>?_,kk (by simp) g.m.o,g.m.oo⟩,g.n1,g.n2,g.n3,g.n13,?_⟩
 ·intro a ha b hb p;have r1:=p.1.w.keep k3 (tagU p.1.w g.m.w (by decide));have r2:=p.1.t.keep k3 (g.d a ha);exact ⟨⟨p.1.u,p.1.q,row_keepC (n0:=0) r1 k4 (fun _ _=>YAZ _) fun q hq => .inr (.inr (tg q hq _ (by simp))),p.1.r,row_keepC (n0:=0) r2 k4 (fun _ _=>YAZ _) fun q hq => .inr (.inr (tg q hq _ (by simp))),p.1.s⟩,p.2⟩
 ·rcases o3 q hq with h | h
  ·exact g.m.ow q h
  ·omega
 ·intro y hy q hq hm;rcases o3 q hm with h | h
  ·exact g.d y hy q hq h
  ·obtain ⟨e,he⟩:=mem2 g.m.x hy;have:=he.1.t.lt q hq;omega
theorem MI.addO {x:By} {K:Heap→Prop} (g:MI h hh b1 b2 b3 v evs m rest) (hl:m.objs.length≤100000) (hK:∀h' v',MI h h' b1 b2 b3 v' evs { m with objs:=m.objs++[x] } rest→K h') :
 bs t_string .s [bx x] hh fun s2 h14=>slCells s2 (s2.len*1) h14 fun cs=>ap t_string .s 16 v.2.2.2.2.2.1 s2.len cs h14 fun s3 h15=>Go.Al.st .sl ((Pl.mk b3 0).fld 5) s3 h15 K:=by
 obtain ⟨y,ex⟩:=g.r.o;refine app2 (by_:=16) g.m.o rfl (by rw[YAM];omega) fun s3 h3 k3 r3 o3 =>?_;have nb:∀ {b:Nat} {T:Nat} {k:Kd} {z:k.Ty},hh[b]? = some (vobj T k z)→T≠t_string→b∉own v.2.2.2.2.2.1:=fun e hT=>rowT g.m.o e hT;have e3:=k3.get g.e3 (nb g.e3 (by decide));have a3:b2≠b3:=vobjN ex g.e3 (by decide);refine mst5 e3 fun h4 k4 e4 hs4 =>?_;have z:=g.k.1;have k0:Keep [] h h4:=(g.k.new k3 g.m.oo).new k4 (by simpa using g.n3)
 have tg:∀q∈[b3],∀T,T=t_api_Entry∨T=t_int∨T=t_api_Hash∨T=t_string→∀c f,h3[q]? ≠ some (.cells c T f):=fun q hq T hT=>by
  simp at hq;subst hq;exact cell_ne (o := .cells #[] 0 (0,0)) e3 (by rcases hT with rfl | rfl | rfl | rfl <;> decide)
 have kk:∀ {T:Nat} {kd:Kd} {s:Slc} {L:List kd.Ty},T=t_api_Entry∨T=t_int∨T=t_api_Hash→Row hh T kd s L→Row h4 T kd s L:=fun hT r=>by
  have r1:=r.keep k3 (tagU r g.m.o (by rcases hT with rfl | rfl | rfl <;> decide));exact row_keepC (n0:=0) r1 k4 (fun _ _=>YAZ _) fun q hq => .inr (.inr (tg q hq _ (by rcases hT with rfl | rfl | rfl <;> simp)))
 refine hK h4 _ ⟨k0,k4.get (k3.get g.e1 (nb g.e1 (by decide))) (by simpa using g.n13),(g.r.keep k3 (nb ex (by decide))).keep k4 (by simpa using a3),e4,⟨g.m.k,g.m.u,g.m.f,kk (by simp) g.m.e,g.m.oe,g.m.x.mono fun a b x=>⟨⟨x.1.u,x.1.q,kk (by simp) x.1.w,x.1.r,kk (by simp) x.1.t,x.1.s⟩,x.2⟩,kk (by simp) g.m.w,g.m.ow,?_,fun q hq =>?_⟩,g.n1,g.n2,g.n3,g.n13,g.d⟩
 ·show Row h4 t_string .s s3 ((m.objs++[x]).map bx);rw[YAP];exact r3.keep k4 (fun q hq hm=>by simp at hm;subst hm;exact rowT r3 e3 (by decide) hq)
 ·rcases o3 q hq with h | h
  ·exact g.m.oo q h
  ·omega
theorem MI.bad {K:MsK.Ty→Int→Heap→Prop} (g:MI h hh b1 b2 b3 v evs m rest) (hK:∀h',Keep [] h h'→K ms0 2200 h'):Go.Al.st MsK (Pl.mk b1 0) ms0 hh fun h3=>ld MsK (Pl.mk b1 0) h3 fun x=>K x 2200 h3:=
 st_to g.e1 fun h3 k3 e3 hs3=>ld_go (sm_all e3) (hK h3 (g.k.new k3 (by simpa using g.n1)))
end
theorem ZA4.g {r:Nat} {l:By} {h:Heap} {K:Slc→Bool→Heap→Prop} (i:IsRr h r l)
 (hK:∀(ok:Bool) es rest h' s evs,Keep [r] h h'→IsRr h' r rest→Row h' t_api_Entry EtK s evs→(∀q∈own s,h.size≤q)→All2 (EtN h.size h') evs es→(ok=true→1≤l.length∧rStr rEt (rN1 l).1.toNat (rN1 l).2 []=some (es,rest))→(ok=false→l.length<1∨rStr rEt (rN1 l).1.toNat (rN1 l).2 []=none)→K s ok h'):ZA4.C (some ⟨r,0⟩) h K:=
 ZA4.s i (fun hb h' rest k' i'=>hK false [] rest h' ⟨none,0,0⟩ [] k' i' (.inl ⟨rfl,rfl⟩) (by simp[own]) trivial (by simp) (fun _=>hb))
  fun es rest h1 hr h' s evs k' i' r' o' x'=>hK true es rest h' s evs k' i' r' o' x' (fun _=>⟨h1,hr⟩) (by simp)
theorem rN1_short {l:By} (h:l.length<1):(rN1 l).1=0∧(rN1 l).2=[]:=by
 have:l=[]:=List.length_eq_zero_iff.1 (by omega);subst this;exact ⟨rfl,rfl⟩
theorem ZA9.s {s:By} {h:Heap} {K:MsK.Ty→Int→Heap→Prop} (hz:s.length≤9223372036854775807)
 (hK:∀v er evs h',Keep [] h h'→ResM h.size h' v evs er (getM s)→K v er h'):ZA9.C (bx s) h K:=by
 rw[←dMs_eq] at hK;apply ZA9.c;unfold ZA9.m;refine new_gen fun b1 h1 hb1 k1 e1 hs1 =>?_;have e1:h1[b1]? = some (vobj t_api_Msg MsK ms0):=e1;have hno:dMs s=none→∀h',Keep [] h h'→K ms0 2200 h':=fun hd h' k'=>hK ms0 2200 [] h' k' (by rw[hd];exact show (2200:Int)≠0 by decide);have w1:h.size≤b1:=by omega
 rw[bx_size];by_cases hb:65536<s.length∨s.length<6∨s.take 2≠[77,71]
 ·have hd:dMs s=none:=by unfold dMs;rw[if_pos hb]
  refine jn_at (true,()) h1 ?_ ?_
  ·refine itG (fun _=>⟨rfl,rfl⟩) fun hl0=>itL (fun _=>⟨rfl,rfl⟩) fun hl=>⟨by decide,by omega,by rw[bx_size];omega,?_,rfl⟩;rw[bx_ext];have h2:s.take 2≠[77,71]:=(hb.resolve_left (by omega)).resolve_left (by omega);have:¬bx ((s.take 2).drop 0)=bx [77,71]:=fun e=>h2 (by rw[YAC] at e;exact bx_inj3.1 e);show ((!decide (bx ((s.take 2).drop 0)=bx [77,71])),())=_;rw[dF this];rfl
  ·rw[if_pos (by rfl)];exact st_to e1 fun h3 k3 e3 hs3=>ld_go (sm_all e3) (hno hd h3 (k1.new k3 (by simpa using w1)))
 have hl6:6≤s.length∧s.length≤65536:=by omega
 have h2:s.take 2=[77,71]:=by
  cases Classical.em (s.take 2=[77,71]) with
  | inl h=>exact h
  | inr h=>exact absurd (.inr (.inr h)) hb
 refine jn_at (false,()) h1 ?_ ?_
 ·refine itG (fun _=>by omega) fun hl0=>itL (fun _=>by omega) fun hl=>⟨by decide,by omega,by rw[bx_size];omega,?_,rfl⟩;rw[bx_ext];show ((!decide (bx ((s.take 2).drop 0)=bx [77,71])),())=_;rw[YAC,h2,dT rfl];rfl
 rw[if_neg (by simp)]
 have hdE:dMs s=dMs1 (rN1 (s.drop 2)).1 (rN1 (rN1 (s.drop 2)).2).1 (rN2 (rN1 (rN1 (s.drop 2)).2).2).1 (rN2 (rN1 (rN1 (s.drop 2)).2).2).2:=by
  unfold dMs;rw[if_neg hb]
 refine new_gen fun b2 h3 hb2 k3 e3 hs3=>new_gen fun b3 h5 hb3 k5 e5 hs5 =>?_;have e5:h5[b3]? = some (vobj t_api_Msg MsK ms0):=e5;have i3:IsRr h3 b2 (s.drop 2):=⟨bx s,2,e3,by rw[bx_dl],by rw[bx_size];omega,by rw[bx_size];exact hz⟩;have g5:MI h h5 b1 b2 b3 ms0 [] ⟨0,0,0,[],[],[]⟩ (s.drop 2):=⟨(k1.n k3).n k5,k5.g (k3.g e1),i3.keep k5 (by simp),e5,MsR.nil,w1,by omega,by omega,by omega,by simp⟩;generalize s.drop 2=l0 at g5 hdE;refine dnum1 g5.r fun _ h6 k6 i6 _ =>?_;have g6:=g5.rd k6 i6;refine dnum1 g6.r fun _ h7 k7 i7 _ =>?_;have g7:=g6.rd k7 i7;refine dnum2 g7.r fun _ h8 k8 i8 _ =>?_;have g8:=g7.rd k8 i8;have hk0:=rN1_lt (l:=l0);generalize (rN1 l0).1=k at *;generalize (rN1 (rN1 l0).2).1=u at *;generalize rN2 (rN1 (rN1 l0).2).2=nl at *;obtain ⟨f,l4⟩:=nl;dsimp only at *;refine ZA4.g g8.r fun ok es r1 h9 se evs k9 i9 re oe xe hgood hbad =>?_;have z8:=g8.k.1;have g9:=g8.rd k9 i9;refine mst0 g9.e3 fun h10 k10 e10 hs10 =>?_
 have tg:∀ {x:Heap} {y:MsK.Ty},x[b3]? = some (vobj t_api_Msg MsK y)→∀q∈[b3],∀T,T=t_api_Entry∨T=t_int∨T=t_api_Hash∨T=t_string→∀c f,x[q]? ≠ some (.cells c T f):=fun e q hq T hT=>by
  simp at hq;subst hq;exact cell_ne (o := .cells #[] 0 (0,0)) e (by rcases hT with rfl | rfl | rfl | rfl <;> decide)
 have kpE:∀ {x y:Heap} {w:MsK.Ty},Keep [b3] x y→x[b3]? = some (vobj t_api_Msg MsK w)→Row x t_api_Entry EtK se evs∧All2 (EtN h8.size x) evs es→Row y t_api_Entry EtK se evs∧All2 (EtN h8.size y) evs es:=fun kk e a=>
  ⟨row_keepC (n0:=0) a.1 kk (fun _ _=>YAZ _) fun q hq => .inr (.inr (tg e q hq _ (by simp))),a.2.mono fun v e' x=>x.keepS kk fun q hq T hT=>tg e q hq T (by rcases hT with rfl | rfl <;> simp)⟩
 have P:=kpE k10 g9.e3 ⟨re,xe⟩;have g10:=g9.st k10 e10 rfl;refine mst1 g10.e3 fun h11 k11 e11 hs11 =>?_;have P:=kpE k11 g10.e3 P;have g11:=g10.st k11 e11 rfl;refine mst2 g11.e3 fun h12 k12 e12 hs12 =>?_;have P:=kpE k12 g11.e3 P;have g12:=g11.st k12 e12 rfl;refine g12.setE P.1 (fun q hq=>YAX z8 (oe q hq)) (P.2.mono fun v e x=>⟨x.1,fun q hq=>YAX z8 (x.2 q hq)⟩) (by simp[own,ms0]) fun h13 v13 g13 =>?_;dsimp only at g13;refine dnum1 g13.r fun er11 h14 k14 i14 her11 =>?_;have g14:=g13.rd k14 i14;have hn2:=rN1_lt (l:=r1);have hs2:=rN1_short (l:=r1)
 have hgood':ok=true→er11=0→dMs s=match rStr rHs (rN1 r1).1.toNat (rN1 r1).2 [] with
  | none=>none
  | some (ws,r)=>dMs3 k u f es ws r:=fun ho he=>by
  obtain ⟨q1,q2⟩:=hgood ho;rw[hdE];unfold dMs1;rw[if_neg (by omega),q2];show dMs2 k u f es r1=_;unfold dMs2;have:=her11.1 he;rw[if_neg (by omega)]
  rfl
 have hbad':(ok=false∨er11≠0)→dMs s=none:=fun hh=>by
  rw[hdE];unfold dMs1;by_cases q1:l4.length<1
  ·rw[if_pos q1]
  rw[if_neg q1]
  cases ho:ok with
  | false=>rw[(hbad ho).resolve_left q1]
  | true =>
    obtain ⟨_,q2⟩:=hgood ho;rw[q2];show dMs2 k u f es r1=_;unfold dMs2;have h11:er11≠0:=hh.resolve_left (by simp[ho]);have:¬1≤r1.length:=fun h=>h11 (her11.2 h);rw[if_pos (by omega)]
 have hshort:er11≠0→r1.length<1:=fun h=>by
  have:¬1≤r1.length:=fun h'=>h (her11.2 h');omega
 generalize rN1 r1=nl at *;obtain ⟨n2,l5⟩:=nl;dsimp only at *;have hnn:((n2.toNat:Nat):Int)=n2:=YAV hn2.1;generalize n2.toNat=N at *;subst hnn;refine lp_go (fun (y:Bool×Int×Unit) (hh:Heap)=>∃(t:Nat) (v:MsK.Ty) (ws:List HVec) (rest:By),y.2.1=t∧MI h hh b1 b2 b3 v evs ⟨k,u,f,es,ws,[]⟩ rest∧ws.length=t∧t≤300∧((y.1=true∧ok=true∧er11=0∧t≤N∧rStr rHs N l5 []=rStr rHs (N-t) rest ws)∨(dMs s=none∧(y.1=false∨er11≠0∧N=0∧rest=[])))) (fun (y:Bool×Int×Unit) _=>1000-y.2.1.toNat) ?_ ?_
 ·refine ⟨0,_,[],l5,rfl,g14,rfl,by omega,?_⟩;by_cases ho:ok=true
  ·by_cases he:er11=0
   ·exact .inl ⟨ho,ho,he,YAZ _,rfl⟩
   ·have:=hs2 (hshort he);exact .inr ⟨hbad' (.inr he),.inr ⟨he,Int.ofNat.inj this.1,this.2⟩⟩
  ·exact .inr ⟨hbad' (.inl (by simpa using ho)),.inl (by simpa using ho)⟩
 rintro ⟨(okf:Bool),(ii:Int),_⟩ h15 ⟨t,v,ws,rest,et,g15,wl,ht3,hst⟩;dsimp only at et hst ⊢;subst et;refine jn_at (decide (t<N)&&okf,()) h15 ?_ ?_
 ·refine itL (fun c=>⟨by rw[dT (by omega),Bool.true_and],rfl⟩) fun c=>⟨by rw[dF (by omega),Bool.false_and],rfl⟩
 by_cases hrun:t<N∧okf=true
 ·rw[if_pos (by rw[dT hrun.1,hrun.2];rfl)]
  have hA:okf=true∧ok=true∧er11=0∧t≤N∧rStr rHs N l5 []=rStr rHs (N-t) rest ws:=by
   rcases hst with h | ⟨_,h | h⟩
   ·exact h
   ·rw[hrun.2] at h;cases h
   ·omega
  obtain ⟨_,a1,a2,a3,hr⟩:=hA;have hw:w64 ((t:Int)+1)=((t+1:Nat):Int):=w6 (by omega);rw[hw];refine dhash g15.r fun er h17 k17 i17 her =>?_;have g17:=g15.rd k17 i17;refine new_st_gen fun b4 h19 hb4 k19 e19 hs19 =>?_;have e19:h19[b4]? = some (vobj t_api_Hash HK (hvO (rHs rest).1)):=e19;have g19:=g17.keep0 k19;refine ld_go (ms_f g19.e3).2.2.2.2.1 (ld_go (sm_all e19) ?_);refine g19.addW (by show ws.length≤_;omega) fun h22 v' g22 =>?_;rw[show N-t=(N-t-1)+1 by omega,rStr_s] at hr;refine ⟨⟨t+1,v',_,_,rfl,g22,by simp[wl],by omega,?_⟩,by show 1000-((t+1:Nat):Int).toNat<1000-((t:Nat):Int).toNat;omega⟩
  cases hx:(rHs rest).1 with
  | none =>
    rw[hx] at hr her;refine .inr ⟨?_,.inl (by show decide (er=0)=false;exact dF fun h=>her.1 h rfl)⟩;rw[hgood' a1 a2,hr]
  | some z =>
    rw[hx] at hr her;exact .inl ⟨by show decide (er=0)=true;exact dT (her.2 (by simp)),a1,a2,by omega,by rw[hr];rfl⟩
 rw[if_neg (by
  intro hc;simp only [YAa,decide_eq_true_eq] at hc;exact hrun hc)]
 refine dnum1 g15.r fun er17 h23 k23 i23 her17 =>?_;have g23:=g15.rd k23 i23;have hn3:=rN1_lt (l:=rest);have hs3:=rN1_short (l:=rest)
 have hst3:(okf=true∧er11=0∧er17=0∧dMs s=match rStr rTxt (rN1 rest).1.toNat (rN1 rest).2 [] with
  | none=>none
  | some (os,r)=>if r=[]∧0≤k∧k≤6 then some ⟨k,u,f,es,ws,os⟩ else none)∨(dMs s=none∧(okf=false∨er11≠0∨er17≠0)∧(okf=true→(rN1 rest).1=0)):=by
  rcases hst with ⟨a0,a1,a2,a3,hr⟩ | ⟨hd,h | ⟨h1,h2,h3⟩⟩
  ·have:t=N:=by
    have:¬t<N:=fun h=>hrun ⟨h,a0⟩;omega
   subst this;rw[YAY,rStr_z] at hr;have hq:=hgood' a1 a2;rw[hr] at hq;have hq:dMs s=dMs3 k u f es ws rest:=hq;unfold dMs3 at hq;by_cases he:er17=0
   ·have:=her17.1 he;rw[if_neg (by omega)] at hq;exact .inl ⟨a0,a2,he,hq⟩
   ·have:¬1≤rest.length:=fun h=>he (her17.2 h);rw[if_pos (by omega)] at hq;exact .inr ⟨hq,.inr (.inr he),fun _=>(hs3 (by omega)).1⟩
  ·exact .inr ⟨hd,.inl h,fun h'=>by rw[h] at h';cases h'⟩
  ·refine .inr ⟨hd,.inr (.inl h1),fun _=>(hs3 (by rw[h3];decide)).1⟩
 clear hst hrun
 generalize rN1 rest=nl at *;obtain ⟨n3,l6⟩:=nl;dsimp only at *;have hnn:((n3.toNat:Nat):Int)=n3:=YAV hn3.1;generalize n3.toNat=M at *;subst hnn
 refine lp_go (fun (y:Bool×Int×Unit) (hh:Heap)=>∃(t:Nat) (v:MsK.Ty) (os:List By) (rest:By),y.2.1=t∧MI h hh b1 b2 b3 v evs ⟨k,u,f,es,ws,os⟩ rest∧os.length=t∧t≤300∧((y.1=true∧er11=0∧er17=0∧t≤M∧rStr rTxt M l6 []=rStr rTxt (M-t) rest os∧dMs s=match rStr rTxt M l6 [] with
  | none=>none
  | some (os,r)=>if r=[]∧0≤k∧k≤6 then some ⟨k,u,f,es,ws,os⟩ else none)∨(dMs s=none∧(y.1=false∨er11≠0∨er17≠0)∧(y.1=true→M=0)))) (fun (y:Bool×Int×Unit) _=>1000-y.2.1.toNat) ?_ ?_
 ·refine ⟨0,_,[],l6,rfl,g23,rfl,by omega,?_⟩;rcases hst3 with ⟨a,b,c,d⟩ | ⟨a,b,c⟩
  ·exact .inl ⟨a,b,c,YAZ _,rfl,d⟩
  ·exact .inr ⟨a,b,fun h=>Int.ofNat.inj (c h)⟩
 rintro ⟨(okg:Bool),(ii:Int),_⟩ h24 ⟨t',v4,os,rest4,et,g24,ol,ht4,hst4⟩;dsimp only at et hst4 ⊢;subst et;refine jn_at (decide (t'<M)&&okg,()) h24 ?_ ?_
 ·refine itL (fun c=>⟨by rw[dT (by omega),Bool.true_and],rfl⟩) fun c=>⟨by rw[dF (by omega),Bool.false_and],rfl⟩
 by_cases hrun:t'<M∧okg=true
 ·rw[if_pos (by rw[dT hrun.1,hrun.2];rfl)];obtain ⟨a0,a1,a2,a3,hr,hd⟩:=hst4.resolve_right (fun ⟨_,_,h⟩=>by have:=h hrun.2;omega);have hw:w64 ((t':Int)+1)=((t'+1:Nat):Int):=w6 (by omega);rw[hw];refine dtext g24.r fun er h26 k26 i26 her =>?_;have g26:=g24.rd k26 i26;refine ld_go (ms_f g26.e3).2.2.2.2.2 ?_;refine g26.addO (by show os.length≤_;omega) fun h29 v' g29 =>?_;rw[show M-t'=(M-t'-1)+1 by omega,rStr_s] at hr;refine ⟨⟨t'+1,v',_,_,rfl,g29,by simp[ol],by omega,?_⟩,by show 1000-((t'+1:Nat):Int).toNat<1000-((t':Nat):Int).toNat;omega⟩
  cases hx:(rTxt rest4).1 with
  | none =>
    rw[hx] at hr her;have hf:decide (er=0)=false:=dF fun h=>her.1 h rfl;refine .inr ⟨?_,.inl hf,fun h =>?_⟩
    ·rw[hd,hr]
    ·have h:decide (er=0)=true:=h;rw[hf] at h;cases h
  | some z =>
    rw[hx] at hr her;exact .inl ⟨by show decide (er=0)=true;exact dT (her.2 (by simp)),a1,a2,by omega,by rw[hr];rfl,hd⟩
 rw[if_neg (by
  intro hc;simp only [YAa,decide_eq_true_eq] at hc;exact hrun hc)]
 rcases hst4 with ⟨a0,a1,a2,a3,hr,hd⟩ | ⟨hd,hw,_⟩
 ·have:t'=M:=by
   have:¬t'<M:=fun h=>hrun ⟨h,a0⟩;omega
  subst this;rw[YAY,rStr_z] at hr;rw[hr] at hd;dsimp only at hd;subst a0;by_cases hfin:rest4=[]∧0≤k∧k≤6
  ·rw[if_pos hfin] at hd;obtain ⟨q1,q2,q3⟩:=hfin;have F:=(ms_f g24.e3).1;rw[g24.m.k] at F;refine jn_at (false,()) h24 ?_ ?_
   ·rw[if_neg (by simp),if_neg (by simpa using a1),if_neg (by simpa using a2)];refine ref1_Left.s g24.r ?_;rw[q1,if_neg (by simp)];refine ld_go F (itL (fun c=>by have c:k<0:=c;omega) fun c=>ld_go F ⟨?_,rfl⟩);show (decide (k>6),())=_;rw[dF (by omega)]
   rw[if_neg (by simp)];refine ld_go (sm_all g24.e3) (st_to g24.e1 fun h33 k33 e33 hs33=>ld_go (sm_all e33) ?_);rw[hd] at hK;refine hK _ 0 evs h33 (g24.k.new k33 (by simpa using g24.n1)) ⟨rfl,g24.m.keep k33 fun q hq =>?_⟩;simp at hq;subst hq;exact .inr fun T hT=>cell_ne (o := .cells #[] 0 (0,0)) g24.e1 (by rcases hT with rfl | rfl | rfl | rfl <;> decide)
  ·rw[if_neg hfin] at hd;have F:=(ms_f g24.e3).1;rw[g24.m.k] at F;refine jn_at (true,()) h24 ?_ ?_
   ·rw[if_neg (by simp),if_neg (by simpa using a1),if_neg (by simpa using a2)];refine ref1_Left.s g24.r ?_;by_cases q1:rest4=[]
    ·rw[q1,if_neg (by simp)];refine ld_go F (itL (fun c=>⟨rfl,rfl⟩) fun c=>ld_go F ⟨?_,rfl⟩);show (decide (k>6),())=_;have c:0≤k:=c
     rw[dT (show k>6 by
      have:¬(k≤6):=fun h=>hfin ⟨q1,c,h⟩;omega)]
    ·have:rest4.length≠0:=fun h=>q1 (List.length_eq_zero_iff.1 h);rw[if_pos (by simpa using q1)];exact ⟨rfl,rfl⟩
   ·rw[if_pos (by rfl)];exact g24.bad (hno hd)
 ·refine jn_at (true,()) h24 ?_ ?_
  ·cases ho:okg with
   | false=>rw[if_pos (by rfl)];exact ⟨rfl,rfl⟩
   | true =>
     rw[if_neg (by simp)];by_cases h1:er11=0
     ·rw[if_neg (by simpa using h1)]
      have h7:er17≠0:=by
       rcases hw with h | h | h
       ·rw[ho] at h;cases h
       ·exact absurd h1 h
       ·exact h
      rw[if_pos (by simpa using h7)];exact ⟨rfl,rfl⟩
     ·rw[if_pos (by simpa using h1)];exact ⟨rfl,rfl⟩
  ·rw[if_pos (by rfl)];exact g24.bad (hno hd)
abbrev SvK:Kd := .ag (.pr .p (.pr .p (.pr .i (.pr .i (.pr .i .un)))))
theorem server_held.s {b st r:Nat} {os:List ByteArray} {v:SvK.Ty} {ws:Slc} {W:List HVec} {h:Heap} {K:Value→Heap→Prop} (eb:h[b]? = some (vobj t_server_Server SvK v)) (ev:v.2.1=some ⟨st,0⟩) (i:StoAt h st r os) (g:Seg (.ar 32 .u8) ws W h) (hl:W.length≤1000000)
 (hK:∀it h',Keep [] h h'→ItX .s (fun _ _ x a=>x=bx a) it h' (W.map (foundO os))→K it h'):ZBR.C (some ⟨b,0⟩) ws h K:=by
 apply ZBR.c;unfold ZBR.m;refine new_gen fun b1 h1 hb1 k1 e1 hs1=>new_gen fun b2 h2 hb2 k2 e2 hs2 =>?_;have e1:h1[b1]? = some (vobj t_p_server_Server .p (some ⟨b,0⟩)):=e1;have e2:h2[b2]? = some (vobj t_s_api_Hash .sl ws):=e2;have k02:Keep [] h h2:=k1.n k2;refine hK _ h2 k02 ⟨⟨ZAY.n,ZAY.fn,_,_,rfl,by kernel_rfl,by kernel_rfl,by kernel_rfl⟩,fun l H I St K' hk hkk hy h0 hend hst =>?_⟩;refine callV_go (aa:=[yv l,Kd.p.val (some ⟨b2,0⟩),Kd.p.val (some ⟨b1,0⟩)]) (by rfl) ?_;show ZAY.C (yv l) ⟨b2,0⟩ ⟨b1,0⟩ H _;apply ZAY.c;unfold ZAY.m;have E1:=k2.g e1;refine ld_go (sm_all ((hk _ _ h0).1.g e2)) ?_;have gl:=g.len;refine lp_go (fun (y:Int×Unit) (hh:Heap)=>∃j:Nat,y.1=((j:Nat):Int)∧j≤W.length∧I j hh) (fun (y:Int×Unit) _=>2000000-y.1.toNat) ?_ ?_
 ·exact ⟨0,rfl,YAZ _,h0⟩
 rintro ⟨(ii:Int),_⟩ hh ⟨j,ej,hj,ij⟩;dsimp only at ej ⊢;subst ej;obtain ⟨kh,zH⟩:=hk _ _ ij;have k0h:Keep [] h hh:=k02.n kh;by_cases hlt:j<W.length
 case neg=>
  rw[if_neg (show ¬decide (((j:Nat):Int)<(ws.len:Int))=true from dn (by omega))];have:j=(W.map (foundO os)).length:=by rw[YAM];omega
  rw[this] at ij;exact hend hh ij
 rw[if_pos (show decide (((j:Nat):Int)<(ws.len:Int))=true from dT (by omega))];refine seg_ix (g.keep (by decide) k0h) (x:=W[j]) (by omega) (by rw[YAU];exact YAG hlt) rfl ?_;refine new_st_gen fun b3 h3 hb3 k3 e3 hs3 =>?_;have e3:h3[b3]? = some (vobj t_api_Hash HK W[j]):=e3;have kh3:Keep [] h2 h3:=kh.n k3;have k03:Keep [] h h3:=k0h.n k3;refine ld_go (sm_all (kh3.g E1)) (nck_go (ld_go (sm_fld (n:=1) (k' := .p) (y:=some ⟨st,0⟩) (k03.g eb) (by rw[←ev];rfl) (by decide)) (ld_go (sm_all e3) ?_)));refine ZBI.s (i.keep0 k03) fun h4 k4 =>?_;refine hy j h4 _ _ (by rw[YAM];omega) (hkk _ _ _ (hkk _ _ _ ij k3) k4) (by rw[YAH]) (fun h' i' =>?_) (fun h' s' =>?_)
 ·rw[if_neg (by simp)];have hw:w64 (((j:Nat):Int)+1)=((j+1:Nat):Int):=w6 (by omega);rw[hw];exact ⟨⟨j+1,rfl,by omega,i'⟩,by show 2000000-((j+1:Nat):Int).toNat<2000000-((j:Nat):Int).toNat;omega⟩
 ·rw[if_pos (by rfl)];exact hst h' s'
theorem fill_step {α : Type} {mk:List α → Msg} {L:List α} {j:Nat} (hj:j<L.length) (hp:putM (mk (L.take j++[L[j]]))=true):fillM mk (L.take j) (L.drop j)=fillM mk (L.take (j+1)) (L.drop (j+1)):=by
 rw[List.drop_eq_getElem_cons hj,YAS hj];show (if putM (mk (L.take j++[L[j]]))=true then _ else _)=_;rw[if_pos hp]
theorem fill_stop {α : Type} {mk:List α → Msg} {L:List α} {j:Nat} (hj:j<L.length) (hp:¬putM (mk (L.take j++[L[j]]))=true):fillM mk (L.take j) (L.drop j)=L.take j:=by
 rw[List.drop_eq_getElem_cons hj];show (if putM (mk (L.take j++[L[j]]))=true then _ else _)=_;rw[if_neg hp]
theorem ansM_put {m:Msg} (h:putM m=true):ansM m=bytesM m:=by unfold ansM;rw[if_pos h]
theorem ZAW.s {k u f:Int} {it:Value} {L:List Ett} {h:Heap} {K:ByteArray→Heap→Prop} (hit:ItX EtK EtN it h L) (hv:∀e∈L,e.vec.length≤9223372036854775806) (hl:L.length≤10000)
 (hK:∀h',Keep [] h h'→K (bx (ansM ((fun acc=>(⟨k,u,f,acc,[],[]⟩:Msg)) (fillM (fun acc=>(⟨k,u,f,acc,[],[]⟩:Msg)) [] L)))) h'):ZAW.C ((k,(u,(f,(⟨none,0,0⟩,(⟨none,0,0⟩,(⟨none,0,0⟩,())))))):MsK.Ty) it (.func (.func ZAj.n) #[] #[]) h K:=by
 apply ZAW.c;unfold ZAW.m;generalize hmk:(fun acc:List Ett=>(⟨k,u,f,acc,[],[]⟩:Msg))=mk at hK;have mkE:∀acc,mk acc=⟨k,u,f,acc,[],[]⟩:=fun acc=>by rw[←hmk]
 refine new_gen fun b1 h1 hb1 k1 e1 hs1=>new_gen fun b2 h2 hb2 k2 e2 hs2 =>?_;have e1:h1[b1]? = some (vobj t_api_Msg MsK ((k,(u,(f,(⟨none,0,0⟩,(⟨none,0,0⟩,(⟨none,0,0⟩,())))))):MsK.Ty)):=e1;have e2:h2[b2]? = some (vobj t_func_p_api_Msg_api_Entry .f (.func (.func ZAj.n) #[] #[])):=e2;have E1:=k2.g e1;have k02:Keep [] h h2:=k1.n k2;refine ld_go (sm_all E1) ?_;refine ZA1.s (MsR.nil (n0:=h.size)).at ⟨by simp,by simp,by simp,by simp⟩ fun h3 k3 =>?_;refine new_st_gen fun b3 h5 hb3 k5 e5 hs5 =>?_;have e5:h5[b3]? = some (vobj t_string .s (bx (ansM (mk [])))):=by rw[mkE];exact e5
 have k03:Keep [] h h3:=k02.n k3;have k05:Keep [] h h5:=k03.n k5;have k25:Keep [] h2 h5:=k3.n k5;have E1:=k25.g E1;have E2:=k25.g e2;have z02:=k02.1;have z03:=k03.1;have z05:=k05.1;have l1:=lt_of_some E1;have l2:=lt_of_some E2;have l3:=lt_of_some e5;have z1:=k1.1;have z25:=k25.1;have z3:=k3.1;have nn:b1≠b2∧b1≠b3∧b2≠b3∧h.size≤b1∧h.size≤b2∧h.size≤b3:=by omega
 obtain ⟨n12,n13,n23,w1,w2,w3⟩:=nn;refine jn_in (fun y h'=>∃d:Nat,y=([d],())∧h'[d]? = some (.deferred (some []))∧h.size≤d∧d≠b3∧Keep [] h h'∧h'[b3]? = some (vobj t_string .s (bx (ansM (mk (fillM mk [] L)))))) ?_ ?_
 ·refine ⟨hit.1,fun o hyd =>?_⟩;generalize hl':h5.size+1=l at hyd ⊢;have kH:Keep [] h5 ((h5.push (.deferred (some []))).push (o .ready)):=keep_push.trans keep_push;have hsz8:(h5.push (.deferred (some []))).size=h5.size+1:=by simp
  have eL:((h5.push (.deferred (some []))).push (o .ready))[l]? = some (o .ready):=by rw[←hl',←hsz8];exact get_push
  have eN:((h5.push (.deferred (some []))).push (o .ready))[h5.size]? = some (.deferred (some [])):=get_push_old get_push;have szH:((h5.push (.deferred (some []))).push (o .ready)).size=h5.size+2:=by simp
  generalize ((h5.push (.deferred (some []))).push (o .ready))=H at kH eL eN szH ⊢;generalize hd0:h5.size=d0 at *;have k0H:Keep [] h H:=k05.n kH;have nl:b1≠l∧b2≠l∧b3≠l∧d0≠l∧d0≠b1∧d0≠b3∧h.size≤l∧h.size≤d0∧l<H.size∧b1<H.size∧b2<H.size∧b3<H.size∧d0<H.size:=by omega
  obtain ⟨n1l,n2l,n3l,ndl,nd1,nd3,wl,wd,xl,x1,x2,x3,xd⟩:=nl
  refine hit.2 l H (fun j hh=>Keep [] h hh∧H.size≤hh.size∧hh[l]? = some (o .ready)∧hh[d0]? = some (.deferred (some []))∧hh[b2]? = some (vobj t_func_p_api_Msg_api_Entry .f (.func (.func ZAj.n) #[] #[]))∧hh[b3]? = some (vobj t_string .s (bx (ansM (mk (L.take j)))))∧(fillM mk [] L=fillM mk (L.take j) (L.drop j))∧∃v evs,hh[b1]? = some (vobj t_api_Msg MsK v)∧MsR H.size hh v evs (mk (L.take j)))
   (fun h'=>Keep [] h h'∧h'[l]? = some (o .brk)∧h'[d0]? = some (.deferred (some []))∧h'[b3]? = some (vobj t_string .s (bx (ansM (mk (fillM mk [] L)))))) _ ?_ ?_ ?_ ?_ ?_ ?_
  ·rintro j hh ⟨kk,zz,_⟩;exact ⟨kk,zz⟩
  ·rintro j hh hh' ⟨a2,a3,a4,a5,a6,a7,a8,v,evs,a9,a10⟩ kk;exact ⟨a2.n kk,YAX a3 kk.1,kk.g a4,kk.g a5,kk.g a6,kk.g a7,a8,v,evs,kk.g a9,a10.keep0 kk⟩
  ·rintro j hh x K' hj ⟨a2,a3,a4,a5,a6,a7,a8,v,evs,a9,a10⟩ hx hgo hstop;have zh:=a2.1;have lh:=lt_of_some a4;refine hyd (x,()) hh K' a4 ?_;refine new_st_gen fun b4 h13 hb4 k13 e13 hs13 =>?_;have e13:h13[b4]? = some (vobj t_api_Entry EtK x):=e13;have n4l:b4≠l:=by omega
   refine ⟨k13.g a4,?_⟩;have kl:Keep [l] h13 (h13.setIfInBounds l (o .busy)):=keep_set;have el:=get_set (o':=o .busy) (k13.g a4);have e8:=kl.get e13 (by simpa using n4l);generalize h13.setIfInBounds l (o .busy)=h8 at kl el e8 ⊢;have kA:Keep [l] hh h8:=k13.then kl (by simp) (fun q hq _=>hq);have zA:=kA.1;have m8:=a10.keep kA (fun q hq=>by simp at hq;subst hq;exact .inl xl);have q1:=kA.get a9 (by simpa using n1l);have q2:=kA.get a6 (by simpa using n2l);have q3:=kA.get a7 (by simpa using n3l);have qd:=kA.get a5 (by simpa using ndl);have k08:Keep [] h h8:=a2.new kA (by simpa using wl);have hlen:(L.take j).length≤j:=by simp;omega
   refine ld_go (sm_all q2) ?_;refine ld_go (sm_all e8) ?_;refine callV_go (aa:=[Kd.p.val (some (Pl.mk b1 0)),EtK.val x]) (by rfl) ?_;show ZAj.C (some ⟨b1,0⟩) x h8 _;refine ZAj.s q1 m8 (hx.1.keep kA fun q hq hm=>by simp at hm;have:=hx.2 q hq;omega) hx.2 (by omega) (by rw[mkE];show (L.take j).length≤100000;omega) fun h14 v' k14 e14 m14 o14 =>?_;have hm':{ mk (L.take j) with ents:=(mk (L.take j)).ents++[L[j]] }=mk (L.take j++[L[j]]):=by rw[mkE,mkE]
   rw[hm'] at m14
   have ol:∀q∈b1::MsR.own v,q≠l∧q≠d0∧q≠b2∧q≠b3∧h.size≤q:=fun q hq=>by
    rcases List.mem_cons.1 hq with h | h
    ·omega
    ·have:H.size≤q:=by
      rcases List.mem_append.1 h with h | h
      ·exact a10.oe q h
      ·exact a10.oo q h
     omega
   have g:∀ {b:Nat} {ob:Obj},h8[b]? = some ob→(b=l∨b=d0∨b=b2∨b=b3)→h14[b]? = some ob:=fun e hb=>k14.get e fun hm=>by have:=ol _ hm;omega
   have k014:Keep [] h h14:=k08.new k14 fun q hq=>(ol q hq).2.2.2.2;refine ld_go (sm_all e14) ?_
   refine ZB5.s m14.at ⟨fun e he=>hv e (by
    rw[mkE] at he;have he:e∈L.take j++[L[j]]:=he;rcases List.mem_append.1 he with h | h
    ·exact YAR _ _ h
    ·simp at h;subst h;exact YAI hj),by rw[mkE];simp;omega,by rw[mkE];simp,by rw[mkE];simp⟩ fun h15 k15 =>?_
   have k015:Keep [] h h15:=k014.n k15;have z8:=k14.1;have z15:=k15.1;have l15:=k15.g (g el (.inl rfl));have d15:=k15.g (g qd (.inr (.inl rfl)));have c15:=k15.g (g q2 (.inr (.inr (.inl rfl))));have s15:=k15.g (g q3 (.inr (.inr (.inr rfl))));by_cases hp:putM (mk (L.take j++[L[j]]))=true
   ·rw[if_pos hp,if_pos hp,if_neg (by simp)];refine st_to s15 fun h16 k16 e16 hs16 =>?_;have k016:Keep [] h h16:=k015.new k16 (by simpa using w3);have l16:=k16.get l15 (by simpa using n3l.symm);refine ⟨l16,hgo _ ?_⟩;have kr:Keep [l] h16 (h16.setIfInBounds l (o .ready)):=keep_set;have lr:=get_set (o':=o .ready) l16;generalize h16.setIfInBounds l (o .ready)=h17 at kr lr ⊢;have z16:=k16.1;have z17:=kr.1;refine ⟨k016.new kr (by simpa using wl),by omega,lr,kr.get (k16.get d15 (by simpa using nd3)) (by simpa using ndl),kr.get (k16.get c15 (by simpa using n23)) (by simpa using n2l),?_,?_,v',evs++[x],kr.get (k16.get (k15.g e14) (by simpa using n13)) (by simpa using n1l),?_⟩
    ·rw[YAS hj,ansM_put hp];exact kr.get e16 (by simpa using n3l)
    ·rw[a8];exact fill_step hj hp
    ·rw[YAS hj];exact ((m14.keep0 k15).keep k16 (fun q hq=>by simp at hq;subst hq;exact .inl x3)).keep kr (fun q hq=>by simp at hq;subst hq;exact .inl xl)
   ·rw[if_neg hp,if_neg hp,if_pos (by decide)];refine ⟨l15,hstop _ ?_⟩;have kr:Keep [l] h15 (h15.setIfInBounds l (o .brk)):=keep_set;have lr:=get_set (o':=o .brk) l15;generalize h15.setIfInBounds l (o .brk)=h17 at kr lr ⊢;refine ⟨k015.new kr (by simpa using wl),lr,kr.get d15 (by simpa using ndl),?_⟩;rw[a8,fill_stop hj hp];exact kr.get s15 (by simpa using n3l)
  ·refine ⟨k0H,YAW _,eL,eN,kH.g E2,?_,?_,_,[],kH.g E1,?_⟩
   ·rw[YAT];exact kH.g e5
   ·rw[YAT,YAC]
   ·rw[YAT,mkE];exact MsR.nil
  ·rintro h' ⟨a2,a3,a4,a5,a6,a7,a8,_⟩;refine .inl ⟨a4,?_⟩;have kr:Keep [l] h' (h'.setIfInBounds l (o (.over false))):=keep_set;generalize h'.setIfInBounds l (o (.over false))=h17 at kr ⊢;refine ⟨d0,rfl,kr.get a5 (by simpa using ndl),wd,nd3,a2.new kr (by simpa using wl),?_⟩;rw[YAQ (YAW _)] at a7 a8;rw[YAB (YAW _)] at a8;rw[a8];exact kr.get a7 (by simpa using n3l)
  ·rintro h' ⟨a2,a4,a5,a7⟩;refine .inr (.inr ⟨a4,?_⟩);have kr:Keep [l] h' (h'.setIfInBounds l (o .ovx)):=keep_set;generalize h'.setIfInBounds l (o .ovx)=h17 at kr ⊢;exact ⟨d0,rfl,kr.get a5 (by simpa using ndl),wd,nd3,a2.new kr (by simpa using wl),kr.get a7 (by simpa using n3l)⟩
 ·rintro _ h6 ⟨d,rfl,ed,wd,nd,k6,e6⟩;refine ld_go (sm_all e6) ?_;refine lv_go (by intro q hq;simp at hq;subst hq;exact ed) (by simp) fun h7 k7 =>?_;exact hK h7 (k6.new k7 (by simpa using wd))
theorem ZAm.s {k u f:Int} {it:Value} {L:List By} {h:Heap} {K:ByteArray→Heap→Prop} (hit:ItX .s (fun _ _ x a=>x=bx a) it h L) (hl:L.length≤10000)
 (hK:∀h',Keep [] h h'→K (bx (ansM ((fun acc=>(⟨k,u,f,[],[],acc⟩:Msg)) (fillM (fun acc=>(⟨k,u,f,[],[],acc⟩:Msg)) [] L)))) h'):ZAm.C ((k,(u,(f,(⟨none,0,0⟩,(⟨none,0,0⟩,(⟨none,0,0⟩,())))))):MsK.Ty) it (.func (.func ZAk.n) #[] #[]) h K:=by
 apply ZAm.c;unfold ZAm.m;generalize hmk:(fun acc:List By=>(⟨k,u,f,[],[],acc⟩:Msg))=mk at hK;have mkE:∀acc,mk acc=⟨k,u,f,[],[],acc⟩:=fun acc=>by rw[←hmk]
 refine new_gen fun b1 h1 hb1 k1 e1 hs1=>new_gen fun b2 h2 hb2 k2 e2 hs2 =>?_;have e1:h1[b1]? = some (vobj t_api_Msg MsK ((k,(u,(f,(⟨none,0,0⟩,(⟨none,0,0⟩,(⟨none,0,0⟩,())))))):MsK.Ty)):=e1;have e2:h2[b2]? = some (vobj t_func_p_api_Msg_string .f (.func (.func ZAk.n) #[] #[])):=e2;have E1:=k2.g e1;have k02:Keep [] h h2:=k1.n k2;refine ld_go (sm_all E1) ?_;refine ZA1.s (MsR.nil (n0:=h.size)).at ⟨by simp,by simp,by simp,by simp⟩ fun h3 k3 =>?_;refine new_st_gen fun b3 h5 hb3 k5 e5 hs5 =>?_;have e5:h5[b3]? = some (vobj t_string .s (bx (ansM (mk [])))):=by rw[mkE];exact e5
 have k03:Keep [] h h3:=k02.n k3;have k05:Keep [] h h5:=k03.n k5;have k25:Keep [] h2 h5:=k3.n k5;have E1:=k25.g E1;have E2:=k25.g e2;have z02:=k02.1;have z03:=k03.1;have z05:=k05.1;have l1:=lt_of_some E1;have l2:=lt_of_some E2;have l3:=lt_of_some e5;have z1:=k1.1;have z25:=k25.1;have z3:=k3.1;have nn:b1≠b2∧b1≠b3∧b2≠b3∧h.size≤b1∧h.size≤b2∧h.size≤b3:=by omega
 obtain ⟨n12,n13,n23,w1,w2,w3⟩:=nn;refine jn_in (fun y h'=>∃d:Nat,y=([d],())∧h'[d]? = some (.deferred (some []))∧h.size≤d∧d≠b3∧Keep [] h h'∧h'[b3]? = some (vobj t_string .s (bx (ansM (mk (fillM mk [] L)))))) ?_ ?_
 ·refine ⟨hit.1,fun o hyd =>?_⟩;generalize hl':h5.size+1=l at hyd ⊢;have kH:Keep [] h5 ((h5.push (.deferred (some []))).push (o .ready)):=keep_push.trans keep_push;have hsz8:(h5.push (.deferred (some []))).size=h5.size+1:=by simp
  have eL:((h5.push (.deferred (some []))).push (o .ready))[l]? = some (o .ready):=by rw[←hl',←hsz8];exact get_push
  have eN:((h5.push (.deferred (some []))).push (o .ready))[h5.size]? = some (.deferred (some [])):=get_push_old get_push;have szH:((h5.push (.deferred (some []))).push (o .ready)).size=h5.size+2:=by simp
  generalize ((h5.push (.deferred (some []))).push (o .ready))=H at kH eL eN szH ⊢;generalize hd0:h5.size=d0 at *;have k0H:Keep [] h H:=k05.n kH;have nl:b1≠l∧b2≠l∧b3≠l∧d0≠l∧d0≠b1∧d0≠b3∧h.size≤l∧h.size≤d0∧l<H.size∧b1<H.size∧b2<H.size∧b3<H.size∧d0<H.size:=by omega
  obtain ⟨n1l,n2l,n3l,ndl,nd1,nd3,wl,wd,xl,x1,x2,x3,xd⟩:=nl
  refine hit.2 l H (fun j hh=>Keep [] h hh∧H.size≤hh.size∧hh[l]? = some (o .ready)∧hh[d0]? = some (.deferred (some []))∧hh[b2]? = some (vobj t_func_p_api_Msg_string .f (.func (.func ZAk.n) #[] #[]))∧hh[b3]? = some (vobj t_string .s (bx (ansM (mk (L.take j)))))∧(fillM mk [] L=fillM mk (L.take j) (L.drop j))∧∃v evs,hh[b1]? = some (vobj t_api_Msg MsK v)∧MsR H.size hh v evs (mk (L.take j)))
   (fun h'=>Keep [] h h'∧h'[l]? = some (o .brk)∧h'[d0]? = some (.deferred (some []))∧h'[b3]? = some (vobj t_string .s (bx (ansM (mk (fillM mk [] L)))))) _ ?_ ?_ ?_ ?_ ?_ ?_
  ·rintro j hh ⟨kk,zz,_⟩;exact ⟨kk,zz⟩
  ·rintro j hh hh' ⟨a2,a3,a4,a5,a6,a7,a8,v,evs,a9,a10⟩ kk;exact ⟨a2.n kk,YAX a3 kk.1,kk.g a4,kk.g a5,kk.g a6,kk.g a7,a8,v,evs,kk.g a9,a10.keep0 kk⟩
  ·rintro j hh x K' hj ⟨a2,a3,a4,a5,a6,a7,a8,v,evs,a9,a10⟩ hx hgo hstop;have zh:=a2.1;have lh:=lt_of_some a4;refine hyd (x,()) hh K' a4 ?_;refine ⟨a4,?_⟩;have kA:Keep [l] hh (hh.setIfInBounds l (o .busy)):=keep_set;have el:=get_set (o':=o .busy) a4;generalize hh.setIfInBounds l (o .busy)=h8 at kA el ⊢;have zA:=kA.1;have m8:=a10.keep kA (fun q hq=>by simp at hq;subst hq;exact .inl xl);have q1:=kA.get a9 (by simpa using n1l);have q2:=kA.get a6 (by simpa using n2l);have q3:=kA.get a7 (by simpa using n3l);have qd:=kA.get a5 (by simpa using ndl);have k08:Keep [] h h8:=a2.new kA (by simpa using wl);have hlen:(L.take j).length≤j:=by simp;omega
   refine ld_go (sm_all q2) ?_;rw[hx];refine callV_go (aa:=[Kd.p.val (some (Pl.mk b1 0)),Kd.s.val (bx L[j])]) (by rfl) ?_;show ZAk.C (some ⟨b1,0⟩) (bx L[j]) h8 _;refine ZAk.s q1 m8 (by omega) (by rw[mkE];show (L.take j).length≤100000;omega) fun h14 v' k14 e14 m14 o14 =>?_;have hm':{ mk (L.take j) with objs:=(mk (L.take j)).objs++[L[j]] }=mk (L.take j++[L[j]]):=by rw[mkE,mkE]
   rw[hm'] at m14
   have ol:∀q∈b1::MsR.own v,q≠l∧q≠d0∧q≠b2∧q≠b3∧h.size≤q:=fun q hq=>by
    rcases List.mem_cons.1 hq with h | h
    ·omega
    ·have:H.size≤q:=by
      rcases List.mem_append.1 h with h | h
      ·exact a10.oe q h
      ·exact a10.oo q h
     omega
   have g:∀ {b:Nat} {ob:Obj},h8[b]? = some ob→(b=l∨b=d0∨b=b2∨b=b3)→h14[b]? = some ob:=fun e hb=>k14.get e fun hm=>by have:=ol _ hm;omega
   have k014:Keep [] h h14:=k08.new k14 fun q hq=>(ol q hq).2.2.2.2;refine ld_go (sm_all e14) ?_;refine ZB5.s m14.at ⟨by rw[mkE];simp,by rw[mkE];simp,by rw[mkE];simp,by rw[mkE];simp;omega⟩ fun h15 k15 =>?_;have k015:Keep [] h h15:=k014.n k15;have z8:=k14.1;have z15:=k15.1;have l15:=k15.g (g el (.inl rfl));have d15:=k15.g (g qd (.inr (.inl rfl)));have c15:=k15.g (g q2 (.inr (.inr (.inl rfl))));have s15:=k15.g (g q3 (.inr (.inr (.inr rfl))));by_cases hp:putM (mk (L.take j++[L[j]]))=true
   ·rw[if_pos hp,if_pos hp,if_neg (by simp)];refine st_to s15 fun h16 k16 e16 hs16 =>?_;have k016:Keep [] h h16:=k015.new k16 (by simpa using w3);have l16:=k16.get l15 (by simpa using n3l.symm);refine ⟨l16,hgo _ ?_⟩;have kr:Keep [l] h16 (h16.setIfInBounds l (o .ready)):=keep_set;have lr:=get_set (o':=o .ready) l16;generalize h16.setIfInBounds l (o .ready)=h17 at kr lr ⊢;have z16:=k16.1;have z17:=kr.1;refine ⟨k016.new kr (by simpa using wl),by omega,lr,kr.get (k16.get d15 (by simpa using nd3)) (by simpa using ndl),kr.get (k16.get c15 (by simpa using n23)) (by simpa using n2l),?_,?_,v',evs,kr.get (k16.get (k15.g e14) (by simpa using n13)) (by simpa using n1l),?_⟩
    ·rw[YAS hj,ansM_put hp];exact kr.get e16 (by simpa using n3l)
    ·rw[a8];exact fill_step hj hp
    ·rw[YAS hj];exact ((m14.keep0 k15).keep k16 (fun q hq=>by simp at hq;subst hq;exact .inl x3)).keep kr (fun q hq=>by simp at hq;subst hq;exact .inl xl)
   ·rw[if_neg hp,if_neg hp,if_pos (by decide)];refine ⟨l15,hstop _ ?_⟩;have kr:Keep [l] h15 (h15.setIfInBounds l (o .brk)):=keep_set;have lr:=get_set (o':=o .brk) l15;generalize h15.setIfInBounds l (o .brk)=h17 at kr lr ⊢;refine ⟨k015.new kr (by simpa using wl),lr,kr.get d15 (by simpa using ndl),?_⟩;rw[a8,fill_stop hj hp];exact kr.get s15 (by simpa using n3l)
  ·refine ⟨k0H,YAW _,eL,eN,kH.g E2,?_,?_,_,[],kH.g E1,?_⟩
   ·rw[YAT];exact kH.g e5
   ·rw[YAT,YAC]
   ·rw[YAT,mkE];exact MsR.nil
  ·rintro h' ⟨a2,a3,a4,a5,a6,a7,a8,_⟩;refine .inl ⟨a4,?_⟩;have kr:Keep [l] h' (h'.setIfInBounds l (o (.over false))):=keep_set;generalize h'.setIfInBounds l (o (.over false))=h17 at kr ⊢;refine ⟨d0,rfl,kr.get a5 (by simpa using ndl),wd,nd3,a2.new kr (by simpa using wl),?_⟩;rw[YAQ (YAW _)] at a7 a8;rw[YAB (YAW _)] at a8;rw[a8];exact kr.get a7 (by simpa using n3l)
  ·rintro h' ⟨a2,a4,a5,a7⟩;refine .inr (.inr ⟨a4,?_⟩);have kr:Keep [l] h' (h'.setIfInBounds l (o .ovx)):=keep_set;generalize h'.setIfInBounds l (o .ovx)=h17 at kr ⊢;exact ⟨d0,rfl,kr.get a5 (by simpa using ndl),wd,nd3,a2.new kr (by simpa using wl),kr.get a7 (by simpa using n3l)⟩
 ·rintro _ h6 ⟨d,rfl,ed,wd,nd,k6,e6⟩;refine ld_go (sm_all e6) ?_;refine lv_go (by intro q hq;simp at hq;subst hq;exact ed) (by simp) fun h7 k7 =>?_;exact hK h7 (k6.new k7 (by simpa using wd))
def svV (c st:Nat) (v:Srv):SvK.Ty:=(some ⟨c,0⟩,(some ⟨st,0⟩,(v.C.m.users,(v.holder,(v.left,())))))
structure IsSv (n0:Nat) (h:Heap) (b c t st r:Nat) (mv:MbK.Ty) (ps bs es:Slc) (evs:List EtK.Ty) (v:Srv):Prop where
 e:h[b]? = some (vobj t_server_Server SvK (svV c st v))
 c:IsCh n0 h c t mv ps bs es evs v.C
 s:StoAt h st r v.os
 lb:n0≤b
 ls:n0≤st
 lr:n0≤r
section
variable {n0 b c t st r:Nat} {h:Heap} {mv:MbK.Ty} {ps bs es:Slc} {evs:List EtK.Ty} {v:Srv}
theorem IsSv.keep {h':Heap} {S:List Nat} (i:IsSv n0 h b c t st r mv ps bs es evs v) (k:Keep S h h') (hS:∀q∈S,q<n0∨(OffC n0 h ps es q∧q≠b∧q≠st∧q≠r)):IsSv n0 h' b c t st r mv ps bs es evs v:=by
 have nn:∀x,n0≤x→(∀q∈S,q<n0∨q≠x)→x∉S:=fun x hx hh hm=>by
  rcases hh x hm with h | h
  ·omega
  ·exact h rfl
 refine ⟨k.get i.e (nn b i.lb fun q hq =>?_),i.c.keep k fun q hq =>?_,i.s.keep k (nn st i.ls fun q hq =>?_) (nn r i.lr fun q hq =>?_),i.lb,i.ls,i.lr⟩
 ·rcases hS q hq with h | h
  ·exact .inl h
  ·exact .inr h.2.1
 ·rcases hS q hq with h | h
  ·exact .inl h
  ·exact h.1
 ·rcases hS q hq with h | h
  ·exact .inl h
  ·exact .inr h.2.2.1
 ·rcases hS q hq with h | h
  ·exact .inl h
  ·exact .inr h.2.2.2
theorem IsSv.keep0 {h':Heap} (i:IsSv n0 h b c t st r mv ps bs es evs v) (k:Keep [] h h'):IsSv n0 h' b c t st r mv ps bs es evs v:=i.keep k (by simp)
theorem StoAt.ne {h:Heap} {st r:Nat} {os:List ByteArray} (i:StoAt h st r os) {q:Nat} {T:Nat} {cs:Array Value} {f:Nat×Nat} (e:h[q]? = some (.cells cs T f)):r≠q:=by
 obtain ⟨es,c,m1,ml,mk⟩:=i.m;exact msm_ne m1 e
theorem IsSv.put {h':Heap} {hd lf:Int} (i:IsSv n0 h b c t st r mv ps bs es evs v) (k:Keep [b] h h') (e:h'[b]? = some (vobj t_server_Server SvK (svV c st { v with holder:=hd,left:=lf }))):IsSv n0 h' b c t st r mv ps bs es evs { v with holder:=hd,left:=lf }:=by
 refine ⟨e,i.c.keep k fun q hq =>?_,i.s.keep k ?_ ?_,i.lb,i.ls,i.lr⟩
 ·simp at hq;subst hq;exact .inr ⟨rowT i.c.p i.e (by decide),rowT i.c.a i.e (by decide),fun T hT=>cell_ne (o := .cells #[] 0 (0,0)) i.e (by rcases hT with rfl | rfl | rfl | rfl | rfl | rfl <;> decide)⟩
 ·have:st≠b:=vobjN i.s.e i.e (by decide);simpa using this
 ·have:=i.s.ne i.e;simpa using this
theorem svst3 {x:SvK.Ty} {y:Int} {K:Heap→Prop} (e:h[b]? = some (vobj t_server_Server SvK x)) (hK:∀h',Keep [b] h h'→h'[b]? = some (vobj t_server_Server SvK ((x.1,(x.2.1,(x.2.2.1,(y,x.2.2.2.2)))):SvK.Ty))→h'.size=h.size→K h'):Go.Al.st .i ((Pl.mk b 0).fld 3) y h K:=
 st_fld (k:=SvK) (x':=((x.1,(x.2.1,(x.2.2.1,(y,x.2.2.2.2)))):SvK.Ty)) (k' := .i) (n:=3) e (by decide) rfl (hK _ keep_set (get_set e) (by simp))
theorem svst4 {x:SvK.Ty} {y:Int} {K:Heap→Prop} (e:h[b]? = some (vobj t_server_Server SvK x)) (hK:∀h',Keep [b] h h'→h'[b]? = some (vobj t_server_Server SvK ((x.1,(x.2.1,(x.2.2.1,(x.2.2.2.1,(y,()))))):SvK.Ty))→h'.size=h.size→K h'):Go.Al.st .i ((Pl.mk b 0).fld 4) y h K:=
 st_fld (k:=SvK) (x':=((x.1,(x.2.1,(x.2.2.1,(x.2.2.2.1,(y,()))))):SvK.Ty)) (k' := .i) (n:=4) e (by decide) rfl (hK _ keep_set (get_set e) (by simp))
theorem sv_f {x:SvK.Ty} (e:h[b]? = some (vobj t_server_Server SvK x)):sm .p ((Pl.mk b 0).fld 0) x.1 h∧sm .p ((Pl.mk b 0).fld 1) x.2.1 h∧sm .i ((Pl.mk b 0).fld 2) x.2.2.1 h∧sm .i ((Pl.mk b 0).fld 3) x.2.2.2.1 h∧sm .i ((Pl.mk b 0).fld 4) x.2.2.2.2.1 h:=
 ⟨sm_fld e rfl (by decide),sm_fld e rfl (by decide),sm_fld e rfl (by decide),sm_fld e rfl (by decide),sm_fld e rfl (by decide)⟩
theorem server_size.s {K:Int→Heap→Prop} (i:IsSv n0 h b c t st r mv ps bs es evs v) (o:CnOk v.C) (hK:∀h',Keep [] h h'→K (v.C.all.length:Int) h'):ZBA.C (some ⟨b,0⟩) h K:=by
 apply ZBA.c;unfold ZBA.m;refine nck_go (ld_go (sv_f i.e).1 ?_);refine chain_Log.s i.c o fun x h' k' lr _ =>?_;rw[lr.n];exact hK h' k'
theorem server_Holder.s {K:Int→Bool→Heap→Prop} (i:IsSv n0 h b c t st r mv ps bs es evs v) (hK:K (if v.holder = -1 then 0 else v.holder) (decide (v.holder ≠ -1)) h):ZAw.C (some ⟨b,0⟩) h K:=by
 apply ZAw.c;unfold ZAw.m;have f:=(sv_f i.e).2.2.2.1;refine jn_at (decide (v.holder = -1),()) h ?_ ?_
 ·rw[if_neg (by simp)];exact nck_go (ld_go f ⟨rfl,rfl⟩)
 by_cases hh:v.holder = -1
 ·rw[if_pos (by simpa using hh)];rw[if_pos hh,dF (by simpa using hh)] at hK;exact hK
 ·rw[if_neg (by simpa using hh)];rw[if_neg hh,dT hh] at hK;exact nck_go (ld_go f hK)
theorem server_Tick.s {n:Int} {K:Int→Heap→Prop} (i:IsSv n0 h b c t st r mv ps bs es evs v) (o:SrvOk v) (hK:∀h',Keep [b] h h'→IsSv n0 h' b c t st r mv ps bs es evs (tickS v n).2→K (tickS v n).1 h'):ZA8.C (some ⟨b,0⟩) n h K:=by
 apply ZA8.c;unfold ZA8.m;unfold tickS at hK;have ol:=o.l;by_cases hn:n<0∨1000<n
 ·rw[if_pos hn] at hK;refine ⟨fun _ _=>False,?_,fun _ _ h=>h.elim⟩;dsimp only;rw[if_neg (by simp)];refine jn_at (true,()) h ?_ ?_
  ·by_cases h0:n<0
   ·rw[if_pos (dT h0)];exact ⟨rfl,rfl⟩
   ·rw[if_neg (by simpa using h0)];exact ⟨by rw[dT (by omega)],rfl⟩
  ·rw[if_pos (by rfl)];exact hK h Keep.rfl i
 rw[if_neg hn] at hK;refine jn_at () h ?_ ?_
 ·rw[if_neg (by simp)];refine jn_at (false,()) h ?_ ?_
  ·rw[if_neg (by simp;omega)];exact ⟨by rw[dF (by omega)],rfl⟩
  ·rw[if_neg (by simp)];exact ⟨rfl,rfl⟩
 refine nck_go (ld_go (sv_f i.e).2.2.2.2 (nck_go ?_));have hw:w64 (v.left-n)=v.left-n:=w64_id (by omega) (by omega);show Go.Al.st .i ((Pl.mk b 0).fld 4) (w64 (v.left-n)) h _;rw[hw];refine svst4 i.e fun h1 k1 e1 hs1=>nck_go (ld_go (sv_f e1).2.2.2.2 ?_);have i1:IsSv n0 h1 b c t st r mv ps bs es evs { v with holder:=v.holder,left:=v.left-n }:=i.put k1 e1;by_cases hz:v.left-n≤0
 ·rw[if_pos hz] at hK;refine jn_in (fun _ h'=>Keep [b] h h'∧IsSv n0 h' b c t st r mv ps bs es evs { v with holder := -1,left:=0 }) ?_ ?_
  ·rw[if_pos (dT hz)];refine nck_go (svst3 e1 fun h2 k2 e2 hs2=>nck_go (svst4 e2 fun h3 k3 e3 hs3 =>?_));have kk:Keep [b] h h3:=(k1.then k2 (fun q hq _=>hq) (fun q hq _=>hq)).then k3 (fun q hq _=>hq) (fun q hq _=>hq);exact ⟨kk,i.put kk e3⟩
  ·rintro _ h' ⟨k',i'⟩;exact hK h' k' i'
 ·rw[if_neg hz] at hK;refine jn_at () h1 ?_ ?_
  ·rw[if_neg (by simpa using hz)];exact ⟨rfl,rfl⟩
  ·exact hK h1 k1 i1
theorem server_fetch.s {mb:Nat} {mw:MsK.Ty} {m:Msg} {K:ByteArray→Heap→Prop} (i:IsSv n0 h b c t st r mv ps bs es evs v) (o:SrvOk v) (em:h[mb]? = some (vobj t_api_Msg MsK mw)) (hu:mw.2.1=m.user) (hf:mw.2.2.1=m.frm) (f0:0≤m.frm) (f1:m.frm≤65535)
 (hK:∀h',Keep [b] h h'→IsSv n0 h' b c t st r mv ps bs es evs (fetchS v m).2→K (bx (fetchS v m).1) h'):ZBL.C (some ⟨b,0⟩) (some ⟨mb,0⟩) h K:=by
 apply ZBL.c;unfold ZBL.m;unfold fetchS at hK;have oh:=o.h;have on:=o.c.n;have F:=ms_f em;rw[hu,hf] at F;refine jn_at (decide (v.holder ≠ -1∧v.holder≠m.user),()) h ?_ ?_
 ·refine nck_go (ld_go (sv_f i.e).2.2.2.1 ?_);by_cases h1:v.holder = -1
  ·rw[if_neg (by show ¬(!decide (v.holder = -1))=true;simpa using h1)];exact ⟨by rw[dF (by simp[h1])],rfl⟩
  ·rw[if_pos (by show (!decide (v.holder = -1))=true;simpa using h1)];refine nck_go (ld_go (sv_f i.e).2.2.2.1 (nck_go (ld_go F.2.1 ⟨?_,rfl⟩)));show ((!decide (v.holder=m.user)),())=_;by_cases h2:v.holder=m.user
   ·rw[dT h2,dF (by simp[h2])];rfl
   ·rw[dF h2,dT ⟨h1,h2⟩];rfl
 by_cases hc:0≤v.holder∧v.holder≠m.user
 ·rw[if_pos hc] at hK;rw[if_pos (dT ⟨by omega,hc.2⟩)];refine nck_go (ld_go F.2.1 ?_);refine server_size.s i o.c fun h1 k1 =>?_;have F1:=ms_f (k1.g em);rw[hu,hf] at F1;refine ⟨F1.2.1,?_⟩;refine ZA1.s (MsR.nil (n0:=0)).at ⟨by simp,by simp,by simp,by simp⟩ fun h2 k2 =>?_;have kk:=(k1.n k2);exact hK h2 (kk.weak (by simp)) (i.keep0 kk)
 rw[if_neg hc] at hK;rw[if_neg (by simp;omega)];have nmb:mb≠b:=vobjN em i.e (by decide);refine nck_go (ld_go F.2.1 (nck_go ?_));refine svst3 i.e fun h1 k1 e1 hs1=>nck_go (svst4 e1 fun h2 k2 e2 hs2 =>?_);have k02:Keep [b] h h2:=k1.then k2 (fun q hq _=>hq) (fun q hq _=>hq);have i2:IsSv n0 h2 b c t st r mv ps bs es evs { v with holder:=m.user,left:=10 }:=i.put k02 e2;have em2:=k02.get em (by simpa using nmb)
 have F2:∀h',Keep [] h2 h'→sm .i ((Pl.mk mb 0).fld 1) m.user h'∧sm .i ((Pl.mk mb 0).fld 2) m.frm h':=fun h' k'=>by
  have:=ms_f (k'.g em2);rw[hu,hf] at this;exact ⟨this.2.1,this.2.2.1⟩
 have F0:=F2 h2 Keep.rfl;refine nck_go (ld_go F0.1 (nck_go (ld_go (sv_f i2.e).1 (nck_go (ld_go F0.2 ?_)))));refine server_size.s i2 o.c fun h3 k3 =>?_;have F3:=F2 h3 k3;refine ⟨F3.2,(sv_f (i2.keep0 k3).e).1,F3.1,?_⟩;have hfr:m.frm=((m.frm.toNat:Nat):Int):=by omega
 show ZBS.C (some ⟨c,0⟩) m.frm h3 _;rw[hfr];refine chain_From.s (i2.keep0 k3).c o.c (by omega) fun it h4 k4 hit =>?_;have k24:Keep [] h2 h4:=k3.n k4;refine ⟨(F2 h4 k24).1,?_⟩;refine ZAW.s hit (fun e he =>?_) (by rw[YAL];show v.C.all.length-_≤_;omega) fun h5 k5 =>?_
 ·have:=o.c.a e (List.drop_subset _ _ he);have:=(put_vec this.1).2.2.1;omega
 ·have k25:Keep [] h2 h5:=k24.n k5;exact hK h5 (k02.then k25 (fun q hq _=>hq) (by simp)) (i2.keep0 k25)
theorem server_want.s {mb:Nat} {mw:MsK.Ty} {m:Msg} {K:ByteArray→Heap→Prop} (i:IsSv n0 h b c t st r mv ps bs es evs v) (em:h[mb]? = some (vobj t_api_Msg MsK mw)) (hu:mw.2.1=m.user) (g:Seg (.ar 32 .u8) mw.2.2.2.2.1 m.wants h)
 (hK:∀h',Keep [] h h'→K (bx (wantS v m)) h'):ZBQ.C (some ⟨b,0⟩) (some ⟨mb,0⟩) h K:=by
 apply ZBQ.c;unfold ZBQ.m;unfold wantS at hK;have F:=ms_f em;rw[hu] at F;have gl:=g.len;refine nck_go (ld_go F.2.2.2.2.1 ?_);by_cases hl:64<m.wants.length
 ·rw[if_pos hl] at hK;rw[if_pos (dT (by omega))];exact hK h Keep.rfl
 rw[if_neg hl] at hK;rw[if_neg (by simp;omega)];refine nck_go (ld_go F.2.1 (nck_go (ld_go F.2.2.2.2.1 ?_)));refine server_held.s i.e rfl i.s g (by omega) fun it h1 k1 hit =>?_;have F1:=ms_f (k1.g em);rw[hu] at F1;refine ⟨F1.2.1,?_⟩;refine ZAm.s hit (by rw[YAM];omega) fun h2 k2 =>?_;exact hK h2 (k1.n k2)
theorem server_Take.g {s:By} {K:ByteArray→Heap→Prop} (i:IsSv n0 h b c t st r mv ps bs es evs v) (o:SrvOk v) (hz:s.length≤9223372036854775807)
 (hadd:∀m mb mw es' h1,getM s=some m→m.kind=4→m.user<v.C.m.users→Keep [] h h1→h1[mb]? = some (vobj t_api_Msg MsK mw)→h.size≤mb→MsR h.size h1 mw es' m→ZDH.C (some ⟨b,0⟩) (some ⟨mb,0⟩) h1 K)
 (hK:(∀m,getM s=some m→m.user<v.C.m.users→m.kind≠4)→∀h',Keep [b] h h'→IsSv n0 h' b c t st r mv ps bs es evs (takeS v s).2→K (bx (takeS v s).1) h'):ZAP.C (some ⟨b,0⟩) (bx s) h K:=by
 apply ZAP.c;unfold ZAP.m;unfold takeS at hK;rw[if_neg (by simp)];refine ZC7.s hz fun w er evs' h1 k1 res =>?_;refine new_st_gen fun mb h3 hb3 k3 e3 hs3 =>?_;have e3:h3[mb]? = some (vobj t_api_Msg MsK w):=e3;have k03:Keep [] h h3:=k1.n k3;have i3:=i.keep0 k03;have z1:=k1.1
 cases hg:getM s with
 | none =>
   rw[hg] at res hK;have res:er≠0:=res;refine jn_at (true,()) h3 ?_ ?_
   ·rw[if_pos (by simpa using res)];exact ⟨rfl,rfl⟩
   ·rw[if_pos (by rfl)];exact hK (by simp) h3 (k03.weak (by simp)) i3
 | some m =>
   rw[hg] at res hK;obtain ⟨rfl,mr⟩:=res;have mr3:=mr.keep0 k3;have F:=ms_f e3;dsimp only at hK;have hm:=(getM_some hg).1;unfold putM msgMay at hm;simp only [YAa,decide_eq_true_eq] at hm;obtain ⟨⟨m1,m2,m3,m4,m5,m6,m7,m8,m9,m10,m11⟩,m12⟩:=hm;refine jn_at (decide (m.user≥v.C.m.users),()) h3 ?_ ?_
   ·rw[if_neg (by simp)];refine ld_go F.2.1 (nck_go (ld_go (sv_f i3.e).2.2.1 ⟨?_,rfl⟩));rw[mr.u];rfl
   by_cases hu:v.C.m.users≤m.user
   ·rw[if_pos (dT hu)];rw[if_pos hu] at hK;exact hK (fun m' hm'=>by cases hm';omega) h3 (k03.weak (by simp)) i3
   rw[if_neg (by simpa using hu)];rw[if_neg hu] at hK;have F0:=F.1;rw[mr.k] at F0;refine ld_go F0 ?_;by_cases q0:m.kind=0
   ·rw[if_pos (dT q0)];rw[if_pos q0] at hK;refine server_fetch.s (m:=m) i3 o e3 mr.u mr.f m5 m6 fun h4 k4 i4 =>?_;exact hK (fun m' hm'=>by cases hm';omega) h4 (k03.then k4 (by simp) (fun q hq _=>hq)) i4
   rw[if_neg (by simpa using q0)];rw[if_neg q0] at hK;by_cases q2:m.kind=2
   ·rw[if_pos (dT q2)];rw[if_pos q2] at hK;refine server_want.s (m:=m) i3 e3 mr.u mr3.w.seg fun h4 k4 =>?_;have kk:=k03.n k4;exact hK (fun m' hm'=>by cases hm';omega) h4 (kk.weak (by simp)) (i.keep0 kk)
   rw[if_neg (by simpa using q2)];rw[if_neg q2] at hK;by_cases q4:m.kind=4
   ·rw[if_pos (dT q4)];exact hadd m mb w evs' h3 hg q4 (by omega) k03 e3 (by omega) mr3
   ·rw[if_neg (by simpa using q4)];rw[if_neg q4] at hK;exact hK (fun m' hm'=>by cases hm';exact fun _=>q4) h3 (k03.weak (by simp)) i3
theorem server_Take.q {s:By} {K:ByteArray→Heap→Prop} (i:IsSv n0 h b c t st r mv ps bs es evs v) (o:SrvOk v) (hz:s.length≤9223372036854775807) (hk:∀m,getM s=some m→m.kind≠4)
 (hK:∀h',Keep [b] h h'→IsSv n0 h' b c t st r mv ps bs es evs (takeS v s).2→K (bx (takeS v s).1) h'):ZAP.C (some ⟨b,0⟩) (bx s) h K:=
 server_Take.g i o hz (fun m mb mw es' h1 hm h4 _ _ _ _ _=>absurd h4 (hk m hm)) (fun _=>hK)
theorem server_Log.s {K:LgK.Ty→Heap→Prop} (i:IsSv n0 h b c t st r mv ps bs es evs v) (o:CnOk v.C) (hK:∀x h',Keep [] h h'→LgR h' x v.C→(∀q∈etO x.2.2.1,h.size≤q)→K x h'):ZBd.C (some ⟨b,0⟩) h K:=by
 apply ZBd.c;unfold ZBd.m;refine new_gen fun b1 h1 hb1 k1 e1 hs1 =>?_;have e1:h1[b1]? = some (vobj t_api_Log LgK lg0):=e1;have i1:=i.keep0 k1;rw[if_neg (by simp)];refine nck_go (ld_go (sv_f i1.e).1 ?_);refine chain_Log.s i1.c o fun x h2 k2 lr ho =>?_;have e2:=k2.g e1;have z1:=k1.1;have l1:=lt_of_some e1;refine st_to e2 fun h3 k3 e3 hs3=>ld_go (sm_all e3) ?_;refine hK x h3 ((k1.n k2).new k3 (by simp;omega)) ⟨lr.n,lr.r,lr.e.keep k3 fun q hq hm =>?_⟩ fun q hq=>by have:=ho q hq;omega
 simp at hm;subst hm;have:=ho q hq;omega
end
theorem objs_len {X:Fs} (hm:stMay X=true):(buildO X).length≤2400*X.length∧X.length≤24:=by
 obtain ⟨x1,x2,x3,_⟩:=st_ok hm
 have:∀(l:Fs),(∀t∈l,tabMay t=true)→(l.flatMap tabObjs).length≤2400*l.length:=by
  intro l
  induction l with
  | nil=>intro _;simp
  | cons a r ih =>
    intro h;have h1:=ih fun x hx=>h x (by simp[hx]);obtain ⟨_,q2,q3⟩:=tab_ok (h a (by simp));have h2:=flatObjs_len q2;rw[YAE,YAJ,YAK];unfold tabObjs at h1 ⊢;rw[YAJ,YAK,YAN];omega
 have h1:=this X x3;have h2:=onceL_len (L:=([]:List ByteArray)) (xs:=X.flatMap tabObjs);unfold buildO;simp only [YAN,Nat.zero_add] at h2;omega
def newV (k:Kys):Srv:=⟨newC k,(buildO (emptyS k.m)).foldl putO [],-1,0⟩
theorem newV_ok {k:Kys} (h:kysMay k=true):SrvOk (newV k):=
 have:=putsO_ok (l:=buildO (emptyS k.m)) (os:=[]) (by simp) (by simp)
 ⟨new_ok h,this.1,this.2,by show (-1:Int) ≤ -1;decide,by show -1000≤(0:Int)∧(0:Int)≤10;decide,no1⟩
theorem ZBg.s {v:KeK.Ty} {k:Kys} {h:Heap} {K:Option Pl→Int→Heap→Prop} (a:KeAt h v k) (hl:k.pubs.length≤9223372036854775806) (hg:∀g∈k.m.groups,g.length*8≤140737488355328)
 (hbad:kysMay k=false→∀h',Keep [] h h'→K none 2300 h')
 (hok:kysMay k=true→∀h' n0 b c t st r mv ps bs,Keep [] h h'→h.size≤n0→IsSv n0 h' b c t st r mv ps bs ⟨none,0,0⟩ [] (newV k)→K (some ⟨b,0⟩) 0 h'):ZBg.C v h K:=by
 apply ZBg.c;unfold ZBg.m;refine new_gen fun b1 h1 hb1 k1 e1 hs1 =>?_;have e1:h1[b1]? = some (vobj t_api_Keys KeK v):=e1;have z1:=k1.1;refine ld_go (sm_all e1) ?_;refine ZC2.s (a.keep k1) hl hg (fun hm h2 k2 =>?_) fun hm h2 c t mv ps bs k2 ic =>?_
 ·rw[if_pos (by decide)];exact hbad hm h2 (k1.n k2)
 rw[if_neg (by simp)];replace hok:=hok hm;obtain ⟨m1,m2,m3,m4,m5,m6⟩:=kys_u hm;have z2:=k2.1;refine ZCj.s fun h3 st r k3 is ws wr =>?_;have e3:=k3.g (k2.g e1);have k03:Keep [] h h3:=(k1.n k2).n k3;refine ld_go (ke_f e3).1 ?_;have hpr:1≤prins k.m∧prins k.m≤24:=by unfold prins;omega
 refine ZBw.s (a.keep k03).m (by omega) (fun hn=>by rw[m1] at hn;simp at hn) fun _ h4 t0 ss vv k4 w4 =>?_;refine new_st_gen fun b2 h6 hb2 k6 e6 hs6 =>?_;refine ld_go (sm_all e6) ?_
 have sb:∀t∈emptyS k.m,t.length≤9223372036854775807:=fun t ht=>by
  rw[emptyU_eq] at ht;rcases List.mem_cons.1 ht with rfl | ht
  ·simp
  ·rw[List.eq_of_mem_replicate ht];simp
 refine ZBz.s (w4.keep k6) sb (fun hn=>by rw[emptyU_may hpr.1 hpr.2] at hn;simp at hn) fun _ h7 o1 o2 k7 _ r7 _ f7 =>?_;have k37:Keep [] h3 h7:=(k4.n k6).n k7;have k27:Keep [] h2 h7:=k3.n k37;have ic7:=ic.keep0 k27;have is7:=is.keep0 k37;have e7:=k37.g e3;have rl:=r7.len;unfold newV at hok;have hbl:=objs_len (emptyU_may hpr.1 hpr.2);generalize buildO (emptyS k.m)=L at *;refine lp_go (fun (y:Int×Unit) (hh:Heap)=>∃j:Nat,y.1=((j:Nat):Int)∧j≤L.length∧Keep [r] h7 hh∧StoAt hh st r ((L.take j).foldl putO [])) (fun (y:Int×Unit) _=>L.length-y.1.toNat) ?_ ?_
 ·exact ⟨0,rfl,YAZ _,Keep.rfl,is7⟩
 rintro ⟨(ii:Int),_⟩ hh ⟨j,ej,hj,kh,ih⟩;dsimp only at ej ⊢;subst ej;have nr1:b1∉[r]:=by have:=is7.ne e7;simpa using this.symm
 have rh:Row hh t_string .s o2 L:=r7.keep kh fun q hq hm=>by
  simp at hm;subst hm;obtain ⟨es',c',m',_⟩:=is7.m;exact msm_out m' r7 hq
 by_cases hlt:j<L.length
 case neg=>
  rw[if_neg (show ¬decide (((j:Nat):Int)<(o2.len:Int))=true from dn (by omega))];obtain rfl:j=L.length:=by omega
  rw[YAQ (YAW _)] at ih;have eh:=kh.get e7 nr1;have fu:sm .i ((((Pl.mk b1 0).fld 0).fld 0)) v.1.1 hh:=(ke_f eh).2.2;refine ld_go fu ?_;refine new_gen fun b h8 hb k8 e8 hs8 =>?_;have k7h:Keep [r] h7 h8:=kh.then k8 (fun q hq _=>hq) (by simp);have hu:v.1.1=k.m.users:=a.m.u;rw[hu] at e8;have z3:=k3.1;have z37:=k37.1;have z8:=kh.1
  have icr:∀q∈[r],OffC h1.size h7 ps ⟨none,0,0⟩ q:=fun q hq=>by
   simp at hq;subst hq;obtain ⟨es',c',m',_⟩:=is7.m;exact .inr ⟨fun hq=>msm_out m' ic7.p hq,by simp[own],fun T _ cc f e=>msm_ne m' e rfl⟩
  refine hok h8 h1.size b c t st r mv ps bs ((k03.n k37).new k7h (by simp;omega)) (by omega) ⟨e8,ic7.keep k7h icr,ih.keep0 k8,by omega,by omega,by omega⟩
 rw[if_pos (show decide (((j:Nat):Int)<(o2.len:Int))=true from dT (by omega))];refine seg_ix rh.seg (x:=L[j]) (by omega) (by rw[YAU];exact YAG hlt) rfl ?_;refine ZBC.s ih fun z e h9 k9 i9 =>?_;have hw:w64 (((j:Nat):Int)+1)=((j+1:Nat):Int):=w6 (by omega);rw[hw];refine ⟨⟨j+1,rfl,by omega,kh.then k9 (fun q hq _=>hq) (fun q hq _=>hq),?_⟩,by show L.length-((j+1:Nat):Int).toNat<L.length-((j:Nat):Int).toNat;omega⟩;rw[YAS hlt,List.foldl_append];exact i9
end Go.Proofs.Tryz
