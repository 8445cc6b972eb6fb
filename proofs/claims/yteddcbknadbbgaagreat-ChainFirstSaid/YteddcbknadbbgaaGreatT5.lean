import Derived.Test.YteddcbknadbbgaaGreatT4
import Derived.Test.YteddcbknadbbgaaGreatModels4
set_option linter.unusedVariables false
set_option linter.unusedSimpArgs false
set_option maxRecDepth 100000
namespace Go.Proofs.Tryz
open Go Go.Al
def Fr (n:Nat) (h h':Heap):Prop:=∃S,Keep S h h'∧∀q∈S,n≤q
theorem Fr.new {n:Nat} {h0 h h':Heap} (f:Fr n h h') (k:Keep [] h0 h) (hn:h0.size≤n):Keep [] h0 h':=by
 obtain ⟨S,a,b⟩:=f
 exact k.new a fun q hq=>Nat.le_trans hn (b q hq)
theorem Fr.rfl {n:Nat} {h:Heap}:Fr n h h:=⟨[],Keep.rfl,by simp⟩
theorem Fr.trans {n:Nat} {h h1 h2:Heap} (a:Fr n h h1) (b:Fr n h1 h2):Fr n h h2:=by
 obtain ⟨S,a1,a2⟩:=a
 obtain ⟨T,b1,b2⟩:=b
 refine ⟨S++T,a1.trans b1,fun q hq =>?_⟩
 rcases List.mem_append.1 hq with h | h
 ·exact a2 q h
 ·exact b2 q h
structure FsAt (n:Nat) (h:Heap) (p:Nat) (e:Ett):Prop where
 w:∃w,h[p]? = some (vobj t_api_Entry EtK w)∧EtR h w e∧∀q∈etO w,n≤q
 l:n≤p
theorem EtR.keepP {h h':Heap} {p:Nat} {w x:EtK.Ty} {e:Ett} (a:EtR h w e) (ep:h[p]? = some (vobj t_api_Entry EtK x)) (k:Keep [p] h h'):EtR h' w e:=
 ⟨a.u,a.q,a.w.keep k fun q hq hm=>by simp at hm;subst hm;exact rowT a.w ep (by decide) hq,a.r,a.t.keep k fun q hq hm=>by simp at hm;subst hm;exact rowT a.t ep (by decide) hq,a.s⟩
section
variable {n p:Nat} {h:Heap} {e:Ett} {K:Heap→Prop}
theorem FsAt.sign (f:FsAt n h p e) {s:By} (hK:∀h',Fr n h h'→FsAt n h' p { e with sign:=s }→K h'):Go.Al.st .s ((Pl.mk p 0).fld 36) (bx s) h K:=by
 obtain ⟨⟨w,a,b,c⟩,l⟩:=f
 refine st_fld (k:=EtK) (k' := .s) (n:=36) a (by decide) et_w36 ?_
 have k:Keep [p] h (h.setIfInBounds p (vobj t_api_Entry EtK (sgnV w s))):=keep_set
 exact hK _ ⟨_,k,by simpa using l⟩ ⟨⟨_,get_set a,(b.keepP a k).sgn,c⟩,l⟩
theorem FsAt.user (f:FsAt n h p e) {u:Int} (hK:∀h',Fr n h h'→FsAt n h' p { e with user:=u }→K h'):Go.Al.st .i ((Pl.mk p 0).fld 0) u h K:=by
 obtain ⟨⟨w,a,b,c⟩,l⟩:=f
 refine st_fld (k:=EtK) (x':=((u,w.2):EtK.Ty)) (k' := .i) (n:=0) a (by decide) rfl ?_
 have k:Keep [p] h (h.setIfInBounds p (vobj t_api_Entry EtK ((u,w.2):EtK.Ty))):=keep_set
 have b':=b.keepP a k
 exact hK _ ⟨_,k,by simpa using l⟩ ⟨⟨_,get_set a,⟨rfl,b'.q,b'.w,b'.r,b'.t,b'.s⟩,c⟩,l⟩
theorem FsAt.seq (f:FsAt n h p e) {u:Int} (hK:∀h',Fr n h h'→FsAt n h' p { e with seq:=u }→K h'):Go.Al.st .i ((Pl.mk p 0).fld 1) u h K:=by
 obtain ⟨⟨w,a,b,c⟩,l⟩:=f
 refine st_fld (k:=EtK) (x':=((w.1,(u,w.2.2)):EtK.Ty)) (k' := .i) (n:=1) a (by decide) rfl ?_
 have k:Keep [p] h (h.setIfInBounds p (vobj t_api_Entry EtK ((w.1,(u,w.2.2)):EtK.Ty))):=keep_set
 have b':=b.keepP a k
 exact hK _ ⟨_,k,by simpa using l⟩ ⟨⟨_,get_set a,⟨b'.u,rfl,b'.w,b'.r,b'.t,b'.s⟩,c⟩,l⟩
theorem FsAt.vec {i:Nat} {y:Int} {P:Slc→(Slc→Prop)→Prop} (f:FsAt n h p e) (hi:i<e.vec.length) (hK:∀h',Fr n h h'→FsAt n h' p { e with vec:=e.vec.set i y }→K h') :
 ∃s,sm .sl ((Pl.mk p 0).fld 2) s h∧Seg .i s e.vec h∧ix s (i:Int) 1 fun l=>Go.Al.st .i l y h K:=by
 obtain ⟨⟨w,a,b,c⟩,l⟩:=f
 refine ⟨w.2.2.1,(et_f a).2.2.1,b.w.seg,ix_st b.w (by omega) (by omega) rfl fun h' k r =>?_⟩
 rw[Int.toNat_natCast] at r
 refine hK h' ⟨_,k,fun q hq=>c q (by unfold etO;simp[hq])⟩ ⟨⟨w,k.get a (rowT b.w a (by decide)),⟨b.u,b.q,r,b.r,b.t.keep k (tagO b.t b.w (by decide)),b.s⟩,c⟩,l⟩
theorem FsAt.tab {i j:Nat} {y:UInt8} (f:FsAt n h p e) (hi:i<e.tables.length) (hj:j<32) (hK:∀h',Fr n h h'→FsAt n h' p { e with tables:=e.tables.set i (e.tables[i].setIfInBounds j y) }→K h') :
 ∃s,sm .sl ((Pl.mk p 0).fld 35) s h∧Seg (.ar 32 .u8) s e.tables h∧ix s (i:Int) 32 fun l=>ixa l 32 (j:Int) 1 fun l2=>Go.Al.st .u8 l2 y h K:=by
 obtain ⟨⟨w,a,b,c⟩,l⟩:=f
 refine ⟨w.2.2.2.2.1,(et_f a).2.2.2.2.1,b.t.seg,row_st_u8 b.t hi hj fun h' k r =>?_⟩
 refine hK h' ⟨_,k,fun q hq=>c q (by unfold etO;simp[hq])⟩ ⟨⟨w,k.get a (rowT b.t a (by decide)),⟨b.u,b.q,b.w.keep k (tagO b.w b.t (by decide)),b.r,r,b.s⟩,c⟩,l⟩
theorem et_w6 {v:EtK.Ty} {i:Nat} {y:UInt8} (hi:i<32):wrL (EtK.cells v) (3+i) (Kd.u8.cells y)=EtK.cells ((v.1,(v.2.1,(v.2.2.1,(v.2.2.2.1.setIfInBounds i y,v.2.2.2.2)))):EtK.Ty):=by
 have e0:∀z:HVec,EtK.cells ((v.1,(v.2.1,(v.2.2.1,(z,v.2.2.2.2)))):EtK.Ty)=(Kd.i.cells v.1++(Kd.i.cells v.2.1++Kd.sl.cells v.2.2.1))++((Kd.ar 32 .u8).cells z++(Kd.sl.cells v.2.2.2.2.1++(Kd.s.cells v.2.2.2.2.2.1++[]))):=fun z=>rfl
 have e1:EtK.cells v=_:=e0 v.2.2.2.1
 rw[e1,e0 (v.2.2.2.1.setIfInBounds i y)]
 have l3:(Kd.i.cells v.1++(Kd.i.cells v.2.1++Kd.sl.cells v.2.2.1)).length=3:=rfl
 have l32:((Kd.ar 32 .u8).cells v.2.2.2.1).length=32:=Kd.cells_length ..
 have hw:=arr_wr (z:=v.2.2.2.1) (y:=y) hi
 have ly:(Kd.u8.cells y).length=1:=rfl
 rw[←hw]
 generalize Kd.i.cells v.1++(Kd.i.cells v.2.1++Kd.sl.cells v.2.2.1)=A at *
 generalize (Kd.ar 32 .u8).cells v.2.2.2.1=Z at *
 generalize Kd.sl.cells v.2.2.2.2.1++(Kd.s.cells v.2.2.2.2.2.1++[])=B at *
 generalize Kd.u8.cells y=Y at *
 unfold wrL
 rw[List.take_append,List.take_of_length_le (by omega),l3,Nat.add_sub_cancel_left,List.take_append_of_le_length (by omega)]
 have hd:List.drop (3+i+Y.length) (A++(Z++B))=List.drop (i+Y.length) Z++B:=by
  rw[show 3+i+Y.length=3+(i+Y.length) by omega,←List.drop_drop,List.drop_left' l3,List.drop_append_of_le_length (by omega)]
 rw[hd]
 simp only [List.append_assoc]
theorem FsAt.root {i:Nat} {y:UInt8} (f:FsAt n h p e) (hi:i<32) (hK:∀h',Fr n h h'→FsAt n h' p { e with root:=e.root.setIfInBounds i y }→K h'):ixa ((Pl.mk p 0).fld 3) 32 (i:Int) 1 fun l=>Go.Al.st .u8 l y h K:=by
 obtain ⟨⟨w,a,b,c⟩,l⟩:=f
 refine ⟨by omega,by omega,?_⟩
 rw[Int.toNat_natCast,Nat.mul_one]
 show Go.Al.st .u8 ⟨p,0+3+i⟩ y h K
 rw[show 0+3+i=0+(3+i) by omega]
 refine st_fld (k:=EtK) (k' := .u8) (n:=3+i) a (show 3+i+1≤37 by omega) (et_w6 hi) ?_
 have k:Keep [p] h (h.setIfInBounds p (vobj t_api_Entry EtK ((w.1,(w.2.1,(w.2.2.1,(w.2.2.2.1.setIfInBounds i y,w.2.2.2.2)))):EtK.Ty))):=keep_set
 have b':=b.keepP a k
 refine hK _ ⟨_,k,by simpa using l⟩ ⟨⟨_,get_set a,⟨b'.u,b'.q,b'.w,?_,b'.t,b'.s⟩,c⟩,l⟩
 show w.2.2.2.1.setIfInBounds i y=e.root.setIfInBounds i y
 rw[b.r]
theorem FsAt.root_ld {i:Nat} {K:UInt8→Prop} (f:FsAt n h p e) (hi:i<32) (hK:K e.root[i]):ixa ((Pl.mk p 0).fld 3) 32 (i:Int) 1 fun l=>ld .u8 l h K:=by
 obtain ⟨⟨w,a,b,c⟩,l⟩:=f
 refine ⟨by omega,by omega,?_⟩
 rw[Int.toNat_natCast,Nat.mul_one]
 have f3:=(et_f a).2.2.2.1
 rw[b.r] at f3
 exact ld_go (sm_sub (k' := .u8) (n:=i) (y:=e.root[i]) f3 (show i+1≤32 by omega) (arr_rd hi)) hK
theorem FsAt.app (f:FsAt n h p e) {y:Int} (hl:(e.vec.length+1)*8≤140737488355328) (hK:∀h',Fr n h h'→FsAt n h' p { e with vec:=e.vec++[y] }→K h') (hn:n≤h.size) :
 ld .sl ((Pl.mk p 0).fld 2) h fun x36=>bs 3 .i [y] h fun s1 h54=>slCells s1 (s1.len*1) h54 fun cs1=>ap 3 .i 8 x36 s1.len cs1 h54 fun s2 h55=>Go.Al.st .sl ((Pl.mk p 0).fld 2) s2 h55 K:=by
 obtain ⟨⟨w,a,b,c⟩,l⟩:=f
 refine ld_go (et_f a).2.2.1 ?_
 refine bs_gen fun bq h1 hbq k1 r1 hs1 =>?_
 refine slCells_seg r1.seg (by simp[Kd.size]) ?_
 have b1:=b.keep k1 (by simp)
 have a1:=k1.get a (by simp)
 refine ap_row (T:=t_int) (k := .i) (ys:=[y]) b1.w rfl rfl (by simpa using hl) fun s2 h2 r2 k2 o2 =>?_
 have a2:=k2.get a1 (rowT b1.w a1 (by decide))
 refine st_fld (k:=EtK) (k' := .sl) (n:=2) a2 (by decide) et_w2 ?_
 have k3:Keep [p] h2 (h2.setIfInBounds p (vobj t_api_Entry EtK ((w.1,(w.2.1,(s2,w.2.2.2))):EtK.Ty))):=keep_set
 have t2:=b1.t.keep k2 (tagO b1.t b1.w (by decide))
 have z1:=k1.1
 have hr:∀ {T:Nat} {k:Kd} {s:Slc} {L:List k.Ty},Row h2 T k s L→T≠t_api_Entry→Row (h2.setIfInBounds p (vobj t_api_Entry EtK ((w.1,(w.2.1,(s2,w.2.2.2))):EtK.Ty))) T k s L:=fun r hT=>r.keep k3 fun q hq hm=>by simp at hm;subst hm;exact rowT r a2 (fun h=>hT h.symm) hq
 refine hK _ (Fr.trans ⟨_,k1,by simp⟩ (Fr.trans ⟨_,k2,fun q hq=>c q (by unfold etO;simp[hq])⟩ ⟨_,k3,by simpa using l⟩)) ⟨⟨_,get_set a2,⟨b.u,b.q,hr r2 (by decide),b.r,hr t2 (by decide),b.s⟩,fun q hq =>?_⟩,l⟩
 unfold etO at hq
 rcases List.mem_append.1 hq with hq | hq
 ·rcases own_of o2 q hq with h' | h'
  ·exact c q (by unfold etO;simp[h'])
  ·omega
 ·exact c q (by unfold etO;simp[hq])
end
def flipV (z:HVec):HVec:=if h:3<32 then z.setIfInBounds 3 (z[3]^^^1) else z
theorem flipV_eq {z:HVec}:flipV z=z.setIfInBounds 3 (z[3]^^^1):=rfl
theorem flipV_ne {z:HVec}:flipV z≠z:=flip_ne (z:=z) (j:=3) (by decide)
def frsE (s:Ett) (f5 f4 f3 f2 f1 f0 f6:Bool):Ett:=
 ⟨if f1 then 2 else s.user,if f0 then 2 else s.seq,(if f2 then s.vec.set 0 1 else s.vec)++(if f6 then [0] else []),if f3 then flipV s.root else s.root,if f4 then s.tables.set 0 (flipV (s.tables.getD 0 (Vector.replicate 32 0))) else s.tables,if f5 then [120] else s.sign⟩
def frsW (f5 f4 f3 f2 f1 f0 f6:Bool):Int:=
 if f6 then 2000 else if f0 then 2001 else if f1 then 2002 else if f2 then 2003 else if f3 then 2004 else if f4 then 2005 else if f5 then 2006 else 0
theorem frs_chk {A B:Sd} {C:Cn} {s:Ett} (c:ClubC A B C) (o:CnOk C) (hall:C.all=[]) (hs:chkC C s=0) (hp:putMay s=true) (hu:s.user=1) (hv:s.vec=[0,1]) (hn:nextVec C 1=[0,1]) (hT:s.tables=lastTab C) (f5 f4 f3 f2 f1 f0 f6:Bool) :
 chkC C (frsE s f5 f4 f3 f2 f1 f0 f6)=frsW f5 f4 f3 f2 f1 f0 f6:=by
 have hl:(lastTab C).length=3:=c.last o
 have hm:ettMay s=true:=by unfold putMay at hp;simp only [Bool.and_eq_true] at hp;exact hp.1
 have hsg:s.sign.length≤8192:=by unfold putMay at hp;simp only [Bool.and_eq_true,decide_eq_true_eq] at hp;exact hp.2
 have hseq:s.seq=1:=by
  unfold chkC at hs
  by_cases h1:frmC C s=true
  ·rw[if_pos h1] at hs
   by_cases h2:s.seq=(C.all.length:Int)+1
   ·rw[h2,hall];rfl
   ·rw[if_neg h2] at hs;exact absurd hs (by decide)
  ·rw[if_neg h1] at hs;exact absurd hs (by decide)
 have hroot:s.root=rootV (C.all.map putE):=by
  unfold chkC at hs
  by_cases h1:frmC C s=true
  ·rw[if_pos h1] at hs
   by_cases h2:s.seq=(C.all.length:Int)+1
   ·rw[if_pos h2] at hs
    by_cases h3:s.user<C.m.users
    ·rw[if_pos h3] at hs
     by_cases h4:s.vec=nextVec C s.user
     ·rw[if_pos h4] at hs
      by_cases h5:s.root=rootV (C.all.map putE)
      ·exact h5
      ·rw[if_neg h5] at hs;exact absurd hs (by decide)
     ·rw[if_neg h4] at hs;exact absurd hs (by decide)
    ·rw[if_neg h3] at hs;exact absurd hs (by decide)
   ·rw[if_neg h2] at hs;exact absurd hs (by decide)
  ·rw[if_neg h1] at hs;exact absurd hs (by decide)
 have htl:(frsE s f5 f4 f3 f2 f1 f0 f6).tables.length=3:=by
  show (if f4=true then s.tables.set 0 _ else s.tables).length=3
  cases f4 <;> simp[hT,hl]
 have hpm:f6=false→putMay (frsE s f5 f4 f3 f2 f1 f0 f6)=true:=fun h6=>by
  subst h6
  unfold putMay ettMay vecMay frsE
  dsimp only
  have h1:ettMay (frsE s f5 f4 f3 f2 f1 f0 false)=true:=by
   unfold ettMay vecMay
   rw[htl]
   unfold frsE
   dsimp only
   rw[hu,hseq,hv]
   cases f2 <;> cases f1 <;> cases f0 <;> rfl
  have h2:(frsE s f5 f4 f3 f2 f1 f0 false).sign.length≤8192:=by
   show (if f5=true then ([120]:By) else s.sign).length≤8192
   cases f5
   ·exact hsg
   ·exact show (1:Nat)≤8192 by decide
  unfold ettMay vecMay frsE at h1
  dsimp only at h1
  rw[h1]
  exact decide_eq_true h2
 have hnu:C.m.users=2:=by rw[c.m];rfl
 have hpr:prins C.m=3:=by rw[c.m];decide
 cases f6 with
 | true =>
   have:frmC C (frsE s f5 f4 f3 f2 f1 f0 true)=false:=by
    unfold frmC
    rw[hnu]
    have:¬(((frsE s f5 f4 f3 f2 f1 f0 true).vec.length:Nat):Int)=2:=by
     show ¬((((if f2=true then s.vec.set 0 1 else s.vec)++[0]).length:Nat):Int)=2
     rw[hv]
     cases f2 <;> decide
    rw[decide_eq_false this]
    simp
   unfold chkC
   rw[if_neg (by rw[this];simp)]
   rfl
 | false =>
   have hf:frmC C (frsE s f5 f4 f3 f2 f1 f0 false)=true:=by
    refine frm_next c (hpm rfl) ?_ htl (by rw[hall];decide)
    show ((if f2=true then s.vec.set 0 1 else s.vec)++[]).length=2
    rw[hv]
    cases f2 <;> decide
   have hpm:=hpm rfl
   unfold chkC
   rw[if_pos hf]
   cases f0 with
   | true =>
     rw[if_neg]
     ·rfl
     ·rw[hall];show ¬(2:Int)=0+1;decide
   | false =>
     rw[if_pos (show (frsE s f5 f4 f3 f2 f1 false false).seq=_ by rw[hall];exact hseq)]
     cases f1 with
     | true =>
       rw[if_neg]
       ·rfl
       ·rw[hnu];show ¬(2:Int)<2;decide
     | false =>
       have hus:(frsE s f5 f4 f3 f2 false false false).user=1:=hu
       rw[hus,if_pos (by rw[hnu];decide)]
       cases f2 with
       | true =>
         rw[if_neg]
         ·rfl
         ·rw[hn]
          show ¬s.vec.set 0 1++[]=[0,1]
          rw[hv];decide
       | false =>
         rw[if_pos (show (frsE s f5 f4 f3 false false false false).vec=_ by rw[hn];show s.vec++[]=_;rw[hv];rfl)]
         cases f3 with
         | true =>
           rw[if_neg]
           ·rfl
           ·show ¬flipV s.root=_
            rw[←hroot]
            exact flipV_ne
         | false =>
           rw[if_pos (show (frsE s f5 f4 false false false false false).root=_ from hroot)]
           cases f4 with
           | true =>
             rw[if_neg]
             ·rfl
             ·unfold tabsOk
              rw[hus,c.m]
              have h0:(lastTab C).getD 0 (Vector.replicate 32 0)=(lastTab C)[0]'(by omega):=by rw[List.getD_eq_getElem?_getD,List.getElem?_eq_getElem (by omega)];rfl
              have h1:(frsE s f5 true false false false false false).tables.getD 0 (Vector.replicate 32 0)=flipV ((lastTab C)[0]'(by omega)):=by
               show (s.tables.set 0 (flipV (s.tables.getD 0 (Vector.replicate 32 0)))).getD 0 (Vector.replicate 32 0)=_
               rw[hT,List.getD_eq_getElem?_getD,List.getElem?_set_self (by omega),h0];rfl
              intro h
              rw[List.all_eq_true] at h
              have:=h 0 (List.mem_range.2 (by omega))
              rw[h1,h0] at this
              have hm:mIn clb 1 ((0:Nat):Int)=false:=by decide
              rw[hm,Bool.false_or] at this
              exact flipV_ne (of_decide_eq_true this)
           | false =>
             have ht:tabsOk C (frsE s f5 false false false false false false)=true:=by
              unfold tabsOk
              rw[List.all_eq_true]
              intro q hq
              have:(frsE s f5 false false false false false false).tables=lastTab C:=hT
              rw[this]
              simp
             rw[if_pos ht]
             cases f5 with
             | true =>
               rw[if_neg]
               ·rfl
               ·unfold verE
                rw[if_pos hpm]
                have hsn:(frsE s true false false false false false false).sign=[120]:=rfl
                rw[hsn]
                have:∀pub msg:By,hssV pub msg [120]=600:=fun pub msg=>by
                 unfold hssV
                 rw[if_neg]
                 rintro ⟨_,_,h,_⟩
                 exact absurd h (by decide)
                rw[this]
                decide
             | false =>
               have he:frsE s false false false false false false false=s:=by
                unfold frsE
                simp
               rw[he,←hu]
               unfold chkC at hs
               rw[he] at hf ht
               rw[if_pos hf,if_pos (by rw[hall];exact hseq),if_pos (by rw[hu,hnu];decide),if_pos (by rw[hu,hn,hv]),if_pos hroot,if_pos ht] at hs
               exact hs
theorem first_vec1 {A B:Sd}:nextVec (newC (clbK A B)) 1=[0,1]:=rfl
theorem law20_ChainFirst.s {wrong:Int} {seed:ByteArray} {h:Heap} {K:Bool→Heap→Prop} (hK:∀h',Keep [] h h'→K true h'):law20_ChainFirst.C wrong seed h K:=by
 apply law20_ChainFirst.c
 unfold law20_ChainFirst.m
 refine law20_awake.s fun h1 k1 =>?_
 rw[if_neg (by simp)]
 rw[←bx_list (s:=seed)]
 show law20_made.C (bx seed.data.toList) (bx [102]) h1 _
 refine law20_made.s fun kv ks h2 k2 md =>?_
 generalize sdA seed.data.toList=A at md
 generalize sdB [102]=B at md
 have z1:=k1.1
 have z2:=k2.1
 refine new_st_gen fun b1 h4 hb1 k4 e4 hs4 =>?_
 have e4:h4[b1]? = some (vobj t_api_Keys KeK kv):=e4
 refine ld_go (sm_all e4) ?_
 have hmay:=clb_may (a:=A) (b:=B)
 have hmm:(clbK A B).m=clb:=rfl
 have hpp:(clbK A B).pubs.length=2:=rfl
 refine chain_New.s (k:=clbK A B) (md.at.keep k4) (by rw[hpp];decide) (by intro g hg;unfold clbK clb at hg;simp at hg;subst hg;decide) (fun hn=>by rw[hmay] at hn;simp at hn) fun _ h5 cb t mv ps bs k5 i5 =>?_
 have o5:CnOk (newC (clbK A B)):=clb_new
 have cc:ClubC A B (newC (clbK A B)):=clb_c
 have hall:(newC (clbK A B)).all=[]:=rfl
 have hnv:=first_vec1 (A:=A) (B:=B)
 have k45:=k4.new k5 (by simp)
 refine jn_at (false,()) h5 ?_ ?_
 ·refine law0_Num.s ?_
  rw[if_neg (by simp)]
  exact ⟨by simp,rfl⟩
 rw[if_neg (by simp)]
 refine ld_go (sm_all (k5.get e4 (by simp))) ?_
 have ka:∀ {h':Heap},Keep [] h5 h'→KeAt h' kv ⟨(newC (clbK A B)).m,(newC (clbK A B)).pubs⟩:=fun k=>md.at.keep (k45.new k (by simp))
 refine ref18_NewChain.s (k:=clbK A B) (md.at.keep k45) (by rw[hpp];decide) (by rw[hmm];decide) (fun hn=>by rw[hmay] at hn;simp at hn) fun _ h6 c2 fs k6 ir =>?_
 generalize newC (clbK A B)=C at *
 refine ref18_Tables.s ir (fun T2 gT rT =>?_) (by rw[hall];decide)
 have hT3:(lastTab C).length=3:=cc.last o5
 show ref18_Chain_Next.C (some ⟨c2,0⟩) ((1:Nat):Int) T2 h6 _
 refine ref18_Next.s ir (ka k6) o5 gT (by rw[hT3];decide) (fun hn=>by rw[hT3,nxt_may cc (by decide) (by rw[hall];decide)] at hn;simp at hn) fun _ v h11 k11 er no =>?_
 refine new_st_gen fun b2 h13 hb2 k13 e13 hs13 =>?_
 have e13:h13[b2]? = some (vobj t_api_Entry EtK v):=e13
 have er13:EtR h13 v (nextE C ((1:Nat):Int) (lastTab C)):=er.keep k13 (by simp)
 have hvo:(nextVec C ((1:Nat):Int)).all vecOk=true:=by
  show (nextVec C 1).all vecOk=true
  rw[hnv];decide
 have hem:=next_may cc o5 (u:=1) (by decide) hT3 (by rw[hall];decide) hvo
 have hvl:(nextE C ((1:Nat):Int) (lastTab C)).vec.length=2:=next_len cc o5
 have hchk:=chk_next cc o5 (u:=1) (n:=0) (by decide) hT3 (by rw[hall];decide) hvo (by decide)
 rw[if_pos tabs_same] at hchk
 have hpm:=sgn_may (d:=B) (n:=0) (by decide) hem
 have hchk:chkC C (sgnE (nextE C ((1:Nat):Int) (lastTab C)) (B.k 0))=0:=hchk
 have hsd:sgnE (nextE C ((1:Nat):Int) (lastTab C)) (B.k 0)={ nextE C ((1:Nat):Int) (lastTab C) with sign:=hssSig (B.k 0) (sayE (nextE C ((1:Nat):Int) (lastTab C))) }:=rfl
 have q1:(sgnE (nextE C ((1:Nat):Int) (lastTab C)) (B.k 0)).user=1:=rfl
 have q2:(sgnE (nextE C ((1:Nat):Int) (lastTab C)) (B.k 0)).vec=[0,1]:=hnv
 have q3:(sgnE (nextE C ((1:Nat):Int) (lastTab C)) (B.k 0)).tables=lastTab C:=rfl
 generalize nextE C ((1:Nat):Int) (lastTab C)=ent at *
 generalize sgnE ent (B.k 0)=s at *
 have hmain:=frs_chk cc o5 hall hchk hpm q1 q2 hnv q3
 have k6_13:=k11.new k13 (by simp)
 have k2_13:=k45.new (k6.new k6_13 (by simp)) (by simp)
 refine jn_in (fun (y:Pl×Unit) h'=>∃p,y=(Pl.mk p 0,())∧h'[p]? = some (vobj t_api_Entry EtK (sgnV v (hssSig (B.k 0) (sayE ent))))∧Keep [] h13 h'∧h13.size≤p) ?_ ?_
 ·refine ld_go (sm_all e13) ?_
  have mk13:=(md.keep0 k2_13).k
  refine seg_ixl mk13.seg (by decide) key_1 rfl fun l1 gl=>ld_go gl ?_
  refine sign_blk (J:=fun p q c h'=>∃p',((p,()):Pl×Unit)=(Pl.mk p' 0,())∧h'[p']? = some (vobj t_api_Entry EtK (sgnV v (hssSig (B.k 0) (sayE ent))))∧Keep [] h13 h'∧h13.size≤p') (c:=0) (v':=sgnV v (hssSig (B.k 0) (sayE ent))) (kv':=hkV { (B.k 0) with next:=(B.k 0).next+1 }) (sm_all e13) gl (fun h1 K' kk hk =>?_) (fun p q h' ep eq k lp lq=>⟨p,rfl,ep,k,lp⟩)
  exact ref18_Sign.s (er13.at.keep kk) (by rw[hvl];decide) (seed_may (by decide)) (fun hn=>by rw[hem] at hn;simp at hn) (fun _ hn=>by rw[seed_spent (by decide)] at hn;simp at hn) (fun _ _ h' k'=>hk h' k')
 rintro _ h14 ⟨p,rfl,e14,k14,lp⟩
 dsimp only
 have k6_14:=k6_13.new k14 (by simp)
 have z6_13:=k6_13.1
 have z14:=k6_14.1
 have f14:FsAt h6.size h14 p s:=by
  refine ⟨⟨_,e14,by rw[hsd];exact (er13.keep k14 (by simp)).sgn,fun q hq=>no q hq⟩,by omega⟩
 have fr0:Fr h6.size h14 h14:=Fr.rfl
 -- the bits
 obtain ⟨f5,hf5⟩:∃f,decide (andI wrong 32=(32:Int))=f:=⟨_,rfl⟩
 obtain ⟨f4,hf4⟩:∃f,decide (andI wrong 16=(16:Int))=f:=⟨_,rfl⟩
 obtain ⟨f3,hf3⟩:∃f,decide (andI wrong 8=(8:Int))=f:=⟨_,rfl⟩
 obtain ⟨f2,hf2⟩:∃f,decide (andI wrong 4=(4:Int))=f:=⟨_,rfl⟩
 obtain ⟨f1,hf1⟩:∃f,decide (andI wrong 2=(2:Int))=f:=⟨_,rfl⟩
 obtain ⟨f0,hf0⟩:∃f,decide (andI wrong 1=(1:Int))=f:=⟨_,rfl⟩
 obtain ⟨f6,hf6⟩:∃f,decide (andI wrong 64=(64:Int))=f:=⟨_,rfl⟩
 rw[hf5,hf4,hf3,hf2,hf1,hf0,hf6]
 have st0:frsE s false false false false false false false=s:=by unfold frsE;simp
 rw[←st0] at f14
 refine jn_in (fun (y:Int×Unit) h'=>y=(frsW f5 false false false false false false,())∧Fr h6.size h14 h'∧FsAt h6.size h' p (frsE s f5 false false false false false false)) ?_ ?_
 ·cases f5 with
  | false=>rw[if_neg (by simp)];exact ⟨rfl,fr0,f14⟩
  | true =>
    rw[if_pos rfl]
    show Go.Al.st .s _ (bx [120]) h14 _
    refine f14.sign fun h' fr f=>⟨rfl,fr,f⟩
 rintro _ h15 ⟨rfl,fr5,f15⟩
 refine jn_in (fun (y:Int×Unit) h'=>y=(frsW f5 f4 false false false false false,())∧Fr h6.size h14 h'∧FsAt h6.size h' p (frsE s f5 f4 false false false false false)) ?_ ?_
 ·cases f4 with
  | false=>rw[if_neg (by simp)];exact ⟨rfl,fr5,f15⟩
  | true =>
    rw[if_pos rfl]
    have tl:(frsE s f5 false false false false false false).tables.length=3:=by show s.tables.length=3;rw[q3,hT3]
    have t0:s.tables.getD 0 (Vector.replicate 32 0)=s.tables[0]'(by rw[q3];omega):=by rw[List.getD_eq_getElem?_getD,List.getElem?_eq_getElem (by rw[q3];omega)];rfl
    obtain ⟨sl,g1,g2,g3⟩:=f15.tab (i:=0) (j:=3) (y:=(frsE s f5 false false false false false false).tables[0][3]^^^1) (by omega) (by decide) (K:=fun h'=>((2005,()):Int×Unit)=(frsW f5 true false false false false false,())∧Fr h6.size h14 h'∧FsAt h6.size h' p (frsE s f5 true false false false false false)) (fun h' fr f=>⟨rfl,fr5.trans fr,by
     have he:frsE s f5 true false false false false false={ frsE s f5 false false false false false false with tables:=(frsE s f5 false false false false false false).tables.set 0 ((frsE s f5 false false false false false false).tables[0].setIfInBounds 3 ((frsE s f5 false false false false false false).tables[0][3]^^^1)) }:=by
      unfold frsE
      simp only [if_true,Bool.false_eq_true,if_false]
      rw[t0,flipV_eq]
     rw[he];exact f⟩)
    refine ld_go g1 (ld_go g1 ?_)
    exact row_ld_u8 (i:=0) (j:=3) g2 (by omega) (by decide) g3
 rintro _ h16 ⟨rfl,fr4,f16⟩
 refine jn_in (fun (y:Int×Unit) h'=>y=(frsW f5 f4 f3 false false false false,())∧Fr h6.size h14 h'∧FsAt h6.size h' p (frsE s f5 f4 f3 false false false false)) ?_ ?_
 ·cases f3 with
  | false=>rw[if_neg (by simp)];exact ⟨rfl,fr4,f16⟩
  | true =>
    rw[if_pos rfl]
    refine f16.root_ld (i:=3) (by decide) ?_
    refine f16.root (i:=3) (by decide) fun h' fr f=>⟨rfl,fr4.trans fr,f⟩
 rintro _ h17 ⟨rfl,fr3,f17⟩
 refine jn_in (fun (y:Int×Unit) h'=>y=(frsW f5 f4 f3 f2 false false false,())∧Fr h6.size h14 h'∧FsAt h6.size h' p (frsE s f5 f4 f3 f2 false false false)) ?_ ?_
 ·cases f2 with
  | false=>rw[if_neg (by simp)];exact ⟨rfl,fr3,f17⟩
  | true =>
    rw[if_pos rfl]
    have hvl2:(frsE s f5 f4 f3 false false false false).vec.length=2:=by show (s.vec++[]).length=2;rw[q2];rfl
    obtain ⟨sl,g1,g2,g3⟩:=f17.vec (P:=fun _ _=>True) (i:=0) (y:=1) (by omega) (K:=fun h'=>((2003,()):Int×Unit)=(frsW f5 f4 f3 true false false false,())∧Fr h6.size h14 h'∧FsAt h6.size h' p (frsE s f5 f4 f3 true false false false)) (fun h' fr f=>⟨rfl,fr3.trans fr,by
     have he:frsE s f5 f4 f3 true false false false={ frsE s f5 f4 f3 false false false false with vec:=(frsE s f5 f4 f3 false false false false).vec.set 0 1 }:=by
      unfold frsE
      simp
     rw[he];exact f⟩)
    refine ld_go g1 ?_
    exact g3
 rintro _ h18 ⟨rfl,fr2,f18⟩
 refine jn_in (fun (y:Int×Unit) h'=>y=(frsW f5 f4 f3 f2 f1 false false,())∧Fr h6.size h14 h'∧FsAt h6.size h' p (frsE s f5 f4 f3 f2 f1 false false)) ?_ ?_
 ·cases f1 with
  | false=>rw[if_neg (by simp)];exact ⟨rfl,fr2,f18⟩
  | true =>
    rw[if_pos rfl]
    refine f18.user fun h' fr f=>⟨rfl,fr2.trans fr,f⟩
 rintro _ h19 ⟨rfl,fr1,f19⟩
 refine jn_in (fun (y:Int×Unit) h'=>y=(frsW f5 f4 f3 f2 f1 f0 false,())∧Fr h6.size h14 h'∧FsAt h6.size h' p (frsE s f5 f4 f3 f2 f1 f0 false)) ?_ ?_
 ·cases f0 with
  | false=>rw[if_neg (by simp)];exact ⟨rfl,fr1,f19⟩
  | true =>
    rw[if_pos rfl]
    refine f19.seq fun h' fr f=>⟨rfl,fr1.trans fr,f⟩
 rintro _ h20 ⟨rfl,fr00,f20⟩
 refine jn_in (fun (y:Int×Unit) h'=>y=(frsW f5 f4 f3 f2 f1 f0 f6,())∧Fr h6.size h14 h'∧FsAt h6.size h' p (frsE s f5 f4 f3 f2 f1 f0 f6)) ?_ ?_
 ·cases f6 with
  | false=>rw[if_neg (by simp)];exact ⟨rfl,fr00,f20⟩
  | true =>
    rw[if_pos rfl]
    have hvl2:(frsE s f5 f4 f3 f2 f1 f0 false).vec.length=2:=by
     show ((if f2=true then s.vec.set 0 1 else s.vec)++[]).length=2
     rw[q2]
     cases f2 <;> rfl
    have z20:=(fr00.new k6_14 (Nat.le_refl _)).1
    refine f20.app (by rw[hvl2];decide) (fun h' fr f=>⟨rfl,fr00.trans fr,?_⟩) (by omega)
    have he:frsE s f5 f4 f3 f2 f1 f0 true={ frsE s f5 f4 f3 f2 f1 f0 false with vec:=(frsE s f5 f4 f3 f2 f1 f0 false).vec++[0] }:=by
     unfold frsE
     simp
    rw[he];exact f
 rintro _ h21 ⟨rfl,fr6,f21⟩
 obtain ⟨⟨w,ew,rw',ow⟩,_⟩:=f21
 refine ld_go (sm_all ew) ?_
 have k6_21:Keep [] h6 h21:=fr6.new k6_14 (Nat.le_refl _)
 have hvl3:(frsE s f5 f4 f3 f2 f1 f0 f6).vec.length≤3:=by
  show ((if f2=true then s.vec.set 0 1 else s.vec)++(if f6=true then [0] else [])).length≤3
  rw[q2]
  cases f2 <;> cases f6 <;> decide
 refine chain_Check.s (i5.keep0 (k6.new k6_21 (by simp))) o5 rw'.at (by omega) fun h22 k22 =>?_
 rw[hmain]
 refine law0_Num.s ?_
 rw[decide_eq_true rfl]
 exact hK h22 ((((k1.new k2 (by simp)).new k45 (by simp)).new (k6.new k6_21 (by simp)) (by simp)).new k22 (by simp))
end Go.Proofs.Tryz
