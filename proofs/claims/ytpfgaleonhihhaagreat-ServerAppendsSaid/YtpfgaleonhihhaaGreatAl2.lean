import Derived.Test.YtpfgaleonhihhaaGreatAl1
import Derived.TacticsIn
import Derived.OrdersIn
import Derived.LoopNIn
import Derived.RangeFuncIn
import Derived.RangeFuncLeaves
import Derived.WalkKit
import Derived.ProofKit
import Derived.OpenShut
import Derived.Deep.Slices
import Derived.WideKeyArgs
import Derived.SizedLaws
set_option linter.defProp false
/- The logic: its soundness, part 13: operations that turn the heap, together. -/
namespace Go.Al
set_option linter.unusedVariables false
set_option linter.unusedSimpArgs false
set_option linter.constructorNameAsVariable false
def M2(L:List UInt8):L.flatMap Kd.u8.cells=L.map fun b=>Value.int .u8 b.toNat:=by
 induction L with
 | nil=>rfl
 | cons b L ih=>rw[List.flatMap_cons,ih];rfl
def Et(L:List UInt8):∀c∈L.flatMap Kd.u8.cells,XC c:=by
 intro c hc;rw[M2]at hc;simp at hc;obtain⟨b,_,rfl⟩:=hc
 trivial
def jr{P:Program} (w:World) (cells:Array Value) (et:Nat):(markStringish ⟨w.heap.size,0,none⟩).run P { w with heap:=w.heap.push (.cells cells et) } = .ok () { w with heap:=w.heap.push (.cells cells et (cells.size,cells.size+1)) }:=by
 have:({ w with heap:=w.heap.push (.cells cells et) }:World).shape? w.heap.size=some (et,cells.size):=by simp[World.shape?]
 simp only[markStringish,Sem.run_bind,run_shape,this,Result.andThen_ok,run_freeze,World.freeze];simp only[Nat.succ_ne_zero,if_false]
 congr 2
 apply Array.ext
 ·simp
 ·intro i h1 h2;simp only[Array.getElem_modify,Array.getElem_push];by_cases hi:i<w.heap.size
  ·have:¬w.heap.size=i:=by omega
   simp[hi,this]
  ·have:w.heap.size=i:=by simp at h1;omega
   simp[this]
section
variable {P:Program} {τ : Yv} (hτ : Zg P τ) (hpl:∀t ti,τ.get t=some ti→ti.plain=true→QV P τ t ti=true)
include hτ
def CL{o:Oper}{T U:Nat}{x y:Operand}{a b:SV}{as ts:Array _}{e:Operand→Option SV}{h:Ja}{K:Option SV→Hp} (ho:o.op = .call { callee := .builtin .append,args:=as,argTypes:=ts })
 (ha:as.toList=[x,y]) (ht:ts.toList=[T,U]) (hx:e x=some a) (hy:e y=some b) (hr:apR τ T U a b h fun v h=>K (some v) h):ZE P o e h K:=by
 obtain rfl:as = #[x,y]:=Array.toList_inj.1 ha;obtain rfl:ts = #[T,U]:=Array.toList_inj.1 ht;intro ρ hρ w hw
 have ex:(execOp ρ o).run P w=((Builtin.append_ #[T,U] o.type #[ρ x,ρ y]).run P w).andThen fun v w' => .ok (.value v) w':=by
  simp[execOp,ho,resolve,invoke,builtin]
 have fin:∀ {s:Jn} {K':Jn→Hp},a=⟨.sl,s⟩→(∀z h,K' z h→K (some ⟨.sl,z⟩) h)→(∃z w',(Builtin.append_ #[T,U] o.type #[s.val,b.val]).run P w = .ok (Jn.val z) w'∧Yo w w'∧K' z w'.heap)→UX P w K ((execOp ρ o).run P w):=by
  rintro s K' rfl hK' ⟨z,w',h1,h2,h3⟩;have hxv : ρ x=s.val:=hρ x _ hx;refine Xg (v:=⟨.sl,z⟩) (w':=w') ?_ h2 (hK' _ _ h3);rw[ex,hxv,hρ y _ hy,h1]
  rfl
 subst hw;unfold apR at hr;split at hr
 ·rename_i e0 k by_ pl et ti s hg hel hs
  obtain⟨hT,t2,t4⟩:=ZY hτ hg hel;rw[asSl_some]at hs;split at hr
  ·rename_i e1 k1 by1 pl1 hbb hU
   obtain⟨desc,info,g1,_,_,_,_,g6⟩:=Yl hτ hU rfl;obtain⟨rfl,rfl⟩:=Xv g6;have hb:0<ti.bytes:=by simpa using hbb
   split at hr
   ·rename_i r hrr
    rw[asSl_some]at hrr;subst hrr;obtain⟨cs,hK,_,hp,hcs⟩:=Vx hr;exact fin hs (fun _ _ h=>h) (xI hτ hT g1 (.inl ⟨_,rfl⟩) t2 t4 hb hp (fun w=>by simp[Builtin.lenOf]) (fun w' hw'=>hcs w' hw' _ _ rfl) hK)
   ·exact hr.elim
  ·rename_i k1 by1 pl1 hbb hU
   obtain⟨desc,info,g1,_,_,_,_,g6⟩:=Yl hτ hU rfl;obtain⟨rfl,rfl⟩:=Xr g6;have hb:0<ti.bytes:=by simpa using hbb
   split at hr
   ·rename_i r hrr hk
    rw[asS_some]at hrr;subst hrr;have hr':ap et ti.kd ti.bytes s r.size (r.data.toList.flatMap Kd.u8.cells) w.heap fun z h=>K (some ⟨.sl,z⟩) h:=by rw[hk];exact hr
    refine fin hs (fun _ _ h=>h) (xI hτ hT g1 (.inr rfl) t2 t4 hb (Et _) (fun w=>by simp[Builtin.lenOf]) (fun w' hw' =>?_) hr');have:=Cq (P:=P) (s:=r) (n:=r.size) (w:=w') (size:=ti.kd.size);rw[List.take_of_length_le (by simp)]at this;exact this
   ·exact hr.elim
  ·rename_i by1 pl1 hbb hU
   obtain⟨desc,info,g1,_,_,_,_,g6⟩:=Yl hτ hU rfl;have hb:0<ti.bytes:=by simpa using hbb
   rcases XL g6 with⟨rfl,_⟩ | ⟨rfl,hh⟩ | ⟨rfl,hh⟩ | ⟨rfl,hh⟩ | ⟨rfl,hh⟩ <;> try (simp at hh;done)
   split at hr
   ·rename_i n hn
    rw[asI_some]at hn;subst hn;exact fin hs (fun _ _ h=>h) (zw hτ hT g1 t2 t4 hb hr)
   ·exact hr.elim
  ·exact hr.elim
 ·exact hr.elim
def CV{o:Oper}{T:Nat}{x y:Operand}{rest:List Nat}{a b:SV}{as ts:Array _}{e:Operand→Option SV}{h:Ja}{K:Option SV→Hp} (ho:o.op = .call { callee := .builtin .copy,args:=as,argTypes:=ts })
 (ha:as.toList=[x,y]) (ht:ts.toList=T::rest) (hx:e x=some a) (hy:e y=some b) (hr:cpR τ T a b h fun v h=>K (some v) h):ZE P o e h K:=by
 obtain rfl:as = #[x,y]:=Array.toList_inj.1 ha;have ht0:ts[0]? = some T:=by rw[←Array.getElem?_toList,ht];rfl
 intro ρ hρ w hw
 have ex:(execOp ρ o).run P w=((Builtin.copy_ ts o.type #[ρ x,ρ y]).run P w).andThen fun v w' => .ok (.value v) w':=by
  simp[execOp,ho,resolve,invoke,builtin]
 subst hw;unfold cpR at hr;split at hr
 ·rename_i e0 k by_ pl et ti s hg hel hs
  obtain⟨hT,t2,t4⟩:=ZY hτ hg hel;obtain⟨_,i,_,i2,i3,i4,i5,_⟩:=(hτ _ ti t2 t4).ex;rw[asSl_some]at hs;subst hs;have hxv : ρ x = .slice s.at s.len s.cap:=hρ x _ hx
  have fin:∀(m:Nat) (cs:List Value),(∀c∈cs,XC c)→(∀w',(Builtin.lenOf (ρ y)).run P w' = .ok m w')→(Builtin.firstCells ti.kd.size (Nat.min m s.len) (ρ y)).run P w = .ok cs.toArray w →
   cp s (min m s.len) cs w.heap (fun z h=>K (some ⟨.i,z⟩) h)→UX P w K ((execOp ρ o).run P w):=by
   intro m cs hp hl hc hcp;unfold cp at hcp;split at hcp
   ·rename_i l hl'
    obtain⟨c,V,lo,hi,a1,a2,a3,a4⟩:=hcp;have hs:=YQ (P:=P) (l:=l) cs 0 w c V lo hi a1 (by simpa using a2) (by simpa using a3) hp;simp at hs;refine Xg (v:=⟨.i,((min m s.len:Nat):Int)⟩) (w':={ w with heap:=w.heap.setIfInBounds l.b (.cells (Xz c l.o cs) V (lo,hi)) }) ?_ ⟨rfl,rfl⟩ a4;rw[ex,hxv];simp only[Builtin.copy_,ht0,List.getElem?_toArray,List.getElem?_cons_zero,List.getElem?_cons_succ,Sem.run_bind,Sem.run_pure,Jz hT,Result.andThen_ok,hl,Qy i2,i3,hc,Jn.at_some hl',Jn.at_mk,hs,goInt]
    rfl
   ·rename_i hl'
    obtain⟨h0,hcp⟩:=hcp;subst h0;refine Xg (v:=⟨.i,((min m s.len:Nat):Int)⟩) (w':=w) ?_ ⟨rfl,rfl⟩ hcp;rw[ex,hxv];simp only[Builtin.copy_,ht0,List.getElem?_toArray,List.getElem?_cons_zero,List.getElem?_cons_succ,Sem.run_bind,Sem.run_pure,Jz hT,Result.andThen_ok,hl,Qy i2,i3,hc,Jn.at_none hl',Jn.at_mk0,goInt]
    cases s.wd.v <;> rfl
  split at hr
  ·rename_i r hrr
   rw[asSl_some]at hrr;subst hrr;have hyv : ρ y = .slice r.at r.len r.cap:=hρ y _ hy;obtain⟨cs,hK,_,hp,hcs⟩:=Vx hr;exact fin r.len cs hp (fun w'=>by simp[hyv,Builtin.lenOf]) (by rw[hyv];exact hcs w rfl _ _ rfl) hK
  ·split at hr
   ·rename_i r hrr hk
    rw[asS_some]at hrr;subst hrr;have hyv : ρ y = .string r:=hρ y _ hy;exact fin r.size _ (Et _) (fun w'=>by simp[hyv,Builtin.lenOf]) (by rw[hyv];exact Cq) hr
   ·exact hr.elim
 ·exact hr.elim
def EN{o:Oper}{T:Nat}{x:Operand}{a:SV}{as ts:Array _}{e:Operand→Option SV}{h:Ja}{K:Option SV→Hp} (ho:o.op = .call { callee := .builtin .clear,args:=as,argTypes:=ts })
 (ha:as.toList=[x]) (ht:ts.toList=[T]) (hx:e x=some a) (hr:wL τ T a h fun h=>K none h):ZE P o e h K:=by
 obtain rfl:as = #[x]:=Array.toList_inj.1 ha;obtain rfl:ts = #[T]:=Array.toList_inj.1 ht;intro ρ hρ w hw
 have ex:(execOp ρ o).run P w=((Builtin.clear_ #[T] o.type #[ρ x]).run P w).andThen fun v w' => .ok (.value v) w':=by
  simp[execOp,ho,resolve,invoke,builtin]
 subst hw;unfold wL at hr;split at hr
 ·rename_i kt et k by_ pl m hg hm
  obtain⟨desc,info,g1,_,_,_,_,g6⟩:=Yl hτ hg rfl;obtain⟨rfl,rfl⟩:=Zp g6;rw[asM_some]at hm;subst hm;have hxv : ρ x = .map m:=hρ x _ hx;unfold gS at hr;split at hr
  ·refine VA (v := .tuple #[]) (w':=w) ?_ ⟨rfl,rfl⟩ hr;rw[ex,hxv];simp[Builtin.clear_,Jz g1]
  ·rename_i r
   obtain⟨es,clock,hs,hK⟩:=hr;refine VA (v := .tuple #[]) (w':={ w with heap:=w.heap.setIfInBounds r (.map #[] clock) }) ?_ ⟨rfl,rfl⟩ hK;rw[ex,hxv];simp[Builtin.clear_,Jz g1,Go.MapKept.run_getObj_map hs,Go.MapKept.run_setObj_map _ hs]
 ·rename_i e0 k by_ pl _ s hg hs
  rw[asSl_some]at hs;subst hs;have hxv : ρ x = .slice s.at s.len s.cap:=hρ x _ hx;split at hr
  ·rename_i et ti hel
   obtain⟨hT,t2,t4⟩:=ZY hτ hg hel;have hsh:=YM hτ t2 t4;obtain⟨_,i,_,i2,i3,i4,i5,_⟩:=(hτ _ ti t2 t4).ex
   have hzc:∀m:Nat,Builtin.zeroCells (ti.kd.cells ti.kd.zero).toArray m=(Xl ti.kd m).toArray:=by
    intro m;have:=Vf ti.kd m;simpa[Builtin.zeroCells,Kd.cells_length] using this
   unfold clr at hr;split at hr
   ·rename_i l hl
    obtain⟨c,V,lo,hi,a1,a2,a3,a4⟩:=hr
    have hp:∀c∈Xl ti.kd s.len,XC c:=by
     intro c hc;simp only[Xl,List.mem_flatMap]at hc;obtain⟨_,_,hc⟩:=hc;exact Vv _ _ c hc
    have hs:=YQ (P:=P) (l:=l) (Xl ti.kd s.len) 0 w c V lo hi a1 (by simpa using a2) (by simpa using a3) hp;simp at hs;refine VA (v := .tuple #[]) (w':={ w with heap:=w.heap.setIfInBounds l.b (.cells (Xz c l.o (Xl ti.kd s.len)) V (lo,hi)) }) ?_ ⟨rfl,rfl⟩ a4;rw[ex,hxv,Jn.at_some hl]
    cases hn:s.len with
    | zero =>
      rw[hn]at hs;simp[Xl]at hs;have:Xz c l.o (Xl ti.kd 0)=c:=by simp[Xl,Gp]
      rw[this,Va a1];simp[Builtin.clear_,Jz hT]
    | succ n =>
      rw[hn]at hs;simp[Builtin.clear_,Jz hT,Yz i2 i5,X1 hsh,hzc,hs]
   ·rename_i hl
    obtain⟨h0,hr⟩:=hr;refine VA (v := .tuple #[]) (w':=w) ?_ ⟨rfl,rfl⟩ hr;rw[ex,hxv,Jn.at_none hl,h0]
    cases s.wd.v <;> simp[Builtin.clear_,Jz hT]
  ·exact hr.elim
 ·exact hr.elim
omit hτ in
theorem jt{o:Oper}{src dst et:Nat}{x:Operand}{s:Ba}{e:Operand→Option SV}{h:Ja}{K:Option SV→Hp} (hs:P.underlying src=some .string) (hd:P.underlying dst=some (.slice et)) (he:P.underlying et=some (.int .u8))
 (ho:o.op = .convert src dst x) (hx:e x=some ⟨.s,s⟩) (hr:js et s h fun z h=>K (some ⟨.sl,z⟩) h):ZE P o e h K:=by
 intro ρ hρ w hw;subst hw;have hxv : ρ x = .string s:=hρ x _ hx;have hcut:∀t,(Question.appendCap s.size 0 et).cut t=s.size+t%(2^63-s.size):=fun t=>rfl
 let t:=w.tape w.drawn (.appendCap s.size 0 et)
 have hK:=hr (s.size+t%(2^63-s.size)) (by omega) (fun hlt=>by
  have:=Nat.mod_lt t (show 0<2^63-s.size by omega);omega)
 refine Xg (v:=⟨.sl,⟨some ⟨w.heap.size,0⟩,s.size,s.size+t%(2^63-s.size)⟩⟩) (w':={ w with drawn:=w.drawn+1,heap:=w.heap.push (.cells (s.data.toList.flatMap Kd.u8.cells++Xl .u8 (s.size+t%(2^63-s.size)-s.size)).toArray et (s.size+t%(2^63-s.size),s.size+t%(2^63-s.size)+1)) }) ?_ ⟨rfl,rfl⟩ hK
 have hc:(Array.map (fun b:UInt8=>Value.int IntKind.u8 (b.toNat:Int)) s.data++Array.replicate (t%(2^63-s.size)) (Value.int IntKind.u8 0))=(s.data.toList.flatMap Kd.u8.cells++Xl .u8 (t%(2^63-s.size))).toArray:=by
  have hz:Xl .u8 (t%(2^63-s.size))=List.replicate (t%(2^63-s.size)) (Value.int IntKind.u8 0):=by
   simp only[Xl];rw[M2];simp[Kd.zero]
  rw[hz,M2];apply Array.toList_inj.1;simp
 have hsub:s.size+t%(2^63-s.size)-s.size=t%(2^63-s.size):=by omega
 have hlen:(s.data.toList.flatMap Kd.u8.cells++Xl .u8 (t%(2^63-s.size))).length=s.size+t%(2^63-s.size):=by
  rw[M2];simp[Xl,List.length_flatMap,Kd.cells]
 rw[hsub];simp only[execOp,ho,hxv,Sem.run_bind,convert,Jz hs,Jz hd,Jz he,Result.andThen_ok,Conv.stringToBytes,run_choose,Question.forced,Bool.false_eq_true,if_false,hcut];simp only[newRow,Sem.run_bind,run_newObj,Result.andThen_ok,Sem.run_pure];have hm:=jr (P:=P) { w with drawn:=w.drawn+1 } (Array.map (fun b:UInt8=>Value.int IntKind.u8 (b.toNat:Int)) s.data++Array.replicate (s.size+t%(2^63-s.size)-s.size) (Value.int IntKind.u8 0)) et;rw[hsub,hc]at hm;simp only[List.size_toArray,hlen]at hm;have hc':=hc;rw[←hsub]at hc';rw[show w.tape w.drawn (Question.appendCap s.size 0 et)=t from rfl,hsub,hc];rw[hm]
 rfl
omit hτ in
theorem W9{w:World}{r:Nat}{o:Obj} (h:w.heap[r]? = some o) (hc:∀a b c,o ≠ .cells a b c):(getObj r).run P w = .ok o w:=by
 cases o <;> simp[getObj,Sem.run,h] <;> exact(hc _ _ _ rfl).elim
omit hτ in
theorem jo{o:Oper}{T kt et:Nat}{kk ek:Kd}{x:Operand}{m:Option Nat}{e:Operand→Option SV}{h:Ja}{K:Option SV→Hp} (hT:P.underlying T=some (.map kt et))
 (ho:o.op = .range T x) (hx:e x=some ⟨.m,m⟩) (hr:rng m h fun b h=>K (some ⟨.it kk ek,b⟩) h):ZE P o e h K:=by
 intro ρ hρ w hw;subst hw;have hx' : ρ x = .map m:=hρ x _ hx
 cases m with
 | none =>
   refine Xg (v:=⟨.it kk ek,w.heap.size⟩) (w':={ w with heap:=w.heap.push (.mapIter none 0 #[] 0) }) ?_ ⟨rfl,rfl⟩ hr;simp[execOp,ho,hx',Instr.range,Jz hT,SV.val,Kd.val,Kd.val0,Kd.cells,one]
 | some r =>
   obtain⟨es,clock,hs,hK⟩:=hr;refine Xg (v:=⟨.it kk ek,w.heap.size⟩) (w':={ w with heap:=w.heap.push (.mapIter (some r) clock #[] clock) }) ?_ ⟨rfl,rfl⟩ hK;simp[execOp,ho,hx',Instr.range,Jz hT,Go.MapKept.run_getObj_map hs,SV.val,Kd.val,Kd.val0,Kd.cells,one]
omit hτ in
theorem qZ{o:Oper}{kk ek:Kd}{x:Operand}{t:Nat}{e:Operand→Option SV}{h:Ja}{K:Option SV→Hp} (h1:Vt kk=true) (h2:Vt ek=true)
 (ho:o.op = .next x false) (hx:e x=some ⟨.it kk ek,t⟩)
 (hr:nx kk ek t h (fun h=>K (some ⟨.tp (.pr .b .un),(false,())⟩) h) fun y z h=>K (some ⟨.tp (.pr .b (.pr kk (.pr ek .un))),(true,(y,(z,())))⟩) h):ZE P o e h K:=by
 intro ρ hρ w hw;subst hw;have hx' : ρ x = .pointer (some ⟨t,0,none⟩):=hρ x _ hx;rcases hr with⟨a,c,hi,hK⟩ | ⟨r,since,seen,last,es,clock,hi,hm,hst,hov,hstep⟩
 ·have hg:(getObj t).run P w = .ok (.mapIter none a #[] c) w:=W9 hi (by simp);refine Xg (v:=⟨.tp (.pr .b .un),(false,())⟩) (w':=w) ?_ ⟨rfl,rfl⟩ hK;simp[execOp,ho,hx',Instr.next,hg,SV.val,Kd.val,Kd.vals,Kd.val0,Kd.cells,one]
 ·have hg:(getObj t).run P w = .ok (.mapIter (some r) since seen last) w:=W9 hi (by simp);have hgm:(getObj r).run P w = .ok (.map (es.map (VO kk ek)).toArray clock) w:=Go.MapKept.run_getObj_map hm
  have hstale:(!seen.isEmpty && !(es.map (VO kk ek)).toArray.isEmpty&&(es.map (VO kk ek)).toArray.all (·.born≥last))=false:=by
   rcases hst with h | h | ⟨y,hy,hlt⟩
   ·simp[h]
   ·simp[h]
   ·have:(es.map (VO kk ek)).toArray.all (·.born≥last)=false:=by
     simp only[List.all_toArray,List.all_map,List.all_eq_false];exact⟨y,hy,by simp only[Function.comp,VO,decide_eq_true_eq];exact fun e=>absurd (of_decide_eq_true e) (Nat.not_le.2 hlt)⟩
    simp only[this,Bool.and_false]
  generalize hL:(es.map (VO kk ek)).toArray=L at hgm hstale
  have hfree:∀n,0<n→∃idx w',(choose (.mapNext n)).run P w = .ok idx w'∧Yo w w'∧w'.heap=w.heap∧idx<n:=by
   intro n hn;rw[run_choose];split
   ·exact⟨0,w,_root_.rfl,Yo.rfl,_root_.rfl,hn⟩
   ·exact⟨_,_,_root_.rfl,⟨_root_.rfl,_root_.rfl⟩,_root_.rfl,Nat.mod_lt _ hn⟩
  obtain⟨left,hleft⟩:∃x,x=Array.filter (fun e:MapEntry => !seen.contains e.born) L:=⟨_,_root_.rfl⟩;obtain⟨old,hold⟩:∃x,x=Array.filter (fun e:MapEntry=>decide (e.born<since)) left:=⟨_,_root_.rfl⟩;obtain⟨new,hnew⟩:∃x,x=Array.filter (fun e:MapEntry=>decide (e.born≥since)) left:=⟨_,_root_.rfl⟩;obtain⟨cands,hcands⟩:∃x:Array (Option MapEntry),x=(if old.isEmpty=true then #[none] else #[])++(old++new).map some:=⟨_,_root_.rfl⟩
  have hpos:0<cands.size:=by
   rw[hcands]
   cases ho:old.isEmpty
   ·have:old.size≠0:=fun e=>by simp[Array.isEmpty,e]at ho
    simp only[Bool.false_eq_true,if_false,Array.size_append,Array.size_map];omega
   ·simp only[if_true,Array.size_append,Array.size_map];show 0<1+_;omega
  obtain⟨idx,w',hc,hs,hh,hlt⟩:=hfree cands.size hpos;have hget:cands[idx]? = some cands[idx]:=Array.getElem?_eq_getElem hlt;have hmem:cands[idx]∈cands:=Array.getElem_mem hlt
  have hrun:(execOp ρ o).run P w=(match cands[idx] with
   | some e=>((do setObj t (.mapIter (some r) since (seen.push e.born) clock);pure (.tuple #[.bool true,e.key,e.val]):Sem Value).run P w').andThen fun v w'' => .ok (.value v) w''
   | none => .ok (.value (.tuple #[.bool false])) w'):=by
   simp only[execOp,ho,hx',Instr.next,Sem.run_bind,hg,Result.andThen_ok,hgm,hstale,Bool.false_eq_true,if_false];rw[←hleft,←hold,←hnew,←hcands,hc];simp only[Result.andThen_ok,hget]
   cases cands[idx] with
   | none=>simp
   | some e=>simp
  rw[hrun];generalize cands[idx]=c at hmem;rw[hcands]at hmem
  have hsub:∀e,e∈left→∃x,x∈es∧x.2.2∉seen∧e=VO kk ek x:=by
   intro e he;rw[hleft,←hL]at he;simp at he;obtain⟨⟨a,b,c,hm,rfl⟩,hs⟩:=he;exact⟨_,hm,hs,_root_.rfl⟩
  cases c with
  | none =>
    refine Xg (v:=⟨.tp (.pr .b .un),(false,())⟩) (w':=w') _root_.rfl hs ?_;rw[hh];apply hov;intro x hx
    have hoe:old.isEmpty=true:=by
     cases ho:old.isEmpty with
     | true=>rfl
     | false=>simp[ho]at hmem
    have hoz:old = #[]:=by simpa using hoe
    by_cases hs:x.2.2∈seen
    ·exact .inl hs
    ·right
     rcases Nat.lt_or_ge x.2.2 since with hlt | hge
     ·exfalso
      have hl:VO kk ek x∈left:=by
       rw[hleft,←hL];simp only[Array.mem_filter,List.mem_toArray,List.mem_map];exact⟨⟨x,hx,_root_.rfl⟩,by simpa[VO] using hs⟩
      have ho':VO kk ek x∈old:=by
       rw[hold];simp only[Array.mem_filter];exact⟨hl,decide_eq_true hlt⟩
      rw[hoz]at ho';simp at ho'
     ·exact hge
  | some e =>
    have he:e∈left:=by
     have hmem':e∈old∨e∈new:=by
      cases ho:old.isEmpty with
      | true => simp only [ho, if_true, Array.mem_append, Array.mem_map] at hmem; rcases hmem with h | ⟨a, h, e1⟩
                ·simp at h
                ·cases e1;exact h
      | false => simp only [ho, Bool.false_eq_true, if_false, Array.mem_append, Array.mem_map] at hmem; rcases hmem with h | ⟨a, h, e1⟩
                 ·simp at h
                 ·cases e1;exact h
     rcases hmem' with h | h
     ·rw[hold]at h;exact(Array.mem_filter.1 h).1
     ·rw[hnew]at h;exact(Array.mem_filter.1 h).1
    obtain⟨x,hxm,hxs,rfl⟩:=hsub e he
    have hset:(setObj t (.mapIter (some r) since (seen.push x.2.2) clock)).run P w' = .ok () { w' with heap:=w'.heap.setIfInBounds t (.mapIter (some r) since (seen.push x.2.2) clock) }:=by
     have:w'.heap[t]? = some (Obj.mapIter (some r) since seen last):=by rw[hh];exact hi
     simp[setObj,Sem.run,this]
    refine Xg (v:=⟨.tp (.pr .b (.pr kk (.pr ek .un))),(true,(x.1,(x.2.1,())))⟩) (w':={ w' with heap:=w'.heap.setIfInBounds t (.mapIter (some r) since (seen.push x.2.2) clock) }) ?_ hs (by rw[hh];exact hstep x hxm hxs);simp only[VO,Sem.run_bind,hset,Result.andThen_ok,Sem.run_pure];show Result.ok (Next.value (Value.tuple #[.bool true,kk.val x.1,ek.val x.2.1])) _=Result.ok (Next.value (Value.tuple #[.bool true,Kd.val0 kk x.1,Kd.val0 ek x.2.1])) _;rw[Ve h1,Ve h2]
omit hτ in
theorem qj{o:Oper}{kk ek:Kd}{x:Operand}{t:Nat}{e:Operand→Option SV}{h:Ja}{K:Option SV→Hp} (h1:Vt kk=true) (h2:Vt ek=true)
 (ho:o.op = .entry x) (hx:e x=some ⟨.it kk ek,t⟩) (hr:en kk ek t h fun y z=>K (some ⟨.tp (.pr kk (.pr ek .un)),(y,(z,()))⟩) h):ZE P o e h K:=by
 intro ρ hρ w hw;subst hw;have hx' : ρ x = .pointer (some ⟨t,0,none⟩):=hρ x _ hx;obtain⟨r,since,seen,stamp,es,clock,y,hi,hm,hf,hK⟩:=hr;have hg:(getObj t).run P w = .ok (.mapIter (some r) since (seen.push stamp) clock) w:=W9 hi (by simp);have hgm:(getObj r).run P w = .ok (.map (es.map (VO kk ek)).toArray clock) w:=Go.MapKept.run_getObj_map hm
 have hfd:(es.map (VO kk ek)).toArray.find? (·.born == stamp)=some (VO kk ek y):=by
  rw[List.find?_toArray,List.find?_map,show((fun x:MapEntry=>x.born == stamp)∘VO kk ek)=(fun x=>x.2.2 == stamp) from _root_.rfl,hf]
  rfl
 refine Xg (v:=⟨.tp (.pr kk (.pr ek .un)),(y.1,(y.2.1,()))⟩) (w':=w) ?_ ⟨_root_.rfl,_root_.rfl⟩ hK;simp only[execOp,ho,hx',Instr.entry,Sem.run_bind,hg,Result.andThen_ok,Array.back?_push,hgm,bne_self_eq_false,Bool.false_eq_true,if_false,hfd,Sem.run_pure];show Result.ok (Next.value (Value.tuple #[kk.val y.1,ek.val y.2.1])) _=Result.ok (Next.value (Value.tuple #[Kd.val0 kk y.1,Kd.val0 ek y.2.1])) _;rw[Ve h1,Ve h2]
omit hτ in
theorem Uj{w:World}{k:Kd}{K:Option SV→Hp}{r:Result Next}
 (h:DM P (fun v w'=>∃x,v=k.val x∧w'.os=w.os∧w'.output=w.output∧K (some ⟨k,x⟩) w'.heap) r):UX P w K r:=by
 cases r with
 | ok x w' =>
   cases x <;> simp only[DM]at h
   case value v=>
    obtain⟨x,rfl,h1,h2,h3⟩:=h;exact⟨⟨h1,h2⟩,some ⟨k,x⟩,fun y hy=>by simp at hy;subst hy;rfl,h3⟩
   case enter f args=>
    refine CallsIn.mono h ?_;rintro e w'' ⟨v,rfl,x,rfl,h1,h2,h3⟩;exact⟨⟨k,x⟩,rfl,⟨h1,h2⟩,h3⟩
   case round l f tmps assign body=>
    refine RoundIn.mono h ?_;rintro e w'' ⟨v,rfl,x,rfl,h1,h2,h3⟩;exact⟨⟨k,x⟩,rfl,⟨h1,h2⟩,h3⟩
 | halt x w'=>exact h.elim
include hpl
def qi{o:Oper}{rks:Nat→Option Kd}{e:Operand→Option SV}{h:Ja}{K:Option SV→Hp} (hfe:∀f,e (.func f)=some ⟨.f,.func (.func f) #[] #[]⟩) (hr:ef P τ o.op o.type rks e h K):ZE P o e h K:=by
 generalize hop:o.op=op at hr;unfold ef at hr;split at hr
 ·rename_i T
  split at hr
  ·rename_i k hk
   obtain⟨ti,b1,rfl,b3⟩:=Z3 hk;exact RW hτ b1 b3 (.inl ⟨hop,rfl⟩) hr
  ·exact hr.elim
 ·rename_i T x
  split at hr
  ·rename_i v k hv hk
   obtain⟨ti,b1,rfl,b3⟩:=Z3 hk;split at hr
   ·rename_i z hz
    have:=YG hz;subst this;exact RW hτ b1 b3 (.inr ⟨x,hop,hv⟩) hr
   ·exact hr.elim
  ·exact hr.elim
 ·rename_i T x y
  split at hr
  ·rename_i a v k ha hv hk
   obtain⟨ti,b1,rfl,b3⟩:=Z3 hk;split at hr
   ·rename_i l z hl hz
    rw[asP_some]at hl;subst hl;have:=YG hz;subst this;exact xU hτ b1 b3 hop ha hv hr
   ·exact hr.elim
  ·exact hr.elim
 ·rename_i T n ps
  split at hr
  ·rename_i e0 k by_ pl et ti hg hel
   obtain⟨hT,t2,t4⟩:=ZY hτ hg hel;split at hr
   ·rename_i xs hle hx
    exact jZ hτ hT t2 t4 hop (by simpa using hle) hx hr
   ·exact hr.elim
  ·exact hr.elim
 ·rename_i T x y
  split at hr
  ·rename_i a b e0 k by_ pl et ti ha hb hg hel
   obtain⟨hT,t2,t4⟩:=ZY hτ hg hel;split at hr
   ·rename_i n c hn hc _
    rw[asI_some]at hn hc;subst hn;subst hc;exact qR hτ hT t2 t4 hop ha hb hr
   ·exact hr.elim
  ·exact hr.elim
 ·rename_i T r
  split at hr
  ·rename_i kt et k by_ pl hg hx
   obtain⟨desc,info,g1,_,_,_,_,g6⟩:=Yl hτ hg rfl;obtain⟨rfl,rfl⟩:=Zp g6;exact ja g1 hop hx hr
  ·exact hr.elim
 ·rename_i T x y z
  split at hr
  ·rename_i m key v kk ek hm hk hv hmo
   split at hr
   ·rename_i m' key' v' hm' hk' hv'
    rw[asM_some]at hm';subst hm';have:=YG hk';subst this;have:=YG hv';subst this;exact qS hτ hpl hmo hop hm hk hv hr
   ·exact hr.elim
  ·exact hr.elim
 ·rename_i T x
  split at hr
  ·rename_i v kk ek hv hmo
   obtain⟨kt,et,_,_,hu,_⟩:=Ib hτ hmo;split at hr
   ·rename_i m hm
    rw[asM_some]at hm;subst hm;exact jo hu hop hv hr
   ·exact hr.elim
  ·exact hr.elim
 ·rename_i x
  split at hr
  ·rename_i kk ek b hv
   split at hr
   ·rename_i h1 h2;exact qZ h1 h2 hop hv hr
   ·exact hr.elim
  ·exact hr.elim
 ·rename_i x
  split at hr
  ·rename_i kk ek b hv
   split at hr
   ·rename_i h1 h2;exact qj h1 h2 hop hv hr
   ·exact hr.elim
  ·exact hr.elim
 ·rename_i src dst x
  split at hr
  ·rename_i v k1 by1 pl1 e0 k2 by2 pl2 et by3 pl3 hv hs hd hel
   obtain⟨hT,t2,t4⟩:=ZY hτ hd hel;obtain⟨desc,info,g1,_,_,_,_,g6⟩:=Yl hτ hs rfl;obtain⟨rfl,rfl⟩:=Xr g6;obtain⟨desc,info,g1',_,_,_,_,g6'⟩:=Yl hτ t2 rfl;rcases XL g6' with⟨rfl,hh⟩ | ⟨rfl,hh⟩ | ⟨rfl,hh⟩ | ⟨rfl,hh⟩ | ⟨rfl,hh⟩ <;> try (simp at hh;done)
   split at hr
   ·rename_i s hs'
    rw[asS_some]at hs';subst hs';exact jt g1 hT g1' hop hv hr
   ·exact hr.elim
  ·exact hr.elim
 ·rename_i as ts
  split at hr
  ·rename_i x y T U h1 h2
   split at hr
   ·rename_i a b ha hb;exact CL hτ hop h1 h2 ha hb hr
   ·exact hr.elim
  ·exact hr.elim
 ·rename_i as ts
  split at hr
  ·rename_i x y T rest h1 h2
   split at hr
   ·rename_i a b ha hb;exact CV hτ hop h1 h2 ha hb hr
   ·exact hr.elim
  ·exact hr.elim
 ·rename_i as ts
  split at hr
  ·rename_i x T h1 h2
   split at hr
   ·rename_i a ha;exact EN hτ hop h1 h2 ha hr
   ·exact hr.elim
  ·exact hr.elim
 ·rename_i f as ts
  split at hr
  ·rename_i vs k hvs hk
   intro ρ hρ w hw;have hf : ρ (.func f) = .func (.func f) #[] #[]:=hρ _ _ (hfe f);have ha:=MW hρ hvs;have ha':as.map ρ = vs.toArray:=by apply Array.toList_inj.1;simpa using ha
   have:=Uj (hr w hw);simpa[execOp,hop,resolve,Deferred.ofValue,hf,invoke,ha'] using this
  ·exact hr.elim
 ·rename_i x as ts _
  split at hr
  ·rename_i v vs k hv hvs hk
   split at hr
   ·rename_i fv hfv
    rw[asF_some]at hfv;subst hfv;intro ρ hρ w hw;have hf : ρ x=Y7 fv:=hρ _ _ hv;have ha:=MW hρ hvs;have ha':as.map ρ = vs.toArray:=by apply Array.toList_inj.1;simpa using ha
    unfold QH at hr;split at hr
    ·rename_i f first cap
     have:=Uj (hr w hw);have e1:(first.toList++vs++cap.toList).toArray=first++(vs.toArray++cap):=by apply Array.toList_inj.1;simp
     rw[e1]at this;simpa[execOp,hop,resolve,Deferred.ofValue,hf,Y7,invoke,ha'] using this
    ·have:=Uj (hr w hw);simpa[execOp,hop,resolve,Deferred.ofValue,hf,Y7,invoke,ha'] using this
    ·exact hr.elim
   ·exact hr.elim
  ·exact hr.elim
 ·exact hr.elim
end
def Fw(ro:Option Nat):Fence:={ Fence.wide with round:=ro }
def GZ{ro:Option Nat}{n:Nat}{P:Program}{f:FuncId}{args:Array Value}{w:World}{R:Ending→World→Prop} (h:CallsIn Fence.wide n P f args w R):CallsIn (Fw ro) n P f args w R:=h
def Du{ro:Option Nat}{n:Nat}{P:Program}{l:Nat}{f:FuncId}{tmps:Array Value}{assign body:Code}{w:World}{R:Ending→World→Prop} (h:RoundIn Fence.wide n P l f tmps assign body w R):RoundIn (Fw ro) n P l f tmps assign body w R:=h
def GP(r:Nat):Deferred:={ target := .collected r,args := #[] }
structure WA (ρ : Yd) (a:Act):Prop where
 t:∀t v,t≠DS → ρ.get t=some v→a.tmps[t]? = some v.val
 d:∀v,ρ.get DS=some v→∃ds,v=⟨.d,ds⟩∧a.defers=ds.map GP
def WA.agree{ρ : Yd}{a:Act} (h:WA ρ a):UU (ev ρ) a.eval:=by
 intro x v hx
 cases x with
 | tmp t =>
   simp only[ev]at hx;split at hx
   ·simp at hx
   ·rename_i hne
    have:=h.t t v (by intro e;subst e;simp at hne) hx;simp only[Act.eval];rw[Array.getD_eq_getD_getElem?,this];rfl
 | const c=>simp only[ev]at hx;exact(S7 hx).symm
 | func f=>simp only[ev]at hx;simp at hx;subst hx;rfl
 | global g=>simp[ev]at hx
def Xd{ρ : Yd}{k t:Nat}{v:Option SV}:Yd.get ((k,v) :: ρ) t=if k=t then v else ρ.get t:=by
 simp only[Yd.get];by_cases h:k=t
 ·subst h;simp
 ·have:Nat.beq k t=false:=by
   cases hb:Nat.beq k t
   ·rfl
   ·exact absurd (Nat.eq_of_beq_eq_true hb) h
  rw[this];simp[h]
def Gl{a:Act}{d t:Nat}{v:Value}:(a.put (some d) v).tmps[t]? = if d=t then(if d<a.tmps.size then some v else none) else a.tmps[t]? := by
 simp only[Act.put,Array.getElem?_setIfInBounds]
def Eo{a:Act}{d:Option Nat}{v:Value}:(a.put d v).tmps.size=a.tmps.size:=by
 cases d <;> simp[Act.put]
def G2{a:Act}{d:Option Nat}{v:Value}:(a.put d v).defers=a.defers:=by
 cases d <;> simp[Act.put]
def Cg(N:Nat) (d:Option Nat):Prop:=∀t,d=some t→t<N∧t≠DS
def WA.put{ρ : Yd}{a:Act} (h:WA ρ a){d:Option Nat} (hd:Cg a.tmps.size d){x:Option SV}{v:Value} (hv:∀y,x=some y→v=y.val):WA (ρ.put d x) (a.put d v):=by
 cases d with
 | none=>exact h
 | some d =>
   obtain⟨h1,h2⟩:=hd d rfl
   constructor
   ·intro t y ht hy;simp only[Yd.put,Xd]at hy;rw[Gl];split at hy
    ·rename_i e;subst e;rw[if_pos rfl,if_pos h1,hv y hy]
    ·rename_i e;rw[if_neg e];exact h.t t y ht hy
   ·intro y hy;simp only[Yd.put,Xd]at hy;rw[if_neg h2]at hy;rw[G2];exact h.d y hy
def WA.know{ρ : Yd}{a:Act} (h:WA ρ a){d:Nat}{x:SV} (hd:d≠DS) (hv:a.tmps[d]? = some x.val):WA (ρ.put (some d) (some x)) a:=by
 constructor
 ·intro t y ht hy;simp only[Yd.put,Xd]at hy;split at hy
  ·rename_i e;subst e;simp at hy;subst hy;exact hv
  ·exact h.t t y ht hy
 ·intro y hy;simp only[Yd.put,Xd]at hy;rw[if_neg hd]at hy;exact h.d y hy
def S6:∀(l:List Oper) (n:Nat),jb l n=l[n]? := by
 intro l
 induction l with
 | nil=>intro n;simp[jb]
 | cons x r ih=>intro n;cases n <;> simp[jb,ih]
section
variable {P:Program} {τ : Yv} (hτ : Zg P τ) (hpl:∀t ti,τ.get t=some ti→ti.plain=true→QV P τ t ti=true)
def Ie(N:Nat) (l:List Oper):Prop:=∀o∈l,Cg N o.dst
def PC{ops:Array Oper}{o:Oper} {ρ : Yd}{a:Act}{K:Bool→Yd→Prop} (hR:WA ρ a) (hd:Ie a.tmps.size ops.toList) (h:gd ops.toList o.guard ρ K) :
 ∃ ρ',WA ρ' a∧K (Region.wanted o (yielded ops a.tmps)) ρ':=by
 unfold gd at h;split at h
 ·rename_i hg
  exact⟨ρ,hR,by simpa[Region.wanted,hg] using h⟩
 ·rename_i j want hg
  split at h
  ·rename_i og hog
   rw[S6]at hog;split at h
   ·rename_i d hdst
    split at h
    ·rename_i v hv
     have hdd:=(hd og (List.mem_of_getElem? hog) d hdst).2;have hav:=hR.t d v hdd hv;have hop:ops[j]? = some og:=by simpa using hog
     have hy:yielded ops a.tmps j=match v.val with | .bool b=>some b | _=>none:=by
      simp only[yielded,hop,Option.bind_some,hdst,hav]
      cases v.val <;> rfl
     split at h
     ·rename_i b hb
      rw[asB_some]at hb;subst hb;simp at hy;split at h
      ·rename_i hbt
       refine⟨_,hR.know (x:=⟨.b,true⟩) hdd (by rw[hav,hbt]),?_⟩;have:Region.wanted o (yielded ops a.tmps)=want:=by simp[Region.wanted,hg,hy,hbt]
       rw[this];exact h
      ·rename_i hbf
       have hbf:b=false:=by simpa using hbf
       refine⟨_,hR.know (x:=⟨.b,false⟩) hdd (by rw[hav,hbf]),?_⟩;have:Region.wanted o (yielded ops a.tmps) = !want:=by cases want <;> simp[Region.wanted,hg,hy,hbf]
       rw[this];exact h
     ·split at h
      ·rename_i hv1
       obtain⟨k,x⟩:=v;simp only at hv1;subst hv1;refine⟨ρ,hR,?_⟩;have:Region.wanted o (yielded ops a.tmps)=false:=by simp[Region.wanted,hg,hy]
       rw[this];exact h
      ·exact h.elim
    ·exact h.elim
   ·exact h.elim
  ·exact h.elim
def Dy{ro:Option Nat}{o:Oper}{a:Act} (h:∀c,o.op ≠ .defer c):o.semAt (Fw ro).round a.eval=execOp a.eval o:=Oper.semAt_eq _ _ _ h
def Ef{o:Oper}{e:Operand→Option SV}{h:Ja}{K:SV→Option (Hp)→Prop} (hr:rd τ o.op e h K):∀c,o.op ≠ .defer c:=by
 intro c hc;rw[hc]at hr;simp[rd]at hr
def SF{op:Op}{oty:Nat}{rks:Nat→Option Kd}{e:Operand→Option SV}{h:Ja}{K:Option SV→Hp} (hr:ef P τ op oty rks e h K):∀c,op ≠ .defer c:=by
 intro c hc;rw[hc]at hr;simp[ef]at hr
include hτ hpl
def zu{ro:Option Nat}{o:Oper} {ρ : Yd}{a:Act}{w:World}{h:Ja}{K:SV→Option (Hp)→Prop}{Q:Exit→Act→World→Prop}{next:Act→World→Prop} (hR:WA ρ a) (hw:w.heap=h) (hr:rd τ o.op (ev ρ) h K)
 (hn:∀v q,K v q→(∀f,q=some f→f h)→zU P o (ev ρ) v q→next (a.put o.dst v.val) w):o.wpIn (Fw ro) 0 P a w next Q:=by
 obtain⟨v,q,hK,hq,hy⟩:=Eg hτ hpl hr;refine⟨fun _ _=>trivial,?_⟩;rw[Dy (Ef hr),hy a.eval hR.agree w (fun f hf=>by rw[hw];exact hq f hf),Oper.uponIn_value];exact hn v q hK hq hy
def SG{ro:Option Nat}{o:Oper} {ρ : Yd}{a A:Act} (he:execOp a.eval o=execOp A.eval o){w:World}{h:Ja}{K:Option SV→Hp}{Q:Exit→Act→World→Prop}{next:Act→World→Prop} (hR:WA ρ A) (hw:w.heap=h) (hr:ef P τ o.op o.type τ.rk (ev ρ) h K)
 (hn:∀x v w',K x w'.heap→(∀y,x=some y→v=y.val)→Yo w w'→next (a.put o.dst v) w'):o.wpIn (Fw ro) 0 P a w next Q:=by
 have ht:=qi hτ hpl (fun f=>rfl) hr A.eval hR.agree w hw;refine⟨fun _ _=>trivial,?_⟩;rw[Dy (SF hr),he];generalize (execOp A.eval o).run P w=r at ht
 cases r with
 | ok x w' =>
   cases x <;> simp only[UX]at ht
   case value v=>
    obtain⟨hs,x,hx,hK⟩:=ht;exact hn x v w' hK hx hs
   case skip=>exact hn none undef w' ht.2 (fun y hy=>by simp at hy) ht.1
   case enter f args=>
    rw[Oper.uponIn_enter];refine⟨fun h=>by simp[Fw,Fence.wide]at h,GZ (CallsIn.mono ht ?_)⟩;rintro e w'' ⟨x,rfl,hs,hK⟩;exact hn (some x) _ w'' hK (fun y hy=>by simp at hy;rw[hy]) hs
   case round l f tmps assign body=>
    rw[Oper.uponIn_round];refine⟨fun h=>by simp[Fw,Fence.wide]at h,Du (RoundIn.mono ht ?_)⟩;rintro e w'' ⟨x,rfl,hs,hK⟩;exact hn (some x) _ w'' hK (fun y hy=>by simp at hy;rw[hy]) hs
 | halt x w'=>exact ht.elim
def yS{ro:Option Nat}{o:Oper} {ρ : Yd}{a:Act}{w:World}{h:Ja}{K:Option SV→Hp}{Q:Exit→Act→World→Prop}{next:Act→World→Prop} (hR:WA ρ a) (hw:w.heap=h) (hr:ef P τ o.op o.type τ.rk (ev ρ) h K)
 (hn:∀x v w',K x w'.heap→(∀y,x=some y→v=y.val)→Yo w w'→next (a.put o.dst v) w'):o.wpIn (Fw ro) 0 P a w next Q:=SG hτ hpl _root_.rfl hR hw hr hn
structure Zc (ms:List Nat) (a a':Act):Prop where
 size:a'.tmps.size=a.tmps.size
 t:∀t,t∉ms→a'.tmps[t]? = a.tmps[t]?
 d:DS∉ms→a'.defers=a.defers
omit hτ hpl in
theorem Zc.rfl{ms:List Nat}{a:Act}:Zc ms a a:=⟨Eq.refl _,fun _ _=>Eq.refl _,fun _=>Eq.refl _⟩
omit hτ hpl in
theorem Zc.trans{ms:List Nat}{a b c:Act} (h1:Zc ms a b) (h2:Zc ms b c):Zc ms a c:=
 ⟨h2.size.trans h1.size,fun t ht=>(h2.t t ht).trans (h1.t t ht),fun h=>(h2.d h).trans (h1.d h)⟩
omit hτ hpl in
theorem Zc.mono{ms ms':List Nat}{a b:Act} (h:Zc ms a b) (hs:∀t∈ms,t∈ms'):Zc ms' a b:=
 ⟨h.size,fun t ht=>h.t t fun h'=>ht (hs t h'),fun hd=>h.d fun h'=>hd (hs _ h')⟩
omit hτ hpl in
theorem Zc.put{ms:List Nat}{a:Act}{d:Option Nat}{v:Value} (hd:∀t,d=some t→t∈ms):Zc ms a (a.put d v):=by
 refine⟨Eo,fun t ht =>?_,fun _=>G2⟩
 cases d with
 | none=>rfl
 | some d =>
   rw[Gl];split
   ·rename_i e;subst e;exact absurd (hd _ _root_.rfl) ht
   ·exact Eq.refl _
omit hτ hpl in
theorem PP:∀ {l:List Oper}{o:Oper},o∈l→∀t,o.dst=some t→t∈G5 l:=by
 intro l
 induction l with
 | nil=>intro o h;simp at h
 | cons x r ih =>
   intro o h t ht;simp only[G5];rcases List.mem_cons.1 h with rfl | h
   ·rw[ht];simp
   ·split
    ·exact List.mem_cons_of_mem _ (ih h t ht)
    ·exact ih h t ht
def EI{ro:Option Nat}{ops:Array Oper}{N:Nat} (hd:Ie N ops.toList){Q:Exit→Act→World→Prop}{K:Yd→Hp}{w0:World}{a0:Act} (hN:a0.tmps.size=N)
 (hQ:∀ ρ a w,WA ρ a→K ρ w.heap→Yo w0 w→Zc (G5 ops.toList) a0 a→Q .normal a w) :
 ∀(rest:List Oper),(∀o∈rest,o∈ops.toList)→∀(ρ : Yd) (h:Ja) (a:Act) (w:World),j4 P τ ops.toList rest ρ h K→WA ρ a→w.heap=h→Yo w0 w→Zc (G5 ops.toList) a0 a→wpListIn (Fw ro) 0 P ops Q rest a w:=by
 intro rest
 induction rest with
 | nil=>intro _ ρ h a w hc hR hw hs hk;subst hw;exact hQ ρ a w hR hc hs hk
 | cons o r ih =>
   intro hmem ρ h a w hc hR hw hs hk;have hsz:a.tmps.size=N:=hk.size.trans hN;have hod:=hd o (hmem o (by simp));have hkd:∀v,Zc (G5 ops.toList) a0 (a.put o.dst v):=fun v=>hk.trans (Zc.put fun t ht=>PP (hmem o (by simp)) t ht);simp only[j4]at hc;obtain⟨ρ',hR',hc⟩:=PC hR (by rw[hsz];exact hd) hc;simp only[wpListIn];split
   ·rename_i hwant
    rw[hwant]at hc;simp only[opC]at hc;split at hc
    ·refine zu hτ hpl hR' hw hc fun v q hK hq hy =>?_;exact ih (fun o ho=>hmem o (by simp[ho])) _ _ _ _ hK (hR'.put (by rw[hsz];exact hod) fun y hy=>by simp at hy;rw[hy]) hw hs (hkd _)
    ·refine yS hτ hpl hR' hw hc fun x v w' hK hx hs' =>?_;exact ih (fun o ho=>hmem o (by simp[ho])) _ _ _ _ hK (hR'.put (by rw[hsz];exact hod) hx) _root_.rfl ⟨hs'.1.trans hs.1,hs'.2.trans hs.2⟩ (hkd _)
   ·rename_i hwant
    have hwant:Region.wanted o (yielded ops a.tmps)=false:=by simpa using hwant
    rw[hwant]at hc;exact⟨fun _ _=>trivial,ih (fun o ho=>hmem o (by simp[ho])) _ _ _ _ hc (hR'.put (x:=some ⟨.un,()⟩) (by rw[hsz];exact hod) fun y hy=>by simp at hy;subst hy;rfl) hw hs (hkd _)⟩
end
def MS(a b:Nat):Nat.beq a b=true↔a=b:=⟨Nat.eq_of_beq_eq_true,fun h=>by subst h;simp⟩
def VQ(m i:Nat):VD m i=m.testBit i:=by
 rw[Bool.eq_iff_iff];unfold VD;rw[MS];show m&&&2^i=2^i↔_
 constructor
 ·intro h;have:=congrArg (fun n=>Nat.testBit n i) h;simpa[Nat.testBit_and,Nat.testBit_two_pow] using this
 ·intro h;apply Nat.eq_of_testBit_eq;intro j;rw[Nat.testBit_and,Nat.testBit_two_pow];by_cases hj:i=j
  ·subst hj;simp[h]
  ·simp[hj]
def Tq(a b i:Nat):VD (Nat.lor a b) i=(VD a i||VD b i):=by
 simp only[VQ];exact Nat.testBit_or a b i
def DO(k i:Nat):VD (2^k) i=decide (k=i):=by
 rw[VQ,Nat.testBit_two_pow]
def yJ(d i j:Nat):VD (Nat.lor d (2^i)) j=(VD d j||decide (i=j)):=by rw[Tq,DO]
def Su(i:Nat):VD 0 i=false:=by rw[VQ];simp
def Rd(m d:Nat):Gn m d=true↔∀i,VD m i=true→VD d i=true:=by
 unfold Gn;rw[MS];show m&&&d=m↔_
 constructor
 ·intro h i hi;rw[VQ]at hi ⊢;rw[←h,Nat.testBit_and]at hi;simp at hi;exact hi.2
 ·intro h;apply Nat.eq_of_testBit_eq;intro i;have:=h i;rw[VQ,VQ]at this;rw[Nat.testBit_and]
  cases hm:m.testBit i
  ·simp
  ·rw[this hm];rfl
def qX:∀(l:List Nat) (n:Nat),qW l n=l.getD n 0:=by
 intro l
 induction l with
 | nil=>intro n;simp[qW]
 | cons x r ih=>intro n;cases n <;> simp[qW,ih]
def SS:∀(l:List Nat) (t:Nat),TC l t=true↔t∈l:=by
 intro l
 induction l with
 | nil=>intro t;simp[TC]
 | cons x r ih =>
   intro t;simp only[TC];by_cases h:x=t
   ·subst h;simp
   ·have:Nat.beq x t=false:=by
     cases hb:Nat.beq x t
     ·rfl
     ·exact absurd ((MS _ _).1 hb) h
    rw[this];simp[ih];exact fun e=>absurd e.symm h
def CR(acc:List Nat) (k:Nat):∀(es:List Edge) (m:Nat),VD (Tp acc es m) k=true↔VD m k=true∨∃e∈es,WI e=true∧(e.on=k∨VD (acc.getD e.on 0) k=true):=by
 intro es
 induction es with
 | nil=>intro m;simp[Tp]
 | cons e r ih =>
   intro m;simp only[Tp];split
   ·rename_i he
    rw[ih,Tq,Tq,DO,qX];simp[he,or_assoc]
   ·rename_i he
    rw[ih];simp[he]
def Ss:∀(l:List Oper) (acc:List Nat),∃r,ZG l acc=acc++r∧r.length=l.length∧∀i o,l[i]? = some o→(ZG l acc)[acc.length+i]? = some (Tp ((ZG l acc).take (acc.length+i)) o.after.toList 0):=by
 intro l
 induction l with
 | nil=>intro acc;exact⟨[],by simp[ZG],rfl,fun i o h=>by simp at h⟩
 | cons x l ih =>
   intro acc;simp only[ZG];obtain⟨r,h1,h2,h3⟩:=ih (acc++[Tp acc x.after.toList 0]);refine⟨Tp acc x.after.toList 0::r,by rw[h1];simp,by simp[h2],?_⟩;intro i o hi
   cases i with
   | zero =>
     simp at hi;subst hi;rw[h1];simp
   | succ i =>
     have:=h3 i o (by simpa using hi);simpa[Nat.add_assoc,Nat.add_comm 1 i] using this
def EF(ops:List Oper) (i:Nat):Nat:=(ZG ops []).getD i 0
def U1(ops:List Oper):(ZG ops []).length=ops.length:=by
 obtain⟨r,h1,h2,_⟩:=Ss ops [];rw[h1];simpa using h2
def GY{i:Nat}:∀ {es:List Edge},Pd i es=true→∀e∈es,WI e=true→e.on<i:=by
 intro es
 induction es with
 | nil=>intro _ e h;simp at h
 | cons x r ih =>
   intro h e he ha;simp only[Pd,Bool.and_eq_true]at h;rcases List.mem_cons.1 he with rfl | he
   ·rw[ha]at h;simpa using h.1
   ·exact ih h.2 e he ha
def jX{ops:List Oper}{i:Nat}{o:Oper} (ho:ops[i]? = some o) (hb:Pd i o.after.toList=true) (k:Nat) :
 VD (EF ops i) k=true↔∃e∈o.after.toList,WI e=true∧(e.on=k∨VD (EF ops e.on) k=true):=by
 obtain⟨r,h1,h2,h3⟩:=Ss ops [];have:=h3 i o ho;simp only[List.length_nil,Nat.zero_add]at this;unfold EF;rw[List.getD_eq_getElem?_getD,this];simp only[Option.getD_some];rw[CR,Su];simp only[Bool.false_eq_true,false_or]
 constructor
 ·rintro⟨e,h4,h5,h6⟩;refine⟨e,h4,h5,?_⟩;have hlt:=GY hb e h4 h5;rw[List.getD_eq_getElem?_getD,List.getElem?_take_of_lt hlt]at h6;rw[List.getD_eq_getElem?_getD];exact h6
 ·rintro⟨e,h4,h5,h6⟩;refine⟨e,h4,h5,?_⟩;have hlt:=GY hb e h4 h5;rw[List.getD_eq_getElem?_getD,List.getElem?_take_of_lt hlt];rw[List.getD_eq_getElem?_getD]at h6;exact h6
def xg{all:List Oper}{bi i d:Nat}:∀ {l:List Oper}{bs:List Nat}{n:Nat},okW all bi i d l bs n=true→bs.length=l.length→∀k o,l[k]? = some o→n+k≠i →
 o.dst≠some d∧(d∈Iz all o→VD (bs.getD k 0) i=true∨VD bi (n+k)=true):=by
 intro l
 induction l with
 | nil=>intro bs n _ _ k o h;simp at h
 | cons x r ih =>
   intro bs n h hl k o hk hne
   cases bs with
   | nil=>simp at hl
   | cons b bs =>
     simp only[okW,Bool.and_eq_true]at h
     cases k with
     | zero =>
       simp at hk;subst hk;have h1:=h.1;split at h1
       ·rename_i hb;exact absurd ((MS _ _).1 hb).symm hne
       ·simp only[Bool.and_eq_true,Bool.or_eq_true]at h1;obtain⟨h1,h2⟩:=h1;refine⟨?_,fun hm =>?_⟩
        ·intro e;rw[e]at h1;simp at h1
        ·rcases h2 with(h2 | h2) | h2
         ·have:=(SS _ _).2 hm;rw[this]at h2;simp at h2
         ·exact .inl (by simpa using h2)
         ·exact .inr (by simpa using h2)
     | succ k =>
       have:=ih h.2 (by simpa using hl) k o (by simpa using hk) (by omega);simpa[Nat.add_assoc,Nat.add_comm 1 k] using this
def S8{all:List Oper}{bf:List Nat} (hbf:bf.length=all.length):∀ {l:List Oper}{bs:List Nat}{n:Nat},vN all bf l bs n=true→bs.length=l.length→∀k o,l[k]? = some o →
 T9 o.op=true∧Pd (n+k) o.after.toList=true∧∀d,o.dst=some d→d∉Iz all o∧∀j o',all[j]? = some o'→j≠n+k→o'.dst≠some d∧(d∈Iz all o'→VD (bf.getD j 0) (n+k)=true∨VD (bs.getD k 0) j=true):=by
 intro l
 induction l with
 | nil=>intro bs n _ _ k o h;simp at h
 | cons x r ih =>
   intro bs n h hl k o hk
   cases bs with
   | nil=>simp at hl
   | cons b bs =>
     simp only[vN,Bool.and_eq_true]at h;obtain⟨⟨⟨h0,h1⟩,h2⟩,h3⟩:=h
     cases k with
     | zero =>
       simp at hk;subst hk;refine⟨h0,h1,fun d hd =>?_⟩;rw[hd]at h2;simp only[Bool.and_eq_true]at h2;refine⟨fun hm=>by have:=(SS _ _).2 hm;rw[this]at h2;simp at h2,fun j o' hj hne =>?_⟩;have:=xg h2.2 hbf j o' hj (by omega);simpa using this
     | succ k =>
       have:=ih h3 (by simpa using hl) k o (by simpa using hk);simpa[Nat.add_assoc,Nat.add_comm 1 k] using this
def jf(op:Op) (hs:∀cs bl,op ≠ .select cs bl):∀x∈op.operands.toList,x∈xh op:=by
 intro x hx
 cases op <;> simp[Op.operands,xh,Call.operands]at hx ⊢ <;> try exact hx
 case select=>exact(hs _ _ rfl).elim
 all_goals
  rename_i c
  obtain⟨callee,args,ats⟩:=c
  cases callee <;> simpa using hx
def Db:∀ {xs:List Operand}{t:Nat},Operand.tmp t∈xs→t∈Mr xs:=by
 intro xs
 induction xs with
 | nil=>intro t h;simp at h
 | cons x r ih =>
   intro t h;rcases List.mem_cons.1 h with rfl | h
   ·simp[Mr]
   ·have:=ih h
    cases x <;> simp[Mr,this]
def M6(ops:Array Oper) (o:Oper) (a b:Act):Prop:=∀t∈Iz ops.toList o,a.tmps[t]? = b.tmps[t]?
def M6.exec{ops:Array Oper}{o:Oper}{a b:Act} (h:M6 ops o a b) (hs:∀cs bl,o.op ≠ .select cs bl):execOp a.eval o=execOp b.eval o:=by
 refine execOp_congr o hs fun x hx =>?_;have hm:=jf o.op hs x (by simpa using hx)
 cases x with
 | tmp t =>
   have:=h t (List.mem_append_left _ (Db hm));simp only[Act.eval,Array.getD_eq_getD_getElem?,this]
 | _=>rfl
def M6.wanted{ops:Array Oper}{o:Oper}{a b:Act} (h:M6 ops o a b):Region.wanted o (yielded ops a.tmps)=Region.wanted o (yielded ops b.tmps):=by
 unfold Region.wanted
 cases hg:o.guard with
 | none=>rfl
 | some p =>
   obtain⟨j,want⟩:=p;simp only
   have:yielded ops a.tmps j=yielded ops b.tmps j:=by
    unfold yielded
    cases hj:ops[j]? with
    | none=>rfl
    | some og =>
      cases hd:og.dst with
      | none=>simp[hd]
      | some d =>
        have hl:d∈Iz ops.toList o:=by
         refine List.mem_append_right _ ?_;simp only[hg,S6,Array.getElem?_toList,hj,hd];simp
        simp only[Option.bind_some,hd,h d hl]
   rw[this]
structure Is (ops:Array Oper) (a0:Act) (V:Nat→Value) (S:Nat→Prop) (a:Act):Prop where
 on:∀i o t,ops[i]? = some o→o.dst=some t→S i→a.tmps[t]? = some (V i)
 off:∀t,(∀i o,ops[i]? = some o→o.dst=some t→¬S i)→a.tmps[t]? = a0.tmps[t]?
 size:a.tmps.size=a0.tmps.size
 defers:a.defers=a0.defers
def Is.agree{ops:Array Oper}{a0 a b:Act}{V V':Nat→Value}{S S':Nat→Prop} (h:Is ops a0 V S a) (h':Is ops a0 V' S' b){t:Nat} (ht:∀i o,ops[i]? = some o→o.dst=some t→(S i↔S' i)∧(S i→V i=V' i)) :
 a.tmps[t]? = b.tmps[t]? := by
 by_cases hc:∃i o,ops[i]? = some o∧o.dst=some t∧S i
 ·obtain⟨i,o,h1,h2,h3⟩:=hc;obtain⟨e1,e2⟩:=ht i o h1 h2;rw[h.on i o t h1 h2 h3,h'.on i o t h1 h2 (e1.1 h3),e2 h3]
 ·rw[h.off t (fun i o h1 h2 h3=>hc ⟨i,o,h1,h2,h3⟩),h'.off t (fun i o h1 h2 h3=>hc ⟨i,o,h1,h2,(ht i o h1 h2).1.2 h3⟩)]
def Is.same{ops:Array Oper}{a0 a:Act}{V V':Nat→Value}{S S':Nat→Prop} (h:Is ops a0 V S a) (hS:∀i,S i↔S' i) (hV:∀i,S i→V i=V' i):Is ops a0 V' S' a:=
 ⟨fun i o t h1 h2 h3=>by rw[h.on i o t h1 h2 ((hS i).2 h3),hV i ((hS i).2 h3)],fun t ht=>h.off t fun i o h1 h2 h3=>ht i o h1 h2 ((hS i).1 h3),h.size,h.defers⟩
def DH(V:Nat→Value) (i:Nat) (v:Value):Nat→Value:=fun k=>if k=i then v else V k
def add(S:Nat→Prop) (i:Nat):Nat→Prop:=fun k=>S k∨k=i
section
variable {ops:Array Oper}{a0:Act} (hok:vN ops.toList (ZG ops.toList []) ops.toList (ZG ops.toList []) 0=true) (hd:Ie a0.tmps.size ops.toList)
include hok in
theorem xT{k:Nat}{o:Oper} (ho:ops[k]? = some o):Pd k o.after.toList=true∧∀d,o.dst=some d→d∉Iz ops.toList o∧∀j o',ops[j]? = some o'→j≠k→o'.dst≠some d∧(d∈Iz ops.toList o'→VD (EF ops.toList j) k=true∨VD (EF ops.toList k) j=true):=by
 have:=S8 (U1 _) hok (U1 _) k o (by simpa using ho);refine⟨by simpa using this.2.1,fun d hd=>⟨(this.2.2 d hd).1,fun j o' hj hne =>?_⟩⟩;have:=(this.2.2 d hd).2 j o' (by simpa using hj) (by omega);simpa[EF] using this
include hok in
theorem vC{k:Nat}{o:Oper} (ho:ops[k]? = some o):(∀c b,o.op ≠ .select c b)∧∀c,o.op ≠ .defer c:=by
 have:=(S8 (U1 _) hok (U1 _) k o (by simpa using ho)).1;exact⟨fun c b h=>by rw[h]at this;simp[T9]at this,fun c h=>by rw[h]at this;simp[T9]at this⟩
include hok hd in
theorem Is.put{a:Act}{V:Nat→Value}{S:Nat→Prop} (h:Is ops a0 V S a){i:Nat}{o:Oper} (ho:ops[i]? = some o) (v:Value):Is ops a0 (DH V i v) (add S i) (a.put o.dst v):=by
 refine⟨fun k ok t h1 h2 h3 =>?_,fun t ht =>?_,Eo.trans h.size,G2.trans h.defers⟩
 ·by_cases hk:k=i
  ·subst hk;rw[ho]at h1;simp at h1;subst h1;have hb:=hd o (List.mem_of_getElem? (by simpa using ho)) t h2;rw[h2,Gl,if_pos rfl,if_pos (by rw[h.size];exact hb.1)];simp[DH]
  ·have hS:S k:=by rcases h3 with h3 | h3;exact h3;exact absurd h3 hk
   have:=h.on k ok t h1 h2 hS;simp only[DH,if_neg hk]
   cases hdst:o.dst with
   | none=>exact this
   | some d =>
     rw[Gl];have hne:d≠t:=fun e=>((xT hok ho).2 d hdst).2 k ok h1 hk |>.1 (by rw[e];exact h2)
     rw[if_neg hne];exact this
 ·have hno:=h.off t fun k ok h1 h2 h3=>ht k ok h1 h2 (.inl h3)
  cases hdst:o.dst with
  | none=>exact hno
  | some d =>
    rw[Gl];have hne:d≠t:=fun e=>ht i o ho (by rw[hdst,e]) (.inr rfl);rw[if_neg hne];exact hno
def DC(ops:Array Oper) (S:Nat→Prop):Prop:=∀i,S i→∀k,VD (EF ops.toList i) k=true→S k
include hok in
theorem Ca{a b:Act}{V:Nat→Value}{S S':Nat→Prop} (h:Is ops a0 V S a) (h':Is ops a0 V S' b){j:Nat}{o:Oper} (ho:ops[j]? = some o) (c1:DC ops S) (c2:DC ops S') (n1:¬S j) (n2:¬S' j)
 (b1:∀k,VD (EF ops.toList j) k=true→S k) (b2:∀k,VD (EF ops.toList j) k=true→S' k):M6 ops o a b:=by
 intro t ht;refine h.agree h' fun i oi hi hdi =>?_;by_cases hij:i=j
 ·subst hij;rw[ho]at hi;simp at hi;subst hi;exact absurd ht ((xT hok ho).2 t hdi).1
 ·rcases(((xT hok hi).2 t hdi).2 j o ho (fun e=>hij e.symm)).2 ht with hb | hb
  ·exact⟨⟨fun _=>b2 i hb,fun _=>b1 i hb⟩,fun _=>rfl⟩
  ·exact⟨⟨fun hS=>absurd (c1 i hS j hb) n1,fun hS=>absurd (c2 i hS j hb) n2⟩,fun _=>rfl⟩
end
def bits(d:Nat):Nat→Prop:=fun i=>VD d i=true
def Yw(d i:Nat) (k:Nat):bits (Nat.lor d (2^i)) k↔add (bits d) i k:=by
 unfold bits add;rw[yJ];simp
 constructor
 ·rintro(h | h)
  ·exact .inl h
  ·exact .inr h.symm
 ·rintro(h | h)
  ·exact .inl h
  ·exact .inr h.symm
section
variable {τ : Yv}
def SO:∀ {l:List Oper}{bs:List Nat}{n d k:Nat}{o:Oper},Wu τ l bs n d=some (k,o)→∃m,k=n+m∧l[m]? = some o∧VD d k=false∧Gn (bs.getD m 0) d=true∧Tg τ o.op=false:=by
 intro l
 induction l with
 | nil=>intro bs n d k o h;simp[Wu]at h
 | cons x r ih =>
   intro bs n d k o h
   cases bs with
   | nil=>simp[Wu]at h
   | cons b bs =>
     simp only[Wu]at h;split at h
     ·rename_i h1 h2 h3
      simp at h;obtain⟨rfl,rfl⟩:=h;exact⟨0,by simp,by simp,h1,by simpa using h2,h3⟩
     ·obtain⟨m,h1,h2,h3,h4,h5⟩:=ih h;exact⟨m+1,by omega,by simpa using h2,h3,by simpa using h4,h5⟩
def wa:∀ {l:List Oper}{bs:List Nat}{n d:Nat},Wu τ l bs n d=none→bs.length=l.length→∀m o,l[m]? = some o→VD d (n+m)=false→Gn (bs.getD m 0) d=true→Tg τ o.op=true:=by
 intro l
 induction l with
 | nil=>intro bs n d _ _ m o h;simp at h
 | cons x r ih =>
   intro bs n d h hl m o hm h1 h2
   cases bs with
   | nil=>simp at hl
   | cons b bs =>
     simp only[Wu]at h;split at h
     ·simp at h
     ·rename_i hno
      cases m with
      | zero =>
        simp at hm;subst hm
        cases ht:Tg τ x.op with
        | true=>rfl
        | false=>exact(hno (by simpa using h1) (by simpa using h2) ht).elim
      | succ m=>exact ih h (by simpa using hl) m o (by simpa using hm) (by rw[←h1];congr 1;omega) (by simpa using h2)
def Dp:∀ {l:List Oper}{bs:List Nat}{n d:Nat},bs.length=l.length→∀m o,l[m]? = some o→VD d (n+m)=false→Gn (bs.getD m 0) d=true→(n+m,bs.getD m 0,o)∈Wv l bs n d:=by
 intro l
 induction l with
 | nil=>intro bs n d _ m o h;simp at h
 | cons x r ih =>
   intro bs n d hl m o hm h1 h2
   cases bs with
   | nil=>simp at hl
   | cons b bs =>
     simp only[Wv]
     cases m with
     | zero =>
       simp at hm;subst hm;simp at h1 h2;simp[h1,h2]
     | succ m =>
       have:=ih (bs:=bs) (n:=n+1) (d:=d) (by simpa using hl) m o (by simpa using hm) (by rw[←h1];congr 1;omega) (by simpa using h2);have e:n+1+m=n+(m+1):=by omega
       rw[e]at this;split
       ·exact List.mem_cons_of_mem _ (by simpa using this)
       ·simpa using this
def CK{α : Type}{f : α → Prop}:∀ {l:List α},jS f l→∀x∈l,f x:=by
 intro l
 induction l with
 | nil=>intro _ x h;simp at h
 | cons y r ih =>
   intro h x hx
   cases r with
   | nil=>simp at hx;subst hx;exact h
   | cons z r =>
     rcases List.mem_cons.1 hx with rfl | hx
     ·exact h.1
     ·exact ih h.2 x hx
def xV:∀ {rs:WB}{h:Ja}{X:Prop},zF rs h X→X∧∀j f,(j,some f)∈rs→f h:=by
 intro rs
 induction rs with
 | nil=>intro h X hx;exact⟨hx,fun j f hm=>by simp at hm⟩
 | cons p r ih =>
   obtain⟨i,q⟩:=p;intro h X hx
   have hx:(∀f,q=some f→f h)∧zF r h X:=by
    cases q with
    | none=>exact⟨fun f e=>by simp at e,hx⟩
    | some g=>exact⟨fun f e=>by cases e;exact hx.1,hx.2⟩
   obtain⟨h1,h2⟩:=hx;obtain⟨h3,h4⟩:=ih h2;refine⟨h3,fun j f hm =>?_⟩;rcases List.mem_cons.1 hm with hm | hm
   ·simp at hm;exact h1 f hm.2.symm
   ·exact h4 j f hm
def RP{b:Nat}:∀ {rs:WB}{j:Nat}{f:Hp},(j,some f)∈rs→VD b j=false→(j,some f)∈RO b rs:=by
 intro rs
 induction rs with
 | nil=>intro j f h;simp at h
 | cons p r ih =>
   obtain⟨i,q⟩:=p;intro j f h hb;simp only[RO];rcases List.mem_cons.1 h with h | h
   ·simp at h;obtain⟨rfl,rfl⟩:=h;rw[hb];simp
   ·split
    ·exact ih h hb
    ·exact List.mem_cons_of_mem _ (ih h hb)
end
section
variable {P:Program} {τ : Yv}{ops:Array Oper}{a0:Act}
def yB(P:Program) (τ : Yv) (ops:Array Oper) (a0:Act) (V:Nat→Value) (rs:WB) (h:Ja) (d:Nat→Prop) (j:Nat) (o:Oper):Prop:=
 Tg τ o.op=false∧(∀c bl,o.op ≠ .select c bl)∧(∀c,o.op ≠ .defer c)∧∃(q:Option (Hp)) (D:Nat→Prop) (b:Act),(∀f,q=some f→f h∧(j,some f)∈rs)∧Is ops a0 V D b∧DC ops D∧(∀k,D k→d k)∧¬D j ∧
  (∀k,VD (EF ops.toList j) k=true→D k) ∧
  ((Region.wanted o (yielded ops b.tmps)=true∧∀w:World,(∀f,q=some f→f w.heap)→(execOp b.eval o).run P w = .ok (.value (V j)) w)∨(Region.wanted o (yielded ops b.tmps)=false∧V j=undef))
structure zN (P:Program) (τ : Yv) (ops:Array Oper) (a0:Act) (L:Nat→Prop) (d:Nat) (rs:WB) (ρ : Yd) (h:Ja) (V:Nat→Value) (A:Act):Prop where
 rel:WA ρ A
 is:Is ops a0 V (bits d) A
 dc:DC ops (bits d)
 sub:∀i,L i→bits d i
 pend:∀j o,ops[j]? = some o→bits d j→¬L j→yB P τ ops a0 V rs h (bits d) j o
def yB.step{V:Nat→Value}{rs rs':WB}{h h':Ja}{d d':Nat→Prop}{j:Nat}{o:Oper} (hp:yB P τ ops a0 V rs h d j o){i:Nat}{v:Value} (hi:¬d i) (hij:j≠i) (hdd:∀k,d k→d' k)
 (hq:∀f,(j,some f)∈rs→f h→f h'∧(j,some f)∈rs'):yB P τ ops a0 (DH V i v) rs' h' d' j o:=by
 obtain⟨h1,h2,h3,q,D,b,c1,c2,c3,c4,c5,c6,c7⟩:=hp;refine⟨h1,h2,h3,q,D,b,fun f hf=>hq f (c1 f hf).2 (c1 f hf).1,c2.same (fun _=>Iff.rfl) (fun k hk =>?_),c3,fun k hk=>hdd k (c4 k hk),c5,c6,?_⟩
 ·have:k≠i:=fun e=>hi (by subst e;exact c4 k hk);simp[DH,this]
 ·simpa[DH,hij] using c7
variable (hτ : Zg P τ) (hpl:∀t ti,τ.get t=some ti→ti.plain=true→QV P τ t ti=true)
def DC.add{S:Nat→Prop} (h:DC ops S){i:Nat} (hb:∀k,VD (EF ops.toList i) k=true→S k):DC ops (add S i):=by
 intro k hk j hj;rcases hk with hk | hk
 ·exact .inl (h k hk j hj)
 ·subst hk;exact .inl (hb j hj)
def DC.iff{S S':Nat→Prop} (h:DC ops S) (hi:∀k,S k↔S' k):DC ops S':=fun k hk j hj=>(hi j).1 (h k ((hi k).2 hk) j hj)
variable (hok:vN ops.toList (ZG ops.toList []) ops.toList (ZG ops.toList []) 0=true) (hd:Ie a0.tmps.size ops.toList)
include hτ hpl hok hd in
theorem g0{K:Yd→Hp}{L:Nat→Prop}{h:Ja}:∀(n d:Nat) (rs:WB) (ρ : Yd) (V:Nat→Value) (A:Act),cD P τ ops.toList (ZG ops.toList []) n d rs ρ h K→zN P τ ops a0 L d rs ρ h V A →
 ∃n' d' rs' ρ' V' A',Wu τ ops.toList (ZG ops.toList []) 0 d'=none∧cD P τ ops.toList (ZG ops.toList []) n' d' rs' ρ' h K∧zN P τ ops a0 L d' rs' ρ' h V' A'∧(∀i,L i→V' i=V i):=by
 intro n
 induction n with
 | zero=>intro d rs ρ V A hc;exact hc.elim
 | succ n ih =>
   intro d rs ρ V A hc hC
   cases hf:Wu τ ops.toList (ZG ops.toList []) 0 d with
   | none=>exact⟨n+1,d,rs,ρ,V,A,hf,hc,hC,fun _ _=>rfl⟩
   | some p =>
     obtain⟨i,o⟩:=p;obtain⟨m,hm,ho,hbit,hwithin,htu⟩:=SO hf;simp at hm;subst hm;have ho':ops[i]? = some o:=by simpa using ho
     have hnd:¬bits d i:=by simp[bits,hbit]
     have hbef:∀k,VD (EF ops.toList i) k=true→bits d k:=(Rd _ _).1 hwithin;simp only[cD,hf]at hc;obtain⟨ρ',hR',hc⟩:=PC hC.rel (by rw[hC.is.size];exact hd) hc;have hod:Cg A.tmps.size o.dst:=by rw[hC.is.size];exact hd o (List.mem_of_getElem? ho)
     have fin:∀(v:SV) (q:Option (Hp)) (rs':WB),(∀x∈rs,x∈rs')→(∀f,q=some f→f h∧(i,some f)∈rs') → 
      ((Region.wanted o (yielded ops A.tmps)=true∧∀w:World,(∀f,q=some f→f w.heap)→(execOp A.eval o).run P w = .ok (.value v.val) w)∨(Region.wanted o (yielded ops A.tmps)=false∧v.val=undef)) →
      zN P τ ops a0 L (Nat.lor d (2^i)) rs' (ρ'.put o.dst (some v)) h (DH V i v.val) (A.put o.dst v.val):=by
      intro v q rs' hsub hq hy;refine⟨hR'.put hod fun y hy=>by simp at hy;rw[hy],(Is.put hok hd hC.is ho' v.val).same (fun k=>(Yw d i k).symm) (fun _ _=>rfl),(hC.dc.add hbef).iff fun k=>(Yw d i k).symm,fun k hk=>(Yw d i k).2 (.inl (hC.sub k hk)),?_⟩;intro j oj hoj hbj hLj;rcases(Yw d i j).1 hbj with hdj | rfl
      ·have hji:j≠i:=fun e=>hnd (by subst e;exact hdj);exact(hC.pend j oj hoj hdj hLj).step hnd hji (fun k hk=>(Yw d i k).2 (.inl hk)) (fun f hm hf=>⟨hf,hsub _ hm⟩)
      ·rw[ho']at hoj;simp at hoj;subst hoj;refine⟨htu,(vC hok ho').1,(vC hok ho').2,q,bits d,A,hq,hC.is.same (fun _=>Iff.rfl) (fun k hk =>?_),hC.dc,fun k hk=>(Yw d j k).2 (.inl hk),hnd,hbef,?_⟩
       ·have:k≠j:=fun e=>hnd (by subst e;exact hk);simp[DH,this]
       ·simpa[DH] using hy
     have vfix:∀(v:Value) k,L k→DH V i v k=V k:=by
      intro v k hk;have:k≠i:=fun e=>hnd (by subst e;exact hC.sub k hk);simp[DH,this]
     cases hwant:Region.wanted o (yielded ops A.tmps) with
     | true =>
       rw[hwant]at hc;simp only at hc;obtain⟨v,q,hK,hq,hy⟩:=Eg hτ hpl hc;obtain⟨n',d',rs',ρ'',V',A',e1,e2,e3,e4⟩:=ih _ _ _ _ _ hK (fin v q (zc i q rs) (fun x hx=>by simp[zc,hx]) (fun f hf=>⟨hq f hf,by subst hf;simp[zc]⟩) (.inl ⟨hwant,fun w hw=>hy A.eval hR'.agree w hw⟩));exact⟨n',d',rs',ρ'',V',A',e1,e2,e3,fun k hk=>(e4 k hk).trans (vfix _ k hk)⟩
     | false =>
       rw[hwant]at hc;simp only at hc;obtain⟨n',d',rs',ρ'',V',A',e1,e2,e3,e4⟩:=ih _ _ _ _ _ hc (fin ⟨.un,()⟩ none rs (fun x hx=>hx) (fun f hf=>by simp at hf) (.inr ⟨hwant,rfl⟩));exact⟨n',d',rs',ρ'',V',A',e1,e2,e3,fun k hk=>(e4 k hk).trans (vfix _ k hk)⟩
def Im(listed:Array Bool):Nat→Prop:=fun i=>listed[i]? = some true
def GB{listed:Array Bool}{i:Nat} (hi:i<listed.size) (k:Nat):Im (listed.setIfInBounds i true) k↔add (Im listed) i k:=by
 unfold Im add;rw[Array.getElem?_setIfInBounds];by_cases h:i=k
 ·subst h;simp[hi]
 ·simp[h];exact fun e=>absurd e.symm h
def Rw(e:Edge):Region.binds .any e=WI e:=by
 unfold Region.binds WI
 cases e.ground <;> rfl
def Mf{listed:Array Bool}{i:Nat} (hsz:listed.size=ops.size):i∈Region.ready .any ops listed↔∃o,ops[i]? = some o∧¬Im listed i∧∀e∈o.after.toList,WI e=true→Im listed e.on:=by
 unfold Region.ready;rw[List.mem_filter,List.mem_range]
 constructor
 ·rintro⟨h1,h2⟩;simp only[Bool.and_eq_true,Bool.not_eq_true']at h2;obtain⟨h2,h3⟩:=h2;rw[Array.getElem?_eq_getElem h1]at h3;refine⟨ops[i],Array.getElem?_eq_getElem h1,?_,?_⟩
  ·unfold Im;rw[Array.getD_eq_getD_getElem?]at h2;intro h;rw[h]at h2;simp at h2
  ·simp only[Option.map_some,Option.getD_some,Array.all_eq_true_iff_forall_mem]at h3;intro e he ha;have:=h3 e (by simpa using he);rw[Rw,ha]at this;simp only[Bool.not_true,Bool.false_or,Array.getD_eq_getD_getElem?]at this;unfold Im
   cases hl:listed[e.on]? with
   | none=>rw[hl]at this;simp at this
   | some b=>rw[hl]at this;simp at this;rw[this]
 ·rintro⟨o,ho,hL,he⟩
  have h1:i<ops.size:=by
   by_cases h:i<ops.size
   ·exact h
   ·rw[Array.getElem?_eq_none (by omega)]at ho;simp at ho
  refine⟨h1,?_⟩;simp only[Bool.and_eq_true,Bool.not_eq_true',ho,Option.map_some,Option.getD_some,Array.all_eq_true_iff_forall_mem];refine⟨?_,?_⟩
  ·have hlt:i<listed.size:=by omega
   rw[Array.getD_eq_getD_getElem?,Array.getElem?_eq_getElem hlt];unfold Im at hL;rw[Array.getElem?_eq_getElem hlt]at hL;simpa using hL
  ·intro e hm;rw[Rw]
   cases ha:WI e with
   | false=>simp
   | true =>
     have:=he e (by simpa using hm) ha;unfold Im at this;simp[Array.getD_eq_getD_getElem?,this]
include hok in
theorem jk{listed:Array Bool} (hsz:listed.size=ops.size) (h:Region.ready .any ops listed=[]):∀i,i<ops.size→Im listed i:=by
 intro i
 induction i using Nat.strongRecOn with
 | _ i ih =>
   intro hi;have ho:ops[i]? = some ops[i]:=Array.getElem?_eq_getElem hi;have hb:=(xT hok ho).1;apply Classical.byContradiction;intro hn
   have hm:i∈Region.ready .any ops listed:=(Mf hsz).2 ⟨ops[i],ho,hn,fun e he ha=>by
    have:=GY hb e he ha;exact ih e.on this (by omega)⟩
   rw[h]at hm;simp at hm
def CU:∀(l:List Bool) (i:Nat),l[i]? = some false→((l.set i true).filter (! ·)).length+1=(l.filter (! ·)).length:=by
 intro l
 induction l with
 | nil=>intro i h;simp at h
 | cons x r ih =>
   intro i h
   cases i with
   | zero=>simp at h;subst h;simp
   | succ i =>
     have:=ih i (by simpa using h)
     cases x <;> simp at this ⊢ <;> omega
def Do:∀ {l:List Oper}{bs:List Nat}{n d:Nat}{x:Nat×Nat×Oper},x∈Wv l bs n d→VD d x.1=false∧x.1<n+l.length:=by
 intro l
 induction l with
 | nil=>intro bs n d x h;simp[Wv]at h
 | cons y r ih =>
   intro bs n d x h
   cases bs with
   | nil=>simp[Wv]at h
   | cons b bs =>
     simp only[Wv]at h;split at h
     ·rename_i h1 h2
      rcases List.mem_cons.1 h with rfl | h
      ·exact⟨h1,by simp⟩
      ·obtain⟨a,b⟩:=ih h;exact⟨a,by simp;omega⟩
     ·obtain⟨a,b⟩:=ih h;exact⟨a,by simp;omega⟩
include hτ hpl hok hd in
theorem CY{ro:Option Nat}{K:Yd→Hp}{Q:Exit→Act→World→Prop}{w0:World}
 (hQ:∀ ρ' a' w',WA ρ' a'→K ρ' w'.heap→Yo w0 w'→Zc (G5 ops.toList) a0 a'→Q .normal a' w') :
 ∀ (fuel : Nat) (listed : Array Bool) (a : Act) (w : World) (n d : Nat) (rs : WB) (ρ : Yd) (V : Nat → Value) (A : Act),
   listed.size=ops.size→(listed.toList.filter (! ·)).length≤fuel→Yo w0 w→Is ops a0 V (Im listed) a→DC ops (Im listed) →
   Wu τ ops.toList (ZG ops.toList []) 0 d=none→cD P τ ops.toList (ZG ops.toList []) n d rs ρ w.heap K→zN P τ ops a0 (Im listed) d rs ρ w.heap V A →
   wpAnyIn (Fw ro) 0 P .any ops Q fuel listed a w:=by
 have fin:∀(listed:Array Bool) (a:Act) (w:World) (n d:Nat) (rs:WB) (ρ : Yd) (V:Nat→Value) (A:Act),
  listed.size=ops.size→Yo w0 w→Is ops a0 V (Im listed) a → 
  Wu τ ops.toList (ZG ops.toList []) 0 d=none→cD P τ ops.toList (ZG ops.toList []) n d rs ρ w.heap K→zN P τ ops a0 (Im listed) d rs ρ w.heap V A →
  (∀i,i<ops.size→Im listed i)→Q .normal a w:=by
  intro listed a w n d rs ρ V A hsz hs hI hf hc hC hall
  have hteq:∀t,a.tmps[t]? = A.tmps[t]? := fun t=>hI.agree hC.is fun i o hi hdi=>by
   have hlt:i<ops.size:=by
    by_cases h:i<ops.size
    ·exact h
    ·rw[Array.getElem?_eq_none (by omega)]at hi;simp at hi
   exact⟨⟨fun _=>hC.sub i (hall i hlt),fun _=>hall i hlt⟩,fun _=>rfl⟩
  have hR:WA ρ a:=⟨fun t v ht hv=>by rw[hteq];exact hC.rel.t t v ht hv,fun v hv=>by rw[hI.defers,←hC.is.defers];exact hC.rel.d v hv⟩;have hKept:Zc (G5 ops.toList) a0 a:=⟨hI.size,fun t ht=>hI.off t fun i o hi hdi _=>ht (PP (List.mem_of_getElem? (by simpa using hi)) t hdi),fun _=>hI.defers⟩
  cases n with
  | zero=>exact hc.elim
  | succ n =>
    simp only[cD,hf]at hc
    cases hrt:Wv ops.toList (ZG ops.toList []) 0 d with
    | nil=>rw[hrt]at hc;exact hQ ρ a w hR hc hs hKept
    | cons x r =>
      obtain⟨h1,h2⟩:=Do (x:=x) (by rw[hrt];simp:x∈Wv ops.toList (ZG ops.toList []) 0 d);have:=hC.sub x.1 (hall x.1 (by simpa using h2));unfold bits at this;rw[h1]at this;simp at this
 intro fuel
 induction fuel with
 | zero =>
   intro listed a w n d rs ρ V A hsz hfu hs hI hDC hf hc hC
   have hall:∀i,i<ops.size→Im listed i:=by
    intro i hi;have h0:listed.toList.filter (! ·)=[]:=List.eq_nil_of_length_eq_zero (by omega);rw[List.filter_eq_nil_iff]at h0;have hlt:i<listed.size:=by omega
    unfold Im;rw[Array.getElem?_eq_getElem hlt];have:=h0 listed[i] (by simp);simpa using this
   refine⟨?_,fin listed a w n d rs ρ V A hsz hs hI hf hc hC hall⟩;apply List.eq_nil_iff_forall_not_mem.2;intro i hi;obtain⟨o,ho,hn,_⟩:=(Mf hsz).1 hi
   have hlt:i<ops.size:=by
    by_cases h:i<ops.size
    ·exact h
    ·rw[Array.getElem?_eq_none (by omega)]at ho;simp at ho
   exact hn (hall i hlt)
 | succ fuel ih =>
   intro listed a w n d rs ρ V A hsz hfu hs hI hDC hf hc hC;refine⟨fun hr=>fin listed a w n d rs ρ V A hsz hs hI hf hc hC (jk hok hsz hr),fun i hi =>?_⟩;obtain⟨o,ho,hnL,hedge⟩:=(Mf hsz).1 hi
   have hlt:i<ops.size:=by
    by_cases h:i<ops.size
    ·exact h
    ·rw[Array.getElem?_eq_none (by omega)]at ho;simp at ho
   have hil:i<listed.size:=by omega
   have hbef:∀k,VD (EF ops.toList i) k=true→Im listed k:=by
    intro k hk;obtain⟨e,h1,h2,h3⟩:=(jX (by simpa using ho) (xT hok ho).1 k).1 hk;rcases h3 with rfl | h3
    ·exact hedge e h1 h2
    ·exact hDC _ (hedge e h1 h2) k h3
   have hfu':((listed.setIfInBounds i true).toList.filter (! ·)).length≤fuel:=by
    have hfalse:listed.toList[i]? = some false:=by
     unfold Im at hnL;rw[Array.getElem?_eq_getElem hil]at hnL;simp at hnL;rw[Array.getElem?_toList,Array.getElem?_eq_getElem hil,hnL]
    have:=CU listed.toList i hfalse;simp only[Array.toList_setIfInBounds];omega
   have hsz':(listed.setIfInBounds i true).size=ops.size:=by simpa using hsz
   have hDC':DC ops (Im (listed.setIfInBounds i true)):=(hDC.add hbef).iff fun k=>(GB hil k).symm;have hIput:∀v,Is ops a0 (DH V i v) (Im (listed.setIfInBounds i true)) (a.put o.dst v):=fun v=>(Is.put hok hd hI ho v).same (fun k=>(GB hil k).symm) fun _ _=>rfl;have hnL':∀j,¬Im (listed.setIfInBounds i true) j→¬Im listed j∧j≠i:=fun j hj=>⟨fun h=>hj ((GB hil j).2 (.inl h)),fun h=>hj ((GB hil j).2 (.inr h))⟩;unfold Go.wpOpIn;simp only[ho];by_cases hdi:bits d i
   ·obtain⟨_,hns,hnd,q,D,b,c1,c2,c3,c4,c5,c6,c7⟩:=hC.pend i o ho hdi hnL;have hlook:=Ca hok hI c2 ho hDC c3 hnL c5 hbef c6;have hfe:DH V i (V i)=V:=by funext k;unfold DH;split <;> simp_all
    have hC':zN P τ ops a0 (Im (listed.setIfInBounds i true)) d rs ρ w.heap V A:=⟨hC.rel,hC.is,hC.dc,fun k hk=>by
     rcases(GB hil k).1 hk with hk | rfl
     ·exact hC.sub k hk
     ·exact hdi,fun j oj hoj hdj hj=>hC.pend j oj hoj hdj (hnL' j hj).1⟩
    have hIv:=hIput (V i);rw[hfe]at hIv;rw[hlook.wanted];rcases c7 with⟨hw1,hrun⟩ | ⟨hw1,hun⟩
    ·simp only[hw1,if_true];refine⟨fun _ _=>trivial,?_⟩;rw[Dy hnd,hlook.exec hns,hrun w (fun f hf=>(c1 f hf).1),Oper.uponIn_value];exact ih _ _ w n d rs ρ V A hsz' hfu' hs hIv hDC' hf hc hC'
    ·simp only[hw1,Bool.false_eq_true,if_false];refine⟨fun _ _=>trivial,?_⟩;rw[←hun];exact ih _ _ w n d rs ρ V A hsz' hfu' hs hIv hDC' hf hc hC'
   ·have hdb:VD d i=false:=by unfold bits at hdi;simpa using hdi
    have hwit:Gn ((ZG ops.toList []).getD i 0) d=true:=(Rd _ _).2 fun k hk=>hC.sub k (hbef k hk)
    cases n with
    | zero=>exact hc.elim
    | succ n =>
      simp only[cD,hf]at hc;have hmem:=Dp (bs:=ZG ops.toList []) (n:=0) (d:=d) (U1 _) i o (by simpa using ho) (by simpa using hdb) hwit;simp only[Nat.zero_add]at hmem
      cases hrt:Wv ops.toList (ZG ops.toList []) 0 d with
      | nil=>rw[hrt]at hmem;simp at hmem
      | cons x0 r0 =>
        rw[hrt]at hc hmem;have hc:=CK hc _ hmem;obtain⟨ρ',hR',hc⟩:=PC hC.rel (by rw[hC.is.size];exact hd) hc;have hlook:=Ca hok hI hC.is ho hDC hC.dc hnL hdi hbef (fun k hk=>hC.sub k (hbef k hk));have hod:Cg A.tmps.size o.dst:=by rw[hC.is.size];exact hd o (List.mem_of_getElem? (by simpa using ho))
        have go:∀(x:Option SV) (v:Value) (w':World) (rs':WB),(∀y,x=some y→v=y.val)→Yo w w'→(∀j f,VD (EF ops.toList i) j=false→(j,some f)∈rs→f w.heap→f w'.heap∧(j,some f)∈rs') →
         cD P τ ops.toList (ZG ops.toList []) n (Nat.lor d (2^i)) rs' (ρ'.put o.dst x) w'.heap K→wpAnyIn (Fw ro) 0 P .any ops Q fuel (listed.setIfInBounds i true) (a.put o.dst v) w':=by
         intro x v w' rs' hx hs' hrs hcd
         have hC':zN P τ ops a0 (Im (listed.setIfInBounds i true)) (Nat.lor d (2^i)) rs' (ρ'.put o.dst x) w'.heap (DH V i v) (A.put o.dst v):=by
          refine⟨hR'.put hod hx,(Is.put hok hd hC.is ho v).same (fun k=>(Yw d i k).symm) fun _ _=>rfl,(hC.dc.add fun k hk=>hC.sub k (hbef k hk)).iff fun k=>(Yw d i k).symm,fun k hk =>?_,fun j oj hoj hdj hj =>?_⟩
          ·rcases(GB hil k).1 hk with hk | rfl
           ·exact(Yw d i k).2 (.inl (hC.sub k hk))
           ·exact(Yw d k k).2 (.inr rfl)
          ·obtain⟨hj1,hj2⟩:=hnL' j hj;rcases(Yw d i j).1 hdj with hdj | e
           ·refine(hC.pend j oj hoj hdj hj1).step hdi hj2 (fun k hk=>(Yw d i k).2 (.inl hk)) (fun f hm hf=>hrs j f ?_ hm hf)
            cases hb:VD (EF ops.toList i) j with
            | false=>rfl
            | true=>exact absurd (hbef j hb) hj1
           ·exact absurd e hj2
         obtain⟨n',d',rs'',ρ'',V',A',e1,e2,e3,e4⟩:=g0 hτ hpl hok hd n _ _ _ _ _ hcd hC';exact ih _ _ w' n' d' rs'' ρ'' V' A' hsz' hfu' (⟨hs'.1.trans hs.1,hs'.2.trans hs.2⟩) ((hIput v).same (fun _=>Iff.rfl) fun k hk=>(e4 k hk).symm) hDC' e1 e2 e3
        rw[hlook.wanted]
        cases hwant:Region.wanted o (yielded ops A.tmps) with
        | true =>
          rw[hwant]at hc;simp only[if_true];simp only at hc;refine SG hτ hpl (hlook.exec (vC hok ho).1) hR' rfl hc fun x v w' hK hx hs' =>?_;obtain⟨h1,h2⟩:=xV hK;exact go x v w' _ hx hs' (fun j f hb hm _=>⟨h2 j f (RP hm hb),RP hm hb⟩) h1
        | false =>
          rw[hwant]at hc;simp only[Bool.false_eq_true,if_false];simp only at hc;exact⟨fun _ _=>trivial,go (some ⟨.un,()⟩) undef w rs (fun y hy=>by simp at hy;subst hy;rfl) Yo.rfl (fun j f _ hm hf=>⟨hf,hm⟩) hc⟩
end
def PE:∀(ms:List Nat) (ρ : Yd) (t:Nat) (v:SV),(WY ms ρ).get t=some v→t∉ms ∧ ρ.get t=some v:=by
 intro ms
 induction ms with
 | nil=>intro ρ t v h;exact⟨by simp,h⟩
 | cons m r ih =>
   intro ρ t v h;simp only[WY]at h;split at h
   ·rw[Xd]at h;split at h
    ·simp at h
    ·rename_i hne
     obtain⟨a,b⟩:=ih _ _ _ h;exact⟨by simp;exact⟨fun e=>hne e.symm,a⟩,b⟩
   ·rename_i hn
    obtain⟨a,b⟩:=ih _ _ _ h;refine⟨?_,b⟩;simp;exact⟨fun e=>by subst e;rw[b]at hn;simp at hn,a⟩
def CN{k:Kd}{v:SV}{y:k.Ty} (h:I0 k v=some y):(Er k y).val=v.val∧(∀ds,v=⟨.d,ds⟩→Er k y=v):=by
 have gen:v.as k=some y→Er k y=⟨k,y⟩→(Er k y).val=v.val∧(∀ds,v=⟨.d,ds⟩→Er k y=v):=by
  intro h1 h2;have:=YG h1;subst this;exact⟨by rw[h2],fun _ _=>h2⟩
 cases k
 case l=>
  obtain⟨k',z⟩:=v
  cases k'
  case p=>
   cases z with
   | none=>simp[I0,SV.as]at h
   | some z=>simp[I0]at h;subst h;exact⟨rfl,fun ds hd=>by simp at hd⟩
  case l=>
   simp[I0,SV.as]at h;subst h;exact⟨rfl,fun ds hd=>by simp at hd⟩
  all_goals simp[I0,SV.as]at h
 all_goals exact gen h rfl
def xE{ρ':Yd}{a':Act} (h':WA ρ' a'):∀(s:YY) (x:(slotsKd s).Ty) (ρ0:Yd),C3 s ρ'=some x→WA ρ0 a'→WA (ZV s x ρ0) a':=by
 intro s
 induction s with
 | nil=>intro x ρ0 _ h;exact h
 | cons q r ih =>
   obtain⟨t,k⟩:=q;intro x ρ0 hg h;simp only[C3]at hg;split at hg
   ·rename_i v hv
    split at hg
    ·rename_i y z hy hz
     simp at hg;subst hg;have hr:=ih z ρ0 hz h;obtain⟨e1,e2⟩:=CN hy;simp only[ZV]
     constructor
     ·intro t' u ht hu;rw[Xd]at hu;split at hu
      ·rename_i e;subst e;simp at hu;subst hu;rw[e1];exact h'.t _ _ ht hv
      ·exact hr.t _ _ ht hu
     ·intro u hu;rw[Xd]at hu;split at hu
      ·rename_i e;subst e
       simp at hu;subst hu;obtain⟨ds,rfl,hd⟩:=h'.d _ hv;exact⟨ds,e2 ds rfl,hd⟩
      ·exact hr.d _ hu
    ·simp at hg
   ·simp at hg
def Dq{ρ : Yd}{a a':Act}{ms:List Nat} (h:WA ρ a) (hk:Zc ms a a'):WA (WY ms ρ) a':=by
 constructor
 ·intro t v ht hv;obtain⟨h1,h2⟩:=PE _ _ _ _ hv;rw[hk.t t h1];exact h.t t v ht h2
 ·intro v hv;obtain⟨h1,h2⟩:=PE _ _ _ _ hv;rw[hk.d h1];exact h.d v h2
def Ub{s:YY} {ρ : Yd}{K:(slotsKd s).Ty→Prop} (h:tup s ρ K):∃x,C3 s ρ = some x∧K x:=by
 unfold tup at h;split at h
 ·rename_i x hx;exact⟨x,hx,h⟩
 ·exact h.elim
def V9{ρ ρ':Yd}{a a':Act}{ms:List Nat}{s:YY}{x:(slotsKd s).Ty} (h:WA ρ a) (hk:Zc ms a a') (h':WA ρ' a') (hx:C3 s ρ'=some x):WA (ZV s x (WY ms ρ)) a':=
 xE h' s x _ hx (Dq h hk)
def Id:List Nat→Bool
 | []=>true
 | x::r => !(TC r x)&&Id r
def Dh(N:Nat):Code→Bool
 | .region _ ops _=>(G5 ops.toList).all fun t=>Nat.blt t N
 | .seq a b=>Dh N a&&Dh N b
 | .cond _ a b=>Dh N a&&Dh N b
 | .block _ c=>Dh N c
 | .loop c=>Dh N c
 | .rangeFunc _ ps x y=>Dh N x&&Dh N y&&Id ps.toList&&ps.toList.all fun t=>Nat.blt t N
 | _=>true
def Qs.at(q:Qs):Exit→Yd→Hp
 | .normal=>q.n
 | .exit id=>q.x id
 | .ret=>q.r
 | _=>fun _ _=>False
def M8(q:Qs) (w0:World) (a0:Act) (ms:List Nat) (e:Exit) (a:Act) (w:World):Prop:=
 Yo w0 w∧Zc ms a0 a∧∃ ρ,WA ρ a∧q.at e ρ w.heap
def Yo.trans{a b c:World} (h:Yo a b) (h':Yo b c):Yo a c:=⟨h'.1.trans h.1,h'.2.trans h.2⟩
def je{N:Nat} (hN:N≤DS){l:List Oper} (h:((G5 l).all fun t=>Nat.blt t N)=true):Ie N l:=by
 intro o ho t ht;have:=PP ho t ht;have:=List.all_eq_true.1 h t this;simp at this;exact⟨this,by omega⟩
def Gj:List Nat→List Value→Array Value→Array Value
 | p::ps,v::vs,T=>Gj ps vs (T.setIfInBounds p v)
 | _,_,T=>T
def GE:∀(ps:List Nat) (vs:List Value) (T:Array Value),(Gj ps vs T).size=T.size:=by
 intro ps
 induction ps with
 | nil=>intro vs T;rfl
 | cons p r ih =>
   intro vs T
   cases vs with
   | nil=>rfl
   | cons v vs=>simp only[Gj];rw[ih];simp
def Cu(ps:Array Tmp) (vs:List Value) (T:Array Value):(ps.zip vs.toArray).foldl (fun tmps (x:Tmp×Value)=>tmps.setIfInBounds x.1 x.2) T=Gj ps.toList vs T:=by
 rw[←Array.foldl_toList,Array.toList_zip];generalize ps.toList=l
 induction l generalizing vs T with
 | nil=>simp[Gj]
 | cons p r ih =>
   cases vs with
   | nil=>simp[Gj]
   | cons v vs=>simp only[List.zip_cons_cons,List.foldl_cons,Gj];exact ih vs _
def qv{l:List Nat}{t:Nat} (h:TC l t=false):t∉l:=by
 induction l with
 | nil=>simp
 | cons x r ih =>
   simp only[TC]at h;split at h
   ·simp at h
   ·rename_i hb
    have:¬x=t:=fun e=>by subst e;simp at hb
    simp only[List.mem_cons,not_or];exact⟨fun e=>this e.symm,ih h⟩
def Em:∀(ps:List Nat) (vs:List Value) (T:Array Value) (t:Nat),t∉ps→(Gj ps vs T)[t]? = T[t]? := by
 intro ps
 induction ps with
 | nil=>intro vs T t _;rfl
 | cons p r ih =>
   intro vs T t ht;simp only[List.mem_cons,not_or]at ht
   cases vs with
   | nil=>rfl
   | cons v vs =>
     simp only[Gj];rw[ih _ _ _ ht.2,Array.getElem?_setIfInBounds,if_neg (fun e=>ht.1 e.symm)]
def YP:YY→List Nat
 | []=>[]
 | (t,_)::r=>t::YP r
def MG:∀(s:YY) (ps:List Nat),GS s ps=true→ps=YP s:=by
 intro s
 induction s with
 | nil=>intro ps h;cases ps with | nil=>rfl | cons p r=>simp[GS]at h
 | cons q s ih =>
   obtain⟨t,k⟩:=q;intro ps h
   cases ps with
   | nil=>simp[GS]at h
   | cons p r =>
     simp only[GS,Bool.and_eq_true]at h;have e:t=p:=Nat.eq_of_beq_eq_true h.1;rw[ih r h.2,←e];rfl
def jO(tm:Array Value):(s:YY)→(slotsKd s).Ty→Prop
 | [],_=>True
 | (t,k)::r,x=>tm[t]? = some (Er k x.1).val∧jO tm r x.2
def yi:∀(s:YY) (x:(slotsKd s).Ty) (T:Array Value),Id (YP s)=true→(∀p∈YP s,p<T.size)→jO (Gj (YP s) (YR s x) T) s x:=by
 intro s
 induction s with
 | nil=>intro x T _ _;trivial
 | cons q s ih =>
   obtain⟨t,k⟩:=q;intro x T h1 h2;simp only[YP,Id,Bool.and_eq_true,Bool.not_eq_true']at h1;have hnm:=qv h1.1;have hlt:=h2 t (by simp[YP]);simp only[YP,YR,Gj];refine⟨?_,ih x.2 _ h1.2 (fun p hp=>by have:=h2 p (by simp[YP,hp]);simpa using this)⟩;rw[Em _ _ _ _ hnm,Array.getElem?_setIfInBounds,if_pos rfl,if_pos hlt]
def jY{tm:Array Value} {ρ0:Yd}:∀(s:YY) (x:(slotsKd s).Ty) (E:List Nat),jO tm s x→(∀t v,t≠DS→t∉E→t∉YP s → ρ0.get t=some v→tm[t]? = some v.val) →
 ∀t v,t≠DS→t∉E→(ZV s x ρ0).get t=some v→tm[t]? = some v.val:=by
 intro s
 induction s with
 | nil=>intro x E _ h t v h1 h2 h3;exact h t v h1 h2 (by simp[YP]) h3
 | cons q s ih =>
   obtain⟨t0,k⟩:=q;intro x E hv h t v h1 h2 h3;simp only[ZV]at h3;rw[Xd]at h3;split at h3
   ·rename_i e;subst e;cases h3;exact hv.1
   ·rename_i e
    refine ih x.2 (t0::E) hv.2 (fun t2 v2 q1 q2 q3 q4=>h t2 v2 q1 (fun hm=>q2 (by simp[hm])) (fun hm =>?_) q4) t v h1 (fun hm =>?_) h3
    ·simp only[YP,List.mem_cons]at hm;rcases hm with hm | hm
     ·exact q2 (by simp[hm])
     ·exact q3 hm
    ·simp only[List.mem_cons]at hm;rcases hm with hm | hm
     ·exact e hm.symm
     ·exact h2 hm
def yI{ρ0:Yd}:∀(s:YY) (x:(slotsKd s).Ty),(∀p∈YP s,p≠DS)→(ZV s x ρ0).get DS = ρ0.get DS:=by
 intro s
 induction s with
 | nil=>intro x _;rfl
 | cons q s ih =>
   obtain⟨t,k⟩:=q;intro x h;simp only[ZV];rw[Xd,if_neg (h t (by simp[YP]))];exact ih x.2 fun p hp=>h p (by simp[YP,hp])
def R1{s:YY}{ps:List Nat}{x:(slotsKd s).Ty}{a:Act} {ρ : Yd} (h1:GS s ps=true) (h2:Id ps=true) (h3:∀p∈ps,p<a.tmps.size∧p≠DS) (h4:WA ρ a) :
 WA (ZV s x ((DS,some ⟨.d,[]⟩) :: ρ)) { tmps:=Gj ps (YR s x) a.tmps,defers:=[] }:=by
 have e:=MG s ps h1;subst e;refine⟨fun t v ht hv=>jY s x [] (yi s x a.tmps h2 fun p hp=>(h3 p hp).1) (fun t2 v2 q1 _ q3 q4 =>?_) t v ht (by simp) hv,fun v hv =>?_⟩
 ·rw[Xd,if_neg (fun e=>q1 e.symm)]at q4;rw[Em _ _ _ _ q3];exact h4.t t2 v2 q1 q4
 ·rw[yI s x (fun p hp=>(h3 p hp).2),Xd,if_pos rfl]at hv
  cases hv
  exact⟨[],rfl,rfl⟩
def Dz:∀(s:YY) (x:(slotsKd s).Ty),(YR s x).length=(YP s).length:=by
 intro s
 induction s with
 | nil=>intro x;rfl
 | cons q s ih=>obtain⟨t,k⟩:=q;intro x;simp only[YR,YP,List.length_cons];rw[ih]
def R6(s:YY){ps:Array Nat} (x:(slotsKd s).Ty) (h:GS s ps.toList=true):(YR s x).length=ps.size:=by
 rw[Dz,←MG s _ h];simp
def Yc(r:Loop) (i:Nat):LSt→Obj
 | .brk => .loop { r with state := .done,pending:=some (.exit i) }
 | .ovx => .loop { r with state := .exhausted,pending:=some (.exit i) }
 | .ready => .loop r
 | .busy => .loop { r with state := .busy }
 | .done => .loop { r with state := .done,pending:=some .ret }
 | .over false => .loop { r with state := .exhausted }
 | .over true => .loop { r with state := .exhausted,pending:=some .ret }
def xH{P:Program} {τ : Yv}{an:yq}{N:Nat}{g:Operand}{ps:Array Tmp}{x y:Code} {ρ : Yd}{a:Act}{w:World}{fv:Value}{s:YY}{ds:List Nat}{q:Qs} (hN:N≤DS) (hs:a.tmps.size=N)
 (ihx:∀(l:Nat) (q:Qs) (ρ : Yd) (h:Ja) (a:Act) (w:World),cC P τ an x ρ h q→WA ρ a→w.heap=h→a.tmps.size=N→x.wpIn (Fw (some l)) 0 P (M8 q w a (Zr x)) a w)
 (ihy:∀(l:Nat) (q:Qs) (ρ : Yd) (h:Ja) (a:Act) (w:World),cC P τ an y ρ h q→WA ρ a→w.heap=h→a.tmps.size=N→y.wpIn (Fw (some l)) 0 P (M8 q w a (Zr y)) a w)
 (hnd:Id ps.toList=true) (hlt:(ps.toList.all fun t=>Nat.blt t N)=true) (hv:ev ρ g=some ⟨.f,fv⟩) (hdv : ρ.get DS=some ⟨.d,ds⟩) (hst:GS s ps.toList=true)
 (hc:rf P fv (slotsKd s).Ty (YR s) w.heap
  (fun z h1 bg kn kr=>cC P τ an x (ZV s z ((DS,some ⟨.d,[]⟩) :: ρ)) h1
   { n:=fun ρ h2=>bg h2 fun h3=>cC P τ an y ρ h3 { n:=fun _ h=>kn h,x:=fun _ _ _=>False,r:=fun _ h=>kr h },x:=fun _ _ _=>False,r:=fun _ _=>False })
  (fun d h2=>q.n ((DS,some ⟨.d,d::ds⟩) :: ρ) h2) (fun d h2=>q.r ((DS,some ⟨.d,d::ds⟩) :: ρ) h2))
 (hR:WA ρ a):(Code.rangeFunc g ps x y).wpIn (Fw none) 0 P (M8 q w a (Zr (Code.rangeFunc g ps x y))) a w:=by
 obtain⟨⟨f,fn,first,cap,rfl,hfn,hname,hbody⟩,hc⟩:=hc;refine wpIn_rangeFunc fun fnid _ =>?_;have hg:a.eval g = .func (.func f) first cap:=hR.agree g _ hv
 have hpsz:∀p∈ps.toList,p<a.tmps.size∧p≠DS:=fun p hp=>by
  have h0:Nat.ble (Nat.succ p) N=true:=List.all_eq_true.1 hlt p hp;have h1:Nat.succ p≤N:=Nat.le_of_ble_eq_true h0;exact⟨Nat.lt_of_lt_of_le h1 (Nat.le_of_eq hs.symm),Nat.ne_of_lt (Nat.lt_of_lt_of_le h1 hN)⟩
 obtain⟨dsv,e1,hdf⟩:=hR.d _ hdv
 cases e1
 let r0:Loop:={ state := .ready,pending:=none,fn:=fnid,tmps:=a.tmps,params:=ps,assign:=x,body:=y,defers:=w.heap.size }
 have hc:=hc (Yc r0 0)
 let W1:World:={ w with heap:=(w.heap.push (.deferred (some []))).push (.loop r0) }
 let args:Array Value:=first++(#[yv (w.heap.size+1)]++cap)
 refine⟨w.heap.size+1,[GP w.heap.size],W1,{ target := .fn (.func f) cap,args:=first ++ #[yv (w.heap.size+1)] },W1,f,first ++ #[yv (w.heap.size+1)]++cap,W1,?_,?_,fun _ _=>trivial,?_,fun h=>by simp[Fw,Fence.wide]at h,?_⟩
 ·simp[Instr.enterLoop,Fw,Fence.wide,newObj,Sem.run,W1,r0,GP]
  rfl
 ·simp[resolve,Deferred.ofValue,hg]
  rfl
 ·have hn' : ¬ fn.name = "runtime.NumGoroutine" := by simpa using hname
  obtain⟨c,hcb⟩:=Option.isSome_iff_exists.1 hbody;simp[invoke,callFunc,hfn,hn',hcb]
 ·have hn' : ¬ fn.name = "runtime.NumGoroutine" := by simpa using hname
  obtain⟨c,hcb⟩:=Option.isSome_iff_exists.1 hbody;have henter:∀aa,(callFunc f aa).run P W1 = .ok (.enter f aa) W1:=fun aa=>by simp[callFunc,hfn,hn',hcb]
  have hcall:=hc ?_ W1 rfl
  ·rw[henter]at hcall;have hcall:CallsIn Fence.wide 0 P f _ W1 _:=hcall;have e1:(first.toList++[yv (w.heap.size+1)]++cap.toList).toArray=first ++ #[yv (w.heap.size+1)]++cap:=by apply Array.toList_inj.1;simp
   rw[e1]at hcall;refine GZ (CallsIn.mono hcall ?_);rintro e w3 ⟨v,rfl,z,_,h1,h2,hk⟩;have hKept:Zc (Zr (Code.rangeFunc g ps x y)) a { a with defers:=[GP w.heap.size]++a.defers }:=⟨_root_.rfl,fun t _=>_root_.rfl,fun h=>absurd (by simp[Zr]) h⟩
   have hRel:WA ((DS,some ⟨.d,w.heap.size::ds⟩) :: ρ) { a with defers:=[GP w.heap.size]++a.defers }:=by
    refine⟨fun t v ht hv =>?_,fun v hv =>?_⟩
    ·rw[Xd,if_neg (fun e=>ht e.symm)]at hv;exact hR.t t v ht hv
    ·rw[Xd,if_pos rfl]at hv
     cases hv
     exact⟨_,rfl,by simp[hdf]⟩
   rcases hk with⟨hl,hn⟩ | ⟨hl,hn⟩
   ·refine⟨none,{ w3 with heap:=w3.heap.setIfInBounds (w.heap.size+1) (Yc r0 0 (.over false)) },?_,?_⟩
    ·simp only[Yc]at hl;simp[Instr.endLoop,Instr.getLoop,getObj,setObj,Sem.run,hl,Yc,r0]
    ·exact⟨⟨h1,h2⟩,hKept,_,hRel,hn⟩
   ·refine⟨some .ret,{ w3 with heap:=w3.heap.setIfInBounds (w.heap.size+1) (Yc r0 0 (.over true)) },?_,?_⟩
    ·simp only[Yc]at hl;simp[Instr.endLoop,Instr.getLoop,getObj,setObj,Sem.run,hl,Yc,r0]
    ·exact wpIn_ret ⟨⟨h1,h2⟩,hKept,_,hRel,hn⟩
  ·intro z h1 K hl1 hb w1 hw1
   have hyr:(Instr.yield (w.heap.size+1) (#[]++(YR s z).toArray)).run P w1 = .ok (.round (w.heap.size+1) fnid (Gj ps.toList (YR s z) a.tmps) x y) w1:=by
    rw[←hw1]at hl1;simp only[Yc]at hl1;have hle:=R6 s z hst;rw[←Cu];simp[Instr.yield,Instr.getLoop,getObj,Sem.run,hl1,r0,hle]
   rw[hyr];show RoundIn Fence.wide 0 P _ _ _ _ _ _ _;refine roundIn_of_wpIn trivial ?_;have hx:=ihx (w.heap.size+1) _ _ h1 { tmps:=Gj ps.toList (YR s z) a.tmps,defers:=[] } w1 hb (R1 hst hnd hpsz hR) hw1 ((GE _ _ _).trans hs);refine Code.wpIn_mono ?_ hx;rintro e a1 w2 ⟨hs1,hk1,ρ1,hR1,hq1⟩
   cases e with
   | normal =>
     obtain⟨hl2,hb2⟩:=hq1;refine⟨{ w2 with heap:=w2.heap.setIfInBounds (w.heap.size+1) (Yc r0 0 .busy) },?_,?_⟩
     ·simp only[Yc]at hl2;simp[Instr.beginRound,Instr.getLoop,getObj,setObj,Sem.run,hl2,Yc,r0]
     ·have hy:=ihy (w.heap.size+1) _ ρ1 _ a1 { w2 with heap:=w2.heap.setIfInBounds (w.heap.size+1) (Yc r0 0 .busy) } hb2 hR1 _root_.rfl (hk1.size.trans ((GE _ _ _).trans hs));refine Code.wpIn_mono ?_ hy;rintro e a2 w3 ⟨hs2,hk2,ρ2,hR2,hq2⟩
      cases e with
      | normal =>
        obtain⟨hl3,hK⟩:=hq2;refine⟨.bool true,{ w3 with heap:=w3.heap.setIfInBounds (w.heap.size+1) (Yc r0 0 .ready) },?_,_,rfl,true,rfl,?_,?_,hK⟩
        ·simp only[Yc]at hl3;simp[Instr.endRound,Instr.getLoop,getObj,setObj,Sem.run,hl3,Yc,r0]
        ·exact hs2.1.trans hs1.1
        ·exact hs2.2.trans hs1.2
      | ret =>
        obtain⟨hl3,hK⟩:=hq2;refine⟨.bool false,{ w3 with heap:=w3.heap.setIfInBounds (w.heap.size+1) (Yc r0 0 .done) },?_,_,rfl,false,rfl,?_,?_,hK⟩
        ·simp only[Yc]at hl3;simp[Instr.endRound,Instr.getLoop,getObj,setObj,Sem.run,hl3,Yc,r0]
        ·exact hs2.1.trans hs1.1
        ·exact hs2.2.trans hs1.2
      | exit i=>exact hq2.elim
      | goto l=>exact hq2.elim
      | panic c=>exact hq2.elim
      | outgrown=>exact hq2.elim
   | ret=>exact hq1.elim
   | exit i=>exact hq1.elim
   | goto l=>exact hq1.elim
   | panic c=>exact hq1.elim
   | outgrown=>exact hq1.elim
def jm{P:Program} {τ : Yv}{an:yq}{N:Nat}{g:Operand}{ps:Array Tmp}{x y:Code} {ρ : Yd}{a:Act}{w:World}{fv:Value}{s:YY}{ds:List Nat}{q:Qs}{i:Nat} (hN:N≤DS) (hs:a.tmps.size=N)
 (ihx:∀(l:Nat) (q:Qs) (ρ : Yd) (h:Ja) (a:Act) (w:World),cC P τ an x ρ h q→WA ρ a→w.heap=h→a.tmps.size=N→x.wpIn (Fw (some l)) 0 P (M8 q w a (Zr x)) a w)
 (ihy:∀(l:Nat) (q:Qs) (ρ : Yd) (h:Ja) (a:Act) (w:World),cC P τ an y ρ h q→WA ρ a→w.heap=h→a.tmps.size=N→y.wpIn (Fw (some l)) 0 P (M8 q w a (Zr y)) a w)
 (hnd:Id ps.toList=true) (hlt:(ps.toList.all fun t=>Nat.blt t N)=true) (hv:ev ρ g=some ⟨.f,fv⟩) (hdv : ρ.get DS=some ⟨.d,ds⟩) (hst:GS s ps.toList=true)
 (hc:rfx P fv (slotsKd s).Ty (YR s) w.heap
  (fun z h1 bg kn kr kx=>cC P τ an x (ZV s z ((DS,some ⟨.d,[]⟩) :: ρ)) h1
   { n:=fun ρ h2=>bg h2 fun h3=>cC P τ an y ρ h3 { n:=fun _ h=>kn h,x:=fun j _ h=>match Nat.beq j i with | true=>kx h | false=>False,r:=fun _ h=>kr h },x:=fun _ _ _=>False,r:=fun _ _=>False })
  (fun d h2=>q.n ((DS,some ⟨.d,d::ds⟩) :: ρ) h2) (fun d h2=>q.r ((DS,some ⟨.d,d::ds⟩) :: ρ) h2) (fun d h2=>q.x i ((DS,some ⟨.d,d::ds⟩) :: ρ) h2))
 (hR:WA ρ a):(Code.rangeFunc g ps x y).wpIn (Fw none) 0 P (M8 q w a (Zr (Code.rangeFunc g ps x y))) a w:=by
 obtain⟨⟨f,fn,first,cap,rfl,hfn,hname,hbody⟩,hc⟩:=hc;refine wpIn_rangeFunc fun fnid _ =>?_;have hg:a.eval g = .func (.func f) first cap:=hR.agree g _ hv
 have hpsz:∀p∈ps.toList,p<a.tmps.size∧p≠DS:=fun p hp=>by
  have h0:Nat.ble (Nat.succ p) N=true:=List.all_eq_true.1 hlt p hp;have h1:Nat.succ p≤N:=Nat.le_of_ble_eq_true h0;exact⟨Nat.lt_of_lt_of_le h1 (Nat.le_of_eq hs.symm),Nat.ne_of_lt (Nat.lt_of_lt_of_le h1 hN)⟩
 obtain⟨dsv,e1,hdf⟩:=hR.d _ hdv
 cases e1
 let r0:Loop:={ state := .ready,pending:=none,fn:=fnid,tmps:=a.tmps,params:=ps,assign:=x,body:=y,defers:=w.heap.size }
 have hc:=hc (Yc r0 i)
 let W1:World:={ w with heap:=(w.heap.push (.deferred (some []))).push (.loop r0) }
 let args:Array Value:=first++(#[yv (w.heap.size+1)]++cap)
 refine⟨w.heap.size+1,[GP w.heap.size],W1,{ target := .fn (.func f) cap,args:=first ++ #[yv (w.heap.size+1)] },W1,f,first ++ #[yv (w.heap.size+1)]++cap,W1,?_,?_,fun _ _=>trivial,?_,fun h=>by simp[Fw,Fence.wide]at h,?_⟩
 ·simp[Instr.enterLoop,Fw,Fence.wide,newObj,Sem.run,W1,r0,GP]
  rfl
 ·simp[resolve,Deferred.ofValue,hg]
  rfl
 ·have hn' : ¬ fn.name = "runtime.NumGoroutine" := by simpa using hname
  obtain⟨c,hcb⟩:=Option.isSome_iff_exists.1 hbody;simp[invoke,callFunc,hfn,hn',hcb]
 ·have hn' : ¬ fn.name = "runtime.NumGoroutine" := by simpa using hname
  obtain⟨c,hcb⟩:=Option.isSome_iff_exists.1 hbody;have henter:∀aa,(callFunc f aa).run P W1 = .ok (.enter f aa) W1:=fun aa=>by simp[callFunc,hfn,hn',hcb]
  have hcall:=hc ?_ W1 rfl
  ·rw[henter]at hcall;have hcall:CallsIn Fence.wide 0 P f _ W1 _:=hcall;have e1:(first.toList++[yv (w.heap.size+1)]++cap.toList).toArray=first ++ #[yv (w.heap.size+1)]++cap:=by apply Array.toList_inj.1;simp
   rw[e1]at hcall;refine GZ (CallsIn.mono hcall ?_);rintro e w3 ⟨v,rfl,z,_,h1,h2,hk⟩;have hKept:Zc (Zr (Code.rangeFunc g ps x y)) a { a with defers:=[GP w.heap.size]++a.defers }:=⟨_root_.rfl,fun t _=>_root_.rfl,fun h=>absurd (by simp[Zr]) h⟩
   have hRel:WA ((DS,some ⟨.d,w.heap.size::ds⟩) :: ρ) { a with defers:=[GP w.heap.size]++a.defers }:=by
    refine⟨fun t v ht hv =>?_,fun v hv =>?_⟩
    ·rw[Xd,if_neg (fun e=>ht e.symm)]at hv;exact hR.t t v ht hv
    ·rw[Xd,if_pos rfl]at hv
     cases hv
     exact⟨_,rfl,by simp[hdf]⟩
   rcases hk with⟨hl,hn⟩ | ⟨hl,hn⟩ | ⟨hl,hn⟩
   ·refine⟨none,{ w3 with heap:=w3.heap.setIfInBounds (w.heap.size+1) (Yc r0 i (.over false)) },?_,?_⟩
    ·simp only[Yc]at hl;simp[Instr.endLoop,Instr.getLoop,getObj,setObj,Sem.run,hl,Yc,r0]
    ·exact⟨⟨h1,h2⟩,hKept,_,hRel,hn⟩
   ·refine⟨some .ret,{ w3 with heap:=w3.heap.setIfInBounds (w.heap.size+1) (Yc r0 i (.over true)) },?_,?_⟩
    ·simp only[Yc]at hl;simp[Instr.endLoop,Instr.getLoop,getObj,setObj,Sem.run,hl,Yc,r0]
    ·exact wpIn_ret ⟨⟨h1,h2⟩,hKept,_,hRel,hn⟩
   ·refine⟨some (.exit i),{ w3 with heap:=w3.heap.setIfInBounds (w.heap.size+1) (Yc r0 i .ovx) },?_,?_⟩
    ·simp only[Yc]at hl;simp[Instr.endLoop,Instr.getLoop,getObj,setObj,Sem.run,hl,Yc,r0]
    ·exact wpIn_exit ⟨⟨h1,h2⟩,hKept,_,hRel,hn⟩
  ·intro z h1 K hl1 hb w1 hw1
   have hyr:(Instr.yield (w.heap.size+1) (#[]++(YR s z).toArray)).run P w1 = .ok (.round (w.heap.size+1) fnid (Gj ps.toList (YR s z) a.tmps) x y) w1:=by
    rw[←hw1]at hl1;simp only[Yc]at hl1;have hle:=R6 s z hst;rw[←Cu];simp[Instr.yield,Instr.getLoop,getObj,Sem.run,hl1,r0,hle]
   rw[hyr];show RoundIn Fence.wide 0 P _ _ _ _ _ _ _;refine roundIn_of_wpIn trivial ?_;have hx:=ihx (w.heap.size+1) _ _ h1 { tmps:=Gj ps.toList (YR s z) a.tmps,defers:=[] } w1 hb (R1 hst hnd hpsz hR) hw1 ((GE _ _ _).trans hs);refine Code.wpIn_mono ?_ hx;rintro e a1 w2 ⟨hs1,hk1,ρ1,hR1,hq1⟩
   cases e with
   | normal =>
     obtain⟨hl2,hb2⟩:=hq1;refine⟨{ w2 with heap:=w2.heap.setIfInBounds (w.heap.size+1) (Yc r0 i .busy) },?_,?_⟩
     ·simp only[Yc]at hl2;simp[Instr.beginRound,Instr.getLoop,getObj,setObj,Sem.run,hl2,Yc,r0]
     ·have hy:=ihy (w.heap.size+1) _ ρ1 _ a1 { w2 with heap:=w2.heap.setIfInBounds (w.heap.size+1) (Yc r0 i .busy) } hb2 hR1 _root_.rfl (hk1.size.trans ((GE _ _ _).trans hs));refine Code.wpIn_mono ?_ hy;rintro e a2 w3 ⟨hs2,hk2,ρ2,hR2,hq2⟩
      cases e with
      | normal =>
        obtain⟨hl3,hK⟩:=hq2;refine⟨.bool true,{ w3 with heap:=w3.heap.setIfInBounds (w.heap.size+1) (Yc r0 i .ready) },?_,_,rfl,true,rfl,?_,?_,hK⟩
        ·simp only[Yc]at hl3;simp[Instr.endRound,Instr.getLoop,getObj,setObj,Sem.run,hl3,Yc,r0]
        ·exact hs2.1.trans hs1.1
        ·exact hs2.2.trans hs1.2
      | ret =>
        obtain⟨hl3,hK⟩:=hq2;refine⟨.bool false,{ w3 with heap:=w3.heap.setIfInBounds (w.heap.size+1) (Yc r0 i .done) },?_,_,rfl,false,rfl,?_,?_,hK⟩
        ·simp only[Yc]at hl3;simp[Instr.endRound,Instr.getLoop,getObj,setObj,Sem.run,hl3,Yc,r0]
        ·exact hs2.1.trans hs1.1
        ·exact hs2.2.trans hs1.2
      | exit k =>
        simp only[Qs.at]at hq2;split at hq2
        ·rename_i hk
         obtain rfl:k=i:=Nat.eq_of_beq_eq_true hk;obtain⟨hl3,hK⟩:=hq2;refine⟨.bool false,{ w3 with heap:=w3.heap.setIfInBounds (w.heap.size+1) (Yc r0 k .brk) },?_,_,rfl,false,rfl,?_,?_,hK⟩
         ·simp only[Yc]at hl3;simp[Instr.endRound,Instr.getLoop,getObj,setObj,Sem.run,hl3,Yc,r0]
         ·exact hs2.1.trans hs1.1
         ·exact hs2.2.trans hs1.2
        ·exact hq2.elim
      | goto l=>exact hq2.elim
      | panic c=>exact hq2.elim
      | outgrown=>exact hq2.elim
   | ret=>exact hq1.elim
   | exit i=>exact hq1.elim
   | goto l=>exact hq1.elim
   | panic c=>exact hq1.elim
   | outgrown=>exact hq1.elim
section
variable {P:Program} {τ : Yv}{an:yq} (hτ : Zg P τ) (hpl:∀t ti,τ.get t=some ti→ti.plain=true→QV P τ t ti=true) (hmix:P.follows .mixedOrders=true)
include hτ hpl hmix
def Sz{ro:Option Nat}{id:Nat}{ops:Array Oper}{N:Nat} (hd:Ie N ops.toList){Q:Exit→Act→World→Prop}{K:Yd→Hp}{a:Act}{w:World} {ρ : Yd}{h:Ja} (hN:a.tmps.size=N)
 (hQ:∀ ρ' a' w',WA ρ' a'→K ρ' w'.heap→Yo w w'→Zc (G5 ops.toList) a a'→Q .normal a' w') (hc:j3 P τ ops.toList ρ h K) (hR:WA ρ a) (hw:w.heap=h) :
 (Code.region id ops true).wpIn (Fw ro) 0 P Q a w:=by
 unfold j3 at hc;split at hc
 ·rename_i hok
  subst hN;refine wpIn_region_any hmix ?_;have hz:∀k,¬bits 0 k:=fun k=>by simp[bits,Su]
  have hl:∀k,¬Im (Array.replicate ops.size false) k:=by
   intro k;unfold Im;rw[Array.getElem?_replicate];split <;> simp
  have hI:∀S:Nat→Prop,(∀k,¬S k)→Is ops a (fun _=>undef) S a:=fun S hS=>⟨fun i o t _ _ h=>absurd h (hS i),fun _ _=>rfl,rfl,rfl⟩
  have hC:zN P τ ops a (Im (Array.replicate ops.size false)) 0 [] ρ w.heap (fun _=>undef) a:=
   ⟨hR,hI _ hz,fun i hi=>absurd hi (hz i),fun i hi=>absurd hi (hl i),fun j o _ hj _=>absurd hj (hz j)⟩
  subst hw;obtain⟨n',d',rs',ρ',V',A',e1,e2,e3,e4⟩:=g0 hτ hpl hok hd _ _ _ _ _ _ hc hC;refine CY hτ hpl hok hd (w0:=w) hQ ops.size _ a { w with drawn:=w.drawn+1 } n' d' rs' ρ' V' A' (by simp) ?_ ⟨rfl,rfl⟩ ((hI _ hl).same (fun _=>Iff.rfl) fun k hk=>absurd hk (hl k)) (fun i hi=>absurd hi (hl i)) e1 e2 e3;refine Nat.le_trans (List.length_filter_le _ _) ?_;simp
 ·exact hc.elim
def Pj{ro:Option Nat}{id:Nat}{ops:Array Oper}{dr:Bool}{N:Nat} (hd:Ie N ops.toList){Q:Exit→Act→World→Prop}{K:Yd→Hp}{a:Act}{w:World} {ρ : Yd}{h:Ja} (hN:a.tmps.size=N)
 (hQ:∀ ρ' a' w',WA ρ' a'→K ρ' w'.heap→Yo w w'→Zc (G5 ops.toList) a a'→Q .normal a' w') (hc:yL P τ ops.toList dr ρ h K) (hR:WA ρ a) (hw:w.heap=h) :
 (Code.region id ops dr).wpIn (Fw ro) 0 P Q a w:=by
 unfold yL at hc
 cases dr with
 | true=>exact Sz hτ hpl hmix hd hN hQ hc hR hw
 | false=>exact wpIn_region_list (EI hτ hpl hd hN hQ ops.toList (fun _ h=>h) ρ h a w hc hR hw Yo.rfl Zc.rfl)
def j2{N:Nat} (hN:N≤DS):∀(c:Code),Dh N c=true→∀(ro:Option Nat),(ro=none∨UR c=true)→∀(q:Qs) (ρ : Yd) (h:Ja) (a:Act) (w:World),cC P τ an c ρ h q→WA ρ a→w.heap=h→a.tmps.size=N →
 c.wpIn (Fw ro) 0 P (M8 q w a (Zr c)) a w:=by
 intro c
 induction c with
 | skip=>intro _ ro hrf q ρ h a w hc hR hw hs;subst hw;exact wpIn_skip ⟨Yo.rfl,Zc.rfl,ρ,hR,hc⟩
 | ret=>intro _ ro hrf q ρ h a w hc hR hw hs;subst hw;exact wpIn_ret ⟨Yo.rfl,Zc.rfl,ρ,hR,hc⟩
 | exit id=>intro _ ro hrf q ρ h a w hc hR hw hs;subst hw;exact wpIn_exit ⟨Yo.rfl,Zc.rfl,ρ,hR,hc⟩
 | region id ops dr =>
   intro hok ro hrf q ρ h a w hc hR hw hs;have hd:=je hN hok;simp only[cC]at hc;split at hc
   ·exact Pj hτ hpl hmix hd hs (fun ρ' a' w' h1 h2 h3 h4=>⟨h3,h4,ρ',h1,h2⟩) hc hR hw
   ·rename_i s hs'
    obtain⟨R,hb,hn⟩:=hc;refine Pj hτ hpl hmix hd hs (fun ρ' a' w' h1 h2 h3 h4 =>?_) hb hR hw;obtain⟨x,hx,hRx⟩:=Ub h2;exact⟨h3,h4,_,V9 hR h4 h1 hx,hn _ _ hRx⟩
 | seq x y ihx ihy =>
   intro hok ro hrf q ρ h a w hc hR hw hs;simp only[Dh,Bool.and_eq_true]at hok;simp only[cC]at hc;refine wpIn_seq (Code.wpIn_mono ?_ (ihx hok.1 ro (hrf.imp id fun e=>(Bool.and_eq_true _ _ ▸ e:UR x=true∧UR y=true).1) _ ρ h a w hc hR hw hs));rintro e a' w' ⟨h1,h2,ρ',h3,h4⟩;have hk:Zc (Zr (Code.seq x y)) a a':=h2.mono fun t ht=>by simp[Zr,ht]
   cases e with
   | normal =>
     have:=ihy hok.2 ro (hrf.imp id fun e=>(Bool.and_eq_true _ _ ▸ e:UR x=true∧UR y=true).2) q ρ' _ a' w' h4 h3 _root_.rfl (h2.size.trans hs);refine Code.wpIn_mono ?_ this;rintro e a'' w'' ⟨g1,g2,ρ'',g3,g4⟩;exact⟨h1.trans g1,hk.trans (g2.mono fun t ht=>by simp[Zr,ht]),ρ'',g3,g4⟩
   | exit id=>exact⟨h1,hk,ρ',h3,h4⟩
   | ret=>exact⟨h1,hk,ρ',h3,h4⟩
   | goto l=>exact h4.elim
   | panic c=>exact h4.elim
   | outgrown=>exact h4.elim
 | cond c x y ihx ihy =>
   intro hok ro hrf q ρ h a w hc hR hw hs;simp only[Dh,Bool.and_eq_true]at hok;simp only[cC]at hc;split at hc
   ·rename_i v hv
    split at hc
    ·rename_i t ht
     rw[asB_some]at ht;subst ht;have hcv:a.eval c = .bool t:=hR.agree c _ hv
     have go:∀q',(if t=true then cC P τ an x ρ h q' else cC P τ an y ρ h q')→(∀e a' w',M8 q' w a (Zr x++Zr y) e a' w'→M8 q w a (Zr (Code.cond c x y)) e a' w') →
      (Code.cond c x y).wpIn (Fw ro) 0 P (M8 q w a (Zr (Code.cond c x y))) a w:=by
      intro q' hq hpost;refine wpIn_cond_split hcv (fun ht =>?_) (fun hf =>?_)
      ·subst ht;refine Code.wpIn_mono ?_ (ihx hok.1 ro (hrf.imp id fun e=>(Bool.and_eq_true _ _ ▸ e:UR x=true∧UR y=true).1) q' ρ h a w hq hR hw hs);rintro e a' w' ⟨h1,h2,h3⟩;exact hpost _ _ _ ⟨h1,h2.mono fun t ht=>by simp[ht],h3⟩
      ·subst hf;refine Code.wpIn_mono ?_ (ihy hok.2 ro (hrf.imp id fun e=>(Bool.and_eq_true _ _ ▸ e:UR x=true∧UR y=true).2) q' ρ h a w (by simpa using hq) hR hw hs);rintro e a' w' ⟨h1,h2,h3⟩;exact hpost _ _ _ ⟨h1,h2.mono fun t ht=>by simp[ht],h3⟩
     split at hc
     ·split at hc
      ·rename_i s _
       obtain⟨R,hb,hn⟩:=hc;refine go { q with n:=fun ρ h=>tup s ρ fun x=>R x h } (by split at hb <;> simp_all) ?_;rintro e a' w' ⟨h1,h2,ρ',h3,h4⟩
       cases e with
       | normal =>
         obtain⟨x,hx,hRx⟩:=Ub h4;exact⟨h1,h2,_,V9 hR h2 h3 hx,hn _ _ hRx⟩
       | exit id=>exact⟨h1,h2,ρ',h3,h4⟩
       | ret=>exact⟨h1,h2,ρ',h3,h4⟩
       | goto l=>exact h4.elim
       | panic c=>exact h4.elim
       | outgrown=>exact h4.elim
      ·exact go q hc fun e a' w' h=>h
     ·exact go q hc fun e a' w' h=>h
    ·exact hc.elim
   ·exact hc.elim
 | block id c ih =>
   intro hok ro hrf q ρ h a w hc hR hw hs;simp only[Dh]at hok;simp only[cC]at hc;split at hc
   ·rename_i s _
    obtain⟨R,hb,hn⟩:=hc;refine wpIn_block (Code.wpIn_mono ?_ (ih hok ro hrf _ ρ h a w hb hR hw hs));rintro e a' w' ⟨h1,h2,ρ',h3,h4⟩
    cases e with
    | normal =>
      obtain⟨x,hx,hRx⟩:=Ub h4;exact⟨h1,h2,_,V9 hR h2 h3 hx,hn _ _ hRx⟩
    | exit i =>
      simp only[Qs.at]at h4;simp only[Exit.inBlock];split at h4
      ·rename_i hi
       have:i=id:=Nat.eq_of_beq_eq_true hi;obtain⟨x,hx,hRx⟩:=Ub h4;rw[if_pos this];exact⟨h1,h2,_,V9 hR h2 h3 hx,hn _ _ hRx⟩
      ·rename_i hi
       have:¬i=id:=fun e=>by subst e;simp at hi
       rw[if_neg this];exact⟨h1,h2,ρ',h3,h4⟩
    | ret=>exact⟨h1,h2,ρ',h3,h4⟩
    | goto l=>exact h4.elim
    | panic c=>exact h4.elim
    | outgrown=>exact h4.elim
   ·refine wpIn_block (Code.wpIn_mono ?_ (ih hok ro hrf _ ρ h a w hc hR hw hs));rintro e a' w' ⟨h1,h2,ρ',h3,h4⟩
    cases e with
    | normal=>exact⟨h1,h2,ρ',h3,h4⟩
    | exit i =>
      simp only[Qs.at]at h4;simp only[Exit.inBlock];split at h4
      ·rename_i hi
       have:i=id:=Nat.eq_of_beq_eq_true hi;rw[if_pos this];exact⟨h1,h2,ρ',h3,h4⟩
      ·rename_i hi
       have:¬i=id:=fun e=>by subst e;simp at hi
       rw[if_neg this];exact⟨h1,h2,ρ',h3,h4⟩
    | ret=>exact⟨h1,h2,ρ',h3,h4⟩
    | goto l=>exact h4.elim
    | panic c=>exact h4.elim
    | outgrown=>exact h4.elim
 | loop c ih =>
   intro hok ro hrf q ρ h a w hc hR hw hs;simp only[Dh]at hok;simp only[cC]at hc;split at hc
   ·split at hc
    ·rename_i s _
     obtain⟨x0,hx0,I,μ,hI,hstep⟩:=Ub hc
     have key:∀m (x:(slotsKd s).Ty) (a':Act) (w':World),μ x w'.heap<m→I x w'.heap→WA (ZV s x (WY (Zr c) ρ)) a'→Yo w w'→Zc (Zr c) a a' →
      Code.roundsIn (Fw ro) 0 P c (M8 q w a (Zr c)) m a' w':=by
      intro m
      induction m with
      | zero=>intro x a' w' hlt;omega
      | succ m ihm =>
        intro x a' w' hlt hIx hRx hsx hkx;rw[roundsIn_succ];refine Code.wpIn_mono ?_ (ih hok ro hrf _ _ _ a' w' (hstep x w'.heap hIx) hRx _root_.rfl (hkx.size.trans hs));rintro e a'' w'' ⟨h1,h2,ρ',h3,h4⟩;have hk2:=hkx.trans h2
        cases e with
        | normal =>
          obtain⟨y,hy,hIy,hμ⟩:=Ub h4;exact ihm y a'' w'' (by omega) hIy (V9 hR hk2 h3 hy) (hsx.trans h1) hk2
        | exit i=>exact⟨hsx.trans h1,hk2,ρ',h3,h4⟩
        | ret=>exact⟨hsx.trans h1,hk2,ρ',h3,h4⟩
        | goto l=>exact h4.elim
        | panic c=>exact h4.elim
        | outgrown=>exact h4.elim
     subst hw;exact wpIn_loop_rounds (μ x0 w.heap+1) (key _ x0 a w (by omega) hI (V9 hR Zc.rfl hR hx0) Yo.rfl Zc.rfl)
    ·exact hc.elim
   ·exact hc.elim
 | rangeFunc g ps x y ihx ihy =>
   intro hok ro hrf q ρ h a w hc hR hw hs
   have hro:ro=none:=by
    rcases hrf with e | e
    ·exact e
    ·simp[UR]at e
   subst hro;subst hw;simp only[Dh,Bool.and_eq_true]at hok;obtain⟨⟨⟨hokx,hoky⟩,hnd⟩,hlt⟩:=hok;simp only[cC]at hc;split at hc
   ·rename_i v r dv hnr hv _ hdv
    rw[Bool.and_eq_true]at hnr;split at hc
    ·rename_i fv s ds hfv _ hds
     rw[asF_some]at hfv;subst hfv;rw[asD_some]at hds;subst hds;split at hc
     ·rename_i hst
      split at hc
      ·exact xH hN hs (fun l q ρ h a w=>ihx hokx (some l) (.inr hnr.1) q ρ h a w) (fun l q ρ h a w=>ihy hoky (some l) (.inr hnr.2) q ρ h a w) hnd hlt hv hdv hst hc hR
      ·exact jm hN hs (fun l q ρ h a w=>ihx hokx (some l) (.inr hnr.1) q ρ h a w) (fun l q ρ h a w=>ihy hoky (some l) (.inr hnr.2) q ρ h a w) hnd hlt hv hdv hst hc hR
     ·exact hc.elim
    ·exact hc.elim
   ·exact hc.elim
 | _=>intro _ ro hrf q ρ h a w hc;exact hc.elim
end
section
variable {P:Program} {τ : Yv}{an:yq} (hτ : Zg P τ) (hpl:∀t ti,τ.get t=some ti→ti.plain=true→QV P τ t ti=true) (hmix:P.follows .mixedOrders=true)
def jl(tmps:Array Value):ResultVar→Sem Value
 | .tmp t=>pure (tmps.getD t undef)
 | .cell a t=>do loadVar t (←asAddr (tmps.getD a undef))
include hτ in
theorem If{k:Kd}{v:ResultVar} {ρ : Yd}{a:Act}{w:World}{K:k.Ty→Prop} (hr:xF τ k v ρ w.heap K) (hR:WA ρ a):∃x,K x∧(jl a.tmps v).run P w = .ok (k.val x) w:=by
 unfold xF at hr;split at hr
 ·rename_i t
  split at hr
  ·rename_i s hs
   have hv:=hR.agree _ _ hs;split at hr
   ·rename_i x hx
    have:=YG hx;subst this;refine⟨x,hr,?_⟩;simp only[jl,Sem.run_pure];rw[show a.tmps.getD t undef=_ from hv]
    rfl
   ·exact hr.elim
  ·exact hr.elim
 ·rename_i t T
  split at hr
  ·rename_i s k' hs hk
   have hv:=hR.agree _ _ hs;obtain⟨ti,b1,rfl,b3⟩:=Z3 hk;split at hr
   ·rename_i l hl
    rw[asP_some]at hl;subst hl;obtain⟨z,hz,hr⟩:=hr;split at hr
    ·rename_i x hx
     have:=YG hx;simp only[Sigma.mk.injEq]at this;obtain⟨e,this⟩:=this;subst e;simp at this;subst this;refine⟨_,hr,?_⟩;have hl:=MF hτ b1 b3 hz;simp only[jl];rw[show a.tmps.getD t undef=_ from hv];simp[asAddr,hl]
    ·exact hr.elim
   ·exact hr.elim
  ·exact hr.elim
include hτ in
theorem Ds:∀ {k:Kd}{rs:List ResultVar} {ρ : Yd}{a:Act}{w:World}{K:k.Ty→Prop},MO τ k rs ρ w.heap K→WA ρ a→∃z,K z∧(rs.mapM (jl a.tmps)).run P w = .ok (Kd.vals k z) w:=by
 intro k
 induction k with
 | pr k1 k2 ih1 ih2 =>
   intro rs ρ a w K hr hR
   cases rs with
   | nil=>simp[MO]at hr
   | cons v vs =>
     simp only[MO]at hr;split at hr
     ·rename_i hn
      obtain⟨x,hr,hx⟩:=If hτ hr hR;obtain⟨y,hK,hy⟩:=ih2 hr hR;refine⟨(x,y),hK,?_⟩;simp[hx,hy,Kd.vals,Ve hn]
     ·exact hr.elim
 | un =>
   intro rs ρ a w K hr hR
   cases rs with
   | nil=>exact⟨(),hr,by simp[Kd.vals]⟩
   | cons v vs=>simp[MO]at hr
 | _=>intro rs ρ a w K hr;cases rs <;> simp[MO]at hr
def Dt(fn:Func) (tmps:Array Value):results fn tmps=(do let vs ←fn.results.mapM (jl tmps);pure (if h:vs.size=1 then vs[0] else .tuple vs)):=by
 unfold results
 congr 1
include hτ in
theorem Dr{fn:Func}{k:Kd} {ρ : Yd}{a:Act}{w:World}{K:k.Ty→Prop} (hr:zv τ k fn.results.toList ρ w.heap K) (hR:WA ρ a):∃z,K z∧(results fn a.tmps).run P w = .ok (k.val z) w:=by
 rw[Dt]
 have one:∀(v:ResultVar),fn.results.toList=[v]→xF τ k v ρ w.heap K→∃z,K z∧(do let vs ←fn.results.mapM (jl a.tmps);pure (if h:vs.size=1 then vs[0] else .tuple vs)).run P w = .ok (k.val z) w:=by
  intro v hv h1;obtain⟨x,hK,hx⟩:=If hτ h1 hR;refine⟨x,hK,?_⟩;simp[Array.mapM_eq_mapM_toList,hv,hx]
 unfold zv at hr;split at hr
 ·rename_i k' K
  split at hr
  ·exact hr.elim
  ·rename_i hne
   obtain⟨z,hK,hz⟩:=Ds hτ hr hR;refine⟨z,hK,?_⟩
   have hlen:(Kd.vals k' z).length≠1:=by
    have h0:∀(k:Kd) (rs:List ResultVar) (K':k.Ty→Prop),MO τ k rs ρ w.heap K'→∀z:k.Ty,(Kd.vals k z).length=rs.length:=by
     intro k
     induction k with
     | pr k1 k2 ih1 ih2 =>
       intro rs K' h z
       cases rs with
       | nil=>simp[MO]at h
       | cons v vs =>
         simp only[MO]at h;split at h
         ·obtain⟨x,h,_⟩:=If (P:=P) hτ h hR;simp[Kd.vals,ih2 vs _ h z.2]
         ·exact h.elim
     | un=>intro rs K' h z;cases rs <;> simp[MO]at h;simp[Kd.vals]
     | _=>intro rs K' h;cases rs <;> simp[MO]at h
    rw[h0 _ _ _ hr];intro h1
    match hrs:fn.results.toList with
    | []=>rw[hrs]at h1;simp at h1
    | [v]=>exact hne v hrs
    | v::v'::r=>rw[hrs]at h1;simp at h1
   simp[Array.mapM_eq_mapM_toList,hz,Kd.val,hlen]
 ·rename_i K
  split at hr
  ·rename_i hrs
   refine⟨(),hr,?_⟩;simp[Array.mapM_eq_mapM_toList,hrs,Kd.val,Kd.val0,Kd.cells,Go.Al.one]
  ·exact hr.elim
 ·split at hr
  ·rename_i v hv
   exact one v hv hr
  ·exact hr.elim
include hτ in
theorem SW{fn:Func}{k:Kd}{K:k.Ty→Hp}{w0:World}{R:Ending→World→Prop} (hRR:∀x w',Yo w0 w'→K x w'.heap→R (.returned (k.val x)) w') {ρ : Yd}{a:Act} (hR:WA ρ a) :
 ∀(ds:List Nat) (w:World),Yo w0 w→lv ds w.heap (fun h=>zv τ k fn.results.toList ρ h fun x=>K x h)→LeavesInM Fence.wide 0 P fn a.tmps R (ds.map GP) .returning w:=by
 intro ds
 induction ds with
 | nil =>
   intro w hs h;obtain⟨z,hK,hz⟩:=Dr (P:=P) (a:=a) hτ h hR;exact⟨_,hz,hRR z w hs hK⟩
 | cons d r ih =>
   intro w hs h;obtain⟨h1,h2⟩:=h;refine⟨by simp,.inl ⟨d,{ w with heap:=w.heap.setIfInBounds d (.deferred none) },rfl,?_,ih _ ⟨hs.1,hs.2⟩ h2⟩⟩;simp[Instr.takeDeferred,getObj,setObj,Sem.run,h1]
def xD:∀(args:List SV) (n:Nat) (tm:Array Value),(∀i v,args[i]? = some v→tm[n+i]? = some v.val)→n+args.length≤DS→WA (Sp args n) { tmps:=tm,defers:=[] }:=by
 intro args
 induction args with
 | nil =>
   intro n tm h hl;refine⟨fun t v ht hv =>?_,fun v hv =>?_⟩
   ·simp only[Sp,Xd]at hv;rw[if_neg fun e=>ht e.symm]at hv;simp[Yd.get]at hv
   ·simp only[Sp,Xd,if_true]at hv;simp at hv;subst hv;exact⟨[],rfl,rfl⟩
 | cons x r ih =>
   intro n tm h hl;have hr:=ih (n+1) tm (fun i v hi=>by have:=h (i+1) v (by simpa using hi);rw[←this];congr 1;omega) (by simp at hl;omega);refine⟨fun t v ht hv =>?_,fun v hv =>?_⟩
   ·simp only[Sp,Xd]at hv;split at hv
    ·rename_i e;subst e
     simp at hv;subst hv;exact h 0 x (by simp)
    ·exact hr.t t v ht hv
   ·simp only[Sp,Xd]at hv;have:¬n=DS:=by simp at hl;omega
    rw[if_neg this]at hv;exact hr.d v hv
def okF(fn:Func) (n:Nat):Bool:=
 !(fn.name == "runtime.NumGoroutine") && Nat.ble n fn.ntmps && Nat.ble fn.ntmps DS && match fn.body with | some c => Dh fn.ntmps c | none => false
include hτ hpl hmix in
theorem qp{f:Nat}{fn:Func}{args:List SV}{k:Kd}{h:Ja}{K:k.Ty→Hp} (hf:P.funcs[f]? = some fn) (hok:okF fn args.length=true) (hr:fnC P τ an fn args k h K):Jm P f (args.map SV.val) k h K:=by
 unfold okF at hok;simp only[Bool.and_eq_true,Bool.not_eq_true']at hok;obtain⟨⟨⟨hn,h1⟩,h2⟩,h3⟩:=hok;have h1:args.length≤fn.ntmps:=Nat.le_of_ble_eq_true h1;have h2:fn.ntmps≤DS:=Nat.le_of_ble_eq_true h2;unfold fnC at hr;split at hr
 ·rename_i c hb
  rw[hb]at h3;simp only at h3;intro w hw;subst hw
  have henter:(callFunc f (args.map SV.val).toArray).run P w = .ok (.enter f (args.map SV.val).toArray) w:=by
   have hn' : ¬ fn.name = "runtime.NumGoroutine" := by simpa using hn
   simp[callFunc,hf,hn',hb]
  rw[henter];show CallsIn Fence.wide 0 P f _ w _;have hsz:((args.map SV.val).toArray++Array.replicate (fn.ntmps-(args.map SV.val).toArray.size) undef).size=fn.ntmps:=by simp;omega
  refine callsIn_of_wp_marks hf hb trivial ?_
  have hrel:WA (Sp args 0) { tmps:=(args.map SV.val).toArray++Array.replicate (fn.ntmps-(args.map SV.val).toArray.size) undef,defers:=[] }:=by
   refine xD args 0 _ (fun i v hi =>?_) (by omega)
   have hlt:i<args.length:=by
    by_cases h:i<args.length
    ·exact h
    ·rw[List.getElem?_eq_none (by omega)]at hi;simp at hi
   rw[Nat.zero_add,Array.getElem?_append_left (by simpa using hlt)];simp[hi]
  have hwp:=j2 (an:=an) hτ hpl hmix h2 c h3 none (.inl rfl) _ _ _ _ w hr hrel rfl hsz;refine Code.wpIn_mono ?_ hwp
  have fin:∀ ρ a' w',Yo w w'→WA ρ a'→D4 τ k fn.results.toList K ρ w'.heap→LeavesInM Fence.wide 0 P fn a'.tmps (fun e w''=>∃v,e = .returned v∧∃x,v=k.val x∧w''.os=w.os∧w''.output=w.output∧K x w''.heap) a'.defers .returning w':=by
   intro ρ a' w' hs hR hl;unfold D4 at hl;split at hl
   ·rename_i v hv
    split at hl
    ·rename_i ds hds
     rw[asD_some]at hds;subst hds;obtain⟨ds',e,hd⟩:=hR.d _ hv;simp at e;subst e;rw[hd];exact SW hτ (w0:=w) (K:=K) (fun x w'' hs' hK=>⟨_,rfl,x,rfl,hs'.1,hs'.2,hK⟩) hR ds w' hs hl
    ·exact hl.elim
   ·exact hl.elim
  rintro e a' w' ⟨hs,hk,ρ,hR,hq⟩
  cases e with
  | normal=>exact fin ρ a' w' hs hR hq
  | ret=>exact fin ρ a' w' hs hR hq
  | exit id=>exact hq.elim
  | goto l=>exact hq.elim
  | panic c=>exact hq.elim
  | outgrown=>exact hq.elim
 ·exact hr.elim
end
def Vs{k:Kd}{body:(k.Ty→Hp)→Prop}{next:k.Ty→Hp} (h:body next):jn k body next:=⟨next,h,fun _ _ h=>h⟩
def JH{k:Kd}{body:(k.Ty→Hp)→Prop}{next:k.Ty→Hp} (x:k.Ty) (h:Ja) (hb:body fun y h'=>y=x∧h'=h) (hn:next x h):jn k body next:=
 ⟨_,hb,fun y h' e=>by obtain⟨rfl,rfl⟩:=e;exact hn⟩
def XN{T:Nat}{k:Kd}{x:k.Ty}{h:Ja}{K:Nat→Hp} (hK:K h.size (h.push (Jg T k x))):new T k x h K:=hK
def JF{k:Kd}{body:k.Ty→Ja→(k.Ty→Hp)→Prop}{x:k.Ty}{h:Ja} (I:k.Ty→Hp) (μ : k.Ty→Ja→Nat) (h0:I x h)
 (step:∀x h,I x h→body x h fun x' h'=>I x' h' ∧ μ x' h' < μ x h):lp k body x h:=⟨I,μ,h0,step⟩
def Jc(S:List Nat) (h h':Ja):Prop:=h.size≤h'.size∧∀b,b<h.size→b∉S→h'[b]? = h[b]?
def Jc.rfl{S:List Nat}{h:Ja}:Jc S h h:=⟨Nat.le_refl _,fun _ _ _=>Eq.refl _⟩
def Jc.trans{S T:List Nat}{h h' h'':Ja} (a:Jc S h h') (b:Jc T h' h''):Jc (S++T) h h'':=
 ⟨Nat.le_trans a.1 b.1,fun x hx hn=>by
  simp at hn;rw[b.2 x (Nat.lt_of_lt_of_le hx a.1) hn.2,a.2 x hx hn.1]⟩
def Jc.weak{S T:List Nat}{h h':Ja} (a:Jc S h h') (hs:∀b∈S,b<h.size→b∈T):Jc T h h':=
 ⟨a.1,fun x hx hn=>a.2 x hx fun h=>hn (hs x h hx)⟩
def Jc.then{S T U:List Nat}{h h' h'':Ja} (a:Jc S h h') (b:Jc T h' h'') (h1:∀x∈S,x<h.size→x∈U) (h2:∀x∈T,x<h.size→x∈U):Jc U h h'':=
 (a.trans b).weak fun x hx hl=>by
  rcases List.mem_append.1 hx with hx | hx
  ·exact h1 x hx hl
  ·exact h2 x hx hl
def Jl{h:Ja}{b:Nat}{o:Obj} (e:h[b]? = some o):b<h.size:=by
 by_cases hb:b<h.size
 ·exact hb
 ·rw[Array.getElem?_eq_none (by omega)]at e;simp at e
def Jc.get{S:List Nat}{h h':Ja} (a:Jc S h h'){b:Nat}{o:Obj} (e:h[b]? = some o) (hn:b∉S):h'[b]? = some o:=by
 rw[a.2 b (Jl e) hn,e]
def Ju{h:Ja}{o:Obj}:Jc [] h (h.push o):=by
 refine⟨by simp,fun b hb _ =>?_⟩;rw[Array.getElem?_push];have:¬b=h.size:=by omega
 simp[this]
def Jo{h:Ja}{b:Nat}{o:Obj}:Jc [b] h (h.setIfInBounds b o):=by
 refine⟨by simp,fun x hx hn =>?_⟩;rw[Array.getElem?_setIfInBounds];have:¬b=x:=fun e=>hn (by simp[e]);simp[this]
def JA{h:Ja}{o:Obj}:(h.push o)[h.size]? = some o:=by simp
def Yq{h:Ja}{o o':Obj}{b:Nat} (e:h[b]? = some o):(h.push o')[b]? = some o:=Ju.get e (by simp)
def Jw{h:Ja}{b:Nat}{o o':Obj} (e:h[b]? = some o):(h.setIfInBounds b o')[b]? = some o':=by
 rw[Array.getElem?_setIfInBounds];simp[Jl e]
def Z0{h:Ja}{b c:Nat}{o o':Obj} (e:h[b]? = some o) (hn:c≠b):(h.setIfInBounds c o')[b]? = some o:=Jo.get e (by simp;exact fun e=>hn e.symm)
def P7{h:Ja}{b o:Nat}{L:List Value}{T:Nat}{f:Nat×Nat}{k:Kd}{x:k.Ty} (e:h[b]? = some (.cells L.toArray T f)) (hx:(L.drop o).take k.size=k.cells x) (hl:o+k.size≤L.length):sm k ⟨b,o⟩ x h:=by
 simp[sm,Qz,e,hl,hx]
def XY{k:Kd}:∀(xs:List k.Ty) (i:Nat) (x:k.Ty),xs[i]? = some x→((xs.flatMap k.cells).drop (i*k.size)).take k.size=k.cells x:=by
 intro xs
 induction xs with
 | nil=>intro i x h;simp at h
 | cons y r ih =>
   intro i x h
   cases i with
   | zero =>
     simp at h;subst h;simp[List.take_append_of_le_length,Kd.cells_length]
   | succ i =>
     have:=ih i x (by simpa using h);rw[show(i+1)*k.size=(k.cells y).length+i*k.size by rw[Kd.cells_length,Nat.succ_mul,Nat.add_comm]];rw[List.flatMap_cons,List.drop_append,List.drop_eq_nil_of_le (by omega)];simpa using this
def ZI{k:Kd} (xs:List k.Ty):(xs.flatMap k.cells).length=xs.length*k.size:=by
 induction xs with
 | nil=>simp
 | cons x r ih=>rw[List.flatMap_cons,List.length_append,ih,Kd.cells_length,List.length_cons,Nat.succ_mul,Nat.add_comm]
def vy{h:Ja}{b i T:Nat}{k:Kd}{xs:List k.Ty}{f:Nat×Nat}{x:k.Ty} (e:h[b]? = some (.cells (xs.flatMap k.cells).toArray T f)) (hx:xs[i]? = some x):sm k ⟨b,i*k.size⟩ x h:=by
 refine P7 e (XY xs i x hx) ?_
 have hi:i<xs.length:=by
  by_cases h:i<xs.length
  ·exact h
  ·rw[List.getElem?_eq_none (by omega)]at hx;simp at hx
 rw[ZI,←Nat.succ_mul];exact Nat.mul_le_mul_right _ hi
def vz{h:Ja}{b i T:Nat}{k:Kd}{xs:List k.Ty}{x:k.Ty}{K:Hp} (e:h[b]? = some (QW T k xs)) (hi:i<xs.length) (hK:K (h.setIfInBounds b (QW T k (xs.set i x)))):st k ⟨b,i*k.size⟩ x h K:=by
 have hle:i*k.size+k.size≤xs.length*k.size:=by rw[←Nat.succ_mul];exact Nat.mul_le_mul_right _ hi
 refine⟨(xs.flatMap k.cells).toArray,T,0,0,e,by rw[List.size_toArray,ZI,Kd.cells_length];exact hle,.inl (Nat.zero_le _),?_⟩
 have:Xz (xs.flatMap k.cells).toArray (i*k.size) (k.cells x)=((xs.set i x).flatMap k.cells).toArray:=by
  rw[WS,Mw (m:=k.size) (fun y=>Kd.cells_length k y) xs i x hi]
 rw[this];exact hK
def zE{h:Ja}{b o i T:Nat}{k:Kd}{xs:List k.Ty}{x:k.Ty}{K:Hp} (e:h[b]? = some (QW T k xs)) (ho:o=i*k.size) (hi:i<xs.length) (hK:K (h.setIfInBounds b (QW T k (xs.set i x)))):st k ⟨b,o⟩ x h K:=by
 subst ho;exact vz e hi hK
def Cw{h:Ja}{b o i T:Nat}{k:Kd}{xs:List k.Ty}{x:k.Ty} (e:h[b]? = some (QW T k xs)) (ho:o=i*k.size) (hx:xs[i]? = some x):sm k ⟨b,o⟩ x h:=by
 subst ho;exact vy e hx
def JE{n:Int} (h1 : -9223372036854775808≤n) (h2:n≤9223372036854775807):Jr n=n:=by unfold Jr;rw[IntKind.wrap_i64];omega
def Jv{h:Ja}{b n T:Nat}{k:Kd}{x:k.Ty}{k':Kd}{y:k'.Ty}{f:Nat×Nat} (e:h[b]? = some (.cells (k.cells x).toArray T f)) (hy:((k.cells x).drop n).take k'.size=k'.cells y) (hl:n+k'.size≤k.size):sm k' ((Pl.mk b 0).fld n) y h:=by
 have:=P7 (o:=n) e hy (by rw[Kd.cells_length];exact hl);simpa[Pl.fld] using this
def Qm{h:Ja}{b n T:Nat}{k:Kd}{x x':k.Ty}{k':Kd}{y:k'.Ty}{K:Hp} (e:h[b]? = some (Jg T k x)) (hl:n+k'.size≤k.size) (hx:Il (k.cells x) n (k'.cells y)=k.cells x') (hK:K (h.setIfInBounds b (Jg T k x'))):st k' ((Pl.mk b 0).fld n) y h K:=by
 refine⟨(k.cells x).toArray,T,0,0,e,?_,.inl (Nat.zero_le _),?_⟩
 ·simp[Pl.fld,Kd.cells_length,hl]
 ·rw[WS];simp only[Pl.fld,Nat.zero_add,hx];exact hK
def RI{k:Kd}:∀(xs:List k.Ty) (i:Nat),(xs.flatMap k.cells).drop (i*k.size)=(xs.drop i).flatMap k.cells:=by
 intro xs
 induction xs with
 | nil=>intro i;simp
 | cons x r ih =>
   intro i
   cases i with
   | zero=>simp
   | succ i =>
     rw[show(i+1)*k.size=(k.cells x).length+i*k.size by rw[Kd.cells_length,Nat.succ_mul,Nat.add_comm],List.flatMap_cons,List.drop_append,List.drop_eq_nil_of_le (by omega)];simpa using ih i
def G7{k:Kd}:∀(xs:List k.Ty) (i:Nat),(xs.flatMap k.cells).take (i*k.size)=(xs.take i).flatMap k.cells:=by
 intro xs
 induction xs with
 | nil=>intro i;simp
 | cons x r ih =>
   intro i
   cases i with
   | zero=>simp
   | succ i =>
     rw[show(i+1)*k.size=(k.cells x).length+i*k.size by rw[Kd.cells_length,Nat.succ_mul,Nat.add_comm],List.flatMap_cons,List.take_append,List.take_of_length_le (by omega)];simpa using ih i
def Pz{k:Kd} (xs:List k.Ty):∀c∈xs.flatMap k.cells,XC c:=by
 intro c hc;obtain⟨x,_,hc⟩:=List.mem_flatMap.1 hc;exact Vv _ _ c hc
def Vy{h:Ja}{s:Jn}{b o T i j m:Nat}{k:Kd}{xs:List k.Ty}{f:Nat×Nat}{K:List Value→Prop} (e:h[b]? = some (.cells (xs.flatMap k.cells).toArray T f)) (ha:s.a=some ⟨b,o⟩) (ho:o=i*k.size) (hm:m=j*k.size) (hl:i+j≤xs.length)
 (hK:K (((xs.drop i).take j).flatMap k.cells)):JB s m h K:=by
 subst ho;subst hm;unfold JB;rw[ha];refine⟨((xs.drop i).take j).flatMap k.cells,?_,Pz _,hK⟩;have hle:i*k.size+j*k.size≤xs.length*k.size:=by rw[←Nat.add_mul];exact Nat.mul_le_mul_right _ hl
 simp only[Qz,e,List.size_toArray,ZI,hle,if_true,RI,G7]
def T7{h:Ja}{b o T i:Nat}{k:Kd}{xs ys:List k.Ty}{K:Hp} (e:h[b]? = some (QW T k xs)) (ho:o=i*k.size) (hl:i+ys.length≤xs.length)
 (hK:K (h.setIfInBounds b (QW T k (xs.take i++ys++xs.drop (i+ys.length))))):stc ⟨b,o⟩ (ys.flatMap k.cells) h K:=by
 subst ho;have hle:i*k.size+ys.length*k.size≤xs.length*k.size:=by rw[←Nat.add_mul];exact Nat.mul_le_mul_right _ hl
 refine⟨(xs.flatMap k.cells).toArray,T,0,0,e,by rw[List.size_toArray,ZI,ZI];exact hle,.inl (Nat.zero_le _),?_⟩
 have:Xz (xs.flatMap k.cells).toArray (i*k.size) (ys.flatMap k.cells)=((xs.take i++ys++xs.drop (i+ys.length)).flatMap k.cells).toArray:=by
  rw[WS];unfold Il;rw[ZI,←Nat.add_mul,G7,RI];simp
 rw[this];exact hK
def qb{h:Ja}{d:Jn}{b o T i n:Nat}{k:Kd}{xs ys:List k.Ty}{cs:List Value}{K:Int→Hp} (e:h[b]? = some (QW T k xs)) (ha:d.a=some ⟨b,o⟩) (ho:o=i*k.size) (hcs:cs=ys.flatMap k.cells) (hl:i+ys.length≤xs.length)
 (hK:K n (h.setIfInBounds b (QW T k (xs.take i++ys++xs.drop (i+ys.length))))):cp d n cs h K:=by
 subst hcs;unfold cp;rw[ha];exact T7 e ho hl hK
def Jc.new{S:List Nat}{h h1 h2:Ja} (a:Jc [] h h1) (b:Jc S h1 h2) (hs:∀x∈S,h.size≤x):Jc [] h h2:=
 a.then b (by simp) (fun x hx hl=>by have:=hs x hx;omega)
def Jc.g{S:List Nat}{h h':Ja} (k:Jc S h h'){b:Nat}{o:Obj} (e:h[b]? = some o) (hn:b∉S:=by simp):h'[b]? = some o:=k.get e hn
def Jc.n{S:List Nat}{h h1 h2:Ja} (a:Jc [] h h1) (b:Jc S h1 h2) (hs:∀x∈S,h.size≤x:=by simp):Jc [] h h2:=a.new b hs
def w6{a b:Int} (h:a=b ∧ -9223372036854775808≤a∧a<9223372036854775808):Jr a=b:=by rw[JE (by omega) (by omega)];exact h.1
def dn{p:Prop} [Decidable p] (h:¬p):¬decide p=true:=fun e=>h (of_decide_eq_true e)
abbrev Pq(b : Nat) : Pl := Pl.mk b 0
abbrev Pf (b n:Nat):Pl:=(Pl.mk b 0).fld n
abbrev nS:Jn:=⟨none,0,0⟩
abbrev vZ:Vector UInt8 32:=Vector.replicate 32 0
def Qg{p : Prop} [Decidable p] : (decide p = true) = p := decide_eq_true_eq
def Jf{c : Prop}{h : Decidable c} (hc : c) {α : Sort _}{t e : α} : ite c t e = t := if_pos hc
def Jd{c : Prop}{h : Decidable c} (hc : ¬ c) {α : Sort _}{t e : α} : ite c t e = e := if_neg hc
def dT{p : Prop} [Decidable p] (h : p) : decide p = true := decide_eq_true h
def dF{p : Prop} [Decidable p] (h : ¬ p) : decide p = false := decide_eq_false h
def SU{k:Kd}{body:(k.Ty→Hp)→Prop}{next:k.Ty→Hp} (x:k.Ty) (Q:Hp) (hb:body fun y h'=>y=x∧Q h') (hn:∀h',Q h'→next x h'):jn k body next:=
 ⟨_,hb,fun y h' e=>by obtain⟨rfl,e⟩:=e;exact hn h' e⟩
def own(s:Jn):List Nat:=match s.a with | some l=>[l.b] | none=>[]
def JR(h:Ja) (T:Nat) (k:Kd) (s:Jn) (xs:List k.Ty):Prop:=
 (s=⟨none,0,0⟩∧xs=[])∨∃b zs,s.a=some ⟨b,0⟩∧s.len=xs.length∧s.cap=xs.length+zs.length∧h[b]? = some (QW T k (xs++zs))
def JR.len{h:Ja}{T:Nat}{k:Kd}{s:Jn}{xs:List k.Ty} (r:JR h T k s xs):s.len=xs.length:=by
 rcases r with⟨rfl,rfl⟩ | ⟨b,zs,_,e,_⟩
 ·rfl
 ·exact e
def JR.cap{h:Ja}{T:Nat}{k:Kd}{s:Jn}{xs:List k.Ty} (r:JR h T k s xs):xs.length≤s.cap:=by
 rcases r with⟨rfl,rfl⟩ | ⟨b,zs,_,_,e,_⟩
 ·exact Nat.le_refl _
 ·omega
def JR.nil{h:Ja}{T:Nat}{k:Kd}:JR h T k ⟨none,0,0⟩ [] := .inl ⟨rfl,rfl⟩
def JR.keep{h h':Ja}{T:Nat}{k:Kd}{s:Jn}{xs:List k.Ty}{S:List Nat} (r:JR h T k s xs) (hk:Jc S h h') (hn:∀b∈own s,b∉S):JR h' T k s xs:=by
 rcases r with⟨rfl,rfl⟩ | ⟨b,zs,e,e1,e2,e3⟩
 ·exact .inl ⟨rfl,rfl⟩
 ·exact .inr ⟨b,zs,e,e1,e2,hk.get e3 (hn b (by simp[own,e]))⟩
def JR.lt{h:Ja}{T:Nat}{k:Kd}{s:Jn}{xs:List k.Ty} (r:JR h T k s xs):∀b∈own s,b<h.size:=by
 rcases r with⟨rfl,rfl⟩ | ⟨b,zs,e,e1,e2,e3⟩
 ·simp[own]
 ·intro x hx;simp[own,e]at hx;subst hx;exact Jl e3
def JR.of_new{h:Ja}{T:Nat}{k:Kd}{s:Jn}{xs zs:List k.Ty}{b:Nat} (e:h[b]? = some (QW T k (xs++zs))) (ha:s.a=some ⟨b,0⟩) (hl:s.len=xs.length) (hc:s.cap=xs.length+zs.length):JR h T k s xs := .inr ⟨b,zs,ha,hl,hc,e⟩
def Ix{h:Ja}{T:Nat}{k:Kd}{s:Jn}{xs:List k.Ty}{i:Int}{sz:Nat}{K:k.Ty→Prop}{x:k.Ty} (r:JR h T k s xs) (h0:0≤i) (hx:xs[i.toNat]? = some x) (hs:sz=k.size) (hK:K x):ix s i sz fun l=>ld k l h K:=by
 have hi:i.toNat<xs.length:=by
  by_cases hh:i.toNat<xs.length
  ·exact hh
  ·rw[List.getElem?_eq_none (by omega)]at hx;simp at hx
 rcases r with⟨rfl,rfl⟩ | ⟨b,zs,e,e1,e2,e3⟩
 ·simp at hi
 ·refine⟨⟨b,0⟩,e,h0,by omega,x,?_,hK⟩;exact Cw e3 (i:=i.toNat) (by simp[hs]) (by rw[List.getElem?_append_left hi];exact hx)
def U7{h:Ja}{T:Nat}{k:Kd}{s:Jn}{xs:List k.Ty}{i:Int}{sz:Nat}{K:Hp}{x:k.Ty} (r:JR h T k s xs) (h0:0≤i) (h1:i<xs.length) (hs:sz=k.size)
 (hK:∀h',Jc (own s) h h'→JR h' T k s (xs.set i.toNat x)→K h'):ix s i sz fun l=>st k l x h K:=by
 rcases r with⟨rfl,rfl⟩ | ⟨b,zs,e,e1,e2,e3⟩
 ·simp at h1;omega
 ·refine⟨⟨b,0⟩,e,h0,by omega,?_⟩;have hi:i.toNat<xs.length:=by omega
  refine zE e3 (i:=i.toNat) (by simp[hs]) (by simp;omega) (hK _ (by simp only[own,e];exact Jo) (.inr ⟨b,zs,e,by simpa using e1,by simpa using e2,?_⟩));rw[Jw e3,List.set_append_left _ _ hi]
def DI{k:Kd}{m:Nat}:Xl k m=(List.replicate m k.zero).flatMap k.cells:=rfl
def X8{h:Ja}{T:Nat}{k:Kd}{by_ n:Nat}{s:Jn}{xs ys:List k.Ty}{cs:List Value}{K:Jn→Hp} (r:JR h T k s xs) (hn:n=ys.length) (hc:cs=ys.flatMap k.cells) (hb:(xs.length+n)*by_≤140737488355328)
 (hK:∀s' h',JR h' T k s' (xs++ys)→Jc (own s) h h'→(s'.a=s.a∨s'.a=some ⟨h.size,0⟩)→K s' h'):ap T k by_ s n cs h K:=by
 subst hn;subst hc;have hlen:=r.len;unfold ap;split
 ·rename_i hle
  rcases r with⟨rfl,rfl⟩ | ⟨b,zs,e,e1,e2,e3⟩
  ·have hy:ys=[]:=by
    cases ys with
    | nil=>rfl
    | cons y r=>simp at hle
   subst hy;exact⟨rfl,hK _ _ JR.nil Jc.rfl (.inl rfl)⟩
  ·simp only[e];refine T7 e3 (i:=s.len) (by simp) (by simp;omega) (hK _ _ (.inr ⟨b,zs.drop ys.length,rfl,by simp[e1],by simp;omega,?_⟩) (by simp only[own,e];exact Jo) (.inl e.symm));rw[Jw e3]
   congr 2
   rw[List.take_append_of_le_length (by omega),List.take_of_length_le (by omega),List.drop_append,List.drop_eq_nil_of_le (by omega)];simp only[List.nil_append]
   congr 2
   omega
 ·rename_i hgt
  refine⟨growslice_fits (by omega) (by rw[hlen];exact hb),?_⟩
  have fin:∀c,s.len+ys.length≤c→K ⟨some ⟨h.size,0⟩,s.len+ys.length,c⟩ (h.push (.cells (xs.flatMap k.cells++ys.flatMap k.cells++Xl k (c-(s.len+ys.length))).toArray T)):=by
   intro c hc;refine hK _ _ (.inr ⟨h.size,List.replicate (c-(s.len+ys.length)) k.zero,rfl,by simp[hlen],by simp;omega,?_⟩) (Ju.weak (by simp)) (.inr rfl);rw[JA]
   congr 2
   rw[DI,List.flatMap_append,List.flatMap_append]
  rcases r with⟨rfl,rfl⟩ | ⟨b,zs,e,e1,e2,e3⟩
  ·exact⟨by simp,fun c hc _=>fin c hc⟩
  ·refine Vy e3 e (i:=0) (j:=s.len) (by simp) rfl (by simp;omega) ?_;intro c hc _
   have:(List.take s.len (List.drop 0 (xs++zs)))=xs:=by
    rw[List.drop_zero,List.take_append_of_le_length (by omega),List.take_of_length_le (by omega)]
   rw[this];exact fin c hc
structure Q5 (k:Kd) (s:Jn) (xs:List k.Ty) (h:Ja):Prop where
 len:s.len=xs.length
 el:∀i x,xs[i]? = some x→∃l,s.a=some l∧sm k ⟨l.b,l.o+i*k.size⟩ x h
 blk:∀l,s.a=some l→∃c T f,h[l.b]? = some (.cells c T f)∧l.o≤c.size
def Zj{k:Kd}{l:Pl}{x:k.Ty}{h h':Ja}{S:List Nat} (e:sm k l x h) (hk:Jc S h h') (hn:l.b∉S):sm k l x h':=by
 unfold sm Qz at *;split at e
 ·rename_i c T f hc
  rw[hk.get hc hn];exact e
 ·simp at e
def JN{k:Kd}{l:Pl}{x:k.Ty}{h h':Ja} (hs:0<k.size) (e:sm k l x h) (hk:Jc [] h h'):sm k l x h':=Zj e hk (by simp)
def Q5.keep'{k:Kd}{s:Jn}{xs:List k.Ty}{h h':Ja}{S:List Nat} (g:Q5 k s xs h) (hk:Jc S h h') (hn:∀b∈own s,b∉S):Q5 k s xs h':=
 ⟨g.len,fun i x hi=>by obtain⟨l,hl,e⟩:=g.el i x hi;exact⟨l,hl,Zj e hk (hn _ (by simp[own,hl]))⟩,
  fun l hl=>by obtain⟨c,T,f,hc,ho⟩:=g.blk l hl;exact⟨c,T,f,hk.get hc (hn _ (by simp[own,hl])),ho⟩⟩
def Q5.keep{k:Kd}{s:Jn}{xs:List k.Ty}{h h':Ja} (hs:0<k.size) (g:Q5 k s xs h) (hk:Jc [] h h'):Q5 k s xs h':=g.keep' hk (by simp)
def JK{k:Kd}{s:Jn}{xs:List k.Ty}{h:Ja}{i:Int}{sz:Nat}{K:k.Ty→Prop}{x:k.Ty} (g:Q5 k s xs h) (h0:0≤i) (hx:xs[i.toNat]? = some x) (hs:sz=k.size) (hK:K x):ix s i sz fun l=>ld k l h K:=by
 have hi:i.toNat<xs.length:=by
  by_cases hh:i.toNat<xs.length
  ·exact hh
  ·rw[List.getElem?_eq_none (by omega)]at hx;simp at hx
 obtain⟨l,hl,e⟩:=g.el _ _ hx;have hlen:=g.len;exact⟨l,hl,h0,by omega,x,by rw[hs];exact e,hK⟩
def vr{h:Ja}{l:Pl}{m n:Nat}{xs ys:List Value} (h1:Qz h l m=some xs) (h2:Qz h ⟨l.b,l.o+m⟩ n=some ys):Qz h l (m+n)=some (xs++ys):=by
 unfold Qz at *;split at h1
 ·rename_i c T f hc
  simp only[hc]at h2 ⊢;split at h1
  ·split at h2
   ·rename_i a b
    simp only[Option.some.injEq]at h1 h2;have:l.o+(m+n)≤c.size:=by omega
    rw[if_pos this,←h1,←h2,List.take_add,List.drop_drop]
   ·simp at h2
  ·simp at h1
 ·simp at h1
def P6{k:Kd}{s:Jn}{h:Ja}:∀ {xs:List k.Ty}{l:Pl},(∃c T f,h[l.b]? = some (.cells c T f)∧l.o≤c.size)→(∀i x,xs[i]? = some x→sm k ⟨l.b,l.o+i*k.size⟩ x h)→Qz h l (xs.length*k.size)=some (xs.flatMap k.cells)
 | [],l,⟨c,T,f,hc,ho⟩,_=>by simp[Qz,hc,ho]
 | x :: r, l, ⟨c, T, f, hc, ho⟩, he => by
   have h0:=he 0 x (by simp);simp only[Nat.zero_mul,Nat.add_zero]at h0
   have hle:l.o+k.size≤c.size:=by
    unfold sm Qz at h0;simp only[hc]at h0;split at h0
    ·assumption
    ·simp at h0
   have ih:=P6 (s:=s) (xs:=r) (l:=⟨l.b,l.o+k.size⟩) ⟨c,T,f,hc,hle⟩ (fun i y hi=>by
    have:=he (i+1) y (by simpa using hi);rw[Nat.succ_mul]at this;have e:l.o+k.size+i*k.size=l.o+(i*k.size+k.size):=by omega
    rw[e];exact this)
   have:=vr h0 ih;rw[List.length_cons,Nat.succ_mul,Nat.add_comm,List.flatMap_cons];exact this
def QI{k:Kd}{s:Jn}{xs:List k.Ty}{h:Ja}{m:Nat}{K:List Value→Prop} (g:Q5 k s xs h) (hm:m=xs.length*k.size) (hK:K (xs.flatMap k.cells)):JB s m h K:=by
 subst hm;unfold JB
 cases ha:s.a with
 | none =>
   have:xs=[]:=by
    cases xs with
    | nil=>rfl
    | cons x r=>obtain⟨l,hl,_⟩:=g.el 0 x (by simp);rw[ha]at hl;simp at hl
   subst this;exact⟨by simp,hK⟩
 | some l =>
   refine⟨xs.flatMap k.cells,P6 (s:=s) (g.blk l ha) (fun i x hi=>by obtain⟨l',hl',e⟩:=g.el i x hi;rw[ha]at hl';cases hl';exact e),Pz _,hK⟩
def JR.seg{h:Ja}{T:Nat}{k:Kd}{s:Jn}{xs:List k.Ty} (r:JR h T k s xs):Q5 k s xs h:=by
 refine⟨r.len,fun i x hi =>?_,fun l hl =>?_⟩
 ·have hlt:i<xs.length:=by
   by_cases hh:i<xs.length
   ·exact hh
   ·rw[List.getElem?_eq_none (by omega)]at hi;simp at hi
  rcases r with⟨rfl,rfl⟩ | ⟨b,zs,e,e1,e2,e3⟩
  ·simp at hlt
  ·exact⟨_,e,Cw e3 (i:=i) (by simp) (by rw[List.getElem?_append_left hlt];exact hi)⟩
 ·rcases r with⟨rfl,rfl⟩ | ⟨b,zs,e,e1,e2,e3⟩
  ·simp at hl
  ·rw[e]at hl;simp only[Option.some.injEq]at hl;subst hl;exact⟨_,_,_,e3,Nat.zero_le _⟩
def j5 {P : Program} {f : Nat} {fn : Func} {args : List Value} {k : Kd} {h : Ja} {K : k.Ty → Hp} (hf : P.funcs[f]? = some fn) (hn : (fn.name == "runtime.NumGoroutine") = false) (hb : fn.body.isSome = true)
 (hc:∀w:World,w.heap=h→Calls P f args.toArray w fun e w'=>∃x,e = .returned (k.val x)∧w'.os=w.os∧w'.output=w.output∧K x w'.heap):Jm P f args k h K:=by
 intro w hw;obtain ⟨c, hcb⟩ := Option.isSome_iff_exists.1 hb;have hn' : fn.name ≠ "runtime.NumGoroutine" := by simpa using hn
 have he:(callFunc f args.toArray).run P w = .ok (.enter f args.toArray) w:=by simp[callFunc,hf,hn',hcb,mark]
 rw[he];refine(callsIn_wide.2 (hc w hw)).mono ?_;rintro e w' ⟨x,rfl,h1,h2,h3⟩;exact⟨_,rfl,x,rfl,h1,h2,h3⟩
def Yb{h:Ja}{b T:Nat}{k:Kd}{x x':k.Ty}{K:Hp} (e:h[b]? = some (Jg T k x)) (hK:K (h.setIfInBounds b (Jg T k x'))):st k (Pl.mk b 0) x' h K:=by
 have:=Qm (n:=0) (x:=x) (x':=x') (K:=K) (k':=k) (y:=x') e (by simp) (by simp[Il,Kd.cells_length]) hK;exact this
def Je{h:Ja}{b T:Nat}{k:Kd}{x:k.Ty}{f:Nat×Nat} (e:h[b]? = some (.cells (k.cells x).toArray T f)):sm k (Pl.mk b 0) x h:=P7 (o:=0) e (by rw[List.drop_zero,List.take_of_length_le (by rw[Kd.cells_length];exact Nat.le_refl _)]) (by rw[Kd.cells_length];omega)
def TB{α : Type}{l:List α}{j:Nat}{d : α} (h:j<l.length):l.getD j d=l[j]:=by simp[h]
def IY(x:Int){k:Nat} (hk:k≤62):UO x ((2^k-1:Nat):Int)=x%(2^k:Nat):=by
 unfold UO;have hp:(2:Nat)^k≤2^62:=Nat.pow_le_pow_right (by decide) hk;have hp1:0<(2:Nat)^k:=Nat.pow_pos (by decide)
 have e:(BitVec.ofInt 64 x&&&BitVec.ofInt 64 ((2^k-1:Nat):Int)).toNat=(x%(2^k:Nat)).toNat:=by
  rw[BitVec.toNat_and,BitVec.toNat_ofInt,BitVec.toNat_ofInt]
  have h1:(((2^k-1:Nat):Int)%((2^64:Nat):Int)).toNat=2^k-1:=by
   have:(2:Nat)^k-1<2^64:=by omega
   rw[Int.emod_eq_of_lt (by omega) (by omega)];omega
  rw[h1,Nat.and_two_pow_sub_one_eq_mod]
  have hd:((2^k:Nat):Int) ∣ ((2^64:Nat):Int):=by
   refine Int.natCast_dvd_natCast.2 (Nat.pow_dvd_pow 2 (by omega))
  have h2:x%((2^k:Nat):Int)=(x%((2^64:Nat):Int))%((2^k:Nat):Int):=(Int.emod_emod_of_dvd x hd).symm;rw[h2];have h3:0≤x%((2^64:Nat):Int):=Int.emod_nonneg _ (by decide);obtain⟨m,hm⟩:∃m:Nat,x%((2^64:Nat):Int)=m:=⟨_,(Int.toNat_of_nonneg h3).symm⟩;rw[hm];simp only[Int.toNat_natCast];rw[←Int.natCast_emod,Int.toNat_natCast]
 rw[e,IntKind.wrap_i64];have h4:0≤x%((2^k:Nat):Int):=Int.emod_nonneg _ (by omega);have h5:x%((2^k:Nat):Int)<((2^k:Nat):Int):=Int.emod_lt_of_pos _ (by omega)
 have h6:((2^k:Nat):Int)≤4611686018427387904:=by
  have:((2^62:Nat):Int)=4611686018427387904:=by decide
  omega
 omega
def ZQ(x:Nat) (s:Nat) (hs:s≤64):Wy (x:Int) (s:Int)=((x/2^s:Nat):Int):=by
 unfold Wy;have:min (s:Int).toNat 64=s:=by simp;omega
 rw[this,Int.fdiv_eq_ediv_of_nonneg _ (by have:(0:Int)<2^s:=Int.pow_pos (by decide);omega)];simp
def Zm(x:Nat):Gm (x:Int)=UInt8.ofNat x:=by
 unfold Gm;rw[IntKind.wrap_u8];have:((x:Int)%256).toNat=x%256:=by omega
 first | rw[this] | skip
 apply UInt8.toNat_inj.1;simp
def be(x n:Nat):List UInt8:=(List.range n).map fun i=>UInt8.ofNat (x/256^(n-1-i))
def Jj{x n:Nat}:(be x n).length=n:=by simp[be]
def We{h:Ja}{s:Jn}{xs:List UInt8}{K:Ba→Option (Hp)→Prop} (g:Q5 .u8 s xs h) (hK:∀q,K ⟨xs.toArray⟩ q):Gr s h K:=by
 unfold Gr
 cases ha:s.a with
 | none =>
   have:xs=[]:=by
    cases xs with
    | nil=>rfl
    | cons x r=>obtain⟨l,hl,_⟩:=g.el 0 x (by simp);rw[ha]at hl;simp at hl
   subst this;exact⟨g.len,hK _⟩
 | some l =>
   refine⟨xs,g.len.symm,?_,hK _⟩;have:=P6 (s:=s) (g.blk l ha) (fun i x hi=>by obtain⟨l',hl',e⟩:=g.el i x hi;rw[ha]at hl';cases hl';exact e);simpa[gy,Kd.size] using this
def XO{s s':Jn}{n:Nat} (h:s'.a=s.a∨s'.a=some ⟨n,0⟩):∀b∈own s',b∈own s∨b=n:=by
 intro b hb;unfold own at hb ⊢;rcases h with h | h
 ·rw[h]at hb;exact .inl hb
 ·rw[h]at hb;exact .inr (by simpa using hb)
def vt{h:Ja}{l:Pl}{m n k:Nat}{cs:List Value} (e:Qz h l m=some cs) (hn:n+k≤m):Qz h (l.fld n) k=some ((cs.drop n).take k):=by
 unfold Qz at *;split at e
 ·rename_i c T f hc
  simp only[Pl.fld,hc];split at e
  ·rename_i hle
   simp only[Option.some.injEq]at e;rw[if_pos (by omega),←e,List.drop_take,List.take_take,List.drop_drop]
   congr 2
   omega
  ·simp at e
 ·simp at e
def JV{h:Ja}{l:Pl}{k k':Kd}{x:k.Ty}{y:k'.Ty}{n:Nat} (e:sm k l x h) (hn:n+k'.size≤k.size) (hy:((k.cells x).drop n).take k'.size=k'.cells y):sm k' (l.fld n) y h:=by
 unfold sm at *;rw[vt e hn,hy]
def Wx{k:Kd}{s:Jn}{xs:List k.Ty}{h:Ja} (g:Q5 k s xs h){i:Nat} (hi:i<xs.length):∃l,s.a=some l∧sm k ⟨l.b,l.o+i*k.size⟩ xs[i] h:=g.el i xs[i] (by simp[hi])
def CC{A C B ys:List Value}{n:Nat} (hn:n+ys.length≤C.length):Il (A++C++B) (A.length+n) ys=A++Il C n ys++B:=by
 unfold Il
 have t1:List.take (A.length+n) (A++C++B)=A++C.take n:=by
  rw[List.append_assoc,List.take_append,List.take_of_length_le (by omega),Nat.add_sub_cancel_left,List.take_append_of_le_length (by omega)]
 have t2:List.drop (A.length+n+ys.length) (A++C++B)=C.drop (n+ys.length)++B:=by
  rw[List.append_assoc,List.drop_append,List.drop_eq_nil_of_le (by omega),List.nil_append];have:A.length+n+ys.length-A.length=n+ys.length:=by omega
  rw[this,List.drop_append_of_le_length hn]
 rw[t1,t2];simp only[List.append_assoc]
def C5{h:Ja}{T:Nat}{k k':Kd}{s:Jn}{xs:List k.Ty}{x x':k.Ty}{y:k'.Ty}{i n sz:Nat}{K:Hp} (r:JR h T k s xs) (hi:i<xs.length) (hx:xs[i]=x) (hs:sz=k.size) (hn:n+k'.size≤k.size) (hw:Il (k.cells x) n (k'.cells y)=k.cells x')
 (hK:∀h',Jc (own s) h h'→JR h' T k s (xs.set i x')→K h'):ix s (i:Int) sz fun l=>st k' (l.fld n) y h K:=by
 subst hs;rcases r with⟨rfl,rfl⟩ | ⟨b,zs,e,e1,e2,e3⟩
 ·simp at hi
 ·refine⟨⟨b,0⟩,e,by omega,by omega,?_⟩;have hl:(xs++zs).length=xs.length+zs.length:=by simp
  have hle:i*k.size+k.size≤(xs++zs).length*k.size:=by
   rw[←Nat.succ_mul,hl];exact Nat.mul_le_mul_right _ (by omega)
  have hcl:=Kd.cells_length k' y;refine⟨((xs++zs).flatMap k.cells).toArray,T,0,0,e3,?_,.inl (Nat.zero_le _),?_⟩
  ·rw[List.size_toArray,ZI,hcl];simp only[Pl.fld,Int.toNat_natCast];omega
  ·have hA:((xs++zs).take i).flatMap k.cells=((xs++zs).flatMap k.cells).take (i*k.size):=(G7 _ _).symm
   have hAl:(((xs++zs).take i).flatMap k.cells).length=i*k.size:=by
    rw[ZI,List.length_take,hl,Nat.min_eq_left (by omega)]
   have hsplit:(xs++zs).flatMap k.cells=((xs++zs).take i).flatMap k.cells++k.cells x++((xs++zs).drop (i+1)).flatMap k.cells:=by
    have e0:(xs++zs)=(xs++zs).take i++x::(xs++zs).drop (i+1):=by
     have hd:(xs++zs).drop i=(xs++zs)[i]'(by omega)::(xs++zs).drop (i+1):=List.drop_eq_getElem_cons (by omega);have hg:(xs++zs)[i]'(by omega)=x:=by rw[List.getElem_append_left hi];exact hx
     rw[←hg,←hd,List.take_append_drop]
    conv=>lhs;rw[e0]
    rw[List.flatMap_append,List.flatMap_cons,List.append_assoc]
   have hset:((xs++zs).set i x').flatMap k.cells=((xs++zs).take i).flatMap k.cells++k.cells x'++((xs++zs).drop (i+1)).flatMap k.cells:=by
    rw[List.set_eq_take_append_cons_drop,if_pos (by omega),List.flatMap_append,List.flatMap_cons,List.append_assoc]
   have hwr:Xz ((xs++zs).flatMap k.cells).toArray (i*k.size+n) (k'.cells y)=(((xs++zs).set i x').flatMap k.cells).toArray:=by
    rw[WS,hset,←hw]
    congr 1
    have hm:=CC (A:=((xs++zs).take i).flatMap k.cells) (C:=k.cells x) (B:=((xs++zs).drop (i+1)).flatMap k.cells) (ys:=k'.cells y) (n:=n) (by rw[hcl,Kd.cells_length];exact hn);rw[hAl]at hm;rw[hsplit];exact hm
   have:=hK (h.setIfInBounds b (QW T k ((xs++zs).set i x'))) (by simp only[own,e];exact Jo) (.inr ⟨b,zs,e,by simpa using e1,by simpa using e2,by rw[Jw e3,List.set_append_left _ _ hi]⟩);simp only[Pl.fld,Int.toNat_natCast,Nat.zero_add];rw[hwr];exact this
set_option maxRecDepth 10000
def wG(x y:Ba):x++y=⟨(x.data.toList++y.data.toList).toArray⟩:=by
 apply ByteArray.ext;rw[ByteArray.data_append];simp
def Zl{x y:Ba}{K:Ba→Prop} (h:x.size+y.size≤9223372036854775807) (hK:K ⟨(x.data.toList++y.data.toList).toArray⟩):JS x y K:=by
 refine⟨by omega,?_⟩;rw[wG];exact hK
def Ui(l:List UInt8):(⟨l.toArray⟩:Ba).size=l.length:=by simp[ByteArray.size]
def Sw{T:Nat}{k:Kd}{xs:List k.Ty}{h:Ja}{K:Jn→Hp} (hK:K ⟨some ⟨h.size,0⟩,xs.length,xs.length⟩ (h.push (QW T k xs))):bs T k xs h K:=hK
def xR{s:Jn}{b o lo hi mx:Nat}{sz:Nat}{K:Jn→Prop} (ha:s.a=some ⟨b,o⟩) (h1:lo≤hi) (h2:hi≤mx) (h3:mx≤s.cap) (hK:∀l:Pl,l.b=b→(lo<mx→l=⟨b,o+lo*sz⟩)→(lo=0→l=⟨b,o⟩)→K ⟨some l,hi-lo,mx-lo⟩):R9 s (lo:Int) (hi:Int) (mx:Int) sz K:=by
 refine⟨by omega,by omega,by omega,by omega,?_⟩;simp only[Int.toNat_natCast];by_cases h:mx=lo
 ·rw[if_pos h,ha];exact hK ⟨b,o⟩ rfl (fun e=>by omega) (fun _=>rfl)
 ·rw[if_neg h,ha];exact hK ⟨b,o+lo*sz⟩ rfl (fun _=>rfl) (fun e=>by subst e;simp)
def Cv{s:Jn}{b o lo hi mx:Nat}{sz:Nat}{K:Jn→Prop} (ha:s.a=some ⟨b,o⟩) (h1:lo≤hi) (h2:hi≤mx) (h3:mx≤s.cap) (hK:∀l:Pl,l.b=b→(lo<mx→l=⟨b,o+lo*sz⟩)→(mx≤lo→l=⟨b,o⟩)→K ⟨some l,hi-lo,mx-lo⟩):R9 s (lo:Int) (hi:Int) (mx:Int) sz K:=by
 refine⟨by omega,by omega,by omega,by omega,?_⟩;simp only[Int.toNat_natCast];by_cases h:mx=lo
 ·rw[if_pos h,ha];exact hK ⟨b,o⟩ rfl (fun e=>by omega) (fun _=>rfl)
 ·rw[if_neg h,ha];exact hK ⟨b,o+lo*sz⟩ rfl (fun _=>rfl) (fun e=>by omega)
def Qr{P:Program}{f:Nat}{first cap:Array Value}{args aa:List Value}{k:Kd}{h:Ja}{K:k.Ty→Hp} (e:first.toList++args++cap.toList=aa) (hc:Jm P f aa k h K):QH P (.func (.func f) first cap) args k h K:=by
 subst e;exact hc
def zK{T n:Nat}{k:Kd}{z:Vector k.Ty n}:Jg T (.ar n k) z=QW T k z.toList:=rfl
def Vl{h:Ja}{b T n i:Nat}{k:Kd}{z:Vector k.Ty n} (e:h[b]? = some (Jg T (.ar n k) z)) (hi:i<n):sm k ⟨b,0+i*k.size⟩ z[i] h:=by
 have r:JR h T k ⟨some ⟨b,0⟩,n,n⟩ z.toList:=JR.of_new (zs:=[]) (b:=b) (by rw[List.append_nil];exact e) rfl (by simp) (by simp);obtain⟨l,hl,hx⟩:=Wx r.seg (i:=i) (by simpa using hi)
 cases hl
 simpa using hx
def Pa{h:Ja}{b T n i:Nat}{k:Kd}{z:Vector k.Ty n}{y:k.Ty}{K:Hp} (e:h[b]? = some (Jg T (.ar n k) z)) (hi:i<n) (hK:K (h.setIfInBounds b (Jg T (.ar n k) (z.setIfInBounds i y)))):st k ⟨b,0+i*k.size⟩ y h K:=by
 have:=T7 (k:=k) (ys:=[y]) (o:=0+i*k.size) (i:=i) (K:=K) (show h[b]? = some (QW T k z.toList) from e) (by omega) (by simp;omega);unfold st;have e1:[y].flatMap k.cells=k.cells y:=by simp
 rw[e1]at this;refine this ?_
 have e2:QW T k (z.toList.take i++[y]++z.toList.drop (i+[y].length))=Jg T (.ar n k) (z.setIfInBounds i y):=by
  rw[zK,Vector.toList_setIfInBounds,List.set_eq_take_append_cons_drop,if_pos (by simpa using hi)];simp
 rw[e2];exact hK
def G9{s:Ba}{i:Nat}{K:UInt8→Prop} (h:i<s.data.toList.length) (hK:K s.data.toList[i]):RN s (i:Int) K:=by
 refine⟨by omega,?_,?_⟩
 ·have:s.size=s.data.toList.length:=rfl;omega
 ·have:gw s (i:Int)=s.data.toList[i]:=by simp only[gw,Int.toNat_natCast];exact TB h
  rw[this];exact hK
def Vi{T by_ sz:Nat}{k:Kd}{s:Jn}{xs:List k.Ty}{x:k.Ty}{h:Ja}{K:Jn→Hp} (r:JR h T k s xs) (hs:sz=k.size) (hl:(xs.length+1)*by_≤140737488355328)
 (hK:∀s' h',Jc (own s) h h'→JR h' T k s' (xs++[x])→(∀q∈own s',q∈own s∨h.size≤q)→K s' h') :
 bs T k [x] h fun s1 h1=>JB s1 (s1.len*sz) h1 fun cs=>ap T k by_ s s1.len cs h1 K:=by
 refine Sw ?_;subst hs;have r8:=r.keep (Ju (o:=QW T k [x])) (by simp);refine Vy (xs:=[x]) JA rfl (i:=0) (j:=1) (by simp) rfl (by simp) ?_;refine X8 (ys:=[x]) r8 rfl rfl hl fun s9 h9 r9 k9 o9 =>?_;refine hK s9 h9 ((Ju (o:=QW T k [x])).then k9 (by simp) (fun x hx _=>hx)) r9 fun q hq =>?_;rcases XO o9 q hq with h' | h'
 ·exact .inl h'
 ·right;simp at h';omega
def T1{h:Ja}{T b c lo hi:Nat}{k:Kd}{s:Jn}{xs:List k.Ty} (r:JR h T k s xs) (ha:s.a=some ⟨b,0⟩) (hl:lo≤hi) (hh:hi≤xs.length):Q5 k ⟨some ⟨b,0+lo*k.size⟩,hi-lo,c⟩ ((xs.take hi).drop lo) h:=by
 have g:=r.seg;refine⟨by simp;omega,fun i x hx=>⟨_,rfl,?_⟩,fun l hl' =>?_⟩
 ·have hi':lo+i<hi:=by
   have:i<((xs.take hi).drop lo).length:=by
    by_cases h:i<((xs.take hi).drop lo).length
    ·exact h
    ·rw[List.getElem?_eq_none (by omega)]at hx;simp at hx
   simp at this;omega
  obtain⟨l,h1,h2⟩:=g.el (lo+i) x (by rw[List.getElem?_drop,List.getElem?_take_of_lt hi']at hx;exact hx);rw[ha]at h1
  cases h1
  have e:(0+lo*k.size+i*k.size)=0+(lo+i)*k.size:=by rw[Nat.add_mul];omega
  show sm k ⟨b,0+lo*k.size+i*k.size⟩ x h;rw[e];exact h2
 ·cases hl'
  rcases r with⟨e1,e2⟩ | ⟨b',zs,e0,e1,e2,e3⟩
  ·rw[e1]at ha;simp at ha
  ·rw[ha]at e0
   cases e0
   refine⟨_,_,_,e3,?_⟩;show 0+lo*k.size≤_;rw[List.size_toArray,ZI,List.length_append,Nat.zero_add];exact Nat.mul_le_mul_right _ (by omega)
def Ji{T:Nat}{k:Kd}{x:k.Ty}{h:Ja}{K:Nat→Hp} (hK:∀b h',b=h.size→Jc [] h h'→h'[b]? = some (Jg T k x)→h'.size=h.size+1→K b h'):new T k x h K:=hK _ _ rfl Ju JA (by simp)
def Jq{T:Nat}{k:Kd}{x y:k.Ty}{h:Ja}{K:Nat→Hp} (hK:∀b h',b=h.size→Jc [] h h'→h'[b]? = some (Jg T k y)→h'.size=h.size+1→K b h'):new T k x h fun b h1=>st k (Pl.mk b 0) y h1 fun h2=>K b h2:=
 Yb JA (hK _ _ rfl (Ju.new Jo (by simp)) (Jw JA) (by simp))
def QN{T:Nat}{k:Kd}{xs:List k.Ty}{h:Ja}{K:Jn→Hp} (hK:∀b h',b=h.size→Jc [] h h'→JR h' T k ⟨some ⟨b,0⟩,xs.length,xs.length⟩ xs→h'.size=h.size+1→K ⟨some ⟨b,0⟩,xs.length,xs.length⟩ h'):bs T k xs h K:=
 hK _ _ rfl Ju (JR.of_new (zs:=[]) (b:=h.size) (by rw[List.append_nil];exact JA) rfl rfl rfl) (by simp)
def Up{T by_:Nat}{k:Kd}{n:Nat}{h:Ja}{K:Jn→Hp} (hn:n≤281474976710656) (hb:n*by_≤281474976710656) (hK:∀b h',b=h.size→Jc [] h h'→JR h' T k ⟨some ⟨b,0⟩,n,n⟩ (List.replicate n k.zero)→h'.size=h.size+1→K ⟨some ⟨b,0⟩,n,n⟩ h'):mk T k by_ (n:Int) (n:Int) h K:=by
 refine⟨by omega,by omega,by omega,by rw[←Int.natCast_mul];omega,?_⟩;simp only[Int.toNat_natCast];have hl:n=(List.replicate n k.zero).length:=by rw[List.length_replicate]
 exact hK _ _ rfl Ju (JR.of_new (zs:=[]) (b:=h.size) (by rw[List.append_nil];exact JA) rfl hl hl) (by simp)
def Xb{h:Ja}{s:Jn}{xs:List UInt8}{K:Ba→Option (Hp)→Prop} (g:Q5 .u8 s xs h) (hK:∀q,(∀(S:List Nat) h',Jc S h h'→(∀b∈own s,b∉S)→∀X:Prop,X→zG q h' X)→K ⟨xs.toArray⟩ q):Gr s h K:=by
 unfold Gr
 cases ha:s.a with
 | none =>
   have:xs=[]:=by
    cases xs with
    | nil=>rfl
    | cons x r=>obtain⟨l,hl,_⟩:=g.el 0 x (by simp);rw[ha]at hl;simp at hl
   subst this;exact⟨g.len,hK _ fun S h' k hn X hX=>hX⟩
 | some l =>
   have hb:∀h',Q5 .u8 s xs h'→gy l xs h':=fun h' g'=>by
    have:=P6 (s:=s) (g'.blk l ha) (fun i x hi=>by obtain⟨l',hl',e⟩:=g'.el i x hi;rw[ha]at hl';cases hl';exact e);simpa[gy,Kd.size] using this
   exact⟨xs,g.len.symm,hb h g,hK _ fun S h' k hn X hX=>⟨hb h' (g.keep' k hn),hX⟩⟩
def Wt{h:Ja}{T b n:Nat}{k:Kd}{z:Vector k.Ty n} (e:h[b]? = some (Jg T (.ar n k) z)):Q5 k ⟨some ⟨b,0⟩,n,n⟩ z.toList h:=
 (JR.of_new (T:=T) (zs:=[]) (b:=b) (by rw[List.append_nil];exact e) rfl (by simp) (by simp):JR h T k ⟨some ⟨b,0⟩,n,n⟩ z.toList).seg
def Qd{k:Kd}{body:(k.Ty→Hp)→Prop}{next:k.Ty→Hp} (R:k.Ty→Hp) (hb:body R) (hn:∀y h,R y h→next y h):jn k body next:=⟨R,hb,hn⟩
def Jb{k:Kd}{l:Pl}{x:k.Ty}{h:Ja}{K:k.Ty→Prop} (hx:sm k l x h) (hK:K x):ld k l h K:=⟨x,hx,hK⟩
def Jp{l:Pl}{K:Pl→Prop} (hK:K l):Qa (some l) K:=⟨l,rfl,hK⟩
def Ep{h:Ja}{b T:Nat}{k:Kd}{x y:k.Ty}{K:k.Ty→Hp} (e:h[b]? = some (Jg T k x)) (hK:∀h',Jc [b] h h'→h'[b]? = some (Jg T k y)→h'.size=h.size→K y h'):st k (Pl.mk b 0) y h fun h2=>ld k (Pl.mk b 0) h2 fun z=>K z h2:=
 Yb (x':=y) e ⟨y,Je (Jw e),hK _ Jo (Jw e) (by simp)⟩
def JL{h:Ja}{b T:Nat}{k:Kd}{x y:k.Ty}{K:Hp} (e:h[b]? = some (Jg T k x)) (hK:∀h',Jc [b] h h'→h'[b]? = some (Jg T k y)→h'.size=h.size→K h'):st k (Pl.mk b 0) y h K:=
 Yb (x':=y) e (hK _ Jo (Jw e) (by simp))
def Xx{k:Kd}{s:Jn}{xs:List k.Ty}{h:Ja}{i:Int}{sz:Nat}{K:Pl→Prop}{x:k.Ty} (g:Q5 k s xs h) (h0:0≤i) (hx:xs[i.toNat]? = some x) (hs:sz=k.size) (hK:∀l,sm k l x h→K l):ix s i sz K:=by
 have hi:i.toNat<xs.length:=by
  by_cases hh:i.toNat<xs.length
  ·exact hh
  ·rw[List.getElem?_eq_none (by omega)]at hx;simp at hx
 obtain⟨l,hl,e⟩:=g.el _ _ hx;have hlen:=g.len;exact⟨l,hl,h0,by omega,hK _ (by rw[hs];exact e)⟩
section
variable {G:Type}{TS TA:Nat}{kS kA:Kd}{zS:kS.Ty}{zA:kA.Ty}{D:Ja→(kS.Ty→kA.Ty→G→Hp)→Prop}{F:kS.Ty→kA.Ty→G→Hp}{Q:Ja→Prop→Prop}{J:Pl→Pl→G→Hp}{h0:Ja}
end
open Go.ChangeShapes Go.WideShapes Go.RowKit
def ZW:Kd→Bool
 | .i=>true | .u8=>true | .u32=>true | .u64=>true | .b=>true | .s=>true | .un=>true
 | .pr x y=>ZW x&&ZW y | .ag x=>ZW x | .ar _ x=>ZW x
 | _=>false
def zL:(k:Kd)→k.Ty→Prop
 | .i,n => -9223372036854775808≤n∧n≤9223372036854775807
 | .s,x=>x.size≤9223372036854775807
 | .pr x y,z=>zL x z.1∧zL y z.2
 | .ag x,z=>zL x z
 | .ar _ x,z=>∀y∈z.toList,zL x y
 | _,_=>True
section
variable {P:Program} {τ : Yv} (hτ : Zg P τ)
variable {H:Type}{enc:TypeId×Value→H}{w:World}{base:Nat}{sp:Nat→Bool}{held:Bool}
include hτ
def G0{t:Nat}{ti:TI} (h : τ.get t=some ti) (hd:(match ti.d with | .tup=>true | _=>false)=false):P.cellsOf t=ti.kd.size:=by
 obtain⟨desc,info,h1,h2,h3,h4,h5,h6⟩:=(hτ t ti h hd).ex;simp[Program.cellsOf,h2,h3]
omit hτ in
theorem gL{t:Nat}{k:Kd} (h : τ.kd t=some k):∃ti,τ.get t=some ti∧ti.kd=k∧(match ti.d with | .tup=>true | _=>false)=false:=by
 unfold Yv.kd at h;split at h
 ·simp at h
 ·rename_i ti hne hg
  simp at h;refine⟨_,hg,h,?_⟩
  cases hd:ti.d <;> simp
  exact hne ti.kd ti.bytes ti.plain (by rw[←hd])
 ·simp at h
def jN(P:Program) (τ : Yv) (enc:TypeId×Value→H) (w:World) (base:Nat) (sp:Nat→Bool) (held:Bool) (n:Nat):Prop:=
 ∀ (t : Nat) (ti : TI) (cs : List Value) (x : DataW H × List MemPlace), τ.get t = some ti → (match ti.d with | .tup => true | _ => false) = false → ZW ti.kd = true →
   DataW.trod enc P w base sp held n t cs=some x→∃z:ti.kd.Ty,cs=ti.kd.cells z∧zL ti.kd z
def Mx{n:Nat} (ih:jN P τ enc w base sp held n):∀(fields:List Field) (fs:List (Nat×Nat)) (off:Nat) (k:Kd),Qf τ fields fs off k=true→ZW k=true →
 ∀(cs:List Value),cs.length=off+k.size→(∀f∈fields,∃x,DataW.trod enc P w base sp held n f.type ((cs.drop f.offset).take (P.cellsOf f.type))=some x)→∃z:k.Ty,cs.drop off=k.cells z∧zL k z
 | fields, fs, off, k, hf, hk, cs, hl, hm => by
   unfold Qf at hf;split at hf
   ·exact⟨(),by simp[Kd.size]at hl;simp[Kd.cells];omega,trivial⟩
   ·rename_i f r o t r' k kr
    simp only[Bool.and_eq_true]at hf;obtain⟨⟨⟨⟨h1,h2⟩,h3⟩,h4⟩,h5⟩:=hf;have h1:=Nat.eq_of_beq_eq_true h1;have h2:=Nat.eq_of_beq_eq_true h2;have h3:=Nat.eq_of_beq_eq_true h3;simp only[ZW,Bool.and_eq_true]at hk;split at h4
    ·rename_i k' hk'
     simp only[Bool.and_eq_true,decide_eq_true_eq]at h4;obtain⟨rfl,h4⟩:=h4;obtain⟨ti,t1,rfl,t3⟩:=gL hk';obtain⟨x,hx⟩:=hm f (by simp);rw[h1,h2,h3,G0 hτ t1 t3]at hx;obtain⟨z,hz,hw⟩:=ih t ti _ _ t1 t3 hk.1 hx;simp only[Kd.size]at hl;obtain⟨z',hz',hw'⟩:=Mx ih r r' (off+ti.kd.size) kr h5 hk.2 cs (by omega) (fun f hf=>hm f (by simp[hf]));refine⟨(z,z'),?_,hw,hw'⟩;show _=ti.kd.cells z++kr.cells z';rw[←hz,←hz',←List.drop_drop,List.take_append_drop]
    ·simp at h4
   ·simp at hf
omit hτ in
theorem Py{k:Kd}{cs:List Value}:∀(m:Nat),(∀i,i<m→∃z:k.Ty,(cs.drop (i*k.size)).take k.size=k.cells z∧zL k z)→m*k.size≤cs.length →
 ∃zs:List k.Ty,zs.length=m∧zs.flatMap k.cells=cs.take (m*k.size)∧∀z∈zs,zL k z
 | 0,_,_=>⟨[],rfl,by simp,by simp⟩
 | m + 1, h, hl => by
   obtain⟨zs,h1,h2,h3⟩:=Py m (fun i hi=>h i (by omega)) (by rw[Nat.succ_mul]at hl;omega);obtain⟨z,hz,hw⟩:=h m (by omega);refine⟨zs++[z],by simp[h1],?_,?_⟩
   ·rw[List.flatMap_append,h2];simp only[List.flatMap_cons,List.flatMap_nil,List.append_nil];rw[←hz,Nat.succ_mul,List.take_add]
   ·intro y hy;rcases List.mem_append.1 hy with hy | hy
    ·exact h3 y hy
    ·simp at hy;rw[hy];exact hw
omit hτ in
theorem Jah{a:Int} (hw:(Lit.int .u8 a).wf=true):∃z:UInt8,a=z.toNat:=by
 simp only[Lit.wf,Bool.and_eq_true,decide_eq_true_eq]at hw;have e1:IntKind.u8.min=0:=by decide
 have e2:IntKind.u8.max=255:=by decide
 refine⟨UInt8.ofNat a.toNat,?_⟩;rw[UInt8.toNat_ofNat'];omega
omit hτ in
theorem vE{a:Int} (hw:(Lit.int .u32 a).wf=true):∃z:UInt32,a=z.toNat:=by
 simp only[Lit.wf,Bool.and_eq_true,decide_eq_true_eq]at hw;have e1:IntKind.u32.min=0:=by decide
 have e2:IntKind.u32.max=4294967295:=by decide
 refine⟨UInt32.ofNat a.toNat,?_⟩;rw[UInt32.toNat_ofNat'];omega
omit hτ in
theorem vG{a:Int} (hw:(Lit.int .u64 a).wf=true):∃z:UInt64,a=z.toNat:=by
 simp only[Lit.wf,Bool.and_eq_true,decide_eq_true_eq]at hw;have e1:IntKind.u64.min=0:=by decide
 have e2:IntKind.u64.max=18446744073709551615:=by decide
 refine⟨UInt64.ofNat a.toNat,?_⟩;rw[UInt64.toNat_ofNat'];omega
omit hτ in
theorem wS{a:Int} (hw:(Lit.int .i64 a).wf=true) : -9223372036854775808≤a∧a≤9223372036854775807:=by
 simp only[Lit.wf,Bool.and_eq_true,decide_eq_true_eq]at hw;have e1:IntKind.i64.min = -9223372036854775808:=by decide
 have e2:IntKind.i64.max=9223372036854775807:=by decide
 omega
def Co:∀n,jN P τ enc w base sp held n
 | 0=>fun t ti cs x _ _ _ h=>by simp[DataW.trod]at h
 | n + 1 => fun t ti cs x ht hd hk h => by
   have ih:=Co n;obtain⟨desc,info,h1,h2,h3,h4,h5,h6⟩:=(hτ t ti ht hd).ex;have hc:=G0 hτ ht hd;obtain⟨d,k,by_,pl⟩:=ti;simp only at hc hk hd h6 ⊢
   cases d with
   | k =>
     rcases XL h6 with⟨rfl,rfl⟩ | ⟨rfl,rfl⟩ | ⟨rfl,rfl⟩ | ⟨rfl,rfl⟩ | ⟨rfl,rfl⟩
     ·obtain⟨a,rfl,_,hw⟩:=DataW.trod_int h1 h;exact⟨a,rfl,wS hw⟩
     ·obtain⟨a,rfl,_,hw⟩:=DataW.trod_int h1 h;obtain⟨z,rfl⟩:=Jah hw;exact⟨z,rfl,trivial⟩
     ·obtain⟨a,rfl,_,hw⟩:=DataW.trod_int h1 h;obtain⟨z,rfl⟩:=vE hw;exact⟨z,rfl,trivial⟩
     ·obtain⟨a,rfl,_,hw⟩:=DataW.trod_int h1 h;obtain⟨z,rfl⟩:=vG hw;exact⟨z,rfl,trivial⟩
     ·obtain⟨a,rfl,_⟩:=DataW.trod_bool h1 h;exact⟨(a:Bool),rfl,trivial⟩
   | str =>
     obtain⟨rfl,rfl⟩:=Xr h6;obtain⟨a,rfl,_,hl⟩:=DataW.trod_string h1 h;exact⟨a,rfl,hl⟩
   | struct fs =>
     obtain⟨fields,k',rfl,rfl,hf⟩:=XI h6;obtain⟨xs,m,e,_,hl,hxl,hx⟩:=DataW.trod_struct h1 h;obtain rfl:n=m:=by omega
     obtain⟨z,hz,hw⟩:=Mx hτ ih fields.toList fs 0 k' hf hk cs (by rw[hl,hc];simp[Kd.size]) (fun f hf=>by
      obtain⟨i,hi,e⟩:=List.getElem_of_mem hf;have hi':i<fields.size:=by simpa using hi
      have hg:fields[i]? = some f:=by rw[Array.getElem?_eq_getElem hi'];simpa using e
      have:=hx i f hg;rw[List.getElem?_eq_getElem (by omega)]at this;exact⟨_,this⟩)
     exact⟨z,by simpa[Kd.cells] using hz,hw⟩
   | array m e =>
     obtain⟨rfl,te,t1,rfl,t3⟩:=Xc h6;obtain⟨xs,m',e',_,hl,hxl,hx⟩:=DataW.trod_array h1 h;obtain rfl:n=m':=by omega
     rw[hc]at hl
     obtain⟨zs,z1,z2,z3⟩:=Py (k:=te.kd) (cs:=cs) m (fun i hi=>by
      have hg:=hx i hi;rw[List.getElem?_eq_getElem (by omega),G0 hτ t1 t3]at hg;exact ih e te _ _ t1 t3 hk hg) (by rw[hl];exact Nat.le_refl _)
     refine⟨⟨zs.toArray,by simpa using z1⟩,?_,?_⟩
     ·show cs=(zs.toArray.toList.flatMap te.kd.cells);simp only[z2];rw[List.take_of_length_le (by rw[hl];exact Nat.le_refl _)]
     ·intro y hy;exact z3 y (by simpa using hy)
   | ptr=>obtain⟨e,rfl,rfl⟩:=G3 h6;simp[ZW]at hk
   | fn=>obtain⟨a,b,c,rfl,rfl⟩:=I3 h6;simp[ZW]at hk
   | ifc=>unfold Xq at h6;split at h6 <;> simp_all [ZW]
   | tup=>simp at hd
   | slice e=>obtain⟨rfl,rfl⟩:=Xv h6;simp[ZW]at hk
   | map a b=>obtain⟨rfl,rfl⟩:=Zp h6;simp[ZW]at hk
def Pb{r:Reach}{b0:Nat}{t:Nat}{ti:TI}{v:Value}{d:DataW H}{ps:List MemPlace} (ht : τ.get t=some ti) (hd:(match ti.d with | .tup=>true | _=>false)=false) (hk:ZW ti.kd=true)
 (hv:Value.okWide P w r b0 t v) (h:DataW.Trod enc P w base sp held t v d ps):∃z:ti.kd.Ty,v=ti.kd.val z∧zL ti.kd z:=by
 obtain⟨n,hn⟩:=h;obtain⟨z,hz,hw⟩:=Co hτ n t ti _ _ ht hd hk hn;refine⟨z,?_,hw⟩;obtain⟨desc,info,h1,h2,h3,h4,h5,h6⟩:=(hτ t ti ht hd).ex;obtain⟨d,k,by_,pl⟩:=ti;simp only at hz hk h6 ⊢
 have agg:∀cs:Array Value,v = .agg cs→cs=(k.cells z).toArray:=by
  rintro cs rfl;simp only[Value.cells]at hz;rw[←hz]
 have sc:∀c:Value,k.cells z=[c]→k.val z=c→(∀cs,v ≠ .agg cs)→v=k.val z:=by
  intro c e1 e2 hna;rw[e1]at hz;rw[e2]
  cases v <;> simp_all [Value.cells]
 cases d with
 | k =>
   rcases XL h6 with⟨rfl,rfl⟩ | ⟨rfl,rfl⟩ | ⟨rfl,rfl⟩ | ⟨rfl,rfl⟩ | ⟨rfl,rfl⟩ <;>
    exact sc _ rfl rfl (by rintro cs rfl;simp[Value.okWide,h1,Cell.okWide,Cell.ok]at hv)
 | str =>
   obtain⟨rfl,rfl⟩:=Xr h6;exact sc _ rfl rfl (by rintro cs rfl;simp[Value.okWide,h1,Cell.okWide,Cell.ok]at hv)
 | struct fs =>
   obtain⟨fields,k',rfl,rfl,hf⟩:=XI h6;simp only[Value.okWide,h1]at hv;obtain⟨cs,rfl,_⟩:=hv;rw[agg cs rfl]
   rfl
 | array m e =>
   obtain⟨rfl,te,t1,rfl,t3⟩:=Xc h6;simp only[Value.okWide,h1]at hv;obtain⟨cs,rfl,_⟩:=hv;rw[agg cs rfl]
   rfl
 | ptr=>obtain⟨e,rfl,rfl⟩:=G3 h6;simp[ZW]at hk
 | fn=>obtain⟨a,b,c,rfl,rfl⟩:=I3 h6;simp[ZW]at hk
 | ifc=>unfold Xq at h6;split at h6 <;> simp_all [ZW]
 | tup=>simp at hd
 | slice e=>obtain⟨rfl,rfl⟩:=Xv h6;simp[ZW]at hk
 | map a b=>obtain⟨rfl,rfl⟩:=Zp h6;simp[ZW]at hk
end
section
variable {P:Program}{H:Type}{enc:TypeId×Value→H}
def TJ{w w':World} (h1:w'.os=w.os) (h2:w'.output=w.output) (hk:Jc [] w.heap w'.heap) (may:MemPlace→Prop):w.keptBut w' may:=by
 refine⟨h1,h2,fun i hi =>?_⟩;rw[hk.2 i hi (by simp)]
 cases h:w.heap[i]? with
 | none=>trivial
 | some o=>cases o <;> simp
def IP(hl:laidOutB P=true){W W':World} (hk:Jc [] W.heap W'.heap){sp:Nat→Bool}:∀ {ts:List TypeId}{vs:List Value}{ds:List (DataW H)}{ps:List MemPlace},
 DataW.TrodAll enc P W 0 (fun _=>true) true ts vs ds ps→(∀t∈ts,P.readableRec t=true∧t<P.types.size)→(∀p∈ps,p.block<W.heap.size)→(∀p∈ps,sp p.block=true)→DataW.TrodAll enc P W' 0 sp true ts vs ds ps
 | [],[],[],ps,h,_,_,_=>h
 | t :: ts, v :: vs, d :: ds, ps, ⟨p, q, h1, h2, e⟩, hr, hlt, hsp => by
   subst e;refine⟨p,q,WideElems.Trod_stays hl (hr t (by simp)).1 (hr t (by simp)).2 h1 (fun x hx =>?_) (fun x hx=>hsp x (by simp[hx])),IP hl hk h2 (fun t ht=>hr t (by simp[ht])) (fun x hx=>hlt x (by simp[hx])) (fun x hx=>hsp x (by simp[hx])),rfl⟩;have hb:=hlt x (by simp[hx])
   cases x with
   | cell b o=>simp only[MemPlace.block]at hb;simp[World.sameAt,World.cell?,hk.2 b hb (by simp)]
   | map b=>simp only[MemPlace.block]at hb;simp[World.sameAt,hk.2 b hb (by simp)]
def qF{F:Nat}{fn:Func}{s:ChangeSpec}{apart fresh handsOn again:Bool}{W:World}{args:Array Value}{ds gs:List (DataW H)}{before:List MemPlace}{tb:Nat} (hl:laidOutB P=true)
 (hprm:∀t∈fn.params.toList,P.readableRec t=true∧t<P.types.size) (hres:fn.resultTypes = #[tb]) (hb:P.underlying tb=some .bool) (hvars:s.vars=[])
 (hfn : P.funcs[F]? = some fn) (hn : (fn.name == "runtime.NumGoroutine") = false) (hbd : fn.body.isSome = true) (hspec : s.fn H (ds ++ gs) = { results := [.lit (.bool true)], args := ds })
 (hW:DataW.Whole enc P fn.params.toList s.vars apart W args.toList ds gs before)
 (hc:Jm P F args.toList .b W.heap fun b h'=>b=true∧Jc [] W.heap h') :
 Calls P F args W fun e W'=>∃v,e = .returned v∧s.post enc P fn apart fresh handsOn again W args v W':=by
 have h := hc W rfl;obtain ⟨c, hcb⟩ := Option.isSome_iff_exists.1 hbd;have hn' : fn.name ≠ "runtime.NumGoroutine" := by simpa using hn
 have he:(callFunc F args.toList.toArray).run P W = .ok (.enter F args) W:=by simp[callFunc,hfn,hn',hcb,mark]
 rw[he]at h;refine(callsIn_wide.1 h).mono ?_;rintro e W' ⟨v,rfl,b,rfl,h1,h2,rfl,hk⟩;refine⟨_,rfl,?_⟩;obtain⟨p,q,hA,hV,rfl,hfz,hnd⟩:=id hW;rw[hvars]at hV;obtain⟨rfl,rfl⟩:=trodVars_none hV;have hlt:∀x∈p++([]:List MemPlace),x.block<W.heap.size:=fun x hx=>hW.lt x hx
 have hargs:∀sp:Nat→Bool,(∀y∈p++([]:List MemPlace),sp y.block=true)→DataW.TrodAll enc P W' 0 sp true fn.params.toList args.toList (s.fn H (ds++[])).args p:=by
  intro sp hsp;rw[hspec];exact IP hl hk hA hprm (fun x hx=>hlt x (by simp[hx])) (fun x hx=>hsp x (by simp[hx]))
 have hrs:∀(b:Nat) (sp:Nat→Bool) (hd:Bool),DataW.TrodAll enc P W' b sp hd fn.resultTypes.toList ((Kd.b.val true).resultList fn.resultTypes.size) (s.fn H (ds++[])).results []:=by
  intro b sp hd;rw[hspec,hres];exact trodAll_cons_mk (shut_bool hb _) trodAll_mk0
 have hold:∀y∈p++([]:List MemPlace),(fun b=>decide (b<W.heap.size)) y.block=true:=fun y hp=>by simpa using hlt y hp
 have hvr:∀sp:Nat→Bool,DataW.TrodVars enc P W' sp s.vars (s.fn H (ds++[])).vars []:=by
  intro sp;rw[hspec,hvars];rfl
 refine⟨ds,[],p++[],[],p,[],hW,hrs _ _ _,hargs _ hold,hvr _,TJ h1 h2 hk _,fun _ =>?_⟩;refine⟨ok_one hres rfl (okWide_bool_mk hb _),_,_,([]++p)++[],⟨[]++p,[],trodAll_append (hargs _ (fun _ _=>rfl)) (hrs _ _ _),hvr _,rfl,?_,?_⟩,?_⟩
 ·intro b off hp;have hb':=hlt _ (show MemPlace.cell b off∈p++[] by simpa using hp);have:=hfz b off (by simpa using hp);simp only[MemPlace.block]at hb';simpa[World.frozen?,hk.2 b hb' (by simp)] using this
 ·intro ha;simpa using hnd ha
 ·intro x hx _;simpa using hx
end
open Go.ChangeShapes Go.WideShapes Go.RowKit
section
variable {P:Program} {τ : Yv} (hτ : Zg P τ)
variable {H:Type}{enc:TypeId×Value→H}{w:World}{base:Nat}{sp:Nat→Bool}{held:Bool}
include hτ
end
open Go.ChangeShapes Go.WideShapes Go.RowKit
inductive RT where
 | fl (k:Kd) | s | sl (by_:Nat) (e:RT) | pr (x y:RT) | ag (x:RT) | un
@[reducible] def RT.kd:RT→Kd
 | .fl k=>k | .s => .s | .sl _ _ => .sl | .pr x y => .pr x.kd y.kd | .ag x => .ag x.kd | .un => .un
section
variable {P:Program} {τ : Yv} (hτ : Zg P τ)
variable {H:Type}{enc:TypeId×Value→H}{w:World}{base:Nat}{sp:Nat→Bool}{held:Bool}
include hτ
end
end Go.Al
