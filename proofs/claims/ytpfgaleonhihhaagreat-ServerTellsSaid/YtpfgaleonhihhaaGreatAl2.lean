import Derived.Test.YtpfgaleonhihhaaGreatAl1
import Derived.TacticsIn
import Derived.OrdersIn
import Derived.LoopNIn
import Derived.RangeFuncIn
import Derived.RangeFuncLeaves
import Derived.WalkKit
import Derived.ProofKit
import Derived.OpenShut
import Derived.Deep.Slices
import Derived.WideKeyArgs
import Derived.SizedLaws
/- The logic: its soundness, part 13: operations that turn the heap, together. -/
namespace Go.Al
set_option linter.unusedVariables false
set_option linter.unusedSimpArgs false
set_option linter.constructorNameAsVariable false
theorem u8_flat (L:List UInt8):L.flatMap Kd.u8.cells=L.map fun b=>Value.int .u8 b.toNat:=by
 induction L with
 | nil=>rfl
 | cons b L ih=>rw[List.flatMap_cons,ih];rfl
theorem u8_plain (L:List UInt8):∀c∈L.flatMap Kd.u8.cells,plainCell c:=by
 intro c hc;rw[u8_flat] at hc;simp at hc;obtain ⟨b,_,rfl⟩:=hc
 trivial
theorem run_markS {P:Program} (w:World) (cells:Array Value) (et:Nat):(markStringish ⟨w.heap.size,0,none⟩).run P { w with heap:=w.heap.push (.cells cells et) } = .ok () { w with heap:=w.heap.push (.cells cells et (cells.size,cells.size+1)) }:=by
 have:({ w with heap:=w.heap.push (.cells cells et) }:World).shape? w.heap.size=some (et,cells.size):=by simp[World.shape?]
 simp only [markStringish,Sem.run_bind,run_shape,this,Result.andThen_ok,run_freeze,World.freeze];simp only [Nat.succ_ne_zero,if_false]
 congr 2
 apply Array.ext
 ·simp
 ·intro i h1 h2;simp only [Array.getElem_modify,Array.getElem_push];by_cases hi:i<w.heap.size
  ·have:¬w.heap.size=i:=by omega
   simp[hi,this]
  ·have:w.heap.size=i:=by simp at h1;omega
   simp[this]
section
variable {P:Program} {τ : Tys} (hτ : TysOk P τ) (hpl:∀t ti,τ.get t=some ti→ti.plain=true→plainOk P τ t ti=true)
include hτ
theorem apR_sound {o:Oper} {T U:Nat} {x y:Operand} {a b:SV} {as ts:Array _} {e:Operand→Option SV} {h:Heap} {K:Option SV→Heap→Prop} (ho:o.op = .call { callee := .builtin .append,args:=as,argTypes:=ts })
 (ha:as.toList=[x,y]) (ht:ts.toList=[T,U]) (hx:e x=some a) (hy:e y=some b) (hr:apR τ T U a b h fun v h=>K (some v) h):TurnOk P o e h K:=by
 obtain rfl:as = #[x,y]:=Array.toList_inj.1 ha;obtain rfl:ts = #[T,U]:=Array.toList_inj.1 ht;intro ρ hρ w hw
 have ex:(execOp ρ o).run P w=((Builtin.append_ #[T,U] o.type #[ρ x,ρ y]).run P w).andThen fun v w' => .ok (.value v) w':=by
  simp[execOp,ho,resolve,invoke,builtin]
 have fin:∀ {s:Slc} {K':Slc→Heap→Prop},a=⟨.sl,s⟩→(∀z h,K' z h→K (some ⟨.sl,z⟩) h)→(∃z w',(Builtin.append_ #[T,U] o.type #[s.val,b.val]).run P w = .ok (Slc.val z) w'∧Same w w'∧K' z w'.heap)→Turned P w K ((execOp ρ o).run P w):=by
  rintro s K' rfl hK' ⟨z,w',h1,h2,h3⟩;have hxv : ρ x=s.val:=hρ x _ hx;refine turned_val (v:=⟨.sl,z⟩) (w':=w') ?_ h2 (hK' _ _ h3);rw[ex,hxv,hρ y _ hy,h1]
  rfl
 subst hw;unfold apR at hr;split at hr
 ·rename_i e0 k by_ pl et ti s hg hel hs
  obtain ⟨hT,t2,t4⟩:=elem_slice hτ hg hel;rw[asSl_some] at hs;split at hr
  ·rename_i e1 k1 by1 pl1 hbb hU
   obtain ⟨desc,info,g1,_,_,_,_,g6⟩:=tiEx hτ hU rfl;obtain ⟨rfl,rfl⟩:=descOk_slice g6;have hb:0<ti.bytes:=by simpa using hbb
   split at hr
   ·rename_i r hrr
    rw[asSl_some] at hrr;subst hrr;obtain ⟨cs,hK,_,hp,hcs⟩:=run_slCells hr;exact fin hs (fun _ _ h=>h) (run_ap hτ hT g1 (.inl ⟨_,rfl⟩) t2 t4 hb hp (fun w=>by simp[Builtin.lenOf]) (fun w' hw'=>hcs w' hw' _ _ rfl) hK)
   ·exact hr.elim
  ·rename_i k1 by1 pl1 hbb hU
   obtain ⟨desc,info,g1,_,_,_,_,g6⟩:=tiEx hτ hU rfl;obtain ⟨rfl,rfl⟩:=descOk_str g6;have hb:0<ti.bytes:=by simpa using hbb
   split at hr
   ·rename_i r hrr hk
    rw[asS_some] at hrr;subst hrr;have hr':ap et ti.kd ti.bytes s r.size (r.data.toList.flatMap Kd.u8.cells) w.heap fun z h=>K (some ⟨.sl,z⟩) h:=by rw[hk];exact hr
    refine fin hs (fun _ _ h=>h) (run_ap hτ hT g1 (.inr rfl) t2 t4 hb (u8_plain _) (fun w=>by simp[Builtin.lenOf]) (fun w' hw' =>?_) hr');have:=run_str (P:=P) (s:=r) (n:=r.size) (w:=w') (size:=ti.kd.size);rw[List.take_of_length_le (by simp)] at this;exact this
   ·exact hr.elim
  ·rename_i by1 pl1 hbb hU
   obtain ⟨desc,info,g1,_,_,_,_,g6⟩:=tiEx hτ hU rfl;have hb:0<ti.bytes:=by simpa using hbb
   rcases descOk_k g6 with ⟨rfl,_⟩ | ⟨rfl,hh⟩ | ⟨rfl,hh⟩ | ⟨rfl,hh⟩ | ⟨rfl,hh⟩ <;> try (simp at hh;done)
   split at hr
   ·rename_i n hn
    rw[asI_some] at hn;subst hn;exact fin hs (fun _ _ h=>h) (run_apz hτ hT g1 t2 t4 hb hr)
   ·exact hr.elim
  ·exact hr.elim
 ·exact hr.elim
theorem cpR_sound {o:Oper} {T:Nat} {x y:Operand} {rest:List Nat} {a b:SV} {as ts:Array _} {e:Operand→Option SV} {h:Heap} {K:Option SV→Heap→Prop} (ho:o.op = .call { callee := .builtin .copy,args:=as,argTypes:=ts })
 (ha:as.toList=[x,y]) (ht:ts.toList=T::rest) (hx:e x=some a) (hy:e y=some b) (hr:cpR τ T a b h fun v h=>K (some v) h):TurnOk P o e h K:=by
 obtain rfl:as = #[x,y]:=Array.toList_inj.1 ha;have ht0:ts[0]? = some T:=by rw[←Array.getElem?_toList,ht];rfl
 intro ρ hρ w hw
 have ex:(execOp ρ o).run P w=((Builtin.copy_ ts o.type #[ρ x,ρ y]).run P w).andThen fun v w' => .ok (.value v) w':=by
  simp[execOp,ho,resolve,invoke,builtin]
 subst hw;unfold cpR at hr;split at hr
 ·rename_i e0 k by_ pl et ti s hg hel hs
  obtain ⟨hT,t2,t4⟩:=elem_slice hτ hg hel;obtain ⟨_,i,_,i2,i3,i4,i5,_⟩:=(hτ _ ti t2 t4).ex;rw[asSl_some] at hs;subst hs;have hxv : ρ x = .slice s.at s.len s.cap:=hρ x _ hx
  have fin:∀(m:Nat) (cs:List Value),(∀c∈cs,plainCell c)→(∀w',(Builtin.lenOf (ρ y)).run P w' = .ok m w')→(Builtin.firstCells ti.kd.size (Nat.min m s.len) (ρ y)).run P w = .ok cs.toArray w →
   cp s (min m s.len) cs w.heap (fun z h=>K (some ⟨.i,z⟩) h)→Turned P w K ((execOp ρ o).run P w):=by
   intro m cs hp hl hc hcp;unfold cp at hcp;split at hcp
   ·rename_i l hl'
    obtain ⟨c,V,lo,hi,a1,a2,a3,a4⟩:=hcp;have hs:=run_storeCells (P:=P) (l:=l) cs 0 w c V lo hi a1 (by simpa using a2) (by simpa using a3) hp;simp at hs;refine turned_val (v:=⟨.i,((min m s.len:Nat):Int)⟩) (w':={ w with heap:=w.heap.setIfInBounds l.b (.cells (wrCells c l.o cs) V (lo,hi)) }) ?_ ⟨rfl,rfl⟩ a4;rw[ex,hxv];simp only [Builtin.copy_,ht0,List.getElem?_toArray,List.getElem?_cons_zero,List.getElem?_cons_succ,Sem.run_bind,Sem.run_pure,run_und hT,Result.andThen_ok,hl,run_szOf i2,i3,hc,Slc.at_some hl',Slc.at_mk,hs,goInt]
    rfl
   ·rename_i hl'
    obtain ⟨h0,hcp⟩:=hcp;subst h0;refine turned_val (v:=⟨.i,((min m s.len:Nat):Int)⟩) (w':=w) ?_ ⟨rfl,rfl⟩ hcp;rw[ex,hxv];simp only [Builtin.copy_,ht0,List.getElem?_toArray,List.getElem?_cons_zero,List.getElem?_cons_succ,Sem.run_bind,Sem.run_pure,run_und hT,Result.andThen_ok,hl,run_szOf i2,i3,hc,Slc.at_none hl',Slc.at_mk0,goInt]
    cases s.wd.v <;> rfl
  split at hr
  ·rename_i r hrr
   rw[asSl_some] at hrr;subst hrr;have hyv : ρ y = .slice r.at r.len r.cap:=hρ y _ hy;obtain ⟨cs,hK,_,hp,hcs⟩:=run_slCells hr;exact fin r.len cs hp (fun w'=>by simp[hyv,Builtin.lenOf]) (by rw[hyv];exact hcs w rfl _ _ rfl) hK
  ·split at hr
   ·rename_i r hrr hk
    rw[asS_some] at hrr;subst hrr;have hyv : ρ y = .string r:=hρ y _ hy;exact fin r.size _ (u8_plain _) (fun w'=>by simp[hyv,Builtin.lenOf]) (by rw[hyv];exact run_str) hr
   ·exact hr.elim
 ·exact hr.elim
theorem clrR_sound {o:Oper} {T:Nat} {x:Operand} {a:SV} {as ts:Array _} {e:Operand→Option SV} {h:Heap} {K:Option SV→Heap→Prop} (ho:o.op = .call { callee := .builtin .clear,args:=as,argTypes:=ts })
 (ha:as.toList=[x]) (ht:ts.toList=[T]) (hx:e x=some a) (hr:clrR τ T a h fun h=>K none h):TurnOk P o e h K:=by
 obtain rfl:as = #[x]:=Array.toList_inj.1 ha;obtain rfl:ts = #[T]:=Array.toList_inj.1 ht;intro ρ hρ w hw
 have ex:(execOp ρ o).run P w=((Builtin.clear_ #[T] o.type #[ρ x]).run P w).andThen fun v w' => .ok (.value v) w':=by
  simp[execOp,ho,resolve,invoke,builtin]
 subst hw;unfold clrR at hr;split at hr
 ·rename_i kt et k by_ pl m hg hm
  obtain ⟨desc,info,g1,_,_,_,_,g6⟩:=tiEx hτ hg rfl;obtain ⟨rfl,rfl⟩:=descOk_map g6;rw[asM_some] at hm;subst hm;have hxv : ρ x = .map m:=hρ x _ hx;unfold mclr at hr;split at hr
  ·refine turned_val' (v := .tuple #[]) (w':=w) ?_ ⟨rfl,rfl⟩ hr;rw[ex,hxv];simp[Builtin.clear_,run_und g1]
  ·rename_i r
   obtain ⟨es,clock,hs,hK⟩:=hr;refine turned_val' (v := .tuple #[]) (w':={ w with heap:=w.heap.setIfInBounds r (.map #[] clock) }) ?_ ⟨rfl,rfl⟩ hK;rw[ex,hxv];simp[Builtin.clear_,run_und g1,Go.MapKept.run_getObj_map hs,Go.MapKept.run_setObj_map _ hs]
 ·rename_i e0 k by_ pl _ s hg hs
  rw[asSl_some] at hs;subst hs;have hxv : ρ x = .slice s.at s.len s.cap:=hρ x _ hx;split at hr
  ·rename_i et ti hel
   obtain ⟨hT,t2,t4⟩:=elem_slice hτ hg hel;have hsh:=kd_shape hτ t2 t4;obtain ⟨_,i,_,i2,i3,i4,i5,_⟩:=(hτ _ ti t2 t4).ex
   have hzc:∀m:Nat,Builtin.zeroCells (ti.kd.cells ti.kd.zero).toArray m=(zeros ti.kd m).toArray:=by
    intro m;have:=zeros_blit ti.kd m;simpa[Builtin.zeroCells,Kd.cells_length] using this
   unfold clr at hr;split at hr
   ·rename_i l hl
    obtain ⟨c,V,lo,hi,a1,a2,a3,a4⟩:=hr
    have hp:∀c∈zeros ti.kd s.len,plainCell c:=by
     intro c hc;simp only [zeros,List.mem_flatMap] at hc;obtain ⟨_,_,hc⟩:=hc;exact plain_cells _ _ c hc
    have hs:=run_storeCells (P:=P) (l:=l) (zeros ti.kd s.len) 0 w c V lo hi a1 (by simpa using a2) (by simpa using a3) hp;simp at hs;refine turned_val' (v := .tuple #[]) (w':={ w with heap:=w.heap.setIfInBounds l.b (.cells (wrCells c l.o (zeros ti.kd s.len)) V (lo,hi)) }) ?_ ⟨rfl,rfl⟩ a4;rw[ex,hxv,Slc.at_some hl]
    cases hn:s.len with
    | zero =>
      rw[hn] at hs;simp[zeros] at hs;have:wrCells c l.o (zeros ti.kd 0)=c:=by simp[zeros,wrCells_nil]
      rw[this,setIfInBounds_same a1];simp[Builtin.clear_,run_und hT]
    | succ n =>
      rw[hn] at hs;simp[Builtin.clear_,run_und hT,run_zero i2 i5,val_cells hsh,hzc,hs]
   ·rename_i hl
    obtain ⟨h0,hr⟩:=hr;refine turned_val' (v := .tuple #[]) (w':=w) ?_ ⟨rfl,rfl⟩ hr;rw[ex,hxv,Slc.at_none hl,h0]
    cases s.wd.v <;> simp[Builtin.clear_,run_und hT]
  ·exact hr.elim
 ·exact hr.elim
omit hτ in
theorem s2b_sound {o:Oper} {src dst et:Nat} {x:Operand} {s:ByteArray} {e:Operand→Option SV} {h:Heap} {K:Option SV→Heap→Prop} (hs:P.underlying src=some .string) (hd:P.underlying dst=some (.slice et)) (he:P.underlying et=some (.int .u8))
 (ho:o.op = .convert src dst x) (hx:e x=some ⟨.s,s⟩) (hr:s2b et s h fun z h=>K (some ⟨.sl,z⟩) h):TurnOk P o e h K:=by
 intro ρ hρ w hw;subst hw;have hxv : ρ x = .string s:=hρ x _ hx;have hcut:∀t,(Question.appendCap s.size 0 et).cut t=s.size+t%(2^63-s.size):=fun t=>rfl
 let t:=w.tape w.drawn (.appendCap s.size 0 et)
 have hK:=hr (s.size+t%(2^63-s.size)) (by omega) (fun hlt=>by
  have:=Nat.mod_lt t (show 0<2^63-s.size by omega);omega)
 refine turned_val (v:=⟨.sl,⟨some ⟨w.heap.size,0⟩,s.size,s.size+t%(2^63-s.size)⟩⟩) (w':={ w with drawn:=w.drawn+1,heap:=w.heap.push (.cells (s.data.toList.flatMap Kd.u8.cells++zeros .u8 (s.size+t%(2^63-s.size)-s.size)).toArray et (s.size+t%(2^63-s.size),s.size+t%(2^63-s.size)+1)) }) ?_ ⟨rfl,rfl⟩ hK
 have hc:(Array.map (fun b:UInt8=>Value.int IntKind.u8 (b.toNat:Int)) s.data++Array.replicate (t%(2^63-s.size)) (Value.int IntKind.u8 0))=(s.data.toList.flatMap Kd.u8.cells++zeros .u8 (t%(2^63-s.size))).toArray:=by
  have hz:zeros .u8 (t%(2^63-s.size))=List.replicate (t%(2^63-s.size)) (Value.int IntKind.u8 0):=by
   simp only [zeros];rw[u8_flat];simp[Kd.zero]
  rw[hz,u8_flat];apply Array.toList_inj.1;simp
 have hsub:s.size+t%(2^63-s.size)-s.size=t%(2^63-s.size):=by omega
 have hlen:(s.data.toList.flatMap Kd.u8.cells++zeros .u8 (t%(2^63-s.size))).length=s.size+t%(2^63-s.size):=by
  rw[u8_flat];simp[zeros,List.length_flatMap,Kd.cells]
 rw[hsub];simp only [execOp,ho,hxv,Sem.run_bind,convert,run_und hs,run_und hd,run_und he,Result.andThen_ok,Conv.stringToBytes,run_choose,Question.forced,Bool.false_eq_true,if_false,hcut];simp only [newRow,Sem.run_bind,run_newObj,Result.andThen_ok,Sem.run_pure];have hm:=run_markS (P:=P) { w with drawn:=w.drawn+1 } (Array.map (fun b:UInt8=>Value.int IntKind.u8 (b.toNat:Int)) s.data++Array.replicate (s.size+t%(2^63-s.size)-s.size) (Value.int IntKind.u8 0)) et;rw[hsub,hc] at hm;simp only [List.size_toArray,hlen] at hm;have hc':=hc;rw[←hsub] at hc';rw[show w.tape w.drawn (Question.appendCap s.size 0 et)=t from rfl,hsub,hc];rw[hm]
 rfl
omit hτ in
theorem run_getObj_any {w:World} {r:Nat} {o:Obj} (h:w.heap[r]? = some o) (hc:∀a b c,o ≠ .cells a b c):(getObj r).run P w = .ok o w:=by
 cases o <;> simp[getObj,Sem.run,h] <;> exact (hc _ _ _ rfl).elim
omit hτ in
theorem rng_sound {o:Oper} {T kt et:Nat} {kk ek:Kd} {x:Operand} {m:Option Nat} {e:Operand→Option SV} {h:Heap} {K:Option SV→Heap→Prop} (hT:P.underlying T=some (.map kt et))
 (ho:o.op = .range T x) (hx:e x=some ⟨.m,m⟩) (hr:rng m h fun b h=>K (some ⟨.it kk ek,b⟩) h):TurnOk P o e h K:=by
 intro ρ hρ w hw;subst hw;have hx' : ρ x = .map m:=hρ x _ hx
 cases m with
 | none =>
   refine turned_val (v:=⟨.it kk ek,w.heap.size⟩) (w':={ w with heap:=w.heap.push (.mapIter none 0 #[] 0) }) ?_ ⟨rfl,rfl⟩ hr;simp[execOp,ho,hx',Instr.range,run_und hT,SV.val,Kd.val,Kd.val0,Kd.cells,one]
 | some r =>
   obtain ⟨es,clock,hs,hK⟩:=hr;refine turned_val (v:=⟨.it kk ek,w.heap.size⟩) (w':={ w with heap:=w.heap.push (.mapIter (some r) clock #[] clock) }) ?_ ⟨rfl,rfl⟩ hK;simp[execOp,ho,hx',Instr.range,run_und hT,Go.MapKept.run_getObj_map hs,SV.val,Kd.val,Kd.val0,Kd.cells,one]
omit hτ in
theorem nx_sound {o:Oper} {kk ek:Kd} {x:Operand} {t:Nat} {e:Operand→Option SV} {h:Heap} {K:Option SV→Heap→Prop} (h1:notTp kk=true) (h2:notTp ek=true)
 (ho:o.op = .next x false) (hx:e x=some ⟨.it kk ek,t⟩)
 (hr:nx kk ek t h (fun h=>K (some ⟨.tp (.pr .b .un),(false,())⟩) h) fun y z h=>K (some ⟨.tp (.pr .b (.pr kk (.pr ek .un))),(true,(y,(z,())))⟩) h):TurnOk P o e h K:=by
 intro ρ hρ w hw;subst hw;have hx' : ρ x = .pointer (some ⟨t,0,none⟩):=hρ x _ hx;rcases hr with ⟨a,c,hi,hK⟩ | ⟨r,since,seen,last,es,clock,hi,hm,hst,hov,hstep⟩
 ·have hg:(getObj t).run P w = .ok (.mapIter none a #[] c) w:=run_getObj_any hi (by simp);refine turned_val (v:=⟨.tp (.pr .b .un),(false,())⟩) (w':=w) ?_ ⟨rfl,rfl⟩ hK;simp[execOp,ho,hx',Instr.next,hg,SV.val,Kd.val,Kd.vals,Kd.val0,Kd.cells,one]
 ·have hg:(getObj t).run P w = .ok (.mapIter (some r) since seen last) w:=run_getObj_any hi (by simp);have hgm:(getObj r).run P w = .ok (.map (es.map (ent kk ek)).toArray clock) w:=Go.MapKept.run_getObj_map hm
  have hstale:(!seen.isEmpty && !(es.map (ent kk ek)).toArray.isEmpty&&(es.map (ent kk ek)).toArray.all (·.born≥last))=false:=by
   rcases hst with h | h | ⟨y,hy,hlt⟩
   ·simp[h]
   ·simp[h]
   ·have:(es.map (ent kk ek)).toArray.all (·.born≥last)=false:=by
     simp only [List.all_toArray,List.all_map,List.all_eq_false];exact ⟨y,hy,by simp only [Function.comp,ent,decide_eq_true_eq];exact fun e=>absurd (of_decide_eq_true e) (Nat.not_le.2 hlt)⟩
    simp only [this,Bool.and_false]
  generalize hL:(es.map (ent kk ek)).toArray=L at hgm hstale
  have hfree:∀n,0<n→∃idx w',(choose (.mapNext n)).run P w = .ok idx w'∧Same w w'∧w'.heap=w.heap∧idx<n:=by
   intro n hn;rw[run_choose];split
   ·exact ⟨0,w,_root_.rfl,Same.rfl,_root_.rfl,hn⟩
   ·exact ⟨_,_,_root_.rfl,⟨_root_.rfl,_root_.rfl⟩,_root_.rfl,Nat.mod_lt _ hn⟩
  obtain ⟨left,hleft⟩:∃x,x=Array.filter (fun e:MapEntry => !seen.contains e.born) L:=⟨_,_root_.rfl⟩;obtain ⟨old,hold⟩:∃x,x=Array.filter (fun e:MapEntry=>decide (e.born<since)) left:=⟨_,_root_.rfl⟩;obtain ⟨new,hnew⟩:∃x,x=Array.filter (fun e:MapEntry=>decide (e.born≥since)) left:=⟨_,_root_.rfl⟩;obtain ⟨cands,hcands⟩:∃x:Array (Option MapEntry),x=(if old.isEmpty=true then #[none] else #[])++(old++new).map some:=⟨_,_root_.rfl⟩
  have hpos:0<cands.size:=by
   rw[hcands]
   cases ho:old.isEmpty
   ·have:old.size≠0:=fun e=>by simp[Array.isEmpty,e] at ho
    simp only [Bool.false_eq_true,if_false,Array.size_append,Array.size_map];omega
   ·simp only [if_true,Array.size_append,Array.size_map];show 0<1+_;omega
  obtain ⟨idx,w',hc,hs,hh,hlt⟩:=hfree cands.size hpos;have hget:cands[idx]? = some cands[idx]:=Array.getElem?_eq_getElem hlt;have hmem:cands[idx]∈cands:=Array.getElem_mem hlt
  have hrun:(execOp ρ o).run P w=(match cands[idx] with
   | some e=>((do setObj t (.mapIter (some r) since (seen.push e.born) clock);pure (.tuple #[.bool true,e.key,e.val]):Sem Value).run P w').andThen fun v w'' => .ok (.value v) w''
   | none => .ok (.value (.tuple #[.bool false])) w'):=by
   simp only [execOp,ho,hx',Instr.next,Sem.run_bind,hg,Result.andThen_ok,hgm,hstale,Bool.false_eq_true,if_false];rw[←hleft,←hold,←hnew,←hcands,hc];simp only [Result.andThen_ok,hget]
   cases cands[idx] with
   | none=>simp
   | some e=>simp
  rw[hrun];generalize cands[idx]=c at hmem;rw[hcands] at hmem
  have hsub:∀e,e∈left→∃x,x∈es∧x.2.2∉seen∧e=ent kk ek x:=by
   intro e he;rw[hleft,←hL] at he;simp at he;obtain ⟨⟨a,b,c,hm,rfl⟩,hs⟩:=he;exact ⟨_,hm,hs,_root_.rfl⟩
  cases c with
  | none =>
    refine turned_val (v:=⟨.tp (.pr .b .un),(false,())⟩) (w':=w') _root_.rfl hs ?_;rw[hh];apply hov;intro x hx
    have hoe:old.isEmpty=true:=by
     cases ho:old.isEmpty with
     | true=>rfl
     | false=>simp[ho] at hmem
    have hoz:old = #[]:=by simpa using hoe
    by_cases hs:x.2.2∈seen
    ·exact .inl hs
    ·right
     rcases Nat.lt_or_ge x.2.2 since with hlt | hge
     ·exfalso
      have hl:ent kk ek x∈left:=by
       rw[hleft,←hL];simp only [Array.mem_filter,List.mem_toArray,List.mem_map];exact ⟨⟨x,hx,_root_.rfl⟩,by simpa[ent] using hs⟩
      have ho':ent kk ek x∈old:=by
       rw[hold];simp only [Array.mem_filter];exact ⟨hl,decide_eq_true hlt⟩
      rw[hoz] at ho';simp at ho'
     ·exact hge
  | some e =>
    have he:e∈left:=by
     have hmem':e∈old∨e∈new:=by
      cases ho:old.isEmpty with
      | true => simp only [ho, if_true, Array.mem_append, Array.mem_map] at hmem; rcases hmem with h | ⟨a, h, e1⟩
                ·simp at h
                ·cases e1;exact h
      | false => simp only [ho, Bool.false_eq_true, if_false, Array.mem_append, Array.mem_map] at hmem; rcases hmem with h | ⟨a, h, e1⟩
                 ·simp at h
                 ·cases e1;exact h
     rcases hmem' with h | h
     ·rw[hold] at h;exact (Array.mem_filter.1 h).1
     ·rw[hnew] at h;exact (Array.mem_filter.1 h).1
    obtain ⟨x,hxm,hxs,rfl⟩:=hsub e he
    have hset:(setObj t (.mapIter (some r) since (seen.push x.2.2) clock)).run P w' = .ok () { w' with heap:=w'.heap.setIfInBounds t (.mapIter (some r) since (seen.push x.2.2) clock) }:=by
     have:w'.heap[t]? = some (Obj.mapIter (some r) since seen last):=by rw[hh];exact hi
     simp[setObj,Sem.run,this]
    refine turned_val (v:=⟨.tp (.pr .b (.pr kk (.pr ek .un))),(true,(x.1,(x.2.1,())))⟩) (w':={ w' with heap:=w'.heap.setIfInBounds t (.mapIter (some r) since (seen.push x.2.2) clock) }) ?_ hs (by rw[hh];exact hstep x hxm hxs);simp only [ent,Sem.run_bind,hset,Result.andThen_ok,Sem.run_pure];show Result.ok (Next.value (Value.tuple #[.bool true,kk.val x.1,ek.val x.2.1])) _=Result.ok (Next.value (Value.tuple #[.bool true,Kd.val0 kk x.1,Kd.val0 ek x.2.1])) _;rw[val0_val h1,val0_val h2]
omit hτ in
theorem en_sound {o:Oper} {kk ek:Kd} {x:Operand} {t:Nat} {e:Operand→Option SV} {h:Heap} {K:Option SV→Heap→Prop} (h1:notTp kk=true) (h2:notTp ek=true)
 (ho:o.op = .entry x) (hx:e x=some ⟨.it kk ek,t⟩) (hr:en kk ek t h fun y z=>K (some ⟨.tp (.pr kk (.pr ek .un)),(y,(z,()))⟩) h):TurnOk P o e h K:=by
 intro ρ hρ w hw;subst hw;have hx' : ρ x = .pointer (some ⟨t,0,none⟩):=hρ x _ hx;obtain ⟨r,since,seen,stamp,es,clock,y,hi,hm,hf,hK⟩:=hr;have hg:(getObj t).run P w = .ok (.mapIter (some r) since (seen.push stamp) clock) w:=run_getObj_any hi (by simp);have hgm:(getObj r).run P w = .ok (.map (es.map (ent kk ek)).toArray clock) w:=Go.MapKept.run_getObj_map hm
 have hfd:(es.map (ent kk ek)).toArray.find? (·.born == stamp)=some (ent kk ek y):=by
  rw[List.find?_toArray,List.find?_map,show ((fun x:MapEntry=>x.born == stamp)∘ent kk ek)=(fun x=>x.2.2 == stamp) from _root_.rfl,hf]
  rfl
 refine turned_val (v:=⟨.tp (.pr kk (.pr ek .un)),(y.1,(y.2.1,()))⟩) (w':=w) ?_ ⟨_root_.rfl,_root_.rfl⟩ hK;simp only [execOp,ho,hx',Instr.entry,Sem.run_bind,hg,Result.andThen_ok,Array.back?_push,hgm,bne_self_eq_false,Bool.false_eq_true,if_false,hfd,Sem.run_pure];show Result.ok (Next.value (Value.tuple #[kk.val y.1,ek.val y.2.1])) _=Result.ok (Next.value (Value.tuple #[Kd.val0 kk y.1,Kd.val0 ek y.2.1])) _;rw[val0_val h1,val0_val h2]
omit hτ in
theorem backs_turned {w:World} {k:Kd} {K:Option SV→Heap→Prop} {r:Result Next}
 (h:backs P (fun v w'=>∃x,v=k.val x∧w'.os=w.os∧w'.output=w.output∧K (some ⟨k,x⟩) w'.heap) r):Turned P w K r:=by
 cases r with
 | ok x w' =>
   cases x <;> simp only [backs] at h
   case value v=>
    obtain ⟨x,rfl,h1,h2,h3⟩:=h;exact ⟨⟨h1,h2⟩,some ⟨k,x⟩,fun y hy=>by simp at hy;subst hy;rfl,h3⟩
   case enter f args=>
    refine CallsIn.mono h ?_;rintro e w'' ⟨v,rfl,x,rfl,h1,h2,h3⟩;exact ⟨⟨k,x⟩,rfl,⟨h1,h2⟩,h3⟩
   case round l f tmps assign body=>
    refine RoundIn.mono h ?_;rintro e w'' ⟨v,rfl,x,rfl,h1,h2,h3⟩;exact ⟨⟨k,x⟩,rfl,⟨h1,h2⟩,h3⟩
 | halt x w'=>exact h.elim
include hpl
theorem ef_sound {o:Oper} {rks:Nat→Option Kd} {e:Operand→Option SV} {h:Heap} {K:Option SV→Heap→Prop} (hfe:∀f,e (.func f)=some ⟨.f,.func (.func f) #[] #[]⟩) (hr:ef P τ o.op o.type rks e h K):TurnOk P o e h K:=by
 generalize hop:o.op=op at hr;unfold ef at hr;split at hr
 ·rename_i T
  split at hr
  ·rename_i k hk
   obtain ⟨ti,b1,rfl,b3⟩:=kd_get hk;exact new_sound hτ b1 b3 (.inl ⟨hop,rfl⟩) hr
  ·exact hr.elim
 ·rename_i T x
  split at hr
  ·rename_i v k hv hk
   obtain ⟨ti,b1,rfl,b3⟩:=kd_get hk;split at hr
   ·rename_i z hz
    have:=as_some hz;subst this;exact new_sound hτ b1 b3 (.inr ⟨x,hop,hv⟩) hr
   ·exact hr.elim
  ·exact hr.elim
 ·rename_i T x y
  split at hr
  ·rename_i a v k ha hv hk
   obtain ⟨ti,b1,rfl,b3⟩:=kd_get hk;split at hr
   ·rename_i l z hl hz
    rw[asP_some] at hl;subst hl;have:=as_some hz;subst this;exact st_sound hτ b1 b3 hop ha hv hr
   ·exact hr.elim
  ·exact hr.elim
 ·rename_i T n ps
  split at hr
  ·rename_i e0 k by_ pl et ti hg hel
   obtain ⟨hT,t2,t4⟩:=elem_slice hτ hg hel;split at hr
   ·rename_i xs hle hx
    exact bs_sound hτ hT t2 t4 hop (by simpa using hle) hx hr
   ·exact hr.elim
  ·exact hr.elim
 ·rename_i T x y
  split at hr
  ·rename_i a b e0 k by_ pl et ti ha hb hg hel
   obtain ⟨hT,t2,t4⟩:=elem_slice hτ hg hel;split at hr
   ·rename_i n c hn hc _
    rw[asI_some] at hn hc;subst hn;subst hc;exact mk_sound hτ hT t2 t4 hop ha hb hr
   ·exact hr.elim
  ·exact hr.elim
 ·rename_i T r
  split at hr
  ·rename_i kt et k by_ pl hg hx
   obtain ⟨desc,info,g1,_,_,_,_,g6⟩:=tiEx hτ hg rfl;obtain ⟨rfl,rfl⟩:=descOk_map g6;exact mkm_sound g1 hop hx hr
  ·exact hr.elim
 ·rename_i T x y z
  split at hr
  ·rename_i m key v kk ek hm hk hv hmo
   split at hr
   ·rename_i m' key' v' hm' hk' hv'
    rw[asM_some] at hm';subst hm';have:=as_some hk';subst this;have:=as_some hv';subst this;exact mu_sound hτ hpl hmo hop hm hk hv hr
   ·exact hr.elim
  ·exact hr.elim
 ·rename_i T x
  split at hr
  ·rename_i v kk ek hv hmo
   obtain ⟨kt,et,_,_,hu,_⟩:=mapOf_some hτ hmo;split at hr
   ·rename_i m hm
    rw[asM_some] at hm;subst hm;exact rng_sound hu hop hv hr
   ·exact hr.elim
  ·exact hr.elim
 ·rename_i x
  split at hr
  ·rename_i kk ek b hv
   split at hr
   ·rename_i h1 h2;exact nx_sound h1 h2 hop hv hr
   ·exact hr.elim
  ·exact hr.elim
 ·rename_i x
  split at hr
  ·rename_i kk ek b hv
   split at hr
   ·rename_i h1 h2;exact en_sound h1 h2 hop hv hr
   ·exact hr.elim
  ·exact hr.elim
 ·rename_i src dst x
  split at hr
  ·rename_i v k1 by1 pl1 e0 k2 by2 pl2 et by3 pl3 hv hs hd hel
   obtain ⟨hT,t2,t4⟩:=elem_slice hτ hd hel;obtain ⟨desc,info,g1,_,_,_,_,g6⟩:=tiEx hτ hs rfl;obtain ⟨rfl,rfl⟩:=descOk_str g6;obtain ⟨desc,info,g1',_,_,_,_,g6'⟩:=tiEx hτ t2 rfl;rcases descOk_k g6' with ⟨rfl,hh⟩ | ⟨rfl,hh⟩ | ⟨rfl,hh⟩ | ⟨rfl,hh⟩ | ⟨rfl,hh⟩ <;> try (simp at hh;done)
   split at hr
   ·rename_i s hs'
    rw[asS_some] at hs';subst hs';exact s2b_sound g1 hT g1' hop hv hr
   ·exact hr.elim
  ·exact hr.elim
 ·rename_i as ts
  split at hr
  ·rename_i x y T U h1 h2
   split at hr
   ·rename_i a b ha hb;exact apR_sound hτ hop h1 h2 ha hb hr
   ·exact hr.elim
  ·exact hr.elim
 ·rename_i as ts
  split at hr
  ·rename_i x y T rest h1 h2
   split at hr
   ·rename_i a b ha hb;exact cpR_sound hτ hop h1 h2 ha hb hr
   ·exact hr.elim
  ·exact hr.elim
 ·rename_i as ts
  split at hr
  ·rename_i x T h1 h2
   split at hr
   ·rename_i a ha;exact clrR_sound hτ hop h1 h2 ha hr
   ·exact hr.elim
  ·exact hr.elim
 ·rename_i f as ts
  split at hr
  ·rename_i vs k hvs hk
   intro ρ hρ w hw;have hf : ρ (.func f) = .func (.func f) #[] #[]:=hρ _ _ (hfe f);have ha:=evs_map hρ hvs;have ha':as.map ρ = vs.toArray:=by apply Array.toList_inj.1;simpa using ha
   have:=backs_turned (hr w hw);simpa[execOp,hop,resolve,Deferred.ofValue,hf,invoke,ha'] using this
  ·exact hr.elim
 ·rename_i x as ts _
  split at hr
  ·rename_i v vs k hv hvs hk
   split at hr
   ·rename_i fv hfv
    rw[asF_some] at hfv;subst hfv;intro ρ hρ w hw;have hf : ρ x=fnCell fv:=hρ _ _ hv;have ha:=evs_map hρ hvs;have ha':as.map ρ = vs.toArray:=by apply Array.toList_inj.1;simpa using ha
    unfold callV at hr;split at hr
    ·rename_i f first cap
     have:=backs_turned (hr w hw);have e1:(first.toList++vs++cap.toList).toArray=first++(vs.toArray++cap):=by apply Array.toList_inj.1;simp
     rw[e1] at this;simpa[execOp,hop,resolve,Deferred.ofValue,hf,fnCell,invoke,ha'] using this
    ·have:=backs_turned (hr w hw);simpa[execOp,hop,resolve,Deferred.ofValue,hf,fnCell,invoke,ha'] using this
    ·exact hr.elim
   ·exact hr.elim
  ·exact hr.elim
 ·exact hr.elim
end
def Fw (ro:Option Nat):Fence:={ Fence.wide with round:=ro }
theorem callsIn_fw {ro:Option Nat} {n:Nat} {P:Program} {f:FuncId} {args:Array Value} {w:World} {R:Ending→World→Prop} (h:CallsIn Fence.wide n P f args w R):CallsIn (Fw ro) n P f args w R:=h
theorem roundIn_fw {ro:Option Nat} {n:Nat} {P:Program} {l:Nat} {f:FuncId} {tmps:Array Value} {assign body:Code} {w:World} {R:Ending→World→Prop} (h:RoundIn Fence.wide n P l f tmps assign body w R):RoundIn (Fw ro) n P l f tmps assign body w R:=h
def mark1 (r:Nat):Deferred:={ target := .collected r,args := #[] }
structure Rel (ρ : Env) (a:Act):Prop where
 t:∀t v,t≠DS → ρ.get t=some v→a.tmps[t]? = some v.val
 d:∀v,ρ.get DS=some v→∃ds,v=⟨.d,ds⟩∧a.defers=ds.map mark1
theorem Rel.agree {ρ : Env} {a:Act} (h:Rel ρ a):Agree (ev ρ) a.eval:=by
 intro x v hx
 cases x with
 | tmp t =>
   simp only [ev] at hx;split at hx
   ·simp at hx
   ·rename_i hne
    have:=h.t t v (by intro e;subst e;simp at hne) hx;simp only [Act.eval];rw[Array.getD_eq_getD_getElem?,this];rfl
 | const c=>simp only [ev] at hx;exact (ofConst_val hx).symm
 | func f=>simp only [ev] at hx;simp at hx;subst hx;rfl
 | global g=>simp[ev] at hx
theorem get_cons {ρ : Env} {k t:Nat} {v:Option SV}:Env.get ((k,v) :: ρ) t=if k=t then v else ρ.get t:=by
 simp only [Env.get];by_cases h:k=t
 ·subst h;simp
 ·have:Nat.beq k t=false:=by
   cases hb:Nat.beq k t
   ·rfl
   ·exact absurd (Nat.eq_of_beq_eq_true hb) h
  rw[this];simp[h]
theorem tmps_put {a:Act} {d t:Nat} {v:Value}:(a.put (some d) v).tmps[t]? = if d=t then (if d<a.tmps.size then some v else none) else a.tmps[t]? := by
 simp only [Act.put,Array.getElem?_setIfInBounds]
theorem size_put {a:Act} {d:Option Nat} {v:Value}:(a.put d v).tmps.size=a.tmps.size:=by
 cases d <;> simp[Act.put]
theorem defers_put {a:Act} {d:Option Nat} {v:Value}:(a.put d v).defers=a.defers:=by
 cases d <;> simp[Act.put]
def okDst (N:Nat) (d:Option Nat):Prop:=∀t,d=some t→t<N∧t≠DS
theorem Rel.put {ρ : Env} {a:Act} (h:Rel ρ a) {d:Option Nat} (hd:okDst a.tmps.size d) {x:Option SV} {v:Value} (hv:∀y,x=some y→v=y.val):Rel (ρ.put d x) (a.put d v):=by
 cases d with
 | none=>exact h
 | some d =>
   obtain ⟨h1,h2⟩:=hd d rfl
   constructor
   ·intro t y ht hy;simp only [Env.put,get_cons] at hy;rw[tmps_put];split at hy
    ·rename_i e;subst e;rw[if_pos rfl,if_pos h1,hv y hy]
    ·rename_i e;rw[if_neg e];exact h.t t y ht hy
   ·intro y hy;simp only [Env.put,get_cons] at hy;rw[if_neg h2] at hy;rw[defers_put];exact h.d y hy
theorem Rel.know {ρ : Env} {a:Act} (h:Rel ρ a) {d:Nat} {x:SV} (hd:d≠DS) (hv:a.tmps[d]? = some x.val):Rel (ρ.put (some d) (some x)) a:=by
 constructor
 ·intro t y ht hy;simp only [Env.put,get_cons] at hy;split at hy
  ·rename_i e;subst e;simp at hy;subst hy;exact hv
  ·exact h.t t y ht hy
 ·intro y hy;simp only [Env.put,get_cons] at hy;rw[if_neg hd] at hy;exact h.d y hy
theorem nthO_get:∀(l:List Oper) (n:Nat),nthO l n=l[n]? := by
 intro l
 induction l with
 | nil=>intro n;simp[nthO]
 | cons x r ih=>intro n;cases n <;> simp[nthO,ih]
section
variable {P:Program} {τ : Tys} (hτ : TysOk P τ) (hpl:∀t ti,τ.get t=some ti→ti.plain=true→plainOk P τ t ti=true)
def okDsts (N:Nat) (l:List Oper):Prop:=∀o∈l,okDst N o.dst
theorem gd_sound {ops:Array Oper} {o:Oper} {ρ : Env} {a:Act} {K:Bool→Env→Prop} (hR:Rel ρ a) (hd:okDsts a.tmps.size ops.toList) (h:gd ops.toList o.guard ρ K) :
 ∃ ρ',Rel ρ' a∧K (Region.wanted o (yielded ops a.tmps)) ρ':=by
 unfold gd at h;split at h
 ·rename_i hg
  exact ⟨ρ,hR,by simpa[Region.wanted,hg] using h⟩
 ·rename_i j want hg
  split at h
  ·rename_i og hog
   rw[nthO_get] at hog;split at h
   ·rename_i d hdst
    split at h
    ·rename_i v hv
     have hdd:=(hd og (List.mem_of_getElem? hog) d hdst).2;have hav:=hR.t d v hdd hv;have hop:ops[j]? = some og:=by simpa using hog
     have hy:yielded ops a.tmps j=match v.val with | .bool b=>some b | _=>none:=by
      simp only [yielded,hop,Option.bind_some,hdst,hav]
      cases v.val <;> rfl
     split at h
     ·rename_i b hb
      rw[asB_some] at hb;subst hb;simp at hy;split at h
      ·rename_i hbt
       refine ⟨_,hR.know (x:=⟨.b,true⟩) hdd (by rw[hav,hbt]),?_⟩;have:Region.wanted o (yielded ops a.tmps)=want:=by simp[Region.wanted,hg,hy,hbt]
       rw[this];exact h
      ·rename_i hbf
       have hbf:b=false:=by simpa using hbf
       refine ⟨_,hR.know (x:=⟨.b,false⟩) hdd (by rw[hav,hbf]),?_⟩;have:Region.wanted o (yielded ops a.tmps) = !want:=by cases want <;> simp[Region.wanted,hg,hy,hbf]
       rw[this];exact h
     ·split at h
      ·rename_i hv1
       obtain ⟨k,x⟩:=v;simp only at hv1;subst hv1;refine ⟨ρ,hR,?_⟩;have:Region.wanted o (yielded ops a.tmps)=false:=by simp[Region.wanted,hg,hy]
       rw[this];exact h
      ·exact h.elim
    ·exact h.elim
   ·exact h.elim
  ·exact h.elim
theorem sem_fw {ro:Option Nat} {o:Oper} {a:Act} (h:∀c,o.op ≠ .defer c):o.semAt (Fw ro).round a.eval=execOp a.eval o:=Oper.semAt_eq _ _ _ h
theorem rd_notDefer {o:Oper} {e:Operand→Option SV} {h:Heap} {K:SV→Option (Heap→Prop)→Prop} (hr:rd τ o.op e h K):∀c,o.op ≠ .defer c:=by
 intro c hc;rw[hc] at hr;simp[rd] at hr
theorem ef_notDefer {op:Op} {oty:Nat} {rks:Nat→Option Kd} {e:Operand→Option SV} {h:Heap} {K:Option SV→Heap→Prop} (hr:ef P τ op oty rks e h K):∀c,op ≠ .defer c:=by
 intro c hc;rw[hc] at hr;simp[ef] at hr
include hτ hpl
theorem rd_upon {ro:Option Nat} {o:Oper} {ρ : Env} {a:Act} {w:World} {h:Heap} {K:SV→Option (Heap→Prop)→Prop} {Q:Exit→Act→World→Prop} {next:Act→World→Prop} (hR:Rel ρ a) (hw:w.heap=h) (hr:rd τ o.op (ev ρ) h K)
 (hn:∀v q,K v q→(∀f,q=some f→f h)→Yield P o (ev ρ) v q→next (a.put o.dst v.val) w):o.wpIn (Fw ro) 0 P a w next Q:=by
 obtain ⟨v,q,hK,hq,hy⟩:=rd_sound hτ hpl hr;refine ⟨fun _ _=>trivial,?_⟩;rw[sem_fw (rd_notDefer hr),hy a.eval hR.agree w (fun f hf=>by rw[hw];exact hq f hf),Oper.uponIn_value];exact hn v q hK hq hy
theorem ef_upon2 {ro:Option Nat} {o:Oper} {ρ : Env} {a A:Act} (he:execOp a.eval o=execOp A.eval o) {w:World} {h:Heap} {K:Option SV→Heap→Prop} {Q:Exit→Act→World→Prop} {next:Act→World→Prop} (hR:Rel ρ A) (hw:w.heap=h) (hr:ef P τ o.op o.type τ.rk (ev ρ) h K)
 (hn:∀x v w',K x w'.heap→(∀y,x=some y→v=y.val)→Same w w'→next (a.put o.dst v) w'):o.wpIn (Fw ro) 0 P a w next Q:=by
 have ht:=ef_sound hτ hpl (fun f=>rfl) hr A.eval hR.agree w hw;refine ⟨fun _ _=>trivial,?_⟩;rw[sem_fw (ef_notDefer hr),he];generalize (execOp A.eval o).run P w=r at ht
 cases r with
 | ok x w' =>
   cases x <;> simp only [Turned] at ht
   case value v=>
    obtain ⟨hs,x,hx,hK⟩:=ht;exact hn x v w' hK hx hs
   case skip=>exact hn none undef w' ht.2 (fun y hy=>by simp at hy) ht.1
   case enter f args=>
    rw[Oper.uponIn_enter];refine ⟨fun h=>by simp[Fw,Fence.wide] at h,callsIn_fw (CallsIn.mono ht ?_)⟩;rintro e w'' ⟨x,rfl,hs,hK⟩;exact hn (some x) _ w'' hK (fun y hy=>by simp at hy;rw[hy]) hs
   case round l f tmps assign body=>
    rw[Oper.uponIn_round];refine ⟨fun h=>by simp[Fw,Fence.wide] at h,roundIn_fw (RoundIn.mono ht ?_)⟩;rintro e w'' ⟨x,rfl,hs,hK⟩;exact hn (some x) _ w'' hK (fun y hy=>by simp at hy;rw[hy]) hs
 | halt x w'=>exact ht.elim
theorem ef_upon {ro:Option Nat} {o:Oper} {ρ : Env} {a:Act} {w:World} {h:Heap} {K:Option SV→Heap→Prop} {Q:Exit→Act→World→Prop} {next:Act→World→Prop} (hR:Rel ρ a) (hw:w.heap=h) (hr:ef P τ o.op o.type τ.rk (ev ρ) h K)
 (hn:∀x v w',K x w'.heap→(∀y,x=some y→v=y.val)→Same w w'→next (a.put o.dst v) w'):o.wpIn (Fw ro) 0 P a w next Q:=ef_upon2 hτ hpl _root_.rfl hR hw hr hn
structure Kept (ms:List Nat) (a a':Act):Prop where
 size:a'.tmps.size=a.tmps.size
 t:∀t,t∉ms→a'.tmps[t]? = a.tmps[t]?
 d:DS∉ms→a'.defers=a.defers
omit hτ hpl in
theorem Kept.rfl {ms:List Nat} {a:Act}:Kept ms a a:=⟨Eq.refl _,fun _ _=>Eq.refl _,fun _=>Eq.refl _⟩
omit hτ hpl in
theorem Kept.trans {ms:List Nat} {a b c:Act} (h1:Kept ms a b) (h2:Kept ms b c):Kept ms a c:=
 ⟨h2.size.trans h1.size,fun t ht=>(h2.t t ht).trans (h1.t t ht),fun h=>(h2.d h).trans (h1.d h)⟩
omit hτ hpl in
theorem Kept.mono {ms ms':List Nat} {a b:Act} (h:Kept ms a b) (hs:∀t∈ms,t∈ms'):Kept ms' a b:=
 ⟨h.size,fun t ht=>h.t t fun h'=>ht (hs t h'),fun hd=>h.d fun h'=>hd (hs _ h')⟩
omit hτ hpl in
theorem Kept.put {ms:List Nat} {a:Act} {d:Option Nat} {v:Value} (hd:∀t,d=some t→t∈ms):Kept ms a (a.put d v):=by
 refine ⟨size_put,fun t ht =>?_,fun _=>defers_put⟩
 cases d with
 | none=>rfl
 | some d =>
   rw[tmps_put];split
   ·rename_i e;subst e;exact absurd (hd _ _root_.rfl) ht
   ·exact Eq.refl _
omit hτ hpl in
theorem mem_dsts:∀ {l:List Oper} {o:Oper},o∈l→∀t,o.dst=some t→t∈dsts l:=by
 intro l
 induction l with
 | nil=>intro o h;simp at h
 | cons x r ih =>
   intro o h t ht;simp only [dsts];rcases List.mem_cons.1 h with rfl | h
   ·rw[ht];simp
   ·split
    ·exact List.mem_cons_of_mem _ (ih h t ht)
    ·exact ih h t ht
theorem cOps_sound {ro:Option Nat} {ops:Array Oper} {N:Nat} (hd:okDsts N ops.toList) {Q:Exit→Act→World→Prop} {K:Env→Heap→Prop} {w0:World} {a0:Act} (hN:a0.tmps.size=N)
 (hQ:∀ ρ a w,Rel ρ a→K ρ w.heap→Same w0 w→Kept (dsts ops.toList) a0 a→Q .normal a w) :
 ∀(rest:List Oper),(∀o∈rest,o∈ops.toList)→∀(ρ : Env) (h:Heap) (a:Act) (w:World),cOps P τ ops.toList rest ρ h K→Rel ρ a→w.heap=h→Same w0 w→Kept (dsts ops.toList) a0 a→wpListIn (Fw ro) 0 P ops Q rest a w:=by
 intro rest
 induction rest with
 | nil=>intro _ ρ h a w hc hR hw hs hk;subst hw;exact hQ ρ a w hR hc hs hk
 | cons o r ih =>
   intro hmem ρ h a w hc hR hw hs hk;have hsz:a.tmps.size=N:=hk.size.trans hN;have hod:=hd o (hmem o (by simp));have hkd:∀v,Kept (dsts ops.toList) a0 (a.put o.dst v):=fun v=>hk.trans (Kept.put fun t ht=>mem_dsts (hmem o (by simp)) t ht);simp only [cOps] at hc;obtain ⟨ρ',hR',hc⟩:=gd_sound hR (by rw[hsz];exact hd) hc;simp only [wpListIn];split
   ·rename_i hwant
    rw[hwant] at hc;simp only [opC] at hc;split at hc
    ·refine rd_upon hτ hpl hR' hw hc fun v q hK hq hy =>?_;exact ih (fun o ho=>hmem o (by simp[ho])) _ _ _ _ hK (hR'.put (by rw[hsz];exact hod) fun y hy=>by simp at hy;rw[hy]) hw hs (hkd _)
    ·refine ef_upon hτ hpl hR' hw hc fun x v w' hK hx hs' =>?_;exact ih (fun o ho=>hmem o (by simp[ho])) _ _ _ _ hK (hR'.put (by rw[hsz];exact hod) hx) _root_.rfl ⟨hs'.1.trans hs.1,hs'.2.trans hs.2⟩ (hkd _)
   ·rename_i hwant
    have hwant:Region.wanted o (yielded ops a.tmps)=false:=by simpa using hwant
    rw[hwant] at hc;exact ⟨fun _ _=>trivial,ih (fun o ho=>hmem o (by simp[ho])) _ _ _ _ hc (hR'.put (x:=some ⟨.un,()⟩) (by rw[hsz];exact hod) fun y hy=>by simp at hy;subst hy;rfl) hw hs (hkd _)⟩
end
theorem beq_iff (a b:Nat):Nat.beq a b=true↔a=b:=⟨Nat.eq_of_beq_eq_true,fun h=>by subst h;simp⟩
theorem bit_test (m i:Nat):bit m i=m.testBit i:=by
 rw[Bool.eq_iff_iff];unfold bit;rw[beq_iff];show m&&&2^i=2^i↔_
 constructor
 ·intro h;have:=congrArg (fun n=>Nat.testBit n i) h;simpa[Nat.testBit_and,Nat.testBit_two_pow] using this
 ·intro h;apply Nat.eq_of_testBit_eq;intro j;rw[Nat.testBit_and,Nat.testBit_two_pow];by_cases hj:i=j
  ·subst hj;simp[h]
  ·simp[hj]
theorem bit_lor (a b i:Nat):bit (Nat.lor a b) i=(bit a i||bit b i):=by
 simp only [bit_test];exact Nat.testBit_or a b i
theorem bit_pow (k i:Nat):bit (2^k) i=decide (k=i):=by
 rw[bit_test,Nat.testBit_two_pow]
theorem bit_add (d i j:Nat):bit (Nat.lor d (2^i)) j=(bit d j||decide (i=j)):=by rw[bit_lor,bit_pow]
theorem bit_zero (i:Nat):bit 0 i=false:=by rw[bit_test];simp
theorem within_iff (m d:Nat):within m d=true↔∀i,bit m i=true→bit d i=true:=by
 unfold within;rw[beq_iff];show m&&&d=m↔_
 constructor
 ·intro h i hi;rw[bit_test] at hi ⊢;rw[←h,Nat.testBit_and] at hi;simp at hi;exact hi.2
 ·intro h;apply Nat.eq_of_testBit_eq;intro i;have:=h i;rw[bit_test,bit_test] at this;rw[Nat.testBit_and]
  cases hm:m.testBit i
  ·simp
  ·rw[this hm];rfl
theorem nthN_get:∀(l:List Nat) (n:Nat),nthN l n=l.getD n 0:=by
 intro l
 induction l with
 | nil=>intro n;simp[nthN]
 | cons x r ih=>intro n;cases n <;> simp[nthN,ih]
theorem hasN_iff:∀(l:List Nat) (t:Nat),hasN l t=true↔t∈l:=by
 intro l
 induction l with
 | nil=>intro t;simp[hasN]
 | cons x r ih =>
   intro t;simp only [hasN];by_cases h:x=t
   ·subst h;simp
   ·have:Nat.beq x t=false:=by
     cases hb:Nat.beq x t
     ·rfl
     ·exact absurd ((beq_iff _ _).1 hb) h
    rw[this];simp[ih];exact fun e=>absurd e.symm h
theorem befE_spec (acc:List Nat) (k:Nat):∀(es:List Edge) (m:Nat),bit (befE acc es m) k=true↔bit m k=true∨∃e∈es,anyEdge e=true∧(e.on=k∨bit (acc.getD e.on 0) k=true):=by
 intro es
 induction es with
 | nil=>intro m;simp[befE]
 | cons e r ih =>
   intro m;simp only [befE];split
   ·rename_i he
    rw[ih,bit_lor,bit_lor,bit_pow,nthN_get];simp[he,or_assoc]
   ·rename_i he
    rw[ih];simp[he]
theorem befG_app:∀(l:List Oper) (acc:List Nat),∃r,befG l acc=acc++r∧r.length=l.length∧∀i o,l[i]? = some o→(befG l acc)[acc.length+i]? = some (befE ((befG l acc).take (acc.length+i)) o.after.toList 0):=by
 intro l
 induction l with
 | nil=>intro acc;exact ⟨[],by simp[befG],rfl,fun i o h=>by simp at h⟩
 | cons x l ih =>
   intro acc;simp only [befG];obtain ⟨r,h1,h2,h3⟩:=ih (acc++[befE acc x.after.toList 0]);refine ⟨befE acc x.after.toList 0::r,by rw[h1];simp,by simp[h2],?_⟩;intro i o hi
   cases i with
   | zero =>
     simp at hi;subst hi;rw[h1];simp
   | succ i =>
     have:=h3 i o (by simpa using hi);simpa[Nat.add_assoc,Nat.add_comm 1 i] using this
def bef (ops:List Oper) (i:Nat):Nat:=(befG ops []).getD i 0
theorem befG_len (ops:List Oper):(befG ops []).length=ops.length:=by
 obtain ⟨r,h1,h2,_⟩:=befG_app ops [];rw[h1];simpa using h2
theorem backE_spec {i:Nat}:∀ {es:List Edge},backE i es=true→∀e∈es,anyEdge e=true→e.on<i:=by
 intro es
 induction es with
 | nil=>intro _ e h;simp at h
 | cons x r ih =>
   intro h e he ha;simp only [backE,Bool.and_eq_true] at h;rcases List.mem_cons.1 he with rfl | he
   ·rw[ha] at h;simpa using h.1
   ·exact ih h.2 e he ha
theorem bef_spec {ops:List Oper} {i:Nat} {o:Oper} (ho:ops[i]? = some o) (hb:backE i o.after.toList=true) (k:Nat) :
 bit (bef ops i) k=true↔∃e∈o.after.toList,anyEdge e=true∧(e.on=k∨bit (bef ops e.on) k=true):=by
 obtain ⟨r,h1,h2,h3⟩:=befG_app ops [];have:=h3 i o ho;simp only [List.length_nil,Nat.zero_add] at this;unfold bef;rw[List.getD_eq_getElem?_getD,this];simp only [Option.getD_some];rw[befE_spec,bit_zero];simp only [Bool.false_eq_true,false_or]
 constructor
 ·rintro ⟨e,h4,h5,h6⟩;refine ⟨e,h4,h5,?_⟩;have hlt:=backE_spec hb e h4 h5;rw[List.getD_eq_getElem?_getD,List.getElem?_take_of_lt hlt] at h6;rw[List.getD_eq_getElem?_getD];exact h6
 ·rintro ⟨e,h4,h5,h6⟩;refine ⟨e,h4,h5,?_⟩;have hlt:=backE_spec hb e h4 h5;rw[List.getD_eq_getElem?_getD,List.getElem?_take_of_lt hlt];rw[List.getD_eq_getElem?_getD] at h6;exact h6
theorem okW_spec {all:List Oper} {bi i d:Nat}:∀ {l:List Oper} {bs:List Nat} {n:Nat},okW all bi i d l bs n=true→bs.length=l.length→∀k o,l[k]? = some o→n+k≠i →
 o.dst≠some d∧(d∈looks all o→bit (bs.getD k 0) i=true∨bit bi (n+k)=true):=by
 intro l
 induction l with
 | nil=>intro bs n _ _ k o h;simp at h
 | cons x r ih =>
   intro bs n h hl k o hk hne
   cases bs with
   | nil=>simp at hl
   | cons b bs =>
     simp only [okW,Bool.and_eq_true] at h
     cases k with
     | zero =>
       simp at hk;subst hk;have h1:=h.1;split at h1
       ·rename_i hb;exact absurd ((beq_iff _ _).1 hb).symm hne
       ·simp only [Bool.and_eq_true,Bool.or_eq_true] at h1;obtain ⟨h1,h2⟩:=h1;refine ⟨?_,fun hm =>?_⟩
        ·intro e;rw[e] at h1;simp at h1
        ·rcases h2 with (h2 | h2) | h2
         ·have:=(hasN_iff _ _).2 hm;rw[this] at h2;simp at h2
         ·exact .inl (by simpa using h2)
         ·exact .inr (by simpa using h2)
     | succ k =>
       have:=ih h.2 (by simpa using hl) k o (by simpa using hk) (by omega);simpa[Nat.add_assoc,Nat.add_comm 1 k] using this
theorem okD_spec {all:List Oper} {bf:List Nat} (hbf:bf.length=all.length):∀ {l:List Oper} {bs:List Nat} {n:Nat},okD all bf l bs n=true→bs.length=l.length→∀k o,l[k]? = some o →
 tameOp o.op=true∧backE (n+k) o.after.toList=true∧∀d,o.dst=some d→d∉looks all o∧∀j o',all[j]? = some o'→j≠n+k→o'.dst≠some d∧(d∈looks all o'→bit (bf.getD j 0) (n+k)=true∨bit (bs.getD k 0) j=true):=by
 intro l
 induction l with
 | nil=>intro bs n _ _ k o h;simp at h
 | cons x r ih =>
   intro bs n h hl k o hk
   cases bs with
   | nil=>simp at hl
   | cons b bs =>
     simp only [okD,Bool.and_eq_true] at h;obtain ⟨⟨⟨h0,h1⟩,h2⟩,h3⟩:=h
     cases k with
     | zero =>
       simp at hk;subst hk;refine ⟨h0,h1,fun d hd =>?_⟩;rw[hd] at h2;simp only [Bool.and_eq_true] at h2;refine ⟨fun hm=>by have:=(hasN_iff _ _).2 hm;rw[this] at h2;simp at h2,fun j o' hj hne =>?_⟩;have:=okW_spec h2.2 hbf j o' hj (by omega);simpa using this
     | succ k =>
       have:=ih h3 (by simpa using hl) k o (by simpa using hk);simpa[Nat.add_assoc,Nat.add_comm 1 k] using this
theorem opnds_all (op:Op) (hs:∀cs bl,op ≠ .select cs bl):∀x∈op.operands.toList,x∈opnds op:=by
 intro x hx
 cases op <;> simp[Op.operands,opnds,Call.operands] at hx ⊢ <;> try exact hx
 case select=>exact (hs _ _ rfl).elim
 all_goals
  rename_i c
  obtain ⟨callee,args,ats⟩:=c
  cases callee <;> simpa using hx
theorem mem_tmpsOf:∀ {xs:List Operand} {t:Nat},Operand.tmp t∈xs→t∈tmpsOf xs:=by
 intro xs
 induction xs with
 | nil=>intro t h;simp at h
 | cons x r ih =>
   intro t h;rcases List.mem_cons.1 h with rfl | h
   ·simp[tmpsOf]
   ·have:=ih h
    cases x <;> simp[tmpsOf,this]
def LookEq (ops:Array Oper) (o:Oper) (a b:Act):Prop:=∀t∈looks ops.toList o,a.tmps[t]? = b.tmps[t]?
theorem LookEq.exec {ops:Array Oper} {o:Oper} {a b:Act} (h:LookEq ops o a b) (hs:∀cs bl,o.op ≠ .select cs bl):execOp a.eval o=execOp b.eval o:=by
 refine execOp_congr o hs fun x hx =>?_;have hm:=opnds_all o.op hs x (by simpa using hx)
 cases x with
 | tmp t =>
   have:=h t (List.mem_append_left _ (mem_tmpsOf hm));simp only [Act.eval,Array.getD_eq_getD_getElem?,this]
 | _=>rfl
theorem LookEq.wanted {ops:Array Oper} {o:Oper} {a b:Act} (h:LookEq ops o a b):Region.wanted o (yielded ops a.tmps)=Region.wanted o (yielded ops b.tmps):=by
 unfold Region.wanted
 cases hg:o.guard with
 | none=>rfl
 | some p =>
   obtain ⟨j,want⟩:=p;simp only
   have:yielded ops a.tmps j=yielded ops b.tmps j:=by
    unfold yielded
    cases hj:ops[j]? with
    | none=>rfl
    | some og =>
      cases hd:og.dst with
      | none=>simp[hd]
      | some d =>
        have hl:d∈looks ops.toList o:=by
         refine List.mem_append_right _ ?_;simp only [hg,nthO_get,Array.getElem?_toList,hj,hd];simp
        simp only [Option.bind_some,hd,h d hl]
   rw[this]
structure Is (ops:Array Oper) (a0:Act) (V:Nat→Value) (S:Nat→Prop) (a:Act):Prop where
 on:∀i o t,ops[i]? = some o→o.dst=some t→S i→a.tmps[t]? = some (V i)
 off:∀t,(∀i o,ops[i]? = some o→o.dst=some t→¬S i)→a.tmps[t]? = a0.tmps[t]?
 size:a.tmps.size=a0.tmps.size
 defers:a.defers=a0.defers
theorem Is.agree {ops:Array Oper} {a0 a b:Act} {V V':Nat→Value} {S S':Nat→Prop} (h:Is ops a0 V S a) (h':Is ops a0 V' S' b) {t:Nat} (ht:∀i o,ops[i]? = some o→o.dst=some t→(S i↔S' i)∧(S i→V i=V' i)) :
 a.tmps[t]? = b.tmps[t]? := by
 by_cases hc:∃i o,ops[i]? = some o∧o.dst=some t∧S i
 ·obtain ⟨i,o,h1,h2,h3⟩:=hc;obtain ⟨e1,e2⟩:=ht i o h1 h2;rw[h.on i o t h1 h2 h3,h'.on i o t h1 h2 (e1.1 h3),e2 h3]
 ·rw[h.off t (fun i o h1 h2 h3=>hc ⟨i,o,h1,h2,h3⟩),h'.off t (fun i o h1 h2 h3=>hc ⟨i,o,h1,h2,(ht i o h1 h2).1.2 h3⟩)]
theorem Is.same {ops:Array Oper} {a0 a:Act} {V V':Nat→Value} {S S':Nat→Prop} (h:Is ops a0 V S a) (hS:∀i,S i↔S' i) (hV:∀i,S i→V i=V' i):Is ops a0 V' S' a:=
 ⟨fun i o t h1 h2 h3=>by rw[h.on i o t h1 h2 ((hS i).2 h3),hV i ((hS i).2 h3)],fun t ht=>h.off t fun i o h1 h2 h3=>ht i o h1 h2 ((hS i).1 h3),h.size,h.defers⟩
def upd (V:Nat→Value) (i:Nat) (v:Value):Nat→Value:=fun k=>if k=i then v else V k
def add (S:Nat→Prop) (i:Nat):Nat→Prop:=fun k=>S k∨k=i
section
variable {ops:Array Oper} {a0:Act} (hok:okD ops.toList (befG ops.toList []) ops.toList (befG ops.toList []) 0=true) (hd:okDsts a0.tmps.size ops.toList)
include hok in
theorem spec {k:Nat} {o:Oper} (ho:ops[k]? = some o):backE k o.after.toList=true∧∀d,o.dst=some d→d∉looks ops.toList o∧∀j o',ops[j]? = some o'→j≠k→o'.dst≠some d∧(d∈looks ops.toList o'→bit (bef ops.toList j) k=true∨bit (bef ops.toList k) j=true):=by
 have:=okD_spec (befG_len _) hok (befG_len _) k o (by simpa using ho);refine ⟨by simpa using this.2.1,fun d hd=>⟨(this.2.2 d hd).1,fun j o' hj hne =>?_⟩⟩;have:=(this.2.2 d hd).2 j o' (by simpa using hj) (by omega);simpa[bef] using this
include hok in
theorem tame {k:Nat} {o:Oper} (ho:ops[k]? = some o):(∀c b,o.op ≠ .select c b)∧∀c,o.op ≠ .defer c:=by
 have:=(okD_spec (befG_len _) hok (befG_len _) k o (by simpa using ho)).1;exact ⟨fun c b h=>by rw[h] at this;simp[tameOp] at this,fun c h=>by rw[h] at this;simp[tameOp] at this⟩
include hok hd in
theorem Is.put {a:Act} {V:Nat→Value} {S:Nat→Prop} (h:Is ops a0 V S a) {i:Nat} {o:Oper} (ho:ops[i]? = some o) (v:Value):Is ops a0 (upd V i v) (add S i) (a.put o.dst v):=by
 refine ⟨fun k ok t h1 h2 h3 =>?_,fun t ht =>?_,size_put.trans h.size,defers_put.trans h.defers⟩
 ·by_cases hk:k=i
  ·subst hk;rw[ho] at h1;simp at h1;subst h1;have hb:=hd o (List.mem_of_getElem? (by simpa using ho)) t h2;rw[h2,tmps_put,if_pos rfl,if_pos (by rw[h.size];exact hb.1)];simp[upd]
  ·have hS:S k:=by rcases h3 with h3 | h3;exact h3;exact absurd h3 hk
   have:=h.on k ok t h1 h2 hS;simp only [upd,if_neg hk]
   cases hdst:o.dst with
   | none=>exact this
   | some d =>
     rw[tmps_put];have hne:d≠t:=fun e=>((spec hok ho).2 d hdst).2 k ok h1 hk |>.1 (by rw[e];exact h2)
     rw[if_neg hne];exact this
 ·have hno:=h.off t fun k ok h1 h2 h3=>ht k ok h1 h2 (.inl h3)
  cases hdst:o.dst with
  | none=>exact hno
  | some d =>
    rw[tmps_put];have hne:d≠t:=fun e=>ht i o ho (by rw[hdst,e]) (.inr rfl);rw[if_neg hne];exact hno
def DC (ops:Array Oper) (S:Nat→Prop):Prop:=∀i,S i→∀k,bit (bef ops.toList i) k=true→S k
include hok in
theorem look_eq {a b:Act} {V:Nat→Value} {S S':Nat→Prop} (h:Is ops a0 V S a) (h':Is ops a0 V S' b) {j:Nat} {o:Oper} (ho:ops[j]? = some o) (c1:DC ops S) (c2:DC ops S') (n1:¬S j) (n2:¬S' j)
 (b1:∀k,bit (bef ops.toList j) k=true→S k) (b2:∀k,bit (bef ops.toList j) k=true→S' k):LookEq ops o a b:=by
 intro t ht;refine h.agree h' fun i oi hi hdi =>?_;by_cases hij:i=j
 ·subst hij;rw[ho] at hi;simp at hi;subst hi;exact absurd ht ((spec hok ho).2 t hdi).1
 ·rcases (((spec hok hi).2 t hdi).2 j o ho (fun e=>hij e.symm)).2 ht with hb | hb
  ·exact ⟨⟨fun _=>b2 i hb,fun _=>b1 i hb⟩,fun _=>rfl⟩
  ·exact ⟨⟨fun hS=>absurd (c1 i hS j hb) n1,fun hS=>absurd (c2 i hS j hb) n2⟩,fun _=>rfl⟩
end
def bits (d:Nat):Nat→Prop:=fun i=>bit d i=true
theorem bits_add (d i:Nat) (k:Nat):bits (Nat.lor d (2^i)) k↔add (bits d) i k:=by
 unfold bits add;rw[bit_add];simp
 constructor
 ·rintro (h | h)
  ·exact .inl h
  ·exact .inr h.symm
 ·rintro (h | h)
  ·exact .inl h
  ·exact .inr h.symm
section
variable {τ : Tys}
theorem firstR_some:∀ {l:List Oper} {bs:List Nat} {n d k:Nat} {o:Oper},firstR τ l bs n d=some (k,o)→∃m,k=n+m∧l[m]? = some o∧bit d k=false∧within (bs.getD m 0) d=true∧turns τ o.op=false:=by
 intro l
 induction l with
 | nil=>intro bs n d k o h;simp[firstR] at h
 | cons x r ih =>
   intro bs n d k o h
   cases bs with
   | nil=>simp[firstR] at h
   | cons b bs =>
     simp only [firstR] at h;split at h
     ·rename_i h1 h2 h3
      simp at h;obtain ⟨rfl,rfl⟩:=h;exact ⟨0,by simp,by simp,h1,by simpa using h2,h3⟩
     ·obtain ⟨m,h1,h2,h3,h4,h5⟩:=ih h;exact ⟨m+1,by omega,by simpa using h2,h3,by simpa using h4,h5⟩
theorem firstR_none:∀ {l:List Oper} {bs:List Nat} {n d:Nat},firstR τ l bs n d=none→bs.length=l.length→∀m o,l[m]? = some o→bit d (n+m)=false→within (bs.getD m 0) d=true→turns τ o.op=true:=by
 intro l
 induction l with
 | nil=>intro bs n d _ _ m o h;simp at h
 | cons x r ih =>
   intro bs n d h hl m o hm h1 h2
   cases bs with
   | nil=>simp at hl
   | cons b bs =>
     simp only [firstR] at h;split at h
     ·simp at h
     ·rename_i hno
      cases m with
      | zero =>
        simp at hm;subst hm
        cases ht:turns τ x.op with
        | true=>rfl
        | false=>exact (hno (by simpa using h1) (by simpa using h2) ht).elim
      | succ m=>exact ih h (by simpa using hl) m o (by simpa using hm) (by rw[←h1];congr 1;omega) (by simpa using h2)
theorem readyT_mem:∀ {l:List Oper} {bs:List Nat} {n d:Nat},bs.length=l.length→∀m o,l[m]? = some o→bit d (n+m)=false→within (bs.getD m 0) d=true→(n+m,bs.getD m 0,o)∈readyT l bs n d:=by
 intro l
 induction l with
 | nil=>intro bs n d _ m o h;simp at h
 | cons x r ih =>
   intro bs n d hl m o hm h1 h2
   cases bs with
   | nil=>simp at hl
   | cons b bs =>
     simp only [readyT]
     cases m with
     | zero =>
       simp at hm;subst hm;simp at h1 h2;simp[h1,h2]
     | succ m =>
       have:=ih (bs:=bs) (n:=n+1) (d:=d) (by simpa using hl) m o (by simpa using hm) (by rw[←h1];congr 1;omega) (by simpa using h2);have e:n+1+m=n+(m+1):=by omega
       rw[e] at this;split
       ·exact List.mem_cons_of_mem _ (by simpa using this)
       ·simpa using this
theorem allOf_mem {α : Type} {f : α → Prop}:∀ {l:List α},allOf f l→∀x∈l,f x:=by
 intro l
 induction l with
 | nil=>intro _ x h;simp at h
 | cons y r ih =>
   intro h x hx
   cases r with
   | nil=>simp at hx;subst hx;exact h
   | cons z r =>
     rcases List.mem_cons.1 hx with rfl | hx
     ·exact h.1
     ·exact ih h.2 x hx
theorem stab_all:∀ {rs:Still} {h:Heap} {X:Prop},stab rs h X→X∧∀j f,(j,some f)∈rs→f h:=by
 intro rs
 induction rs with
 | nil=>intro h X hx;exact ⟨hx,fun j f hm=>by simp at hm⟩
 | cons p r ih =>
   obtain ⟨i,q⟩:=p;intro h X hx
   have hx:(∀f,q=some f→f h)∧stab r h X:=by
    cases q with
    | none=>exact ⟨fun f e=>by simp at e,hx⟩
    | some g=>exact ⟨fun f e=>by cases e;exact hx.1,hx.2⟩
   obtain ⟨h1,h2⟩:=hx;obtain ⟨h3,h4⟩:=ih h2;refine ⟨h3,fun j f hm =>?_⟩;rcases List.mem_cons.1 hm with hm | hm
   ·simp at hm;exact h1 f hm.2.symm
   ·exact h4 j f hm
theorem later_mem {b:Nat}:∀ {rs:Still} {j:Nat} {f:Heap→Prop},(j,some f)∈rs→bit b j=false→(j,some f)∈later b rs:=by
 intro rs
 induction rs with
 | nil=>intro j f h;simp at h
 | cons p r ih =>
   obtain ⟨i,q⟩:=p;intro j f h hb;simp only [later];rcases List.mem_cons.1 h with h | h
   ·simp at h;obtain ⟨rfl,rfl⟩:=h;rw[hb];simp
   ·split
    ·exact ih h hb
    ·exact List.mem_cons_of_mem _ (ih h hb)
end
section
variable {P:Program} {τ : Tys} {ops:Array Oper} {a0:Act}
def Pend (P:Program) (τ : Tys) (ops:Array Oper) (a0:Act) (V:Nat→Value) (rs:Still) (h:Heap) (d:Nat→Prop) (j:Nat) (o:Oper):Prop:=
 turns τ o.op=false∧(∀c bl,o.op ≠ .select c bl)∧(∀c,o.op ≠ .defer c)∧∃(q:Option (Heap→Prop)) (D:Nat→Prop) (b:Act),(∀f,q=some f→f h∧(j,some f)∈rs)∧Is ops a0 V D b∧DC ops D∧(∀k,D k→d k)∧¬D j ∧
  (∀k,bit (bef ops.toList j) k=true→D k) ∧
  ((Region.wanted o (yielded ops b.tmps)=true∧∀w:World,(∀f,q=some f→f w.heap)→(execOp b.eval o).run P w = .ok (.value (V j)) w)∨(Region.wanted o (yielded ops b.tmps)=false∧V j=undef))
structure Can (P:Program) (τ : Tys) (ops:Array Oper) (a0:Act) (L:Nat→Prop) (d:Nat) (rs:Still) (ρ : Env) (h:Heap) (V:Nat→Value) (A:Act):Prop where
 rel:Rel ρ A
 is:Is ops a0 V (bits d) A
 dc:DC ops (bits d)
 sub:∀i,L i→bits d i
 pend:∀j o,ops[j]? = some o→bits d j→¬L j→Pend P τ ops a0 V rs h (bits d) j o
theorem Pend.step {V:Nat→Value} {rs rs':Still} {h h':Heap} {d d':Nat→Prop} {j:Nat} {o:Oper} (hp:Pend P τ ops a0 V rs h d j o) {i:Nat} {v:Value} (hi:¬d i) (hij:j≠i) (hdd:∀k,d k→d' k)
 (hq:∀f,(j,some f)∈rs→f h→f h'∧(j,some f)∈rs'):Pend P τ ops a0 (upd V i v) rs' h' d' j o:=by
 obtain ⟨h1,h2,h3,q,D,b,c1,c2,c3,c4,c5,c6,c7⟩:=hp;refine ⟨h1,h2,h3,q,D,b,fun f hf=>hq f (c1 f hf).2 (c1 f hf).1,c2.same (fun _=>Iff.rfl) (fun k hk =>?_),c3,fun k hk=>hdd k (c4 k hk),c5,c6,?_⟩
 ·have:k≠i:=fun e=>hi (by subst e;exact c4 k hk);simp[upd,this]
 ·simpa[upd,hij] using c7
variable (hτ : TysOk P τ) (hpl:∀t ti,τ.get t=some ti→ti.plain=true→plainOk P τ t ti=true)
theorem DC.add {S:Nat→Prop} (h:DC ops S) {i:Nat} (hb:∀k,bit (bef ops.toList i) k=true→S k):DC ops (add S i):=by
 intro k hk j hj;rcases hk with hk | hk
 ·exact .inl (h k hk j hj)
 ·subst hk;exact .inl (hb j hj)
theorem DC.iff {S S':Nat→Prop} (h:DC ops S) (hi:∀k,S k↔S' k):DC ops S':=fun k hk j hj=>(hi j).1 (h k ((hi k).2 hk) j hj)
variable (hok:okD ops.toList (befG ops.toList []) ops.toList (befG ops.toList []) 0=true) (hd:okDsts a0.tmps.size ops.toList)
include hτ hpl hok hd in
theorem norm {K:Env→Heap→Prop} {L:Nat→Prop} {h:Heap}:∀(n d:Nat) (rs:Still) (ρ : Env) (V:Nat→Value) (A:Act),cD P τ ops.toList (befG ops.toList []) n d rs ρ h K→Can P τ ops a0 L d rs ρ h V A →
 ∃n' d' rs' ρ' V' A',firstR τ ops.toList (befG ops.toList []) 0 d'=none∧cD P τ ops.toList (befG ops.toList []) n' d' rs' ρ' h K∧Can P τ ops a0 L d' rs' ρ' h V' A'∧(∀i,L i→V' i=V i):=by
 intro n
 induction n with
 | zero=>intro d rs ρ V A hc;exact hc.elim
 | succ n ih =>
   intro d rs ρ V A hc hC
   cases hf:firstR τ ops.toList (befG ops.toList []) 0 d with
   | none=>exact ⟨n+1,d,rs,ρ,V,A,hf,hc,hC,fun _ _=>rfl⟩
   | some p =>
     obtain ⟨i,o⟩:=p;obtain ⟨m,hm,ho,hbit,hwithin,htu⟩:=firstR_some hf;simp at hm;subst hm;have ho':ops[i]? = some o:=by simpa using ho
     have hnd:¬bits d i:=by simp[bits,hbit]
     have hbef:∀k,bit (bef ops.toList i) k=true→bits d k:=(within_iff _ _).1 hwithin;simp only [cD,hf] at hc;obtain ⟨ρ',hR',hc⟩:=gd_sound hC.rel (by rw[hC.is.size];exact hd) hc;have hod:okDst A.tmps.size o.dst:=by rw[hC.is.size];exact hd o (List.mem_of_getElem? ho)
     have fin:∀(v:SV) (q:Option (Heap→Prop)) (rs':Still),(∀x∈rs,x∈rs')→(∀f,q=some f→f h∧(i,some f)∈rs') → 
      ((Region.wanted o (yielded ops A.tmps)=true∧∀w:World,(∀f,q=some f→f w.heap)→(execOp A.eval o).run P w = .ok (.value v.val) w)∨(Region.wanted o (yielded ops A.tmps)=false∧v.val=undef)) →
      Can P τ ops a0 L (Nat.lor d (2^i)) rs' (ρ'.put o.dst (some v)) h (upd V i v.val) (A.put o.dst v.val):=by
      intro v q rs' hsub hq hy;refine ⟨hR'.put hod fun y hy=>by simp at hy;rw[hy],(Is.put hok hd hC.is ho' v.val).same (fun k=>(bits_add d i k).symm) (fun _ _=>rfl),(hC.dc.add hbef).iff fun k=>(bits_add d i k).symm,fun k hk=>(bits_add d i k).2 (.inl (hC.sub k hk)),?_⟩;intro j oj hoj hbj hLj;rcases (bits_add d i j).1 hbj with hdj | rfl
      ·have hji:j≠i:=fun e=>hnd (by subst e;exact hdj);exact (hC.pend j oj hoj hdj hLj).step hnd hji (fun k hk=>(bits_add d i k).2 (.inl hk)) (fun f hm hf=>⟨hf,hsub _ hm⟩)
      ·rw[ho'] at hoj;simp at hoj;subst hoj;refine ⟨htu,(tame hok ho').1,(tame hok ho').2,q,bits d,A,hq,hC.is.same (fun _=>Iff.rfl) (fun k hk =>?_),hC.dc,fun k hk=>(bits_add d j k).2 (.inl hk),hnd,hbef,?_⟩
       ·have:k≠j:=fun e=>hnd (by subst e;exact hk);simp[upd,this]
       ·simpa[upd] using hy
     have vfix:∀(v:Value) k,L k→upd V i v k=V k:=by
      intro v k hk;have:k≠i:=fun e=>hnd (by subst e;exact hC.sub k hk);simp[upd,this]
     cases hwant:Region.wanted o (yielded ops A.tmps) with
     | true =>
       rw[hwant] at hc;simp only at hc;obtain ⟨v,q,hK,hq,hy⟩:=rd_sound hτ hpl hc;obtain ⟨n',d',rs',ρ'',V',A',e1,e2,e3,e4⟩:=ih _ _ _ _ _ hK (fin v q (more i q rs) (fun x hx=>by simp[more,hx]) (fun f hf=>⟨hq f hf,by subst hf;simp[more]⟩) (.inl ⟨hwant,fun w hw=>hy A.eval hR'.agree w hw⟩));exact ⟨n',d',rs',ρ'',V',A',e1,e2,e3,fun k hk=>(e4 k hk).trans (vfix _ k hk)⟩
     | false =>
       rw[hwant] at hc;simp only at hc;obtain ⟨n',d',rs',ρ'',V',A',e1,e2,e3,e4⟩:=ih _ _ _ _ _ hc (fin ⟨.un,()⟩ none rs (fun x hx=>hx) (fun f hf=>by simp at hf) (.inr ⟨hwant,rfl⟩));exact ⟨n',d',rs',ρ'',V',A',e1,e2,e3,fun k hk=>(e4 k hk).trans (vfix _ k hk)⟩
def Lof (listed:Array Bool):Nat→Prop:=fun i=>listed[i]? = some true
theorem lof_set {listed:Array Bool} {i:Nat} (hi:i<listed.size) (k:Nat):Lof (listed.setIfInBounds i true) k↔add (Lof listed) i k:=by
 unfold Lof add;rw[Array.getElem?_setIfInBounds];by_cases h:i=k
 ·subst h;simp[hi]
 ·simp[h];exact fun e=>absurd e.symm h
theorem any_binds (e:Edge):Region.binds .any e=anyEdge e:=by
 unfold Region.binds anyEdge
 cases e.ground <;> rfl
theorem mem_ready {listed:Array Bool} {i:Nat} (hsz:listed.size=ops.size):i∈Region.ready .any ops listed↔∃o,ops[i]? = some o∧¬Lof listed i∧∀e∈o.after.toList,anyEdge e=true→Lof listed e.on:=by
 unfold Region.ready;rw[List.mem_filter,List.mem_range]
 constructor
 ·rintro ⟨h1,h2⟩;simp only [Bool.and_eq_true,Bool.not_eq_true'] at h2;obtain ⟨h2,h3⟩:=h2;rw[Array.getElem?_eq_getElem h1] at h3;refine ⟨ops[i],Array.getElem?_eq_getElem h1,?_,?_⟩
  ·unfold Lof;rw[Array.getD_eq_getD_getElem?] at h2;intro h;rw[h] at h2;simp at h2
  ·simp only [Option.map_some,Option.getD_some,Array.all_eq_true_iff_forall_mem] at h3;intro e he ha;have:=h3 e (by simpa using he);rw[any_binds,ha] at this;simp only [Bool.not_true,Bool.false_or,Array.getD_eq_getD_getElem?] at this;unfold Lof
   cases hl:listed[e.on]? with
   | none=>rw[hl] at this;simp at this
   | some b=>rw[hl] at this;simp at this;rw[this]
 ·rintro ⟨o,ho,hL,he⟩
  have h1:i<ops.size:=by
   by_cases h:i<ops.size
   ·exact h
   ·rw[Array.getElem?_eq_none (by omega)] at ho;simp at ho
  refine ⟨h1,?_⟩;simp only [Bool.and_eq_true,Bool.not_eq_true',ho,Option.map_some,Option.getD_some,Array.all_eq_true_iff_forall_mem];refine ⟨?_,?_⟩
  ·have hlt:i<listed.size:=by omega
   rw[Array.getD_eq_getD_getElem?,Array.getElem?_eq_getElem hlt];unfold Lof at hL;rw[Array.getElem?_eq_getElem hlt] at hL;simpa using hL
  ·intro e hm;rw[any_binds]
   cases ha:anyEdge e with
   | false=>simp
   | true =>
     have:=he e (by simpa using hm) ha;unfold Lof at this;simp[Array.getD_eq_getD_getElem?,this]
include hok in
theorem ready_nil {listed:Array Bool} (hsz:listed.size=ops.size) (h:Region.ready .any ops listed=[]):∀i,i<ops.size→Lof listed i:=by
 intro i
 induction i using Nat.strongRecOn with
 | _ i ih =>
   intro hi;have ho:ops[i]? = some ops[i]:=Array.getElem?_eq_getElem hi;have hb:=(spec hok ho).1;apply Classical.byContradiction;intro hn
   have hm:i∈Region.ready .any ops listed:=(mem_ready hsz).2 ⟨ops[i],ho,hn,fun e he ha=>by
    have:=backE_spec hb e he ha;exact ih e.on this (by omega)⟩
   rw[h] at hm;simp at hm
theorem count_set:∀(l:List Bool) (i:Nat),l[i]? = some false→((l.set i true).filter (! ·)).length+1=(l.filter (! ·)).length:=by
 intro l
 induction l with
 | nil=>intro i h;simp at h
 | cons x r ih =>
   intro i h
   cases i with
   | zero=>simp at h;subst h;simp
   | succ i =>
     have:=ih i (by simpa using h)
     cases x <;> simp at this ⊢ <;> omega
theorem readyT_bit:∀ {l:List Oper} {bs:List Nat} {n d:Nat} {x:Nat×Nat×Oper},x∈readyT l bs n d→bit d x.1=false∧x.1<n+l.length:=by
 intro l
 induction l with
 | nil=>intro bs n d x h;simp[readyT] at h
 | cons y r ih =>
   intro bs n d x h
   cases bs with
   | nil=>simp[readyT] at h
   | cons b bs =>
     simp only [readyT] at h;split at h
     ·rename_i h1 h2
      rcases List.mem_cons.1 h with rfl | h
      ·exact ⟨h1,by simp⟩
      ·obtain ⟨a,b⟩:=ih h;exact ⟨a,by simp;omega⟩
     ·obtain ⟨a,b⟩:=ih h;exact ⟨a,by simp;omega⟩
include hτ hpl hok hd in
theorem draw_main {ro:Option Nat} {K:Env→Heap→Prop} {Q:Exit→Act→World→Prop} {w0:World}
 (hQ:∀ ρ' a' w',Rel ρ' a'→K ρ' w'.heap→Same w0 w'→Kept (dsts ops.toList) a0 a'→Q .normal a' w') :
 ∀ (fuel : Nat) (listed : Array Bool) (a : Act) (w : World) (n d : Nat) (rs : Still) (ρ : Env) (V : Nat → Value) (A : Act),
   listed.size=ops.size→(listed.toList.filter (! ·)).length≤fuel→Same w0 w→Is ops a0 V (Lof listed) a→DC ops (Lof listed) →
   firstR τ ops.toList (befG ops.toList []) 0 d=none→cD P τ ops.toList (befG ops.toList []) n d rs ρ w.heap K→Can P τ ops a0 (Lof listed) d rs ρ w.heap V A →
   wpAnyIn (Fw ro) 0 P .any ops Q fuel listed a w:=by
 have fin:∀(listed:Array Bool) (a:Act) (w:World) (n d:Nat) (rs:Still) (ρ : Env) (V:Nat→Value) (A:Act),
  listed.size=ops.size→Same w0 w→Is ops a0 V (Lof listed) a → 
  firstR τ ops.toList (befG ops.toList []) 0 d=none→cD P τ ops.toList (befG ops.toList []) n d rs ρ w.heap K→Can P τ ops a0 (Lof listed) d rs ρ w.heap V A →
  (∀i,i<ops.size→Lof listed i)→Q .normal a w:=by
  intro listed a w n d rs ρ V A hsz hs hI hf hc hC hall
  have hteq:∀t,a.tmps[t]? = A.tmps[t]? := fun t=>hI.agree hC.is fun i o hi hdi=>by
   have hlt:i<ops.size:=by
    by_cases h:i<ops.size
    ·exact h
    ·rw[Array.getElem?_eq_none (by omega)] at hi;simp at hi
   exact ⟨⟨fun _=>hC.sub i (hall i hlt),fun _=>hall i hlt⟩,fun _=>rfl⟩
  have hR:Rel ρ a:=⟨fun t v ht hv=>by rw[hteq];exact hC.rel.t t v ht hv,fun v hv=>by rw[hI.defers,←hC.is.defers];exact hC.rel.d v hv⟩;have hKept:Kept (dsts ops.toList) a0 a:=⟨hI.size,fun t ht=>hI.off t fun i o hi hdi _=>ht (mem_dsts (List.mem_of_getElem? (by simpa using hi)) t hdi),fun _=>hI.defers⟩
  cases n with
  | zero=>exact hc.elim
  | succ n =>
    simp only [cD,hf] at hc
    cases hrt:readyT ops.toList (befG ops.toList []) 0 d with
    | nil=>rw[hrt] at hc;exact hQ ρ a w hR hc hs hKept
    | cons x r =>
      obtain ⟨h1,h2⟩:=readyT_bit (x:=x) (by rw[hrt];simp:x∈readyT ops.toList (befG ops.toList []) 0 d);have:=hC.sub x.1 (hall x.1 (by simpa using h2));unfold bits at this;rw[h1] at this;simp at this
 intro fuel
 induction fuel with
 | zero =>
   intro listed a w n d rs ρ V A hsz hfu hs hI hDC hf hc hC
   have hall:∀i,i<ops.size→Lof listed i:=by
    intro i hi;have h0:listed.toList.filter (! ·)=[]:=List.eq_nil_of_length_eq_zero (by omega);rw[List.filter_eq_nil_iff] at h0;have hlt:i<listed.size:=by omega
    unfold Lof;rw[Array.getElem?_eq_getElem hlt];have:=h0 listed[i] (by simp);simpa using this
   refine ⟨?_,fin listed a w n d rs ρ V A hsz hs hI hf hc hC hall⟩;apply List.eq_nil_iff_forall_not_mem.2;intro i hi;obtain ⟨o,ho,hn,_⟩:=(mem_ready hsz).1 hi
   have hlt:i<ops.size:=by
    by_cases h:i<ops.size
    ·exact h
    ·rw[Array.getElem?_eq_none (by omega)] at ho;simp at ho
   exact hn (hall i hlt)
 | succ fuel ih =>
   intro listed a w n d rs ρ V A hsz hfu hs hI hDC hf hc hC;refine ⟨fun hr=>fin listed a w n d rs ρ V A hsz hs hI hf hc hC (ready_nil hok hsz hr),fun i hi =>?_⟩;obtain ⟨o,ho,hnL,hedge⟩:=(mem_ready hsz).1 hi
   have hlt:i<ops.size:=by
    by_cases h:i<ops.size
    ·exact h
    ·rw[Array.getElem?_eq_none (by omega)] at ho;simp at ho
   have hil:i<listed.size:=by omega
   have hbef:∀k,bit (bef ops.toList i) k=true→Lof listed k:=by
    intro k hk;obtain ⟨e,h1,h2,h3⟩:=(bef_spec (by simpa using ho) (spec hok ho).1 k).1 hk;rcases h3 with rfl | h3
    ·exact hedge e h1 h2
    ·exact hDC _ (hedge e h1 h2) k h3
   have hfu':((listed.setIfInBounds i true).toList.filter (! ·)).length≤fuel:=by
    have hfalse:listed.toList[i]? = some false:=by
     unfold Lof at hnL;rw[Array.getElem?_eq_getElem hil] at hnL;simp at hnL;rw[Array.getElem?_toList,Array.getElem?_eq_getElem hil,hnL]
    have:=count_set listed.toList i hfalse;simp only [Array.toList_setIfInBounds];omega
   have hsz':(listed.setIfInBounds i true).size=ops.size:=by simpa using hsz
   have hDC':DC ops (Lof (listed.setIfInBounds i true)):=(hDC.add hbef).iff fun k=>(lof_set hil k).symm;have hIput:∀v,Is ops a0 (upd V i v) (Lof (listed.setIfInBounds i true)) (a.put o.dst v):=fun v=>(Is.put hok hd hI ho v).same (fun k=>(lof_set hil k).symm) fun _ _=>rfl;have hnL':∀j,¬Lof (listed.setIfInBounds i true) j→¬Lof listed j∧j≠i:=fun j hj=>⟨fun h=>hj ((lof_set hil j).2 (.inl h)),fun h=>hj ((lof_set hil j).2 (.inr h))⟩;unfold Go.wpOpIn;simp only [ho];by_cases hdi:bits d i
   ·obtain ⟨_,hns,hnd,q,D,b,c1,c2,c3,c4,c5,c6,c7⟩:=hC.pend i o ho hdi hnL;have hlook:=look_eq hok hI c2 ho hDC c3 hnL c5 hbef c6;have hfe:upd V i (V i)=V:=by funext k;unfold upd;split <;> simp_all
    have hC':Can P τ ops a0 (Lof (listed.setIfInBounds i true)) d rs ρ w.heap V A:=⟨hC.rel,hC.is,hC.dc,fun k hk=>by
     rcases (lof_set hil k).1 hk with hk | rfl
     ·exact hC.sub k hk
     ·exact hdi,fun j oj hoj hdj hj=>hC.pend j oj hoj hdj (hnL' j hj).1⟩
    have hIv:=hIput (V i);rw[hfe] at hIv;rw[hlook.wanted];rcases c7 with ⟨hw1,hrun⟩ | ⟨hw1,hun⟩
    ·simp only [hw1,if_true];refine ⟨fun _ _=>trivial,?_⟩;rw[sem_fw hnd,hlook.exec hns,hrun w (fun f hf=>(c1 f hf).1),Oper.uponIn_value];exact ih _ _ w n d rs ρ V A hsz' hfu' hs hIv hDC' hf hc hC'
    ·simp only [hw1,Bool.false_eq_true,if_false];refine ⟨fun _ _=>trivial,?_⟩;rw[←hun];exact ih _ _ w n d rs ρ V A hsz' hfu' hs hIv hDC' hf hc hC'
   ·have hdb:bit d i=false:=by unfold bits at hdi;simpa using hdi
    have hwit:within ((befG ops.toList []).getD i 0) d=true:=(within_iff _ _).2 fun k hk=>hC.sub k (hbef k hk)
    cases n with
    | zero=>exact hc.elim
    | succ n =>
      simp only [cD,hf] at hc;have hmem:=readyT_mem (bs:=befG ops.toList []) (n:=0) (d:=d) (befG_len _) i o (by simpa using ho) (by simpa using hdb) hwit;simp only [Nat.zero_add] at hmem
      cases hrt:readyT ops.toList (befG ops.toList []) 0 d with
      | nil=>rw[hrt] at hmem;simp at hmem
      | cons x0 r0 =>
        rw[hrt] at hc hmem;have hc:=allOf_mem hc _ hmem;obtain ⟨ρ',hR',hc⟩:=gd_sound hC.rel (by rw[hC.is.size];exact hd) hc;have hlook:=look_eq hok hI hC.is ho hDC hC.dc hnL hdi hbef (fun k hk=>hC.sub k (hbef k hk));have hod:okDst A.tmps.size o.dst:=by rw[hC.is.size];exact hd o (List.mem_of_getElem? (by simpa using ho))
        have go:∀(x:Option SV) (v:Value) (w':World) (rs':Still),(∀y,x=some y→v=y.val)→Same w w'→(∀j f,bit (bef ops.toList i) j=false→(j,some f)∈rs→f w.heap→f w'.heap∧(j,some f)∈rs') →
         cD P τ ops.toList (befG ops.toList []) n (Nat.lor d (2^i)) rs' (ρ'.put o.dst x) w'.heap K→wpAnyIn (Fw ro) 0 P .any ops Q fuel (listed.setIfInBounds i true) (a.put o.dst v) w':=by
         intro x v w' rs' hx hs' hrs hcd
         have hC':Can P τ ops a0 (Lof (listed.setIfInBounds i true)) (Nat.lor d (2^i)) rs' (ρ'.put o.dst x) w'.heap (upd V i v) (A.put o.dst v):=by
          refine ⟨hR'.put hod hx,(Is.put hok hd hC.is ho v).same (fun k=>(bits_add d i k).symm) fun _ _=>rfl,(hC.dc.add fun k hk=>hC.sub k (hbef k hk)).iff fun k=>(bits_add d i k).symm,fun k hk =>?_,fun j oj hoj hdj hj =>?_⟩
          ·rcases (lof_set hil k).1 hk with hk | rfl
           ·exact (bits_add d i k).2 (.inl (hC.sub k hk))
           ·exact (bits_add d k k).2 (.inr rfl)
          ·obtain ⟨hj1,hj2⟩:=hnL' j hj;rcases (bits_add d i j).1 hdj with hdj | e
           ·refine (hC.pend j oj hoj hdj hj1).step hdi hj2 (fun k hk=>(bits_add d i k).2 (.inl hk)) (fun f hm hf=>hrs j f ?_ hm hf)
            cases hb:bit (bef ops.toList i) j with
            | false=>rfl
            | true=>exact absurd (hbef j hb) hj1
           ·exact absurd e hj2
         obtain ⟨n',d',rs'',ρ'',V',A',e1,e2,e3,e4⟩:=norm hτ hpl hok hd n _ _ _ _ _ hcd hC';exact ih _ _ w' n' d' rs'' ρ'' V' A' hsz' hfu' (⟨hs'.1.trans hs.1,hs'.2.trans hs.2⟩) ((hIput v).same (fun _=>Iff.rfl) fun k hk=>(e4 k hk).symm) hDC' e1 e2 e3
        rw[hlook.wanted]
        cases hwant:Region.wanted o (yielded ops A.tmps) with
        | true =>
          rw[hwant] at hc;simp only [if_true];simp only at hc;refine ef_upon2 hτ hpl (hlook.exec (tame hok ho).1) hR' rfl hc fun x v w' hK hx hs' =>?_;obtain ⟨h1,h2⟩:=stab_all hK;exact go x v w' _ hx hs' (fun j f hb hm _=>⟨h2 j f (later_mem hm hb),later_mem hm hb⟩) h1
        | false =>
          rw[hwant] at hc;simp only [Bool.false_eq_true,if_false];simp only at hc;exact ⟨fun _ _=>trivial,go (some ⟨.un,()⟩) undef w rs (fun y hy=>by simp at hy;subst hy;rfl) Same.rfl (fun j f _ hm hf=>⟨hf,hm⟩) hc⟩
end
theorem get_forget:∀(ms:List Nat) (ρ : Env) (t:Nat) (v:SV),(forget ms ρ).get t=some v→t∉ms ∧ ρ.get t=some v:=by
 intro ms
 induction ms with
 | nil=>intro ρ t v h;exact ⟨by simp,h⟩
 | cons m r ih =>
   intro ρ t v h;simp only [forget] at h;split at h
   ·rw[get_cons] at h;split at h
    ·simp at h
    ·rename_i hne
     obtain ⟨a,b⟩:=ih _ _ _ h;exact ⟨by simp;exact ⟨fun e=>hne e.symm,a⟩,b⟩
   ·rename_i hn
    obtain ⟨a,b⟩:=ih _ _ _ h;refine ⟨?_,b⟩;simp;exact ⟨fun e=>by subst e;rw[b] at hn;simp at hn,a⟩
theorem asSlot_sv {k:Kd} {v:SV} {y:k.Ty} (h:asSlot k v=some y):(svOf k y).val=v.val∧(∀ds,v=⟨.d,ds⟩→svOf k y=v):=by
 have gen:v.as k=some y→svOf k y=⟨k,y⟩→(svOf k y).val=v.val∧(∀ds,v=⟨.d,ds⟩→svOf k y=v):=by
  intro h1 h2;have:=as_some h1;subst this;exact ⟨by rw[h2],fun _ _=>h2⟩
 cases k
 case l=>
  obtain ⟨k',z⟩:=v
  cases k'
  case p=>
   cases z with
   | none=>simp[asSlot,SV.as] at h
   | some z=>simp[asSlot] at h;subst h;exact ⟨rfl,fun ds hd=>by simp at hd⟩
  case l=>
   simp[asSlot,SV.as] at h;subst h;exact ⟨rfl,fun ds hd=>by simp at hd⟩
  all_goals simp[asSlot,SV.as] at h
 all_goals exact gen h rfl
theorem rel_bind {ρ':Env} {a':Act} (h':Rel ρ' a'):∀(s:Slots) (x:(slotsKd s).Ty) (ρ0:Env),getT s ρ'=some x→Rel ρ0 a'→Rel (bindT s x ρ0) a':=by
 intro s
 induction s with
 | nil=>intro x ρ0 _ h;exact h
 | cons q r ih =>
   obtain ⟨t,k⟩:=q;intro x ρ0 hg h;simp only [getT] at hg;split at hg
   ·rename_i v hv
    split at hg
    ·rename_i y z hy hz
     simp at hg;subst hg;have hr:=ih z ρ0 hz h;obtain ⟨e1,e2⟩:=asSlot_sv hy;simp only [bindT]
     constructor
     ·intro t' u ht hu;rw[get_cons] at hu;split at hu
      ·rename_i e;subst e;simp at hu;subst hu;rw[e1];exact h'.t _ _ ht hv
      ·exact hr.t _ _ ht hu
     ·intro u hu;rw[get_cons] at hu;split at hu
      ·rename_i e;subst e
       simp at hu;subst hu;obtain ⟨ds,rfl,hd⟩:=h'.d _ hv;exact ⟨ds,e2 ds rfl,hd⟩
      ·exact hr.d _ hu
    ·simp at hg
   ·simp at hg
theorem rel_forget {ρ : Env} {a a':Act} {ms:List Nat} (h:Rel ρ a) (hk:Kept ms a a'):Rel (forget ms ρ) a':=by
 constructor
 ·intro t v ht hv;obtain ⟨h1,h2⟩:=get_forget _ _ _ _ hv;rw[hk.t t h1];exact h.t t v ht h2
 ·intro v hv;obtain ⟨h1,h2⟩:=get_forget _ _ _ _ hv;rw[hk.d h1];exact h.d v h2
theorem tup_some {s:Slots} {ρ : Env} {K:(slotsKd s).Ty→Prop} (h:tup s ρ K):∃x,getT s ρ = some x∧K x:=by
 unfold tup at h;split at h
 ·rename_i x hx;exact ⟨x,hx,h⟩
 ·exact h.elim
theorem rel_join {ρ ρ':Env} {a a':Act} {ms:List Nat} {s:Slots} {x:(slotsKd s).Ty} (h:Rel ρ a) (hk:Kept ms a a') (h':Rel ρ' a') (hx:getT s ρ'=some x):Rel (bindT s x (forget ms ρ)) a':=
 rel_bind h' s x _ hx (rel_forget h hk)
def nodupT:List Nat→Bool
 | []=>true
 | x::r => !(hasN r x)&&nodupT r
def okC (N:Nat):Code→Bool
 | .region _ ops _=>(dsts ops.toList).all fun t=>Nat.blt t N
 | .seq a b=>okC N a&&okC N b
 | .cond _ a b=>okC N a&&okC N b
 | .block _ c=>okC N c
 | .loop c=>okC N c
 | .rangeFunc _ ps x y=>okC N x&&okC N y&&nodupT ps.toList&&ps.toList.all fun t=>Nat.blt t N
 | _=>true
def Qs.at (q:Qs):Exit→Env→Heap→Prop
 | .normal=>q.n
 | .exit id=>q.x id
 | .ret=>q.r
 | _=>fun _ _=>False
def Post (q:Qs) (w0:World) (a0:Act) (ms:List Nat) (e:Exit) (a:Act) (w:World):Prop:=
 Same w0 w∧Kept ms a0 a∧∃ ρ,Rel ρ a∧q.at e ρ w.heap
theorem Same.trans {a b c:World} (h:Same a b) (h':Same b c):Same a c:=⟨h'.1.trans h.1,h'.2.trans h.2⟩
theorem okDsts_of {N:Nat} (hN:N≤DS) {l:List Oper} (h:((dsts l).all fun t=>Nat.blt t N)=true):okDsts N l:=by
 intro o ho t ht;have:=mem_dsts ho t ht;have:=List.all_eq_true.1 h t this;simp at this;exact ⟨this,by omega⟩
def setT:List Nat→List Value→Array Value→Array Value
 | p::ps,v::vs,T=>setT ps vs (T.setIfInBounds p v)
 | _,_,T=>T
theorem setT_size:∀(ps:List Nat) (vs:List Value) (T:Array Value),(setT ps vs T).size=T.size:=by
 intro ps
 induction ps with
 | nil=>intro vs T;rfl
 | cons p r ih =>
   intro vs T
   cases vs with
   | nil=>rfl
   | cons v vs=>simp only [setT];rw[ih];simp
theorem setT_eq (ps:Array Tmp) (vs:List Value) (T:Array Value):(ps.zip vs.toArray).foldl (fun tmps (x:Tmp×Value)=>tmps.setIfInBounds x.1 x.2) T=setT ps.toList vs T:=by
 rw[←Array.foldl_toList,Array.toList_zip];generalize ps.toList=l
 induction l generalizing vs T with
 | nil=>simp[setT]
 | cons p r ih =>
   cases vs with
   | nil=>simp[setT]
   | cons v vs=>simp only [List.zip_cons_cons,List.foldl_cons,setT];exact ih vs _
theorem hasN_mem {l:List Nat} {t:Nat} (h:hasN l t=false):t∉l:=by
 induction l with
 | nil=>simp
 | cons x r ih =>
   simp only [hasN] at h;split at h
   ·simp at h
   ·rename_i hb
    have:¬x=t:=fun e=>by subst e;simp at hb
    simp only [List.mem_cons,not_or];exact ⟨fun e=>this e.symm,ih h⟩
theorem setT_off:∀(ps:List Nat) (vs:List Value) (T:Array Value) (t:Nat),t∉ps→(setT ps vs T)[t]? = T[t]? := by
 intro ps
 induction ps with
 | nil=>intro vs T t _;rfl
 | cons p r ih =>
   intro vs T t ht;simp only [List.mem_cons,not_or] at ht
   cases vs with
   | nil=>rfl
   | cons v vs =>
     simp only [setT];rw[ih _ _ _ ht.2,Array.getElem?_setIfInBounds,if_neg (fun e=>ht.1 e.symm)]
def namesS:Slots→List Nat
 | []=>[]
 | (t,_)::r=>t::namesS r
theorem sameT_names:∀(s:Slots) (ps:List Nat),sameT s ps=true→ps=namesS s:=by
 intro s
 induction s with
 | nil=>intro ps h;cases ps with | nil=>rfl | cons p r=>simp[sameT] at h
 | cons q s ih =>
   obtain ⟨t,k⟩:=q;intro ps h
   cases ps with
   | nil=>simp[sameT] at h
   | cons p r =>
     simp only [sameT,Bool.and_eq_true] at h;have e:t=p:=Nat.eq_of_beq_eq_true h.1;rw[ih r h.2,←e];rfl
def ValsS (tm:Array Value):(s:Slots)→(slotsKd s).Ty→Prop
 | [],_=>True
 | (t,k)::r,x=>tm[t]? = some (svOf k x.1).val∧ValsS tm r x.2
theorem vals_set:∀(s:Slots) (x:(slotsKd s).Ty) (T:Array Value),nodupT (namesS s)=true→(∀p∈namesS s,p<T.size)→ValsS (setT (namesS s) (slVals s x) T) s x:=by
 intro s
 induction s with
 | nil=>intro x T _ _;trivial
 | cons q s ih =>
   obtain ⟨t,k⟩:=q;intro x T h1 h2;simp only [namesS,nodupT,Bool.and_eq_true,Bool.not_eq_true'] at h1;have hnm:=hasN_mem h1.1;have hlt:=h2 t (by simp[namesS]);simp only [namesS,slVals,setT];refine ⟨?_,ih x.2 _ h1.2 (fun p hp=>by have:=h2 p (by simp[namesS,hp]);simpa using this)⟩;rw[setT_off _ _ _ _ hnm,Array.getElem?_setIfInBounds,if_pos rfl,if_pos hlt]
theorem bind_get {tm:Array Value} {ρ0:Env}:∀(s:Slots) (x:(slotsKd s).Ty) (E:List Nat),ValsS tm s x→(∀t v,t≠DS→t∉E→t∉namesS s → ρ0.get t=some v→tm[t]? = some v.val) →
 ∀t v,t≠DS→t∉E→(bindT s x ρ0).get t=some v→tm[t]? = some v.val:=by
 intro s
 induction s with
 | nil=>intro x E _ h t v h1 h2 h3;exact h t v h1 h2 (by simp[namesS]) h3
 | cons q s ih =>
   obtain ⟨t0,k⟩:=q;intro x E hv h t v h1 h2 h3;simp only [bindT] at h3;rw[get_cons] at h3;split at h3
   ·rename_i e;subst e;cases h3;exact hv.1
   ·rename_i e
    refine ih x.2 (t0::E) hv.2 (fun t2 v2 q1 q2 q3 q4=>h t2 v2 q1 (fun hm=>q2 (by simp[hm])) (fun hm =>?_) q4) t v h1 (fun hm =>?_) h3
    ·simp only [namesS,List.mem_cons] at hm;rcases hm with hm | hm
     ·exact q2 (by simp[hm])
     ·exact q3 hm
    ·simp only [List.mem_cons] at hm;rcases hm with hm | hm
     ·exact e hm.symm
     ·exact h2 hm
theorem bind_DS {ρ0:Env}:∀(s:Slots) (x:(slotsKd s).Ty),(∀p∈namesS s,p≠DS)→(bindT s x ρ0).get DS = ρ0.get DS:=by
 intro s
 induction s with
 | nil=>intro x _;rfl
 | cons q s ih =>
   obtain ⟨t,k⟩:=q;intro x h;simp only [bindT];rw[get_cons,if_neg (h t (by simp[namesS]))];exact ih x.2 fun p hp=>h p (by simp[namesS,hp])
theorem rel_round {s:Slots} {ps:List Nat} {x:(slotsKd s).Ty} {a:Act} {ρ : Env} (h1:sameT s ps=true) (h2:nodupT ps=true) (h3:∀p∈ps,p<a.tmps.size∧p≠DS) (h4:Rel ρ a) :
 Rel (bindT s x ((DS,some ⟨.d,[]⟩) :: ρ)) { tmps:=setT ps (slVals s x) a.tmps,defers:=[] }:=by
 have e:=sameT_names s ps h1;subst e;refine ⟨fun t v ht hv=>bind_get s x [] (vals_set s x a.tmps h2 fun p hp=>(h3 p hp).1) (fun t2 v2 q1 _ q3 q4 =>?_) t v ht (by simp) hv,fun v hv =>?_⟩
 ·rw[get_cons,if_neg (fun e=>q1 e.symm)] at q4;rw[setT_off _ _ _ _ q3];exact h4.t t2 v2 q1 q4
 ·rw[bind_DS s x (fun p hp=>(h3 p hp).2),get_cons,if_pos rfl] at hv
  cases hv
  exact ⟨[],rfl,rfl⟩
theorem slVals_len:∀(s:Slots) (x:(slotsKd s).Ty),(slVals s x).length=(namesS s).length:=by
 intro s
 induction s with
 | nil=>intro x;rfl
 | cons q s ih=>obtain ⟨t,k⟩:=q;intro x;simp only [slVals,namesS,List.length_cons];rw[ih]
theorem sameT_len (s:Slots) {ps:Array Nat} (x:(slotsKd s).Ty) (h:sameT s ps.toList=true):(slVals s x).length=ps.size:=by
 rw[slVals_len,←sameT_names s _ h];simp
def recO (r:Loop) (i:Nat):LSt→Obj
 | .brk => .loop { r with state := .done,pending:=some (.exit i) }
 | .ovx => .loop { r with state := .exhausted,pending:=some (.exit i) }
 | .ready => .loop r
 | .busy => .loop { r with state := .busy }
 | .done => .loop { r with state := .done,pending:=some .ret }
 | .over false => .loop { r with state := .exhausted }
 | .over true => .loop { r with state := .exhausted,pending:=some .ret }
theorem rf_sound {P:Program} {τ : Tys} {an:Ann} {N:Nat} {g:Operand} {ps:Array Tmp} {x y:Code} {ρ : Env} {a:Act} {w:World} {fv:Value} {s:Slots} {ds:List Nat} {q:Qs} (hN:N≤DS) (hs:a.tmps.size=N)
 (ihx:∀(l:Nat) (q:Qs) (ρ : Env) (h:Heap) (a:Act) (w:World),cC P τ an x ρ h q→Rel ρ a→w.heap=h→a.tmps.size=N→x.wpIn (Fw (some l)) 0 P (Post q w a (mods x)) a w)
 (ihy:∀(l:Nat) (q:Qs) (ρ : Env) (h:Heap) (a:Act) (w:World),cC P τ an y ρ h q→Rel ρ a→w.heap=h→a.tmps.size=N→y.wpIn (Fw (some l)) 0 P (Post q w a (mods y)) a w)
 (hnd:nodupT ps.toList=true) (hlt:(ps.toList.all fun t=>Nat.blt t N)=true) (hv:ev ρ g=some ⟨.f,fv⟩) (hdv : ρ.get DS=some ⟨.d,ds⟩) (hst:sameT s ps.toList=true)
 (hc:rf P fv (slotsKd s).Ty (slVals s) w.heap
  (fun z h1 bg kn kr=>cC P τ an x (bindT s z ((DS,some ⟨.d,[]⟩) :: ρ)) h1
   { n:=fun ρ h2=>bg h2 fun h3=>cC P τ an y ρ h3 { n:=fun _ h=>kn h,x:=fun _ _ _=>False,r:=fun _ h=>kr h },x:=fun _ _ _=>False,r:=fun _ _=>False })
  (fun d h2=>q.n ((DS,some ⟨.d,d::ds⟩) :: ρ) h2) (fun d h2=>q.r ((DS,some ⟨.d,d::ds⟩) :: ρ) h2))
 (hR:Rel ρ a):(Code.rangeFunc g ps x y).wpIn (Fw none) 0 P (Post q w a (mods (Code.rangeFunc g ps x y))) a w:=by
 obtain ⟨⟨f,fn,first,cap,rfl,hfn,hname,hbody⟩,hc⟩:=hc;refine wpIn_rangeFunc fun fnid _ =>?_;have hg:a.eval g = .func (.func f) first cap:=hR.agree g _ hv
 have hpsz:∀p∈ps.toList,p<a.tmps.size∧p≠DS:=fun p hp=>by
  have h0:Nat.ble (Nat.succ p) N=true:=List.all_eq_true.1 hlt p hp;have h1:Nat.succ p≤N:=Nat.le_of_ble_eq_true h0;exact ⟨Nat.lt_of_lt_of_le h1 (Nat.le_of_eq hs.symm),Nat.ne_of_lt (Nat.lt_of_lt_of_le h1 hN)⟩
 obtain ⟨dsv,e1,hdf⟩:=hR.d _ hdv
 cases e1
 let r0:Loop:={ state := .ready,pending:=none,fn:=fnid,tmps:=a.tmps,params:=ps,assign:=x,body:=y,defers:=w.heap.size }
 have hc:=hc (recO r0 0)
 let W1:World:={ w with heap:=(w.heap.push (.deferred (some []))).push (.loop r0) }
 let args:Array Value:=first++(#[yv (w.heap.size+1)]++cap)
 refine ⟨w.heap.size+1,[mark1 w.heap.size],W1,{ target := .fn (.func f) cap,args:=first ++ #[yv (w.heap.size+1)] },W1,f,first ++ #[yv (w.heap.size+1)]++cap,W1,?_,?_,fun _ _=>trivial,?_,fun h=>by simp[Fw,Fence.wide] at h,?_⟩
 ·simp[Instr.enterLoop,Fw,Fence.wide,newObj,Sem.run,W1,r0,mark1]
  rfl
 ·simp[resolve,Deferred.ofValue,hg]
  rfl
 ·have hn' : ¬ fn.name = "runtime.NumGoroutine" := by simpa using hname
  obtain ⟨c,hcb⟩:=Option.isSome_iff_exists.1 hbody;simp[invoke,callFunc,hfn,hn',hcb]
 ·have hn' : ¬ fn.name = "runtime.NumGoroutine" := by simpa using hname
  obtain ⟨c,hcb⟩:=Option.isSome_iff_exists.1 hbody;have henter:∀aa,(callFunc f aa).run P W1 = .ok (.enter f aa) W1:=fun aa=>by simp[callFunc,hfn,hn',hcb]
  have hcall:=hc ?_ W1 rfl
  ·rw[henter] at hcall;have hcall:CallsIn Fence.wide 0 P f _ W1 _:=hcall;have e1:(first.toList++[yv (w.heap.size+1)]++cap.toList).toArray=first ++ #[yv (w.heap.size+1)]++cap:=by apply Array.toList_inj.1;simp
   rw[e1] at hcall;refine callsIn_fw (CallsIn.mono hcall ?_);rintro e w3 ⟨v,rfl,z,_,h1,h2,hk⟩;have hKept:Kept (mods (Code.rangeFunc g ps x y)) a { a with defers:=[mark1 w.heap.size]++a.defers }:=⟨_root_.rfl,fun t _=>_root_.rfl,fun h=>absurd (by simp[mods]) h⟩
   have hRel:Rel ((DS,some ⟨.d,w.heap.size::ds⟩) :: ρ) { a with defers:=[mark1 w.heap.size]++a.defers }:=by
    refine ⟨fun t v ht hv =>?_,fun v hv =>?_⟩
    ·rw[get_cons,if_neg (fun e=>ht e.symm)] at hv;exact hR.t t v ht hv
    ·rw[get_cons,if_pos rfl] at hv
     cases hv
     exact ⟨_,rfl,by simp[hdf]⟩
   rcases hk with ⟨hl,hn⟩ | ⟨hl,hn⟩
   ·refine ⟨none,{ w3 with heap:=w3.heap.setIfInBounds (w.heap.size+1) (recO r0 0 (.over false)) },?_,?_⟩
    ·simp only [recO] at hl;simp[Instr.endLoop,Instr.getLoop,getObj,setObj,Sem.run,hl,recO,r0]
    ·exact ⟨⟨h1,h2⟩,hKept,_,hRel,hn⟩
   ·refine ⟨some .ret,{ w3 with heap:=w3.heap.setIfInBounds (w.heap.size+1) (recO r0 0 (.over true)) },?_,?_⟩
    ·simp only [recO] at hl;simp[Instr.endLoop,Instr.getLoop,getObj,setObj,Sem.run,hl,recO,r0]
    ·exact wpIn_ret ⟨⟨h1,h2⟩,hKept,_,hRel,hn⟩
  ·intro z h1 K hl1 hb w1 hw1
   have hyr:(Instr.yield (w.heap.size+1) (#[]++(slVals s z).toArray)).run P w1 = .ok (.round (w.heap.size+1) fnid (setT ps.toList (slVals s z) a.tmps) x y) w1:=by
    rw[←hw1] at hl1;simp only [recO] at hl1;have hle:=sameT_len s z hst;rw[←setT_eq];simp[Instr.yield,Instr.getLoop,getObj,Sem.run,hl1,r0,hle]
   rw[hyr];show RoundIn Fence.wide 0 P _ _ _ _ _ _ _;refine roundIn_of_wpIn trivial ?_;have hx:=ihx (w.heap.size+1) _ _ h1 { tmps:=setT ps.toList (slVals s z) a.tmps,defers:=[] } w1 hb (rel_round hst hnd hpsz hR) hw1 ((setT_size _ _ _).trans hs);refine Code.wpIn_mono ?_ hx;rintro e a1 w2 ⟨hs1,hk1,ρ1,hR1,hq1⟩
   cases e with
   | normal =>
     obtain ⟨hl2,hb2⟩:=hq1;refine ⟨{ w2 with heap:=w2.heap.setIfInBounds (w.heap.size+1) (recO r0 0 .busy) },?_,?_⟩
     ·simp only [recO] at hl2;simp[Instr.beginRound,Instr.getLoop,getObj,setObj,Sem.run,hl2,recO,r0]
     ·have hy:=ihy (w.heap.size+1) _ ρ1 _ a1 { w2 with heap:=w2.heap.setIfInBounds (w.heap.size+1) (recO r0 0 .busy) } hb2 hR1 _root_.rfl (hk1.size.trans ((setT_size _ _ _).trans hs));refine Code.wpIn_mono ?_ hy;rintro e a2 w3 ⟨hs2,hk2,ρ2,hR2,hq2⟩
      cases e with
      | normal =>
        obtain ⟨hl3,hK⟩:=hq2;refine ⟨.bool true,{ w3 with heap:=w3.heap.setIfInBounds (w.heap.size+1) (recO r0 0 .ready) },?_,_,rfl,true,rfl,?_,?_,hK⟩
        ·simp only [recO] at hl3;simp[Instr.endRound,Instr.getLoop,getObj,setObj,Sem.run,hl3,recO,r0]
        ·exact hs2.1.trans hs1.1
        ·exact hs2.2.trans hs1.2
      | ret =>
        obtain ⟨hl3,hK⟩:=hq2;refine ⟨.bool false,{ w3 with heap:=w3.heap.setIfInBounds (w.heap.size+1) (recO r0 0 .done) },?_,_,rfl,false,rfl,?_,?_,hK⟩
        ·simp only [recO] at hl3;simp[Instr.endRound,Instr.getLoop,getObj,setObj,Sem.run,hl3,recO,r0]
        ·exact hs2.1.trans hs1.1
        ·exact hs2.2.trans hs1.2
      | exit i=>exact hq2.elim
      | goto l=>exact hq2.elim
      | panic c=>exact hq2.elim
      | outgrown=>exact hq2.elim
   | ret=>exact hq1.elim
   | exit i=>exact hq1.elim
   | goto l=>exact hq1.elim
   | panic c=>exact hq1.elim
   | outgrown=>exact hq1.elim
theorem rfx_sound {P:Program} {τ : Tys} {an:Ann} {N:Nat} {g:Operand} {ps:Array Tmp} {x y:Code} {ρ : Env} {a:Act} {w:World} {fv:Value} {s:Slots} {ds:List Nat} {q:Qs} {i:Nat} (hN:N≤DS) (hs:a.tmps.size=N)
 (ihx:∀(l:Nat) (q:Qs) (ρ : Env) (h:Heap) (a:Act) (w:World),cC P τ an x ρ h q→Rel ρ a→w.heap=h→a.tmps.size=N→x.wpIn (Fw (some l)) 0 P (Post q w a (mods x)) a w)
 (ihy:∀(l:Nat) (q:Qs) (ρ : Env) (h:Heap) (a:Act) (w:World),cC P τ an y ρ h q→Rel ρ a→w.heap=h→a.tmps.size=N→y.wpIn (Fw (some l)) 0 P (Post q w a (mods y)) a w)
 (hnd:nodupT ps.toList=true) (hlt:(ps.toList.all fun t=>Nat.blt t N)=true) (hv:ev ρ g=some ⟨.f,fv⟩) (hdv : ρ.get DS=some ⟨.d,ds⟩) (hst:sameT s ps.toList=true)
 (hc:rfx P fv (slotsKd s).Ty (slVals s) w.heap
  (fun z h1 bg kn kr kx=>cC P τ an x (bindT s z ((DS,some ⟨.d,[]⟩) :: ρ)) h1
   { n:=fun ρ h2=>bg h2 fun h3=>cC P τ an y ρ h3 { n:=fun _ h=>kn h,x:=fun j _ h=>match Nat.beq j i with | true=>kx h | false=>False,r:=fun _ h=>kr h },x:=fun _ _ _=>False,r:=fun _ _=>False })
  (fun d h2=>q.n ((DS,some ⟨.d,d::ds⟩) :: ρ) h2) (fun d h2=>q.r ((DS,some ⟨.d,d::ds⟩) :: ρ) h2) (fun d h2=>q.x i ((DS,some ⟨.d,d::ds⟩) :: ρ) h2))
 (hR:Rel ρ a):(Code.rangeFunc g ps x y).wpIn (Fw none) 0 P (Post q w a (mods (Code.rangeFunc g ps x y))) a w:=by
 obtain ⟨⟨f,fn,first,cap,rfl,hfn,hname,hbody⟩,hc⟩:=hc;refine wpIn_rangeFunc fun fnid _ =>?_;have hg:a.eval g = .func (.func f) first cap:=hR.agree g _ hv
 have hpsz:∀p∈ps.toList,p<a.tmps.size∧p≠DS:=fun p hp=>by
  have h0:Nat.ble (Nat.succ p) N=true:=List.all_eq_true.1 hlt p hp;have h1:Nat.succ p≤N:=Nat.le_of_ble_eq_true h0;exact ⟨Nat.lt_of_lt_of_le h1 (Nat.le_of_eq hs.symm),Nat.ne_of_lt (Nat.lt_of_lt_of_le h1 hN)⟩
 obtain ⟨dsv,e1,hdf⟩:=hR.d _ hdv
 cases e1
 let r0:Loop:={ state := .ready,pending:=none,fn:=fnid,tmps:=a.tmps,params:=ps,assign:=x,body:=y,defers:=w.heap.size }
 have hc:=hc (recO r0 i)
 let W1:World:={ w with heap:=(w.heap.push (.deferred (some []))).push (.loop r0) }
 let args:Array Value:=first++(#[yv (w.heap.size+1)]++cap)
 refine ⟨w.heap.size+1,[mark1 w.heap.size],W1,{ target := .fn (.func f) cap,args:=first ++ #[yv (w.heap.size+1)] },W1,f,first ++ #[yv (w.heap.size+1)]++cap,W1,?_,?_,fun _ _=>trivial,?_,fun h=>by simp[Fw,Fence.wide] at h,?_⟩
 ·simp[Instr.enterLoop,Fw,Fence.wide,newObj,Sem.run,W1,r0,mark1]
  rfl
 ·simp[resolve,Deferred.ofValue,hg]
  rfl
 ·have hn' : ¬ fn.name = "runtime.NumGoroutine" := by simpa using hname
  obtain ⟨c,hcb⟩:=Option.isSome_iff_exists.1 hbody;simp[invoke,callFunc,hfn,hn',hcb]
 ·have hn' : ¬ fn.name = "runtime.NumGoroutine" := by simpa using hname
  obtain ⟨c,hcb⟩:=Option.isSome_iff_exists.1 hbody;have henter:∀aa,(callFunc f aa).run P W1 = .ok (.enter f aa) W1:=fun aa=>by simp[callFunc,hfn,hn',hcb]
  have hcall:=hc ?_ W1 rfl
  ·rw[henter] at hcall;have hcall:CallsIn Fence.wide 0 P f _ W1 _:=hcall;have e1:(first.toList++[yv (w.heap.size+1)]++cap.toList).toArray=first ++ #[yv (w.heap.size+1)]++cap:=by apply Array.toList_inj.1;simp
   rw[e1] at hcall;refine callsIn_fw (CallsIn.mono hcall ?_);rintro e w3 ⟨v,rfl,z,_,h1,h2,hk⟩;have hKept:Kept (mods (Code.rangeFunc g ps x y)) a { a with defers:=[mark1 w.heap.size]++a.defers }:=⟨_root_.rfl,fun t _=>_root_.rfl,fun h=>absurd (by simp[mods]) h⟩
   have hRel:Rel ((DS,some ⟨.d,w.heap.size::ds⟩) :: ρ) { a with defers:=[mark1 w.heap.size]++a.defers }:=by
    refine ⟨fun t v ht hv =>?_,fun v hv =>?_⟩
    ·rw[get_cons,if_neg (fun e=>ht e.symm)] at hv;exact hR.t t v ht hv
    ·rw[get_cons,if_pos rfl] at hv
     cases hv
     exact ⟨_,rfl,by simp[hdf]⟩
   rcases hk with ⟨hl,hn⟩ | ⟨hl,hn⟩ | ⟨hl,hn⟩
   ·refine ⟨none,{ w3 with heap:=w3.heap.setIfInBounds (w.heap.size+1) (recO r0 i (.over false)) },?_,?_⟩
    ·simp only [recO] at hl;simp[Instr.endLoop,Instr.getLoop,getObj,setObj,Sem.run,hl,recO,r0]
    ·exact ⟨⟨h1,h2⟩,hKept,_,hRel,hn⟩
   ·refine ⟨some .ret,{ w3 with heap:=w3.heap.setIfInBounds (w.heap.size+1) (recO r0 i (.over true)) },?_,?_⟩
    ·simp only [recO] at hl;simp[Instr.endLoop,Instr.getLoop,getObj,setObj,Sem.run,hl,recO,r0]
    ·exact wpIn_ret ⟨⟨h1,h2⟩,hKept,_,hRel,hn⟩
   ·refine ⟨some (.exit i),{ w3 with heap:=w3.heap.setIfInBounds (w.heap.size+1) (recO r0 i .ovx) },?_,?_⟩
    ·simp only [recO] at hl;simp[Instr.endLoop,Instr.getLoop,getObj,setObj,Sem.run,hl,recO,r0]
    ·exact wpIn_exit ⟨⟨h1,h2⟩,hKept,_,hRel,hn⟩
  ·intro z h1 K hl1 hb w1 hw1
   have hyr:(Instr.yield (w.heap.size+1) (#[]++(slVals s z).toArray)).run P w1 = .ok (.round (w.heap.size+1) fnid (setT ps.toList (slVals s z) a.tmps) x y) w1:=by
    rw[←hw1] at hl1;simp only [recO] at hl1;have hle:=sameT_len s z hst;rw[←setT_eq];simp[Instr.yield,Instr.getLoop,getObj,Sem.run,hl1,r0,hle]
   rw[hyr];show RoundIn Fence.wide 0 P _ _ _ _ _ _ _;refine roundIn_of_wpIn trivial ?_;have hx:=ihx (w.heap.size+1) _ _ h1 { tmps:=setT ps.toList (slVals s z) a.tmps,defers:=[] } w1 hb (rel_round hst hnd hpsz hR) hw1 ((setT_size _ _ _).trans hs);refine Code.wpIn_mono ?_ hx;rintro e a1 w2 ⟨hs1,hk1,ρ1,hR1,hq1⟩
   cases e with
   | normal =>
     obtain ⟨hl2,hb2⟩:=hq1;refine ⟨{ w2 with heap:=w2.heap.setIfInBounds (w.heap.size+1) (recO r0 i .busy) },?_,?_⟩
     ·simp only [recO] at hl2;simp[Instr.beginRound,Instr.getLoop,getObj,setObj,Sem.run,hl2,recO,r0]
     ·have hy:=ihy (w.heap.size+1) _ ρ1 _ a1 { w2 with heap:=w2.heap.setIfInBounds (w.heap.size+1) (recO r0 i .busy) } hb2 hR1 _root_.rfl (hk1.size.trans ((setT_size _ _ _).trans hs));refine Code.wpIn_mono ?_ hy;rintro e a2 w3 ⟨hs2,hk2,ρ2,hR2,hq2⟩
      cases e with
      | normal =>
        obtain ⟨hl3,hK⟩:=hq2;refine ⟨.bool true,{ w3 with heap:=w3.heap.setIfInBounds (w.heap.size+1) (recO r0 i .ready) },?_,_,rfl,true,rfl,?_,?_,hK⟩
        ·simp only [recO] at hl3;simp[Instr.endRound,Instr.getLoop,getObj,setObj,Sem.run,hl3,recO,r0]
        ·exact hs2.1.trans hs1.1
        ·exact hs2.2.trans hs1.2
      | ret =>
        obtain ⟨hl3,hK⟩:=hq2;refine ⟨.bool false,{ w3 with heap:=w3.heap.setIfInBounds (w.heap.size+1) (recO r0 i .done) },?_,_,rfl,false,rfl,?_,?_,hK⟩
        ·simp only [recO] at hl3;simp[Instr.endRound,Instr.getLoop,getObj,setObj,Sem.run,hl3,recO,r0]
        ·exact hs2.1.trans hs1.1
        ·exact hs2.2.trans hs1.2
      | exit k =>
        simp only [Qs.at] at hq2;split at hq2
        ·rename_i hk
         obtain rfl:k=i:=Nat.eq_of_beq_eq_true hk;obtain ⟨hl3,hK⟩:=hq2;refine ⟨.bool false,{ w3 with heap:=w3.heap.setIfInBounds (w.heap.size+1) (recO r0 k .brk) },?_,_,rfl,false,rfl,?_,?_,hK⟩
         ·simp only [recO] at hl3;simp[Instr.endRound,Instr.getLoop,getObj,setObj,Sem.run,hl3,recO,r0]
         ·exact hs2.1.trans hs1.1
         ·exact hs2.2.trans hs1.2
        ·exact hq2.elim
      | goto l=>exact hq2.elim
      | panic c=>exact hq2.elim
      | outgrown=>exact hq2.elim
   | ret=>exact hq1.elim
   | exit i=>exact hq1.elim
   | goto l=>exact hq1.elim
   | panic c=>exact hq1.elim
   | outgrown=>exact hq1.elim
section
variable {P:Program} {τ : Tys} {an:Ann} (hτ : TysOk P τ) (hpl:∀t ti,τ.get t=some ti→ti.plain=true→plainOk P τ t ti=true) (hmix:P.follows .mixedOrders=true)
include hτ hpl hmix
theorem cDraw_sound {ro:Option Nat} {id:Nat} {ops:Array Oper} {N:Nat} (hd:okDsts N ops.toList) {Q:Exit→Act→World→Prop} {K:Env→Heap→Prop} {a:Act} {w:World} {ρ : Env} {h:Heap} (hN:a.tmps.size=N)
 (hQ:∀ ρ' a' w',Rel ρ' a'→K ρ' w'.heap→Same w w'→Kept (dsts ops.toList) a a'→Q .normal a' w') (hc:cDraw P τ ops.toList ρ h K) (hR:Rel ρ a) (hw:w.heap=h) :
 (Code.region id ops true).wpIn (Fw ro) 0 P Q a w:=by
 unfold cDraw at hc;split at hc
 ·rename_i hok
  subst hN;refine wpIn_region_any hmix ?_;have hz:∀k,¬bits 0 k:=fun k=>by simp[bits,bit_zero]
  have hl:∀k,¬Lof (Array.replicate ops.size false) k:=by
   intro k;unfold Lof;rw[Array.getElem?_replicate];split <;> simp
  have hI:∀S:Nat→Prop,(∀k,¬S k)→Is ops a (fun _=>undef) S a:=fun S hS=>⟨fun i o t _ _ h=>absurd h (hS i),fun _ _=>rfl,rfl,rfl⟩
  have hC:Can P τ ops a (Lof (Array.replicate ops.size false)) 0 [] ρ w.heap (fun _=>undef) a:=
   ⟨hR,hI _ hz,fun i hi=>absurd hi (hz i),fun i hi=>absurd hi (hl i),fun j o _ hj _=>absurd hj (hz j)⟩
  subst hw;obtain ⟨n',d',rs',ρ',V',A',e1,e2,e3,e4⟩:=norm hτ hpl hok hd _ _ _ _ _ _ hc hC;refine draw_main hτ hpl hok hd (w0:=w) hQ ops.size _ a { w with drawn:=w.drawn+1 } n' d' rs' ρ' V' A' (by simp) ?_ ⟨rfl,rfl⟩ ((hI _ hl).same (fun _=>Iff.rfl) fun k hk=>absurd hk (hl k)) (fun i hi=>absurd hi (hl i)) e1 e2 e3;refine Nat.le_trans (List.length_filter_le _ _) ?_;simp
 ·exact hc.elim
theorem cReg_sound {ro:Option Nat} {id:Nat} {ops:Array Oper} {dr:Bool} {N:Nat} (hd:okDsts N ops.toList) {Q:Exit→Act→World→Prop} {K:Env→Heap→Prop} {a:Act} {w:World} {ρ : Env} {h:Heap} (hN:a.tmps.size=N)
 (hQ:∀ ρ' a' w',Rel ρ' a'→K ρ' w'.heap→Same w w'→Kept (dsts ops.toList) a a'→Q .normal a' w') (hc:cReg P τ ops.toList dr ρ h K) (hR:Rel ρ a) (hw:w.heap=h) :
 (Code.region id ops dr).wpIn (Fw ro) 0 P Q a w:=by
 unfold cReg at hc
 cases dr with
 | true=>exact cDraw_sound hτ hpl hmix hd hN hQ hc hR hw
 | false=>exact wpIn_region_list (cOps_sound hτ hpl hd hN hQ ops.toList (fun _ h=>h) ρ h a w hc hR hw Same.rfl Kept.rfl)
theorem cC_sound {N:Nat} (hN:N≤DS):∀(c:Code),okC N c=true→∀(ro:Option Nat),(ro=none∨noRF c=true)→∀(q:Qs) (ρ : Env) (h:Heap) (a:Act) (w:World),cC P τ an c ρ h q→Rel ρ a→w.heap=h→a.tmps.size=N →
 c.wpIn (Fw ro) 0 P (Post q w a (mods c)) a w:=by
 intro c
 induction c with
 | skip=>intro _ ro hrf q ρ h a w hc hR hw hs;subst hw;exact wpIn_skip ⟨Same.rfl,Kept.rfl,ρ,hR,hc⟩
 | ret=>intro _ ro hrf q ρ h a w hc hR hw hs;subst hw;exact wpIn_ret ⟨Same.rfl,Kept.rfl,ρ,hR,hc⟩
 | exit id=>intro _ ro hrf q ρ h a w hc hR hw hs;subst hw;exact wpIn_exit ⟨Same.rfl,Kept.rfl,ρ,hR,hc⟩
 | region id ops dr =>
   intro hok ro hrf q ρ h a w hc hR hw hs;have hd:=okDsts_of hN hok;simp only [cC] at hc;split at hc
   ·exact cReg_sound hτ hpl hmix hd hs (fun ρ' a' w' h1 h2 h3 h4=>⟨h3,h4,ρ',h1,h2⟩) hc hR hw
   ·rename_i s hs'
    obtain ⟨R,hb,hn⟩:=hc;refine cReg_sound hτ hpl hmix hd hs (fun ρ' a' w' h1 h2 h3 h4 =>?_) hb hR hw;obtain ⟨x,hx,hRx⟩:=tup_some h2;exact ⟨h3,h4,_,rel_join hR h4 h1 hx,hn _ _ hRx⟩
 | seq x y ihx ihy =>
   intro hok ro hrf q ρ h a w hc hR hw hs;simp only [okC,Bool.and_eq_true] at hok;simp only [cC] at hc;refine wpIn_seq (Code.wpIn_mono ?_ (ihx hok.1 ro (hrf.imp id fun e=>(Bool.and_eq_true _ _ ▸ e:noRF x=true∧noRF y=true).1) _ ρ h a w hc hR hw hs));rintro e a' w' ⟨h1,h2,ρ',h3,h4⟩;have hk:Kept (mods (Code.seq x y)) a a':=h2.mono fun t ht=>by simp[mods,ht]
   cases e with
   | normal =>
     have:=ihy hok.2 ro (hrf.imp id fun e=>(Bool.and_eq_true _ _ ▸ e:noRF x=true∧noRF y=true).2) q ρ' _ a' w' h4 h3 _root_.rfl (h2.size.trans hs);refine Code.wpIn_mono ?_ this;rintro e a'' w'' ⟨g1,g2,ρ'',g3,g4⟩;exact ⟨h1.trans g1,hk.trans (g2.mono fun t ht=>by simp[mods,ht]),ρ'',g3,g4⟩
   | exit id=>exact ⟨h1,hk,ρ',h3,h4⟩
   | ret=>exact ⟨h1,hk,ρ',h3,h4⟩
   | goto l=>exact h4.elim
   | panic c=>exact h4.elim
   | outgrown=>exact h4.elim
 | cond c x y ihx ihy =>
   intro hok ro hrf q ρ h a w hc hR hw hs;simp only [okC,Bool.and_eq_true] at hok;simp only [cC] at hc;split at hc
   ·rename_i v hv
    split at hc
    ·rename_i t ht
     rw[asB_some] at ht;subst ht;have hcv:a.eval c = .bool t:=hR.agree c _ hv
     have go:∀q',(if t=true then cC P τ an x ρ h q' else cC P τ an y ρ h q')→(∀e a' w',Post q' w a (mods x++mods y) e a' w'→Post q w a (mods (Code.cond c x y)) e a' w') →
      (Code.cond c x y).wpIn (Fw ro) 0 P (Post q w a (mods (Code.cond c x y))) a w:=by
      intro q' hq hpost;refine wpIn_cond_split hcv (fun ht =>?_) (fun hf =>?_)
      ·subst ht;refine Code.wpIn_mono ?_ (ihx hok.1 ro (hrf.imp id fun e=>(Bool.and_eq_true _ _ ▸ e:noRF x=true∧noRF y=true).1) q' ρ h a w hq hR hw hs);rintro e a' w' ⟨h1,h2,h3⟩;exact hpost _ _ _ ⟨h1,h2.mono fun t ht=>by simp[ht],h3⟩
      ·subst hf;refine Code.wpIn_mono ?_ (ihy hok.2 ro (hrf.imp id fun e=>(Bool.and_eq_true _ _ ▸ e:noRF x=true∧noRF y=true).2) q' ρ h a w (by simpa using hq) hR hw hs);rintro e a' w' ⟨h1,h2,h3⟩;exact hpost _ _ _ ⟨h1,h2.mono fun t ht=>by simp[ht],h3⟩
     split at hc
     ·split at hc
      ·rename_i s _
       obtain ⟨R,hb,hn⟩:=hc;refine go { q with n:=fun ρ h=>tup s ρ fun x=>R x h } (by split at hb <;> simp_all) ?_;rintro e a' w' ⟨h1,h2,ρ',h3,h4⟩
       cases e with
       | normal =>
         obtain ⟨x,hx,hRx⟩:=tup_some h4;exact ⟨h1,h2,_,rel_join hR h2 h3 hx,hn _ _ hRx⟩
       | exit id=>exact ⟨h1,h2,ρ',h3,h4⟩
       | ret=>exact ⟨h1,h2,ρ',h3,h4⟩
       | goto l=>exact h4.elim
       | panic c=>exact h4.elim
       | outgrown=>exact h4.elim
      ·exact go q hc fun e a' w' h=>h
     ·exact go q hc fun e a' w' h=>h
    ·exact hc.elim
   ·exact hc.elim
 | block id c ih =>
   intro hok ro hrf q ρ h a w hc hR hw hs;simp only [okC] at hok;simp only [cC] at hc;split at hc
   ·rename_i s _
    obtain ⟨R,hb,hn⟩:=hc;refine wpIn_block (Code.wpIn_mono ?_ (ih hok ro hrf _ ρ h a w hb hR hw hs));rintro e a' w' ⟨h1,h2,ρ',h3,h4⟩
    cases e with
    | normal =>
      obtain ⟨x,hx,hRx⟩:=tup_some h4;exact ⟨h1,h2,_,rel_join hR h2 h3 hx,hn _ _ hRx⟩
    | exit i =>
      simp only [Qs.at] at h4;simp only [Exit.inBlock];split at h4
      ·rename_i hi
       have:i=id:=Nat.eq_of_beq_eq_true hi;obtain ⟨x,hx,hRx⟩:=tup_some h4;rw[if_pos this];exact ⟨h1,h2,_,rel_join hR h2 h3 hx,hn _ _ hRx⟩
      ·rename_i hi
       have:¬i=id:=fun e=>by subst e;simp at hi
       rw[if_neg this];exact ⟨h1,h2,ρ',h3,h4⟩
    | ret=>exact ⟨h1,h2,ρ',h3,h4⟩
    | goto l=>exact h4.elim
    | panic c=>exact h4.elim
    | outgrown=>exact h4.elim
   ·refine wpIn_block (Code.wpIn_mono ?_ (ih hok ro hrf _ ρ h a w hc hR hw hs));rintro e a' w' ⟨h1,h2,ρ',h3,h4⟩
    cases e with
    | normal=>exact ⟨h1,h2,ρ',h3,h4⟩
    | exit i =>
      simp only [Qs.at] at h4;simp only [Exit.inBlock];split at h4
      ·rename_i hi
       have:i=id:=Nat.eq_of_beq_eq_true hi;rw[if_pos this];exact ⟨h1,h2,ρ',h3,h4⟩
      ·rename_i hi
       have:¬i=id:=fun e=>by subst e;simp at hi
       rw[if_neg this];exact ⟨h1,h2,ρ',h3,h4⟩
    | ret=>exact ⟨h1,h2,ρ',h3,h4⟩
    | goto l=>exact h4.elim
    | panic c=>exact h4.elim
    | outgrown=>exact h4.elim
 | loop c ih =>
   intro hok ro hrf q ρ h a w hc hR hw hs;simp only [okC] at hok;simp only [cC] at hc;split at hc
   ·split at hc
    ·rename_i s _
     obtain ⟨x0,hx0,I,μ,hI,hstep⟩:=tup_some hc
     have key:∀m (x:(slotsKd s).Ty) (a':Act) (w':World),μ x w'.heap<m→I x w'.heap→Rel (bindT s x (forget (mods c) ρ)) a'→Same w w'→Kept (mods c) a a' →
      Code.roundsIn (Fw ro) 0 P c (Post q w a (mods c)) m a' w':=by
      intro m
      induction m with
      | zero=>intro x a' w' hlt;omega
      | succ m ihm =>
        intro x a' w' hlt hIx hRx hsx hkx;rw[roundsIn_succ];refine Code.wpIn_mono ?_ (ih hok ro hrf _ _ _ a' w' (hstep x w'.heap hIx) hRx _root_.rfl (hkx.size.trans hs));rintro e a'' w'' ⟨h1,h2,ρ',h3,h4⟩;have hk2:=hkx.trans h2
        cases e with
        | normal =>
          obtain ⟨y,hy,hIy,hμ⟩:=tup_some h4;exact ihm y a'' w'' (by omega) hIy (rel_join hR hk2 h3 hy) (hsx.trans h1) hk2
        | exit i=>exact ⟨hsx.trans h1,hk2,ρ',h3,h4⟩
        | ret=>exact ⟨hsx.trans h1,hk2,ρ',h3,h4⟩
        | goto l=>exact h4.elim
        | panic c=>exact h4.elim
        | outgrown=>exact h4.elim
     subst hw;exact wpIn_loop_rounds (μ x0 w.heap+1) (key _ x0 a w (by omega) hI (rel_join hR Kept.rfl hR hx0) Same.rfl Kept.rfl)
    ·exact hc.elim
   ·exact hc.elim
 | rangeFunc g ps x y ihx ihy =>
   intro hok ro hrf q ρ h a w hc hR hw hs
   have hro:ro=none:=by
    rcases hrf with e | e
    ·exact e
    ·simp[noRF] at e
   subst hro;subst hw;simp only [okC,Bool.and_eq_true] at hok;obtain ⟨⟨⟨hokx,hoky⟩,hnd⟩,hlt⟩:=hok;simp only [cC] at hc;split at hc
   ·rename_i v r dv hnr hv _ hdv
    rw[Bool.and_eq_true] at hnr;split at hc
    ·rename_i fv s ds hfv _ hds
     rw[asF_some] at hfv;subst hfv;rw[asD_some] at hds;subst hds;split at hc
     ·rename_i hst
      split at hc
      ·exact rf_sound hN hs (fun l q ρ h a w=>ihx hokx (some l) (.inr hnr.1) q ρ h a w) (fun l q ρ h a w=>ihy hoky (some l) (.inr hnr.2) q ρ h a w) hnd hlt hv hdv hst hc hR
      ·exact rfx_sound hN hs (fun l q ρ h a w=>ihx hokx (some l) (.inr hnr.1) q ρ h a w) (fun l q ρ h a w=>ihy hoky (some l) (.inr hnr.2) q ρ h a w) hnd hlt hv hdv hst hc hR
     ·exact hc.elim
    ·exact hc.elim
   ·exact hc.elim
 | _=>intro _ ro hrf q ρ h a w hc;exact hc.elim
end
section
variable {P:Program} {τ : Tys} {an:Ann} (hτ : TysOk P τ) (hpl:∀t ti,τ.get t=some ti→ti.plain=true→plainOk P τ t ti=true) (hmix:P.follows .mixedOrders=true)
def resV (tmps:Array Value):ResultVar→Sem Value
 | .tmp t=>pure (tmps.getD t undef)
 | .cell a t=>do loadVar t (←asAddr (tmps.getD a undef))
include hτ in
theorem res1_sound {k:Kd} {v:ResultVar} {ρ : Env} {a:Act} {w:World} {K:k.Ty→Prop} (hr:res1 τ k v ρ w.heap K) (hR:Rel ρ a):∃x,K x∧(resV a.tmps v).run P w = .ok (k.val x) w:=by
 unfold res1 at hr;split at hr
 ·rename_i t
  split at hr
  ·rename_i s hs
   have hv:=hR.agree _ _ hs;split at hr
   ·rename_i x hx
    have:=as_some hx;subst this;refine ⟨x,hr,?_⟩;simp only [resV,Sem.run_pure];rw[show a.tmps.getD t undef=_ from hv]
    rfl
   ·exact hr.elim
  ·exact hr.elim
 ·rename_i t T
  split at hr
  ·rename_i s k' hs hk
   have hv:=hR.agree _ _ hs;obtain ⟨ti,b1,rfl,b3⟩:=kd_get hk;split at hr
   ·rename_i l hl
    rw[asP_some] at hl;subst hl;obtain ⟨z,hz,hr⟩:=hr;split at hr
    ·rename_i x hx
     have:=as_some hx;simp only [Sigma.mk.injEq] at this;obtain ⟨e,this⟩:=this;subst e;simp at this;subst this;refine ⟨_,hr,?_⟩;have hl:=run_loadVar hτ b1 b3 hz;simp only [resV];rw[show a.tmps.getD t undef=_ from hv];simp[asAddr,hl]
    ·exact hr.elim
   ·exact hr.elim
  ·exact hr.elim
include hτ in
theorem resG_sound:∀ {k:Kd} {rs:List ResultVar} {ρ : Env} {a:Act} {w:World} {K:k.Ty→Prop},resG τ k rs ρ w.heap K→Rel ρ a→∃z,K z∧(rs.mapM (resV a.tmps)).run P w = .ok (Kd.vals k z) w:=by
 intro k
 induction k with
 | pr k1 k2 ih1 ih2 =>
   intro rs ρ a w K hr hR
   cases rs with
   | nil=>simp[resG] at hr
   | cons v vs =>
     simp only [resG] at hr;split at hr
     ·rename_i hn
      obtain ⟨x,hr,hx⟩:=res1_sound hτ hr hR;obtain ⟨y,hK,hy⟩:=ih2 hr hR;refine ⟨(x,y),hK,?_⟩;simp[hx,hy,Kd.vals,val0_val hn]
     ·exact hr.elim
 | un =>
   intro rs ρ a w K hr hR
   cases rs with
   | nil=>exact ⟨(),hr,by simp[Kd.vals]⟩
   | cons v vs=>simp[resG] at hr
 | _=>intro rs ρ a w K hr;cases rs <;> simp[resG] at hr
theorem results_eq (fn:Func) (tmps:Array Value):results fn tmps=(do let vs ←fn.results.mapM (resV tmps);pure (if h:vs.size=1 then vs[0] else .tuple vs)):=by
 unfold results
 congr 1
include hτ in
theorem resC_sound {fn:Func} {k:Kd} {ρ : Env} {a:Act} {w:World} {K:k.Ty→Prop} (hr:resC τ k fn.results.toList ρ w.heap K) (hR:Rel ρ a):∃z,K z∧(results fn a.tmps).run P w = .ok (k.val z) w:=by
 rw[results_eq]
 have one:∀(v:ResultVar),fn.results.toList=[v]→res1 τ k v ρ w.heap K→∃z,K z∧(do let vs ←fn.results.mapM (resV a.tmps);pure (if h:vs.size=1 then vs[0] else .tuple vs)).run P w = .ok (k.val z) w:=by
  intro v hv h1;obtain ⟨x,hK,hx⟩:=res1_sound hτ h1 hR;refine ⟨x,hK,?_⟩;simp[Array.mapM_eq_mapM_toList,hv,hx]
 unfold resC at hr;split at hr
 ·rename_i k' K
  split at hr
  ·exact hr.elim
  ·rename_i hne
   obtain ⟨z,hK,hz⟩:=resG_sound hτ hr hR;refine ⟨z,hK,?_⟩
   have hlen:(Kd.vals k' z).length≠1:=by
    have h0:∀(k:Kd) (rs:List ResultVar) (K':k.Ty→Prop),resG τ k rs ρ w.heap K'→∀z:k.Ty,(Kd.vals k z).length=rs.length:=by
     intro k
     induction k with
     | pr k1 k2 ih1 ih2 =>
       intro rs K' h z
       cases rs with
       | nil=>simp[resG] at h
       | cons v vs =>
         simp only [resG] at h;split at h
         ·obtain ⟨x,h,_⟩:=res1_sound (P:=P) hτ h hR;simp[Kd.vals,ih2 vs _ h z.2]
         ·exact h.elim
     | un=>intro rs K' h z;cases rs <;> simp[resG] at h;simp[Kd.vals]
     | _=>intro rs K' h;cases rs <;> simp[resG] at h
    rw[h0 _ _ _ hr];intro h1
    match hrs:fn.results.toList with
    | []=>rw[hrs] at h1;simp at h1
    | [v]=>exact hne v hrs
    | v::v'::r=>rw[hrs] at h1;simp at h1
   simp[Array.mapM_eq_mapM_toList,hz,Kd.val,hlen]
 ·rename_i K
  split at hr
  ·rename_i hrs
   refine ⟨(),hr,?_⟩;simp[Array.mapM_eq_mapM_toList,hrs,Kd.val,Kd.val0,Kd.cells,Go.Al.one]
  ·exact hr.elim
 ·split at hr
  ·rename_i v hv
   exact one v hv hr
  ·exact hr.elim
include hτ in
theorem leave_sound {fn:Func} {k:Kd} {K:k.Ty→Heap→Prop} {w0:World} {R:Ending→World→Prop} (hRR:∀x w',Same w0 w'→K x w'.heap→R (.returned (k.val x)) w') {ρ : Env} {a:Act} (hR:Rel ρ a) :
 ∀(ds:List Nat) (w:World),Same w0 w→lv ds w.heap (fun h=>resC τ k fn.results.toList ρ h fun x=>K x h)→LeavesInM Fence.wide 0 P fn a.tmps R (ds.map mark1) .returning w:=by
 intro ds
 induction ds with
 | nil =>
   intro w hs h;obtain ⟨z,hK,hz⟩:=resC_sound (P:=P) (a:=a) hτ h hR;exact ⟨_,hz,hRR z w hs hK⟩
 | cons d r ih =>
   intro w hs h;obtain ⟨h1,h2⟩:=h;refine ⟨by simp,.inl ⟨d,{ w with heap:=w.heap.setIfInBounds d (.deferred none) },rfl,?_,ih _ ⟨hs.1,hs.2⟩ h2⟩⟩;simp[Instr.takeDeferred,getObj,setObj,Sem.run,h1]
theorem rel_args:∀(args:List SV) (n:Nat) (tm:Array Value),(∀i v,args[i]? = some v→tm[n+i]? = some v.val)→n+args.length≤DS→Rel (argE args n) { tmps:=tm,defers:=[] }:=by
 intro args
 induction args with
 | nil =>
   intro n tm h hl;refine ⟨fun t v ht hv =>?_,fun v hv =>?_⟩
   ·simp only [argE,get_cons] at hv;rw[if_neg fun e=>ht e.symm] at hv;simp[Env.get] at hv
   ·simp only [argE,get_cons,if_true] at hv;simp at hv;subst hv;exact ⟨[],rfl,rfl⟩
 | cons x r ih =>
   intro n tm h hl;have hr:=ih (n+1) tm (fun i v hi=>by have:=h (i+1) v (by simpa using hi);rw[←this];congr 1;omega) (by simp at hl;omega);refine ⟨fun t v ht hv =>?_,fun v hv =>?_⟩
   ·simp only [argE,get_cons] at hv;split at hv
    ·rename_i e;subst e
     simp at hv;subst hv;exact h 0 x (by simp)
    ·exact hr.t t v ht hv
   ·simp only [argE,get_cons] at hv;have:¬n=DS:=by simp at hl;omega
    rw[if_neg this] at hv;exact hr.d v hv
def okF (fn:Func) (n:Nat):Bool:=
 !(fn.name == "runtime.NumGoroutine") && Nat.ble n fn.ntmps && Nat.ble fn.ntmps DS && match fn.body with | some c => okC fn.ntmps c | none => false
include hτ hpl hmix in
theorem fn_sound {f:Nat} {fn:Func} {args:List SV} {k:Kd} {h:Heap} {K:k.Ty→Heap→Prop} (hf:P.funcs[f]? = some fn) (hok:okF fn args.length=true) (hr:fnC P τ an fn args k h K):callF P f (args.map SV.val) k h K:=by
 unfold okF at hok;simp only [Bool.and_eq_true,Bool.not_eq_true'] at hok;obtain ⟨⟨⟨hn,h1⟩,h2⟩,h3⟩:=hok;have h1:args.length≤fn.ntmps:=Nat.le_of_ble_eq_true h1;have h2:fn.ntmps≤DS:=Nat.le_of_ble_eq_true h2;unfold fnC at hr;split at hr
 ·rename_i c hb
  rw[hb] at h3;simp only at h3;intro w hw;subst hw
  have henter:(callFunc f (args.map SV.val).toArray).run P w = .ok (.enter f (args.map SV.val).toArray) w:=by
   have hn' : ¬ fn.name = "runtime.NumGoroutine" := by simpa using hn
   simp[callFunc,hf,hn',hb]
  rw[henter];show CallsIn Fence.wide 0 P f _ w _;have hsz:((args.map SV.val).toArray++Array.replicate (fn.ntmps-(args.map SV.val).toArray.size) undef).size=fn.ntmps:=by simp;omega
  refine callsIn_of_wp_marks hf hb trivial ?_
  have hrel:Rel (argE args 0) { tmps:=(args.map SV.val).toArray++Array.replicate (fn.ntmps-(args.map SV.val).toArray.size) undef,defers:=[] }:=by
   refine rel_args args 0 _ (fun i v hi =>?_) (by omega)
   have hlt:i<args.length:=by
    by_cases h:i<args.length
    ·exact h
    ·rw[List.getElem?_eq_none (by omega)] at hi;simp at hi
   rw[Nat.zero_add,Array.getElem?_append_left (by simpa using hlt)];simp[hi]
  have hwp:=cC_sound (an:=an) hτ hpl hmix h2 c h3 none (.inl rfl) _ _ _ _ w hr hrel rfl hsz;refine Code.wpIn_mono ?_ hwp
  have fin:∀ ρ a' w',Same w w'→Rel ρ a'→leave τ k fn.results.toList K ρ w'.heap→LeavesInM Fence.wide 0 P fn a'.tmps (fun e w''=>∃v,e = .returned v∧∃x,v=k.val x∧w''.os=w.os∧w''.output=w.output∧K x w''.heap) a'.defers .returning w':=by
   intro ρ a' w' hs hR hl;unfold leave at hl;split at hl
   ·rename_i v hv
    split at hl
    ·rename_i ds hds
     rw[asD_some] at hds;subst hds;obtain ⟨ds',e,hd⟩:=hR.d _ hv;simp at e;subst e;rw[hd];exact leave_sound hτ (w0:=w) (K:=K) (fun x w'' hs' hK=>⟨_,rfl,x,rfl,hs'.1,hs'.2,hK⟩) hR ds w' hs hl
    ·exact hl.elim
   ·exact hl.elim
  rintro e a' w' ⟨hs,hk,ρ,hR,hq⟩
  cases e with
  | normal=>exact fin ρ a' w' hs hR hq
  | ret=>exact fin ρ a' w' hs hR hq
  | exit id=>exact hq.elim
  | goto l=>exact hq.elim
  | panic c=>exact hq.elim
  | outgrown=>exact hq.elim
 ·exact hr.elim
end
theorem jn_go {k:Kd} {body:(k.Ty→Heap→Prop)→Prop} {next:k.Ty→Heap→Prop} (h:body next):jn k body next:=⟨next,h,fun _ _ h=>h⟩
theorem jn_at {k:Kd} {body:(k.Ty→Heap→Prop)→Prop} {next:k.Ty→Heap→Prop} (x:k.Ty) (h:Heap) (hb:body fun y h'=>y=x∧h'=h) (hn:next x h):jn k body next:=
 ⟨_,hb,fun y h' e=>by obtain ⟨rfl,rfl⟩:=e;exact hn⟩
theorem new_go {T:Nat} {k:Kd} {x:k.Ty} {h:Heap} {K:Nat→Heap→Prop} (hK:K h.size (h.push (vobj T k x))):new T k x h K:=hK
theorem lp_go {k:Kd} {body:k.Ty→Heap→(k.Ty→Heap→Prop)→Prop} {x:k.Ty} {h:Heap} (I:k.Ty→Heap→Prop) (μ : k.Ty→Heap→Nat) (h0:I x h)
 (step:∀x h,I x h→body x h fun x' h'=>I x' h' ∧ μ x' h' < μ x h):lp k body x h:=⟨I,μ,h0,step⟩
def Keep (S:List Nat) (h h':Heap):Prop:=h.size≤h'.size∧∀b,b<h.size→b∉S→h'[b]? = h[b]?
theorem Keep.rfl {S:List Nat} {h:Heap}:Keep S h h:=⟨Nat.le_refl _,fun _ _ _=>Eq.refl _⟩
theorem Keep.trans {S T:List Nat} {h h' h'':Heap} (a:Keep S h h') (b:Keep T h' h''):Keep (S++T) h h'':=
 ⟨Nat.le_trans a.1 b.1,fun x hx hn=>by
  simp at hn;rw[b.2 x (Nat.lt_of_lt_of_le hx a.1) hn.2,a.2 x hx hn.1]⟩
theorem Keep.weak {S T:List Nat} {h h':Heap} (a:Keep S h h') (hs:∀b∈S,b<h.size→b∈T):Keep T h h':=
 ⟨a.1,fun x hx hn=>a.2 x hx fun h=>hn (hs x h hx)⟩
theorem Keep.then {S T U:List Nat} {h h' h'':Heap} (a:Keep S h h') (b:Keep T h' h'') (h1:∀x∈S,x<h.size→x∈U) (h2:∀x∈T,x<h.size→x∈U):Keep U h h'':=
 (a.trans b).weak fun x hx hl=>by
  rcases List.mem_append.1 hx with hx | hx
  ·exact h1 x hx hl
  ·exact h2 x hx hl
theorem lt_of_some {h:Heap} {b:Nat} {o:Obj} (e:h[b]? = some o):b<h.size:=by
 by_cases hb:b<h.size
 ·exact hb
 ·rw[Array.getElem?_eq_none (by omega)] at e;simp at e
theorem Keep.get {S:List Nat} {h h':Heap} (a:Keep S h h') {b:Nat} {o:Obj} (e:h[b]? = some o) (hn:b∉S):h'[b]? = some o:=by
 rw[a.2 b (lt_of_some e) hn,e]
theorem keep_push {h:Heap} {o:Obj}:Keep [] h (h.push o):=by
 refine ⟨by simp,fun b hb _ =>?_⟩;rw[Array.getElem?_push];have:¬b=h.size:=by omega
 simp[this]
theorem keep_set {h:Heap} {b:Nat} {o:Obj}:Keep [b] h (h.setIfInBounds b o):=by
 refine ⟨by simp,fun x hx hn =>?_⟩;rw[Array.getElem?_setIfInBounds];have:¬b=x:=fun e=>hn (by simp[e]);simp[this]
theorem get_push {h:Heap} {o:Obj}:(h.push o)[h.size]? = some o:=by simp
theorem get_push_old {h:Heap} {o o':Obj} {b:Nat} (e:h[b]? = some o):(h.push o')[b]? = some o:=keep_push.get e (by simp)
theorem get_set {h:Heap} {b:Nat} {o o':Obj} (e:h[b]? = some o):(h.setIfInBounds b o')[b]? = some o':=by
 rw[Array.getElem?_setIfInBounds];simp[lt_of_some e]
theorem get_set_ne {h:Heap} {b c:Nat} {o o':Obj} (e:h[b]? = some o) (hn:c≠b):(h.setIfInBounds c o')[b]? = some o:=keep_set.get e (by simp;exact fun e=>hn e.symm)
theorem sm_cells {h:Heap} {b o:Nat} {L:List Value} {T:Nat} {f:Nat×Nat} {k:Kd} {x:k.Ty} (e:h[b]? = some (.cells L.toArray T f)) (hx:(L.drop o).take k.size=k.cells x) (hl:o+k.size≤L.length):sm k ⟨b,o⟩ x h:=by
 simp[sm,rdCells,e,hl,hx]
theorem flat_take {k:Kd}:∀(xs:List k.Ty) (i:Nat) (x:k.Ty),xs[i]? = some x→((xs.flatMap k.cells).drop (i*k.size)).take k.size=k.cells x:=by
 intro xs
 induction xs with
 | nil=>intro i x h;simp at h
 | cons y r ih =>
   intro i x h
   cases i with
   | zero =>
     simp at h;subst h;simp[List.take_append_of_le_length,Kd.cells_length]
   | succ i =>
     have:=ih i x (by simpa using h);rw[show (i+1)*k.size=(k.cells y).length+i*k.size by rw[Kd.cells_length,Nat.succ_mul,Nat.add_comm]];rw[List.flatMap_cons,List.drop_append,List.drop_eq_nil_of_le (by omega)];simpa using this
theorem flat_len {k:Kd} (xs:List k.Ty):(xs.flatMap k.cells).length=xs.length*k.size:=by
 induction xs with
 | nil=>simp
 | cons x r ih=>rw[List.flatMap_cons,List.length_append,ih,Kd.cells_length,List.length_cons,Nat.succ_mul,Nat.add_comm]
theorem sm_row {h:Heap} {b i T:Nat} {k:Kd} {xs:List k.Ty} {f:Nat×Nat} {x:k.Ty} (e:h[b]? = some (.cells (xs.flatMap k.cells).toArray T f)) (hx:xs[i]? = some x):sm k ⟨b,i*k.size⟩ x h:=by
 refine sm_cells e (flat_take xs i x hx) ?_
 have hi:i<xs.length:=by
  by_cases h:i<xs.length
  ·exact h
  ·rw[List.getElem?_eq_none (by omega)] at hx;simp at hx
 rw[flat_len,←Nat.succ_mul];exact Nat.mul_le_mul_right _ hi
theorem st_row {h:Heap} {b i T:Nat} {k:Kd} {xs:List k.Ty} {x:k.Ty} {K:Heap→Prop} (e:h[b]? = some (robj T k xs)) (hi:i<xs.length) (hK:K (h.setIfInBounds b (robj T k (xs.set i x)))):st k ⟨b,i*k.size⟩ x h K:=by
 have hle:i*k.size+k.size≤xs.length*k.size:=by rw[←Nat.succ_mul];exact Nat.mul_le_mul_right _ hi
 refine ⟨(xs.flatMap k.cells).toArray,T,0,0,e,by rw[List.size_toArray,flat_len,Kd.cells_length];exact hle,.inl (Nat.zero_le _),?_⟩
 have:wrCells (xs.flatMap k.cells).toArray (i*k.size) (k.cells x)=((xs.set i x).flatMap k.cells).toArray:=by
  rw[wrCells_L,flatMap_set (m:=k.size) (fun y=>Kd.cells_length k y) xs i x hi]
 rw[this];exact hK
theorem st_row' {h:Heap} {b o i T:Nat} {k:Kd} {xs:List k.Ty} {x:k.Ty} {K:Heap→Prop} (e:h[b]? = some (robj T k xs)) (ho:o=i*k.size) (hi:i<xs.length) (hK:K (h.setIfInBounds b (robj T k (xs.set i x)))):st k ⟨b,o⟩ x h K:=by
 subst ho;exact st_row e hi hK
theorem sm_row' {h:Heap} {b o i T:Nat} {k:Kd} {xs:List k.Ty} {x:k.Ty} (e:h[b]? = some (robj T k xs)) (ho:o=i*k.size) (hx:xs[i]? = some x):sm k ⟨b,o⟩ x h:=by
 subst ho;exact sm_row e hx
theorem w64_id {n:Int} (h1 : -9223372036854775808≤n) (h2:n≤9223372036854775807):w64 n=n:=by unfold w64;rw[IntKind.wrap_i64];omega
theorem sm_fld {h:Heap} {b n T:Nat} {k:Kd} {x:k.Ty} {k':Kd} {y:k'.Ty} {f:Nat×Nat} (e:h[b]? = some (.cells (k.cells x).toArray T f)) (hy:((k.cells x).drop n).take k'.size=k'.cells y) (hl:n+k'.size≤k.size):sm k' ((Pl.mk b 0).fld n) y h:=by
 have:=sm_cells (o:=n) e hy (by rw[Kd.cells_length];exact hl);simpa[Pl.fld] using this
theorem st_fld {h:Heap} {b n T:Nat} {k:Kd} {x x':k.Ty} {k':Kd} {y:k'.Ty} {K:Heap→Prop} (e:h[b]? = some (vobj T k x)) (hl:n+k'.size≤k.size) (hx:wrL (k.cells x) n (k'.cells y)=k.cells x') (hK:K (h.setIfInBounds b (vobj T k x'))):st k' ((Pl.mk b 0).fld n) y h K:=by
 refine ⟨(k.cells x).toArray,T,0,0,e,?_,.inl (Nat.zero_le _),?_⟩
 ·simp[Pl.fld,Kd.cells_length,hl]
 ·rw[wrCells_L];simp only [Pl.fld,Nat.zero_add,hx];exact hK
theorem flat_drop {k:Kd}:∀(xs:List k.Ty) (i:Nat),(xs.flatMap k.cells).drop (i*k.size)=(xs.drop i).flatMap k.cells:=by
 intro xs
 induction xs with
 | nil=>intro i;simp
 | cons x r ih =>
   intro i
   cases i with
   | zero=>simp
   | succ i =>
     rw[show (i+1)*k.size=(k.cells x).length+i*k.size by rw[Kd.cells_length,Nat.succ_mul,Nat.add_comm],List.flatMap_cons,List.drop_append,List.drop_eq_nil_of_le (by omega)];simpa using ih i
theorem flat_take' {k:Kd}:∀(xs:List k.Ty) (i:Nat),(xs.flatMap k.cells).take (i*k.size)=(xs.take i).flatMap k.cells:=by
 intro xs
 induction xs with
 | nil=>intro i;simp
 | cons x r ih =>
   intro i
   cases i with
   | zero=>simp
   | succ i =>
     rw[show (i+1)*k.size=(k.cells x).length+i*k.size by rw[Kd.cells_length,Nat.succ_mul,Nat.add_comm],List.flatMap_cons,List.take_append,List.take_of_length_le (by omega)];simpa using ih i
theorem flat_plain {k:Kd} (xs:List k.Ty):∀c∈xs.flatMap k.cells,plainCell c:=by
 intro c hc;obtain ⟨x,_,hc⟩:=List.mem_flatMap.1 hc;exact plain_cells _ _ c hc
theorem slCells_row {h:Heap} {s:Slc} {b o T i j m:Nat} {k:Kd} {xs:List k.Ty} {f:Nat×Nat} {K:List Value→Prop} (e:h[b]? = some (.cells (xs.flatMap k.cells).toArray T f)) (ha:s.a=some ⟨b,o⟩) (ho:o=i*k.size) (hm:m=j*k.size) (hl:i+j≤xs.length)
 (hK:K (((xs.drop i).take j).flatMap k.cells)):slCells s m h K:=by
 subst ho;subst hm;unfold slCells;rw[ha];refine ⟨((xs.drop i).take j).flatMap k.cells,?_,flat_plain _,hK⟩;have hle:i*k.size+j*k.size≤xs.length*k.size:=by rw[←Nat.add_mul];exact Nat.mul_le_mul_right _ hl
 simp only [rdCells,e,List.size_toArray,flat_len,hle,if_true,flat_drop,flat_take']
theorem stc_row {h:Heap} {b o T i:Nat} {k:Kd} {xs ys:List k.Ty} {K:Heap→Prop} (e:h[b]? = some (robj T k xs)) (ho:o=i*k.size) (hl:i+ys.length≤xs.length)
 (hK:K (h.setIfInBounds b (robj T k (xs.take i++ys++xs.drop (i+ys.length))))):stc ⟨b,o⟩ (ys.flatMap k.cells) h K:=by
 subst ho;have hle:i*k.size+ys.length*k.size≤xs.length*k.size:=by rw[←Nat.add_mul];exact Nat.mul_le_mul_right _ hl
 refine ⟨(xs.flatMap k.cells).toArray,T,0,0,e,by rw[List.size_toArray,flat_len,flat_len];exact hle,.inl (Nat.zero_le _),?_⟩
 have:wrCells (xs.flatMap k.cells).toArray (i*k.size) (ys.flatMap k.cells)=((xs.take i++ys++xs.drop (i+ys.length)).flatMap k.cells).toArray:=by
  rw[wrCells_L];unfold wrL;rw[flat_len,←Nat.add_mul,flat_take',flat_drop];simp
 rw[this];exact hK
theorem cp_row {h:Heap} {d:Slc} {b o T i n:Nat} {k:Kd} {xs ys:List k.Ty} {cs:List Value} {K:Int→Heap→Prop} (e:h[b]? = some (robj T k xs)) (ha:d.a=some ⟨b,o⟩) (ho:o=i*k.size) (hcs:cs=ys.flatMap k.cells) (hl:i+ys.length≤xs.length)
 (hK:K n (h.setIfInBounds b (robj T k (xs.take i++ys++xs.drop (i+ys.length))))):cp d n cs h K:=by
 subst hcs;unfold cp;rw[ha];exact stc_row e ho hl hK
theorem Keep.new {S:List Nat} {h h1 h2:Heap} (a:Keep [] h h1) (b:Keep S h1 h2) (hs:∀x∈S,h.size≤x):Keep [] h h2:=
 a.then b (by simp) (fun x hx hl=>by have:=hs x hx;omega)
theorem Keep.g {S:List Nat} {h h':Heap} (k:Keep S h h') {b:Nat} {o:Obj} (e:h[b]? = some o) (hn:b∉S:=by simp):h'[b]? = some o:=k.get e hn
theorem Keep.n {S:List Nat} {h h1 h2:Heap} (a:Keep [] h h1) (b:Keep S h1 h2) (hs:∀x∈S,h.size≤x:=by simp):Keep [] h h2:=a.new b hs
theorem w6 {a b:Int} (h:a=b ∧ -9223372036854775808≤a∧a<9223372036854775808):w64 a=b:=by rw[w64_id (by omega) (by omega)];exact h.1
theorem dn {p:Prop} [Decidable p] (h:¬p):¬decide p=true:=fun e=>h (of_decide_eq_true e)
abbrev Pq (b : Nat) : Pl := Pl.mk b 0
theorem dT {p : Prop} [Decidable p] (h : p) : decide p = true := decide_eq_true h
theorem dF {p : Prop} [Decidable p] (h : ¬ p) : decide p = false := decide_eq_false h
theorem jn_is {k:Kd} {body:(k.Ty→Heap→Prop)→Prop} {next:k.Ty→Heap→Prop} (x:k.Ty) (Q:Heap→Prop) (hb:body fun y h'=>y=x∧Q h') (hn:∀h',Q h'→next x h'):jn k body next:=
 ⟨_,hb,fun y h' e=>by obtain ⟨rfl,e⟩:=e;exact hn h' e⟩
def own (s:Slc):List Nat:=match s.a with | some l=>[l.b] | none=>[]
def Row (h:Heap) (T:Nat) (k:Kd) (s:Slc) (xs:List k.Ty):Prop:=
 (s=⟨none,0,0⟩∧xs=[])∨∃b zs,s.a=some ⟨b,0⟩∧s.len=xs.length∧s.cap=xs.length+zs.length∧h[b]? = some (robj T k (xs++zs))
theorem Row.len {h:Heap} {T:Nat} {k:Kd} {s:Slc} {xs:List k.Ty} (r:Row h T k s xs):s.len=xs.length:=by
 rcases r with ⟨rfl,rfl⟩ | ⟨b,zs,_,e,_⟩
 ·rfl
 ·exact e
theorem Row.cap {h:Heap} {T:Nat} {k:Kd} {s:Slc} {xs:List k.Ty} (r:Row h T k s xs):xs.length≤s.cap:=by
 rcases r with ⟨rfl,rfl⟩ | ⟨b,zs,_,_,e,_⟩
 ·exact Nat.le_refl _
 ·omega
theorem Row.nil {h:Heap} {T:Nat} {k:Kd}:Row h T k ⟨none,0,0⟩ [] := .inl ⟨rfl,rfl⟩
theorem Row.keep {h h':Heap} {T:Nat} {k:Kd} {s:Slc} {xs:List k.Ty} {S:List Nat} (r:Row h T k s xs) (hk:Keep S h h') (hn:∀b∈own s,b∉S):Row h' T k s xs:=by
 rcases r with ⟨rfl,rfl⟩ | ⟨b,zs,e,e1,e2,e3⟩
 ·exact .inl ⟨rfl,rfl⟩
 ·exact .inr ⟨b,zs,e,e1,e2,hk.get e3 (hn b (by simp[own,e]))⟩
theorem Row.lt {h:Heap} {T:Nat} {k:Kd} {s:Slc} {xs:List k.Ty} (r:Row h T k s xs):∀b∈own s,b<h.size:=by
 rcases r with ⟨rfl,rfl⟩ | ⟨b,zs,e,e1,e2,e3⟩
 ·simp[own]
 ·intro x hx;simp[own,e] at hx;subst hx;exact lt_of_some e3
theorem Row.of_new {h:Heap} {T:Nat} {k:Kd} {s:Slc} {xs zs:List k.Ty} {b:Nat} (e:h[b]? = some (robj T k (xs++zs))) (ha:s.a=some ⟨b,0⟩) (hl:s.len=xs.length) (hc:s.cap=xs.length+zs.length):Row h T k s xs := .inr ⟨b,zs,ha,hl,hc,e⟩
theorem ix_ld {h:Heap} {T:Nat} {k:Kd} {s:Slc} {xs:List k.Ty} {i:Int} {sz:Nat} {K:k.Ty→Prop} {x:k.Ty} (r:Row h T k s xs) (h0:0≤i) (hx:xs[i.toNat]? = some x) (hs:sz=k.size) (hK:K x):ix s i sz fun l=>ld k l h K:=by
 have hi:i.toNat<xs.length:=by
  by_cases hh:i.toNat<xs.length
  ·exact hh
  ·rw[List.getElem?_eq_none (by omega)] at hx;simp at hx
 rcases r with ⟨rfl,rfl⟩ | ⟨b,zs,e,e1,e2,e3⟩
 ·simp at hi
 ·refine ⟨⟨b,0⟩,e,h0,by omega,x,?_,hK⟩;exact sm_row' e3 (i:=i.toNat) (by simp[hs]) (by rw[List.getElem?_append_left hi];exact hx)
theorem ix_st {h:Heap} {T:Nat} {k:Kd} {s:Slc} {xs:List k.Ty} {i:Int} {sz:Nat} {K:Heap→Prop} {x:k.Ty} (r:Row h T k s xs) (h0:0≤i) (h1:i<xs.length) (hs:sz=k.size)
 (hK:∀h',Keep (own s) h h'→Row h' T k s (xs.set i.toNat x)→K h'):ix s i sz fun l=>st k l x h K:=by
 rcases r with ⟨rfl,rfl⟩ | ⟨b,zs,e,e1,e2,e3⟩
 ·simp at h1;omega
 ·refine ⟨⟨b,0⟩,e,h0,by omega,?_⟩;have hi:i.toNat<xs.length:=by omega
  refine st_row' e3 (i:=i.toNat) (by simp[hs]) (by simp;omega) (hK _ (by simp only [own,e];exact keep_set) (.inr ⟨b,zs,e,by simpa using e1,by simpa using e2,?_⟩));rw[get_set e3,List.set_append_left _ _ hi]
theorem zeros_flat {k:Kd} {m:Nat}:zeros k m=(List.replicate m k.zero).flatMap k.cells:=rfl
theorem ap_row {h:Heap} {T:Nat} {k:Kd} {by_ n:Nat} {s:Slc} {xs ys:List k.Ty} {cs:List Value} {K:Slc→Heap→Prop} (r:Row h T k s xs) (hn:n=ys.length) (hc:cs=ys.flatMap k.cells) (hb:(xs.length+n)*by_≤140737488355328)
 (hK:∀s' h',Row h' T k s' (xs++ys)→Keep (own s) h h'→(s'.a=s.a∨s'.a=some ⟨h.size,0⟩)→K s' h'):ap T k by_ s n cs h K:=by
 subst hn;subst hc;have hlen:=r.len;unfold ap;split
 ·rename_i hle
  rcases r with ⟨rfl,rfl⟩ | ⟨b,zs,e,e1,e2,e3⟩
  ·have hy:ys=[]:=by
    cases ys with
    | nil=>rfl
    | cons y r=>simp at hle
   subst hy;exact ⟨rfl,hK _ _ Row.nil Keep.rfl (.inl rfl)⟩
  ·simp only [e];refine stc_row e3 (i:=s.len) (by simp) (by simp;omega) (hK _ _ (.inr ⟨b,zs.drop ys.length,rfl,by simp[e1],by simp;omega,?_⟩) (by simp only [own,e];exact keep_set) (.inl e.symm));rw[get_set e3]
   congr 2
   rw[List.take_append_of_le_length (by omega),List.take_of_length_le (by omega),List.drop_append,List.drop_eq_nil_of_le (by omega)];simp only [List.nil_append]
   congr 2
   omega
 ·rename_i hgt
  refine ⟨growslice_fits (by omega) (by rw[hlen];exact hb),?_⟩
  have fin:∀c,s.len+ys.length≤c→K ⟨some ⟨h.size,0⟩,s.len+ys.length,c⟩ (h.push (.cells (xs.flatMap k.cells++ys.flatMap k.cells++zeros k (c-(s.len+ys.length))).toArray T)):=by
   intro c hc;refine hK _ _ (.inr ⟨h.size,List.replicate (c-(s.len+ys.length)) k.zero,rfl,by simp[hlen],by simp;omega,?_⟩) (keep_push.weak (by simp)) (.inr rfl);rw[get_push]
   congr 2
   rw[zeros_flat,List.flatMap_append,List.flatMap_append]
  rcases r with ⟨rfl,rfl⟩ | ⟨b,zs,e,e1,e2,e3⟩
  ·exact ⟨by simp,fun c hc _=>fin c hc⟩
  ·refine slCells_row e3 e (i:=0) (j:=s.len) (by simp) rfl (by simp;omega) ?_;intro c hc _
   have:(List.take s.len (List.drop 0 (xs++zs)))=xs:=by
    rw[List.drop_zero,List.take_append_of_le_length (by omega),List.take_of_length_le (by omega)]
   rw[this];exact fin c hc
structure Seg (k:Kd) (s:Slc) (xs:List k.Ty) (h:Heap):Prop where
 len:s.len=xs.length
 el:∀i x,xs[i]? = some x→∃l,s.a=some l∧sm k ⟨l.b,l.o+i*k.size⟩ x h
 blk:∀l,s.a=some l→∃c T f,h[l.b]? = some (.cells c T f)∧l.o≤c.size
theorem sm_keep' {k:Kd} {l:Pl} {x:k.Ty} {h h':Heap} {S:List Nat} (e:sm k l x h) (hk:Keep S h h') (hn:l.b∉S):sm k l x h':=by
 unfold sm rdCells at *;split at e
 ·rename_i c T f hc
  rw[hk.get hc hn];exact e
 ·simp at e
theorem sm_keep {k:Kd} {l:Pl} {x:k.Ty} {h h':Heap} (hs:0<k.size) (e:sm k l x h) (hk:Keep [] h h'):sm k l x h':=sm_keep' e hk (by simp)
theorem Seg.keep' {k:Kd} {s:Slc} {xs:List k.Ty} {h h':Heap} {S:List Nat} (g:Seg k s xs h) (hk:Keep S h h') (hn:∀b∈own s,b∉S):Seg k s xs h':=
 ⟨g.len,fun i x hi=>by obtain ⟨l,hl,e⟩:=g.el i x hi;exact ⟨l,hl,sm_keep' e hk (hn _ (by simp[own,hl]))⟩,
  fun l hl=>by obtain ⟨c,T,f,hc,ho⟩:=g.blk l hl;exact ⟨c,T,f,hk.get hc (hn _ (by simp[own,hl])),ho⟩⟩
theorem Seg.keep {k:Kd} {s:Slc} {xs:List k.Ty} {h h':Heap} (hs:0<k.size) (g:Seg k s xs h) (hk:Keep [] h h'):Seg k s xs h':=g.keep' hk (by simp)
theorem seg_ix {k:Kd} {s:Slc} {xs:List k.Ty} {h:Heap} {i:Int} {sz:Nat} {K:k.Ty→Prop} {x:k.Ty} (g:Seg k s xs h) (h0:0≤i) (hx:xs[i.toNat]? = some x) (hs:sz=k.size) (hK:K x):ix s i sz fun l=>ld k l h K:=by
 have hi:i.toNat<xs.length:=by
  by_cases hh:i.toNat<xs.length
  ·exact hh
  ·rw[List.getElem?_eq_none (by omega)] at hx;simp at hx
 obtain ⟨l,hl,e⟩:=g.el _ _ hx;have hlen:=g.len;exact ⟨l,hl,h0,by omega,x,by rw[hs];exact e,hK⟩
theorem rd_app {h:Heap} {l:Pl} {m n:Nat} {xs ys:List Value} (h1:rdCells h l m=some xs) (h2:rdCells h ⟨l.b,l.o+m⟩ n=some ys):rdCells h l (m+n)=some (xs++ys):=by
 unfold rdCells at *;split at h1
 ·rename_i c T f hc
  simp only [hc] at h2 ⊢;split at h1
  ·split at h2
   ·rename_i a b
    simp only [Option.some.injEq] at h1 h2;have:l.o+(m+n)≤c.size:=by omega
    rw[if_pos this,←h1,←h2,List.take_add,List.drop_drop]
   ·simp at h2
  ·simp at h1
 ·simp at h1
theorem seg_rd {k:Kd} {s:Slc} {h:Heap}:∀ {xs:List k.Ty} {l:Pl},(∃c T f,h[l.b]? = some (.cells c T f)∧l.o≤c.size)→(∀i x,xs[i]? = some x→sm k ⟨l.b,l.o+i*k.size⟩ x h)→rdCells h l (xs.length*k.size)=some (xs.flatMap k.cells)
 | [],l,⟨c,T,f,hc,ho⟩,_=>by simp[rdCells,hc,ho]
 | x :: r, l, ⟨c, T, f, hc, ho⟩, he => by
   have h0:=he 0 x (by simp);simp only [Nat.zero_mul,Nat.add_zero] at h0
   have hle:l.o+k.size≤c.size:=by
    unfold sm rdCells at h0;simp only [hc] at h0;split at h0
    ·assumption
    ·simp at h0
   have ih:=seg_rd (s:=s) (xs:=r) (l:=⟨l.b,l.o+k.size⟩) ⟨c,T,f,hc,hle⟩ (fun i y hi=>by
    have:=he (i+1) y (by simpa using hi);rw[Nat.succ_mul] at this;have e:l.o+k.size+i*k.size=l.o+(i*k.size+k.size):=by omega
    rw[e];exact this)
   have:=rd_app h0 ih;rw[List.length_cons,Nat.succ_mul,Nat.add_comm,List.flatMap_cons];exact this
theorem slCells_seg {k:Kd} {s:Slc} {xs:List k.Ty} {h:Heap} {m:Nat} {K:List Value→Prop} (g:Seg k s xs h) (hm:m=xs.length*k.size) (hK:K (xs.flatMap k.cells)):slCells s m h K:=by
 subst hm;unfold slCells
 cases ha:s.a with
 | none =>
   have:xs=[]:=by
    cases xs with
    | nil=>rfl
    | cons x r=>obtain ⟨l,hl,_⟩:=g.el 0 x (by simp);rw[ha] at hl;simp at hl
   subst this;exact ⟨by simp,hK⟩
 | some l =>
   refine ⟨xs.flatMap k.cells,seg_rd (s:=s) (g.blk l ha) (fun i x hi=>by obtain ⟨l',hl',e⟩:=g.el i x hi;rw[ha] at hl';cases hl';exact e),flat_plain _,hK⟩
theorem Row.seg {h:Heap} {T:Nat} {k:Kd} {s:Slc} {xs:List k.Ty} (r:Row h T k s xs):Seg k s xs h:=by
 refine ⟨r.len,fun i x hi =>?_,fun l hl =>?_⟩
 ·have hlt:i<xs.length:=by
   by_cases hh:i<xs.length
   ·exact hh
   ·rw[List.getElem?_eq_none (by omega)] at hi;simp at hi
  rcases r with ⟨rfl,rfl⟩ | ⟨b,zs,e,e1,e2,e3⟩
  ·simp at hlt
  ·exact ⟨_,e,sm_row' e3 (i:=i) (by simp) (by rw[List.getElem?_append_left hlt];exact hi)⟩
 ·rcases r with ⟨rfl,rfl⟩ | ⟨b,zs,e,e1,e2,e3⟩
  ·simp at hl
  ·rw[e] at hl;simp only [Option.some.injEq] at hl;subst hl;exact ⟨_,_,_,e3,Nat.zero_le _⟩
theorem callF_of {P : Program} {f : Nat} {fn : Func} {args : List Value} {k : Kd} {h : Heap} {K : k.Ty → Heap → Prop} (hf : P.funcs[f]? = some fn) (hn : (fn.name == "runtime.NumGoroutine") = false) (hb : fn.body.isSome = true)
 (hc:∀w:World,w.heap=h→Calls P f args.toArray w fun e w'=>∃x,e = .returned (k.val x)∧w'.os=w.os∧w'.output=w.output∧K x w'.heap):callF P f args k h K:=by
 intro w hw;obtain ⟨c, hcb⟩ := Option.isSome_iff_exists.1 hb;have hn' : fn.name ≠ "runtime.NumGoroutine" := by simpa using hn
 have he:(callFunc f args.toArray).run P w = .ok (.enter f args.toArray) w:=by simp[callFunc,hf,hn',hcb,mark]
 rw[he];refine (callsIn_wide.2 (hc w hw)).mono ?_;rintro e w' ⟨x,rfl,h1,h2,h3⟩;exact ⟨_,rfl,x,rfl,h1,h2,h3⟩
theorem st_all {h:Heap} {b T:Nat} {k:Kd} {x x':k.Ty} {K:Heap→Prop} (e:h[b]? = some (vobj T k x)) (hK:K (h.setIfInBounds b (vobj T k x'))):st k (Pl.mk b 0) x' h K:=by
 have:=st_fld (n:=0) (x:=x) (x':=x') (K:=K) (k':=k) (y:=x') e (by simp) (by simp[wrL,Kd.cells_length]) hK;exact this
theorem sm_all {h:Heap} {b T:Nat} {k:Kd} {x:k.Ty} {f:Nat×Nat} (e:h[b]? = some (.cells (k.cells x).toArray T f)):sm k (Pl.mk b 0) x h:=sm_cells (o:=0) e (by rw[List.drop_zero,List.take_of_length_le (by rw[Kd.cells_length];exact Nat.le_refl _)]) (by rw[Kd.cells_length];omega)
theorem getD_at {α : Type} {l:List α} {j:Nat} {d : α} (h:j<l.length):l.getD j d=l[j]:=by simp[h]
theorem andI_mask (x:Int) {k:Nat} (hk:k≤62):andI x ((2^k-1:Nat):Int)=x%(2^k:Nat):=by
 unfold andI;have hp:(2:Nat)^k≤2^62:=Nat.pow_le_pow_right (by decide) hk;have hp1:0<(2:Nat)^k:=Nat.pow_pos (by decide)
 have e:(BitVec.ofInt 64 x&&&BitVec.ofInt 64 ((2^k-1:Nat):Int)).toNat=(x%(2^k:Nat)).toNat:=by
  rw[BitVec.toNat_and,BitVec.toNat_ofInt,BitVec.toNat_ofInt]
  have h1:(((2^k-1:Nat):Int)%((2^64:Nat):Int)).toNat=2^k-1:=by
   have:(2:Nat)^k-1<2^64:=by omega
   rw[Int.emod_eq_of_lt (by omega) (by omega)];omega
  rw[h1,Nat.and_two_pow_sub_one_eq_mod]
  have hd:((2^k:Nat):Int) ∣ ((2^64:Nat):Int):=by
   refine Int.natCast_dvd_natCast.2 (Nat.pow_dvd_pow 2 (by omega))
  have h2:x%((2^k:Nat):Int)=(x%((2^64:Nat):Int))%((2^k:Nat):Int):=(Int.emod_emod_of_dvd x hd).symm;rw[h2];have h3:0≤x%((2^64:Nat):Int):=Int.emod_nonneg _ (by decide);obtain ⟨m,hm⟩:∃m:Nat,x%((2^64:Nat):Int)=m:=⟨_,(Int.toNat_of_nonneg h3).symm⟩;rw[hm];simp only [Int.toNat_natCast];rw[←Int.natCast_emod,Int.toNat_natCast]
 rw[e,IntKind.wrap_i64];have h4:0≤x%((2^k:Nat):Int):=Int.emod_nonneg _ (by omega);have h5:x%((2^k:Nat):Int)<((2^k:Nat):Int):=Int.emod_lt_of_pos _ (by omega)
 have h6:((2^k:Nat):Int)≤4611686018427387904:=by
  have:((2^62:Nat):Int)=4611686018427387904:=by decide
  omega
 omega
theorem shrI_nat (x:Nat) (s:Nat) (hs:s≤64):shrI (x:Int) (s:Int)=((x/2^s:Nat):Int):=by
 unfold shrI;have:min (s:Int).toNat 64=s:=by simp;omega
 rw[this,Int.fdiv_eq_ediv_of_nonneg _ (by have:(0:Int)<2^s:=Int.pow_pos (by decide);omega)];simp
theorem u8I_nat (x:Nat):u8I (x:Int)=UInt8.ofNat x:=by
 unfold u8I;rw[IntKind.wrap_u8];have:((x:Int)%256).toNat=x%256:=by omega
 first | rw[this] | skip
 apply UInt8.toNat_inj.1;simp
def be (x n:Nat):List UInt8:=(List.range n).map fun i=>UInt8.ofNat (x/256^(n-1-i))
theorem be_len {x n:Nat}:(be x n).length=n:=by simp[be]
theorem b2s_seg {h:Heap} {s:Slc} {xs:List UInt8} {K:ByteArray→Option (Heap→Prop)→Prop} (g:Seg .u8 s xs h) (hK:∀q,K ⟨xs.toArray⟩ q):b2s s h K:=by
 unfold b2s
 cases ha:s.a with
 | none =>
   have:xs=[]:=by
    cases xs with
    | nil=>rfl
    | cons x r=>obtain ⟨l,hl,_⟩:=g.el 0 x (by simp);rw[ha] at hl;simp at hl
   subst this;exact ⟨g.len,hK _⟩
 | some l =>
   refine ⟨xs,g.len.symm,?_,hK _⟩;have:=seg_rd (s:=s) (g.blk l ha) (fun i x hi=>by obtain ⟨l',hl',e⟩:=g.el i x hi;rw[ha] at hl';cases hl';exact e);simpa[bsm,Kd.size] using this
theorem own_of {s s':Slc} {n:Nat} (h:s'.a=s.a∨s'.a=some ⟨n,0⟩):∀b∈own s',b∈own s∨b=n:=by
 intro b hb;unfold own at hb ⊢;rcases h with h | h
 ·rw[h] at hb;exact .inl hb
 ·rw[h] at hb;exact .inr (by simpa using hb)
theorem rd_sub {h:Heap} {l:Pl} {m n k:Nat} {cs:List Value} (e:rdCells h l m=some cs) (hn:n+k≤m):rdCells h (l.fld n) k=some ((cs.drop n).take k):=by
 unfold rdCells at *;split at e
 ·rename_i c T f hc
  simp only [Pl.fld,hc];split at e
  ·rename_i hle
   simp only [Option.some.injEq] at e;rw[if_pos (by omega),←e,List.drop_take,List.take_take,List.drop_drop]
   congr 2
   omega
  ·simp at e
 ·simp at e
theorem sm_sub {h:Heap} {l:Pl} {k k':Kd} {x:k.Ty} {y:k'.Ty} {n:Nat} (e:sm k l x h) (hn:n+k'.size≤k.size) (hy:((k.cells x).drop n).take k'.size=k'.cells y):sm k' (l.fld n) y h:=by
 unfold sm at *;rw[rd_sub e hn,hy]
theorem seg_at {k:Kd} {s:Slc} {xs:List k.Ty} {h:Heap} (g:Seg k s xs h) {i:Nat} (hi:i<xs.length):∃l,s.a=some l∧sm k ⟨l.b,l.o+i*k.size⟩ xs[i] h:=g.el i xs[i] (by simp[hi])
theorem wrL_mid {A C B ys:List Value} {n:Nat} (hn:n+ys.length≤C.length):wrL (A++C++B) (A.length+n) ys=A++wrL C n ys++B:=by
 unfold wrL
 have t1:List.take (A.length+n) (A++C++B)=A++C.take n:=by
  rw[List.append_assoc,List.take_append,List.take_of_length_le (by omega),Nat.add_sub_cancel_left,List.take_append_of_le_length (by omega)]
 have t2:List.drop (A.length+n+ys.length) (A++C++B)=C.drop (n+ys.length)++B:=by
  rw[List.append_assoc,List.drop_append,List.drop_eq_nil_of_le (by omega),List.nil_append];have:A.length+n+ys.length-A.length=n+ys.length:=by omega
  rw[this,List.drop_append_of_le_length hn]
 rw[t1,t2];simp only [List.append_assoc]
set_option maxRecDepth 10000
theorem ba_app (x y:ByteArray):x++y=⟨(x.data.toList++y.data.toList).toArray⟩:=by
 apply ByteArray.ext;rw[ByteArray.data_append];simp
theorem sadd_go {x y:ByteArray} {K:ByteArray→Prop} (h:x.size+y.size≤9223372036854775807) (hK:K ⟨(x.data.toList++y.data.toList).toArray⟩):sadd x y K:=by
 refine ⟨by omega,?_⟩;rw[ba_app];exact hK
theorem ba_size (l:List UInt8):(⟨l.toArray⟩:ByteArray).size=l.length:=by simp[ByteArray.size]
theorem bs_go {T:Nat} {k:Kd} {xs:List k.Ty} {h:Heap} {K:Slc→Heap→Prop} (hK:K ⟨some ⟨h.size,0⟩,xs.length,xs.length⟩ (h.push (robj T k xs))):bs T k xs h K:=hK
theorem slx_go {s:Slc} {b o lo hi mx:Nat} {sz:Nat} {K:Slc→Prop} (ha:s.a=some ⟨b,o⟩) (h1:lo≤hi) (h2:hi≤mx) (h3:mx≤s.cap) (hK:∀l:Pl,l.b=b→(lo<mx→l=⟨b,o+lo*sz⟩)→(lo=0→l=⟨b,o⟩)→K ⟨some l,hi-lo,mx-lo⟩):slx s (lo:Int) (hi:Int) (mx:Int) sz K:=by
 refine ⟨by omega,by omega,by omega,by omega,?_⟩;simp only [Int.toNat_natCast];by_cases h:mx=lo
 ·rw[if_pos h,ha];exact hK ⟨b,o⟩ rfl (fun e=>by omega) (fun _=>rfl)
 ·rw[if_neg h,ha];exact hK ⟨b,o+lo*sz⟩ rfl (fun _=>rfl) (fun e=>by subst e;simp)
theorem slx_go' {s:Slc} {b o lo hi mx:Nat} {sz:Nat} {K:Slc→Prop} (ha:s.a=some ⟨b,o⟩) (h1:lo≤hi) (h2:hi≤mx) (h3:mx≤s.cap) (hK:∀l:Pl,l.b=b→(lo<mx→l=⟨b,o+lo*sz⟩)→(mx≤lo→l=⟨b,o⟩)→K ⟨some l,hi-lo,mx-lo⟩):slx s (lo:Int) (hi:Int) (mx:Int) sz K:=by
 refine ⟨by omega,by omega,by omega,by omega,?_⟩;simp only [Int.toNat_natCast];by_cases h:mx=lo
 ·rw[if_pos h,ha];exact hK ⟨b,o⟩ rfl (fun e=>by omega) (fun _=>rfl)
 ·rw[if_neg h,ha];exact hK ⟨b,o+lo*sz⟩ rfl (fun _=>rfl) (fun e=>by omega)
theorem callV_go {P:Program} {f:Nat} {first cap:Array Value} {args aa:List Value} {k:Kd} {h:Heap} {K:k.Ty→Heap→Prop} (e:first.toList++args++cap.toList=aa) (hc:callF P f aa k h K):callV P (.func (.func f) first cap) args k h K:=by
 subst e;exact hc
theorem vobj_ar {T n:Nat} {k:Kd} {z:Vector k.Ty n}:vobj T (.ar n k) z=robj T k z.toList:=rfl
theorem ar_sm {h:Heap} {b T n i:Nat} {k:Kd} {z:Vector k.Ty n} (e:h[b]? = some (vobj T (.ar n k) z)) (hi:i<n):sm k ⟨b,0+i*k.size⟩ z[i] h:=by
 have r:Row h T k ⟨some ⟨b,0⟩,n,n⟩ z.toList:=Row.of_new (zs:=[]) (b:=b) (by rw[List.append_nil];exact e) rfl (by simp) (by simp);obtain ⟨l,hl,hx⟩:=seg_at r.seg (i:=i) (by simpa using hi)
 cases hl
 simpa using hx
theorem ar_st {h:Heap} {b T n i:Nat} {k:Kd} {z:Vector k.Ty n} {y:k.Ty} {K:Heap→Prop} (e:h[b]? = some (vobj T (.ar n k) z)) (hi:i<n) (hK:K (h.setIfInBounds b (vobj T (.ar n k) (z.setIfInBounds i y)))):st k ⟨b,0+i*k.size⟩ y h K:=by
 have:=stc_row (k:=k) (ys:=[y]) (o:=0+i*k.size) (i:=i) (K:=K) (show h[b]? = some (robj T k z.toList) from e) (by omega) (by simp;omega);unfold st;have e1:[y].flatMap k.cells=k.cells y:=by simp
 rw[e1] at this;refine this ?_
 have e2:robj T k (z.toList.take i++[y]++z.toList.drop (i+[y].length))=vobj T (.ar n k) (z.setIfInBounds i y):=by
  rw[vobj_ar,Vector.toList_setIfInBounds,List.set_eq_take_append_cons_drop,if_pos (by simpa using hi)];simp
 rw[e2];exact hK
theorem ixs_go {s:ByteArray} {i:Nat} {K:UInt8→Prop} (h:i<s.data.toList.length) (hK:K s.data.toList[i]):ixs s (i:Int) K:=by
 refine ⟨by omega,?_,?_⟩
 ·have:s.size=s.data.toList.length:=rfl;omega
 ·have:bat s (i:Int)=s.data.toList[i]:=by simp only [bat,Int.toNat_natCast];exact getD_at h
  rw[this];exact hK
theorem app2 {T by_ sz:Nat} {k:Kd} {s:Slc} {xs:List k.Ty} {x:k.Ty} {h:Heap} {K:Slc→Heap→Prop} (r:Row h T k s xs) (hs:sz=k.size) (hl:(xs.length+1)*by_≤140737488355328)
 (hK:∀s' h',Keep (own s) h h'→Row h' T k s' (xs++[x])→(∀q∈own s',q∈own s∨h.size≤q)→K s' h') :
 bs T k [x] h fun s1 h1=>slCells s1 (s1.len*sz) h1 fun cs=>ap T k by_ s s1.len cs h1 K:=by
 refine bs_go ?_;subst hs;have r8:=r.keep (keep_push (o:=robj T k [x])) (by simp);refine slCells_row (xs:=[x]) get_push rfl (i:=0) (j:=1) (by simp) rfl (by simp) ?_;refine ap_row (ys:=[x]) r8 rfl rfl hl fun s9 h9 r9 k9 o9 =>?_;refine hK s9 h9 ((keep_push (o:=robj T k [x])).then k9 (by simp) (fun x hx _=>hx)) r9 fun q hq =>?_;rcases own_of o9 q hq with h' | h'
 ·exact .inl h'
 ·right;simp at h';omega
theorem row_sub {h:Heap} {T b c lo hi:Nat} {k:Kd} {s:Slc} {xs:List k.Ty} (r:Row h T k s xs) (ha:s.a=some ⟨b,0⟩) (hl:lo≤hi) (hh:hi≤xs.length):Seg k ⟨some ⟨b,0+lo*k.size⟩,hi-lo,c⟩ ((xs.take hi).drop lo) h:=by
 have g:=r.seg;refine ⟨by simp;omega,fun i x hx=>⟨_,rfl,?_⟩,fun l hl' =>?_⟩
 ·have hi':lo+i<hi:=by
   have:i<((xs.take hi).drop lo).length:=by
    by_cases h:i<((xs.take hi).drop lo).length
    ·exact h
    ·rw[List.getElem?_eq_none (by omega)] at hx;simp at hx
   simp at this;omega
  obtain ⟨l,h1,h2⟩:=g.el (lo+i) x (by rw[List.getElem?_drop,List.getElem?_take_of_lt hi'] at hx;exact hx);rw[ha] at h1
  cases h1
  have e:(0+lo*k.size+i*k.size)=0+(lo+i)*k.size:=by rw[Nat.add_mul];omega
  show sm k ⟨b,0+lo*k.size+i*k.size⟩ x h;rw[e];exact h2
 ·cases hl'
  rcases r with ⟨e1,e2⟩ | ⟨b',zs,e0,e1,e2,e3⟩
  ·rw[e1] at ha;simp at ha
  ·rw[ha] at e0
   cases e0
   refine ⟨_,_,_,e3,?_⟩;show 0+lo*k.size≤_;rw[List.size_toArray,flat_len,List.length_append,Nat.zero_add];exact Nat.mul_le_mul_right _ (by omega)
theorem new_gen {T:Nat} {k:Kd} {x:k.Ty} {h:Heap} {K:Nat→Heap→Prop} (hK:∀b h',b=h.size→Keep [] h h'→h'[b]? = some (vobj T k x)→h'.size=h.size+1→K b h'):new T k x h K:=hK _ _ rfl keep_push get_push (by simp)
theorem new_st_gen {T:Nat} {k:Kd} {x y:k.Ty} {h:Heap} {K:Nat→Heap→Prop} (hK:∀b h',b=h.size→Keep [] h h'→h'[b]? = some (vobj T k y)→h'.size=h.size+1→K b h'):new T k x h fun b h1=>st k (Pl.mk b 0) y h1 fun h2=>K b h2:=
 st_all get_push (hK _ _ rfl (keep_push.new keep_set (by simp)) (get_set get_push) (by simp))
theorem bs_gen {T:Nat} {k:Kd} {xs:List k.Ty} {h:Heap} {K:Slc→Heap→Prop} (hK:∀b h',b=h.size→Keep [] h h'→Row h' T k ⟨some ⟨b,0⟩,xs.length,xs.length⟩ xs→h'.size=h.size+1→K ⟨some ⟨b,0⟩,xs.length,xs.length⟩ h'):bs T k xs h K:=
 hK _ _ rfl keep_push (Row.of_new (zs:=[]) (b:=h.size) (by rw[List.append_nil];exact get_push) rfl rfl rfl) (by simp)
theorem mk_gen {T by_:Nat} {k:Kd} {n:Nat} {h:Heap} {K:Slc→Heap→Prop} (hn:n≤281474976710656) (hb:n*by_≤281474976710656) (hK:∀b h',b=h.size→Keep [] h h'→Row h' T k ⟨some ⟨b,0⟩,n,n⟩ (List.replicate n k.zero)→h'.size=h.size+1→K ⟨some ⟨b,0⟩,n,n⟩ h'):mk T k by_ (n:Int) (n:Int) h K:=by
 refine ⟨by omega,by omega,by omega,by rw[←Int.natCast_mul];omega,?_⟩;simp only [Int.toNat_natCast];have hl:n=(List.replicate n k.zero).length:=by rw[List.length_replicate]
 exact hK _ _ rfl keep_push (Row.of_new (zs:=[]) (b:=h.size) (by rw[List.append_nil];exact get_push) rfl hl hl) (by simp)
theorem b2s_segq {h:Heap} {s:Slc} {xs:List UInt8} {K:ByteArray→Option (Heap→Prop)→Prop} (g:Seg .u8 s xs h) (hK:∀q,(∀(S:List Nat) h',Keep S h h'→(∀b∈own s,b∉S)→∀X:Prop,X→stq q h' X)→K ⟨xs.toArray⟩ q):b2s s h K:=by
 unfold b2s
 cases ha:s.a with
 | none =>
   have:xs=[]:=by
    cases xs with
    | nil=>rfl
    | cons x r=>obtain ⟨l,hl,_⟩:=g.el 0 x (by simp);rw[ha] at hl;simp at hl
   subst this;exact ⟨g.len,hK _ fun S h' k hn X hX=>hX⟩
 | some l =>
   have hb:∀h',Seg .u8 s xs h'→bsm l xs h':=fun h' g'=>by
    have:=seg_rd (s:=s) (g'.blk l ha) (fun i x hi=>by obtain ⟨l',hl',e⟩:=g'.el i x hi;rw[ha] at hl';cases hl';exact e);simpa[bsm,Kd.size] using this
   exact ⟨xs,g.len.symm,hb h g,hK _ fun S h' k hn X hX=>⟨hb h' (g.keep' k hn),hX⟩⟩
theorem ar_seg {h:Heap} {T b n:Nat} {k:Kd} {z:Vector k.Ty n} (e:h[b]? = some (vobj T (.ar n k) z)):Seg k ⟨some ⟨b,0⟩,n,n⟩ z.toList h:=
 (Row.of_new (T:=T) (zs:=[]) (b:=b) (by rw[List.append_nil];exact e) rfl (by simp) (by simp):Row h T k ⟨some ⟨b,0⟩,n,n⟩ z.toList).seg
theorem jn_in {k:Kd} {body:(k.Ty→Heap→Prop)→Prop} {next:k.Ty→Heap→Prop} (R:k.Ty→Heap→Prop) (hb:body R) (hn:∀y h,R y h→next y h):jn k body next:=⟨R,hb,hn⟩
theorem ld_go {k:Kd} {l:Pl} {x:k.Ty} {h:Heap} {K:k.Ty→Prop} (hx:sm k l x h) (hK:K x):ld k l h K:=⟨x,hx,hK⟩
theorem nck_go {l:Pl} {K:Pl→Prop} (hK:K l):nck (some l) K:=⟨l,rfl,hK⟩
theorem st_ld {h:Heap} {b T:Nat} {k:Kd} {x y:k.Ty} {K:k.Ty→Heap→Prop} (e:h[b]? = some (vobj T k x)) (hK:∀h',Keep [b] h h'→h'[b]? = some (vobj T k y)→h'.size=h.size→K y h'):st k (Pl.mk b 0) y h fun h2=>ld k (Pl.mk b 0) h2 fun z=>K z h2:=
 st_all (x':=y) e ⟨y,sm_all (get_set e),hK _ keep_set (get_set e) (by simp)⟩
theorem st_to {h:Heap} {b T:Nat} {k:Kd} {x y:k.Ty} {K:Heap→Prop} (e:h[b]? = some (vobj T k x)) (hK:∀h',Keep [b] h h'→h'[b]? = some (vobj T k y)→h'.size=h.size→K h'):st k (Pl.mk b 0) y h K:=
 st_all (x':=y) e (hK _ keep_set (get_set e) (by simp))
theorem seg_ixl {k:Kd} {s:Slc} {xs:List k.Ty} {h:Heap} {i:Int} {sz:Nat} {K:Pl→Prop} {x:k.Ty} (g:Seg k s xs h) (h0:0≤i) (hx:xs[i.toNat]? = some x) (hs:sz=k.size) (hK:∀l,sm k l x h→K l):ix s i sz K:=by
 have hi:i.toNat<xs.length:=by
  by_cases hh:i.toNat<xs.length
  ·exact hh
  ·rw[List.getElem?_eq_none (by omega)] at hx;simp at hx
 obtain ⟨l,hl,e⟩:=g.el _ _ hx;have hlen:=g.len;exact ⟨l,hl,h0,by omega,hK _ (by rw[hs];exact e)⟩
section
variable {G:Type} {TS TA:Nat} {kS kA:Kd} {zS:kS.Ty} {zA:kA.Ty} {D:Heap→(kS.Ty→kA.Ty→G→Heap→Prop)→Prop} {F:kS.Ty→kA.Ty→G→Heap→Prop} {Q:Heap→Prop→Prop} {J:Pl→Pl→G→Heap→Prop} {h0:Heap}
end
open Go.ChangeShapes Go.WideShapes Go.RowKit
def flatK:Kd→Bool
 | .i=>true | .u8=>true | .u32=>true | .u64=>true | .b=>true | .s=>true | .un=>true
 | .pr x y=>flatK x&&flatK y | .ag x=>flatK x | .ar _ x=>flatK x
 | _=>false
def wfK:(k:Kd)→k.Ty→Prop
 | .i,n => -9223372036854775808≤n∧n≤9223372036854775807
 | .s,x=>x.size≤9223372036854775807
 | .pr x y,z=>wfK x z.1∧wfK y z.2
 | .ag x,z=>wfK x z
 | .ar _ x,z=>∀y∈z.toList,wfK x y
 | _,_=>True
section
variable {P:Program} {τ : Tys} (hτ : TysOk P τ)
variable {H:Type} {enc:TypeId×Value→H} {w:World} {base:Nat} {sp:Nat→Bool} {held:Bool}
include hτ
theorem cellsOf_kd {t:Nat} {ti:TI} (h : τ.get t=some ti) (hd:(match ti.d with | .tup=>true | _=>false)=false):P.cellsOf t=ti.kd.size:=by
 obtain ⟨desc,info,h1,h2,h3,h4,h5,h6⟩:=(hτ t ti h hd).ex;simp[Program.cellsOf,h2,h3]
omit hτ in
theorem kd_of {t:Nat} {k:Kd} (h : τ.kd t=some k):∃ti,τ.get t=some ti∧ti.kd=k∧(match ti.d with | .tup=>true | _=>false)=false:=by
 unfold Tys.kd at h;split at h
 ·simp at h
 ·rename_i ti hne hg
  simp at h;refine ⟨_,hg,h,?_⟩
  cases hd:ti.d <;> simp
  exact hne ti.kd ti.bytes ti.plain (by rw[←hd])
 ·simp at h
def RdFlat (P:Program) (τ : Tys) (enc:TypeId×Value→H) (w:World) (base:Nat) (sp:Nat→Bool) (held:Bool) (n:Nat):Prop:=
 ∀ (t : Nat) (ti : TI) (cs : List Value) (x : DataW H × List MemPlace), τ.get t = some ti → (match ti.d with | .tup => true | _ => false) = false → flatK ti.kd = true →
   DataW.trod enc P w base sp held n t cs=some x→∃z:ti.kd.Ty,cs=ti.kd.cells z∧wfK ti.kd z
theorem flat_fields {n:Nat} (ih:RdFlat P τ enc w base sp held n):∀(fields:List Field) (fs:List (Nat×Nat)) (off:Nat) (k:Kd),fieldsOk τ fields fs off k=true→flatK k=true →
 ∀(cs:List Value),cs.length=off+k.size→(∀f∈fields,∃x,DataW.trod enc P w base sp held n f.type ((cs.drop f.offset).take (P.cellsOf f.type))=some x)→∃z:k.Ty,cs.drop off=k.cells z∧wfK k z
 | fields, fs, off, k, hf, hk, cs, hl, hm => by
   unfold fieldsOk at hf;split at hf
   ·exact ⟨(),by simp[Kd.size] at hl;simp[Kd.cells];omega,trivial⟩
   ·rename_i f r o t r' k kr
    simp only [Bool.and_eq_true] at hf;obtain ⟨⟨⟨⟨h1,h2⟩,h3⟩,h4⟩,h5⟩:=hf;have h1:=Nat.eq_of_beq_eq_true h1;have h2:=Nat.eq_of_beq_eq_true h2;have h3:=Nat.eq_of_beq_eq_true h3;simp only [flatK,Bool.and_eq_true] at hk;split at h4
    ·rename_i k' hk'
     simp only [Bool.and_eq_true,decide_eq_true_eq] at h4;obtain ⟨rfl,h4⟩:=h4;obtain ⟨ti,t1,rfl,t3⟩:=kd_of hk';obtain ⟨x,hx⟩:=hm f (by simp);rw[h1,h2,h3,cellsOf_kd hτ t1 t3] at hx;obtain ⟨z,hz,hw⟩:=ih t ti _ _ t1 t3 hk.1 hx;simp only [Kd.size] at hl;obtain ⟨z',hz',hw'⟩:=flat_fields ih r r' (off+ti.kd.size) kr h5 hk.2 cs (by omega) (fun f hf=>hm f (by simp[hf]));refine ⟨(z,z'),?_,hw,hw'⟩;show _=ti.kd.cells z++kr.cells z';rw[←hz,←hz',←List.drop_drop,List.take_append_drop]
    ·simp at h4
   ·simp at hf
omit hτ in
theorem flat_array {k:Kd} {cs:List Value}:∀(m:Nat),(∀i,i<m→∃z:k.Ty,(cs.drop (i*k.size)).take k.size=k.cells z∧wfK k z)→m*k.size≤cs.length →
 ∃zs:List k.Ty,zs.length=m∧zs.flatMap k.cells=cs.take (m*k.size)∧∀z∈zs,wfK k z
 | 0,_,_=>⟨[],rfl,by simp,by simp⟩
 | m + 1, h, hl => by
   obtain ⟨zs,h1,h2,h3⟩:=flat_array m (fun i hi=>h i (by omega)) (by rw[Nat.succ_mul] at hl;omega);obtain ⟨z,hz,hw⟩:=h m (by omega);refine ⟨zs++[z],by simp[h1],?_,?_⟩
   ·rw[List.flatMap_append,h2];simp only [List.flatMap_cons,List.flatMap_nil,List.append_nil];rw[←hz,Nat.succ_mul,List.take_add]
   ·intro y hy;rcases List.mem_append.1 hy with hy | hy
    ·exact h3 y hy
    ·simp at hy;rw[hy];exact hw
omit hτ in
theorem u8_of {a:Int} (hw:(Lit.int .u8 a).wf=true):∃z:UInt8,a=z.toNat:=by
 simp only [Lit.wf,Bool.and_eq_true,decide_eq_true_eq] at hw;have e1:IntKind.u8.min=0:=by decide
 have e2:IntKind.u8.max=255:=by decide
 refine ⟨UInt8.ofNat a.toNat,?_⟩;rw[UInt8.toNat_ofNat'];omega
omit hτ in
theorem u32_of {a:Int} (hw:(Lit.int .u32 a).wf=true):∃z:UInt32,a=z.toNat:=by
 simp only [Lit.wf,Bool.and_eq_true,decide_eq_true_eq] at hw;have e1:IntKind.u32.min=0:=by decide
 have e2:IntKind.u32.max=4294967295:=by decide
 refine ⟨UInt32.ofNat a.toNat,?_⟩;rw[UInt32.toNat_ofNat'];omega
omit hτ in
theorem u64_of {a:Int} (hw:(Lit.int .u64 a).wf=true):∃z:UInt64,a=z.toNat:=by
 simp only [Lit.wf,Bool.and_eq_true,decide_eq_true_eq] at hw;have e1:IntKind.u64.min=0:=by decide
 have e2:IntKind.u64.max=18446744073709551615:=by decide
 refine ⟨UInt64.ofNat a.toNat,?_⟩;rw[UInt64.toNat_ofNat'];omega
omit hτ in
theorem i64_of {a:Int} (hw:(Lit.int .i64 a).wf=true) : -9223372036854775808≤a∧a≤9223372036854775807:=by
 simp only [Lit.wf,Bool.and_eq_true,decide_eq_true_eq] at hw;have e1:IntKind.i64.min = -9223372036854775808:=by decide
 have e2:IntKind.i64.max=9223372036854775807:=by decide
 omega
theorem rd_flat:∀n,RdFlat P τ enc w base sp held n
 | 0=>fun t ti cs x _ _ _ h=>by simp[DataW.trod] at h
 | n + 1 => fun t ti cs x ht hd hk h => by
   have ih:=rd_flat n;obtain ⟨desc,info,h1,h2,h3,h4,h5,h6⟩:=(hτ t ti ht hd).ex;have hc:=cellsOf_kd hτ ht hd;obtain ⟨d,k,by_,pl⟩:=ti;simp only at hc hk hd h6 ⊢
   cases d with
   | k =>
     rcases descOk_k h6 with ⟨rfl,rfl⟩ | ⟨rfl,rfl⟩ | ⟨rfl,rfl⟩ | ⟨rfl,rfl⟩ | ⟨rfl,rfl⟩
     ·obtain ⟨a,rfl,_,hw⟩:=DataW.trod_int h1 h;exact ⟨a,rfl,i64_of hw⟩
     ·obtain ⟨a,rfl,_,hw⟩:=DataW.trod_int h1 h;obtain ⟨z,rfl⟩:=u8_of hw;exact ⟨z,rfl,trivial⟩
     ·obtain ⟨a,rfl,_,hw⟩:=DataW.trod_int h1 h;obtain ⟨z,rfl⟩:=u32_of hw;exact ⟨z,rfl,trivial⟩
     ·obtain ⟨a,rfl,_,hw⟩:=DataW.trod_int h1 h;obtain ⟨z,rfl⟩:=u64_of hw;exact ⟨z,rfl,trivial⟩
     ·obtain ⟨a,rfl,_⟩:=DataW.trod_bool h1 h;exact ⟨(a:Bool),rfl,trivial⟩
   | str =>
     obtain ⟨rfl,rfl⟩:=descOk_str h6;obtain ⟨a,rfl,_,hl⟩:=DataW.trod_string h1 h;exact ⟨a,rfl,hl⟩
   | struct fs =>
     obtain ⟨fields,k',rfl,rfl,hf⟩:=descOk_struct h6;obtain ⟨xs,m,e,_,hl,hxl,hx⟩:=DataW.trod_struct h1 h;obtain rfl:n=m:=by omega
     obtain ⟨z,hz,hw⟩:=flat_fields hτ ih fields.toList fs 0 k' hf hk cs (by rw[hl,hc];simp[Kd.size]) (fun f hf=>by
      obtain ⟨i,hi,e⟩:=List.getElem_of_mem hf;have hi':i<fields.size:=by simpa using hi
      have hg:fields[i]? = some f:=by rw[Array.getElem?_eq_getElem hi'];simpa using e
      have:=hx i f hg;rw[List.getElem?_eq_getElem (by omega)] at this;exact ⟨_,this⟩)
     exact ⟨z,by simpa[Kd.cells] using hz,hw⟩
   | array m e =>
     obtain ⟨rfl,te,t1,rfl,t3⟩:=descOk_array h6;obtain ⟨xs,m',e',_,hl,hxl,hx⟩:=DataW.trod_array h1 h;obtain rfl:n=m':=by omega
     rw[hc] at hl
     obtain ⟨zs,z1,z2,z3⟩:=flat_array (k:=te.kd) (cs:=cs) m (fun i hi=>by
      have hg:=hx i hi;rw[List.getElem?_eq_getElem (by omega),cellsOf_kd hτ t1 t3] at hg;exact ih e te _ _ t1 t3 hk hg) (by rw[hl];exact Nat.le_refl _)
     refine ⟨⟨zs.toArray,by simpa using z1⟩,?_,?_⟩
     ·show cs=(zs.toArray.toList.flatMap te.kd.cells);simp only [z2];rw[List.take_of_length_le (by rw[hl];exact Nat.le_refl _)]
     ·intro y hy;exact z3 y (by simpa using hy)
   | ptr=>obtain ⟨e,rfl,rfl⟩:=descOk_ptr h6;simp[flatK] at hk
   | fn=>obtain ⟨a,b,c,rfl,rfl⟩:=descOk_fn h6;simp[flatK] at hk
   | ifc=>unfold descOk at h6;split at h6 <;> simp_all [flatK]
   | tup=>simp at hd
   | slice e=>obtain ⟨rfl,rfl⟩:=descOk_slice h6;simp[flatK] at hk
   | map a b=>obtain ⟨rfl,rfl⟩:=descOk_map h6;simp[flatK] at hk
theorem arg_flat {r:Reach} {b0:Nat} {t:Nat} {ti:TI} {v:Value} {d:DataW H} {ps:List MemPlace} (ht : τ.get t=some ti) (hd:(match ti.d with | .tup=>true | _=>false)=false) (hk:flatK ti.kd=true)
 (hv:Value.okWide P w r b0 t v) (h:DataW.Trod enc P w base sp held t v d ps):∃z:ti.kd.Ty,v=ti.kd.val z∧wfK ti.kd z:=by
 obtain ⟨n,hn⟩:=h;obtain ⟨z,hz,hw⟩:=rd_flat hτ n t ti _ _ ht hd hk hn;refine ⟨z,?_,hw⟩;obtain ⟨desc,info,h1,h2,h3,h4,h5,h6⟩:=(hτ t ti ht hd).ex;obtain ⟨d,k,by_,pl⟩:=ti;simp only at hz hk h6 ⊢
 have agg:∀cs:Array Value,v = .agg cs→cs=(k.cells z).toArray:=by
  rintro cs rfl;simp only [Value.cells] at hz;rw[←hz]
 have sc:∀c:Value,k.cells z=[c]→k.val z=c→(∀cs,v ≠ .agg cs)→v=k.val z:=by
  intro c e1 e2 hna;rw[e1] at hz;rw[e2]
  cases v <;> simp_all [Value.cells]
 cases d with
 | k =>
   rcases descOk_k h6 with ⟨rfl,rfl⟩ | ⟨rfl,rfl⟩ | ⟨rfl,rfl⟩ | ⟨rfl,rfl⟩ | ⟨rfl,rfl⟩ <;>
    exact sc _ rfl rfl (by rintro cs rfl;simp[Value.okWide,h1,Cell.okWide,Cell.ok] at hv)
 | str =>
   obtain ⟨rfl,rfl⟩:=descOk_str h6;exact sc _ rfl rfl (by rintro cs rfl;simp[Value.okWide,h1,Cell.okWide,Cell.ok] at hv)
 | struct fs =>
   obtain ⟨fields,k',rfl,rfl,hf⟩:=descOk_struct h6;simp only [Value.okWide,h1] at hv;obtain ⟨cs,rfl,_⟩:=hv;rw[agg cs rfl]
   rfl
 | array m e =>
   obtain ⟨rfl,te,t1,rfl,t3⟩:=descOk_array h6;simp only [Value.okWide,h1] at hv;obtain ⟨cs,rfl,_⟩:=hv;rw[agg cs rfl]
   rfl
 | ptr=>obtain ⟨e,rfl,rfl⟩:=descOk_ptr h6;simp[flatK] at hk
 | fn=>obtain ⟨a,b,c,rfl,rfl⟩:=descOk_fn h6;simp[flatK] at hk
 | ifc=>unfold descOk at h6;split at h6 <;> simp_all [flatK]
 | tup=>simp at hd
 | slice e=>obtain ⟨rfl,rfl⟩:=descOk_slice h6;simp[flatK] at hk
 | map a b=>obtain ⟨rfl,rfl⟩:=descOk_map h6;simp[flatK] at hk
omit hτ in
theorem row_le {fits:TypeId→Bool}:∀ {d e count off n:Nat},rowAt P fits d e count off n=true→off≤count*P.cellsOf e
 | 0,_,_,_,_,h=>by simp[rowAt] at h
 | d + 1, e, count, off, n, h => by
   unfold rowAt at h;simp only at h;split at h
   ·simp at h
   ·rename_i hs
    have hdm:=Nat.div_add_mod off (P.cellsOf e);have hml:=Nat.mod_lt off (Nat.pos_of_ne_zero hs);simp only [Bool.or_eq_true,Bool.and_eq_true,decide_eq_true_eq,beq_iff_eq] at h;rcases h with ⟨⟨h1,h2⟩,_⟩ | ⟨h1,_⟩
    ·have:P.cellsOf e*(off/P.cellsOf e)≤P.cellsOf e*count:=Nat.mul_le_mul_left _ (by omega);rw[Nat.mul_comm count];omega
    ·have:P.cellsOf e*(off/P.cellsOf e+1)≤P.cellsOf e*count:=Nat.mul_le_mul_left _ (by omega);rw[Nat.mul_add] at this;rw[Nat.mul_comm count];omega
omit hτ in
theorem lies_le:∀ {d e count off u n:Nat},liesAt P d e count off u n=true→off≤count*P.cellsOf e
 | 0,_,_,_,_,_,h=>by simp[liesAt] at h
 | d + 1, e, count, off, u, n, h => by
   unfold liesAt at h;simp only [Bool.or_eq_true] at h;rcases h with h | h
   ·exact row_le h
   ·split at h
    ·exact lies_le h
    ·simp at h
omit hτ in
theorem cell_in {w:World} {a:Addr} {v:Value} (h:w.cell? a=some v):∃c T f,w.heap[a.block]? = some (.cells c T f)∧c[a.off]? = some v:=by
 unfold World.cell? at h;split at h
 ·rename_i c T f hc
  split at h
  ·simp at h
  ·exact ⟨c,T,f,hc,h⟩
 ·simp at h
theorem arg_slice {r:Reach} {b0:Nat} {t e:Nat} {by_:Nat} {pl:Bool} {ti:TI} {v:Value} {d:DataW H} {ps:List MemPlace} (ht : τ.get t=some ⟨.slice e,.sl,by_,pl⟩) (he : τ.get e=some ti)
 (hd:(match ti.d with | .tup=>true | _=>false)=false) (hk:flatK ti.kd=true) (hsz:0<ti.kd.size)
 (hv:Value.okWide P w r b0 t v) (h:DataW.Trod enc P w base sp held t v d ps):∃(s:Slc) (xs:List ti.kd.Ty),v=Kd.sl.val s∧s.len≤s.cap∧s.cap≤maxLen∧Seg ti.kd s xs w.heap∧∀x∈xs,wfK ti.kd x:=by
 obtain ⟨n,hn⟩:=h;obtain ⟨desc,info,h1,h2,h3,h4,h5,h6⟩:=(hτ t _ ht rfl).ex;obtain ⟨rfl,_⟩:=descOk_slice h6;have hna:∀cs,v ≠ .agg cs:=by rintro cs rfl;simp[Value.okWide,h1,Cell.okWide,Cell.ok] at hv
 have hcs:v.cells.toList=[v]:=by cases v <;> simp_all [Value.cells]
 rw[hcs] at hn;rcases Go.Deep.open_slice h1 hn with ⟨e1,_⟩ | ⟨a,len,cap,m,n',D,Pl,e1,hb,hl,hm,hmm,_,hx⟩
 ·simp only [List.cons.injEq,and_true] at e1;subst e1;exact ⟨⟨none,0,0⟩,[],rfl,Nat.le_refl _,Nat.zero_le _,⟨rfl,by simp,by simp⟩,by simp⟩
 ·simp only [List.cons.injEq,and_true] at e1;subst e1
  have hspot:a.spot=none:=by
   simp only [Value.okWide,h1,Cell.okWide,Cell.ok] at hv;exact hv.2.2.2.1
  have hlies:∃row cells,w.shape? a.block=some (row,cells)∧liesAt P P.depth row (cells/P.cellsOf row) a.off e cap=true:=by
   simp only [Value.okWide,h1,Cell.okWide,Cell.ok] at hv;exact hv.2.2.2.2
  obtain ⟨ab,ao,asp⟩:=a;simp only at hspot;subst hspot;have hle:len≤m:=by rw[hmm];split <;> omega
  have key:∀i,i<len→∃z:ti.kd.Ty,sm ti.kd ⟨ab,ao+i*ti.kd.size⟩ z w.heap∧wfK ti.kd z:=by
   intro i hi;obtain ⟨cs',c1,c2⟩:=hx i (by omega);obtain ⟨z,hz,hw⟩:=rd_flat hτ n' e ti _ _ he hd hk c2;rw[cellsOf_kd hτ he hd] at c1;obtain ⟨_,q1,q2⟩:=World.cells?_some c1
   have hadd:∀j,((⟨ab,ao,none⟩:Addr).add (i*ti.kd.size)).add j=⟨ab,ao+i*ti.kd.size+j,none⟩:=by
    intro j;rw[Go.Deep.add_add];unfold Addr.add;split
    ·rename_i e0
     congr 1;omega
    ·congr 1;simp;omega
   have hcell:∀j,j<ti.kd.size→w.cell? ⟨ab,ao+i*ti.kd.size+j,none⟩=cs'[j]? := by
    intro j hj;rw[←hadd j];exact q2 j hj
   have h0:=hcell 0 hsz;rw[List.getElem?_eq_getElem (by omega)] at h0;obtain ⟨c,T,f,hc,_⟩:=cell_in h0;simp only at hc
   have hce:∀j,j<ti.kd.size→c[ao+i*ti.kd.size+j]? = cs'[j]? := by
    intro j hj;have:=hcell j hj;simpa[World.cell?,hc] using this
   have hsize:ao+i*ti.kd.size+ti.kd.size≤c.size:=by
    have:=hce (ti.kd.size-1) (by omega);rw[List.getElem?_eq_getElem (show ti.kd.size-1<cs'.length by omega)] at this
    have hlt:ao+i*ti.kd.size+(ti.kd.size-1)<c.size:=by
     by_cases hh:ao+i*ti.kd.size+(ti.kd.size-1)<c.size
     ·exact hh
     ·rw[Array.getElem?_eq_none (by omega)] at this;simp at this
    omega
   refine ⟨z,?_,hw⟩;simp only [sm,rdCells,hc,hsize,if_true,←hz]
   congr 1
   apply List.ext_getElem?;intro j;by_cases hj:j<ti.kd.size
   ·rw[List.getElem?_take_of_lt hj,List.getElem?_drop,Array.getElem?_toList,hce j hj]
   ·rw[List.getElem?_eq_none (by simp;omega),List.getElem?_eq_none (by omega)]
  have:∀m,m≤len→∃xs:List ti.kd.Ty,xs.length=m∧(∀i x,xs[i]? = some x→sm ti.kd ⟨ab,ao+i*ti.kd.size⟩ x w.heap)∧∀x∈xs,wfK ti.kd x:=by
   intro m
   induction m with
   | zero=>intro _;exact ⟨[],rfl,by simp,by simp⟩
   | succ m ih =>
     intro hm;obtain ⟨xs,x1,x2,x3⟩:=ih (by omega);obtain ⟨z,z1,z2⟩:=key m (by omega);refine ⟨xs++[z],by simp[x1],?_,?_⟩
     ·intro i x hi;by_cases him:i<m
      ·rw[List.getElem?_append_left (by omega)] at hi;exact x2 i x hi
      ·rw[List.getElem?_append_right (by omega)] at hi
       have:i=m:=by
        by_cases e:i=m
        ·exact e
        ·rw[List.getElem?_eq_none (by simp;omega)] at hi;simp at hi
       subst this;simp[x1] at hi;subst hi;exact z1
     ·intro y hy;rcases List.mem_append.1 hy with hy | hy
      ·exact x3 y hy
      ·simp at hy;rw[hy];exact z2
  obtain ⟨xs,x1,x2,x3⟩:=this len (Nat.le_refl _);refine ⟨⟨some ⟨ab,ao⟩,len,cap⟩,xs,rfl,hl,hm,⟨x1.symm,fun i x hi=>⟨_,rfl,x2 i x hi⟩,?_⟩,x3⟩;intro l hl;simp only [Option.some.injEq] at hl;subst hl;obtain ⟨row,cells,q1,q2⟩:=hlies;have q3:=lies_le q2;unfold World.shape? at q1;split at q1
  ·rename_i c T f hc
   simp only [Option.some.injEq,Prod.mk.injEq] at q1;obtain ⟨rfl,rfl⟩:=q1;exact ⟨c,_,f,hc,Nat.le_trans q3 (Nat.div_mul_le_self _ _)⟩
  ·simp at q1
end
section
variable {P:Program} {H:Type} {enc:TypeId×Value→H}
theorem keptBut_keep {w w':World} (h1:w'.os=w.os) (h2:w'.output=w.output) (hk:Keep [] w.heap w'.heap) (may:MemPlace→Prop):w.keptBut w' may:=by
 refine ⟨h1,h2,fun i hi =>?_⟩;rw[hk.2 i hi (by simp)]
 cases h:w.heap[i]? with
 | none=>trivial
 | some o=>cases o <;> simp
theorem trodAll_kept (hl:laidOutB P=true) {W W':World} (hk:Keep [] W.heap W'.heap) {sp:Nat→Bool}:∀ {ts:List TypeId} {vs:List Value} {ds:List (DataW H)} {ps:List MemPlace},
 DataW.TrodAll enc P W 0 (fun _=>true) true ts vs ds ps→(∀t∈ts,P.readableRec t=true∧t<P.types.size)→(∀p∈ps,p.block<W.heap.size)→(∀p∈ps,sp p.block=true)→DataW.TrodAll enc P W' 0 sp true ts vs ds ps
 | [],[],[],ps,h,_,_,_=>h
 | t :: ts, v :: vs, d :: ds, ps, ⟨p, q, h1, h2, e⟩, hr, hlt, hsp => by
   subst e;refine ⟨p,q,WideElems.Trod_stays hl (hr t (by simp)).1 (hr t (by simp)).2 h1 (fun x hx =>?_) (fun x hx=>hsp x (by simp[hx])),trodAll_kept hl hk h2 (fun t ht=>hr t (by simp[ht])) (fun x hx=>hlt x (by simp[hx])) (fun x hx=>hsp x (by simp[hx])),rfl⟩;have hb:=hlt x (by simp[hx])
   cases x with
   | cell b o=>simp only [MemPlace.block] at hb;simp[World.sameAt,World.cell?,hk.2 b hb (by simp)]
   | map b=>simp only [MemPlace.block] at hb;simp[World.sameAt,hk.2 b hb (by simp)]
theorem law_tail {F:Nat} {fn:Func} {s:ChangeSpec} {apart fresh handsOn again:Bool} {W:World} {args:Array Value} {ds gs:List (DataW H)} {before:List MemPlace} {tb:Nat} (hl:laidOutB P=true)
 (hprm:∀t∈fn.params.toList,P.readableRec t=true∧t<P.types.size) (hres:fn.resultTypes = #[tb]) (hb:P.underlying tb=some .bool) (hvars:s.vars=[])
 (hfn : P.funcs[F]? = some fn) (hn : (fn.name == "runtime.NumGoroutine") = false) (hbd : fn.body.isSome = true) (hspec : s.fn H (ds ++ gs) = { results := [.lit (.bool true)], args := ds })
 (hW:DataW.Whole enc P fn.params.toList s.vars apart W args.toList ds gs before)
 (hc:callF P F args.toList .b W.heap fun b h'=>b=true∧Keep [] W.heap h') :
 Calls P F args W fun e W'=>∃v,e = .returned v∧s.post enc P fn apart fresh handsOn again W args v W':=by
 have h := hc W rfl;obtain ⟨c, hcb⟩ := Option.isSome_iff_exists.1 hbd;have hn' : fn.name ≠ "runtime.NumGoroutine" := by simpa using hn
 have he:(callFunc F args.toList.toArray).run P W = .ok (.enter F args) W:=by simp[callFunc,hfn,hn',hcb,mark]
 rw[he] at h;refine (callsIn_wide.1 h).mono ?_;rintro e W' ⟨v,rfl,b,rfl,h1,h2,rfl,hk⟩;refine ⟨_,rfl,?_⟩;obtain ⟨p,q,hA,hV,rfl,hfz,hnd⟩:=id hW;rw[hvars] at hV;obtain ⟨rfl,rfl⟩:=trodVars_none hV;have hlt:∀x∈p++([]:List MemPlace),x.block<W.heap.size:=fun x hx=>hW.lt x hx
 have hargs:∀sp:Nat→Bool,(∀y∈p++([]:List MemPlace),sp y.block=true)→DataW.TrodAll enc P W' 0 sp true fn.params.toList args.toList (s.fn H (ds++[])).args p:=by
  intro sp hsp;rw[hspec];exact trodAll_kept hl hk hA hprm (fun x hx=>hlt x (by simp[hx])) (fun x hx=>hsp x (by simp[hx]))
 have hrs:∀(b:Nat) (sp:Nat→Bool) (hd:Bool),DataW.TrodAll enc P W' b sp hd fn.resultTypes.toList ((Kd.b.val true).resultList fn.resultTypes.size) (s.fn H (ds++[])).results []:=by
  intro b sp hd;rw[hspec,hres];exact trodAll_cons_mk (shut_bool hb _) trodAll_mk0
 have hold:∀y∈p++([]:List MemPlace),(fun b=>decide (b<W.heap.size)) y.block=true:=fun y hp=>by simpa using hlt y hp
 have hvr:∀sp:Nat→Bool,DataW.TrodVars enc P W' sp s.vars (s.fn H (ds++[])).vars []:=by
  intro sp;rw[hspec,hvars];rfl
 refine ⟨ds,[],p++[],[],p,[],hW,hrs _ _ _,hargs _ hold,hvr _,keptBut_keep h1 h2 hk _,fun _ =>?_⟩;refine ⟨ok_one hres rfl (okWide_bool_mk hb _),_,_,([]++p)++[],⟨[]++p,[],trodAll_append (hargs _ (fun _ _=>rfl)) (hrs _ _ _),hvr _,rfl,?_,?_⟩,?_⟩
 ·intro b off hp;have hb':=hlt _ (show MemPlace.cell b off∈p++[] by simpa using hp);have:=hfz b off (by simpa using hp);simp only [MemPlace.block] at hb';simpa[World.frozen?,hk.2 b hb' (by simp)] using this
 ·intro ha;simpa using hnd ha
 ·intro x hx _;simpa using hx
end
open Go.ChangeShapes Go.WideShapes Go.RowKit
section
variable {P:Program} {τ : Tys} (hτ : TysOk P τ)
variable {H:Type} {enc:TypeId×Value→H} {w:World} {base:Nat} {sp:Nat→Bool} {held:Bool}
include hτ
end
open Go.ChangeShapes Go.WideShapes Go.RowKit
inductive RT where
 | fl (k:Kd) | s | sl (by_:Nat) (e:RT) | pr (x y:RT) | ag (x:RT) | un
@[reducible] def RT.kd:RT→Kd
 | .fl k=>k | .s => .s | .sl _ _ => .sl | .pr x y => .pr x.kd y.kd | .ag x => .ag x.kd | .un => .un
section
variable {P:Program} {τ : Tys} (hτ : TysOk P τ)
variable {H:Type} {enc:TypeId×Value→H} {w:World} {base:Nat} {sp:Nat→Bool} {held:Bool}
include hτ
end
end Go.Al
