import Derived.CallsIn
import Derived.OrdersIn
import Derived.RangeFuncLeaves
import Derived.Tactics
import Derived.Laws.Slices
import Derived.Laws.BitsLemmas
import Derived.Laws.Bits64
import Derived.Laws.Strings
import Derived.MapKept
import Derived.Laws.Append
set_option linter.defProp false
/- The logic: definitions. A Go function's code is turned into a plain proposition over typed values and the heap; its soundness is the next files'. -/
namespace Go.Al
abbrev Ja:=Array Obj
abbrev Hp:=Ja→Prop
abbrev Ba:=ByteArray
structure Pl where
 b:Nat
 o:Nat
 deriving DecidableEq
@[reducible] def Pl.fld (l:Pl) (n:Nat):Pl:=⟨l.b,l.o+n⟩
def Pl.addr(l:Pl):Addr:=⟨l.b,l.o,none⟩
class Wd where
 v:Option Addr
instance:Wd:=⟨none⟩
def Wd.ext{x y:Wd} (h:x.v=y.v):x=y:=by cases x;cases y;cases h;rfl
instance:DecidableEq Wd:=fun x y=>if h:x.v=y.v then .isTrue (Wd.ext h) else .isFalse (fun e=>h (by rw[e]))
structure Jn where
 a:Option Pl
 len:Nat
 cap:Nat
 [wd:Wd]
def Jn.ext{x y:Jn} (h1:x.a=y.a) (h2:x.len=y.len) (h3:x.cap=y.cap) (h4:x.wd=y.wd):x=y:=by cases x;cases y;cases h1;cases h2;cases h3;cases h4;rfl
instance:DecidableEq Jn:=fun x y=>if h:x.a=y.a∧x.len=y.len∧x.cap=y.cap∧x.wd=y.wd then .isTrue (Jn.ext h.1 h.2.1 h.2.2.1 h.2.2.2) else .isFalse (fun e=>h (by rw[e];exact ⟨rfl,rfl,rfl,rfl⟩))
inductive Kd where
 | i | u8 | u32 | u64 | b | s | p | sl | m | f | v | un | d | l
 | pr (x y:Kd) | ag (x:Kd) | tp (x:Kd) | ar (n:Nat) (x:Kd) | it (x y:Kd)
 deriving DecidableEq
@[reducible] def Kd.Ty:Kd→Type
 | .i=>Int | .u8=>UInt8 | .u32=>UInt32 | .u64=>UInt64 | .b=>Bool | .s=>Ba
 | .p=>Option Pl | .sl=>Jn | .m=>Option Nat | .f=>Value | .v=>Value | .un=>Unit | .d=>List Nat | .l=>Pl
 | .pr x y=>x.Ty×y.Ty | .ag x=>x.Ty | .tp x=>x.Ty | .ar n x=>Vector x.Ty n | .it _ _=>Nat
def Jn.at(s:Jn):Option Addr:=match s.a with | some l=>some l.addr | none=>s.wd.v
@[simp] theorem Jn.at_mk {l:Pl} {n c:Nat} {w:Wd}:(@Jn.mk (some l) n c w).at=some l.addr:=rfl
@[simp] theorem Jn.at_mk0 {n c:Nat} {w:Wd}:(@Jn.mk none n c w).at=w.v:=rfl
theorem Jn.at_some{s:Jn}{l:Pl} (h:s.a=some l):s.at=some l.addr:=by unfold Jn.at;rw[h]
def Jn.at_none{s:Jn} (h:s.a=none):s.at=s.wd.v:=by unfold Jn.at;rw[h]
def Jn.val(s:Jn):Value := .slice s.at s.len s.cap
def Jn.isNil(s:Jn):Bool:=match s.a with | some _=>false | none=>match s.wd.v with | some _=>false | none=>true
def Y7(x:Value):Value:=match x with | .func _ _ _=>x | _ => .nilFunc
def PG(x:Value):Value:=match x with | .iface _ _=>x | _ => .nilIface
def Kd.cells:(k:Kd)→k.Ty→List Value
 | .i,n=>[.int .i64 n] | .u8,x=>[.int .u8 x.toNat] | .u32,x=>[.int .u32 x.toNat] | .u64,x=>[.int .u64 x.toNat]
 | .b,x=>[.bool x] | .s,x=>[.string x] | .p,x=>[.pointer (x.map Pl.addr)] | .sl,x=>[x.val] | .m,x=>[.map x]
 | .f,x=>[Y7 x] | .v,x=>[PG x] | .un,_=>[] | .d,_=>[] | .l,x=>[.pointer (some x.addr)]
 | .pr x y,z=>x.cells z.1++y.cells z.2 | .ag x,z=>x.cells z | .tp _,_=>[]
 | .ar _ x,z=>z.toList.flatMap x.cells | .it _ _,z=>[.pointer (some ⟨z,0,none⟩)]
def Jn.a_nil{s:Jn} (h:s.isNil=true):s.a=none:=by
 unfold Jn.isNil at h;split at h
 ·simp at h
 ·assumption
def Kd.size:Kd→Nat
 | .un=>0 | .d=>0 | .pr x y=>x.size+y.size | .ag x=>x.size | .tp _=>0 | .ar n x=>n*x.size
 | _=>1
def Kd.zero:(k:Kd)→k.Ty
 | .i=>(0:Int) | .u8=>(0:UInt8) | .u32=>(0:UInt32) | .u64=>(0:UInt64) | .b=>false | .s=>⟨#[]⟩
 | .p=>none | .sl=>⟨none,0,0⟩ | .m=>none | .f=>Value.nilFunc | .v=>Value.nilIface | .un=>() | .d=>[] | .l=>⟨0,0⟩
 | .pr x y=>(x.zero,y.zero) | .ag x=>x.zero | .tp x=>x.zero | .ar n x=>Vector.replicate n x.zero | .it _ _=>(0:Nat)
def one:List Value→Value
 | [c]=>c
 | _ => .tuple #[]
def Kd.val0:(k:Kd)→k.Ty→Value
 | .ag x,z => .agg (x.cells z).toArray
 | .ar n x,z => .agg ((Kd.ar n x).cells z).toArray
 | k,z=>one (k.cells z)
def Kd.vals:(k:Kd)→k.Ty→List Value
 | .pr x y,z=>Kd.val0 x z.1::Kd.vals y z.2
 | .un,_=>[]
 | k,z=>[Kd.val0 k z]
def Kd.val:(k:Kd)→k.Ty→Value
 | .tp x,z => .tuple (Kd.vals x z).toArray
 | k,z=>k.val0 z
abbrev SV:=(k:Kd)×k.Ty
def SV.val(x:SV):Value:=x.1.val x.2
def SV.as(k:Kd) (x:SV):Option k.Ty:=if h:x.1=k then some (h ▸ x.2) else none
def DK:SV→Option Int | ⟨.i,n⟩=>some n | _=>none
def CO:SV→Option UInt8 | ⟨.u8,n⟩=>some n | _=>none
def Rx:SV→Option UInt32 | ⟨.u32,n⟩=>some n | _=>none
def Sq:SV→Option UInt64 | ⟨.u64,n⟩=>some n | _=>none
def zV:SV→Option Bool | ⟨.b,n⟩=>some n | _=>none
def CM:SV→Option Ba | ⟨.s,n⟩=>some n | _=>none
def jU:SV→Option (Option Pl) | ⟨.p,n⟩=>some n | _=>none
def GX:SV→Option Jn | ⟨.sl,n⟩=>some n | _=>none
def yF:SV→Option (Option Nat) | ⟨.m,n⟩=>some n | _=>none
def vJ:SV→Option Value | ⟨.f,n⟩=>some n | _=>none
def asD:SV→Option (List Nat) | ⟨.d,n⟩=>some n | _=>none
def Sr:SV→Option Int
 | ⟨.i,n⟩=>some n | ⟨.u8,n⟩=>some n.toNat | ⟨.u32,n⟩=>some n.toNat | ⟨.u64,n⟩=>some n.toNat | _=>none
abbrev Yd:=List (Nat×Option SV)
def Yd.get:Yd→Nat→Option SV
 | [],_=>none
 | (k,v)::r,t=>match Nat.beq k t with | true=>v | false=>Yd.get r t
def Yd.put(ρ : Yd) (d:Option Nat) (v:Option SV):Yd:=
 match d with | none => ρ | some d=>(d,v) :: ρ
def DS:Nat:=1000000000
def TR:Value→Option SV
 | .int .i64 n=>some ⟨.i,n⟩
 | .int .u8 (.ofNat n)=>match Nat.blt n 256 with | true=>some ⟨.u8,UInt8.ofNat n⟩ | false=>none
 | .int .u32 (.ofNat n)=>match Nat.blt n 4294967296 with | true=>some ⟨.u32,UInt32.ofNat n⟩ | false=>none
 | .int .u64 (.ofNat n)=>match Nat.blt n 18446744073709551616 with | true=>some ⟨.u64,UInt64.ofNat n⟩ | false=>none
 | .bool b=>some ⟨.b,b⟩
 | .string s=>some ⟨.s,s⟩
 | .pointer none=>some ⟨.p,none⟩
 | .slice none 0 0=>some ⟨.sl,⟨none,0,0⟩⟩
 | .map none=>some ⟨.m,none⟩
 | .nilFunc=>some ⟨.f,.nilFunc⟩
 | .nilIface=>some ⟨.v,.nilIface⟩
 | _=>none
def ev(ρ : Yd):Operand→Option SV
 | .tmp t=>match Nat.beq t DS with | true=>none | false => ρ.get t
 | .const v=>TR v
 | .func f=>some ⟨.f,.func (.func f) #[] #[]⟩
 | .global _=>none
inductive TD where
 | k | str | ptr | fn | ifc | tup
 | slice (elem:Nat)
 | array (n elem:Nat)
 | struct (fs:List (Nat×Nat))
 | map (key elem:Nat)
structure TI where
 d:TD
 kd:Kd
 bytes:Nat
 plain:Bool
abbrev Yv:=List (Nat×TI)
def Yv.get:Yv→Nat→Option TI
 | [],_=>none
 | (k,v)::r,t=>match Nat.beq k t with | true=>some v | false=>Yv.get r t
def Yv.kd(τ : Yv) (t:Nat):Option Kd:=match τ.get t with | some ⟨.tup,_,_,_⟩=>none | some i=>some i.kd | none=>none
def Yv.rk(τ : Yv) (t:Nat):Option Kd:=match τ.get t with | some i=>some i.kd | none=>none
def Yv.elem(τ : Yv) (t:Nat):Option (Nat×TI):=
 match τ.get t with
 | some ⟨.slice e,_,_,_⟩ | some ⟨.array _ e,_,_,_⟩=>match τ.get e with | some ⟨.tup,_,_,_⟩=>none | some i=>some (e,i) | none=>none
 | _=>none
def vM:List (Nat×Nat)→Nat→Option (Nat×Nat)
 | [],_=>none
 | x::_,0=>some x
 | _::r,n+1=>vM r n
def Yv.field(τ : Yv) (t n:Nat):Option (Nat×Nat):=
 match τ.get t with
 | some ⟨.struct fs,_,_,_⟩=>vM fs n
 | _=>none
def Qz(h:Ja) (l:Pl) (n:Nat):Option (List Value):=
 match h[l.b]? with
 | some (.cells c _ _)=>if l.o+n≤c.size then some ((c.toList.drop l.o).take n) else none
 | _=>none
def sm(k:Kd) (l:Pl) (x:k.Ty) (h:Ja):Prop:=Qz h l k.size=some (k.cells x)
def ld(k:Kd) (l:Pl) (h:Ja) (K:k.Ty→Prop):Prop:=∃x,sm k l x h∧K x
def Xz(c:Array Value) (o:Nat) (xs:List Value):Array Value:=
 (c.toList.take o++xs++c.toList.drop (o+xs.length)).toArray
def stc(l:Pl) (xs:List Value) (h:Ja) (K:Hp):Prop:=
 ∃ c T lo hi, h[l.b]? = some (.cells c T (lo, hi)) ∧ l.o + xs.length ≤ c.size ∧ (hi ≤ l.o ∨ l.o + xs.length ≤ lo ∨ xs = []) ∧
   K (h.setIfInBounds l.b (.cells (Xz c l.o xs) T (lo,hi)))
def st(k:Kd) (l:Pl) (x:k.Ty) (h:Ja) (K:Hp):Prop:=stc l (k.cells x) h K
def Jg(T:Nat) (k:Kd) (x:k.Ty):Obj := .cells (k.cells x).toArray T
def new(T:Nat) (k:Kd) (x:k.Ty) (h:Ja) (K:Nat→Hp):Prop:=K h.size (h.push (Jg T k x))
def QW(T:Nat) (k:Kd) (xs:List k.Ty):Obj := .cells (xs.flatMap k.cells).toArray T
def Qa(p:Option Pl) (K:Pl→Prop):Prop:=∃l,p=some l∧K l
def Jr(n:Int):Int:=IntKind.i64.wrap n
def UO(x y:Int):Int:=IntKind.i64.wrap (BitVec.ofInt 64 x&&&BitVec.ofInt 64 y).toNat
def Rg(x y:Int):Int:=IntKind.i64.wrap (BitVec.ofInt 64 x|||BitVec.ofInt 64 y).toNat
def ym(x y:Int):Int:=IntKind.i64.wrap (BitVec.ofInt 64 x^^^BitVec.ofInt 64 y).toNat
def yC(x y:Int):Int:=IntKind.i64.wrap (BitVec.ofInt 64 x &&& ~~~ (BitVec.ofInt 64 y)).toNat
def QQ(x y:Int):Int:=IntKind.i64.wrap (x*2^(min y.toNat 64))
def Wy(x y:Int):Int:=x.fdiv (2^(min y.toNat 64))
def Gm(n:Int):UInt8:=UInt8.ofNat (IntKind.u8.wrap n).toNat
def yf(n:Int):UInt32:=UInt32.ofNat (IntKind.u32.wrap n).toNat
def VL(n:Int):UInt64:=UInt64.ofNat (IntKind.u64.wrap n).toNat
def Wp(x y:Ba):Bool:=Op.bytesLess x.data.toList y.data.toList
def ix(s:Jn) (i:Int) (sz:Nat) (K:Pl→Prop):Prop:=∃l,s.a=some l∧0≤i∧i<s.len∧K ⟨l.b,l.o+i.toNat*sz⟩
def YJ(l:Pl) (n:Nat) (i:Int) (sz:Nat) (K:Pl→Prop):Prop:=0≤i∧i<n∧K ⟨l.b,l.o+i.toNat*sz⟩
def gw(s:Ba) (i:Int):UInt8:=s.data.toList.getD i.toNat 0
def RN(s:Ba) (i:Int) (K:UInt8→Prop):Prop:=0≤i∧i<s.size∧K (gw s i)
def UA(s:Ba) (lo hi:Int) (K:Ba→Prop):Prop:=0≤lo∧lo≤hi∧hi≤s.size∧K (s.extract lo.toNat hi.toNat)
def R9(s:Jn) (lo hi mx:Int) (sz:Nat) (K:Jn→Prop):Prop:=
 0≤lo∧lo≤hi∧hi≤mx∧mx≤s.cap∧K (@Jn.mk (if mx.toNat=lo.toNat then s.a else s.a.map fun l=>⟨l.b,l.o+lo.toNat*sz⟩) (hi.toNat-lo.toNat) (mx.toNat-lo.toNat) (match s.a with | some _=>⟨none⟩ | none=>if mx.toNat=lo.toNat then s.wd else⟨s.wd.v.map fun a=>a.add (lo.toNat*sz)⟩))
def jv(l:Pl) (n:Nat) (lo hi:Int) (sz:Nat) (K:Jn→Prop):Prop:=
 0≤lo∧lo≤hi∧hi≤n∧K ⟨some (if n=lo.toNat then l else⟨l.b,l.o+lo.toNat*sz⟩),hi.toNat-lo.toNat,n-lo.toNat⟩
def JS(x y:Ba) (K:Ba→Prop):Prop:=((x.size+y.size:Nat):Int)≤9223372036854775807∧K (x++y)
def XC:Value→Prop
 | .agg _=>False
 | .tuple _=>False
 | _=>True
def JB(s:Jn) (n:Nat) (h:Ja) (K:List Value→Prop):Prop:=
 match s.a with
 | some l=>∃cs,Qz h l n=some cs∧(∀c∈cs,XC c)∧K cs
 | none=>n=0∧K []
def gy(l:Pl) (bs:List UInt8) (h:Ja):Prop:=Qz h l bs.length=some (bs.flatMap Kd.u8.cells)
def Gr(s:Jn) (h:Ja) (K:Ba→Option (Hp)→Prop):Prop:=
 match s.a with
 | some l=>∃bs:List UInt8,bs.length=s.len∧gy l bs h∧K ⟨bs.toArray⟩ (some (gy l bs))
 | none=>s.len=0∧K ⟨#[]⟩ none
def S2(k e:Kd) (es:List (k.Ty×e.Ty×Nat)) (clock:Nat):Obj:=
 .map (es.map fun x=>{ key:=k.val x.1,val:=e.val x.2.1,born:=x.2.2:MapEntry }).toArray clock
def PR(k e:Kd) (r:Nat) (es:List (k.Ty×e.Ty×Nat)) (clock:Nat) (h:Ja):Prop:=h[r]? = some (S2 k e es clock)
def Kd.beq:(k:Kd)→k.Ty→k.Ty→Bool
 | .i,x,y=>decide (x=y) | .u8,x,y=>decide (x=y) | .u32,x,y=>decide (x=y) | .u64,x,y=>decide (x=y)
 | .b,x,y=>decide (x=y) | .s,x,y=>decide (x=y) | .p,x,y=>decide (x=y) | .sl,x,y=>decide (x=y) | .m,x,y=>decide (x=y)
 | .f,_,_=>false | .v,_,_=>false | .un,_,_=>true | .d,_,_=>false | .l,_,_=>false
 | .pr k1 k2,x,y=>k1.beq x.1 y.1&&k2.beq x.2 y.2 | .ag k1,x,y=>k1.beq x y | .tp _,_,_=>false
 | .ar _ k1,x,y=>(x.toList.zip y.toList).all fun z=>k1.beq z.1 z.2 | .it _ _,_,_=>false
def Kd.pk:Kd→Bool
 | .i=>true | .u8=>true | .u32=>true | .u64=>true | .b=>true | .s=>true | .un=>true
 | .pr x y=>x.pk&&y.pk | .ag x=>x.pk | .ar _ x=>x.pk
 | _=>false
def Zi(k e:Kd) (key:k.Ty):List (k.Ty×e.Ty×Nat)→Option e.Ty
 | []=>none
 | x::r=>if k.beq key x.1=true then some x.2.1 else Zi k e key r
def lk(k e:Kd) (m:Option Nat) (key:k.Ty) (h:Ja) (K:Option e.Ty→Option (Hp)→Prop):Prop:=
 match m with
 | none=>K none none
 | some r=>∃es clock,PR k e r es clock h∧K (Zi k e key es) (some (PR k e r es clock))
def GM(k e:Kd) (key:k.Ty) (x:e.Ty) (clock:Nat):List (k.Ty×e.Ty×Nat)→List (k.Ty×e.Ty×Nat)
 | []=>[(key,x,clock)]
 | y::r=>if k.beq key y.1=true then(key,x,y.2.2)::r else y::GM k e key x clock r
def SZ(k e:Kd) (key:k.Ty) (es:List (k.Ty×e.Ty×Nat)):Bool:=(Zi k e key es).isSome
def mu(k e:Kd) (m:Option Nat) (key:k.Ty) (x:e.Ty) (h:Ja) (K:Hp):Prop:=
 ∃ r es clock, m = some r ∧ PR k e r es clock h ∧
   K (h.setIfInBounds r (S2 k e (GM k e key x clock es) (if SZ k e key es then clock else clock+1)))
def msz(r:Nat) (es:Array MapEntry) (clock:Nat) (h:Ja):Prop:=h[r]? = some (.map es clock)
def za(m:Option Nat) (h:Ja) (K:Int→Option (Hp)→Prop):Prop:=
 match m with
 | none=>K 0 none
 | some r=>∃es clock,msz r es clock h∧K es.size (some (msz r es clock))
def gS(m:Option Nat) (h:Ja) (K:Hp):Prop:=
 match m with
 | none=>K h
 | some r=>∃es clock,h[r]? = some (.map es clock)∧K (h.setIfInBounds r (.map #[] clock))
def Xl(k:Kd) (n:Nat):List Value:=(List.replicate n k.zero).flatMap k.cells
def mk(T:Nat) (k:Kd) (bytes:Nat) (n c:Int) (h:Ja) (K:Jn→Hp):Prop:=
 0 ≤ n ∧ n ≤ c ∧ c ≤ 281474976710656 ∧ c * bytes ≤ 281474976710656 ∧
   K ⟨some ⟨h.size,0⟩,n.toNat,c.toNat⟩ (h.push (QW T k (List.replicate c.toNat k.zero)))
def bs(T:Nat) (k:Kd) (xs:List k.Ty) (h:Ja) (K:Jn→Hp):Prop:=
 K ⟨some ⟨h.size,0⟩,xs.length,xs.length⟩ (h.push (QW T k xs))
def ap(T:Nat) (k:Kd) (bytes:Nat) (s:Jn) (n:Nat) (new:List Value) (h:Ja) (K:Jn→Hp):Prop:=
 if s.len+n≤s.cap then
  match s.a with
  | some l=>stc ⟨l.b,l.o+s.len*k.size⟩ new h fun h'=>K ⟨some l,s.len+n,s.cap⟩ h'
  | none=>new=[]∧K (@Jn.mk none (s.len+n) s.cap s.wd) h
 else
  Builtin.nextslicecap (s.len+n) s.cap*bytes≤281474976710656 ∧
  JB s (s.len*k.size) h fun old=>∀c,s.len+n≤c→c<9223372036854775808 →
   K ⟨some ⟨h.size,0⟩,s.len+n,c⟩ (h.push (.cells (old++new++Xl k (c-(s.len+n))).toArray T))
def apz(T:Nat) (k:Kd) (bytes:Nat) (s:Jn) (n:Int) (h:Ja) (K:Jn→Hp):Prop:=
 0≤n∧n≤281474976710656∧n*bytes≤281474976710656∧ap T k bytes s n.toNat (Xl k n.toNat) h K
def clr(k:Kd) (s:Jn) (h:Ja) (K:Hp):Prop:=
 match s.a with
 | some l=>stc l (Xl k s.len) h K
 | none=>s.len=0∧K h
def vc(h:Ja) (K:Nat→Hp):Prop:=K h.size (h.push (.map #[] 0))
def rng(m:Option Nat) (h:Ja) (K:Nat→Hp):Prop:=
 match m with
 | none=>K h.size (h.push (.mapIter none 0 #[] 0))
 | some r=>∃es clock,h[r]? = some (.map es clock)∧K h.size (h.push (.mapIter (some r) clock #[] clock))
def nx(k e:Kd) (t:Nat) (h:Ja) (over:Hp) (step:k.Ty→e.Ty→Hp):Prop:=
 (∃a c,h[t]? = some (.mapIter none a #[] c)∧over h) ∨
 ∃ r since seen last es clock, h[t]? = some (.mapIter (some r) since seen last) ∧ PR k e r es clock h ∧ (seen = #[] ∨ es = [] ∨ ∃ x ∈ es, x.2.2 < last) ∧
   ((∀x∈es,x.2.2∈seen∨since≤x.2.2)→over h)∧∀x∈es,x.2.2∉seen→step x.1 x.2.1 (h.setIfInBounds t (.mapIter (some r) since (seen.push x.2.2) clock))
def en(k e:Kd) (t:Nat) (h:Ja) (K:k.Ty→e.Ty→Prop):Prop:=
 ∃(r since:Nat) (seen:Array Nat) (stamp:Nat) (es:List (k.Ty×e.Ty×Nat)) (clock:Nat) (x:k.Ty×e.Ty×Nat),h[t]? = some (.mapIter (some r) since (seen.push stamp) clock)∧PR k e r es clock h∧es.find? (fun x=>x.2.2 == stamp)=some x∧K x.1 x.2.1
def cp(d:Jn) (n:Nat) (cs:List Value) (h:Ja) (K:Int→Hp):Prop:=
 match d.a with
 | some l=>stc l cs h (K n)
 | none=>cs=[]∧K n h
def js(T:Nat) (s:Ba) (h:Ja) (K:Jn→Hp):Prop:=
 ∀c,s.size≤c→(s.size<9223372036854775808→c<9223372036854775808)→K ⟨some ⟨h.size,0⟩,s.size,c⟩ (h.push (.cells (s.data.toList.flatMap Kd.u8.cells++Xl .u8 (c-s.size)).toArray T (c,c+1)))
def jn(k:Kd) (body:(k.Ty→Hp)→Prop) (next:k.Ty→Hp):Prop:=
 ∃R:k.Ty→Hp,body R∧∀x h,R x h→next x h
def lp(k:Kd) (body:k.Ty→Ja→(k.Ty→Hp)→Prop) (x:k.Ty) (h:Ja):Prop:=
 ∃(I:k.Ty→Hp) (μ : k.Ty→Ja→Nat),I x h∧∀x h,I x h→body x h fun x' h'=>I x' h' ∧ μ x' h' < μ x h
section
variable (τ : Yv)
def eqR(T:Nat) (a b:SV) (K:Bool→Prop):Prop:=
 match DK a,DK b with
 | some x,some y=>K (decide (x=y))
 | _,_=>match Sr a,Sr b with
 | some x,some y=>a.1=b.1∧K (decide (x=y))
 | _,_=>match CM a,CM b with
 | some x,some y=>K (decide (x=y))
 | _,_=>match τ.get T with
 | some ⟨.k, .b, _, _⟩ => (match zV a, zV b with
   | some x,some y=>K (decide (x=y))
   | _,_=>False)
 | some ⟨.ptr, _, _, _⟩ => (match jU a, jU b with
   | some x,some none=>K (decide (x=none))
   | some none,some y=>K (decide (y=none))
   | _,_=>False)
 | some ⟨.slice _, _, _, _⟩ => (match GX a, GX b with
   | some x, some y => match y.a, y.len, y.cap, y.wd.v with
     | none,0,0,none=>K x.isNil
     | _,_,_,_=>False
   | _,_=>False)
 | some ⟨.map _ _, _, _, _⟩ => (match yF a, yF b with
   | some x,some none=>K (decide (x=none))
   | _,_=>False)
 | some ⟨.fn, _, _, _⟩ => (match vJ a, vJ b with
   | some x,some .nilFunc=>K (match Y7 x with | .nilFunc=>true | _=>false)
   | _,_=>False)
 | some ⟨_, k, _, true⟩ => (match a.as k, b.as k with
   | some x,some y=>K (k.beq x y)
   | _,_=>False)
 | _=>False
def wT(op:BinOp) (x y:Int) (K:SV→Prop):Prop:=
 match op with
 | .add=>K ⟨.i,Jr (x+y)⟩ | .sub=>K ⟨.i,Jr (x-y)⟩ | .mul=>K ⟨.i,Jr (x*y)⟩
 | .quo=>y≠0∧K ⟨.i,Jr (x.tdiv y)⟩ | .rem=>y≠0∧K ⟨.i,x.tmod y⟩
 | .and=>K ⟨.i,UO x y⟩ | .or=>K ⟨.i,Rg x y⟩ | .xor=>K ⟨.i,ym x y⟩ | .andNot=>K ⟨.i,yC x y⟩
 | .lss=>K ⟨.b,decide (x<y)⟩ | .leq=>K ⟨.b,decide (x≤y)⟩ | .gtr=>K ⟨.b,decide (x>y)⟩ | .geq=>K ⟨.b,decide (x≥y)⟩
 | _=>False
def u8R(op:BinOp) (x y:UInt8) (K:SV→Prop):Prop:=
 match op with
 | .add=>K ⟨.u8,x+y⟩ | .sub=>K ⟨.u8,x-y⟩ | .mul=>K ⟨.u8,x*y⟩
 | .and=>K ⟨.u8,x&&&y⟩ | .or=>K ⟨.u8,x|||y⟩ | .xor=>K ⟨.u8,x^^^y⟩
 | .lss=>K ⟨.b,decide (x<y)⟩ | .leq=>K ⟨.b,decide (x≤y)⟩ | .gtr=>K ⟨.b,decide (x>y)⟩ | .geq=>K ⟨.b,decide (x≥y)⟩
 | _=>False
def vD(op:BinOp) (x y:UInt32) (K:SV→Prop):Prop:=
 match op with
 | .add=>K ⟨.u32,x+y⟩ | .sub=>K ⟨.u32,x-y⟩ | .mul=>K ⟨.u32,x*y⟩
 | .and=>K ⟨.u32,x&&&y⟩ | .or=>K ⟨.u32,x|||y⟩ | .xor=>K ⟨.u32,x^^^y⟩
 | .lss=>K ⟨.b,decide (x<y)⟩ | .leq=>K ⟨.b,decide (x≤y)⟩ | .gtr=>K ⟨.b,decide (x>y)⟩ | .geq=>K ⟨.b,decide (x≥y)⟩
 | _=>False
def vF(op:BinOp) (x y:UInt64) (K:SV→Prop):Prop:=
 match op with
 | .add=>K ⟨.u64,x+y⟩ | .sub=>K ⟨.u64,x-y⟩ | .mul=>K ⟨.u64,x*y⟩
 | .quo=>y≠0∧K ⟨.u64,x/y⟩ | .rem=>y≠0∧K ⟨.u64,x%y⟩
 | .and=>K ⟨.u64,x&&&y⟩ | .or=>K ⟨.u64,x|||y⟩ | .xor=>K ⟨.u64,x^^^y⟩
 | .lss=>K ⟨.b,decide (x<y)⟩ | .leq=>K ⟨.b,decide (x≤y)⟩ | .gtr=>K ⟨.b,decide (x>y)⟩ | .geq=>K ⟨.b,decide (x≥y)⟩
 | _=>False
def vA(op:BinOp) (x y:Ba) (K:SV→Prop):Prop:=
 match op with
 | .add=>JS x y fun z=>K ⟨.s,z⟩
 | .lss=>K ⟨.b,Wp x y⟩ | .leq=>K ⟨.b,Wp x y||decide (x=y)⟩
 | .gtr=>K ⟨.b,!(Wp x y||decide (x=y))⟩ | .geq=>K ⟨.b,!Wp x y⟩
 | _=>False
def Jad(op:BinOp) (x:UInt8) (n:Int):UInt8:=match op with | .shl=>Gm (x.toNat*2^(min n.toNat 8)) | _=>Gm ((x.toNat:Int).fdiv (2^(min n.toNat 8)))
def Yn(op:BinOp) (x:UInt32) (n:Int):UInt32:=match op with | .shl=>yf (x.toNat*2^(min n.toNat 32)) | _=>yf ((x.toNat:Int).fdiv (2^(min n.toNat 32)))
def Gk(op:BinOp) (x:UInt64) (n:Int):UInt64:=match op with | .shl=>VL (x.toNat*2^(min n.toNat 64)) | _=>VL ((x.toNat:Int).fdiv (2^(min n.toNat 64)))
def shR(op:BinOp) (a:SV) (n:Int) (K:SV→Prop):Prop:=
 0≤n∧(match DK a with
 | some x=>K ⟨.i,match op with | .shl=>QQ x n | _=>Wy x n⟩
 | none=>match CO a with
 | some x=>K ⟨.u8,Jad op x n⟩
 | none=>match Rx a with
 | some x=>K ⟨.u32,Yn op x n⟩
 | none=>match Sq a with
 | some x=>K ⟨.u64,Gk op x n⟩
 | none=>False)
def wI(op:BinOp) (T:Nat) (a b:SV) (K:SV→Prop):Prop:=
 match op with
 | .eql=>eqR τ T a b fun v=>K ⟨.b,v⟩
 | .neq=>eqR τ T a b fun v=>K ⟨.b,!v⟩
 | .shl | .shr=>match Sr b with | some n=>shR op a n K | none=>False
 | op=>match DK a,DK b with
 | some x,some y=>wT op x y K
 | _,_=>match CM a,CM b with
 | some x,some y=>vA op x y K
 | _,_=>match CO a,CO b with
 | some x,some y=>u8R op x y K
 | _,_=>match Rx a,Rx b with
 | some x,some y=>vD op x y K
 | _,_=>match Sq a,Sq b with
 | some x,some y=>vF op x y K
 | _,_=>False
def unR(op:UnOp) (a:SV) (K:SV→Prop):Prop:=
 match op with
 | .not=>match zV a with | some x=>K ⟨.b,!x⟩ | none=>False
 | .neg=>match DK a with | some x=>K ⟨.i,Jr (0-x)⟩ | none=>False
 | .xor=>match Rx a with | some x=>K ⟨.u32,~~~x⟩ | none=>match DK a with | some x=>K ⟨.i,ym (-1) x⟩ | none=>False
 | _=>False
def ya(k:Kd) (n:Int):Option SV:=
 match k with
 | .u8=>some ⟨.u8,Gm n⟩ | .u32=>some ⟨.u32,yf n⟩ | .u64=>some ⟨.u64,VL n⟩ | .i=>some ⟨.i,Jr n⟩ | _=>none
def qa(src dst:Nat) (a:SV) (h:Ja) (K:SV→Option (Hp)→Prop):Prop:=
 match τ.kd src with
 | none=>False
 | some _=>match τ.get dst with
 | some ⟨.k, k, _, _⟩ => (match CO a, k with
   | some x,.i=>K ⟨.i,x.toNat⟩ none
   | some x,.u32=>K ⟨.u32,UInt32.ofNat x.toNat⟩ none
   | some x,.u8=>K ⟨.u8,x⟩ none
   | _,_=>match Sr a with | some n=>(match ya k n with | some v=>K v none | none=>False) | none=>False)
 | some ⟨.str, _, _, _⟩ => (match CM a with
   | some x=>K ⟨.s,x⟩ none
   | none=>match GX a,τ.get src with
   | some x, some ⟨.slice e, _, _, _⟩ => (match τ.get e with
     | some ⟨.k,.u8,_,_⟩=>Gr x h fun z q=>K ⟨.s,z⟩ q
     | _=>False)
   | _,_=>False)
 | _=>False
def PD:(k:Kd)→k.Ty→Nat→Option SV
 | .pr x _,z,0=>some ⟨x,z.1⟩
 | .pr _ y,z,n+1=>PD y z.2 n
 | _,_,_=>none
def ju:(k:Kd)→k.Ty→Nat→SV→Option k.Ty
 | .pr x _,z,0,v=>match v.as x with | some y=>some (y,z.2) | none=>none
 | .pr _ y,z,n+1,v=>match ju y z.2 n v with | some w=>some (z.1,w) | none=>none
 | _,_,_,_=>none
def SJ(k:Kd) (z:k.Ty) (e:Operand→Option SV):List (Nat×Operand)→Option k.Ty
 | []=>some z
 | (n, x) :: r => match e x with
   | some v=>match ju k z n v with | some z=>SJ k z e r | none=>none
   | none=>none
def It(k:Kd) (e:Operand→Option SV):List (Nat×Operand)→List k.Ty→Option (List k.Ty)
 | [],z=>some z
 | (n, x) :: r, z => match e x with
   | some v=>match v.as k with | some y=>(match Nat.blt n z.length with | true=>It k e r (z.set n y) | false=>none) | none=>none
   | none=>none
def SL(k:Kd) (m:Nat) (e:Operand→Option SV):List (Nat×Operand)→Vector k.Ty m→Option (Vector k.Ty m)
 | [],z=>some z
 | (n, x) :: r, z => match e x with
   | some v=>match v.as k with | some y=>(match Nat.blt n m with | true=>SL k m e r (z.setIfInBounds n y) | false=>none) | none=>none
   | none=>none
def inner:(k:Kd)→k.Ty→SV
 | .ag x,z=>⟨x,z⟩
 | k,z=>⟨k,z⟩
def EH(T:Nat) (e:Operand→Option SV) (ps:List (Nat×Operand)) (K:SV→Prop):Prop:=
 match τ.get T with
 | some ⟨.struct _,.ag k,_,_⟩=>match SJ k k.zero e ps with | some z=>K ⟨.ag k,z⟩ | none=>False
 | some ⟨.array _ _,.ar m k,_,_⟩=>match SL k m e ps (Vector.replicate m k.zero) with | some z=>K ⟨.ar m k,z⟩ | none=>False
 | _=>False
def J0(e:Operand→Option SV):List Operand→Option (List Value)
 | []=>some []
 | x::r=>match e x,J0 e r with | some v,some vs=>some (v.val::vs) | _,_=>none
def Ew(e:Operand→Option SV) (x:Option Operand) (d:Int):Option Int:=
 match x with
 | none=>some d
 | some x=>match e x with | some v=>Sr v | none=>none
def DA(T:Nat) (a:SV) (e:Operand→Option SV) (lo hi mx:Option Operand) (K:SV→Prop):Prop:=
 match τ.get T with
 | some ⟨.str, _, _, _⟩ => (match CM a with
   | some s => (match mx, Ew e lo 0, Ew e hi s.size with
     | none,some l,some h=>UA s l h fun z=>K ⟨.s,z⟩
     | _,_,_=>False)
   | none=>False)
 | some ⟨.slice _, _, _, _⟩ => (match GX a, τ.elem T with
   | some s, some (_, i) => (match Ew e lo 0, Ew e hi s.len, mx with
     | some l,some h,none=>R9 s l h s.cap i.kd.size fun z=>K ⟨.sl,z⟩
     | some l, some h, some m => (match hi, e m with
       | some _,some m=>(match Sr m with | some m=>R9 s l h m i.kd.size fun z=>K ⟨.sl,z⟩ | none=>False)
       | _,_=>False)
     | _,_,_=>False)
   | _,_=>False)
 | some ⟨.array n _, _, _, _⟩ => (match jU a, τ.elem T, mx with
   | some (some l), some (_, i), none => (match Ew e lo 0, Ew e hi n with
     | some x,some y=>jv l n x y i.kd.size fun z=>K ⟨.sl,z⟩
     | _,_=>False)
   | _,_,_=>False)
 | _=>False
def qM(f:Int→Int→Int):Int→List SV→Option Int
 | a,[]=>some a
 | a,y::r=>match DK y with | some b=>qM f (f a b) r | none=>none
def qO(l:List SV) (f:Int→Int→Int):Option Int:=
 match l with
 | []=>none
 | x::r=>match DK x with | some a=>qM f a r | none=>none
def RV(x y:Int):Int:=if y<x then y else x
def vL(x y:Int):Int:=if y>x then y else x
def vK(e:Operand→Option SV):List Operand→Option (List SV)
 | []=>some []
 | x::r=>match e x,vK e r with | some v,some vs=>some (v::vs) | _,_=>none
def gv(n:Nat) (k:Kd) (z:Vector k.Ty n) (i:Int) (K:SV→Prop):Prop:=0≤i∧i<n∧K ⟨k,z.toList.getD i.toNat k.zero⟩
def G6(T:Nat) (v:SV) (n:Nat) (K:SV→Prop):Prop:=
 match τ.field T n with
 | some (off,_)=>(match jU v with | some (some l)=>K ⟨.p,some (l.fld off)⟩ | _=>False)
 | none=>False
def vw(T:Nat) (v:SV) (K:SV→Prop):Prop:=
 match τ.get T with
 | some ⟨.array n _,_,_,_⟩=>(match GX v with | some s=>n≤s.len∧Qa s.a fun l=>K ⟨.p,some l⟩ | none=>False)
 | _=>False
def EX(T:Nat) (v:SV) (n:Nat) (K:SV→Prop):Prop:=
 match τ.get T with
 | some ⟨.struct _, .ag k, _, _⟩ => (match v.as (.ag k) with
   | some z=>(match PD k z n with | some v=>K v | none=>False)
   | none=>False)
 | _=>False
def G8(T:Nat) (a:SV) (n:Int) (K:SV→Prop):Prop:=
 match τ.get T with
 | some ⟨.slice _, _, _, _⟩ => (match GX a, τ.elem T with
   | some s,some (_,ti)=>ix s n ti.kd.size fun l=>K ⟨.p,some l⟩
   | _,_=>False)
 | some ⟨.array m _, _, _, _⟩ => (match jU a, τ.elem T with
   | some (some l),some (_,ti)=>YJ l m n ti.kd.size fun l=>K ⟨.p,some l⟩
   | _,_=>False)
 | _=>False
def E0(T:Nat) (a:SV) (n:Int) (K:SV→Prop):Prop:=
 match τ.get T with
 | some ⟨.str,_,_,_⟩=>(match CM a with | some s=>RN s n fun c=>K ⟨.u8,c⟩ | none=>False)
 | some ⟨.array _ _,.ar m k,_,_⟩=>(match a.as (.ar m k) with | some z=>gv m k z n fun v=>K v | none=>False)
 | _=>False
def Vt:Kd→Bool
 | .tp _=>false
 | _=>true
def Ps(v:SV) (n:Nat) (K:SV→Prop):Prop:=
 match v with
 | ⟨.tp k,z⟩=>(match PD k z n with | some v=>(match Vt v.1 with | true=>K v | false=>False) | none=>False)
 | _=>False
def qG(T:Nat) (v:SV) (h:Ja) (K:SV→Option (Hp)→Prop):Prop:=
 match τ.kd T with
 | some k=>(match jU v with | some (some l)=>ld k l h fun x=>K ⟨k,x⟩ (some (sm k l x)) | _=>False)
 | none=>False
def Yv.mapOf(T:Nat):Option (Kd×Kd):=
 match τ.get T with
 | some ⟨.map kt et, _, _, _⟩ => (match τ.get kt, τ.kd et with
   | some ⟨_,kk,_,true⟩,some ek=>(match kk.pk with | true=>some (kk,ek) | false=>none)
   | _,_=>none)
 | _=>none
def IS(ek:Kd) (ok:Bool) (z:ek.Ty) (b:Bool):SV:=
 match ok with | true=>⟨.tp (.pr ek (.pr .b .un)),(z,(b,()))⟩ | false=>⟨ek,z⟩
def TM(T:Nat) (m key:SV) (ok:Bool) (h:Ja) (K:SV→Option (Hp)→Prop):Prop:=
 match τ.mapOf T with
 | some (kk, ek) => (match yF m, key.as kk with
   | some m,some key=>lk kk ek m key h fun r q=>K (IS ek ok (r.getD ek.zero) r.isSome) q
   | _,_=>False)
 | none=>False
def wW(T:Nat) (v:SV) (h:Ja) (K:SV→Option (Hp)→Prop):Prop:=
 match τ.get T with
 | some ⟨.slice _,_,_,_⟩=>(match GX v with | some s=>K ⟨.i,s.len⟩ none | none=>False)
 | some ⟨.str,_,_,_⟩=>(match CM v with | some s=>K ⟨.i,s.size⟩ none | none=>False)
 | some ⟨.map _ _,_,_,_⟩=>(match yF v with | some m=>za m h fun n q=>K ⟨.i,n⟩ q | none=>False)
 | some ⟨.array n _,_,_,_⟩=>K ⟨.i,n⟩ none
 | _=>False
def wK(T:Nat) (v:SV) (K:SV→Prop):Prop:=
 match τ.get T with
 | some ⟨.slice _,_,_,_⟩=>(match GX v with | some s=>K ⟨.i,s.cap⟩ | none=>False)
 | _=>False
def qm(T:Nat) (v:SV) (K:SV→Prop):Prop:=
 match τ.get T with
 | some ⟨.ifc,_,_,_⟩ | some ⟨.tup,_,_,_⟩ | none=>False
 | _=>K ⟨.v,.iface T v.val⟩
def rd(o:Op) (e:Operand→Option SV) (h:Ja) (K:SV→Option (Hp)→Prop):Prop:=
 match o with
 | .move x | .assign x=>match e x with | some v=>K v none | none=>False
 | .pick c a b => match e c with
   | some c => (match zV c with
     | some true=>(match e a with | some v=>K v none | none=>False)
     | some false=>(match e b with | some v=>K v none | none=>False)
     | none=>False)
   | none=>False
 | .nilCheck x => match e x with
   | some v=>(match jU v with | some p=>Qa p fun l=>K ⟨.p,some l⟩ none | none=>False)
   | none=>False
 | .binOp op T x y _=>match e x,e y with | some a,some b=>wI τ op T a b fun v=>K v none | _,_=>False
 | .unOp op _ x=>match e x with | some a=>unR op a fun v=>K v none | none=>False
 | .convert src dst x=>match e x with | some a=>qa τ src dst a h K | none=>False
 | .makeFunc fn first captured => match J0 e first.toList, J0 e captured.toList with
   | some a,some b=>K ⟨.f,.func fn a.toArray b.toArray⟩ none
   | _,_=>False
 | .makeInterface T x=>match e x with | some a=>qm τ T a fun v=>K v none | none=>False
 | .build T ps=>EH τ T e ps.toList fun v=>K v none
 | .slice T x lo hi mx=>match e x with | some a=>DA τ T a e lo hi mx fun v=>K v none | none=>False
 | .fieldAddr T x n=>match e x with | some v=>G6 τ T v n fun v=>K v none | none=>False
 | .sliceToArrayPointer T x=>match e x with | some v=>vw τ T v fun v=>K v none | none=>False
 | .field T x n=>match e x with | some v=>EX τ T v n fun v=>K v none | none=>False
 | .indexAddr T x i => match e x, e i with
   | some a,some j=>(match Sr j with | some n=>G8 τ T a n fun v=>K v none | none=>False)
   | _,_=>False
 | .index T x i => match e x, e i with
   | some a,some j=>(match Sr j with | some n=>E0 τ T a n fun v=>K v none | none=>False)
   | _,_=>False
 | .extract t n=>match e t with | some v=>Ps v n fun v=>K v none | none=>False
 | .load T x=>match e x with | some v=>qG τ T v h K | none=>False
 | .lookup T m key ok=>match e m,e key with | some m,some key=>TM τ T m key ok h K | _,_=>False
 | .call { callee := .builtin .len, args, argTypes } => match args.toList, argTypes.toList with
   | [x],[T]=>(match e x with | some v=>wW τ T v h K | none=>False)
   | _,_=>False
 | .call { callee := .builtin .cap, args, argTypes } => match args.toList, argTypes.toList with
   | [x],[T]=>(match e x with | some v=>wK τ T v fun v=>K v none | none=>False)
   | _,_=>False
 | .call { callee := .builtin .min, args, .. } => match vK e args.toList with
   | some l=>(match qO l RV with | some n=>K ⟨.i,n⟩ none | none=>False)
   | none=>False
 | .call { callee := .builtin .max, args, .. } => match vK e args.toList with
   | some l=>(match qO l vL with | some n=>K ⟨.i,n⟩ none | none=>False)
   | none=>False
 | _=>False
def Tg:Op→Bool
 | .alloc _ | .box _ _ | .buildSlice _ _ _ | .store _ _ _ | .makeMap _ _ | .makeSlice _ _ _ | .mapUpdate _ _ _ _ | .insert _ _ _ _ | .range _ _ | .next _ _ | .entry _=>true
 | .call { callee := .builtin .len,.. } | .call { callee := .builtin .cap,.. } | .call { callee := .builtin .min,.. } | .call { callee := .builtin .max,.. }=>false
 | .call _=>true
 | .convert src dst _=>match τ.get src,τ.get dst with | some ⟨.str,_,_,_⟩,some ⟨.slice _,_,_,_⟩=>true | _,_=>false
 | _=>false
end
section
variable (P:Program) (rt:Option Nat) (τ : Yv)
def DM(R:Value→World→Prop):Result Next→Prop
 | .ok (.value v) w'=>R v w'
 | .ok (.enter f args) w'=>CallsIn Fence.wide 0 P f args w' fun e w''=>∃v,e = .returned v∧R v w''
 | .ok (.round l f tmps assign body) w'=>RoundIn Fence.wide 0 P l f tmps assign body w' fun e w''=>∃v,e = .returned v∧R v w''
 | _=>False
def Jm(f:Nat) (args:List Value) (k:Kd) (h:Ja) (K:k.Ty→Hp):Prop:=
 ∀w:World,w.heap=h→DM P (fun v w'=>∃x,v=k.val x∧w'.os=w.os∧w'.output=w.output∧K x w'.heap) ((callFunc f args.toArray).run P w)
def QH(fv:Value) (args:List Value) (k:Kd) (h:Ja) (K:k.Ty→Hp):Prop:=
 match fv with
 | .func (.func f) first cap=>Jm P f (first.toList++args++cap.toList) k h K
 | .func (.yield l) first _=>∀w:World,w.heap=h→DM P (fun v w'=>∃x,v=k.val x∧w'.os=w.os∧w'.output=w.output∧K x w'.heap) ((Instr.yield l (first++args.toArray)).run P w)
 | _=>False
def apR(T U:Nat) (a b:SV) (h:Ja) (K:SV→Hp):Prop:=
 match τ.get T,τ.elem T,GX a with
 | some ⟨.slice _, _, _, _⟩, some (et, ti), some s => (match Nat.blt 0 ti.bytes, τ.get U with
   | true, some ⟨.slice _, _, _, _⟩ => (match GX b with
     | some r=>JB r (r.len*ti.kd.size) h fun cs=>ap et ti.kd ti.bytes s r.len cs h fun z h=>K ⟨.sl,z⟩ h
     | none=>False)
   | true, some ⟨.str, _, _, _⟩ => (match CM b, ti.kd with
     | some r,.u8=>ap et .u8 ti.bytes s r.size (r.data.toList.flatMap Kd.u8.cells) h fun z h=>K ⟨.sl,z⟩ h
     | _,_=>False)
   | true,some ⟨.k,.i,_,_⟩=>(match DK b with | some n=>apz et ti.kd ti.bytes s n h fun z h=>K ⟨.sl,z⟩ h | none=>False)
   | _,_=>False)
 | _,_,_=>False
def cpR(T:Nat) (a b:SV) (h:Ja) (K:SV→Hp):Prop:=
 match τ.get T,τ.elem T,GX a with
 | some ⟨.slice _, _, _, _⟩, some (_, ti), some s => (match GX b with
   | some r=>JB r (min r.len s.len*ti.kd.size) h fun cs=>cp s (min r.len s.len) cs h fun z h=>K ⟨.i,z⟩ h
   | none => match CM b, ti.kd with
     | some r,.u8=>cp s (min r.size s.len) ((r.data.toList.take (min r.size s.len)).flatMap Kd.u8.cells) h fun z h=>K ⟨.i,z⟩ h
     | _,_=>False)
 | _,_,_=>False
def wL(T:Nat) (v:SV) (h:Ja) (K:Hp):Prop:=
 match τ.get T,yF v,GX v with
 | some ⟨.map _ _,_,_,_⟩,some m,_=>gS m h K
 | some ⟨.slice _,_,_,_⟩,_,some s=>(match τ.elem T with | some (_,ti)=>clr ti.kd s h K | none=>False)
 | _,_,_=>False
def xG(r:Option Operand) (e:Operand→Option SV):Bool:=
 match r with
 | none=>true
 | some x=>match e x with | some v=>(match Sr v with | some _=>true | none=>false) | none=>false
def ef(o:Op) (oty:Nat) (rks:Nat→Option Kd) (e:Operand→Option SV) (h:Ja) (K:Option SV→Hp):Prop:=
 match o with
 | .alloc T=>match τ.kd T with | some k=>new T k k.zero h fun b h=>K (some ⟨.p,some ⟨b,0⟩⟩) h | none=>False
 | .box T x => match e x, τ.kd T with
   | some v,some k=>(match v.as k with | some z=>new T k z h fun b h=>K (some ⟨.p,some ⟨b,0⟩⟩) h | none=>False)
   | _,_=>False
 | .store T x y => match e x, e y, τ.kd T with
   | some a,some v,some k=>(match jU a,v.as k with | some (some l),some z=>st k l z h fun h=>K none h | _,_=>False)
   | _,_,_=>False
 | .buildSlice T n ps => match τ.get T, τ.elem T with
   | some ⟨.slice _, _, _, _⟩, some (et, ti) => (match Nat.ble (n * ti.kd.size) 16777216, It ti.kd e ps.toList (List.replicate n ti.kd.zero) with
     | true,some xs=>bs et ti.kd xs h fun s h=>K (some ⟨.sl,s⟩) h
     | _,_=>False)
   | _,_=>False
 | .makeSlice T n c => match e n, e c, τ.get T, τ.elem T with
   | some a, some b, some ⟨.slice _, _, _, _⟩, some (et, ti) => (match DK a, DK b, Nat.blt 0 ti.bytes with
     | some n,some c,true=>mk et ti.kd ti.bytes n c h fun s h=>K (some ⟨.sl,s⟩) h
     | _,_,_=>False)
   | _,_,_,_=>False
 | .makeMap T r => match τ.get T, xG r e with
   | some ⟨.map _ _,_,_,_⟩,true=>vc h fun b h=>K (some ⟨.m,some b⟩) h
   | _,_=>False
 | .mapUpdate T m key x => match e m, e key, e x, τ.mapOf T with
   | some m, some key, some x, some (kk, ek) => (match yF m, key.as kk, x.as ek with
     | some m,some key,some x=>mu kk ek m key x h fun h=>K none h
     | _,_,_=>False)
   | _,_,_,_=>False
 | .range T x => match e x, τ.mapOf T with
   | some v,some (kk,ek)=>(match yF v with | some m=>rng m h fun b h=>K (some ⟨.it kk ek,b⟩) h | none=>False)
   | _,_=>False
 | .next x false => match e x with
   | some ⟨.it kk ek, b⟩ => (match Vt kk, Vt ek with
     | true,true=>nx kk ek b h (fun h=>K (some ⟨.tp (.pr .b .un),(false,())⟩) h) fun y z h=>K (some ⟨.tp (.pr .b (.pr kk (.pr ek .un))),(true,(y,(z,())))⟩) h
     | _,_=>False)
   | _=>False
 | .entry x => match e x with
   | some ⟨.it kk ek, b⟩ => (match Vt kk, Vt ek with
     | true,true=>en kk ek b h fun y z=>K (some ⟨.tp (.pr kk (.pr ek .un)),(y,(z,()))⟩) h
     | _,_=>False)
   | _=>False
 | .convert src dst x => match e x, τ.get src, τ.get dst, τ.elem dst with
   | some v,some ⟨.str,_,_,_⟩,some ⟨.slice _,_,_,_⟩,some (et,⟨.k,.u8,_,_⟩)=>(match CM v with | some s=>js et s h fun z h=>K (some ⟨.sl,z⟩) h | none=>False)
   | _,_,_,_=>False
 | .call { callee := .builtin .append, args, argTypes } => match args.toList, argTypes.toList with
   | [x,y],[T,U]=>(match e x,e y with | some a,some b=>apR τ T U a b h fun v h=>K (some v) h | _,_=>False)
   | _,_=>False
 | .call { callee := .builtin .copy, args, argTypes } => match args.toList, argTypes.toList with
   | [x,y],T::_=>(match e x,e y with | some a,some b=>cpR τ T a b h fun v h=>K (some v) h | _,_=>False)
   | _,_=>False
 | .call { callee := .builtin .clear, args, argTypes } => match args.toList, argTypes.toList with
   | [x],[T]=>(match e x with | some v=>wL τ T v h fun h=>K none h | none=>False)
   | _,_=>False
 | .call { callee := .value (.func f), args, .. } => match J0 e args.toList, rks oty with
   | some vs,some k=>Jm P f vs k h fun x h=>K (some ⟨k,x⟩) h
   | _,_=>False
 | .call { callee := .value x, args, .. } => match e x, J0 e args.toList, rks oty with
   | some v,some vs,some k=>(match vJ v with | some fv=>QH P fv vs k h fun x h=>K (some ⟨k,x⟩) h | none=>False)
   | _,_,_=>False
 | _=>False
end
structure Qs where
 n:Yd→Hp
 x:Nat→Yd→Hp
 r:Yd→Hp
abbrev YY:=List (Nat×Kd)
abbrev yq:=List (Nat×YY)
def yq.get:yq→Nat→Option YY
 | [],_=>none
 | (k,v)::r,t=>match Nat.beq k t with | true=>some v | false=>yq.get r t
@[reducible] def slotsKd:YY→Kd
 | [] => .un
 | (_,k)::r => .pr k (slotsKd r)
def I0(k:Kd) (v:SV):Option k.Ty:=
 match k,v with
 | .l,⟨.p,some x⟩=>some x
 | k,v=>v.as k
def Er(k:Kd) (x:k.Ty):SV:=
 match k,x with
 | .l,x=>⟨.p,some x⟩
 | k,x=>⟨k,x⟩
def C3:(s:YY)→Yd→Option (slotsKd s).Ty
 | [],_=>some ()
 | (t, k) :: r, ρ => match ρ.get t with
   | some v=>(match I0 k v,C3 r ρ with | some x,some y=>some (x,y) | _,_=>none)
   | none=>none
def tup(s:YY) (ρ : Yd) (K:(slotsKd s).Ty→Prop):Prop:=match C3 s ρ with | some x=>K x | none=>False
def ZV:(s:YY)→(slotsKd s).Ty→Yd→Yd
 | [],_,ρ => ρ
 | (t,k)::r,x,ρ => (t,some (Er k x.1))::ZV r x.2 ρ
def WY:List Nat→Yd→Yd
 | [],ρ => ρ
 | m::r,ρ => match ρ.get m with | some _=>(m,none)::WY r ρ | none=>WY r ρ
def jb:List Oper→Nat→Option Oper
 | [],_=>none
 | x::_,0=>some x
 | _::r,n+1=>jb r n
def G5:List Oper→List Nat
 | []=>[]
 | o::r=>match o.dst with | some d=>d::G5 r | none=>G5 r
def Zr:Code→List Nat
 | .region _ ops _=>G5 ops.toList
 | .seq a b=>Zr a++Zr b
 | .cond _ a b=>Zr a++Zr b
 | .block _ c=>Zr c
 | .loop c=>Zr c
 | .rangeFunc _ _ _ _=>[DS]
 | _=>[]
def X4:Code→Option Nat
 | .region id _ _=>some id
 | .seq a b=>(X4 a).orElse fun _=>X4 b
 | .cond _ a b=>(X4 a).orElse fun _=>X4 b
 | .block _ c=>X4 c
 | .loop c=>X4 c
 | _=>none
def yZ:Code→Nat
 | .seq a b=>match X4 a with | some _=>yZ a | none=>yZ b
 | .cond _ a b=>(match X4 a with | some _=>yZ a | none=>yZ b)+1
 | .block _ c=>yZ c
 | .loop c=>yZ c+1
 | _=>0
inductive LSt where | ready | busy | done | over (ret:Bool) | brk | ovx
def wO (P : Program) (fv : Value) : Prop := ∃ f fn first cap, fv = .func (.func f) first cap ∧ P.funcs[f]? = some fn ∧ (fn.name == "runtime.NumGoroutine") = false ∧ fn.body.isSome = true
abbrev yv(l:Nat):Value := .func (.yield l) #[] #[]
def rf(P:Program) (fv:Value) (T:Type) (vals:T→List Value) (h:Ja) (body:T→Ja→(Ja→(Hp)→Prop)→(Hp)→(Hp)→Prop) (next ret:Nat→Hp):Prop:=
 wO P fv∧∀o:LSt→Obj,
  (∀(x:T) (h1:Ja) (K:Bool→Hp),h1[h.size+1]? = some (o .ready) →
   body x h1 (fun h2 J=>h2[h.size+1]? = some (o .ready)∧J (h2.setIfInBounds (h.size+1) (o .busy)))
    (fun h2=>h2[h.size+1]? = some (o .busy)∧K true (h2.setIfInBounds (h.size+1) (o .ready)))
    (fun h2=>h2[h.size+1]? = some (o .busy)∧K false (h2.setIfInBounds (h.size+1) (o .done))) →
   QH P (yv (h.size+1)) (vals x) .b h1 K) →
  QH P fv [yv (h.size+1)] .un ((h.push (.deferred (some []))).push (o .ready)) fun _ h'=>
   (h'[h.size+1]? = some (o .ready)∧next h.size (h'.setIfInBounds (h.size+1) (o (.over false)))) ∨
   (h'[h.size+1]? = some (o .done)∧ret h.size (h'.setIfInBounds (h.size+1) (o (.over true))))
def rfx(P:Program) (fv:Value) (T:Type) (vals:T→List Value) (h:Ja) (body:T→Ja→(Ja→(Hp)→Prop)→(Hp)→(Hp)→(Hp)→Prop) (next ret ex:Nat→Hp):Prop:=
 wO P fv∧∀o:LSt→Obj,
  (∀(x:T) (h1:Ja) (K:Bool→Hp),h1[h.size+1]? = some (o .ready) →
   body x h1 (fun h2 J=>h2[h.size+1]? = some (o .ready)∧J (h2.setIfInBounds (h.size+1) (o .busy)))
    (fun h2=>h2[h.size+1]? = some (o .busy)∧K true (h2.setIfInBounds (h.size+1) (o .ready)))
    (fun h2=>h2[h.size+1]? = some (o .busy)∧K false (h2.setIfInBounds (h.size+1) (o .done)))
    (fun h2=>h2[h.size+1]? = some (o .busy)∧K false (h2.setIfInBounds (h.size+1) (o .brk))) →
   QH P (yv (h.size+1)) (vals x) .b h1 K) →
  QH P fv [yv (h.size+1)] .un ((h.push (.deferred (some []))).push (o .ready)) fun _ h'=>
   (h'[h.size+1]? = some (o .ready)∧next h.size (h'.setIfInBounds (h.size+1) (o (.over false)))) ∨
   (h'[h.size+1]? = some (o .done)∧ret h.size (h'.setIfInBounds (h.size+1) (o (.over true)))) ∨
   (h'[h.size+1]? = some (o .brk)∧ex h.size (h'.setIfInBounds (h.size+1) (o .ovx)))
def YR:(s:YY)→(slotsKd s).Ty→List Value
 | [],_=>[]
 | (_,k)::r,x=>(Er k x.1).val::YR r x.2
def GS:YY→List Nat→Bool
 | [],[]=>true
 | (t,_)::r,p::ps=>Nat.beq t p&&GS r ps
 | _,_=>false
def Dk:List Nat→Code→Option Nat
 | bs,.exit i=>if bs.elem i then none else some i
 | bs,.seq a b=>(Dk bs a).orElse fun _=>Dk bs b
 | bs,.cond _ a b=>(Dk bs a).orElse fun _=>Dk bs b
 | bs,.block i c=>Dk (i::bs) c
 | bs,.loop c=>Dk bs c
 | _,_=>none
def UR:Code→Bool
 | .rangeFunc _ _ _ _=>false
 | .seq a b=>UR a&&UR b
 | .cond _ a b=>UR a&&UR b
 | .block _ c=>UR c
 | .loop c=>UR c
 | _=>true
def gd(all:List Oper) (g:Option (Nat×Bool)) (ρ : Yd) (K:Bool→Yd→Prop):Prop:=
 match g with
 | none=>K true ρ
 | some (j, want) => match jb all j with
   | some o => (match o.dst with
     | some d => (match ρ.get d with
       | some v => (match zV v with
         | some b=>if b=true then K want (ρ.put (some d) (some ⟨.b,true⟩)) else K (!want) (ρ.put (some d) (some ⟨.b,false⟩))
         | none=>(match v.1 with | .un=>K false ρ | _=>False))
       | none=>False)
     | none=>False)
   | none=>False
section
variable (P:Program) (τ : Yv) (an:yq)
def opC(o:Oper) (ρ : Yd) (h:Ja) (K:Yd→Hp):Prop:=
 match Tg τ o.op with
 | false=>rd τ o.op (ev ρ) h fun v _=>K (ρ.put o.dst (some v)) h
 | true=>ef P τ o.op o.type τ.rk (ev ρ) h fun v h=>K (ρ.put o.dst v) h
def j4(all:List Oper):List Oper→Yd→Ja→(Yd→Hp)→Prop
 | [],ρ,h,K=>K ρ h
 | o :: r, ρ, h, K => gd all o.guard ρ fun v ρ => match v with
   | true=>opC P τ o ρ h fun ρ h=>j4 all r ρ h K
   | false=>j4 all r (ρ.put o.dst (some ⟨.un,()⟩)) h K
def WI(e:Edge):Bool:=match e.ground with | .textOnly _=>false | .gcOnly _=>false | _=>true
def qW:List Nat→Nat→Nat
 | [],_=>0
 | x::_,0=>x
 | _::r,n+1=>qW r n
def Tp(acc:List Nat):List Edge→Nat→Nat
 | [],m=>m
 | e::r,m=>match WI e with | true=>Tp acc r (Nat.lor m (Nat.lor (2^e.on) (qW acc e.on))) | false=>Tp acc r m
def ZG:List Oper→List Nat→List Nat
 | [],acc=>acc
 | o::r,acc=>ZG r (acc++[Tp acc o.after.toList 0])
def VD(m i:Nat):Bool:=Nat.beq (Nat.land m (2^i)) (2^i)
def Gn(m d:Nat):Bool:=Nat.beq (Nat.land m d) m
def Wu:List Oper→List Nat→Nat→Nat→Option (Nat×Oper)
 | o :: r, b :: bs, i, d => match VD d i, Gn b d, Tg τ o.op with
   | false,true,false=>some (i,o)
   | _,_,_=>Wu r bs (i+1) d
 | _,_,_,_=>none
def Wv:List Oper→List Nat→Nat→Nat→List (Nat×Nat×Oper)
 | o :: r, b :: bs, i, d => match VD d i, Gn b d with
   | false,true=>(i,b,o)::Wv r bs (i+1) d
   | _,_=>Wv r bs (i+1) d
 | _,_,_,_=>[]
abbrev WB:=List (Nat×Option (Hp))
def zG(q:Option (Hp)) (h:Ja) (X:Prop):Prop:=match q with | some f=>f h∧X | none=>X
def zF:WB→Ja→Prop→Prop
 | [],_,X=>X
 | (_,q)::r,h,X=>zG q h (zF r h X)
def RO(b:Nat):WB→WB
 | []=>[]
 | (i,q)::r=>match VD b i with | true=>RO b r | false=>(i,q)::RO b r
def zc(i:Nat) (q:Option (Hp)) (rs:WB):WB:=(i,q)::rs
def jS{α : Type} (f : α → Prop):List α → Prop
 | []=>True
 | [x]=>f x
 | x::r=>f x∧jS f r
def cD(all:List Oper) (bf:List Nat):Nat→Nat→WB→Yd→Ja→(Yd→Hp)→Prop
 | 0,_,_,_,_,_=>False
 | n + 1, d, rs, ρ, h, K => match Wu τ all bf 0 d with
   | some (i, o) => gd all o.guard ρ fun v ρ => (match v with
     | true=>rd τ o.op (ev ρ) h fun x q=>cD all bf n (Nat.lor d (2^i)) (zc i q rs) (ρ.put o.dst (some x)) h K
     | false=>cD all bf n (Nat.lor d (2^i)) rs (ρ.put o.dst (some ⟨.un,()⟩)) h K)
   | none => (match Wv all bf 0 d with
     | []=>K ρ h
     | es => jS (fun x => gd all x.2.2.guard ρ fun v ρ => (match v with
       | true=>ef P τ x.2.2.op x.2.2.type τ.rk (ev ρ) h fun y h=>zF (RO x.2.1 rs) h (cD all bf n (Nat.lor d (2^x.1)) (RO x.2.1 rs) (ρ.put x.2.2.dst y) h K)
       | false=>cD all bf n (Nat.lor d (2^x.1)) rs (ρ.put x.2.2.dst (some ⟨.un,()⟩)) h K)) es)
def xh:Op→List Operand
 | .alloc _ | .ready _ | .waits _=>[]
 | .move x | .assign x | .box _ x | .load _ x | .nilCheck x | .unOp _ _ x | .convert _ _ x | .sliceToArrayPointer _ x | .makeInterface _ x
 | .makeChan _ x | .fieldAddr _ x _ | .field _ x _ | .range _ x | .next x _ | .entry x | .typeAssert x _ _ _ | .extract x _ | .panic x | .recv _ x _=>[x]
 | .pick c a b=>[c,a,b]
 | .build _ ps | .buildSlice _ _ ps=>ps.toList.map (·.2)
 | .store _ a v | .binOp _ _ a v _ | .makeSlice _ a v | .indexAddr _ a v | .index _ a v | .lookup _ a v _ | .mapEntry _ a v | .send a v=>[a,v]
 | .makeFunc _ a b=>a.toList++b.toList
 | .makeMap _ r=>r.toList
 | .slice _ x l h m=>x::(l.toList++h.toList++m.toList)
 | .mapUpdate _ m k v | .entryStore _ m k v | .insert _ m k v=>[m,k,v]
 | .call c | .go c | .defer c=>(match c.callee with | .value f=>[f] | .invoke r _=>[r] | .builtin _=>[])++c.args.toList
 | .select _ _=>[]
def Mr:List Operand→List Nat
 | []=>[]
 | .tmp t::r=>t::Mr r
 | _::r=>Mr r
def Iz(all:List Oper) (o:Oper):List Nat:=
 Mr (xh o.op)++(match o.guard with | some (j,_)=>(match jb all j with | some g=>(match g.dst with | some d=>[d] | none=>[]) | none=>[]) | none=>[])
def TC:List Nat→Nat→Bool
 | [],_=>false
 | x::r,t=>match Nat.beq x t with | true=>true | false=>TC r t
def okW(all:List Oper) (bi i d:Nat):List Oper→List Nat→Nat→Bool
 | o :: r, b :: bs, j => (match Nat.beq i j with
   | true=>true
   | false=>(match o.dst with | some d' => !(Nat.beq d d') | none=>true)&&(!(TC (Iz all o) d)||VD b i||VD bi j))&&okW all bi i d r bs (j+1)
 | _,_,_=>true
def Pd(i:Nat):List Edge→Bool
 | []=>true
 | e::r=>(match WI e with | true=>Nat.blt e.on i | false=>true)&&Pd i r
def T9:Op→Bool
 | .select _ _=>false
 | .defer _=>false
 | _=>true
def vN(all:List Oper) (bf:List Nat):List Oper→List Nat→Nat→Bool
 | o::r,b::bs,i=>T9 o.op&&Pd i o.after.toList&&(match o.dst with | some d => !(TC (Iz all o) d)&&okW all b i d all bf 0 | none=>true)&&vN all bf r bs (i+1)
 | _,_,_=>true
def j3(ops:List Oper) (ρ : Yd) (h:Ja) (K:Yd→Hp):Prop:=
 match vN ops (ZG ops []) ops (ZG ops []) 0 with
 | true=>cD P τ ops (ZG ops []) (ops.length+1) 0 [] ρ h K
 | false=>False
def yL(ops:List Oper) (dr:Bool) (ρ : Yd) (h:Ja) (K:Yd→Hp):Prop:=
 match dr with | true=>j3 P τ ops ρ h K | false=>j4 P τ ops ops ρ h K
def cC:Code→Yd→Ja→Qs→Prop
 | .skip,ρ,h,Q=>Q.n ρ h
 | .ret,ρ,h,Q=>Q.r ρ h
 | .exit id,ρ,h,Q=>Q.x id ρ h
 | .region id ops dr, ρ, h, Q => match an.get (4 * id) with
   | none=>yL P τ ops.toList dr ρ h Q.n
   | some s=>jn (slotsKd s) (fun J=>yL P τ ops.toList dr ρ h fun ρ h=>tup s ρ fun x=>J x h) fun x h=>Q.n (ZV s x (WY (G5 ops.toList) ρ)) h
 | .seq a b,ρ,h,Q=>cC a ρ h { Q with n:=fun ρ h=>cC b ρ h Q }
 | .cond c a b, ρ, h, Q => match ev ρ c with
   | some v => (match zV v with
     | some t => (match X4 a <|> X4 b with
       | some r => (match an.get (4 * r + 1 + 4194304 * (match X4 a with | some _ => yZ a | none => yZ b)) with
         | some s=>jn (slotsKd s) (fun J=>if t=true then cC a ρ h { Q with n:=fun ρ h=>tup s ρ fun x=>J x h } else cC b ρ h { Q with n:=fun ρ h=>tup s ρ fun x=>J x h })
          fun x h=>Q.n (ZV s x (WY (Zr a++Zr b) ρ)) h
         | none=>if t=true then cC a ρ h Q else cC b ρ h Q)
       | none=>if t=true then cC a ρ h Q else cC b ρ h Q)
     | none=>False)
   | none=>False
 | .block id c, ρ, h, Q => match an.get (4 * id + 3) with
   | some s=>jn (slotsKd s) (fun J=>cC c ρ h { n:=fun ρ h=>tup s ρ fun x=>J x h,x:=fun i ρ h=>match Nat.beq i id with | true=>tup s ρ fun x=>J x h | false=>Q.x i ρ h,r:=Q.r })
    fun x h=>Q.n (ZV s x (WY (Zr c) ρ)) h
   | none=>cC c ρ h { n:=Q.n,x:=fun i ρ h=>match Nat.beq i id with | true=>Q.n ρ h | false=>Q.x i ρ h,r:=Q.r }
 | .loop c, ρ, h, Q => match X4 c with
   | some r => (match an.get (4 * r + 2 + 4194304 * yZ c) with
     | some s=>tup s ρ fun x=>lp (slotsKd s) (fun x h next=>cC c (ZV s x (WY (Zr c) ρ)) h { Q with n:=fun ρ h=>tup s ρ fun x=>next x h }) x h
     | none=>False)
   | none=>False
 | .rangeFunc g ps as bd, ρ, h, Q => match UR as && UR bd, ev ρ g, (X4 as <|> X4 bd), ρ.get DS with
   | true, some v, some r, some dv => (match vJ v, an.get (4 * r + 3 + 4194304000), asD dv with
     | some fv, some s, some ds => (match GS s ps.toList with
       | true => (match Dk [] bd with
         | none => rf P fv (slotsKd s).Ty (YR s) h
           (fun x h1 bg kn kr=>cC as (ZV s x ((DS,some ⟨.d,[]⟩) :: ρ)) h1
            { n:=fun ρ h2=>bg h2 fun h3=>cC bd ρ h3 { n:=fun _ h=>kn h,x:=fun _ _ _=>False,r:=fun _ h=>kr h },x:=fun _ _ _=>False,r:=fun _ _=>False })
           (fun d h2=>Q.n ((DS,some ⟨.d,d::ds⟩) :: ρ) h2) (fun d h2=>Q.r ((DS,some ⟨.d,d::ds⟩) :: ρ) h2)
         | some i => rfx P fv (slotsKd s).Ty (YR s) h
           (fun x h1 bg kn kr kx=>cC as (ZV s x ((DS,some ⟨.d,[]⟩) :: ρ)) h1
            { n:=fun ρ h2=>bg h2 fun h3=>cC bd ρ h3 { n:=fun _ h=>kn h,x:=fun j _ h=>match Nat.beq j i with | true=>kx h | false=>False,r:=fun _ h=>kr h },x:=fun _ _ _=>False,r:=fun _ _=>False })
           (fun d h2=>Q.n ((DS,some ⟨.d,d::ds⟩) :: ρ) h2) (fun d h2=>Q.r ((DS,some ⟨.d,d::ds⟩) :: ρ) h2) (fun d h2=>Q.x i ((DS,some ⟨.d,d::ds⟩) :: ρ) h2))
       | false=>False)
     | _,_,_=>False)
   | _,_,_,_=>False
 | _,_,_,_=>False
def xF(k:Kd) (v:ResultVar) (ρ : Yd) (h:Ja) (K:k.Ty→Prop):Prop:=
 match v with
 | .tmp t => (match ev ρ (.tmp t) with
   | some s=>(match s.as k with | some x=>K x | none=>False)
   | none=>False)
 | .cell t T => (match ev ρ (.tmp t), τ.kd T with
   | some s, some k' => (match jU s with
     | some (some l)=>ld k' l h fun x=>(match SV.as k ⟨k',x⟩ with | some x=>K x | none=>False)
     | _=>False)
   | _,_=>False)
def MO:(k:Kd)→List ResultVar→Yd→Ja→(k.Ty→Prop)→Prop
 | .pr k r,v::vs,ρ,h,K=>(match Vt k with | true=>xF τ k v ρ h fun x=>MO r vs ρ h fun y=>K (x,y) | false=>False)
 | .un,[],_,_,K=>K ()
 | _,_,_,_,_=>False
def zv(k:Kd) (rs:List ResultVar) (ρ : Yd) (h:Ja) (K:k.Ty→Prop):Prop:=
 match k,K with
 | .tp k',K=>(match rs with | [_]=>False | rs=>MO τ k' rs ρ h K)
 | .un,K=>(match rs with | []=>K () | _=>False)
 | k,K=>(match rs with | [v]=>xF τ k v ρ h K | _=>False)
def lv:List Nat→Ja→(Hp)→Prop
 | [],h,K=>K h
 | d::r,h,K=>h[d]? = some (.deferred (some []))∧lv r (h.setIfInBounds d (.deferred none)) K
def D4(k:Kd) (rs:List ResultVar) (K:k.Ty→Hp) (ρ : Yd) (h:Ja):Prop:=
 match ρ.get DS with
 | some v=>(match asD v with | some ds=>lv ds h fun h=>zv τ k rs ρ h fun x=>K x h | none=>False)
 | none=>False
def Sp:List SV→Nat→Yd
 | [],_=>[(DS,some ⟨.d,[]⟩)]
 | x::r,n=>(n,some x)::Sp r (n+1)
def fnC(fn:Func) (args:List SV) (k:Kd) (h:Ja) (K:k.Ty→Hp):Prop:=
 match fn.body with
 | some c=>cC P τ an c (Sp args 0) h { n:=D4 τ k fn.results.toList K,x:=fun _ _ _=>False,r:=D4 τ k fn.results.toList K }
 | none=>False
end
set_option linter.unusedVariables false
set_option linter.unusedSimpArgs false
set_option linter.constructorNameAsVariable false
def Kd.cells_length:∀(k:Kd) (x:k.Ty),(k.cells x).length=k.size:=by
 intro k
 induction k with
 | pr a b iha ihb=>intro x;simp[Kd.cells,Kd.size,iha,ihb]
 | ag a ih=>intro x;simpa[Kd.cells,Kd.size] using ih x
 | ar n a ih =>
   intro x;simp only[Kd.cells,Kd.size];rw[List.length_flatMap]
   have:(x.toList.map fun y=>(a.cells y).length)=List.replicate n a.size:=by
    rw[List.eq_replicate_iff];refine⟨by simp,?_⟩;intro b hb;obtain⟨y,_,rfl⟩:=List.mem_map.1 hb;exact ih y
   rw[this];simp
 | _=>intro x;simp[Kd.cells,Kd.size]
def Kd.scalar:Kd→Bool
 | .i | .u8 | .u32 | .u64 | .b | .s | .p | .sl | .m | .f | .v | .l=>true
 | _=>false
def Kd.agg:Kd→Bool
 | .ag _ | .ar _ _=>true
 | _=>false
def Kd.val_scalar{k:Kd} (h:k.scalar=true) (x:k.Ty):k.cells x=[k.val x]:=by
 cases k <;> simp[Kd.scalar]at h <;> simp[Kd.cells,Kd.val,Kd.val0,one]
def Kd.val_agg{k:Kd} (h:k.agg=true) (x:k.Ty):k.val x = .agg (k.cells x).toArray:=by
 cases k <;> simp[Kd.agg]at h <;> simp[Kd.cells,Kd.val,Kd.val0]
def Uw{h:Ja}{l:Pl}{n:Nat}{cs:List Value} (e:Qz h l n=some cs) :
 ∃c T f,h[l.b]? = some (.cells c T f)∧l.o+n≤c.size∧cs=(c.toList.drop l.o).take n:=by
 unfold Qz at e;split at e
 ·rename_i c T f hc
  split at e
  ·rename_i hle;simp at e;exact⟨c,T,f,hc,hle,e.symm⟩
  ·simp at e
 ·simp at e
def IE{w:World}{l:Pl}{n i:Nat}{cs:List Value} (e:Qz w.heap l n=some cs) (hi:i<n) :
 w.cell? ⟨l.b,l.o+i,none⟩=cs[i]? := by
 obtain⟨c,T,f,hc,hle,rfl⟩:=Uw e;simp only[World.cell?,hc];simp[List.getElem?_take,hi]
def Gf{h:Ja}{l:Pl}{n:Nat}{cs:List Value} (e:Qz h l n=some cs):cs.length=n:=by
 obtain⟨c,T,f,hc,hle,rfl⟩:=Uw e;simp;omega
@[simp] theorem addr_add (l:Pl) (n:Nat):l.addr.add n=(Pl.mk l.b (l.o+n)).addr:=by
 unfold Pl.addr Addr.add;split <;> simp_all
def II{P:Program}{w:World}{l:Pl}:∀(n i:Nat) (acc:Array Value) (cs:List Value),Qz w.heap ⟨l.b,l.o+i⟩ n=some cs →
 (loadCellsFrom l.addr i n acc).run P w = .ok (acc++cs.toArray) w:=by
 intro n
 induction n with
 | zero=>intro i acc cs e;have:=Gf e;simp at this;subst this;simp[loadCellsFrom]
 | succ n ih =>
   intro i acc cs e;have h0:=IE (i:=0) e (by omega);obtain⟨c,T,f,hc,hle,hcs⟩:=Uw e;have hl:=Gf e
   cases cs with
   | nil=>simp at hl
   | cons x r =>
     have e':Qz w.heap ⟨l.b,l.o+(i+1)⟩ n=some r:=by
      unfold Qz;simp only at hc hle hcs ⊢;rw[hc];simp only;rw[if_pos (by omega)];have h1:r=(x::r).tail:=rfl;have h2:List.drop (l.o+(i+1)) c.toList=(List.drop (l.o+i) c.toList).tail:=by rw[List.tail_drop];rfl
      rw[h1,hcs,h2]
      cases List.drop (l.o+i) c.toList <;> simp
     have h0':w.cell? (Pl.mk l.b (l.o+i)).addr=some x:=by simpa[Pl.addr] using h0
     simp only[loadCellsFrom,Sem.run_bind,addr_add,run_load,h0',Result.andThen_ok];rw[ih (i+1) (acc.push x) r e'];simp
def VH{P:Program}{w:World}{l:Pl}{n:Nat}{cs:List Value} (e:Qz w.heap l n=some cs) :
 (loadCells l.addr n).run P w = .ok cs.toArray w:=by
 unfold loadCells;rw[II n 0 #[] cs e];simp
def Rr{P:Program}{w:World}{l:Pl}{x:Value} (e:Qz w.heap l 1=some [x]):(load l.addr).run P w = .ok x w:=by
 have:=IE (i:=0) e (by omega);have h:w.cell? l.addr=some x:=by simpa[Pl.addr] using this
 simp[run_load,h]
def Gp(c:Array Value) (o:Nat):Xz c o []=c:=by
 simp[Xz]
def gR{α : Type} (L:List α) (o:Nat) (x : α) (xs:List α) (h:o<L.length) :
 L.take o++x::xs++L.drop (o+(xs.length+1))=(L.set o x).take (o+1)++xs++(L.set o x).drop (o+1+xs.length):=by
 have e1:(L.set o x).take (o+1)=L.take o++[x]:=by
  rw[List.take_succ_eq_append_getElem (by simpa using h)];simp only[List.take_set,List.getElem_set_self];rw[List.set_eq_of_length_le (by simp;omega)]
 have e2:(L.set o x).drop (o+1+xs.length)=L.drop (o+(xs.length+1)):=by
  rw[List.drop_set_of_lt (by omega)]
  congr 1
  omega
 rw[e1,e2];simp
def IR(c:Array Value) (o:Nat) (x:Value) (xs:List Value) (h:o+(xs.length+1)≤c.size) :
 Xz c o (x::xs)=Xz (c.setIfInBounds o x) (o+1) xs:=by
 apply Array.ext';simp only[Xz,Array.toList_setIfInBounds,List.length_cons];exact gR _ _ _ _ (by rw[Array.length_toList];omega)
def T4{w:World}{b o:Nat}{c:Array Value}{T:Nat}{f:Nat×Nat} (x:Value) (hc:w.heap[b]? = some (.cells c T f)) :
 w.setCell ⟨b,o,none⟩ x={ w with heap:=w.heap.setIfInBounds b (.cells (c.setIfInBounds o x) T f) }:=by
 unfold World.setCell
 congr 1
 simp only[Option.isSome_none,Bool.false_eq_true,if_false];apply Array.ext
 ·simp
 ·intro j h1 h2
  grind
def Va{h:Ja}{b:Nat}{o:Obj} (hc:h[b]? = some o):h.setIfInBounds b o=h:=by
 apply Array.ext
 ·simp
 ·intro j h1 h2
  grind
def YQ{P:Program}{l:Pl}:∀(xs:List Value) (i:Nat) (w:World) (c:Array Value) (T lo hi:Nat),w.heap[l.b]? = some (.cells c T (lo,hi)) →
 l.o+i+xs.length≤c.size→(hi≤l.o+i∨l.o+i+xs.length≤lo∨xs=[])→(∀x∈xs,XC x) →
 (storeCells l.addr xs i).run P w = .ok () { w with heap:=w.heap.setIfInBounds l.b (.cells (Xz c (l.o+i) xs) T (lo,hi)) }:=by
 intro xs
 induction xs with
 | nil =>
   intro i w c T lo hi hc hle hfz _;simp only[storeCells,Sem.run_pure,Gp];rw[Va hc]
 | cons x xs ih =>
   intro i w c T lo hi hc hle hfz hpl;have hx:=hpl x (by simp);simp only[List.length_cons]at hle hfz
   have hcell:w.cell? ⟨l.b,l.o+i,none⟩=some (c[l.o+i]'(by omega)):=by
    simp only[World.cell?,hc];simp
   have hfr:w.frozen? ⟨l.b,l.o+i,none⟩=false:=by
    simp only[World.frozen?,hc];simp at hfz ⊢;omega
   have hset:=T4 (o:=l.o+i) x hc;simp only[storeCells,Sem.run_bind,addr_add]
   have hrun:(store (Pl.mk l.b (l.o+i)).addr x).run P w = .ok () (w.setCell ⟨l.b,l.o+i,none⟩ x):=by
    unfold store Pl.addr
    cases x <;> simp[XC]at hx <;> simp[Sem.run,hcell,hfr]
   rw[hrun,hset];simp only[Result.andThen_ok];have hlt:=(Array.getElem?_eq_some_iff.1 hc).1;have hfz':hi≤l.o+(i+1)∨l.o+(i+1)+xs.length≤lo∨xs=[]:=by simp at hfz;omega
   rw[ih (i+1) _ (c.setIfInBounds (l.o+i) x) T lo hi (by simp[hlt]) (by simp;omega) hfz' (fun y hy=>hpl y (by simp[hy]))];rw[IR c _ x xs (by omega)];simp[Array.setIfInBounds_setIfInBounds,Nat.add_assoc]
def ceq:Value→Value→Bool
 | .int k a,.int k' b=>decide (k=k')&&decide (a=b)
 | .bool a,.bool b=>a == b
 | .string a,.string b=>a.data.toList.isEmpty&&b.data.toList.isEmpty
 | .pointer none,.pointer none=>true
 | .slice none 0 0,.slice none 0 0=>true
 | .map none,.map none=>true
 | .nilFunc,.nilFunc=>true
 | .nilIface,.nilIface=>true
 | _,_=>false
def leq:List Value→List Value→Bool
 | [],[]=>true
 | a::r,b::s=>ceq a b&&leq r s
 | _,_=>false
def veq(a b:Value):Bool:=
 match a,b with
 | .agg x,.agg y=>leq x.toList y.toList
 | a,b=>ceq a b
def j7{a b:Value} (h:ceq a b=true):a=b:=by
 unfold ceq at h;split at h <;> simp_all
 rename_i x y
 obtain⟨h1,h2⟩:=h
 cases x;cases y;simp_all
def wX:∀ {a b:List Value},leq a b=true→a=b:=by
 intro a
 induction a with
 | nil=>intro b h;cases b <;> simp_all [leq]
 | cons x a ih => intro b h; cases b with
   | nil=>simp[leq]at h
   | cons y b=>simp[leq]at h;rw[j7 h.1,ih h.2]
def vH{a b:Value} (h:veq a b=true):a=b:=by
 unfold veq at h;split at h
 ·rename_i x y;congr 1;exact Array.ext' (wX h)
 ·exact j7 h
def Qf(τ : Yv):List Field→List (Nat×Nat)→Nat→Kd→Bool
 | [],[],_,.un=>true
 | f :: r, (o, t) :: r', off, .pr k kr => Nat.beq f.offset o && Nat.beq f.type t && Nat.beq o off &&
     (match τ.kd t with | some k'=>decide (k'=k)&&Nat.blt 0 k'.size | none=>false)&&Qf τ r r' (off+k.size) kr
 | _,_,_,_=>false
def Xq(τ : Yv):TD→TypeDesc→Kd→Bool
 | .k,.int .i64,.i | .k,.int .u8,.u8 | .k,.int .u32,.u32 | .k,.int .u64,.u64 | .k,.bool,.b | .str,.string,.s
 | .ptr,.pointer _,.p | .fn,.func _ _ _,.f | .ifc,.interface _,.v=>true
 | .slice e,.slice e',.sl=>Nat.beq e e'
 | .array n e,.array n' e',.ar m k=>Nat.beq n n'&&Nat.beq e e'&&Nat.beq n m&&(match τ.kd e with | some k'=>decide (k'=k) | none=>false)
 | .struct fs,.struct fields,.ag k=>Qf τ fields.toList fs 0 k
 | .map a b,.map a' b',.m=>Nat.beq a a'&&Nat.beq b b'
 | _,_,_=>false
def IC(τ : Yv):List (Nat×Nat)→Bool
 | []=>true
 | (_,t)::r=>(match τ.get t with | some ti=>ti.plain | none=>false)&&IC τ r
def Kd.dep:Kd→Nat
 | .pr x y=>x.dep+y.dep+1 | .ag x=>x.dep+1 | .ar _ x=>x.dep+1 | .tp x=>x.dep+1 | _=>0
def QV(P:Program) (τ : Yv) (t:Nat) (ti:TI):Bool:=
 match ti.d with
 | .k | .str=>true
 | .array _ e=>(match τ.get e with | some ti=>ti.plain | none=>false) && !P.eqGuardType P.depth t&&Nat.blt ti.kd.dep 9000
 | .struct fs => Nat.blt ti.kd.dep 9000 && IC τ fs && !P.eqGuardType P.depth t && !P.stoodInHeld t && (match P.underlying t with | some (.struct fields) => fields.toList.all fun f => f.name != "_" | _ => false)
 | _=>false
def DQ(P:Program) (τ : Yv) (t:Nat) (ti:TI):Bool:=
 match ti.d with
 | .tup => !ti.plain
 | d => match P.underlying t, P.info? t with
   | some desc,some info=>Nat.beq info.size ti.kd.size&&Nat.beq info.bytes ti.bytes&&(match info.zero with | some z=>veq z (ti.kd.val ti.kd.zero) | none=>false) &&
    Xq τ d desc ti.kd&&(!ti.plain||QV P τ t ti)
   | _,_=>false
def U2(P:Program) (τ : Yv):Yv→Bool
 | []=>true
 | (t,ti)::r=>DQ P τ t ti&&U2 P τ r
structure wD (P:Program) (τ : Yv) (t:Nat) (ti:TI):Prop where
 ex:∃desc info,P.underlying t=some desc∧P.info? t=some info∧info.size=ti.kd.size∧info.bytes=ti.bytes∧info.zero=some (ti.kd.val ti.kd.zero) ∧
  Xq τ ti.d desc ti.kd=true
 plain:ti.plain=true→QV P τ t ti=true
def Zg(P:Program) (τ : Yv):Prop:=∀t ti,τ.get t=some ti→(match ti.d with | .tup=>true | _=>false)=false→wD P τ t ti
def SD{P:Program} {τ : Yv}{t:Nat}{ti:TI} (h:DQ P τ t ti=true) (hd:(match ti.d with | .tup=>true | _=>false)=false):wD P τ t ti:=by
 unfold DQ at h;split at h
 ·rename_i e;rw[e]at hd;simp at hd
 ·split at h
  ·rename_i desc info h1 h2
   simp only[Bool.and_eq_true]at h;obtain⟨⟨⟨⟨ha,hb⟩,hc⟩,hdd⟩,he⟩:=h;have ha:=Nat.eq_of_beq_eq_true ha;have hb:=Nat.eq_of_beq_eq_true hb;split at hc
   ·rename_i z hz
    refine⟨⟨desc,info,h1,h2,ha,hb,?_,hdd⟩,fun hp =>?_⟩
    ·rw[hz,vH hc]
    ·simpa[hp] using he
   ·simp at hc
  ·simp at h
def Sa{P:Program} {τ : Yv} (h:U2 P τ τ = true):Zg P τ := by
 have key:∀(l:Yv),U2 P τ l=true→∀t ti,Yv.get l t=some ti→(match ti.d with | .tup=>true | _=>false)=false→wD P τ t ti:=by
  intro l
  induction l with
  | nil=>intro _ t ti h;simp[Yv.get]at h
  | cons x r ih =>
    obtain⟨k,v⟩:=x;intro hc t ti hg hd;simp only[U2,Bool.and_eq_true]at hc;simp only[Yv.get]at hg;split at hg
    ·rename_i he
     simp at hg;subst hg;have:k=t:=by simpa using he
     subst this;exact SD hc.1 hd
    ·exact ih hc.2 t ti hg hd
 exact key τ h
def PW{P:Program} {τ : Yv} (h:U2 P τ τ = true):∀t ti,τ.get t=some ti→ti.plain=true→QV P τ t ti=true:=by
 have key:∀(l:Yv),U2 P τ l=true→∀t ti,Yv.get l t=some ti→ti.plain=true→QV P τ t ti=true:=by
  intro l
  induction l with
  | nil=>intro _ t ti h;simp[Yv.get]at h
  | cons x r ih =>
    obtain⟨k,v⟩:=x;intro hc t ti hg hp;simp only[U2,Bool.and_eq_true]at hc;simp only[Yv.get]at hg;split at hg
    ·rename_i he
     simp at hg;subst hg;have:k=t:=by simpa using he
     subst this;by_cases hd:(match v.d with | .tup=>true | _=>false)=false
     ·exact(SD hc.1 hd).plain hp
     ·have h1:=hc.1;unfold DQ at h1;split at h1
      ·simp[hp]at h1
      ·rename_i hn
       cases hv:v.d <;> simp_all
    ·exact ih hc.2 t ti hg hp
 exact key τ h
section
variable {P:Program} {τ : Yv} (hτ : Zg P τ)
def Jz{t:Nat}{d:TypeDesc} (h:P.underlying t=some d) (w:World):(underlying t).run P w = .ok d w:=by
 simp[underlying,h]
def Wm{t:Nat}{i:TypeInfo} (h:P.info? t=some i) (w:World):(typeInfo t).run P w = .ok i w:=by
 simp[typeInfo,h]
def Qy{t:Nat}{i:TypeInfo} (h:P.info? t=some i) (w:World):(sizeOf t).run P w = .ok i.size w:=by
 simp[sizeOf,Wm h]
def Yz{t:Nat}{i:TypeInfo}{z:Value} (h:P.info? t=some i) (hz:i.zero=some z) (w:World):(zeroValue t).run P w = .ok z w:=by
 simp[zeroValue,Wm h,hz]
def Z3{t:Nat}{k:Kd} (h : τ.kd t=some k):∃ti,τ.get t=some ti∧ti.kd=k∧(match ti.d with | .tup=>true | _=>false)=false:=by
 unfold Yv.kd at h;split at h
 ·simp at h
 ·rename_i i hn hi;refine⟨i,hi,by simpa using h,?_⟩
  split
  ·rename_i e;obtain⟨d,k,b,p⟩:=i;simp at e;subst e;exact(hn _ _ _ rfl).elim
  ·rfl
 ·simp at h
include hτ
omit hτ in
theorem U5{t e:Nat}{i:TI} (h : τ.elem t=some (e,i)):∃ti,τ.get t=some ti ∧ τ.get e=some i∧(ti.d = .slice e∨∃n,ti.d = .array n e)∧(match i.d with | .tup=>true | _=>false)=false:=by
 have key:∀(e':Nat) (o:Option (Nat×TI)),(match τ.get e' with | some ⟨.tup,_,_,_⟩=>none | some i=>some (e',i) | none=>none)=some (e,i)→e'=e ∧ τ.get e=some i∧(match i.d with | .tup=>true | _=>false)=false:=by
  intro e' _ h;split at h
  ·simp at h
  ·rename_i i' hn hi;simp at h;obtain⟨rfl,rfl⟩:=h
   refine⟨rfl,hi,?_⟩;obtain⟨d,k,b,p⟩:=i'
   cases d <;> simp
   exact(hn _ _ _ rfl).elim
  ·simp at h
 unfold Yv.elem at h;split at h
 ·rename_i e' _ _ _ he
  obtain⟨rfl,h1,h2⟩:=key e' none h;exact⟨_,he,h1,.inl rfl,h2⟩
 ·rename_i n e' _ _ _ he
  obtain⟨rfl,h1,h2⟩:=key e' none h;exact⟨_,he,h1,.inr ⟨n,rfl⟩,h2⟩
 ·simp at h
omit hτ in
theorem Pm{d:TD}{desc:TypeDesc}{k:Kd} (h:Xq τ d desc k=true) :
 (k.scalar=true∧(match desc with | .struct _ | .array _ _=>true | _=>false)=false)∨(k.agg=true∧(match desc with | .struct _ | .array _ _=>true | _=>false)=true):=by
 unfold Xq at h;split at h <;> first | (simp at h;done) | simp[Kd.scalar,Kd.agg]
end
def XL{τ : Yv}{desc:TypeDesc}{k:Kd} (h:Xq τ .k desc k=true) :
 (desc = .int .i64∧k = .i)∨(desc = .int .u8∧k = .u8)∨(desc = .int .u32∧k = .u32)∨(desc = .int .u64∧k = .u64)∨(desc = .bool∧k = .b):=by
 unfold Xq at h;split at h <;> simp_all
def Xr{τ : Yv}{desc:TypeDesc}{k:Kd} (h:Xq τ .str desc k=true):desc = .string∧k = .s:=by
 unfold Xq at h;split at h <;> simp_all
def G3{τ : Yv}{desc:TypeDesc}{k:Kd} (h:Xq τ .ptr desc k=true):∃e,desc = .pointer e∧k = .p:=by
 unfold Xq at h;split at h <;> simp_all
def I3{τ : Yv}{desc:TypeDesc}{k:Kd} (h:Xq τ .fn desc k=true):∃a b c,desc = .func a b c∧k = .f:=by
 unfold Xq at h;split at h <;> simp_all
def Xv{τ : Yv}{desc:TypeDesc}{k:Kd}{e:Nat} (h:Xq τ (.slice e) desc k=true):desc = .slice e∧k = .sl:=by
 unfold Xq at h;split at h <;> simp_all
def Xc{τ : Yv}{desc:TypeDesc}{k:Kd}{n e:Nat} (h:Xq τ (.array n e) desc k=true):desc = .array n e∧∃ti,τ.get e=some ti∧k = .ar n ti.kd∧(match ti.d with | .tup=>true | _=>false)=false:=by
 unfold Xq at h;split at h <;> simp_all
 rename_i h1
 obtain⟨⟨⟨rfl,rfl⟩,rfl⟩,h2⟩:=h;split at h2
 ·rename_i k' hk'
  simp at h2;subst h2;obtain⟨ti,a,rfl,c⟩:=Z3 hk';exact⟨ti,a,by simp,c⟩
 ·simp at h2
def XI{τ : Yv}{desc:TypeDesc}{k:Kd}{fs:List (Nat×Nat)} (h:Xq τ (.struct fs) desc k=true):∃fields k',desc = .struct fields∧k = .ag k'∧Qf τ fields.toList fs 0 k'=true:=by
 unfold Xq at h;split at h <;> simp_all
def Zp{τ : Yv}{desc:TypeDesc}{k:Kd}{a b:Nat} (h:Xq τ (.map a b) desc k=true):desc = .map a b∧k = .m:=by
 unfold Xq at h;split at h <;> simp_all
@[simp] theorem asI_some {v:SV} {n:Int}:DK v=some n↔v=⟨.i,n⟩:=by unfold DK;split <;> simp_all
@[simp] theorem asU8_some {v:SV} {n:UInt8}:CO v=some n↔v=⟨.u8,n⟩:=by unfold CO;split <;> simp_all
@[simp] theorem asU32_some {v:SV} {n:UInt32}:Rx v=some n↔v=⟨.u32,n⟩:=by unfold Rx;split <;> simp_all
@[simp] theorem asU64_some {v:SV} {n:UInt64}:Sq v=some n↔v=⟨.u64,n⟩:=by unfold Sq;split <;> simp_all
@[simp] theorem asB_some {v:SV} {n:Bool}:zV v=some n↔v=⟨.b,n⟩:=by
 obtain⟨k,x⟩:=v;cases k <;> simp[zV]
@[simp] theorem asS_some {v:SV} {n:Ba}:CM v=some n↔v=⟨.s,n⟩:=by unfold CM;split <;> simp_all
@[simp] theorem asP_some {v:SV} {n:Option Pl}:jU v=some n↔v=⟨.p,n⟩:=by unfold jU;split <;> simp_all
@[simp] theorem asSl_some {v:SV} {n:Jn}:GX v=some n↔v=⟨.sl,n⟩:=by unfold GX;split <;> simp_all
@[simp] theorem asM_some {v:SV} {n:Option Nat}:yF v=some n↔v=⟨.m,n⟩:=by unfold yF;split <;> simp_all
@[simp] theorem asF_some {v:SV} {n:Value}:vJ v=some n↔v=⟨.f,n⟩:=by unfold vJ;split <;> simp_all
@[simp] theorem asD_some {v:SV} {n:List Nat}:asD v=some n↔v=⟨.d,n⟩:=by unfold asD;split <;> simp_all
theorem YG{k:Kd}{v:SV}{x:k.Ty} (h:v.as k=some x):v=⟨k,x⟩:=by
 obtain⟨k',y⟩:=v;unfold SV.as at h;split at h
 ·rename_i e;simp only at e;subst e;simp at h;subst h;rfl
 ·simp at h
def Pc{v:SV}{n:Int} (h:Sr v=some n):∃k,v.val = .int k n:=by
 unfold Sr at h;split at h <;> simp at h <;> subst h <;> exact⟨_,rfl⟩
@[simp] theorem val_i (n:Int):SV.val ⟨.i,n⟩ = .int .i64 n:=rfl
@[simp] theorem val_u8 (n:UInt8):SV.val ⟨.u8,n⟩ = .int .u8 n.toNat:=rfl
@[simp] theorem val_u32 (n:UInt32):SV.val ⟨.u32,n⟩ = .int .u32 n.toNat:=rfl
@[simp] theorem val_u64 (n:UInt64):SV.val ⟨.u64,n⟩ = .int .u64 n.toNat:=rfl
@[simp] theorem val_b (x:Bool):SV.val ⟨.b,x⟩ = .bool x:=rfl
@[simp] theorem val_s (x:Ba):SV.val ⟨.s,x⟩ = .string x:=rfl
@[simp] theorem val_p (x:Option Pl):SV.val ⟨.p,x⟩ = .pointer (x.map Pl.addr):=rfl
@[simp] theorem val_sl (x:Jn):SV.val ⟨.sl,x⟩ = .slice x.at x.len x.cap:=rfl
@[simp] theorem val_m (x:Option Nat):SV.val ⟨.m,x⟩ = .map x:=rfl
@[simp] theorem val_f (x:Value):SV.val ⟨.f,x⟩=Y7 x:=rfl
@[simp] theorem val_v (x:Value):SV.val ⟨.v,x⟩=PG x:=rfl
@[simp] theorem val_un (x:Unit):SV.val ⟨.un,x⟩ = .tuple #[]:=rfl
@[simp] theorem val_ag (k:Kd) (x:k.Ty):SV.val ⟨.ag k,x⟩ = .agg (k.cells x).toArray:=by simp[SV.val,Kd.val,Kd.val0]
@[simp] theorem val_ar (n:Nat) (k:Kd) (x:Vector k.Ty n):SV.val ⟨.ar n k,x⟩ = .agg ((Kd.ar n k).cells x).toArray:=by simp[SV.val,Kd.val,Kd.val0]
@[simp] theorem val_tp (k:Kd) (x:k.Ty):SV.val ⟨.tp k,x⟩ = .tuple (Kd.vals k x).toArray:=by simp[SV.val,Kd.val,Kd.val0]
theorem S7{c:Value}{v:SV} (h:TR c=some v):v.val=c:=by
 unfold TR at h;split at h
 ·simp at h;subst h;rfl
 ·split at h
  ·rename_i n hn;simp at h;subst h;simp at hn;simp;omega
  ·simp at h
 ·split at h
  ·rename_i n hn;simp at h;subst h;simp at hn;simp;omega
  ·simp at h
 ·split at h
  ·rename_i n hn;simp at h;subst h;simp at hn;simp;omega
  ·simp at h
 all_goals first | (simp at h;subst h;rfl) | (simp at h;done)
def UU(e:Operand→Option SV) (ρ : Operand→Value):Prop:=∀x v,e x=some v → ρ x=v.val
def zU(P:Program) (o:Oper) (e:Operand→Option SV) (v:SV) (q:Option (Hp)):Prop:=
 ∀ ρ,UU e ρ → ∀w:World,(∀f,q=some f→f w.heap)→(execOp ρ o).run P w = .ok (.value v.val) w
def Ok(P:Program) (o:Oper) (e:Operand→Option SV) (h:Ja) (K:SV→Option (Hp)→Prop):Prop:=
 ∃v q,K v q∧(∀f,q=some f→f h)∧zU P o e v q
def Ok.pure{P:Program}{o:Oper}{e:Operand→Option SV}{h:Ja}{K:SV→Option (Hp)→Prop} (v:SV) (hK:K v none)
 (hy:∀ ρ,UU e ρ → ∀w:World,(execOp ρ o).run P w = .ok (.value v.val) w):Ok P o e h K:=
 ⟨v,none,hK,fun f hf=>by simp at hf,fun ρ hρ w _=>hy ρ hρ w⟩
def wrap_i64(n:Int):IntKind.i64.wrap n=(n+9223372036854775808)%18446744073709551616-9223372036854775808:=IntKind.wrap_i64 n
def Ev(n:Int):((Gm n).toNat:Int)=IntKind.u8.wrap n:=by
 unfold Gm;rw[IntKind.wrap_u8];simp;omega
def Th(n:Int):((yf n).toNat:Int)=IntKind.u32.wrap n:=by
 unfold yf;rw[IntKind.wrap_u32];simp;omega
def WT(n:Int):((VL n).toNat:Int)=IntKind.u64.wrap n:=by
 unfold VL;rw[IntKind.wrap_u64];simp;omega
def I1(x:Ba):x.toList=x.data.toList:=ByteArray.toList_eq x
def jV{x y:Ba}:(x.toList == y.toList)=decide (x=y):=by
 rw[I1,I1]
 cases x;cases y
 rw[Bool.eq_iff_iff];simp
section
variable {P:Program} {τ : Yv}{e:Operand→Option SV}{h:Ja}
def C4{op:BinOp}{T:Nat}{x y:Operand}{k k':IntKind}{a b:Int} (w:World) :
 (eqGuard op T x y (.int k a) (.int k' b)).run P w = .ok () w:=by
 unfold eqGuard;split <;> simp
def YW{op:BinOp}{T:Nat}{x y:Operand}{a b:Value} (ha:(match a with | .agg _=>false | .nilIface=>false | _=>true)=true) (w:World) :
 (eqGuard op T x y a b).run P w = .ok () w:=by
 cases a <;> simp at ha <;> unfold eqGuard <;> split <;> simp
def E4{op:BinOp}{T:Nat}{a b:Int}{K:SV→Prop} (hr:wT op a b K) :
 ∃v,K v∧∀w,(binOp op T (.int .i64 a) (.int .i64 b)).run P w = .ok v.val w:=by
 cases op <;> simp only[wT]at hr
 case quo=>exact⟨_,hr.2,fun w=>by simp[binOp,Op.intDiv,hr.1,Jr]⟩
 case rem=>exact⟨_,hr.2,fun w=>by simp[binOp,Op.intDiv,hr.1]⟩
 all_goals first
  | exact hr.elim
  | exact⟨_,hr,fun w=>rfl⟩
def jB{op:BinOp}{T:Nat}{a b:UInt8}{K:SV→Prop} (hr:u8R op a b K) :
 ∃v,K v∧∀w,(binOp op T (.int .u8 a.toNat) (.int .u8 b.toNat)).run P w = .ok v.val w:=by
 have hb1:=a.toNat_lt;have hb2:=b.toNat_lt
 cases op <;> simp only[u8R]at hr
 case sub=>
  refine⟨_,hr,fun w =>?_⟩;simp[binOp,Op.intArith,IntKind.wrap_u8,UInt8.toNat_sub];omega
 case and=>
  refine⟨_,hr,fun w =>?_⟩;have hb:=(a&&&b).toNat_lt
  have e1:(BitVec.ofInt 8 (a.toNat:Int)&&&BitVec.ofInt 8 (b.toNat:Int)).toNat=(a&&&b).toNat:=by
   rw[UInt8.toNat_and,BitVec.toNat_and,BitVec.toNat_ofInt,BitVec.toNat_ofInt]
   congr 1 <;> omega
  show Result.ok (Value.int .u8 (IntKind.u8.wrap ((BitVec.ofInt 8 (a.toNat:Int)&&&BitVec.ofInt 8 (b.toNat:Int)).toNat:Int))) w=_;rw[e1,IntKind.wrap_u8,val_u8]
  congr 2
  omega
 case or=>
  refine⟨_,hr,fun w =>?_⟩;have hb:=(a|||b).toNat_lt
  have e1:(BitVec.ofInt 8 (a.toNat:Int)|||BitVec.ofInt 8 (b.toNat:Int)).toNat=(a|||b).toNat:=by
   rw[UInt8.toNat_or,BitVec.toNat_or,BitVec.toNat_ofInt,BitVec.toNat_ofInt]
   congr 1 <;> omega
  show Result.ok (Value.int .u8 (IntKind.u8.wrap ((BitVec.ofInt 8 (a.toNat:Int)|||BitVec.ofInt 8 (b.toNat:Int)).toNat:Int))) w=_;rw[e1,IntKind.wrap_u8,val_u8]
  congr 2
  omega
 case xor=>
  refine⟨_,hr,fun w =>?_⟩;have hb:=(a^^^b).toNat_lt
  have e1:(BitVec.ofInt 8 (a.toNat:Int)^^^BitVec.ofInt 8 (b.toNat:Int)).toNat=(a^^^b).toNat:=by
   rw[UInt8.toNat_xor,BitVec.toNat_xor,BitVec.toNat_ofInt,BitVec.toNat_ofInt]
   congr 1 <;> omega
  show Result.ok (Value.int .u8 (IntKind.u8.wrap ((BitVec.ofInt 8 (a.toNat:Int)^^^BitVec.ofInt 8 (b.toNat:Int)).toNat:Int))) w=_;rw[e1,IntKind.wrap_u8,val_u8]
  congr 2
  omega
 all_goals first
  | exact hr.elim
  | (refine ⟨_, hr, fun w => ?_⟩
     simp[binOp,Op.intArith,Op.intCmp,IntKind.wrap_u8,UInt8.lt_iff_toNat_lt,UInt8.le_iff_toNat_le]
     done)
def DF{op:BinOp}{T:Nat}{a b:UInt32}{K:SV→Prop} (hr:vD op a b K) :
 ∃v,K v∧∀w,(binOp op T (.int .u32 a.toNat) (.int .u32 b.toNat)).run P w = .ok v.val w:=by
 have hb1:=a.toNat_lt;have hb2:=b.toNat_lt
 cases op <;> simp only[vD]at hr
 case sub=>
  refine⟨_,hr,fun w =>?_⟩;simp[binOp,Op.intArith,IntKind.wrap_u32,UInt32.toNat_sub];omega
 case and=>
  refine⟨_,hr,fun w =>?_⟩;have hb:=(a&&&b).toNat_lt
  have e1:(BitVec.ofInt 32 (a.toNat:Int)&&&BitVec.ofInt 32 (b.toNat:Int)).toNat=(a&&&b).toNat:=by
   rw[UInt32.toNat_and,BitVec.toNat_and,BitVec.toNat_ofInt,BitVec.toNat_ofInt]
   congr 1 <;> omega
  show Result.ok (Value.int .u32 (IntKind.u32.wrap ((BitVec.ofInt 32 (a.toNat:Int)&&&BitVec.ofInt 32 (b.toNat:Int)).toNat:Int))) w=_;rw[e1,IntKind.wrap_u32,val_u32]
  congr 2
  omega
 case or=>
  refine⟨_,hr,fun w =>?_⟩;have hb:=(a|||b).toNat_lt
  have e1:(BitVec.ofInt 32 (a.toNat:Int)|||BitVec.ofInt 32 (b.toNat:Int)).toNat=(a|||b).toNat:=by
   rw[UInt32.toNat_or,BitVec.toNat_or,BitVec.toNat_ofInt,BitVec.toNat_ofInt]
   congr 1 <;> omega
  show Result.ok (Value.int .u32 (IntKind.u32.wrap ((BitVec.ofInt 32 (a.toNat:Int)|||BitVec.ofInt 32 (b.toNat:Int)).toNat:Int))) w=_;rw[e1,IntKind.wrap_u32,val_u32]
  congr 2
  omega
 case xor=>
  refine⟨_,hr,fun w =>?_⟩;have hb:=(a^^^b).toNat_lt
  have e1:(BitVec.ofInt 32 (a.toNat:Int)^^^BitVec.ofInt 32 (b.toNat:Int)).toNat=(a^^^b).toNat:=by
   rw[UInt32.toNat_xor,BitVec.toNat_xor,BitVec.toNat_ofInt,BitVec.toNat_ofInt]
   congr 1 <;> omega
  show Result.ok (Value.int .u32 (IntKind.u32.wrap ((BitVec.ofInt 32 (a.toNat:Int)^^^BitVec.ofInt 32 (b.toNat:Int)).toNat:Int))) w=_;rw[e1,IntKind.wrap_u32,val_u32]
  congr 2
  omega
 all_goals first
  | exact hr.elim
  | (refine ⟨_, hr, fun w => ?_⟩
     simp[binOp,Op.intArith,Op.intCmp,IntKind.wrap_u32,UInt32.lt_iff_toNat_lt,UInt32.le_iff_toNat_le]
     done)
def DG{op:BinOp}{T:Nat}{a b:UInt64}{K:SV→Prop} (hr:vF op a b K) :
 ∃v,K v∧∀w,(binOp op T (.int .u64 a.toNat) (.int .u64 b.toNat)).run P w = .ok v.val w:=by
 have hb1:=a.toNat_lt;have hb2:=b.toNat_lt
 cases op <;> simp only[vF]at hr
 case sub=>
  refine⟨_,hr,fun w =>?_⟩;simp[binOp,Op.intArith,IntKind.wrap_u64,UInt64.toNat_sub];omega
 case and=>
  refine⟨_,hr,fun w =>?_⟩;have hb:=(a&&&b).toNat_lt
  have e1:(BitVec.ofInt 64 (a.toNat:Int)&&&BitVec.ofInt 64 (b.toNat:Int)).toNat=(a&&&b).toNat:=by
   rw[UInt64.toNat_and,BitVec.toNat_and,BitVec.toNat_ofInt,BitVec.toNat_ofInt]
   congr 1 <;> omega
  show Result.ok (Value.int .u64 (IntKind.u64.wrap ((BitVec.ofInt 64 (a.toNat:Int)&&&BitVec.ofInt 64 (b.toNat:Int)).toNat:Int))) w=_;rw[e1,IntKind.wrap_u64,val_u64]
  congr 2
  omega
 case or=>
  refine⟨_,hr,fun w =>?_⟩;have hb:=(a|||b).toNat_lt
  have e1:(BitVec.ofInt 64 (a.toNat:Int)|||BitVec.ofInt 64 (b.toNat:Int)).toNat=(a|||b).toNat:=by
   rw[UInt64.toNat_or,BitVec.toNat_or,BitVec.toNat_ofInt,BitVec.toNat_ofInt]
   congr 1 <;> omega
  show Result.ok (Value.int .u64 (IntKind.u64.wrap ((BitVec.ofInt 64 (a.toNat:Int)|||BitVec.ofInt 64 (b.toNat:Int)).toNat:Int))) w=_;rw[e1,IntKind.wrap_u64,val_u64]
  congr 2
  omega
 case xor=>
  refine⟨_,hr,fun w =>?_⟩;have hb:=(a^^^b).toNat_lt
  have e1:(BitVec.ofInt 64 (a.toNat:Int)^^^BitVec.ofInt 64 (b.toNat:Int)).toNat=(a^^^b).toNat:=by
   rw[UInt64.toNat_xor,BitVec.toNat_xor,BitVec.toNat_ofInt,BitVec.toNat_ofInt]
   congr 1 <;> omega
  show Result.ok (Value.int .u64 (IntKind.u64.wrap ((BitVec.ofInt 64 (a.toNat:Int)^^^BitVec.ofInt 64 (b.toNat:Int)).toNat:Int))) w=_;rw[e1,IntKind.wrap_u64,val_u64]
  congr 2
  omega
 case quo=>
  refine⟨_,hr.2,fun w =>?_⟩;have h0:b.toNat≠0:=fun h=>hr.1 (UInt64.toNat_inj.1 (by simpa using h));have h1:((b.toNat:Int))≠0:=by omega
  have h2:a.toNat/b.toNat≤a.toNat:=Nat.div_le_self _ _;simp only[binOp,ne_eq,not_true_eq_false,if_false,Op.intDiv,h1,Sem.run_pure,IntKind.wrap_u64,val_u64,UInt64.toNat_div];have h3:((a.toNat:Int)).tdiv b.toNat=((a.toNat/b.toNat:Nat):Int):=by rw[Int.ofNat_tdiv]
  rw[h3];generalize a.toNat/b.toNat=q at *
  congr 2
  omega
 case rem=>
  refine⟨_,hr.2,fun w =>?_⟩;have h0:b.toNat≠0:=fun h=>hr.1 (UInt64.toNat_inj.1 (by simpa using h));have h1:((b.toNat:Int))≠0:=by omega
  simp only[binOp,ne_eq,not_true_eq_false,if_false,Op.intDiv,h1,Sem.run_pure,val_u64,UInt64.toNat_mod]
  congr 2
 all_goals first
  | exact hr.elim
  | (refine ⟨_, hr, fun w => ?_⟩
     simp[binOp,Op.intArith,Op.intCmp,IntKind.wrap_u64,UInt64.lt_iff_toNat_lt,UInt64.le_iff_toNat_le]
     done)
def Ti(P:Program) (T:Nat) (a b:Value) (r:Bool):Prop:=
 (∀w,(binOp .eql T a b).run P w = .ok (.bool r) w)∧(∀w,(binOp .neq T a b).run P w = .ok (.bool !r) w) ∧
 ∀op x y w,(op = .eql∨op = .neq)→(eqGuard op T x y a b).run P w = .ok () w
def ZZ{T:Nat}{k:IntKind} (x y:Int):Ti P T (.int k x) (.int k y) (decide (x=y)):=by
 refine⟨fun w =>?_,fun w =>?_,fun op a b w _=>C4 w⟩
 ·simp[binOp,Op.intCmp];rfl
 ·simp[binOp,Op.intCmp];rfl
def Pr{T:Nat} (x y:Ba):Ti P T (.string x) (.string y) (decide (x=y)):=by
 refine⟨fun w =>?_,fun w =>?_,fun op a b w _=>YW rfl w⟩
 ·simp[binOp,Op.stringOp,jV]
 ·simp[binOp,Op.stringOp,jV]
def Xw{T:Nat}{a b:Value}{r:Bool} (ha:(match a,b with | .int _ _,.int _ _=>false | .string _,.string _=>false | .float _ _,.float _ _=>false | .complex _ _ _,.complex _ _ _=>false | _,_=>true)=true)
 (he:∀d w,9998≤d→(Op.equalIn (d+1) T a b).run P w = .ok r w) (hg:∀op x y w,(op = .eql∨op = .neq)→(eqGuard op T x y a b).run P w = .ok () w):Ti P T a b r:=by
 have he:∀w,(Op.equal T a b).run P w = .ok r w:=fun w=>he 9999 w (by decide);refine⟨fun w =>?_,fun w =>?_,hg⟩
 ·unfold binOp;split <;> simp_all
 ·unfold binOp;split <;> simp_all
end
section
variable {P:Program} {τ : Yv} (hτ : Zg P τ)
include hτ
def R5{t:Nat}{ti:TI} (h : τ.get t=some ti) (hd:(match ti.d with | .tup=>true | _=>false)=false) (w:World) :
 (isAgg t).run P w = .ok ti.kd.agg w∧(ti.kd.agg=true∨ti.kd.scalar=true):=by
 obtain⟨desc,info,h1,h2,h3,h4,h5,h6⟩:=(hτ t ti h hd).ex;rcases Pm h6 with⟨hs,ha⟩ | ⟨hs,ha⟩
 ·refine⟨?_,.inr hs⟩;have:ti.kd.agg=false:=by cases hk:ti.kd <;> simp_all [Kd.scalar,Kd.agg]
  simp only[isAgg,Sem.run_bind,Jz h1,Result.andThen_ok,this]
  cases desc <;> simp_all
 ·refine⟨?_,.inl hs⟩;simp only[isAgg,Sem.run_bind,Jz h1,Result.andThen_ok,hs]
  cases desc <;> simp_all
def Wn{t:Nat}{ti:TI} (h : τ.get t=some ti) (hd:(match ti.d with | .tup=>true | _=>false)=false){cs:Array Value}{off:Nat}{z:ti.kd.Ty}
 (hz:(cs.toList.drop off).take ti.kd.size=ti.kd.cells z) (w:World):(part t cs off).run P w = .ok (ti.kd.val z) w:=by
 obtain⟨desc,info,h1,h2,h3,h4,h5,h6⟩:=(hτ t ti h hd).ex;obtain⟨ha,hk⟩:=R5 hτ h hd w;simp only[part,Sem.run_bind,ha,Result.andThen_ok];rcases hk with hk | hk
 ·simp only[hk,if_true,Sem.run_bind,Qy h2,Result.andThen_ok,Sem.run_pure,h3];rw[Kd.val_agg hk]
  congr 2
  apply Array.ext';simp[←hz,List.take_drop]
 ·have:ti.kd.agg=false:=by cases hq:ti.kd <;> simp_all [Kd.scalar,Kd.agg]
  have hs:ti.kd.size=1:=by cases hq:ti.kd <;> simp_all [Kd.scalar,Kd.size]
  rw[this];rw[hs,Kd.val_scalar hk]at hz
  have hc:cs[off]? = some (ti.kd.val z):=by
   have:=congrArg (·[0]?) hz;simpa[List.getElem?_take] using this
  simp[hc]
def ww(P:Program) (ti:TI) (t d:Nat):Prop:=
 ∀(x y:ti.kd.Ty) (w:World),(Op.equalIn d t (ti.kd.val x) (ti.kd.val y)).run P w = .ok (ti.kd.beq x y) w
omit hτ in
theorem Wc{L:List Value}{n m:Nat}{a b:List Value} (h:L.take (n+m)=a++b) (ha:a.length=n):L.take n=a∧(L.drop n).take m=b:=by
 subst ha
 have h1:L.take a.length=a:=by
  have:=congrArg (·.take a.length) h;simpa[List.take_take] using this
 refine⟨h1,?_⟩;have:=congrArg (·.drop a.length) h;simpa[List.drop_take] using this
def CZ{d:Nat}{xs ys:Array Value}:∀(fields:List Field) (fs:List (Nat×Nat)) (off:Nat) (k:Kd) (x y:k.Ty) (w:World),Qf τ fields fs off k=true →
 (∀ f ∈ fields, f.name ≠ "_") → (∀ p ∈ fs, ∃ ti, τ.get p.2 = some ti ∧ (match ti.d with | .tup => true | _ => false) = false ∧ (ti.kd.dep < k.dep → ww P ti p.2 d)) →
 (xs.toList.drop off).take k.size=k.cells x→(ys.toList.drop off).take k.size=k.cells y →
 (forIn (m:=Sem) fields ((none:Option Bool),()) fun(f:Field) __s=>
  if f.name = "_" then pure (ForInStep.yield (none, ()))
  else do
   let __do_lift ←part f.type xs f.offset
   let __do_lift_1 ←part f.type ys f.offset
   let __do_lift ←Op.equalIn d f.type __do_lift __do_lift_1
   if __do_lift=false then pure (ForInStep.done (some false,())) else pure (ForInStep.yield (none,()))).run P w =
  .ok ((if k.beq x y=true then none else some false),()) w:=by
 intro fields
 induction fields with
 | nil =>
   intro fs off k x y w h _ _ _ _
   cases fs <;> cases k <;> simp[Qf]at h
   simp[Kd.beq]
 | cons f r ih =>
   intro fs off k x y w h hn hp hx hy
   cases fs with
   | nil=>simp[Qf]at h
   | cons p fs =>
     obtain⟨o,t⟩:=p
     cases k <;> simp[Qf]at h
     rename_i k1 k2
     obtain⟨⟨⟨⟨h1,h2⟩,h3⟩,h4⟩,h5⟩:=h;subst h3;obtain⟨ti,hti,hd,he⟩:=hp (o,t) (by simp);simp only at hti
     have h4:ti.kd=k1:=by
      cases hkd : τ.kd t with
      | none=>simp[hkd]at h4
      | some k' =>
        obtain⟨tj,ha,hb,_⟩:=Z3 hkd;rw[hti]at ha;simp at ha;subst ha;rw[hkd]at h4;simp at h4;rw[hb,h4.1]
     subst h4;have he:=he (by simp[Kd.dep];omega);obtain⟨hx1,hx2⟩:=Wc (by simpa[Kd.size,Kd.cells] using hx) (Kd.cells_length _ _);obtain⟨hy1,hy2⟩:=Wc (by simpa[Kd.size,Kd.cells] using hy) (Kd.cells_length _ _);have ex:=Wn hτ hti hd hx1 w;have ey:=Wn hτ hti hd hy1 w;simp only[List.forIn_cons,if_neg (hn f (by simp)),Sem.run_bind,h1,h2,ex,ey,Result.andThen_ok];rw[he];simp only[Result.andThen_ok]
     have hrec:=ih fs (o+ti.kd.size) k2 x.2 y.2 w h5 (fun g hg=>hn g (by simp[hg]))
      (fun p hp'=>by
       obtain⟨ti',a,b,c⟩:=hp p (by simp[hp']);exact⟨ti',a,b,fun hlt=>c (by simp[Kd.dep];omega)⟩)
      (by simpa[List.drop_drop] using hx2) (by simpa[List.drop_drop] using hy2)
     cases hb:ti.kd.beq x.1 y.1
     ·simp[Kd.beq,hb]
     ·simp only[Bool.true_eq_false,if_false,Sem.run_pure,Result.andThen_ok];rw[hrec];simp[Kd.beq,hb]
def wF{t e n:Nat}{ti:TI}{i:TypeInfo} (hti : τ.get e=some ti) (hd:(match ti.d with | .tup=>true | _=>false)=false) (hi:i.size=ti.kd.size){d:Nat}{xs ys:Array Value} (he:ww P ti e d) :
 ∀(m s:Nat) (x y:List ti.kd.Ty) (w:World),x.length=m→y.length=m→(xs.toList.drop (s*i.size)).take (m*ti.kd.size)=x.flatMap ti.kd.cells→(ys.toList.drop (s*i.size)).take (m*ti.kd.size)=y.flatMap ti.kd.cells →
 (forIn (m:=Sem) (List.range' s m) ((none:Option Bool),()) fun(i_1:Nat) __s=>do
  let __do_lift ←part e xs (i_1*i.size)
  let __do_lift_1 ←part e ys (i_1*i.size)
  let __do_lift ←Op.equalIn d e __do_lift __do_lift_1
  if __do_lift=false then pure (ForInStep.done (some false,())) else pure (ForInStep.yield (none,()))).run P w =
  .ok ((if ((x.zip y).all fun z=>ti.kd.beq z.1 z.2)=true then none else some false),()) w:=by
 intro m
 induction m with
 | zero=>intro s x y w hx hy _ _;cases x <;> cases y <;> simp_all
 | succ m ih =>
   intro s x y w hx hy h1 h2
   cases x with
   | nil=>simp at hx
   | cons a x =>
     cases y with
     | nil=>simp at hy
     | cons b y =>
       simp at hx hy;simp only[List.flatMap_cons]at h1 h2;rw[show(m+1)*ti.kd.size=ti.kd.size+m*ti.kd.size by rw[Nat.succ_mul,Nat.add_comm]]at h1 h2;obtain⟨hx1,hx2⟩:=Wc h1 (Kd.cells_length _ _);obtain⟨hy1,hy2⟩:=Wc h2 (Kd.cells_length _ _);have ex:=Wn hτ hti hd hx1 w;have ey:=Wn hτ hti hd hy1 w;rw[List.range'_succ];simp only[List.forIn_cons,Sem.run_bind,ex,ey,Result.andThen_ok];rw[he];simp only[Result.andThen_ok];have hs:s*i.size+ti.kd.size=(s+1)*i.size:=by rw[hi,Nat.succ_mul]
       have hrec:=ih (s+1) x y w hx hy (by rw[←hs];simpa[List.drop_drop] using hx2) (by rw[←hs];simpa[List.drop_drop] using hy2)
       cases hb:ti.kd.beq a b
       ·simp[hb]
       ·simp only[Bool.true_eq_false,if_false,Sem.run_pure,Result.andThen_ok];rw[hrec];simp only[List.zip_cons_cons,List.all_cons,hb,Bool.true_and]
omit hτ in
theorem ID:∀ {fs:List (Nat×Nat)},IC τ fs=true→∀p∈fs,∃ti,τ.get p.2=some ti∧ti.plain=true:=by
 intro fs
 induction fs with
 | nil=>intro _ p hp;simp at hp
 | cons q r ih =>
   obtain⟨o,t⟩:=q;intro h p hp;simp only[IC,Bool.and_eq_true]at h;rcases List.mem_cons.1 hp with rfl | hp
   ·cases hg : τ.get t with
    | none=>simp[hg]at h
    | some ti=>exact⟨ti,rfl,by simpa[hg] using h.1⟩
   ·exact ih h.2 p hp
omit hτ in
theorem VE{t:Nat}{ti:TI} (h : τ.get t=some ti) (hp:QV P τ t ti=true):(match ti.d with | .tup=>true | _=>false)=false:=by
 unfold QV at hp;split at hp <;> simp_all
omit hτ in
theorem Pu:∀ {fields:List Field}{fs:List (Nat×Nat)}{off:Nat}{k:Kd},Qf τ fields fs off k=true→(∀p∈fs,∃ti,τ.get p.2=some ti∧0<ti.kd.size∧(match ti.d with | .tup=>true | _=>false)=false) ∧
 (∀f∈fields,∃ti,τ.get f.type=some ti∧0<ti.kd.size∧(match ti.d with | .tup=>true | _=>false)=false):=by
 intro fields
 induction fields with
 | nil=>intro fs off k h;cases fs <;> cases k <;> simp[Qf]at h;simp
 | cons f r ih =>
   intro fs off k h
   cases fs with
   | nil=>simp[Qf]at h
   | cons q fs =>
     obtain⟨o,t⟩:=q
     cases k <;> simp[Qf]at h
     have hh:∃ti,τ.get t=some ti∧0<ti.kd.size∧(match ti.d with | .tup=>true | _=>false)=false:=by
      cases hkd : τ.kd t with
      | none=>simp[hkd]at h
      | some k' =>
        obtain⟨tj,ha,hb,hc⟩:=Z3 hkd;rw[hkd]at h;simp at h;exact⟨tj,ha,by rw[hb];exact h.1.2.2,hc⟩
     obtain⟨i1,i2⟩:=ih h.2;refine⟨?_,?_⟩
     ·intro p hp;rcases List.mem_cons.1 hp with rfl | hp
      ·exact hh
      ·exact i1 p hp
     ·intro g hg;rcases List.mem_cons.1 hg with rfl | hg
      ·have:g.type=t:=h.1.1.1.2;rw[this];exact hh
      ·exact i2 g hg
def Mu(hpl:∀t ti,τ.get t=some ti→ti.plain=true→QV P τ t ti=true):∀(n:Nat) (t:Nat) (ti:TI),τ.get t=some ti→ti.plain=true→ti.kd.dep<n→∀d,n≤d→ww P ti t (d+1):=by
 intro n
 induction n with
 | zero=>intro t ti _ _ h;omega
 | succ n ih =>
   intro t ti h hp hdep d hd x y w;have hok:=hpl t ti h hp;have hnt:=VE h hok;obtain⟨desc,info,h1,h2,h3,h4,h5,h6⟩:=(hτ t ti h hnt).ex;unfold QV at hok;split at hok
   ·rename_i hdd
    rw[hdd]at h6;obtain⟨dd,kd,by_,pl⟩:=ti;simp only at hdd h6 ⊢;rcases XL h6 with⟨rfl,rfl⟩ | ⟨rfl,rfl⟩ | ⟨rfl,rfl⟩ | ⟨rfl,rfl⟩ | ⟨rfl,rfl⟩ <;> simp only[Op.equalIn,Sem.run_bind,Jz h1,Result.andThen_ok,Kd.val,Kd.val0,Kd.cells,one,Kd.beq]
    ·rfl
    ·simp[Bool.beq_eq_decide_eq];exact⟨fun h=>UInt8.toNat_inj.1 (by omega),fun h=>by rw[h]⟩
    ·simp[Bool.beq_eq_decide_eq];exact⟨fun h=>UInt32.toNat_inj.1 (by omega),fun h=>by rw[h]⟩
    ·simp[Bool.beq_eq_decide_eq];exact⟨fun h=>UInt64.toNat_inj.1 (by omega),fun h=>by rw[h]⟩
    ·cases x <;> cases y <;> rfl
   ·rename_i hdd
    rw[hdd]at h6;obtain⟨dd,kd,by_,pl⟩:=ti;simp only at hdd h6 ⊢;obtain⟨rfl,rfl⟩:=Xr h6;simp only[Op.equalIn,Sem.run_bind,Jz h1,Result.andThen_ok,Kd.val,Kd.val0,Kd.cells,one,Kd.beq,Sem.run_pure]
    congr 1
    rw[Bool.eq_iff_iff,Go.MapKept.bytes_beq];simp
   ·rename_i m e hdd
    rw[hdd]at h6;obtain⟨dd,kd,by_,pl⟩:=ti;simp only at hdd h6 hdep x y ⊢;obtain⟨rfl,ei0,hei0,rfl,_⟩:=Xc h6
    cases hg : τ.get e with
    | none=>simp[hg]at hok
    | some ei =>
      obtain rfl:ei0=ei:=by rw[hg]at hei0;simpa using hei0.symm
      rw[hg]at hok;simp at hok;have hei:=hpl e ei0 hg hok.1.1;have hent:=VE hg hei;obtain⟨desc',info',g1,g2,g3,g4,g5,g6⟩:=(hτ e ei0 hg hent).ex
      cases d with
      | zero=>omega
      | succ d=>
      have he:=ih e ei0 hg hok.1.1 (by simp[Kd.dep]at hdep;omega) d (by omega)
      have:=wF (t:=t) (n:=0) hτ hg hent g3 he m 0 x.toList y.toList w (by simp) (by simp)
       (xs:=((Kd.ar m ei0.kd).cells x).toArray) (ys:=((Kd.ar m ei0.kd).cells y).toArray)
       (by have hl:=Kd.cells_length (.ar m ei0.kd) x;simp[Kd.cells,Kd.size]at hl ⊢;rw[List.take_of_length_le (by simp[hl])])
       (by have hl:=Kd.cells_length (.ar m ei0.kd) y;simp[Kd.cells,Kd.size]at hl ⊢;rw[List.take_of_length_le (by simp[hl])])
      unfold Op.equalIn;simp only[Kd.val,Kd.val0];simp[Jz h1,Qy g2];rw[this];simp only[Result.andThen_ok,Kd.beq]
      cases ((x.toList.zip y.toList).all fun z=>ei0.kd.beq z.1 z.2) <;> simp
   ·rename_i fs hdd
    rw[hdd]at h6;obtain⟨dd,kd,by_,pl⟩:=ti;simp only at hdd h6 hdep x y ⊢;obtain⟨fields,k',rfl,rfl,h6⟩:=XI h6;rw[h1]at hok;simp only[Bool.and_eq_true,Bool.not_eq_true']at hok;obtain⟨⟨⟨⟨_,b1⟩,b2⟩,b3⟩,b4⟩:=hok
    have hn : ∀ f ∈ fields.toList, f.name ≠ "_" := by
     intro f hf;have:=List.all_eq_true.1 b4 f hf;simpa using this
    cases d with
    | zero=>omega
    | succ d=>
    have:=CZ (d:=d+1) hτ (xs:=(k'.cells x).toArray) (ys:=(k'.cells y).toArray) fields.toList fs 0 k' x y w h6 hn
     (fun p hp'=>by
      obtain⟨tj,c1,c2⟩:=ID b1 p hp';exact⟨tj,c1,VE c1 (hpl _ _ c1 c2),fun hlt=>ih p.2 tj c1 c2 (by simp[Kd.dep]at hdep;omega) d (by omega)⟩)
     (by simp;rw[←Kd.cells_length k' x];simp) (by simp;rw[←Kd.cells_length k' y];simp)
    unfold Op.equalIn;simp only[Kd.val,Kd.val0];simp[Jz h1,b3,←Array.forIn_toList];rw[this];simp only[Result.andThen_ok,Kd.beq]
    cases k'.beq x y <;> simp
   ·simp at hok
end
section
variable {P:Program} {τ : Yv} (hτ : Zg P τ)
include hτ
def Jat{t:Nat}{ti:TI} (h : τ.get t=some ti) (hp:ti.plain=true) (hd:(match ti.d with | .tup=>true | _=>false)=false):QV P τ t ti=true:=(hτ t ti h hd).plain hp
def Yl{t:Nat}{d:TD}{k:Kd}{by_:Nat}{pl:Bool} (h : τ.get t=some ⟨d,k,by_,pl⟩) (hd:(match d with | .tup=>true | _=>false)=false) :
 ∃desc info,P.underlying t=some desc∧P.info? t=some info∧info.size=k.size∧info.bytes=by_∧info.zero=some (k.val k.zero)∧Xq τ d desc k=true:=
 (hτ t ⟨d,k,by_,pl⟩ h (by cases d <;> simp_all)).ex
def RB{T:Nat}{a b:SV}{K:Bool→Prop} (hpl:∀t ti,τ.get t=some ti→ti.plain=true→QV P τ t ti=true) (h:eqR τ T a b K):∃r,K r∧Ti P T a.val b.val r:=by
 unfold eqR at h;split at h
 ·rename_i x y h1 h2
  rw[asI_some]at h1 h2;subst h1;subst h2;exact⟨_,h,ZZ x y⟩
 ·split at h
  ·rename_i x y h1 h2
   obtain⟨hk,h⟩:=h;obtain⟨ka,xa⟩:=a;obtain⟨kb,xb⟩:=b;simp only at hk;subst hk;refine⟨_,h,?_⟩
   cases ka <;> simp[Sr]at h1 h2 <;> subst h1 <;> subst h2 <;> exact ZZ _ _
  ·split at h
   ·rename_i x y h1 h2
    rw[asS_some]at h1 h2;subst h1;subst h2;exact⟨_,h,Pr x y⟩
   ·split at h
    ·rename_i hg
     split at h
     ·rename_i x y h1 h2
      rw[asB_some]at h1 h2;subst h1;subst h2;obtain⟨desc,info,g1,_,_,_,_,g6⟩:=Yl hτ hg rfl;rcases XL g6 with⟨rfl,hh⟩ | ⟨rfl,hh⟩ | ⟨rfl,hh⟩ | ⟨rfl,hh⟩ | ⟨rfl,hh⟩ <;> simp at hh
      refine⟨_,h,Xw rfl (fun d w _ =>?_) (fun op x y w _=>YW rfl w)⟩;unfold Op.equalIn;simp only[Sem.run_bind,Jz g1,Result.andThen_ok,val_b,Sem.run_pure]
      cases x <;> cases y <;> rfl
     ·exact h.elim
    ·rename_i hg
     obtain⟨desc,info,g1,_,_,_,_,g6⟩:=Yl hτ hg rfl;obtain⟨e,rfl,_⟩:=G3 g6;split at h
     ·rename_i x h1 h2
      rw[asP_some]at h1 h2;subst h1;subst h2;refine⟨_,h,Xw rfl (fun d w _ =>?_) (fun op x y w _=>YW rfl w)⟩;unfold Op.equalIn;simp only[Sem.run_bind,Jz g1,Result.andThen_ok,val_p]
      cases x <;> simp
     ·rename_i y hne h1 h2
      rw[asP_some]at h1 h2;subst h1;subst h2;refine⟨_,h,Xw rfl (fun d w _ =>?_) (fun op x y w _=>YW rfl w)⟩;unfold Op.equalIn;simp only[Sem.run_bind,Jz g1,Result.andThen_ok,val_p]
      cases y <;> simp
     ·exact h.elim
    ·rename_i e _ _ _ hg
     obtain⟨desc,info,g1,_,_,_,_,g6⟩:=Yl hτ hg rfl;obtain⟨rfl,_⟩:=Xv g6;split at h
     ·rename_i x y h1 h2
      rw[asSl_some]at h1 h2;subst h1;subst h2;split at h <;> try exact h.elim
      rename_i y1 y2 y3 y4
      obtain rfl:y=⟨none,0,0⟩:=Jn.ext y1 y2 y3 (Wd.ext y4);refine⟨_,h,Xw rfl (fun d w _ =>?_) (fun op x y w _=>YW rfl w)⟩;unfold Op.equalIn;simp only[Sem.run_bind,Jz g1,Result.andThen_ok,val_sl]
      cases x with
      | @mk xa xl xc xw=>cases xw with | mk xv=>cases xa <;> cases xv <;> rfl
     ·exact h.elim
    ·rename_i kt et _ _ _ hg
     obtain⟨desc,info,g1,_,_,_,_,g6⟩:=Yl hτ hg rfl;obtain⟨rfl,_⟩:=Zp g6;split at h
     ·rename_i x h1 h2
      rw[asM_some]at h1 h2;subst h1;subst h2;refine⟨_,h,Xw rfl (fun d w _ =>?_) (fun op x y w _=>YW rfl w)⟩;unfold Op.equalIn;simp only[Sem.run_bind,Jz g1,Result.andThen_ok,val_m]
      cases x <;> simp
     ·exact h.elim
    ·rename_i hg
     obtain⟨desc,info,g1,_,_,_,_,g6⟩:=Yl hτ hg rfl;obtain⟨e1,e2,e3,rfl,_⟩:=I3 g6;split at h
     ·rename_i x h1 h2
      rw[asF_some]at h1 h2;subst h1;subst h2;refine⟨_,h,?_⟩
      have hc:(Y7 x = .nilFunc)∨(∃f a b,Y7 x = .func f a b):=by
       unfold Y7;split <;> simp
      rcases hc with hc | ⟨f,u,v,hc⟩
      ·refine Xw (by simp[hc,Y7]) (fun d w _ =>?_) (fun op x y w _=>YW (by simp[hc]) w);unfold Op.equalIn;simp only[Sem.run_bind,Jz g1,Result.andThen_ok,val_f,hc];simp[Y7]
      ·refine Xw (by simp[hc,Y7]) (fun d w _ =>?_) (fun op x y w _=>YW (by simp[hc]) w);unfold Op.equalIn;simp only[Sem.run_bind,Jz g1,Result.andThen_ok,val_f,hc];simp[Y7]
     ·exact h.elim
    ·rename_i d k by_ _ _ _ _ _ hg
     split at h
     ·rename_i x y h1 h2
      have h1:=YG h1;have h2:=YG h2;subst h1;subst h2;have hok:=hpl T _ hg rfl;have hnt:=VE hg hok
      have hk:k.dep<9000∨k.scalar=true:=by
       unfold QV at hok;split at hok
       ·rename_i e;simp only at e;subst e
        obtain⟨desc,info,g1,_,_,_,_,g6⟩:=Yl hτ hg rfl
        right
        rcases XL g6 with⟨rfl,rfl⟩ | ⟨rfl,rfl⟩ | ⟨rfl,rfl⟩ | ⟨rfl,rfl⟩ | ⟨rfl,rfl⟩ <;> rfl
       ·rename_i e;simp only at e;subst e
        obtain⟨desc,info,g1,_,_,_,_,g6⟩:=Yl hτ hg rfl
        right
        obtain⟨rfl,rfl⟩:=Xr g6;rfl
       ·simp at hok;left;exact hok.2
       ·simp at hok;left;omega
       ·simp at hok
      have hdep:k.dep<9998:=by
       rcases hk with hk | hk
       ·omega
       ·cases k <;> simp[Kd.scalar]at hk <;> simp[Kd.dep]
      have heq:=fun d (hd:9998≤d)=>Mu hτ hpl 9998 T _ hg rfl hdep d hd;refine⟨_,h,?_⟩;unfold QV at hok;split at hok
      ·rename_i e;simp only at e;subst e
       obtain⟨desc,info,g1,_,_,_,_,g6⟩:=Yl hτ hg rfl;rcases XL g6 with⟨rfl,rfl⟩ | ⟨rfl,rfl⟩ | ⟨rfl,rfl⟩ | ⟨rfl,rfl⟩ | ⟨rfl,rfl⟩
       ·exact ZZ x y
       ·have:=ZZ (P:=P) (T:=T) (k := .u8) (x.toNat) (y.toNat);rw[decide_eq_decide.2 (show((x.toNat:Int)=y.toNat)↔x=y from⟨fun h=>UInt8.toNat_inj.1 (by omega),fun h=>by rw[h]⟩)]at this;exact this
       ·have:=ZZ (P:=P) (T:=T) (k := .u32) (x.toNat) (y.toNat);rw[decide_eq_decide.2 (show((x.toNat:Int)=y.toNat)↔x=y from⟨fun h=>UInt32.toNat_inj.1 (by omega),fun h=>by rw[h]⟩)]at this;exact this
       ·have:=ZZ (P:=P) (T:=T) (k := .u64) (x.toNat) (y.toNat);rw[decide_eq_decide.2 (show((x.toNat:Int)=y.toNat)↔x=y from⟨fun h=>UInt64.toNat_inj.1 (by omega),fun h=>by rw[h]⟩)]at this;exact this
       ·exact Xw rfl (fun d w hd=>heq d hd x y w) (fun op x y w _=>YW rfl w)
      ·rename_i e;simp only at e;subst e
       obtain⟨desc,info,g1,_,_,_,_,g6⟩:=Yl hτ hg rfl;obtain⟨rfl,rfl⟩:=Xr g6;exact Pr x y
      ·rename_i m e' e;simp only at e;subst e
       obtain⟨desc,info,g1,_,_,_,_,g6⟩:=Yl hτ hg rfl;obtain⟨rfl,ei,he,rfl,_⟩:=Xc g6;simp only[Bool.and_eq_true,Bool.not_eq_true']at hok;refine Xw (by simp) (fun d w hd=>heq d hd x y w) (fun op x y w _ =>?_);unfold eqGuard;split <;> simp[hok.1.2]
      ·rename_i fs e;simp only at e;subst e
       obtain⟨desc,info,g1,_,_,_,_,g6⟩:=Yl hτ hg rfl;obtain⟨fields,k',rfl,rfl,_⟩:=XI g6;simp only[Bool.and_eq_true,Bool.not_eq_true']at hok;refine Xw (by simp) (fun d w hd=>heq d hd x y w) (fun op x y w _ =>?_);unfold eqGuard;split <;> simp[hok.1.1.2]
      ·simp at hok
     ·exact h.elim
    ·exact h.elim
end
section
variable {P:Program} {τ : Yv} (hτ : Zg P τ) (hpl:∀t ti,τ.get t=some ti→ti.plain=true→QV P τ t ti=true)
def DB{op:BinOp}{T:Nat}{a b:Ba}{K:SV→Prop} (hr:vA op a b K) :
 ∃v,K v∧∀w,(binOp op T (.string a) (.string b)).run P w = .ok v.val w:=by
 cases op <;> simp only[vA]at hr
 case add=>
  refine⟨_,hr.2,fun w =>?_⟩;have h1:=hr.1;have hm:IntKind.i64.max=9223372036854775807:=by rfl
  simp only[binOp,Op.stringOp,hm,val_s];rw[if_neg (by omega)];simp
 all_goals first
  | exact hr.elim
  | exact⟨_,hr,fun w=>by simp[binOp,Op.stringOp,Wp,I1,←jV]⟩
def R8{op:BinOp}{T:Nat}{a b:SV}{n:Int}{K:SV→Prop} (ho:op = .shl∨op = .shr) (hb:Sr b=some n) (hr:shR op a n K) :
 ∃v,K v∧∀w,(binOp op T a.val b.val).run P w = .ok v.val w:=by
 obtain⟨kb,hb⟩:=Pc hb;unfold shR at hr;obtain⟨hn,hr⟩:=hr;have hn':¬n<0:=by omega
 split at hr
 ·rename_i x hx;rw[asI_some]at hx;subst hx
  refine⟨_,hr,fun w =>?_⟩;rcases ho with rfl | rfl <;> simp[binOp,hb,Op.shift,hn',QQ,Wy,IntKind.bits]
 ·split at hr
  ·rename_i x hx;rw[asU8_some]at hx;subst hx
   refine⟨_,hr,fun w =>?_⟩;rcases ho with rfl | rfl <;> simp[binOp,hb,Op.shift,hn',Jad,Ev,IntKind.bits]
   rw[IntKind.wrap_u8];have h1:=x.toNat_lt;have h2:=Int.fdiv_nonneg (a:=(x.toNat:Int)) (b:=2^(min n.toNat 8)) (by omega) (Int.le_of_lt (Int.pow_pos (by omega)))
   have h3:((x.toNat:Int)).fdiv (2^(min n.toNat 8))≤x.toNat:=by
    rw[Int.fdiv_eq_ediv_of_nonneg _ (Int.le_of_lt (Int.pow_pos (by omega)))];exact Int.ediv_le_self _ (by omega)
   omega
  ·split at hr
   ·rename_i x hx;rw[asU32_some]at hx;subst hx
    refine⟨_,hr,fun w =>?_⟩;rcases ho with rfl | rfl <;> simp[binOp,hb,Op.shift,hn',Yn,Th,IntKind.bits]
    rw[IntKind.wrap_u32];have h1:=x.toNat_lt;have h2:=Int.fdiv_nonneg (a:=(x.toNat:Int)) (b:=2^(min n.toNat 32)) (by omega) (Int.le_of_lt (Int.pow_pos (by omega)))
    have h3:((x.toNat:Int)).fdiv (2^(min n.toNat 32))≤x.toNat:=by
     rw[Int.fdiv_eq_ediv_of_nonneg _ (Int.le_of_lt (Int.pow_pos (by omega)))];exact Int.ediv_le_self _ (by omega)
    omega
   ·split at hr
    ·rename_i x hx;rw[asU64_some]at hx;subst hx
     refine⟨_,hr,fun w =>?_⟩;rcases ho with rfl | rfl <;> simp[binOp,hb,Op.shift,hn',Gk,WT,IntKind.bits]
     rw[IntKind.wrap_u64];have h1:=x.toNat_lt;have h2:=Int.fdiv_nonneg (a:=(x.toNat:Int)) (b:=2^(min n.toNat 64)) (by omega) (Int.le_of_lt (Int.pow_pos (by omega)))
     have h3:((x.toNat:Int)).fdiv (2^(min n.toNat 64))≤x.toNat:=by
      rw[Int.fdiv_eq_ediv_of_nonneg _ (Int.le_of_lt (Int.pow_pos (by omega)))];exact Int.ediv_le_self _ (by omega)
     omega
    ·exact hr.elim
include hτ hpl
def EG{op:BinOp}{T:Nat}{a b:SV}{K:SV→Prop} (hr:wI τ op T a b K) :
 ∃v,K v∧∀x y w,(do eqGuard op T x y a.val b.val;binOp op T a.val b.val).run P w = .ok v.val w:=by
 have gu:∀ {v:SV},op ≠ .eql→op ≠ .neq→(∀w,(binOp op T a.val b.val).run P w = .ok v.val w)→∀x y w,(do eqGuard op T x y a.val b.val;binOp op T a.val b.val).run P w = .ok v.val w:=by
  intro v h1 h2 h x y w
  have:(eqGuard op T x y a.val b.val).run P w = .ok () w:=by
   unfold eqGuard;cases op <;> simp_all
  simp[this,h]
 unfold wI at hr;split at hr
 ·obtain⟨r,hk,h1,h2,h3⟩:=RB hτ hpl hr;exact⟨_,hk,fun x y w=>by simp[h3 .eql x y w (.inl rfl),h1]⟩
 ·obtain⟨r,hk,h1,h2,h3⟩:=RB hτ hpl hr;exact⟨_,hk,fun x y w=>by simp[h3 .neq x y w (.inr rfl),h2]⟩
 ·split at hr
  ·rename_i n hn
   obtain⟨v,hk,h⟩:=R8 (P:=P) (T:=T) (.inl rfl) hn hr;exact⟨v,hk,gu (by simp) (by simp) h⟩
  ·exact hr.elim
 ·split at hr
  ·rename_i n hn
   obtain⟨v,hk,h⟩:=R8 (P:=P) (T:=T) (.inr rfl) hn hr;exact⟨v,hk,gu (by simp) (by simp) h⟩
  ·exact hr.elim
 ·rename_i ne1 ne2 ne3 ne4
  split at hr
  ·rename_i x y h1 h2
   rw[asI_some]at h1 h2;subst h1;subst h2;obtain⟨v,hk,h⟩:=E4 (P:=P) (T:=T) hr;exact⟨v,hk,gu ne1 ne2 h⟩
  ·split at hr
   ·rename_i x y h1 h2
    rw[asS_some]at h1 h2;subst h1;subst h2;obtain⟨v,hk,h⟩:=DB (P:=P) (T:=T) hr;exact⟨v,hk,gu ne1 ne2 h⟩
   ·split at hr
    ·rename_i x y h1 h2
     rw[asU8_some]at h1 h2;subst h1;subst h2;obtain⟨v,hk,h⟩:=jB (P:=P) (T:=T) hr;exact⟨v,hk,gu ne1 ne2 h⟩
    ·split at hr
     ·rename_i x y h1 h2
      rw[asU32_some]at h1 h2;subst h1;subst h2;obtain⟨v,hk,h⟩:=DF (P:=P) (T:=T) hr;exact⟨v,hk,gu ne1 ne2 h⟩
     ·split at hr
      ·rename_i x y h1 h2
       rw[asU64_some]at h1 h2;subst h1;subst h2;obtain⟨v,hk,h⟩:=DG (P:=P) (T:=T) hr;exact⟨v,hk,gu ne1 ne2 h⟩
      ·exact hr.elim
omit hτ hpl in
theorem jC{op:UnOp}{a:SV}{K:SV→Prop} (hr:unR op a K):∃v,K v∧∀w,(Op.unary op a.val).run P w = .ok v.val w:=by
 unfold unR at hr;split at hr
 ·split at hr
  ·rename_i x hx;rw[asB_some]at hx;subst hx;exact⟨_,hr,fun w=>by simp[Op.unary]⟩
  ·exact hr.elim
 ·split at hr
  ·rename_i x hx;rw[asI_some]at hx;subst hx;exact⟨_,hr,fun w=>by simp[Op.unary,Op.intArith,Jr]⟩
  ·exact hr.elim
 ·split at hr
  ·rename_i x hx;rw[asU32_some]at hx;subst hx
   refine⟨_,hr,fun w =>?_⟩;have hb:=x.toNat_lt;show Result.ok (Value.int .u32 (IntKind.u32.wrap ((BitVec.ofInt 32 IntKind.u32.max^^^BitVec.ofInt 32 (x.toNat:Int)).toNat:Int))) w=_
   have e1:(BitVec.ofInt 32 IntKind.u32.max^^^BitVec.ofInt 32 (x.toNat:Int))=(~~~ x).toBitVec:=by
    have h1:BitVec.ofInt 32 IntKind.u32.max=BitVec.allOnes 32:=by decide
    have h2:BitVec.ofInt 32 (x.toNat:Int)=x.toBitVec:=by
     apply BitVec.eq_of_toNat_eq;rw[BitVec.toNat_ofInt];simp;omega
    rw[h1,h2,BitVec.allOnes_xor];rfl
   rw[e1,IntKind.wrap_u32,val_u32];have hb2:=(~~~ x).toNat_lt
   congr 2
   show((~~~ x).toNat:Int)%4294967296=_;omega
  ·split at hr
   ·rename_i x hx;rw[asI_some]at hx;subst hx;exact⟨_,hr,fun w=>rfl⟩
   ·exact hr.elim
 ·exact hr.elim
end
section
variable {P:Program} {τ : Yv} (hτ : Zg P τ)
def Zx{v:SV}{n:Int} (h:Sr v=some n) (w:World):∃k,(asIntOf v.val).run P w = .ok (k,n) w:=by
 obtain⟨k,hk⟩:=Pc h;exact⟨k,by simp[hk,asIntOf]⟩
def E8{P:Program}{f:Value→Ba→Sem (ForInStep Ba)} (hf:∀n s,f (.int .u8 n) s=pure (ForInStep.yield (s.push (UInt8.ofNat n.toNat)))) :
 ∀(bs:List UInt8) (acc:Ba) (w:World),(forIn (m:=Sem) (bs.flatMap Kd.u8.cells) acc f).run P w = .ok ⟨acc.data++bs.toArray⟩ w:=by
 intro bs
 induction bs with
 | nil=>intro acc w;simp
 | cons b bs ih =>
   intro acc w;have h0:Kd.u8.cells b=[.int .u8 (b.toNat:Int)]:=rfl;simp only[List.flatMap_cons,h0,List.cons_append,List.nil_append,List.forIn_cons,hf];simp only[Sem.run_bind,Sem.run_pure,Result.andThen_ok];rw[ih]
   congr 1
   cases acc
   simp[ByteArray.push]
include hτ
def SE{o:Oper}{src dst:Nat}{x:Operand}{e:Operand→Option SV}{a:SV}{h:Ja}{K:SV→Option (Hp)→Prop} (ho:o.op = .convert src dst x) (he:e x=some a)
 (hr:qa τ src dst a h K):Ok P o e h K:=by
 have ex:∀ ρ w,(execOp ρ o).run P w=((convert src dst (ρ x)).run P w).andThen fun v w' => .ok (.value v) w':=by
  intro ρ w;simp[execOp,ho]
 unfold qa at hr;split at hr
 ·exact hr.elim
 rename_i sk hsk
 obtain⟨sti,hst,_,hsn⟩:=Z3 hsk;obtain⟨sd,_,hsd,_,_,_,_,hsx⟩:=(hτ src sti hst hsn).ex;split at hr
 ·rename_i k _ _ hg
  obtain⟨desc,info,g1,g2,g3,g4,g5,g6⟩:=Yl hτ hg rfl
  have num:∀ {v:SV} {kk:IntKind},K v none→(∀(w:World) n k',a.val = .int k' n→(P.underlying dst=some (.int kk)∧v.val = .int kk (kk.wrap n)))→(∃k' n,a.val = .int k' n)→Ok P o e h K:=by
   intro v kk hK hv ⟨k',n,ha⟩;refine Ok.pure v hK fun ρ hρ w =>?_;obtain⟨hu,hv⟩:=hv w n k' ha;rw[ex,hρ x a he,ha];simp only[convert,Sem.run_bind,Jz hsd,Jz hu,Result.andThen_ok]
   cases sd <;> simp[Conv.intToInt,hv]
  split at hr
  ·rename_i y hy;rw[asU8_some]at hy;subst hy
   rcases XL g6 with⟨rfl,hh⟩ | ⟨rfl,hh⟩ | ⟨rfl,hh⟩ | ⟨rfl,hh⟩ | ⟨rfl,hh⟩ <;> simp at hh
   refine num hr (fun w n k' ha=>⟨g1,?_⟩) ⟨_,_,rfl⟩;simp at ha;obtain⟨_,rfl⟩:=ha;have:=y.toNat_lt;simp[wrap_i64];omega
  ·rename_i y hy;rw[asU8_some]at hy;subst hy
   rcases XL g6 with⟨rfl,hh⟩ | ⟨rfl,hh⟩ | ⟨rfl,hh⟩ | ⟨rfl,hh⟩ | ⟨rfl,hh⟩ <;> simp at hh
   refine num hr (fun w n k' ha=>⟨g1,?_⟩) ⟨_,_,rfl⟩;simp at ha;obtain⟨_,rfl⟩:=ha;have:=y.toNat_lt;simp[IntKind.wrap_u32];try omega
  ·rename_i y hy;rw[asU8_some]at hy;subst hy
   rcases XL g6 with⟨rfl,hh⟩ | ⟨rfl,hh⟩ | ⟨rfl,hh⟩ | ⟨rfl,hh⟩ | ⟨rfl,hh⟩ <;> simp at hh
   refine num hr (fun w n k' ha=>⟨g1,?_⟩) ⟨_,_,rfl⟩;simp at ha;obtain⟨_,rfl⟩:=ha;have:=y.toNat_lt;simp[IntKind.wrap_u8];try omega
  ·split at hr
   ·rename_i n hn
    obtain⟨k',hk'⟩:=Pc hn;rcases XL g6 with⟨rfl,rfl⟩ | ⟨rfl,rfl⟩ | ⟨rfl,rfl⟩ | ⟨rfl,rfl⟩ | ⟨rfl,rfl⟩ <;> simp only[ya]at hr
    ·exact num hr (fun w m k'' ha=>⟨g1,by rw[hk']at ha;simp at ha;obtain⟨_,rfl⟩:=ha;rfl⟩) ⟨_,_,hk'⟩
    ·exact num hr (fun w m k'' ha=>⟨g1,by rw[hk']at ha;simp at ha;obtain⟨_,rfl⟩:=ha;simp[Ev]⟩) ⟨_,_,hk'⟩
    ·exact num hr (fun w m k'' ha=>⟨g1,by rw[hk']at ha;simp at ha;obtain⟨_,rfl⟩:=ha;simp[Th]⟩) ⟨_,_,hk'⟩
    ·exact num hr (fun w m k'' ha=>⟨g1,by rw[hk']at ha;simp at ha;obtain⟨_,rfl⟩:=ha;simp[WT]⟩) ⟨_,_,hk'⟩
   ·exact hr.elim
 ·rename_i _ _ _ hg
  obtain⟨desc,info,g1,_,_,_,_,g6⟩:=Yl hτ hg rfl;obtain⟨rfl,_⟩:=Xr g6;split at hr
  ·rename_i y hy;rw[asS_some]at hy;subst hy
   refine Ok.pure _ hr fun ρ hρ w =>?_;rw[ex,hρ x _ he];simp only[convert,Sem.run_bind,Jz hsd,Jz g1,Result.andThen_ok,val_s]
   cases sd <;> simp
  ·split at hr
   ·rename_i s e' _ _ _ hy hel;rw[asSl_some]at hy;subst hy
    rw[hst]at hel;simp at hel;subst hel;obtain⟨rfl,_⟩:=Xv hsx;split at hr
    ·rename_i _ _ hge
     obtain⟨ed,_,hse,_,_,_,_,q6⟩:=Yl hτ hge rfl;rcases XL q6 with⟨rfl,hh⟩ | ⟨rfl,hh⟩ | ⟨rfl,hh⟩ | ⟨rfl,hh⟩ | ⟨rfl,hh⟩ <;> simp at hh
     unfold Gr at hr
     cases s with
     | @mk sa sl sc sw=>
     cases sa with
     | none =>
       obtain⟨h0,hr⟩:=hr;have h0:sl=0:=h0;subst h0;refine Ok.pure _ hr fun ρ hρ w =>?_;rw[ex,hρ x _ he]
       cases sw with
       | mk xv=>cases xv <;> (simp[convert,Jz hsd,Jz g1,Jz hse,Conv.bytesToString,Jn.at];rfl)
     | some l =>
       obtain⟨bs,hbl,hbm,hK⟩:=hr;refine⟨_,_,hK,fun f hf=>by simp at hf;subst hf;exact hbm,fun ρ hρ w hw =>?_⟩;have hbm':=hw _ rfl;rw[ex,hρ x _ he];simp only at hbl;have hb2:=VH (P:=P) (w:=w) hbm';simp only[convert,Sem.run_bind,Jz hsd,Jz g1,Jz hse,Result.andThen_ok,val_sl,Jn.at_mk,Conv.bytesToString];rw[←hbl,hb2];simp only[Result.andThen_ok];simp only[List.forIn_toArray];rw[E8 (fun _ _=>rfl)];have h0:ByteArray.empty.data = #[]:=rfl;simp[h0]
    ·exact hr.elim
   ·exact hr.elim
 ·exact hr.elim
end
def X1{k:Kd} (h:k.scalar=true∨k.agg=true) (x:k.Ty):(k.val x).cells=(k.cells x).toArray:=by
 rcases h with h | h
 ·rw[Kd.val_scalar h]
  have hp:∀z,k.val x ≠ .agg z:=by
   intro z
   cases k <;> simp[Kd.scalar]at h <;> simp[Kd.val,Kd.val0,Kd.cells,one,Jn.val]
   ·unfold Y7;split <;> simp
   ·unfold PG;split <;> simp
  unfold Value.cells;split
  ·rename_i cs hcs;exact absurd hcs (hp _)
  ·rfl
 ·rw[Kd.val_agg h];rfl
def Vv:∀(k:Kd) (x:k.Ty),∀c∈k.cells x,XC c:=by
 intro k
 induction k with
 | pr a b iha ihb=>intro x c hc;simp[Kd.cells]at hc;exact hc.elim (iha _ _) (ihb _ _)
 | ag a ih=>intro x c hc;exact ih x c (by simpa[Kd.cells] using hc)
 | ar n a ih=>intro x c hc;simp[Kd.cells]at hc;obtain⟨y,_,hy⟩:=hc;exact ih y c hy
 | f=>intro x c hc;simp[Kd.cells]at hc;subst hc;unfold Y7;split <;> simp[XC]
 | v=>intro x c hc;simp[Kd.cells]at hc;subst hc;unfold PG;split <;> simp[XC]
 | _=>intro x c hc;simp[Kd.cells]at hc <;> subst hc <;> simp[XC,Jn.val]
def Il(L:List Value) (o:Nat) (xs:List Value):List Value:=L.take o++xs++L.drop (o+xs.length)
def CB(A B xs:List Value) (j:Nat):Il (A++B) (A.length+j) xs=A++Il B j xs:=by
 unfold Il
 have h1:(A++B).take (A.length+j)=A++B.take j:=by
  rw[List.take_append,List.take_of_length_le (by omega)];simp
 have h2:(A++B).drop (A.length+j+xs.length)=B.drop (j+xs.length):=by
  rw[Nat.add_assoc,List.drop_append];simp
 rw[h1,h2];simp
def qq:∀(xs:List Value) (c:Array Value) (o i:Nat),o+i+xs.length≤c.size →
 (xs.zipIdx i).foldl (fun cs (p:Value×Nat)=>cs.setIfInBounds (o+p.2) p.1) c=Xz c (o+i) xs:=by
 intro xs
 induction xs with
 | nil=>intro c o i _;simp[Gp]
 | cons x xs ih =>
   intro c o i h;simp only[List.length_cons]at h;simp only[List.zipIdx_cons,List.foldl_cons];rw[ih _ _ _ (by simp;omega),IR _ _ _ _ (by omega)]
   rfl
def VT{place:Nat→Option (Nat×Nat)}{cells:Array Value}{i off size:Nat}{v:Value}{rest:List (Nat×Value)}{xs:List Value} (hp:place i=some (off,size)) (hv:v.cells=xs.toArray)
 (hs:xs.length=size) (hb:off+xs.length≤cells.size):Instr.fill place cells ((i,v)::rest)=Instr.fill place (Xz cells off xs) rest:=by
 simp only[Instr.fill,hp,hv];have h1:(xs.toArray.size≠size||decide (off+xs.toArray.size>cells.size))=false:=by simp;omega
 simp only[List.size_toArray]at h1 ⊢;have:=qq xs cells off 0 (by omega);simp only[Nat.add_zero]at this;rw[if_neg (by simp;omega)]
 congr 1
 rw[←this,←Array.foldl_toList];simp
section
variable {P:Program} {τ : Yv}
def Rs{α β : Type}{P:Program}{w:World}{g : α → Sem β}{g' : α → β}:∀(l:List α),(∀x∈l,(g x).run P w = .ok (g' x) w)→(l.mapM g).run P w = .ok (l.map g') w:=by
 intro l
 induction l with
 | nil=>intro _;simp
 | cons x l ih =>
   intro h;simp[h x (by simp),ih (fun y hy=>h y (by simp[hy]))]
def vk{fields:List Field}:∀ {fs:List (Nat×Nat)}{off:Nat}{k:Kd},Qf τ fields fs off k=true →
 ∀ (n : Nat) (z : k.Ty) (v : SV) (z' : k.Ty), ju k z n v = some z' → ∃ f ti, fields[n]? = some f ∧ τ.get f.type = some ti ∧ v.1 = ti.kd ∧ off ≤ f.offset ∧ f.offset + ti.kd.size ≤ off + k.size ∧
   k.cells z'=Il (k.cells z) (f.offset-off) (v.1.cells v.2):=by
 induction fields with
 | nil=>intro fs off k h n z v z' hs;cases fs <;> cases k <;> simp[Qf]at h;simp[ju]at hs
 | cons f r ih =>
   intro fs off k h n z v z' hs
   cases fs with
   | nil=>simp[Qf]at h
   | cons p fs =>
     obtain⟨o,t⟩:=p
     cases k <;> simp[Qf]at h
     rename_i k1 k2
     obtain⟨⟨⟨⟨h1,h2⟩,h3⟩,h4⟩,h5⟩:=h;subst h3
     cases hg : τ.get t with
     | none => have : τ.kd t = none := by simp [Yv.kd, hg]
               simp[this]at h4
     | some ti =>
       have h4:ti.kd=k1:=by
        cases hkd : τ.kd t with
        | none=>simp[hkd]at h4
        | some k' =>
          obtain⟨tj,ha,hb,_⟩:=Z3 hkd;rw[hg]at ha;simp at ha;subst ha;rw[hkd]at h4;simp at h4;rw[hb,h4.1]
       subst h4
       cases n with
       | zero =>
         simp only[ju]at hs;split at hs
         ·rename_i y hy
          simp at hs;subst hs;have:=YG hy;subst this;refine⟨f,ti,by simp,by rw[h2,hg],rfl,by omega,by simp[Kd.size];omega,?_⟩;simp only[Kd.cells,Il,h1,Nat.sub_self,List.take_zero,List.nil_append,Nat.zero_add];rw[List.drop_append_of_le_length (by rw[Kd.cells_length,Kd.cells_length];omega)];rw[List.drop_of_length_le (by rw[Kd.cells_length,Kd.cells_length];omega)];simp
         ·simp at hs
       | succ n =>
         simp only[ju]at hs;split at hs
         ·rename_i w hw
          simp at hs;subst hs;obtain⟨f',ti',a1,a2,a3,a4,a5,a6⟩:=ih h5 n z.2 v w hw;refine⟨f',ti',by simpa using a1,a2,a3,by omega,by simp[Kd.size];omega,?_⟩;have e1:f'.offset-o=(ti.kd.cells z.1).length+(f'.offset-(o+ti.kd.size)):=by rw[Kd.cells_length];omega
          rw[e1];simp only[Kd.cells];rw[CB,a6]
         ·simp at hs
def WS(L:List Value) (o:Nat) (xs:List Value):Xz L.toArray o xs=(Il L o xs).toArray:=by simp[Xz,Il]
variable (hτ : Zg P τ)
include hτ
def YM{t:Nat}{ti:TI} (h : τ.get t=some ti) (hd:(match ti.d with | .tup=>true | _=>false)=false):ti.kd.scalar=true∨ti.kd.agg=true:=by
 obtain⟨desc,info,h1,h2,h3,h4,h5,h6⟩:=(hτ t ti h hd).ex;rcases Pm h6 with⟨a,_⟩ | ⟨a,_⟩
 ·exact .inl a
 ·exact .inr a
omit hτ in
theorem SK{k:Kd}{fields:List Field}{fs:List (Nat×Nat)} (hf:Qf τ fields fs 0 k=true){place:Nat→Option (Nat×Nat)} (hsh:∀t ti,τ.get t=some ti→(∃f∈fields,f.type=t)→ti.kd.scalar=true∨ti.kd.agg=true)
 (hp:∀n f ti,fields[n]? = some f → τ.get f.type=some ti→place n=some (f.offset,ti.kd.size)) {e:Operand→Option SV} {ρ : Operand→Value} (hρ : UU e ρ) :
 ∀(ps:List (Nat×Operand)) (z z':k.Ty),SJ k z e ps=some z'→Instr.fill place (k.cells z).toArray (ps.map fun p=>(p.1,ρ p.2))=some (k.cells z').toArray:=by
 intro ps
 induction ps with
 | nil=>intro z z' h;simp[SJ]at h;subst h;simp[Instr.fill]
 | cons p ps ih =>
   obtain⟨n,x⟩:=p;intro z z' h;simp only[SJ]at h;split at h
   ·rename_i v hv
    split at h
    ·rename_i z1 hz1
     obtain⟨f,ti,h1,h2,h3,h4,h5,h6⟩:=vk hf n z v z1 hz1;have hs:=hsh f.type ti h2 ⟨f,List.mem_of_getElem? h1,rfl⟩;obtain⟨kv,xv⟩:=v;simp only at h3 h6;subst h3;simp only[List.map_cons]
     rw[VT (hp n f ti h1 h2) (by rw[hρ x _ hv];exact X1 hs xv) (Kd.cells_length _ _)
      (by simp;rw[Kd.cells_length,Kd.cells_length];omega),WS]
     simp only[Nat.sub_zero]at h6;rw[←h6];exact ih z1 z' h
    ·simp at h
   ·simp at h
omit hτ in
theorem Mw{α : Type}{f : α → List Value}{m:Nat} (hf:∀x,(f x).length=m):∀(l:List α) (n:Nat) (y : α),n<l.length→(l.set n y).flatMap f=Il (l.flatMap f) (n*m) (f y):=by
 intro l
 induction l with
 | nil=>intro n y h;simp at h
 | cons a l ih =>
   intro n y h
   cases n with
   | zero =>
     simp only[List.set_cons_zero,List.flatMap_cons,Nat.zero_mul,Il,List.take_zero,List.nil_append,Nat.zero_add];rw[List.drop_append_of_le_length (by rw[hf,hf];omega),List.drop_of_length_le (by rw[hf,hf];omega)];simp
   | succ n =>
     simp only[List.set_cons_succ,List.flatMap_cons];rw[ih n y (by simpa using h),show(n+1)*m=(f a).length+n*m by rw[hf,Nat.succ_mul,Nat.add_comm],CB]
omit hτ in
theorem Mv{k:Kd} (hs:k.scalar=true∨k.agg=true){e:Operand→Option SV} {ρ : Operand→Value} (hρ : UU e ρ) :
 ∀ (ps : List (Nat × Operand)) (z z' : List k.Ty), It k e ps z = some z' → z'.length = z.length ∧
   Instr.fill (fun i=>some (i*k.size,k.size)) (z.flatMap k.cells).toArray (ps.map fun p=>(p.1,ρ p.2))=some (z'.flatMap k.cells).toArray:=by
 intro ps
 induction ps with
 | nil=>intro z z' h;simp[It]at h;subst h;simp[Instr.fill]
 | cons p ps ih =>
   obtain⟨n,x⟩:=p;intro z z' h;simp only[It]at h;split at h
   ·rename_i v hv
    split at h
    ·rename_i y hy
     have:=YG hy;subst this;split at h
     ·rename_i hb
      have hlt:n<z.length:=by simpa using hb
      obtain⟨h1,h2⟩:=ih _ _ h;refine⟨by simpa using h1,?_⟩;simp only[List.map_cons]
      rw[VT (off:=n*k.size) (size:=k.size) rfl (by rw[hρ x _ hv];exact X1 hs y) (Kd.cells_length _ _)
       (by
        simp only[List.size_toArray,Kd.cells_length]
        have:(z.flatMap k.cells).length=z.length*k.size:=by
         rw[List.length_flatMap]
         have:(z.map fun y=>(k.cells y).length)=List.replicate z.length k.size:=by
          rw[List.eq_replicate_iff];exact⟨by simp,fun b hb=>by obtain⟨y,_,rfl⟩:=List.mem_map.1 hb;exact Kd.cells_length _ _⟩
         rw[this];simp
        rw[this,←Nat.succ_mul];exact Nat.mul_le_mul_right _ hlt),WS]
      rw[←Mw (fun x=>Kd.cells_length k x) z n y hlt];exact h2
     ·simp at h
    ·simp at h
   ·simp at h
omit hτ in
theorem yU{k:Kd}{m:Nat}{e:Operand→Option SV}:∀(ps:List (Nat×Operand)) (z z':Vector k.Ty m),SL k m e ps z=some z'→It k e ps z.toList=some z'.toList:=by
 intro ps
 induction ps with
 | nil=>intro z z' h;simp[SL]at h;subst h;simp[It]
 | cons p ps ih =>
   obtain⟨n,x⟩:=p;intro z z' h;simp only[SL]at h;split at h
   ·rename_i v hv
    split at h
    ·rename_i y hy
     split at h
     ·rename_i hb
      have:=ih _ _ h;have hb':n<m:=by simpa using hb
      simp only[It,hv,hy];have hz:Nat.blt n z.toList.length=true:=by simpa using hb'
      rw[hz];simpa[Vector.toList_setIfInBounds] using this
     ·simp at h
    ·simp at h
   ·simp at h
def Tr{o:Oper}{T:Nat}{ps:Array (Nat×Operand)}{e:Operand→Option SV}{h:Ja}{K:SV→Option (Hp)→Prop} (ho:o.op = .build T ps)
 (hr:EH τ T e ps.toList fun v=>K v none):Ok P o e h K:=by
 have ex:∀ ρ w,(execOp ρ o).run P w=((Instr.build T (ps.map fun(i,x)=>(i,ρ x))).run P w).andThen fun v w' => .ok (.value v) w':=by
  intro ρ w;simp[execOp,ho]
 unfold EH at hr;split at hr
 ·rename_i fs k by_ pl hg
  obtain⟨desc,info,g1,g2,g3,g4,g5,g6⟩:=Yl hτ hg rfl;obtain⟨fields,k',rfl,hk,h6⟩:=XI g6;simp at hk;subst hk;split at hr
  ·rename_i z hz
   refine Ok.pure _ hr fun ρ hρ w =>?_;rw[ex];obtain⟨_,hfm⟩:=Pu h6
   have hmap:(fields.mapM (m:=Sem) fun(f:Field)=>do pure (f.offset,←sizeOf f.type)).run P w = .ok (fields.map fun(f:Field)=>(f.offset,((P.info? f.type).map (·.size)).getD 0)) w:=by
    rw[Array.mapM_eq_mapM_toList,Sem.run_map];rw[Rs (g':=fun(f:Field)=>(f.offset,((P.info? f.type).map (·.size)).getD 0))]
    ·simp only[Result.andThen_ok];congr 1;apply Array.toList_inj.1;simp
    ·intro f hf;obtain⟨ti,a,b,c⟩:=hfm f hf;obtain⟨_,info',_,i2,_⟩:=(hτ _ ti a c).ex;simp[Qy i2,i2]
   have hfill:=SK (τ := τ) h6 (place:=fun i=>(fields.map fun f=>(f.offset,((P.info? f.type).map (·.size)).getD 0))[i]?)
    (fun t ti a ⟨f,hf,hft⟩=>by
     obtain⟨tj,a',b,c⟩:=hfm f hf;rw[hft,a]at a';simp at a';subst a';exact YM hτ a c)
    (fun n f ti a b=>by
     obtain⟨tj,a',b',c⟩:=hfm f (List.mem_of_getElem? a);rw[b]at a';simp at a';subst a';obtain⟨_,info',_,i2,i3,_⟩:=(hτ _ ti b c).ex;have ha:fields[n]? = some f:=by simpa using a
     simp[ha,i2,i3]) hρ ps.toList k.zero z hz
   simp only[Instr.build,Sem.run_bind,Yz g2 g5,Jz g1,Result.andThen_ok,hmap,Kd.val,Kd.val0,Value.cells,Array.toList_map]
   erw [hfill]
   simp[SV.val,Kd.val,Kd.val0]
  ·exact hr.elim
 ·rename_i e' m k by_ pl hg
  obtain⟨desc,info,g1,g2,g3,g4,g5,g6⟩:=Yl hτ hg rfl;obtain⟨rfl,ti,hti,hk,hnt⟩:=Xc g6;simp at hk;obtain⟨rfl,rfl⟩:=hk;split at hr
  ·rename_i z hz
   refine Ok.pure _ hr fun ρ hρ w =>?_;rw[ex];obtain⟨_,info',_,i2,i3,_⟩:=(hτ _ ti hti hnt).ex;have:=Mv (YM hτ hti hnt) hρ ps.toList _ _ (yU _ _ _ hz);simp only[Instr.build,Sem.run_bind,Yz g2 g5,Jz g1,Result.andThen_ok,Qy i2,i3,Kd.val,Kd.val0,Value.cells,Array.toList_map,Kd.cells];have h2:=this.2
   erw [h2]
   simp[SV.val,Kd.val,Kd.val0,Kd.cells]
  ·exact hr.elim
 ·exact hr.elim
end
section
variable {P:Program} {τ : Yv} (hτ : Zg P τ)
def wn{s:Jn}{l n d sz:Nat}{c c':Prop} [Decidable c] [Decidable c'] (hc:c↔c'):(if c then s.at else Option.map (fun x=>x.add (l*sz)) s.at)=(@Jn.mk (if c then s.a else s.a.map fun q=>⟨q.b,q.o+l*sz⟩) n d (match s.a with | some _=>⟨none⟩ | none=>if c' then s.wd else⟨s.wd.v.map fun a=>a.add (l*sz)⟩)).at:=by
 cases s with
 | @mk sa sl sc sw =>
   by_cases h:c
   ·have h':=hc.1 h;simp only[if_pos h]
    cases sa with
    | none=>show sw.v=(if c' then sw else(_:Wd)).v;rw[if_pos h']
    | some q=>rfl
   ·have h':=fun x=>h (hc.2 x);simp only[if_neg h]
    cases sa with
    | none=>show Option.map (fun a:Addr=>a.add (l*sz)) sw.v=(if c' then sw else(_:Wd)).v;rw[if_neg h'];rfl
    | some q =>
      show Option.map _ (some q.addr)=some _;rw[Option.map_some,addr_add]
def Ir{e:Operand→Option SV}{d n:Int} (h:Ew e none d=some n):n=d:=by
 simp[Ew]at h;exact h.symm
def VS{e:Operand→Option SV} {ρ : Operand→Value} (hρ : UU e ρ){x:Operand}{d n:Int} (h:Ew e (some x) d=some n) (w:World) :
 ∃k,(asIntOf (ρ x)).run P w = .ok (k,n) w:=by
 simp only[Ew]at h;split at h
 ·rename_i v hv
  rw[hρ x v hv];exact Zx h w
 ·simp at h
def Yj{v:Value}{k:IntKind}{n:Int}{y:Nat}{c:BoundsCode}{w:World} (h:(asIntOf v).run P w = .ok (k,n) w) (h0:0≤n) (h1:n≤y) :
 (Instr.sliceBound v y c).run P w = .ok n.toNat w:=by
 simp[Instr.sliceBound,h,h0,h1]
def Ih{e:Operand→Option SV} {ρ : Operand→Value} (hρ : UU e ρ){lo hi:Option Operand}{isS:Bool}{len cap:Nat}{l h:Int} (hl:Ew e lo 0=some l) (hh:Ew e hi len=some h)
 (h0:0≤l) (h1:l≤h) (h2:h≤cap) (w:World):(Instr.sliceBounds isS len cap (lo.map ρ) (hi.map ρ) none).run P w = .ok (l.toNat,h.toNat,cap) w:=by
 unfold Instr.sliceBounds
 cases hi with
 | none =>
   obtain rfl:=Ir hh
   cases lo with
   | none=>obtain rfl:=Ir hl;simp
   | some x =>
     obtain⟨k,hk⟩:=VS (P:=P) hρ hl w;simp[Yj hk h0 h1]
 | some y =>
   obtain⟨k',hk'⟩:=VS (P:=P) hρ hh w;have e1:=fun c=>Yj (c:=c) hk' (by omega) h2
   cases lo with
   | none=>obtain rfl:=Ir hl;simp[e1]
   | some x =>
     obtain⟨k,hk⟩:=VS (P:=P) hρ hl w;have e2:=fun c=>Yj (c:=c) (y:=h.toNat) hk h0 (by omega);simp[e1,e2]
def Ei{e:Operand→Option SV} {ρ : Operand→Value} (hρ : UU e ρ){lo:Option Operand}{y z:Operand}{isS:Bool}{len cap:Nat}{l h m:Int}{d:Int} (hl:Ew e lo 0=some l) (hh:Ew e (some y) d=some h)
 (hm:Ew e (some z) d=some m) (h0:0≤l) (h1:l≤h) (h2:h≤m) (h3:m≤cap) (w:World):(Instr.sliceBounds isS len cap (lo.map ρ) (some (ρ y)) (some (ρ z))).run P w = .ok (l.toNat,h.toNat,m.toNat) w:=by
 unfold Instr.sliceBounds;obtain⟨k',hk'⟩:=VS (P:=P) hρ hh w;obtain⟨k'',hk''⟩:=VS (P:=P) hρ hm w;have e1:=fun c=>Yj (c:=c) (y:=m.toNat) hk' (by omega) (by omega);have e3:=fun c=>Yj (c:=c) hk'' (by omega) h3
 cases lo with
 | none=>obtain rfl:=Ir hl;simp[e1,e3]
 | some x =>
   obtain⟨k,hk⟩:=VS (P:=P) hρ hl w;have e2:=fun c=>Yj (c:=c) (y:=h.toNat) hk h0 (by omega);simp[e1,e2,e3]
def C2:∀ {k:Kd}{z:k.Ty}{n:Nat}{v:SV},PD k z n=some v→(Kd.vals k z)[n]? = some (Kd.val0 v.1 v.2):=by
 intro k
 induction k with
 | pr x y ihx ihy =>
   intro z n v h
   cases n with
   | zero=>simp[PD]at h;subst h;simp[Kd.vals]
   | succ n=>simp[PD]at h;simpa[Kd.vals] using ihy h
 | _=>intro z n v h;simp[PD]at h
def Ve{k:Kd} (h:Vt k=true) (x:k.Ty):Kd.val0 k x=k.val x:=by
 cases k <;> simp[Vt]at h <;> simp[Kd.val]
def EZ{fields:List Field}:∀ {fs:List (Nat×Nat)}{off:Nat}{k:Kd},Qf τ fields fs off k=true→∀ {z:k.Ty}{n:Nat}{v:SV},PD k z n=some v →
 ∃ f ti z', fields[n]? = some f ∧ τ.get f.type = some ti ∧ (match ti.d with | .tup => true | _ => false) = false ∧ v = ⟨ti.kd, z'⟩ ∧
   off≤f.offset∧((k.cells z).drop (f.offset-off)).take ti.kd.size=ti.kd.cells z':=by
 induction fields with
 | nil=>intro fs off k h;cases fs <;> cases k <;> simp[Qf]at h;intro z n v hv;simp[PD]at hv
 | cons f r ih =>
   intro fs off k h z n v hv
   cases fs with
   | nil=>simp[Qf]at h
   | cons q fs =>
     obtain⟨o,t⟩:=q
     cases k with
     | pr k1 k2 =>
       simp[Qf]at h;obtain⟨h1,h2⟩:=h
       cases hkd : τ.kd t with
       | none=>simp[hkd]at h1
       | some k' =>
         rw[hkd]at h1;simp at h1;obtain⟨⟨⟨a1,a2⟩,a3⟩,a4,a5⟩:=h1;obtain⟨ti,b1,b2,b3⟩:=Z3 hkd;subst a4;subst a3;subst b2
         cases n with
         | zero =>
           simp[PD]at hv;subst hv;refine⟨f,ti,z.1,by simp,by rw[a2];exact b1,b3,rfl,by omega,?_⟩;simp[a1,Kd.cells,List.take_append_of_le_length,Kd.cells_length]
         | succ n =>
           simp[PD]at hv;obtain⟨g,tj,z',c1,c2,c3,c4,c5,c6⟩:=ih h2 hv;refine⟨g,tj,z',by simpa using c1,c2,c3,c4,by omega,?_⟩;simp only[Kd.cells];rw[←c6,show g.offset-o=(ti.kd.cells z.1).length+(g.offset-(o+ti.kd.size)) by rw[Kd.cells_length];omega,List.drop_append,List.drop_eq_nil_of_le (by omega)];simp
     | _=>simp[Qf]at h
def jc{fields:List Field}:∀ {fs:List (Nat×Nat)}{off:Nat}{k:Kd},Qf τ fields fs off k=true→∀ {n:Nat}{p:Nat×Nat},vM fs n=some p →
 ∃f ti,fields[n]? = some f∧f.offset=p.1∧f.type=p.2 ∧ τ.get f.type=some ti∧0<ti.kd.size∧(match ti.d with | .tup=>true | _=>false)=false:=by
 induction fields with
 | nil=>intro fs off k h;cases fs <;> cases k <;> simp[Qf]at h;intro n p hv;simp[vM]at hv
 | cons f r ih =>
   intro fs off k h n p hv
   cases fs with
   | nil=>simp[Qf]at h
   | cons q fs =>
     obtain⟨o,t⟩:=q
     cases k with
     | pr k1 k2 =>
       have hm:=(Pu h).2;simp[Qf]at h
       cases n with
       | zero =>
         simp[vM]at hv;subst hv;obtain⟨ti,c1,c2,c3⟩:=hm f (by simp);exact⟨f,ti,by simp,h.1.1.1.1,h.1.1.1.2,c1,c2,c3⟩
       | succ n =>
         simp[vM]at hv;obtain⟨g,tj,c⟩:=ih h.2 hv;exact⟨g,tj,by simpa using c⟩
     | _=>simp[Qf]at h
def C1{α : Type}{l:List α}{i:Nat}{d x : α} (h:l[i]? = some x):l.getD i d=x:=by simp[h]
def IJ{s:Sem Value}{w:World}{v:Value} (h:s.run P w = .ok v w):(do pure (Next.value (←s)):Sem Next).run P w = .ok (.value v) w:=by simp[h]
include hτ
def T6{o:Oper}{T:Nat}{x:Operand}{lo hi mx:Option Operand}{a:SV}{e:Operand→Option SV}{h:Ja}{K:SV→Option (Hp)→Prop} (ho:o.op = .slice T x lo hi mx) (he:e x=some a)
 (hr:DA τ T a e lo hi mx fun v=>K v none):Ok P o e h K:=by
 have ex:∀ ρ w,(execOp ρ o).run P w=((Instr.sliceAt T (ρ x) (lo.map ρ) (hi.map ρ) (mx.map ρ)).run P w).andThen fun v w' => .ok (.value v) w':=by
  intro ρ w;simp[execOp,ho]
 unfold DA at hr;split at hr
 ·rename_i k by_ pl hg
  obtain⟨desc,info,g1,g2,g3,g4,g5,g6⟩:=Yl hτ hg rfl;obtain⟨rfl,rfl⟩:=Xr g6;split at hr
  ·rename_i s hs
   rw[asS_some]at hs;subst hs;split at hr
   ·rename_i l hh hl hh'
    obtain⟨h0,h1,h2,hK⟩:=hr;refine Ok.pure _ hK fun ρ hρ w =>?_;rw[ex,hρ x _ he];have hb:=Ih (P:=P) hρ (isS:=false) (cap:=s.size) hl hh' h0 h1 h2 w;simp[Instr.sliceAt,Instr.slice,Jz g1,hb]
   ·exact hr.elim
  ·exact hr.elim
 ·rename_i e0 k by_ pl hg
  obtain⟨desc,info,g1,g2,g3,g4,g5,g6⟩:=Yl hτ hg rfl;obtain⟨rfl,rfl⟩:=Xv g6;split at hr
  ·rename_i s e1 ti hs hel
   rw[asSl_some]at hs;subst hs;obtain⟨tj,t1,t2,t3,t4⟩:=U5 hel
   have:e0=e1:=by
    rw[hg]at t1;simp at t1;subst t1;simpa using t3
   subst this;obtain⟨_,info',_,i2,i3,_⟩:=(hτ _ ti t2 t4).ex;split at hr
   ·rename_i l hh hl hh'
    obtain⟨h0,h1,h2,h3,hK⟩:=hr;refine Ok.pure _ hK fun ρ hρ w =>?_;rw[ex,hρ x _ he];have hb:=Ih (P:=P) hρ (isS:=true) (cap:=s.cap) hl hh' h0 h1 (by omega) w;simp[Instr.sliceAt,Instr.slice,Jz g1,hb,Qy i2,i3];exact wn (by simp)
   ·rename_i l hh m hl hh'
    split at hr
    ·rename_i y v hhi hv
     split at hr
     ·rename_i n hn
      obtain⟨h0,h1,h2,h3,hK⟩:=hr;refine Ok.pure _ hK fun ρ hρ w =>?_;rw[ex,hρ x _ he];have hb:=Ei (P:=P) hρ (isS:=true) (len:=s.len) (cap:=s.cap) (z:=m) (d:=0) hl hh' (m:=n) (by simp[Ew,hv,hn]) h0 h1 h2 h3 w;simp[Instr.sliceAt,Instr.slice,Jz g1,hb,Qy i2,i3];exact wn (by simp)
     ·exact hr.elim
    ·exact hr.elim
   ·exact hr.elim
  ·exact hr.elim
 ·rename_i n e0 k by_ pl hg
  obtain⟨desc,info,g1,g2,g3,g4,g5,g6⟩:=Yl hτ hg rfl;obtain⟨rfl,_⟩:=Xc g6;split at hr
  ·rename_i l e1 ti hs hel
   rw[asP_some]at hs;subst hs;obtain⟨tj,t1,t2,t3,t4⟩:=U5 hel
   have:e0=e1:=by
    rw[hg]at t1;simp at t1;subst t1;simpa using t3
   subst this;obtain⟨_,info',_,i2,i3,_⟩:=(hτ _ ti t2 t4).ex;split at hr
   ·rename_i xl yl hl hh'
    obtain⟨h0,h1,h2,hK⟩:=hr;refine Ok.pure _ hK fun ρ hρ w =>?_;rw[ex,hρ x _ he];have hb:=Ih (P:=P) hρ (isS:=false) (cap:=n) hl hh' h0 h1 h2 w;simp[Instr.sliceAt,Instr.sureAddr,Jz g1,hb,Qy i2,i3];split <;> simp_all
   ·exact hr.elim
  ·exact hr.elim
 ·exact hr.elim
def I5{o:Oper}{T:Nat}{x:Operand}{n:Nat}{a:SV}{e:Operand→Option SV}{h:Ja}{K:SV→Option (Hp)→Prop} (ho:o.op = .fieldAddr T x n) (he:e x=some a)
 (hr:G6 τ T a n fun v=>K v none):Ok P o e h K:=by
 unfold G6 at hr;split at hr
 ·rename_i off t hf
  split at hr
  ·rename_i l hl
   rw[asP_some]at hl;subst hl;unfold Yv.field at hf;split at hf
   ·rename_i fs k by_ pl hg
    obtain⟨desc,info,g1,g2,g3,g4,g5,g6⟩:=Yl hτ hg rfl;obtain⟨fields,k',rfl,_,h6⟩:=XI g6;obtain⟨f,ti,c1,c2,c3,c4,c5,c6⟩:=jc h6 hf;obtain⟨_,info',_,i2,i3,_⟩:=(hτ _ ti c4 c6).ex;have c1':fields[n]? = some f:=by simpa using c1
    refine Ok.pure _ hr fun ρ hρ w =>?_;have:=hρ x _ he;have hz:¬ti.kd.size=0:=by omega
    simp at c2;simp[execOp,ho,this,Instr.fieldAt,Instr.sureAddr,Jz g1,c1',fieldPlace,Qy i2,i3,hz,c2]
   ·simp at hf
  ·exact hr.elim
 ·exact hr.elim
def Dw{o:Oper}{T:Nat}{x:Operand}{a:SV}{e:Operand→Option SV}{h:Ja}{K:SV→Option (Hp)→Prop} (ho:o.op = .sliceToArrayPointer T x) (he:e x=some a)
 (hr:vw τ T a fun v=>K v none):Ok P o e h K:=by
 unfold vw at hr;split at hr
 ·rename_i n e0 k by_ pl hg
  obtain⟨desc,info,g1,g2,g3,g4,g5,g6⟩:=Yl hτ hg rfl;obtain⟨rfl,_⟩:=Xc g6;split at hr
  ·rename_i s hs
   rw[asSl_some]at hs;subst hs;obtain⟨h0,l,hl,hK⟩:=hr;refine Ok.pure _ hK fun ρ hρ w =>?_;have:=hρ x _ he;simp[execOp,ho,this,Instr.arrayAt,Jz g1,Jn.at_some hl,Nat.not_lt.2 h0]
  ·exact hr.elim
 ·exact hr.elim
def Tz{o:Oper}{T:Nat}{x:Operand}{n:Nat}{a:SV}{e:Operand→Option SV}{h:Ja}{K:SV→Option (Hp)→Prop} (ho:o.op = .field T x n) (he:e x=some a)
 (hr:EX τ T a n fun v=>K v none):Ok P o e h K:=by
 unfold EX at hr;split at hr
 ·rename_i fs k by_ pl hg
  obtain⟨desc,info,g1,g2,g3,g4,g5,g6⟩:=Yl hτ hg rfl;obtain⟨fields,k',rfl,hk,h6⟩:=XI g6;simp at hk;subst hk;split at hr
  ·rename_i z hz
   have:=YG hz;subst this;split at hr
   ·rename_i v hv
    obtain⟨f,ti,z',c1,c2,c3,rfl,c5,c6⟩:=EZ h6 hv;refine Ok.pure _ hr fun ρ hρ w =>?_;have c1':fields[n]? = some f:=by simpa using c1
    have hp:=Wn hτ c2 c3 (cs:=(k.cells z).toArray) (off:=f.offset) (z:=z') (by simpa using c6) w;simp[execOp,ho,hρ x _ he,Instr.field,Jz g1,c1',asAgg,hp]
    rfl
   ·exact hr.elim
  ·exact hr.elim
 ·exact hr.elim
def Ma{o:Oper}{T:Nat}{x y:Operand}{n:Int}{a b:SV}{e:Operand→Option SV}{h:Ja}{K:SV→Option (Hp)→Prop} (ho:o.op = .indexAddr T x y) (he:e x=some a) (hy:e y=some b) (hb:Sr b=some n)
 (hr:G8 τ T a n fun v=>K v none):Ok P o e h K:=by
 unfold G8 at hr;split at hr
 ·rename_i e0 k by_ pl hg
  obtain⟨desc,info,g1,g2,g3,g4,g5,g6⟩:=Yl hτ hg rfl;obtain⟨rfl,rfl⟩:=Xv g6;split at hr
  ·rename_i s e1 ti hs hel
   rw[asSl_some]at hs;subst hs;obtain⟨tj,t1,t2,t3,t4⟩:=U5 hel
   have:e0=e1:=by
    rw[hg]at t1;simp at t1;subst t1;simpa using t3
   subst this;obtain⟨_,info',_,i2,i3,_⟩:=(hτ _ ti t2 t4).ex;obtain⟨l,hl,h0,h1,hK⟩:=hr;refine Ok.pure _ hK fun ρ hρ w =>?_;obtain⟨k',hk'⟩:=Zx (P:=P) hb w;simp[execOp,ho,hρ x _ he,hρ y _ hy,Instr.indexAt,hk',Jz g1,Jn.at_some hl,h0,h1,Qy i2,i3]
  ·exact hr.elim
 ·rename_i m e0 k by_ pl hg
  obtain⟨desc,info,g1,g2,g3,g4,g5,g6⟩:=Yl hτ hg rfl;obtain⟨rfl,_⟩:=Xc g6;split at hr
  ·rename_i l e1 ti hs hel
   rw[asP_some]at hs;subst hs;obtain⟨tj,t1,t2,t3,t4⟩:=U5 hel
   have:e0=e1:=by
    rw[hg]at t1;simp at t1;subst t1;simpa using t3
   subst this;obtain⟨_,info',_,i2,i3,_⟩:=(hτ _ ti t2 t4).ex;obtain⟨h0,h1,hK⟩:=hr;refine Ok.pure _ hK fun ρ hρ w =>?_;obtain⟨k',hk'⟩:=Zx (P:=P) hb w;simp[execOp,ho,hρ x _ he,hρ y _ hy,Instr.indexAt,hk',Jz g1,Instr.sureAddr,h0,h1,Qy i2,i3]
  ·exact hr.elim
 ·exact hr.elim
def TE{o:Oper}{T:Nat}{x y:Operand}{n:Int}{a b:SV}{e:Operand→Option SV}{h:Ja}{K:SV→Option (Hp)→Prop} (ho:o.op = .index T x y) (he:e x=some a) (hy:e y=some b) (hb:Sr b=some n)
 (hr:E0 τ T a n fun v=>K v none):Ok P o e h K:=by
 unfold E0 at hr;split at hr
 ·rename_i k by_ pl hg
  obtain⟨desc,info,g1,g2,g3,g4,g5,g6⟩:=Yl hτ hg rfl;obtain⟨rfl,rfl⟩:=Xr g6;split at hr
  ·rename_i s hs
   rw[asS_some]at hs;subst hs;obtain⟨h0,h1,hK⟩:=hr;refine Ok.pure _ hK fun ρ hρ w =>?_;obtain⟨k',hk'⟩:=Zx (P:=P) hb w;have hn:n.toNat<s.size:=by omega
   have hq:s[n.toNat]? = some (gw s n):=by
    rw[getElem?_pos s n.toNat hn];simp only[gw]
    congr 1
    rw[C1 (x:=s[n.toNat])];have:n.toNat<s.data.size:=hn;rw[Array.getElem?_toList,Array.getElem?_eq_getElem this]
    rfl
   simp[execOp,ho,hρ x _ he,hρ y _ hy,Instr.index,hk',Jz g1,h0,hq]
  ·exact hr.elim
 ·rename_i m' e0 m k by_ pl hg
  obtain⟨desc,info,g1,g2,g3,g4,g5,g6⟩:=Yl hτ hg rfl;obtain⟨rfl,ti,t1,t2,t3⟩:=Xc g6;simp at t2;obtain⟨rfl,rfl⟩:=t2;split at hr
  ·rename_i z hz
   have:=YG hz;subst this;obtain⟨h0,h1,hK⟩:=hr;refine Ok.pure _ hK fun ρ hρ w =>?_;obtain⟨k',hk'⟩:=Zx (P:=P) hb w;obtain⟨_,info',_,i2,i3,_⟩:=(hτ _ ti t1 t3).ex;have hn:n.toNat<m:=by omega
   have hp:=Wn hτ t1 t3 (cs:=((Kd.ar m ti.kd).cells z).toArray) (off:=n.toNat*ti.kd.size) (z:=z.toList.getD n.toNat ti.kd.zero) (by
    have hlen:n.toNat<z.toList.length:=by simpa using hn
    simp only[Kd.cells]
    have:∀(L:List ti.kd.Ty) (i:Nat),i<L.length→((L.flatMap ti.kd.cells).drop (i*ti.kd.size)).take ti.kd.size=ti.kd.cells (L.getD i ti.kd.zero):=by
     intro L
     induction L with
     | nil=>intro i hi;simp at hi
     | cons x L ih =>
       intro i hi
       cases i with
       | zero =>
         simp[List.take_append_of_le_length,Kd.cells_length]
       | succ i =>
         have:=ih i (by simpa using hi);rw[show(i+1)*ti.kd.size=(ti.kd.cells x).length+i*ti.kd.size by rw[Kd.cells_length,Nat.succ_mul,Nat.add_comm]];rw[List.flatMap_cons,List.drop_append,List.drop_eq_nil_of_le (by omega)];simpa using this
    simpa using this z.toList n.toNat hlen) w
   simp[execOp,ho,hρ x _ he,hρ y _ hy,Instr.index,hk',Jz g1,h0,h1,Qy i2,i3];rw[hp];simp[SV.val,hn]
  ·exact hr.elim
 ·exact hr.elim
omit hτ in
theorem Pt{o:Oper}{x:Operand}{n:Nat}{a:SV}{e:Operand→Option SV}{h:Ja}{K:SV→Option (Hp)→Prop} (ho:o.op = .extract x n) (he:e x=some a)
 (hr:Ps a n fun v=>K v none):Ok P o e h K:=by
 unfold Ps at hr;split at hr
 ·rename_i k z
  split at hr
  ·rename_i v hv
   split at hr
   ·rename_i hn
    refine Ok.pure _ hr fun ρ hρ w =>?_;have hq:=C2 hv;have hq':(Kd.vals k z).toArray[n]? = some (Kd.val0 v.1 v.2):=by simpa using hq
    simp[execOp,ho,hρ x _ he,Instr.extract,hq,SV.val,Kd.val,Ve hn]
   ·exact hr.elim
  ·exact hr.elim
 ·exact hr.elim
def MF{t:Nat}{ti:TI} (h : τ.get t=some ti) (hd:(match ti.d with | .tup=>true | _=>false)=false){l:Pl}{z:ti.kd.Ty}{w:World}
 (hz:sm ti.kd l z w.heap):(loadVar t l.addr).run P w = .ok (ti.kd.val z) w:=by
 obtain⟨desc,info,h1,h2,h3,h4,h5,h6⟩:=(hτ t ti h hd).ex;obtain⟨ha,hk⟩:=R5 hτ h hd w;simp only[loadVar,Sem.run_bind,ha,Result.andThen_ok];rcases hk with hk | hk
 ·simp only[hk,if_true,Sem.run_bind,Qy h2,Result.andThen_ok,Sem.run_pure,h3];rw[VH hz];simp[Kd.val_agg hk]
 ·have:ti.kd.agg=false:=by cases hq:ti.kd <;> simp_all [Kd.scalar,Kd.agg]
  have hs:ti.kd.size=1:=by cases hq:ti.kd <;> simp_all [Kd.scalar,Kd.size]
  rw[this];unfold sm at hz;rw[hs,Kd.val_scalar hk]at hz;simp[Rr hz]
def SX{o:Oper}{T:Nat}{x:Operand}{a:SV}{e:Operand→Option SV}{h:Ja}{K:SV→Option (Hp)→Prop} (ho:o.op = .load T x) (he:e x=some a)
 (hr:qG τ T a h K):Ok P o e h K:=by
 unfold qG at hr;split at hr
 ·rename_i k hk
  obtain⟨ti,b1,rfl,b3⟩:=Z3 hk;split at hr
  ·rename_i l hl
   rw[asP_some]at hl;subst hl;obtain⟨z,hz,hK⟩:=hr;refine⟨_,_,hK,fun f hf=>by simp at hf;subst hf;exact hz,fun ρ hρ w hw =>?_⟩;have:=MF hτ b1 b3 (hw _ rfl);simp[execOp,ho,hρ x _ he,Instr.loadAt,Instr.sureAddr,this]
   rfl
  ·exact hr.elim
 ·exact hr.elim
def SI{o:Oper}{T:Nat}{x:Operand}{a:SV}{e:Operand→Option SV}{h:Ja}{K:SV→Option (Hp)→Prop} (ho:o.op = .makeInterface T x) (he:e x=some a)
 (hr:qm τ T a fun v=>K v none):Ok P o e h K:=by
 unfold qm at hr;split at hr
 ·exact hr.elim
 ·exact hr.elim
 ·exact hr.elim
 ·rename_i n1 n2 n3
  cases hg : τ.get T with
  | none=>exact(n3 hg).elim
  | some ti =>
    obtain⟨d,k,by_,pl⟩:=ti
    have hd:(match d with | .tup=>true | _=>false)=false:=by
     cases d <;> first | rfl | exact(n2 _ _ _ hg).elim
    obtain⟨desc,info,g1,g2,g3,g4,g5,g6⟩:=Yl hτ hg hd
    have hni:∀ms,desc ≠ .interface ms:=by
     intro ms hm;subst hm;unfold Xq at g6
     cases d <;> first | exact n1 _ _ _ hg | (simp at g6;done) | (split at g6 <;> simp_all)
    refine Ok.pure _ hr fun ρ hρ w =>?_;simp[execOp,ho,hρ x _ he,Instr.makeInterface,Jz g1]
    cases desc <;> simp[PG] <;> exact(hni _ rfl).elim
end
section
variable {P:Program} {τ : Yv} (hτ : Zg P τ)
include hτ
def jI(P:Program) (ti:TI) (t d:Nat):Prop:=∀(b:Bool) (x:ti.kd.Ty) (w:World),(Instr.checkKey b d t (ti.kd.val x)).run P w = .ok () w
def yE{e:Nat}{ti:TI}{i:TypeInfo} (hin:P.info? e=some i) (hti : τ.get e=some ti) (hd:(match ti.d with | .tup=>true | _=>false)=false) (hi:i.size=ti.kd.size){d:Nat}{xs:Array Value}{b:Bool} (he:jI P ti e d) :
 ∀(m s:Nat) (x:List ti.kd.Ty) (w:World),x.length=m→(xs.toList.drop (s*i.size)).take (m*ti.kd.size)=x.flatMap ti.kd.cells →
 (forIn (m:=Sem) (List.range' s m) PUnit.unit fun(i_1:Nat) __s=>do
  let __do_lift ←sizeOf e
  let __do_lift ←part e xs (i_1*__do_lift)
  (fun a=>ForInStep.yield PUnit.unit) <$> Instr.checkKey b d e __do_lift).run P w = .ok PUnit.unit w:=by
 intro m
 induction m with
 | zero=>intro s x w hx _;simp
 | succ m ih =>
   intro s x w hx h1
   cases x with
   | nil=>simp at hx
   | cons a x =>
     simp at hx;simp only[List.flatMap_cons]at h1;rw[show(m+1)*ti.kd.size=ti.kd.size+m*ti.kd.size by rw[Nat.succ_mul,Nat.add_comm]]at h1;obtain⟨hx1,hx2⟩:=Wc h1 (Kd.cells_length _ _);have ex:=Wn hτ hti hd hx1 w;rw[List.range'_succ];simp only[List.forIn_cons,Sem.run_bind,Qy hin,ex,Result.andThen_ok,Sem.run_map];rw[he];simp only[Result.andThen_ok,Sem.run_pure];have hs:s*i.size+ti.kd.size=(s+1)*i.size:=by rw[hi,Nat.succ_mul]
     exact ih (s+1) x w hx (by rw[←hs];simpa[List.drop_drop] using hx2)
def EY{d:Nat}{xs:Array Value}{b:Bool}:∀(fields:List Field) (fs:List (Nat×Nat)) (off:Nat) (k:Kd) (x:k.Ty) (w:World),Qf τ fields fs off k=true →
 (∀p∈fs,∃ti,τ.get p.2=some ti∧(match ti.d with | .tup=>true | _=>false)=false∧(ti.kd.dep<k.dep+1→jI P ti p.2 d)) →
 (xs.toList.drop off).take k.size=k.cells x →
 (forIn (m:=Sem) fields PUnit.unit fun(f:Field) __s=>do
  if f.name = "_" then pure (ForInStep.yield PUnit.unit)
  else do
   let __do_lift ←part f.type xs f.offset
   (fun a=>ForInStep.yield PUnit.unit) <$> Instr.checkKey b d f.type __do_lift).run P w = .ok PUnit.unit w:=by
 intro fields
 induction fields with
 | nil=>intro fs off k x w _ _ _;simp
 | cons f r ih =>
   intro fs off k x w h hfs h1
   cases fs with
   | nil=>simp[Qf]at h
   | cons q fs =>
     obtain⟨o,t⟩:=q
     cases k with
     | pr k1 k2 =>
       simp[Qf]at h;obtain⟨a,h2⟩:=h
       cases hkd : τ.kd t with
       | none=>simp[hkd]at a
       | some k' =>
         rw[hkd]at a;simp at a;obtain⟨⟨⟨a1,a2⟩,a3⟩,a4,a5⟩:=a;obtain⟨ti,b1,b2,b3⟩:=Z3 hkd;subst a4;subst a3;subst b2;obtain⟨tj,c1,c2,c3⟩:=hfs (o,t) (by simp);rw[b1]at c1;simp at c1;subst c1;simp only[Kd.size,Kd.cells]at h1;obtain⟨hx1,hx2⟩:=Wc h1 (Kd.cells_length _ _);have hk:=c3 (by simp only[Kd.dep];omega)
         have hrec:=ih fs (o+ti.kd.size) k2 x.2 w h2 (fun p hp=>by
          obtain⟨tj,d1,d2,d3⟩:=hfs p (by simp[hp]);exact⟨tj,d1,d2,fun hlt=>d3 (by simp only[Kd.dep];omega)⟩) (by simpa[List.drop_drop] using hx2)
         have ex := Wn hτ b1 b3 hx1 w;simp only [List.forIn_cons];by_cases hn : f.name = "_"
         ·simp only[hn,if_true,Sem.run_bind,Sem.run_pure,Result.andThen_ok];exact hrec
         ·simp only[hn,if_false,Sem.run_bind,a1,a2,ex,Result.andThen_ok,Sem.run_map];rw[hk];simp only[Result.andThen_ok,Sem.run_pure];exact hrec
     | _=>simp[Qf]at h
def C6(hpl:∀t ti,τ.get t=some ti→ti.plain=true→QV P τ t ti=true):∀(n:Nat) (t:Nat) (ti:TI),τ.get t=some ti→ti.plain=true→ti.kd.dep<n→∀d,n≤d→jI P ti t (d+1):=by
 intro n
 induction n with
 | zero=>intro t ti _ _ h;omega
 | succ n ih =>
   intro t ti h hp hdep d hd b x w;have hok:=hpl t ti h hp;have hnt:=VE h hok;obtain⟨desc,info,h1,h2,h3,h4,h5,h6⟩:=(hτ t ti h hnt).ex;unfold QV at hok;split at hok
   ·rename_i hdd
    rw[hdd]at h6;obtain⟨dd,kd,by_,pl⟩:=ti;simp only at hdd h6 ⊢;rcases XL h6 with⟨rfl,rfl⟩ | ⟨rfl,rfl⟩ | ⟨rfl,rfl⟩ | ⟨rfl,rfl⟩ | ⟨rfl,rfl⟩ <;> simp[Instr.checkKey,Jz h1]
   ·rename_i hdd
    rw[hdd]at h6;obtain⟨dd,kd,by_,pl⟩:=ti;simp only at hdd h6 ⊢;obtain⟨rfl,rfl⟩:=Xr h6;simp[Instr.checkKey,Jz h1]
   ·rename_i m e hdd
    rw[hdd]at h6;obtain⟨dd,kd,by_,pl⟩:=ti;simp only at hdd h6 hdep x ⊢;obtain⟨rfl,ei0,hei0,rfl,_⟩:=Xc h6
    cases hg : τ.get e with
    | none=>simp[hg]at hok
    | some ei =>
      obtain rfl:ei0=ei:=by rw[hg]at hei0;simpa using hei0.symm
      rw[hg]at hok;simp at hok;have hei:=hpl e ei0 hg hok.1.1;have hent:=VE hg hei;obtain⟨desc',info',g1,g2,g3,g4,g5,g6⟩:=(hτ e ei0 hg hent).ex
      cases d with
      | zero=>omega
      | succ d=>
      have he:=ih e ei0 hg hok.1.1 (by simp[Kd.dep]at hdep;omega) d (by omega)
      have:=yE hτ (b:=b) g2 hg hent g3 he m 0 x.toList w (by simp)
       (xs:=((Kd.ar m ei0.kd).cells x).toArray)
       (by have hl:=Kd.cells_length (.ar m ei0.kd) x;simp[Kd.cells,Kd.size]at hl ⊢;rw[List.take_of_length_le (by simp[hl])])
      unfold Instr.checkKey;simp only[Kd.val,Kd.val0];simp[Jz h1,Qy g2];rw[this]
   ·rename_i fs hdd
    rw[hdd]at h6;obtain⟨dd,kd,by_,pl⟩:=ti;simp only at hdd h6 hdep x ⊢;obtain⟨fields,k',rfl,rfl,h6⟩:=XI h6;rw[h1]at hok;simp only[Bool.and_eq_true,Bool.not_eq_true']at hok;obtain⟨⟨⟨⟨_,b1⟩,b2⟩,b3⟩,b4⟩:=hok
    cases d with
    | zero=>omega
    | succ d=>
    have:=EY (d:=d+1) hτ (b:=b) (xs:=(k'.cells x).toArray) fields.toList fs 0 k' x w h6
     (fun p hp'=>by
      obtain⟨tj,c1,c2⟩:=ID b1 p hp';exact⟨tj,c1,VE c1 (hpl _ _ c1 c2),fun hlt=>ih p.2 tj c1 c2 (by simp[Kd.dep]at hdep;omega) d (by omega)⟩)
     (by simp;rw[←Kd.cells_length k' x];simp)
    unfold Instr.checkKey;simp only[Kd.val,Kd.val0];simp[Jz h1,←Array.forIn_toList];rw[this]
   ·simp at hok
end
def WU:∀ {k:Kd},k.pk=true→∀ {x y:k.Ty},k.beq x y=true↔x=y:=by
 intro k
 induction k with
 | pr a b iha ihb =>
   intro h x y;simp[Kd.pk]at h;obtain⟨x1,x2⟩:=x;obtain⟨y1,y2⟩:=y;simp[Kd.beq,iha h.1,ihb h.2]
 | ag a ih=>intro h x y;exact ih h
 | ar n a ih =>
   intro h x y;have ih := @ih h
   have:∀(l m:List a.Ty),l.length=m.length→(((l.zip m).all fun z=>a.beq z.1 z.2)=true↔l=m):=by
    intro l
    induction l with
    | nil=>intro m hm;cases m <;> simp_all
    | cons c l ihl =>
      intro m hm
      cases m with
      | nil=>simp at hm
      | cons d m =>
        have:=ihl m (by simpa using hm);simp only[List.zip_cons_cons,List.all_cons,Bool.and_eq_true,List.cons.injEq];rw[this,ih]
   rw[show((Kd.ar n a).beq x y=true)=(((x.toList.zip y.toList).all fun z=>a.beq z.1 z.2)=true) from rfl,this _ _ (by simp)];exact Vector.toList_inj
 | _=>intro h x y;first | (simp[Kd.pk]at h;done) | (simp[Kd.beq];done)
def DV:Value→Bool
 | .int _ _ | .string _ | .bool _=>true
 | _=>false
def Ci:∀ {k:Kd},k.pk=true→∀(x:k.Ty),∀c∈k.cells x,DV c=true:=by
 intro k
 induction k with
 | pr a b iha ihb =>
   intro h x c hc;simp[Kd.pk]at h;simp[Kd.cells]at hc;rcases hc with hc | hc
   ·exact iha h.1 _ c hc
   ·exact ihb h.2 _ c hc
 | ag a ih=>intro h x c hc;exact ih h x c hc
 | ar n a ih =>
   intro h x c hc;simp only[Kd.cells,List.mem_flatMap]at hc;obtain⟨y,_,hc⟩:=hc;exact ih h y c hc
 | _=>intro h x c hc;first | (simp[Kd.pk]at h;done) | (simp[Kd.cells]at hc;done) | (simp[Kd.cells]at hc;subst hc;rfl)
def GR{c:Value} (h:DV c=true) (n:Nat):Instr.sameBits n c c=true:=by
 cases c <;> simp[DV]at h <;> cases n <;> simp[Instr.sameBits] <;> exact(Go.MapKept.bytes_beq _ _).2 rfl
def Ej{k:Kd} (h:k.pk=true) (hs:k.scalar=true∨k.agg=true) (x:k.Ty) (n:Nat):Instr.sameBits (n+1) (k.val x) (k.val x)=true:=by
 rcases hs with hs | hs
 ·have:=Ci h x (k.val x) (by rw[Kd.val_scalar hs];simp);exact GR this _
 ·rw[Kd.val_agg hs]
  have:∀(l:List Value),(∀c∈l,DV c=true)→((l.zip l).all fun(x,y)=>Instr.sameBits n x y)=true:=by
   intro l
   induction l with
   | nil=>intro _;rfl
   | cons c l ih =>
     intro hl;simp only[List.zip_cons_cons,List.all_cons,Bool.and_eq_true];exact⟨GR (hl c (by simp)) n,ih fun d hd=>hl d (by simp[hd])⟩
  simp only[Instr.sameBits,beq_self_eq_true,Bool.true_and];exact this _ (Ci h x)
def Sf(k e:Kd) (key:k.Ty):List (k.Ty×e.Ty×Nat)→Nat→Option (Nat×e.Ty)
 | [],_=>none
 | x::r,i=>if k.beq key x.1=true then some (i,x.2.1) else Sf k e key r (i+1)
def VO(k e:Kd) (x:k.Ty×e.Ty×Nat):MapEntry:={ key:=k.val x.1,val:=e.val x.2.1,born:=x.2.2 }
def C8{k e:Kd}{key:k.Ty}:∀(es:List (k.Ty×e.Ty×Nat)) (i:Nat),(Sf k e key es i).map (·.2)=Zi k e key es:=by
 intro es
 induction es with
 | nil=>intro i;rfl
 | cons x r ih=>intro i;simp only[Sf,Zi];split <;> simp[ih]
def qK{k e:Kd}{key:k.Ty}{x:e.Ty}{clock:Nat}:∀(es:List (k.Ty×e.Ty×Nat)) (i:Nat),Sf k e key es i=none →
 GM k e key x clock es=es++[(key,x,clock)]∧SZ k e key es=false:=by
 intro es
 induction es with
 | nil=>intro i _;exact⟨rfl,rfl⟩
 | cons y r ih =>
   intro i h;simp only[Sf]at h;split at h
   ·simp at h
   ·rename_i hb
    obtain⟨a,b⟩:=ih _ h;simp only[GM,SZ,Zi,hb]at *;simp[a,b]
def qL{k e:Kd} (hp:k.pk=true){key:k.Ty}{x v:e.Ty}{clock j:Nat}:∀(es:List (k.Ty×e.Ty×Nat)) (i:Nat),Sf k e key es i=some (j,v) →
 i ≤ j ∧ (∃ y, es[j - i]? = some y ∧ y.1 = key) ∧ SZ k e key es = true ∧
   (GM k e key x clock es).map (VO k e)=(es.map (VO k e)).modify (j-i) (fun en=>{ en with key:=k.val key,val:=e.val x }):=by
 intro es
 induction es with
 | nil=>intro i h;simp[Sf]at h
 | cons y r ih =>
   intro i h;simp only[Sf]at h;split at h
   ·rename_i hb
    simp at h;obtain⟨rfl,rfl⟩:=h;refine⟨Nat.le_refl _,⟨y,by simp,((WU hp).1 hb).symm⟩,by simp[SZ,Zi,hb],?_⟩;simp[GM,hb,VO]
   ·rename_i hb
    obtain⟨a,⟨z,b1,b2⟩,c,d⟩:=ih _ h;have hj:j-i=(j-(i+1))+1:=by omega
    refine⟨by omega,⟨z,by rw[hj];simpa using b1,b2⟩,?_,?_⟩
    ·simp only[SZ,Zi,hb]at *;simpa using c
    ·rw[hj];simp[GM,hb,d]
section
variable {P:Program} {τ : Yv} (hτ : Zg P τ)
def Ek{d:TD}{desc:TypeDesc}{k:Kd} (h:Xq τ d desc k=true){x y:k.Ty}{b:Bool} (hb:Instr.sameNow desc (k.val x) (k.val y)=some b):b=k.beq x y:=by
 cases k <;> unfold Xq at h <;> split at h <;> simp_all [Kd.val,Kd.val0,Kd.cells,one,Instr.sameNow,Kd.beq]
 all_goals subst hb
 all_goals first
  | (rw[Bool.eq_iff_iff];simp[←UInt8.toNat_inj];omega)
  | (rw[Bool.eq_iff_iff];simp[←UInt32.toNat_inj];omega)
  | (rw[Bool.eq_iff_iff];simp[←UInt64.toNat_inj];omega)
  | (rw[Bool.eq_iff_iff,Go.MapKept.bytes_beq];simp)
  | (rename_i p q;cases p <;> cases q <;> rfl)
  | skip
def SN{d:TD}{desc:TypeDesc}{k e:Kd} (h:Xq τ d desc k=true){key:k.Ty}:∀(es:List (k.Ty×e.Ty×Nat)) (i:Nat) (r:Option (Nat×Value)),
 Instr.findNow desc (k.val key) (es.map (VO k e)) i=some r→r=(Sf k e key es i).map fun p=>(p.1,e.val p.2):=by
 intro es
 induction es with
 | nil=>intro i r hr;simp[Instr.findNow]at hr;subst hr;rfl
 | cons y es ih =>
   intro i r hr;simp only[List.map_cons,Instr.findNow,VO]at hr
   cases hs:Instr.sameNow desc (k.val key) (k.val y.1) with
   | none=>simp[hs]at hr
   | some b =>
     have hb:=Ek h hs;rw[hs]at hr
     cases b with
     | true=>simp at hr;subst hr;simp[Sf,←hb]
     | false =>
       simp only at hr;have:=ih _ _ hr;simp[Sf,←hb,this]
variable (hpl:∀t ti,τ.get t=some ti→ti.plain=true→QV P τ t ti=true)
include hτ hpl
def RA{t:Nat}{ti:TI} (hg : τ.get t=some ti) (hp:ti.plain=true):ti.kd.dep<9000:=by
 have hok:=hpl t ti hg hp;have hnt:=VE hg hok;obtain⟨desc,info,h1,h2,h3,h4,h5,h6⟩:=(hτ t ti hg hnt).ex;unfold QV at hok;split at hok
 ·rename_i hdd
  rw[hdd]at h6;rcases XL h6 with⟨_,hk⟩ | ⟨_,hk⟩ | ⟨_,hk⟩ | ⟨_,hk⟩ | ⟨_,hk⟩ <;> rw[hk] <;> decide
 ·rename_i hdd
  rw[hdd]at h6;rw[(Xr h6).2];decide
 ·simp at hok;exact hok.2
 ·simp at hok;exact hok.1.1.1.1
 ·simp at hok
def Gi{t:Nat}{ti:TI}{e:Kd} (hg : τ.get t=some ti) (hp:ti.plain=true){key:ti.kd.Ty} (es:List (ti.kd.Ty×e.Ty×Nat)) (w:World) :
 (Instr.findKey t (ti.kd.val key) (es.map (VO ti.kd e))).run P w = .ok ((Sf ti.kd e key es 0).map fun p=>(p.1,e.val p.2)) w:=by
 have hok:=hpl t ti hg hp;have hnt:=VE hg hok;obtain⟨desc,info,h1,h2,h3,h4,h5,h6⟩:=(hτ t ti hg hnt).ex;unfold Instr.findKey;simp only[Sem.run_bind,Jz h1,Result.andThen_ok];split
 ·rename_i r hr
  rw[SN h6 es 0 r hr];simp
 ·have heq:=Mu hτ hpl 9000 t ti hg hp (RA hτ hpl hg hp) 9999 (by omega)
  have:∀(es:List (ti.kd.Ty×e.Ty×Nat)) (i:Nat),(Instr.findAsking t (ti.kd.val key) (es.map (VO ti.kd e)) i).run P w = .ok ((Sf ti.kd e key es i).map fun p=>(p.1,e.val p.2)) w:=by
   intro es
   induction es with
   | nil=>intro i;simp[Instr.findAsking,Sf]
   | cons y es ih =>
     intro i;simp only[List.map_cons,Instr.findAsking,VO,Sem.run_bind,Op.equal];rw[show Op.maxDepth=9999+1 from rfl,heq];simp only[Result.andThen_ok,Sf]
     cases hb:ti.kd.beq key y.1
     ·simpa using ih (i+1)
     ·simp
  exact this es 0
def IH{t:Nat}{ti:TI} (hg : τ.get t=some ti) (hp:ti.plain=true) (key:ti.kd.Ty) (b:Bool) (w:World):(Instr.checkKey b 10000 t (ti.kd.val key)).run P w = .ok () w:=
 C6 hτ hpl 9000 t ti hg hp (RA hτ hpl hg hp) 9999 (by omega) b key w
omit hpl in
theorem Ib{T:Nat}{kk ek:Kd} (h : τ.mapOf T=some (kk,ek)):∃kt et ki ei,P.underlying T=some (.map kt et) ∧ τ.get kt=some ki∧ki.plain=true∧ki.kd=kk∧kk.pk=true ∧
 τ.get et=some ei∧ei.kd=ek∧(match ei.d with | .tup=>true | _=>false)=false:=by
 unfold Yv.mapOf at h;split at h
 ·rename_i kt et _ _ _ hg
  obtain⟨desc,info,g1,g2,g3,g4,g5,g6⟩:=Yl hτ hg rfl;obtain⟨rfl,rfl⟩:=Zp g6;split at h
  ·rename_i d kk' by_ ek' hk he
   obtain⟨ei,e1,e2,e3⟩:=Z3 he;split at h
   ·rename_i hpk
    simp at h;obtain⟨rfl,rfl⟩:=h;exact⟨kt,et,_,ei,g1,hk,rfl,rfl,hpk,e1,e2,e3⟩
   ·simp at h
  ·simp at h
 ·simp at h
omit hτ hpl in
theorem Cd(k e:Kd) (es:List (k.Ty×e.Ty×Nat)) (clock:Nat):S2 k e es clock = .map (es.map (VO k e)).toArray clock:=rfl
omit hτ hpl in
theorem En{k:Kd} (h:k.scalar=true∨k.agg=true):Vt k=true:=by
 cases k <;> simp_all [Kd.scalar,Kd.agg,Vt]
omit hτ hpl in
theorem PL{ek:Kd} (h:ek.scalar=true∨ek.agg=true) (ok:Bool) (z:ek.Ty) (b:Bool) :
 (if ok=true then Value.tuple #[ek.val z,.bool b] else ek.val z) =
  (IS ek ok z b).val:=by
 cases ok
 ·rfl
 ·show Value.tuple #[ek.val z,.bool b]=Value.tuple #[Kd.val0 ek z,.bool b];rw[Ve (En h)]
def Ro{o:Oper}{T:Nat}{x y:Operand}{ok:Bool}{a b:SV}{e:Operand→Option SV}{h:Ja}{K:SV→Option (Hp)→Prop} (ho:o.op = .lookup T x y ok) (he:e x=some a) (hy:e y=some b)
 (hr:TM τ T a b ok h K):Ok P o e h K:=by
 unfold TM at hr;split at hr
 ·rename_i kk ek hm
  obtain⟨kt,et,ki,ei,hu,k1,k2,rfl,k4,e1,rfl,e3⟩:=Ib hτ hm;obtain⟨_,ez,_,z2,_,_,z5,_⟩:=(hτ _ ei e1 e3).ex;have hsh:=YM hτ e1 e3;split at hr
  ·rename_i m key hma hka
   rw[asM_some]at hma;subst hma;have:=YG hka;subst this;have ck:=fun b w=>IH hτ hpl k1 k2 key b w
   cases m with
   | none =>
     refine⟨_,_,hr,fun f hf=>by simp at hf,fun ρ hρ w _ =>?_⟩
     have fk:(Instr.findKey kt (ki.kd.val key) []).run P w = .ok none w:=by
      simpa[Sf] using Gi hτ hpl (e:=ei.kd) k1 k2 (key:=key) [] w
     have hyv : ρ y=ki.kd.val key:=hρ y _ hy;have hxv : ρ x = .map none:=hρ x _ he;rw[Option.getD_none,Option.isSome_none,←PL hsh];simp[execOp,ho,hxv,hyv,Instr.lookup,Jz hu,ck,fk,Yz z2 z5]
   | some r =>
     obtain⟨es,clock,hs,hK⟩:=hr;refine⟨_,_,hK,fun f hf=>by simp at hf;subst hf;exact hs,fun ρ hρ w hw =>?_⟩;have hb:w.heap[r]? = some (.map (es.map (VO ki.kd ei.kd)).toArray clock):=hw _ rfl;have fk:=Gi hτ hpl (e:=ei.kd) k1 k2 (key:=key) es w;have hyv : ρ y=ki.kd.val key:=hρ y _ hy;have hxv : ρ x = .map (some r):=hρ x _ he;have hf:=C8 (k:=ki.kd) (e:=ei.kd) (key:=key) es 0;rw[←PL hsh];simp only[execOp,ho,hxv,hyv,Instr.lookup,Sem.run_bind,Jz hu,Result.andThen_ok,Go.MapKept.run_getObj_map hb,Sem.run_pure,ck]
     cases hm:Sf ki.kd ei.kd key es 0 with
     | none =>
       rw[hm]at fk hf;rw[fk,←hf];simp[Yz z2 z5]
     | some p =>
       rw[hm]at fk hf;rw[fk,←hf];simp
  ·exact hr.elim
 ·exact hr.elim
def Rt{T:Nat}{kk ek:Kd} (hm : τ.mapOf T=some (kk,ek)){r:Nat}{es:List (kk.Ty×ek.Ty×Nat)}{clock:Nat}{key:kk.Ty}{x:ek.Ty}{w:World} (hs:PR kk ek r es clock w.heap) :
 (Instr.mapUpdate T (.map (some r)) (kk.val key) (ek.val x)).run P w =
  .ok () { w with heap:=w.heap.setIfInBounds r (S2 kk ek (GM kk ek key x clock es) (if SZ kk ek key es then clock else clock+1)) }:=by
 obtain⟨kt,et,ki,ei,hu,k1,k2,rfl,k4,e1,rfl,e3⟩:=Ib hτ hm;have hb:w.heap[r]? = some (.map (es.map (VO ki.kd ei.kd)).toArray clock):=hs;have ck:=fun b w=>IH hτ hpl k1 k2 key b w;have fk:=Gi hτ hpl (e:=ei.kd) k1 k2 (key:=key) es w;have hksh:=YM hτ k1 (VE k1 (hpl _ _ k1 k2));simp only[Instr.mapUpdate,Sem.run_bind,Jz hu,Result.andThen_ok,Go.MapKept.run_getObj_map hb,ck]
 cases hm:Sf ki.kd ei.kd key es 0 with
 | none =>
   obtain⟨a,b⟩:=qK (x:=x) (clock:=clock) es 0 hm;rw[hm]at fk;rw[fk];simp[Go.MapKept.run_setObj_map _ hb,a,b,Cd,VO]
 | some p =>
   obtain⟨j,v⟩:=p;obtain⟨_,⟨y,b1,b2⟩,c,d⟩:=qL (x:=x) (clock:=clock) k4 es 0 hm;rw[hm]at fk;rw[fk];have b1':es[j]? = some y:=by simpa using b1
   have hkeep:(Instr.keyThatStays (ki.kd.val key) (ki.kd.val key)).run P w = .ok (ki.kd.val key) w:=by
    simp[Instr.keyThatStays,Ej k4 hksh key 9999]
   have hent:(VO ki.kd ei.kd y).key=ki.kd.val key:=by rw[←b2];rfl
   simp[b1',hent,hkeep,Go.MapKept.run_setObj_map _ hb,c,Cd,d]
end
section
variable {P:Program} {τ : Yv} (hτ : Zg P τ) (hpl:∀t ti,τ.get t=some ti→ti.plain=true→QV P τ t ti=true)
def DU{e:Operand→Option SV} {ρ : Operand→Value} (hρ : UU e ρ):∀ {xs:List Operand}{vs:List SV},vK e xs=some vs→xs.map ρ = vs.map SV.val:=by
 intro xs
 induction xs with
 | nil=>intro vs h;simp[vK]at h;subst h;rfl
 | cons x r ih =>
   intro vs h;simp only[vK]at h;split at h
   ·rename_i v vs' h1 h2
    simp at h;subst h;simp[hρ x v h1,ih h2]
   ·simp at h
def MW{e:Operand→Option SV} {ρ : Operand→Value} (hρ : UU e ρ):∀ {xs:List Operand}{vs:List Value},J0 e xs=some vs→xs.map ρ = vs:=by
 intro xs
 induction xs with
 | nil=>intro vs h;simp[J0]at h;subst h;rfl
 | cons x r ih =>
   intro vs h;simp only[J0]at h;split at h
   ·rename_i v vs' h1 h2
    simp at h;subst h;simp[hρ x v h1,ih h2]
   ·simp at h
def qN{f:Int→Int→Int}{g:Value→Value→Sem Value} (hg:∀a b w,(g (.int .i64 a) (.int .i64 b)).run P w = .ok (.int .i64 (f a b)) w) :
 ∀(l:List SV) (a n:Int),qM f a l=some n→∀w,((l.map SV.val).foldlM g (.int .i64 a)).run P w = .ok (.int .i64 n) w:=by
 intro l
 induction l with
 | nil=>intro a n h w;simp[qM]at h;subst h;simp
 | cons y r ih =>
   intro a n h w;simp only[qM]at h;split at h
   ·rename_i b hb
    rw[asI_some]at hb;subst hb;simp[hg,ih _ _ h]
   ·simp at h
def S1{f:Int→Int→Int}{g:Value→Value→Sem Value} (hg:∀a b w,(g (.int .i64 a) (.int .i64 b)).run P w = .ok (.int .i64 (f a b)) w){l:List SV}{n:Int}
 (h:qO l f=some n) (w:World):∃x r,l.map SV.val=x::r∧(r.foldlM g x).run P w = .ok (.int .i64 n) w:=by
 cases l with
 | nil=>simp[qO]at h
 | cons x r =>
   simp only[qO]at h;split at h
   ·rename_i a ha
    rw[asI_some]at ha;subst ha;exact⟨_,_,rfl,qN hg r a n h w⟩
   ·simp at h
include hτ
def E7{o:Oper}{T:Nat}{x:Operand}{a:SV}{as ts:Array _}{e:Operand→Option SV}{h:Ja}{K:SV→Option (Hp)→Prop} (ho:o.op = .call { callee := .builtin .len,args:=as,argTypes:=ts })
 (ha:as.toList=[x]) (ht:ts.toList=[T]) (he:e x=some a) (hr:wW τ T a h K):Ok P o e h K:=by
 obtain rfl:as = #[x]:=Array.toList_inj.1 ha;obtain rfl:ts = #[T]:=Array.toList_inj.1 ht
 have ex:∀ ρ w,(execOp ρ o).run P w=((Builtin.len_ #[T] o.type #[ρ x]).run P w).andThen fun v w' => .ok (.value v) w':=by
  intro ρ w;simp[execOp,ho,resolve,invoke,builtin]
 unfold wW at hr;split at hr
 ·rename_i e0 k by_ pl hg
  obtain⟨desc,info,g1,g2,g3,g4,g5,g6⟩:=Yl hτ hg rfl;obtain⟨rfl,rfl⟩:=Xv g6;split at hr
  ·rename_i s hs
   rw[asSl_some]at hs;subst hs;exact Ok.pure _ hr fun ρ hρ w=>by simp[ex,hρ x _ he,Builtin.len_,Jz g1,goInt]
  ·exact hr.elim
 ·rename_i k by_ pl hg
  obtain⟨desc,info,g1,g2,g3,g4,g5,g6⟩:=Yl hτ hg rfl;obtain⟨rfl,rfl⟩:=Xr g6;split at hr
  ·rename_i s hs
   rw[asS_some]at hs;subst hs;exact Ok.pure _ hr fun ρ hρ w=>by simp[ex,hρ x _ he,Builtin.len_,Jz g1,goInt]
  ·exact hr.elim
 ·rename_i kt et k by_ pl hg
  obtain⟨desc,info,g1,g2,g3,g4,g5,g6⟩:=Yl hτ hg rfl;obtain⟨rfl,rfl⟩:=Zp g6;split at hr
  ·rename_i m hs
   rw[asM_some]at hs;subst hs
   cases m with
   | none=>exact⟨_,_,hr,fun f hf=>by simp at hf,fun ρ hρ w _=>by simp[ex,hρ x _ he,Builtin.len_,Jz g1,goInt]⟩
   | some r =>
     obtain⟨es,clock,hs,hK⟩:=hr
     exact⟨_,_,hK,fun f hf=>by simp at hf;subst hf;exact hs,fun ρ hρ w hw=>by
      have hb:w.heap[r]? = some (.map es clock):=hw _ rfl;simp[ex,hρ x _ he,Builtin.len_,Jz g1,goInt,Go.MapKept.run_getObj_map hb]⟩
  ·exact hr.elim
 ·rename_i n e0 k by_ pl hg
  obtain⟨desc,info,g1,g2,g3,g4,g5,g6⟩:=Yl hτ hg rfl;obtain⟨rfl,_⟩:=Xc g6;exact Ok.pure _ hr fun ρ hρ w=>by simp[ex,Builtin.len_,Jz g1,goInt]
 ·exact hr.elim
def EK{o:Oper}{T:Nat}{x:Operand}{a:SV}{as ts:Array _}{e:Operand→Option SV}{h:Ja}{K:SV→Option (Hp)→Prop} (ho:o.op = .call { callee := .builtin .cap,args:=as,argTypes:=ts })
 (ha:as.toList=[x]) (ht:ts.toList=[T]) (he:e x=some a) (hr:wK τ T a fun v=>K v none):Ok P o e h K:=by
 obtain rfl:as = #[x]:=Array.toList_inj.1 ha;obtain rfl:ts = #[T]:=Array.toList_inj.1 ht
 have ex:∀ ρ w,(execOp ρ o).run P w=((Builtin.cap_ #[T] o.type #[ρ x]).run P w).andThen fun v w' => .ok (.value v) w':=by
  intro ρ w;simp[execOp,ho,resolve,invoke,builtin]
 unfold wK at hr;split at hr
 ·rename_i e0 k by_ pl hg
  obtain⟨desc,info,g1,g2,g3,g4,g5,g6⟩:=Yl hτ hg rfl;obtain⟨rfl,rfl⟩:=Xv g6;split at hr
  ·rename_i s hs
   rw[asSl_some]at hs;subst hs;exact Ok.pure _ hr fun ρ hρ w=>by simp[ex,hρ x _ he,Builtin.cap_,Jz g1,goInt]
  ·exact hr.elim
 ·exact hr.elim
include hpl
def Eg{o:Oper}{e:Operand→Option SV}{h:Ja}{K:SV→Option (Hp)→Prop} (hr:rd τ o.op e h K):Ok P o e h K:=by
 generalize hop:o.op=op at hr;unfold rd at hr;split at hr
 ·rename_i x
  split at hr
  ·rename_i v hv;exact Ok.pure _ hr fun ρ hρ w=>by simp[execOp,hop,hρ x _ hv]
  ·exact hr.elim
 ·rename_i x
  split at hr
  ·rename_i v hv;exact Ok.pure _ hr fun ρ hρ w=>by simp[execOp,hop,hρ x _ hv]
  ·exact hr.elim
 ·rename_i c a b
  split at hr
  ·rename_i cv hc
   split at hr
   ·rename_i hb
    rw[asB_some]at hb;subst hb;split at hr
    ·rename_i v hv;exact Ok.pure _ hr fun ρ hρ w=>by simp[execOp,hop,hρ c _ hc,hρ a _ hv,asBool]
    ·exact hr.elim
   ·rename_i hb
    rw[asB_some]at hb;subst hb;split at hr
    ·rename_i v hv;exact Ok.pure _ hr fun ρ hρ w=>by simp[execOp,hop,hρ c _ hc,hρ b _ hv,asBool]
    ·exact hr.elim
   ·exact hr.elim
  ·exact hr.elim
 ·rename_i x
  split at hr
  ·rename_i v hv
   split at hr
   ·rename_i p hp
    rw[asP_some]at hp;subst hp;obtain⟨l,rfl,hK⟩:=hr;exact Ok.pure _ hK fun ρ hρ w=>by simp[execOp,hop,hρ x _ hv]
   ·exact hr.elim
  ·exact hr.elim
 ·rename_i bop T x y _
  split at hr
  ·rename_i a b ha hb
   obtain⟨v,hK,hv⟩:=EG hτ hpl hr
   exact Ok.pure _ hK fun ρ hρ w=>by
    have:=hv x y w;simp only[execOp,hop,hρ x _ ha,hρ y _ hb];exact IJ this
  ·exact hr.elim
 ·rename_i uop _ x
  split at hr
  ·rename_i a ha
   obtain⟨v,hK,hv⟩:=jC hr
   exact Ok.pure _ hK fun ρ hρ w=>by
    simp only[execOp,hop,hρ x _ ha];exact IJ (hv w)
  ·exact hr.elim
 ·rename_i src dst x
  split at hr
  ·rename_i a ha;exact SE hτ hop ha hr
  ·exact hr.elim
 ·rename_i fn first captured
  split at hr
  ·rename_i a b ha hb
   exact Ok.pure _ hr fun ρ hρ w=>by
    have h1:=MW hρ ha;have h2:=MW hρ hb;have h1':first.map ρ = a.toArray:=by apply Array.toList_inj.1;simpa using h1
    have h2':captured.map ρ = b.toArray:=by apply Array.toList_inj.1;simpa using h2
    simp[execOp,hop,Instr.makeFunc,h1',h2',Y7]
  ·exact hr.elim
 ·rename_i T x
  split at hr
  ·rename_i a ha;exact SI hτ hop ha hr
  ·exact hr.elim
 ·exact Tr hτ hop hr
 ·rename_i T x lo hi mx
  split at hr
  ·rename_i a ha;exact T6 hτ hop ha hr
  ·exact hr.elim
 ·rename_i T x n
  split at hr
  ·rename_i a ha;exact I5 hτ hop ha hr
  ·exact hr.elim
 ·rename_i T x
  split at hr
  ·rename_i a ha;exact Dw hτ hop ha hr
  ·exact hr.elim
 ·rename_i T x n
  split at hr
  ·rename_i a ha;exact Tz hτ hop ha hr
  ·exact hr.elim
 ·rename_i T x i
  split at hr
  ·rename_i a j ha hj
   split at hr
   ·rename_i n hn;exact Ma hτ hop ha hj hn hr
   ·exact hr.elim
  ·exact hr.elim
 ·rename_i T x i
  split at hr
  ·rename_i a j ha hj
   split at hr
   ·rename_i n hn;exact TE hτ hop ha hj hn hr
   ·exact hr.elim
  ·exact hr.elim
 ·rename_i x n
  split at hr
  ·rename_i a ha;exact Pt hop ha hr
  ·exact hr.elim
 ·rename_i T x
  split at hr
  ·rename_i a ha;exact SX hτ hop ha hr
  ·exact hr.elim
 ·rename_i T x key ok
  split at hr
  ·rename_i a b ha hb;exact Ro hτ hpl hop ha hb hr
  ·exact hr.elim
 ·rename_i as ts
  split at hr
  ·rename_i x T hx ht
   split at hr
   ·rename_i v hv;exact E7 hτ hop hx ht hv hr
   ·exact hr.elim
  ·exact hr.elim
 ·rename_i as ts
  split at hr
  ·rename_i x T hx ht
   split at hr
   ·rename_i v hv;exact EK hτ hop hx ht hv hr
   ·exact hr.elim
  ·exact hr.elim
 ·rename_i as ts
  split at hr
  ·rename_i l hl
   split at hr
   ·rename_i n hn
    exact Ok.pure _ hr fun ρ hρ w=>by
     have h1:=DU hρ hl;obtain⟨x,r,h3,h2⟩:=S1 (P:=P) (g:=Builtin.min2) (f:=RV) (by intro a b w;simp[Builtin.min2,RV]) hn w;rw[←h1]at h3;simp[execOp,hop,resolve,invoke,builtin,Builtin.min_,h3,h2]
   ·exact hr.elim
  ·exact hr.elim
 ·rename_i as ts
  split at hr
  ·rename_i l hl
   split at hr
   ·rename_i n hn
    exact Ok.pure _ hr fun ρ hρ w=>by
     have h1:=DU hρ hl;obtain⟨x,r,h3,h2⟩:=S1 (P:=P) (g:=Builtin.max2) (f:=vL) (by intro a b w;simp[Builtin.max2,vL]) hn w;rw[←h1]at h3;simp[execOp,hop,resolve,invoke,builtin,Builtin.max_,h3,h2]
   ·exact hr.elim
  ·exact hr.elim
 ·exact hr.elim
end
def Yo(w w':World):Prop:=w'.os=w.os∧w'.output=w.output
def UX(P:Program) (w:World) (K:Option SV→Hp):Result Next→Prop
 | .ok (.value v) w'=>Yo w w'∧∃x,(∀y,x=some y→v=y.val)∧K x w'.heap
 | .ok .skip w'=>Yo w w'∧K none w'.heap
 | .ok (.enter f args) w'=>CallsIn Fence.wide 0 P f args w' fun e w''=>∃x:SV,e = .returned x.val∧Yo w w''∧K (some x) w''.heap
 | .ok (.round l f tmps assign body) w'=>RoundIn Fence.wide 0 P l f tmps assign body w' fun e w''=>∃x:SV,e = .returned x.val∧Yo w w''∧K (some x) w''.heap
 | _=>False
def ZE(P:Program) (o:Oper) (e:Operand→Option SV) (h:Ja) (K:Option SV→Hp):Prop:=
 ∀ ρ,UU e ρ → ∀w:World,w.heap=h→UX P w K ((execOp ρ o).run P w)
def Yo.rfl{w:World}:Yo w w:=⟨Eq.refl _,Eq.refl _⟩
def Xg{P:Program}{w w':World}{K:Option SV→Hp}{r:Result Next}{v:SV} (hr:r = .ok (.value v.val) w') (hs:Yo w w') (hK:K (some v) w'.heap):UX P w K r:=by
 subst hr;exact⟨hs,some v,fun y hy=>by simp at hy;rw[hy],hK⟩
def VA{P:Program}{w w':World}{K:Option SV→Hp}{r:Result Next}{v:Value} (hr:r = .ok (.value v) w') (hs:Yo w w') (hK:K none w'.heap):UX P w K r:=by
 subst hr;exact⟨hs,none,fun y hy=>by simp at hy,hK⟩
def MH{P:Program}{w w':World}{K:Option SV→Hp}{r:Result Next} (hr:r = .ok .skip w') (hs:Yo w w') (hK:K none w'.heap):UX P w K r:=by
 subst hr;exact⟨hs,hK⟩
def gx(z:List Value) (m:Nat) (hm:z.length=m):∀(n:Nat),((List.range (n*m)).map fun i=>z[i%m]?.getD default)=(List.replicate n z).flatten:=by
 intro n
 induction n with
 | zero=>simp
 | succ n ih =>
   rw[Nat.succ_mul,List.range_add,List.map_append,ih,List.replicate_succ'];rw[List.flatten_append,List.map_map]
   congr 1
   simp only[List.flatten_cons,List.flatten_nil,List.append_nil];apply List.ext_getElem
   ·simp[hm]
   ·intro i h1 h2;have:i<m:=by simpa using h1
    simp[Nat.mul_add_mod,Nat.mod_eq_of_lt this];simp[h2]
def JaL(z:List Value) (n m:Nat) (hm:z.length=m):((Array.range (n*m)).map fun i=>z.toArray[i%m]!)=((List.replicate n z).flatten).toArray:=by
 apply Array.toList_inj.1;simp only[Array.toList_map,Array.toList_range];rw[←gx z m hm];apply List.map_congr_left;intro i _;simp
def Vf(k:Kd) (n:Nat):((Array.range (n*k.size)).map fun i=>(k.cells k.zero).toArray[i%k.size]!)=(Xl k n).toArray:=by
 rw[JaL _ n k.size (Kd.cells_length _ _)];simp[Xl,List.flatMap]
section
variable {P:Program} {τ : Yv} (hτ : Zg P τ) (hpl:∀t ti,τ.get t=some ti→ti.plain=true→QV P τ t ti=true)
include hτ
def RW{o:Oper}{T:Nat}{e:Operand→Option SV}{h:Ja}{K:Option SV→Hp}{ti:TI} (h1 : τ.get T=some ti) (h2:(match ti.d with | .tup=>true | _=>false)=false){z:ti.kd.Ty}
 (ho:o.op = .alloc T∧z=ti.kd.zero∨∃x,o.op = .box T x∧e x=some ⟨ti.kd,z⟩) (hr:new T ti.kd z h fun b h=>K (some ⟨.p,some ⟨b,0⟩⟩) h):ZE P o e h K:=by
 intro ρ hρ w hw;have hsh:=YM hτ h1 h2;obtain⟨_,i,_,i2,i3,_,i5,_⟩:=(hτ _ ti h1 h2).ex;refine Xg (v:=⟨.p,some ⟨w.heap.size,0⟩⟩) (w':={ w with heap:=w.heap.push (Jg T ti.kd z) }) ?_ ⟨rfl,rfl⟩ (by simpa[new,hw] using hr);rcases ho with⟨ho,rfl⟩ | ⟨x,ho,hx⟩
 ·simp[execOp,ho,Instr.alloc,Yz i2 i5,newVar,newRow,X1 hsh,Jg,Pl.addr]
 ·have:=hρ x _ hx;have hv : ρ x=ti.kd.val z:=this;simp[execOp,ho,Instr.box,hv,newVar,newRow,X1 hsh,Jg,Pl.addr]
def xU{o:Oper}{T:Nat}{x y:Operand}{e:Operand→Option SV}{h:Ja}{K:Option SV→Hp}{ti:TI} (h1 : τ.get T=some ti) (h2:(match ti.d with | .tup=>true | _=>false)=false){z:ti.kd.Ty}{l:Pl}
 (ho:o.op = .store T x y) (hx:e x=some ⟨.p,some l⟩) (hy:e y=some ⟨ti.kd,z⟩) (hr:st ti.kd l z h fun h=>K none h):ZE P o e h K:=by
 intro ρ hρ w hw;have hsh:=YM hτ h1 h2;obtain⟨_,i,_,i2,i3,_,i5,_⟩:=(hτ _ ti h1 h2).ex;obtain⟨c,U,lo,hi,a1,a2,a3,a4⟩:=hr;have hv : ρ y=ti.kd.val z:=hρ y _ hy;have hp : ρ x = .pointer (some l.addr):=hρ x _ hx;have hs:=YQ (P:=P) (l:=l) (ti.kd.cells z) 0 w c U lo hi (by rw[hw];exact a1) (by simpa using a2) (by simpa using a3) (Vv _ _);refine MH (w':={ w with heap:=w.heap.setIfInBounds l.b (.cells (Xz c l.o (ti.kd.cells z)) U (lo,hi)) }) ?_ ⟨rfl,rfl⟩ (by rw[hw];exact a4);simp[execOp,ho,Instr.storeAt,Instr.sureAddr,hp,hv,storeVar,Qy i2,i3,X1 hsh,Kd.cells_length];simp at hs;rw[hs];simp
omit hτ in
theorem r0:Array.range 0 = #[]:=rfl
def ZY{T et:Nat}{ti:TI}{e0:Nat}{k:Kd}{by_:Nat}{pl:Bool} (hg : τ.get T=some ⟨.slice e0,k,by_,pl⟩) (hel : τ.elem T=some (et,ti)) :
 P.underlying T=some (.slice et) ∧ τ.get et=some ti∧(match ti.d with | .tup=>true | _=>false)=false:=by
 obtain⟨desc,info,g1,g2,g3,g4,g5,g6⟩:=Yl hτ hg rfl;obtain⟨rfl,rfl⟩:=Xv g6;obtain⟨tj,t1,t2,t3,t4⟩:=U5 hel
 have:e0=et:=by
  rw[hg]at t1;simp at t1;subst t1;simpa using t3
 subst this;exact⟨g1,t2,t4⟩
def jZ{o:Oper}{T et n:Nat}{ps:Array (Nat×Operand)}{e:Operand→Option SV}{h:Ja}{K:Option SV→Hp}{ti:TI} (hT:P.underlying T=some (.slice et)) (h1 : τ.get et=some ti) (h2:(match ti.d with | .tup=>true | _=>false)=false)
 (ho:o.op = .buildSlice T n ps) (hle:n*ti.kd.size≤16777216) {xs:List ti.kd.Ty} (hx:It ti.kd e ps.toList (List.replicate n ti.kd.zero)=some xs) (hr:bs et ti.kd xs h fun s h=>K (some ⟨.sl,s⟩) h):ZE P o e h K:=by
 intro ρ hρ w hw;have hsh:=YM hτ h1 h2;obtain⟨_,i,_,i2,i3,_,i5,_⟩:=(hτ _ ti h1 h2).ex;obtain⟨f1,f2⟩:=Mv hsh hρ ps.toList _ _ hx;have hlen:xs.length=n:=by simpa using f1
 refine Xg (v:=⟨.sl,⟨some ⟨w.heap.size,0⟩,xs.length,xs.length⟩⟩) (w':={ w with heap:=w.heap.push (QW et ti.kd xs) }) ?_ ⟨rfl,rfl⟩ (by simpa[bs,hw] using hr)
 have hz:∀z:Array Value,(n*ti.kd.size=0∧z = #[]∨z=(ti.kd.cells ti.kd.zero).toArray)→(Array.range (n*ti.kd.size)).map (fun x=>z[x%z.size]!)=((List.replicate n ti.kd.zero).flatMap ti.kd.cells).toArray:=by
  intro z hz;rcases hz with⟨a,rfl⟩ | rfl
  ·have:(List.replicate n ti.kd.zero).flatMap ti.kd.cells=[]:=by
    have hl:((List.replicate n ti.kd.zero).flatMap ti.kd.cells).length=n*ti.kd.size:=by simp[List.length_flatMap,Kd.cells_length]
    exact List.eq_nil_of_length_eq_zero (by omega)
   simp[a,this]
  ·have:=Vf ti.kd n;simpa[Kd.cells_length,Xl] using this
 have hnl:¬16777216<n*ti.kd.size:=by omega
 by_cases h0:n*ti.kd.size=0
 ·have hz0:=hz #[] (.inl ⟨h0,rfl⟩);simp only[h0,r0,Array.map_empty]at hz0;rw[←hz0]at f2;simp only[execOp,ho,Instr.buildSlice,Sem.run_bind,Jz hT,Result.andThen_ok,Qy i2,i3,h0,if_true,Sem.run_pure,Array.toList_map];simp[f2,r0,newRow,QW,Pl.addr,hlen]
 ·have hz0:=hz _ (.inr rfl);rw[←hz0]at f2;simp only[execOp,ho,Instr.buildSlice,Sem.run_bind,Jz hT,Result.andThen_ok,Qy i2,i3,h0,if_false,Sem.run_pure,Array.toList_map,Yz i2 i5,X1 hsh];simp at f2;simp[f2,newRow,QW,Pl.addr,hlen,hnl,Yz i2 i5,X1 hsh]
def qR{o:Oper}{T et:Nat}{x y:Operand}{n c:Int}{e:Operand→Option SV}{h:Ja}{K:Option SV→Hp}{ti:TI} (hT:P.underlying T=some (.slice et)) (h1 : τ.get et=some ti) (h2:(match ti.d with | .tup=>true | _=>false)=false)
 (ho:o.op = .makeSlice T x y) (hx:e x=some ⟨.i,n⟩) (hy:e y=some ⟨.i,c⟩) (hr:mk et ti.kd ti.bytes n c h fun s h=>K (some ⟨.sl,s⟩) h):ZE P o e h K:=by
 intro ρ hρ w hw;have hsh:=YM hτ h1 h2;obtain⟨_,i,_,i2,i3,i4,i5,_⟩:=(hτ _ ti h1 h2).ex;obtain⟨a1,a2,a3,a4,a5⟩:=hr;refine Xg (v:=⟨.sl,⟨some ⟨w.heap.size,0⟩,n.toNat,c.toNat⟩⟩) (w':={ w with heap:=w.heap.push (QW et ti.kd (List.replicate c.toNat ti.kd.zero)) }) ?_ ⟨rfl,rfl⟩ (by simpa[hw] using a5)
 have hz:∀z:Array Value,(c.toNat*ti.kd.size=0∧z = #[]∨z=(ti.kd.cells ti.kd.zero).toArray)→(Array.range (c.toNat*ti.kd.size)).map (fun x=>z[x%z.size]!)=((List.replicate c.toNat ti.kd.zero).flatMap ti.kd.cells).toArray:=by
  intro z hz;rcases hz with⟨a,rfl⟩ | rfl
  ·have:(List.replicate c.toNat ti.kd.zero).flatMap ti.kd.cells=[]:=by
    have hl:((List.replicate c.toNat ti.kd.zero).flatMap ti.kd.cells).length=c.toNat*ti.kd.size:=by simp[List.length_flatMap,Kd.cells_length]
    exact List.eq_nil_of_length_eq_zero (by omega)
   simp[a,this]
  ·have:=Vf ti.kd c.toNat;simpa[Kd.cells_length,Xl] using this
 have hw1:IntKind.i64.wrap n=n:=by rw[IntKind.wrap_i64];omega
 have hw2:IntKind.i64.wrap c=c:=by rw[IntKind.wrap_i64];omega
 have e1:¬c<0:=by omega
 have e2:¬n<0:=by omega
 have e3:¬(281474976710656<(ti.bytes:Int)*c):=by rw[Int.mul_comm];omega
 have e4:¬c<n:=by omega
 have hx' : ρ x = .int .i64 n:=hρ x _ hx;have hy' : ρ y = .int .i64 c:=hρ y _ hy;by_cases h0:c.toNat*ti.kd.size=0
 ·have hz0:=hz #[] (.inl ⟨h0,rfl⟩);simp only[h0,r0,Array.map_empty]at hz0;simp[execOp,ho,Instr.makeSlice,Jz hT,hx',hy',asInt,asIntOf,Wm i2,i4,hw1,hw2,e1,e2,e3,e4,Qy i2,i3,h0,newRow,QW,Pl.addr];rw[←hz0];simp[r0]
 ·have hz0:=hz _ (.inr rfl);simp[execOp,ho,Instr.makeSlice,Jz hT,hx',hy',asInt,asIntOf,Wm i2,i4,hw1,hw2,e1,e2,e3,e4,Qy i2,i3,h0,newRow,QW,Pl.addr,Yz i2 i5,X1 hsh];simp at hz0;simp[hz0]
omit hτ in
theorem ja{o:Oper}{T kt et:Nat}{r:Option Operand}{e:Operand→Option SV}{h:Ja}{K:Option SV→Hp} (hT:P.underlying T=some (.map kt et))
 (ho:o.op = .makeMap T r) (hx:xG r e=true) (hr:vc h fun b h=>K (some ⟨.m,some b⟩) h):ZE P o e h K:=by
 intro ρ hρ w hw;refine Xg (v:=⟨.m,some w.heap.size⟩) (w':={ w with heap:=w.heap.push (.map #[] 0) }) ?_ ⟨rfl,rfl⟩ (by simpa[hw,vc] using hr)
 cases r with
 | none=>simp[execOp,ho,Instr.makeMap]
 | some x =>
   unfold xG at hx
   cases hv:e x with
   | none=>simp[hv]at hx
   | some v =>
     cases hz:Sr v with
     | none=>simp[hv,hz]at hx
     | some n =>
       obtain⟨k,hk⟩:=Zx (P:=P) hz w;simp[execOp,ho,Instr.makeMap,Jz hT,hρ x _ hv,asInt,hk]
def qS(hpl:∀t ti,τ.get t=some ti→ti.plain=true→QV P τ t ti=true){o:Oper}{T:Nat}{x y z:Operand}{kk ek:Kd}{m:Option Nat}{key:kk.Ty}{v:ek.Ty}{e:Operand→Option SV}{h:Ja}{K:Option SV→Hp} (hm : τ.mapOf T=some (kk,ek))
 (ho:o.op = .mapUpdate T x y z) (hx:e x=some ⟨.m,m⟩) (hy:e y=some ⟨kk,key⟩) (hz:e z=some ⟨ek,v⟩) (hr:mu kk ek m key v h fun h=>K none h):ZE P o e h K:=by
 intro ρ hρ w hw;obtain⟨r,es,clock,rfl,hs,hK⟩:=hr;have hx' : ρ x = .map (some r):=hρ x _ hx;have hy' : ρ y=kk.val key:=hρ y _ hy;have hz' : ρ z=ek.val v:=hρ z _ hz;have:=Rt hτ hpl hm (key:=key) (x:=v) (w:=w) (by rw[hw];exact hs);refine MH (w':={ w with heap:=w.heap.setIfInBounds r (S2 kk ek (GM kk ek key v clock es) (if SZ kk ek key es then clock else clock+1)) }) ?_ ⟨rfl,rfl⟩ (by simpa[hw] using hK);simp only[execOp,ho,hx',hy',hz',this,Sem.run_bind,Result.andThen_ok,Sem.run_pure]
omit hτ in
theorem Vx{s:Jn}{n:Nat}{h:Ja}{K:List Value→Prop} (hr:JB s n h K):∃cs,K cs∧(s.a=none→cs=[])∧(∀c∈cs,XC c) ∧
 ∀w:World,w.heap=h→∀size m,m*size=n→(Builtin.firstCells size m (.slice s.at s.len s.cap)).run P w = .ok cs.toArray w:=by
 unfold JB at hr;split at hr
 ·rename_i l hl
  obtain⟨cs,h1,h3,h2⟩:=hr;exact⟨cs,h2,fun h=>by simp[hl]at h,h3,fun w hw size m hm=>by subst hw;simp[Builtin.firstCells,Jn.at_some hl,hm,VH h1]⟩
 ·rename_i hl
  obtain⟨h0,hr⟩:=hr;refine⟨[],hr,fun _=>rfl,fun c h=>by simp at h,fun w hw size m hm =>?_⟩;rw[Jn.at_none hl]
  cases s.wd.v with
  | none=>rfl
  | some a=>simp only[Builtin.firstCells,hm,h0];rfl
omit hτ in
theorem Cq{s:Ba}{n:Nat}{w:World}{size:Nat}:(Builtin.firstCells size n (.string s)).run P w = .ok ((s.data.toList.take n).flatMap Kd.u8.cells).toArray w:=by
 have:∀L:List UInt8,L.flatMap Kd.u8.cells=L.map fun b=>Value.int .u8 b.toNat:=by
  intro L
  induction L with
  | nil=>rfl
  | cons b L ih=>rw[List.flatMap_cons,ih];rfl
 simp[Builtin.firstCells,this];apply Array.toList_inj.1;simp
omit hτ in
theorem UJ{need old:Nat}:need≤Builtin.nextslicecap need old:=by
 unfold Builtin.nextslicecap;split
 ·omega
 ·split
  ·omega
  ·simp only[Builtin.growBy]
   repeat' split
   all_goals omega
def xI{T U et:Nat}{desc:TypeDesc}{ti:TI} (hT:P.underlying T=some (.slice et)) (hU:P.underlying U=some desc) (hd:(∃e',desc = .slice e')∨desc = .string) (h1 : τ.get et=some ti) (h2:(match ti.d with | .tup=>true | _=>false)=false) (hb:0<ti.bytes)
 {s:Jn} {n ty:Nat} {new:List Value} {xv:Value} {w:World} {K:Jn→Hp} (hnew:∀c∈new,XC c) (hlen:∀w,(Builtin.lenOf xv).run P w = .ok n w)
 (hcs:∀w':World,w'.heap=w.heap→(Builtin.firstCells ti.kd.size n xv).run P w' = .ok new.toArray w') (hr:ap et ti.kd ti.bytes s n new w.heap K) :
 ∃z w',(Builtin.append_ #[T,U] ty #[s.val,xv]).run P w = .ok (Jn.val z) w'∧Yo w w'∧K z w'.heap:=by
 have hsh:=YM hτ h1 h2;obtain⟨_,i,_,i2,i3,i4,i5,_⟩:=(hτ _ ti h1 h2).ex;unfold ap at hr;split at hr
 ·rename_i hfit
  split at hr
  ·rename_i l hl
   obtain⟨c,V,lo,hi,a1,a2,a3,a4⟩:=hr;have hs:=YQ (P:=P) (l:=⟨l.b,l.o+s.len*ti.kd.size⟩) new 0 w c V lo hi a1 (by simpa using a2) (by simpa using a3) hnew;refine⟨_,{ w with heap:=w.heap.setIfInBounds l.b (.cells (Xz c (l.o+s.len*ti.kd.size) new) V (lo,hi)) },?_,⟨rfl,rfl⟩,a4⟩;simp at hs;have ha:l.addr.add (s.len*ti.kd.size)=(Pl.mk l.b (l.o+s.len*ti.kd.size)).addr:=by simp
   rcases hd with⟨e',rfl⟩ | rfl <;> simp[Builtin.append_,Jn.val,Jz hT,Jz hU,Qy i2,i3,hlen,hfit,Jn.at_some hl,hcs w rfl,ha,hs]
  ·rename_i hl
   obtain⟨h0,hr⟩:=hr;subst h0;refine⟨_,w,?_,⟨rfl,rfl⟩,hr⟩;rcases hd with⟨e',rfl⟩ | rfl <;> (simp[Builtin.append_,Jn.val,Jz hT,Jz hU,Qy i2,i3,hlen,hfit,Jn.at_none hl,hcs w rfl];cases s.wd.v <;> simp[storeCells])
 ·rename_i hfit
  obtain⟨hcap,hr⟩:=hr;have hneed:s.len+n≤Builtin.nextslicecap (s.len+n) s.cap:=UJ;have hneed48:s.len+n≤281474976710656:=Nat.le_trans hneed (Nat.le_trans (Nat.le_mul_of_pos_right _ hb) hcap);obtain⟨old,hK,_,_,hold⟩:=Vx hr;have hcut:∀t,(Question.appendCap (s.len+n) s.cap et).cut t=s.len+n+t%(2^63-(s.len+n)):=fun t=>rfl
  have hlt:∀t,s.len+n+t%(2^63-(s.len+n))<9223372036854775808:=fun t=>by
   have:=Nat.mod_lt t (show 0<2^63-(s.len+n) by omega);omega
  have hc48:¬281474976710656<Builtin.nextslicecap (s.len+n) s.cap*ti.bytes:=by omega
  have hb0:¬ti.bytes=0:=by omega
  let t:=w.tape w.drawn (.appendCap (s.len+n) s.cap et)
  have hK':=hK (s.len+n+t%(2^63-(s.len+n))) (by omega) (hlt t);refine⟨_,{ w with drawn:=w.drawn+1,heap:=w.heap.push (.cells (old++new++Xl ti.kd (s.len+n+t%(2^63-(s.len+n))-(s.len+n))).toArray et) },?_,⟨rfl,rfl⟩,hK'⟩;have ho:=fun w' hw'=>hold w' hw' ti.kd.size s.len rfl
  have hzc:Builtin.zeroCells (ti.kd.cells ti.kd.zero).toArray (t%(2^63-(s.len+n)))=(Xl ti.kd (t%(2^63-(s.len+n)))).toArray:=by
   have:=Vf ti.kd (t%(2^63-(s.len+n)));simpa[Builtin.zeroCells,Kd.cells_length] using this
  have ho':∀w':World,w'.heap=w.heap→(Builtin.firstCells ti.kd.size s.len (.slice s.at s.len s.cap)).run P w' = .ok old.toArray w':=ho;have hov:¬((((s.len+n:Nat):Int)>IntKind.i64.max)∧(false=true∨ti.bytes=0)):=by simp[hb0]
  have hin:(P.info? et)=some i:=i2;have hc48':¬Builtin.nextslicecap (s.len+n) s.cap*ti.bytes>2^48:=by simpa using hc48
  have hold':=ho' { w with drawn:=w.drawn+1 } rfl;have hcs':=hcs { w with drawn:=w.drawn+1 } rfl;rcases hd with⟨e',rfl⟩ | rfl <;> simp only[Builtin.append_,Jn.val,List.getElem?_toArray,List.getElem?_cons_zero,List.getElem?_cons_succ,Sem.run_bind,Sem.run_pure,Jz hT,Jz hU,Qy i2,i3,hlen,Result.andThen_ok,if_neg hfit]
  all_goals
   simp only[Bool.false_eq_true,if_false,hlen,Result.andThen_ok,Sem.run_bind,if_neg hfit,Wm i2,i4,false_or,hb0,and_false,if_neg hc48',Bool.not_false,if_true,run_choose,Question.forced,hcut,run_askRoom,hold',hcs']
  all_goals
   have hsub:s.len+n+t%(2^63-(s.len+n))-(s.len+n)=t%(2^63-(s.len+n)):=by omega
   rw[hsub];simp only[Yz i2 i5,Result.andThen_ok,X1 hsh,newRow,Sem.run_bind,run_newObj,Sem.run_pure];rw[hzc];simp[Pl.addr,t]
def zw{T U et:Nat}{ti:TI} (hT:P.underlying T=some (.slice et)) (hU:P.underlying U=some (.int .i64)) (h1 : τ.get et=some ti) (h2:(match ti.d with | .tup=>true | _=>false)=false) (hb:0<ti.bytes)
 {s:Jn} {n:Int} {ty:Nat} {w:World} {K:Jn→Hp} (hr:apz et ti.kd ti.bytes s n w.heap K) :
 ∃z w',(Builtin.append_ #[T,U] ty #[s.val,.int .i64 n]).run P w = .ok (Jn.val z) w'∧Yo w w'∧K z w'.heap:=by
 have hsh:=YM hτ h1 h2;obtain⟨_,i,_,i2,i3,i4,i5,_⟩:=(hτ _ ti h1 h2).ex;obtain⟨n0,n1,n2,hr⟩:=hr;have hwr:IntKind.i64.wrap n=n:=by rw[IntKind.wrap_i64];omega
 have e1:¬n<0:=by omega
 have e2:¬n*(ti.bytes:Int)>2^48:=by simpa using n2
 have hzc:∀m:Nat,Builtin.zeroCells (ti.kd.cells ti.kd.zero).toArray m=(Xl ti.kd m).toArray:=by
  intro m;have:=Vf ti.kd m;simpa[Builtin.zeroCells,Kd.cells_length] using this
 have hap:∀w':World,(if n.toNat*ti.kd.size=0 then(pure #[]:Sem (Array Value)) else do pure (Builtin.zeroCells (←zeroValue et).cells n.toNat)).run P w' = .ok (Xl ti.kd n.toNat).toArray w':=by
  intro w';split
  ·rename_i h0
   have hl:(Xl ti.kd n.toNat).length=n.toNat*ti.kd.size:=by simp[Xl,List.length_flatMap,Kd.cells_length]
   rw[List.eq_nil_of_length_eq_zero (by omega:(Xl ti.kd n.toNat).length=0)];simp
  ·simp[Yz i2 i5,X1 hsh,hzc]
 have hpl:∀c∈Xl ti.kd n.toNat,XC c:=by
  intro c hc;simp only[Xl,List.mem_flatMap]at hc;obtain⟨_,_,hc⟩:=hc;exact Vv _ _ c hc
 unfold ap at hr;split at hr
 ·rename_i hfit
  split at hr
  ·rename_i l hl
   obtain⟨c,V,lo,hi,a1,a2,a3,a4⟩:=hr;have hs:=YQ (P:=P) (l:=⟨l.b,l.o+s.len*ti.kd.size⟩) (Xl ti.kd n.toNat) 0 w c V lo hi a1 (by simpa using a2) (by simpa using a3) hpl;refine⟨_,{ w with heap:=w.heap.setIfInBounds l.b (.cells (Xz c (l.o+s.len*ti.kd.size) (Xl ti.kd n.toNat)) V (lo,hi)) },?_,⟨rfl,rfl⟩,a4⟩;simp at hs;have ha:l.addr.add (s.len*ti.kd.size)=(Pl.mk l.b (l.o+s.len*ti.kd.size)).addr:=by simp
   simp only[Builtin.append_,Jn.val,List.getElem?_toArray,List.getElem?_cons_zero,List.getElem?_cons_succ,Sem.run_bind,Sem.run_pure,Jz hT,Jz hU,Qy i2,i3,Result.andThen_ok,asInt,asIntOf,hwr,if_neg e1,Wm i2,i4,if_neg e2,if_true,if_pos hfit,Bool.not_true,Bool.false_eq_true,if_false,hap,Jn.at_some hl,Jn.at_mk,ha,hs]
  ·rename_i hl
   obtain⟨h0,hr⟩:=hr;rw[h0]at hap;refine⟨_,w,?_,⟨rfl,rfl⟩,hr⟩;simp only[Builtin.append_,Jn.val,List.getElem?_toArray,List.getElem?_cons_zero,List.getElem?_cons_succ,Sem.run_bind,Sem.run_pure,Jz hT,Jz hU,Qy i2,i3,Result.andThen_ok,asInt,asIntOf,hwr,if_neg e1,Wm i2,i4,if_neg e2,if_true,if_pos hfit,Bool.not_true,Bool.false_eq_true,if_false,hap,Jn.at_none hl,Jn.at_mk0]
   cases s.wd.v <;> simp[storeCells]
 ·rename_i hfit
  obtain⟨hcap,hr⟩:=hr;have hneed:s.len+n.toNat≤Builtin.nextslicecap (s.len+n.toNat) s.cap:=UJ;have hneed48:s.len+n.toNat≤281474976710656:=Nat.le_trans hneed (Nat.le_trans (Nat.le_mul_of_pos_right _ hb) hcap);obtain⟨old,hK,_,_,hold⟩:=Vx hr;have hcut:∀t,(Question.appendCap (s.len+n.toNat) s.cap et).cut t=s.len+n.toNat+t%(2^63-(s.len+n.toNat)):=fun t=>rfl
  have hlt:∀t,s.len+n.toNat+t%(2^63-(s.len+n.toNat))<9223372036854775808:=fun t=>by
   have:=Nat.mod_lt t (show 0<2^63-(s.len+n.toNat) by omega);omega
  have hc48':¬Builtin.nextslicecap (s.len+n.toNat) s.cap*ti.bytes>2^48:=by simpa using hcap
  have hov:¬(((s.len+n.toNat:Nat):Int)>IntKind.i64.max∧(True∨ti.bytes=0)):=by
   rintro⟨h,_⟩;have:IntKind.i64.max=9223372036854775807:=by decide
   omega
  let t:=w.tape w.drawn (.appendCap (s.len+n.toNat) s.cap et)
  have hK':=hK (s.len+n.toNat+t%(2^63-(s.len+n.toNat))) (by omega) (hlt t);refine⟨_,{ w with drawn:=w.drawn+1,heap:=w.heap.push (.cells (old++Xl ti.kd n.toNat++Xl ti.kd (s.len+n.toNat+t%(2^63-(s.len+n.toNat))-(s.len+n.toNat))).toArray et) },?_,⟨rfl,rfl⟩,hK'⟩;have ho':∀w':World,w'.heap=w.heap→(Builtin.firstCells ti.kd.size s.len (.slice s.at s.len s.cap)).run P w' = .ok old.toArray w':=fun w' hw'=>hold w' hw' ti.kd.size s.len rfl;have hold':=ho' { w with drawn:=w.drawn+1 } rfl;simp only[Builtin.append_,Jn.val,List.getElem?_toArray,List.getElem?_cons_zero,List.getElem?_cons_succ,Sem.run_bind,Sem.run_pure,Jz hT,Jz hU,Qy i2,i3,Result.andThen_ok,asInt,asIntOf,hwr,if_neg e1,Wm i2,i4,if_neg e2,if_true,if_neg hfit,Bool.not_true,Bool.false_eq_true,if_false,hap,if_neg hov,if_neg hc48',run_choose,Question.forced,hcut,run_askRoom,hold'];have hsub:s.len+n.toNat+t%(2^63-(s.len+n.toNat))-(s.len+n.toNat)=t%(2^63-(s.len+n.toNat)):=by omega
  rw[hsub];simp only[Yz i2 i5,Result.andThen_ok,X1 hsh,newRow,Sem.run_bind,run_newObj,Sem.run_pure];rw[hzc];simp[Pl.addr,t]
end
end Go.Al
