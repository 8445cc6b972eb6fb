/- The logic: definitions. A Go function's code is turned into a plain proposition over typed values and the heap; its soundness is the next files'. -/
import Derived.CallsIn
import Derived.OrdersIn
import Derived.RangeFuncLeaves
namespace Go.Al

abbrev Heap := Array Obj

structure Pl where
  b : Nat
  o : Nat
  deriving DecidableEq

/-- a place within the same block -/
@[reducible] def Pl.fld (l : Pl) (n : Nat) : Pl := ⟨l.b, l.o + n⟩
def Pl.addr (l : Pl) : Addr := ⟨l.b, l.o, none⟩

structure Slc where
  a : Option Pl
  len : Nat
  cap : Nat
  deriving DecidableEq

/-- kinds of values -/
inductive Kd where
  | i | u8 | u32 | u64 | b | s | p | sl | m | f | v | un | d | l
  | pr (x y : Kd) | ag (x : Kd) | tp (x : Kd) | ar (n : Nat) (x : Kd) | it (x y : Kd)
  deriving DecidableEq

@[reducible] def Kd.Ty : Kd → Type
  | .i => Int | .u8 => UInt8 | .u32 => UInt32 | .u64 => UInt64 | .b => Bool | .s => ByteArray
  | .p => Option Pl | .sl => Slc | .m => Option Nat | .f => Value | .v => Value | .un => Unit | .d => List Nat | .l => Pl
  | .pr x y => x.Ty × y.Ty | .ag x => x.Ty | .tp x => x.Ty | .ar n x => Vector x.Ty n | .it _ _ => Nat

def Slc.val (s : Slc) : Value := .slice (s.a.map Pl.addr) s.len s.cap

/-- function values, interface values: never a struct or a tuple -/
def fnCell (x : Value) : Value := match x with | .func _ _ _ => x | _ => .nilFunc
def ifCell (x : Value) : Value := match x with | .iface _ _ => x | _ => .nilIface
/-- a value's cells -/
def Kd.cells : (k : Kd) → k.Ty → List Value
  | .i, n => [.int .i64 n] | .u8, x => [.int .u8 x.toNat] | .u32, x => [.int .u32 x.toNat] | .u64, x => [.int .u64 x.toNat]
  | .b, x => [.bool x] | .s, x => [.string x] | .p, x => [.pointer (x.map Pl.addr)] | .sl, x => [x.val] | .m, x => [.map x]
  | .f, x => [fnCell x] | .v, x => [ifCell x] | .un, _ => [] | .d, _ => [] | .l, x => [.pointer (some x.addr)]
  | .pr x y, z => x.cells z.1 ++ y.cells z.2 | .ag x, z => x.cells z | .tp _, _ => []
  | .ar _ x, z => z.toList.flatMap x.cells | .it _ _, z => [.pointer (some ⟨z, 0, none⟩)]

def Kd.size : Kd → Nat
  | .un => 0 | .d => 0 | .pr x y => x.size + y.size | .ag x => x.size | .tp _ => 0 | .ar n x => n * x.size
  | _ => 1

def Kd.zero : (k : Kd) → k.Ty
  | .i => (0 : Int) | .u8 => (0 : UInt8) | .u32 => (0 : UInt32) | .u64 => (0 : UInt64) | .b => false | .s => ⟨#[]⟩
  | .p => none | .sl => ⟨none, 0, 0⟩ | .m => none | .f => Value.nilFunc | .v => Value.nilIface | .un => () | .d => [] | .l => ⟨0, 0⟩
  | .pr x y => (x.zero, y.zero) | .ag x => x.zero | .tp x => x.zero | .ar n x => Vector.replicate n x.zero | .it _ _ => (0 : Nat)

def one : List Value → Value
  | [c] => c
  | _ => .tuple #[]

/-- a value that is no tuple of results -/
def Kd.val0 : (k : Kd) → k.Ty → Value
  | .ag x, z => .agg (x.cells z).toArray
  | .ar n x, z => .agg ((Kd.ar n x).cells z).toArray
  | k, z => one (k.cells z)
def Kd.vals : (k : Kd) → k.Ty → List Value
  | .pr x y, z => Kd.val0 x z.1 :: Kd.vals y z.2
  | .un, _ => []
  | k, z => [Kd.val0 k z]
/-- a value -/
def Kd.val : (k : Kd) → k.Ty → Value
  | .tp x, z => .tuple (Kd.vals x z).toArray
  | k, z => k.val0 z

abbrev SV := (k : Kd) × k.Ty
def SV.val (x : SV) : Value := x.1.val x.2

def SV.as (k : Kd) (x : SV) : Option k.Ty := if h : x.1 = k then some (h ▸ x.2) else none
def asI : SV → Option Int | ⟨.i, n⟩ => some n | _ => none
def asU8 : SV → Option UInt8 | ⟨.u8, n⟩ => some n | _ => none
def asU32 : SV → Option UInt32 | ⟨.u32, n⟩ => some n | _ => none
def asU64 : SV → Option UInt64 | ⟨.u64, n⟩ => some n | _ => none
def asB : SV → Option Bool | ⟨.b, n⟩ => some n | _ => none
def asS : SV → Option ByteArray | ⟨.s, n⟩ => some n | _ => none
def asP : SV → Option (Option Pl) | ⟨.p, n⟩ => some n | _ => none
def asSl : SV → Option Slc | ⟨.sl, n⟩ => some n | _ => none
def asM : SV → Option (Option Nat) | ⟨.m, n⟩ => some n | _ => none
def asF : SV → Option Value | ⟨.f, n⟩ => some n | _ => none
def asD : SV → Option (List Nat) | ⟨.d, n⟩ => some n | _ => none
/-- a whole number of whatever kind -/
def asZ : SV → Option Int
  | ⟨.i, n⟩ => some n | ⟨.u8, n⟩ => some n.toNat | ⟨.u32, n⟩ => some n.toNat | ⟨.u64, n⟩ => some n.toNat | _ => none

/-- what is known of temporaries -/
abbrev Env := List (Nat × Option SV)
def Env.get : Env → Nat → Option SV
  | [], _ => none
  | (k, v) :: r, t => match Nat.beq k t with | true => v | false => Env.get r t
def Env.put (ρ : Env) (d : Option Nat) (v : Option SV) : Env :=
  match d with | none => ρ | some d => (d, v) :: ρ
/-- the key of the marks among the deferred calls -/
def DS : Nat := 1000000000

def ofConst : Value → Option SV
  | .int .i64 n => some ⟨.i, n⟩
  | .int .u8 (.ofNat n) => match Nat.blt n 256 with | true => some ⟨.u8, UInt8.ofNat n⟩ | false => none
  | .int .u32 (.ofNat n) => match Nat.blt n 4294967296 with | true => some ⟨.u32, UInt32.ofNat n⟩ | false => none
  | .int .u64 (.ofNat n) => match Nat.blt n 18446744073709551616 with | true => some ⟨.u64, UInt64.ofNat n⟩ | false => none
  | .bool b => some ⟨.b, b⟩
  | .string s => some ⟨.s, s⟩
  | .pointer none => some ⟨.p, none⟩
  | .slice none 0 0 => some ⟨.sl, ⟨none, 0, 0⟩⟩
  | .map none => some ⟨.m, none⟩
  | .nilFunc => some ⟨.f, .nilFunc⟩
  | .nilIface => some ⟨.v, .nilIface⟩
  | _ => none
def ev (ρ : Env) : Operand → Option SV
  | .tmp t => match Nat.beq t DS with | true => none | false => ρ.get t
  | .const v => ofConst v
  | .func f => some ⟨.f, .func (.func f) #[] #[]⟩
  | .global _ => none

/-! types -/
inductive TD where
  | k | str | ptr | fn | ifc | tup
  | slice (elem : Nat)
  | array (n elem : Nat)
  | struct (fs : List (Nat × Nat))
  | map (key elem : Nat)
structure TI where
  d : TD
  kd : Kd
  bytes : Nat
  /-- == on it is plain: no interface, pointer in it -/
  plain : Bool
abbrev Tys := List (Nat × TI)
def Tys.get : Tys → Nat → Option TI
  | [], _ => none
  | (k, v) :: r, t => match Nat.beq k t with | true => some v | false => Tys.get r t
def Tys.kd (τ : Tys) (t : Nat) : Option Kd := match τ.get t with | some ⟨.tup, _, _, _⟩ => none | some i => some i.kd | none => none
/-- the kind of what a call hands back -/
def Tys.rk (τ : Tys) (t : Nat) : Option Kd := match τ.get t with | some i => some i.kd | none => none
def Tys.elem (τ : Tys) (t : Nat) : Option (Nat × TI) :=
  match τ.get t with
  | some ⟨.slice e, _, _, _⟩ | some ⟨.array _ e, _, _, _⟩ => match τ.get e with | some ⟨.tup, _, _, _⟩ => none | some i => some (e, i) | none => none
  | _ => none
def nth : List (Nat × Nat) → Nat → Option (Nat × Nat)
  | [], _ => none
  | x :: _, 0 => some x
  | _ :: r, n + 1 => nth r n
def Tys.field (τ : Tys) (t n : Nat) : Option (Nat × Nat) :=
  match τ.get t with
  | some ⟨.struct fs, _, _, _⟩ => nth fs n
  | _ => none

/-! the words -/
def rdCells (h : Heap) (l : Pl) (n : Nat) : Option (List Value) :=
  match h[l.b]? with
  | some (.cells c _ _) => if l.o + n ≤ c.size then some ((c.toList.drop l.o).take n) else none
  | _ => none
/-- a place holds a value -/
def sm (k : Kd) (l : Pl) (x : k.Ty) (h : Heap) : Prop := rdCells h l k.size = some (k.cells x)
def ld (k : Kd) (l : Pl) (h : Heap) (K : k.Ty → Prop) : Prop := ∃ x, sm k l x h ∧ K x
def wrCells (c : Array Value) (o : Nat) (xs : List Value) : Array Value :=
  (c.toList.take o ++ xs ++ c.toList.drop (o + xs.length)).toArray
/-- cells are written -/
def stc (l : Pl) (xs : List Value) (h : Heap) (K : Heap → Prop) : Prop :=
  ∃ c T lo hi, h[l.b]? = some (.cells c T (lo, hi)) ∧ l.o + xs.length ≤ c.size ∧ (hi ≤ l.o ∨ l.o + xs.length ≤ lo ∨ xs = []) ∧
    K (h.setIfInBounds l.b (.cells (wrCells c l.o xs) T (lo, hi)))
def st (k : Kd) (l : Pl) (x : k.Ty) (h : Heap) (K : Heap → Prop) : Prop := stc l (k.cells x) h K
/-- a variable of type T -/
def vobj (T : Nat) (k : Kd) (x : k.Ty) : Obj := .cells (k.cells x).toArray T
def new (T : Nat) (k : Kd) (x : k.Ty) (h : Heap) (K : Nat → Heap → Prop) : Prop := K h.size (h.push (vobj T k x))
/-- a row -/
def robj (T : Nat) (k : Kd) (xs : List k.Ty) : Obj := .cells (xs.flatMap k.cells).toArray T
def nck (p : Option Pl) (K : Pl → Prop) : Prop := ∃ l, p = some l ∧ K l
def w64 (n : Int) : Int := IntKind.i64.wrap n
def andI (x y : Int) : Int := IntKind.i64.wrap (BitVec.ofInt 64 x &&& BitVec.ofInt 64 y).toNat
def orI (x y : Int) : Int := IntKind.i64.wrap (BitVec.ofInt 64 x ||| BitVec.ofInt 64 y).toNat
def xorI (x y : Int) : Int := IntKind.i64.wrap (BitVec.ofInt 64 x ^^^ BitVec.ofInt 64 y).toNat
def andNotI (x y : Int) : Int := IntKind.i64.wrap (BitVec.ofInt 64 x &&& ~~~ (BitVec.ofInt 64 y)).toNat
def shlI (x y : Int) : Int := IntKind.i64.wrap (x * 2 ^ (min y.toNat 64))
def shrI (x y : Int) : Int := x.fdiv (2 ^ (min y.toNat 64))
def u8I (n : Int) : UInt8 := UInt8.ofNat (IntKind.u8.wrap n).toNat
def u32I (n : Int) : UInt32 := UInt32.ofNat (IntKind.u32.wrap n).toNat
def u64I (n : Int) : UInt64 := UInt64.ofNat (IntKind.u64.wrap n).toNat
def strLt (x y : ByteArray) : Bool := Op.bytesLess x.data.toList y.data.toList

def ix (s : Slc) (i : Int) (sz : Nat) (K : Pl → Prop) : Prop := ∃ l, s.a = some l ∧ 0 ≤ i ∧ i < s.len ∧ K ⟨l.b, l.o + i.toNat * sz⟩
def ixa (l : Pl) (n : Nat) (i : Int) (sz : Nat) (K : Pl → Prop) : Prop := 0 ≤ i ∧ i < n ∧ K ⟨l.b, l.o + i.toNat * sz⟩
def bat (s : ByteArray) (i : Int) : UInt8 := s.data.toList.getD i.toNat 0
def ixs (s : ByteArray) (i : Int) (K : UInt8 → Prop) : Prop := 0 ≤ i ∧ i < s.size ∧ K (bat s i)
def sls (s : ByteArray) (lo hi : Int) (K : ByteArray → Prop) : Prop := 0 ≤ lo ∧ lo ≤ hi ∧ hi ≤ s.size ∧ K (s.extract lo.toNat hi.toNat)
/-- x[lo:hi:mx] of a slice -/
def slx (s : Slc) (lo hi mx : Int) (sz : Nat) (K : Slc → Prop) : Prop :=
  0 ≤ lo ∧ lo ≤ hi ∧ hi ≤ mx ∧ mx ≤ s.cap ∧ K ⟨if mx.toNat = lo.toNat then s.a else s.a.map fun l => ⟨l.b, l.o + lo.toNat * sz⟩, hi.toNat - lo.toNat, mx.toNat - lo.toNat⟩
/-- x[lo:hi] of an array of n -/
def sla (l : Pl) (n : Nat) (lo hi : Int) (sz : Nat) (K : Slc → Prop) : Prop :=
  0 ≤ lo ∧ lo ≤ hi ∧ hi ≤ n ∧ K ⟨some (if n = lo.toNat then l else ⟨l.b, l.o + lo.toNat * sz⟩), hi.toNat - lo.toNat, n - lo.toNat⟩
def sadd (x y : ByteArray) (K : ByteArray → Prop) : Prop := ((x.size + y.size : Nat) : Int) ≤ 9223372036854775807 ∧ K (x ++ y)
def plainCell : Value → Prop
  | .agg _ => False
  | .tuple _ => False
  | _ => True

/-! ### memory -/
/-- the cells of a slice's first places -/
def slCells (s : Slc) (n : Nat) (h : Heap) (K : List Value → Prop) : Prop :=
  match s.a with
  | some l => ∃ cs, rdCells h l n = some cs ∧ (∀ c ∈ cs, plainCell c) ∧ K cs
  | none => K []
def bsm (l : Pl) (bs : List UInt8) (h : Heap) : Prop := rdCells h l bs.length = some (bs.flatMap Kd.u8.cells)
def b2s (s : Slc) (h : Heap) (K : ByteArray → Option (Heap → Prop) → Prop) : Prop :=
  match s.a with
  | some l => ∃ bs : List UInt8, bs.length = s.len ∧ bsm l bs h ∧ K ⟨bs.toArray⟩ (some (bsm l bs))
  | none => K ⟨#[]⟩ none
/-- a map's entries -/
def mobj (k e : Kd) (es : List (k.Ty × e.Ty × Nat)) (clock : Nat) : Obj :=
  .map (es.map fun x => { key := k.val x.1, val := e.val x.2.1, born := x.2.2 : MapEntry }).toArray clock
def msm (k e : Kd) (r : Nat) (es : List (k.Ty × e.Ty × Nat)) (clock : Nat) (h : Heap) : Prop := h[r]? = some (mobj k e es clock)
def Kd.beq : (k : Kd) → k.Ty → k.Ty → Bool
  | .i, x, y => decide (x = y) | .u8, x, y => decide (x = y) | .u32, x, y => decide (x = y) | .u64, x, y => decide (x = y)
  | .b, x, y => decide (x = y) | .s, x, y => decide (x = y) | .p, x, y => decide (x = y) | .sl, x, y => decide (x = y) | .m, x, y => decide (x = y)
  | .f, _, _ => false | .v, _, _ => false | .un, _, _ => true | .d, _, _ => false | .l, _, _ => false
  | .pr k1 k2, x, y => k1.beq x.1 y.1 && k2.beq x.2 y.2 | .ag k1, x, y => k1.beq x y | .tp _, _, _ => false
  | .ar _ k1, x, y => (x.toList.zip y.toList).all fun z => k1.beq z.1 z.2 | .it _ _, _, _ => false
/-- kinds that == tells apart by their cells -/
def Kd.pk : Kd → Bool
  | .i => true | .u8 => true | .u32 => true | .u64 => true | .b => true | .s => true | .un => true
  | .pr x y => x.pk && y.pk | .ag x => x.pk | .ar _ x => x.pk
  | _ => false
def mfind (k e : Kd) (key : k.Ty) : List (k.Ty × e.Ty × Nat) → Option e.Ty
  | [] => none
  | x :: r => if k.beq key x.1 = true then some x.2.1 else mfind k e key r
def lk (k e : Kd) (m : Option Nat) (key : k.Ty) (h : Heap) (K : Option e.Ty → Option (Heap → Prop) → Prop) : Prop :=
  match m with
  | none => K none none
  | some r => ∃ es clock, msm k e r es clock h ∧ K (mfind k e key es) (some (msm k e r es clock))
def mput (k e : Kd) (key : k.Ty) (x : e.Ty) (clock : Nat) : List (k.Ty × e.Ty × Nat) → List (k.Ty × e.Ty × Nat)
  | [] => [(key, x, clock)]
  | y :: r => if k.beq key y.1 = true then (key, x, y.2.2) :: r else y :: mput k e key x clock r
def mhas (k e : Kd) (key : k.Ty) (es : List (k.Ty × e.Ty × Nat)) : Bool := (mfind k e key es).isSome
def mu (k e : Kd) (m : Option Nat) (key : k.Ty) (x : e.Ty) (h : Heap) (K : Heap → Prop) : Prop :=
  ∃ r es clock, m = some r ∧ msm k e r es clock h ∧
    K (h.setIfInBounds r (mobj k e (mput k e key x clock es) (if mhas k e key es then clock else clock + 1)))
def msz (r : Nat) (es : Array MapEntry) (clock : Nat) (h : Heap) : Prop := h[r]? = some (.map es clock)
def mlen (m : Option Nat) (h : Heap) (K : Int → Option (Heap → Prop) → Prop) : Prop :=
  match m with
  | none => K 0 none
  | some r => ∃ es clock, msz r es clock h ∧ K es.size (some (msz r es clock))
def mclr (m : Option Nat) (h : Heap) (K : Heap → Prop) : Prop :=
  match m with
  | none => K h
  | some r => ∃ es clock, h[r]? = some (.map es clock) ∧ K (h.setIfInBounds r (.map #[] clock))
def zeros (k : Kd) (n : Nat) : List Value := (List.replicate n k.zero).flatMap k.cells
/-- a new row of n zeros, room for c -/
def mk (T : Nat) (k : Kd) (bytes : Nat) (n c : Int) (h : Heap) (K : Slc → Heap → Prop) : Prop :=
  0 ≤ n ∧ n ≤ c ∧ c ≤ 281474976710656 ∧ c * bytes ≤ 281474976710656 ∧
    K ⟨some ⟨h.size, 0⟩, n.toNat, c.toNat⟩ (h.push (robj T k (List.replicate c.toNat k.zero)))
/-- a new row of these -/
def bs (T : Nat) (k : Kd) (xs : List k.Ty) (h : Heap) (K : Slc → Heap → Prop) : Prop :=
  K ⟨some ⟨h.size, 0⟩, xs.length, xs.length⟩ (h.push (robj T k xs))
/-- append: n elements more, of such cells -/
def ap (T : Nat) (k : Kd) (bytes : Nat) (s : Slc) (n : Nat) (new : List Value) (h : Heap) (K : Slc → Heap → Prop) : Prop :=
  if s.len + n ≤ s.cap then
    match s.a with
    | some l => stc ⟨l.b, l.o + s.len * k.size⟩ new h fun h' => K ⟨some l, s.len + n, s.cap⟩ h'
    | none => K ⟨none, s.len + n, s.cap⟩ h
  else
    Builtin.nextslicecap (s.len + n) s.cap * bytes ≤ 281474976710656 ∧
    slCells s (s.len * k.size) h fun old => ∀ c, s.len + n ≤ c → c < 9223372036854775808 →
      K ⟨some ⟨h.size, 0⟩, s.len + n, c⟩ (h.push (.cells (old ++ new ++ zeros k (c - (s.len + n))).toArray T))
/-- append of make(n) -/
def apz (T : Nat) (k : Kd) (bytes : Nat) (s : Slc) (n : Int) (h : Heap) (K : Slc → Heap → Prop) : Prop :=
  0 ≤ n ∧ n ≤ 281474976710656 ∧ n * bytes ≤ 281474976710656 ∧ ap T k bytes s n.toNat (zeros k n.toNat) h K
def clr (k : Kd) (s : Slc) (h : Heap) (K : Heap → Prop) : Prop :=
  match s.a with
  | some l => stc l (zeros k s.len) h K
  | none => K h
def mkm (h : Heap) (K : Nat → Heap → Prop) : Prop := K h.size (h.push (.map #[] 0))
/-- a range over a map: its iterator is laid -/
def rng (m : Option Nat) (h : Heap) (K : Nat → Heap → Prop) : Prop :=
  match m with
  | none => K h.size (h.push (.mapIter none 0 #[] 0))
  | some r => ∃ es clock, h[r]? = some (.map es clock) ∧ K h.size (h.push (.mapIter (some r) clock #[] clock))
/-- the next entry: over only if no old entry is left; whichever entry has not been seen -/
def nx (k e : Kd) (t : Nat) (h : Heap) (over : Heap → Prop) (step : k.Ty → e.Ty → Heap → Prop) : Prop :=
  (∃ a c, h[t]? = some (.mapIter none a #[] c) ∧ over h) ∨
  ∃ r since seen last es clock, h[t]? = some (.mapIter (some r) since seen last) ∧ msm k e r es clock h ∧ (seen = #[] ∨ es = [] ∨ ∃ x ∈ es, x.2.2 < last) ∧
    ((∀ x ∈ es, x.2.2 ∈ seen ∨ since ≤ x.2.2) → over h) ∧ ∀ x ∈ es, x.2.2 ∉ seen → step x.1 x.2.1 (h.setIfInBounds t (.mapIter (some r) since (seen.push x.2.2) clock))
/-- the entry stepped to -/
def en (k e : Kd) (t : Nat) (h : Heap) (K : k.Ty → e.Ty → Prop) : Prop :=
  ∃ (r since : Nat) (seen : Array Nat) (stamp : Nat) (es : List (k.Ty × e.Ty × Nat)) (clock : Nat) (x : k.Ty × e.Ty × Nat), h[t]? = some (.mapIter (some r) since (seen.push stamp) clock) ∧ msm k e r es clock h ∧ es.find? (fun x => x.2.2 == stamp) = some x ∧ K x.1 x.2.1
/-- dst[..] = src[..]: n elements -/
def cp (d : Slc) (n : Nat) (cs : List Value) (h : Heap) (K : Int → Heap → Prop) : Prop :=
  match d.a with
  | some l => stc l cs h (K n)
  | none => K n h
def s2b (T : Nat) (s : ByteArray) (h : Heap) (K : Slc → Heap → Prop) : Prop :=
  ∀ c, s.size ≤ c → (s.size < 9223372036854775808 → c < 9223372036854775808) → K ⟨some ⟨h.size, 0⟩, s.size, c⟩ (h.push (.cells (s.data.toList.flatMap Kd.u8.cells ++ zeros .u8 (c - s.size)).toArray T (c, c + 1)))
/-- ways meet -/
def jn (k : Kd) (body : (k.Ty → Heap → Prop) → Prop) (next : k.Ty → Heap → Prop) : Prop :=
  ∃ R : k.Ty → Heap → Prop, body R ∧ ∀ x h, R x h → next x h
/-- a loop -/
def lp (k : Kd) (body : k.Ty → Heap → (k.Ty → Heap → Prop) → Prop) (x : k.Ty) (h : Heap) : Prop :=
  ∃ (I : k.Ty → Heap → Prop) (μ : k.Ty → Heap → Nat), I x h ∧ ∀ x h, I x h → body x h fun x' h' => I x' h' ∧ μ x' h' < μ x h
end Go.Al
