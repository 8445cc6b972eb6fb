/- The logic: what each operation, each piece of code comes to. -/
import Derived.Test.YtekhlfnjaenmkaaAlA
namespace Go.Al
section
variable (τ : Tys)

def eqR (T : Nat) (a b : SV) (K : Bool → Prop) : Prop :=
  match asI a, asI b with
  | some x, some y => K (decide (x = y))
  | _, _ => match asZ a, asZ b with
  | some x, some y => a.1 = b.1 ∧ K (decide (x = y))
  | _, _ => match asS a, asS b with
  | some x, some y => K (decide (x = y))
  | _, _ => match τ.get T with
  | some ⟨.k, .b, _, _⟩ => (match asB a, asB b with
    | some x, some y => K (decide (x = y))
    | _, _ => False)
  | some ⟨.ptr, _, _, _⟩ => (match asP a, asP b with
    | some x, some none => K (decide (x = none))
    | some none, some y => K (decide (y = none))
    | _, _ => False)
  | some ⟨.slice _, _, _, _⟩ => (match asSl a, asSl b with
    | some x, some ⟨none, 0, 0⟩ => K (decide (x.a = none))
    | _, _ => False)
  | some ⟨.map _ _, _, _, _⟩ => (match asM a, asM b with
    | some x, some none => K (decide (x = none))
    | _, _ => False)
  | some ⟨.fn, _, _, _⟩ => (match asF a, asF b with
    | some x, some .nilFunc => K (match fnCell x with | .nilFunc => true | _ => false)
    | _, _ => False)
  | some ⟨_, k, _, true⟩ => (match a.as k, b.as k with
    | some x, some y => K (k.beq x y)
    | _, _ => False)
  | _ => False

def intR (op : BinOp) (x y : Int) (K : SV → Prop) : Prop :=
  match op with
  | .add => K ⟨.i, w64 (x + y)⟩ | .sub => K ⟨.i, w64 (x - y)⟩ | .mul => K ⟨.i, w64 (x * y)⟩
  | .quo => y ≠ 0 ∧ K ⟨.i, w64 (x.tdiv y)⟩ | .rem => y ≠ 0 ∧ K ⟨.i, x.tmod y⟩
  | .and => K ⟨.i, andI x y⟩ | .or => K ⟨.i, orI x y⟩ | .xor => K ⟨.i, xorI x y⟩ | .andNot => K ⟨.i, andNotI x y⟩
  | .lss => K ⟨.b, decide (x < y)⟩ | .leq => K ⟨.b, decide (x ≤ y)⟩ | .gtr => K ⟨.b, decide (x > y)⟩ | .geq => K ⟨.b, decide (x ≥ y)⟩
  | _ => False
def u8R (op : BinOp) (x y : UInt8) (K : SV → Prop) : Prop :=
  match op with
  | .add => K ⟨.u8, x + y⟩ | .sub => K ⟨.u8, x - y⟩ | .mul => K ⟨.u8, x * y⟩
  | .and => K ⟨.u8, x &&& y⟩ | .or => K ⟨.u8, x ||| y⟩ | .xor => K ⟨.u8, x ^^^ y⟩
  | .lss => K ⟨.b, decide (x < y)⟩ | .leq => K ⟨.b, decide (x ≤ y)⟩ | .gtr => K ⟨.b, decide (x > y)⟩ | .geq => K ⟨.b, decide (x ≥ y)⟩
  | _ => False
def u32R (op : BinOp) (x y : UInt32) (K : SV → Prop) : Prop :=
  match op with
  | .add => K ⟨.u32, x + y⟩ | .sub => K ⟨.u32, x - y⟩ | .mul => K ⟨.u32, x * y⟩
  | .and => K ⟨.u32, x &&& y⟩ | .or => K ⟨.u32, x ||| y⟩ | .xor => K ⟨.u32, x ^^^ y⟩
  | .lss => K ⟨.b, decide (x < y)⟩ | .leq => K ⟨.b, decide (x ≤ y)⟩ | .gtr => K ⟨.b, decide (x > y)⟩ | .geq => K ⟨.b, decide (x ≥ y)⟩
  | _ => False
def u64R (op : BinOp) (x y : UInt64) (K : SV → Prop) : Prop :=
  match op with
  | .add => K ⟨.u64, x + y⟩ | .sub => K ⟨.u64, x - y⟩ | .mul => K ⟨.u64, x * y⟩
  | .quo => y ≠ 0 ∧ K ⟨.u64, x / y⟩ | .rem => y ≠ 0 ∧ K ⟨.u64, x % y⟩
  | .and => K ⟨.u64, x &&& y⟩ | .or => K ⟨.u64, x ||| y⟩ | .xor => K ⟨.u64, x ^^^ y⟩
  | .lss => K ⟨.b, decide (x < y)⟩ | .leq => K ⟨.b, decide (x ≤ y)⟩ | .gtr => K ⟨.b, decide (x > y)⟩ | .geq => K ⟨.b, decide (x ≥ y)⟩
  | _ => False
def strR (op : BinOp) (x y : ByteArray) (K : SV → Prop) : Prop :=
  match op with
  | .add => sadd x y fun z => K ⟨.s, z⟩
  | .lss => K ⟨.b, strLt x y⟩ | .leq => K ⟨.b, strLt x y || decide (x = y)⟩
  | .gtr => K ⟨.b, !(strLt x y || decide (x = y))⟩ | .geq => K ⟨.b, !strLt x y⟩
  | _ => False
def shU8 (op : BinOp) (x : UInt8) (n : Int) : UInt8 := match op with | .shl => u8I (x.toNat * 2 ^ (min n.toNat 8)) | _ => u8I ((x.toNat : Int).fdiv (2 ^ (min n.toNat 8)))
def shU32 (op : BinOp) (x : UInt32) (n : Int) : UInt32 := match op with | .shl => u32I (x.toNat * 2 ^ (min n.toNat 32)) | _ => u32I ((x.toNat : Int).fdiv (2 ^ (min n.toNat 32)))
def shU64 (op : BinOp) (x : UInt64) (n : Int) : UInt64 := match op with | .shl => u64I (x.toNat * 2 ^ (min n.toNat 64)) | _ => u64I ((x.toNat : Int).fdiv (2 ^ (min n.toNat 64)))
def shR (op : BinOp) (a : SV) (n : Int) (K : SV → Prop) : Prop :=
  0 ≤ n ∧ (match asI a with
  | some x => K ⟨.i, match op with | .shl => shlI x n | _ => shrI x n⟩
  | none => match asU8 a with
  | some x => K ⟨.u8, shU8 op x n⟩
  | none => match asU32 a with
  | some x => K ⟨.u32, shU32 op x n⟩
  | none => match asU64 a with
  | some x => K ⟨.u64, shU64 op x n⟩
  | none => False)
def binR (op : BinOp) (T : Nat) (a b : SV) (K : SV → Prop) : Prop :=
  match op with
  | .eql => eqR τ T a b fun v => K ⟨.b, v⟩
  | .neq => eqR τ T a b fun v => K ⟨.b, !v⟩
  | .shl | .shr => match asZ b with | some n => shR op a n K | none => False
  | op => match asI a, asI b with
  | some x, some y => intR op x y K
  | _, _ => match asS a, asS b with
  | some x, some y => strR op x y K
  | _, _ => match asU8 a, asU8 b with
  | some x, some y => u8R op x y K
  | _, _ => match asU32 a, asU32 b with
  | some x, some y => u32R op x y K
  | _, _ => match asU64 a, asU64 b with
  | some x, some y => u64R op x y K
  | _, _ => False
def unR (op : UnOp) (a : SV) (K : SV → Prop) : Prop :=
  match op with
  | .not => match asB a with | some x => K ⟨.b, !x⟩ | none => False
  | .neg => match asI a with | some x => K ⟨.i, w64 (0 - x)⟩ | none => False
  | .xor => match asU32 a with | some x => K ⟨.u32, ~~~x⟩ | none => match asI a with | some x => K ⟨.i, xorI (-1) x⟩ | none => False
  | _ => False
/-- between kinds of numbers -/
def toKind (k : Kd) (n : Int) : Option SV :=
  match k with
  | .u8 => some ⟨.u8, u8I n⟩ | .u32 => some ⟨.u32, u32I n⟩ | .u64 => some ⟨.u64, u64I n⟩ | .i => some ⟨.i, w64 n⟩ | _ => none
def convR (src dst : Nat) (a : SV) (h : Heap) (K : SV → Option (Heap → Prop) → Prop) : Prop :=
  match τ.kd src with
  | none => False
  | some _ => match τ.get dst with
  | some ⟨.k, k, _, _⟩ => (match asU8 a, k with
    | some x, .i => K ⟨.i, x.toNat⟩ none
    | some x, .u32 => K ⟨.u32, UInt32.ofNat x.toNat⟩ none
    | some x, .u8 => K ⟨.u8, x⟩ none
    | _, _ => match asZ a with | some n => (match toKind k n with | some v => K v none | none => False) | none => False)
  | some ⟨.str, _, _, _⟩ => (match asS a with
    | some x => K ⟨.s, x⟩ none
    | none => match asSl a, τ.get src with
    | some x, some ⟨.slice e, _, _, _⟩ => (match τ.get e with
      | some ⟨.k, .u8, _, _⟩ => b2s x h fun z q => K ⟨.s, z⟩ q
      | _ => False)
    | _, _ => False)
  | _ => False

def getF : (k : Kd) → k.Ty → Nat → Option SV
  | .pr x _, z, 0 => some ⟨x, z.1⟩
  | .pr _ y, z, n + 1 => getF y z.2 n
  | _, _, _ => none
def setF : (k : Kd) → k.Ty → Nat → SV → Option k.Ty
  | .pr x _, z, 0, v => match v.as x with | some y => some (y, z.2) | none => none
  | .pr _ y, z, n + 1, v => match setF y z.2 n v with | some w => some (z.1, w) | none => none
  | _, _, _, _ => none
def fillS (k : Kd) (z : k.Ty) (e : Operand → Option SV) : List (Nat × Operand) → Option k.Ty
  | [] => some z
  | (n, x) :: r => match e x with
    | some v => match setF k z n v with | some z => fillS k z e r | none => none
    | none => none
def fillA (k : Kd) (e : Operand → Option SV) : List (Nat × Operand) → List k.Ty → Option (List k.Ty)
  | [], z => some z
  | (n, x) :: r, z => match e x with
    | some v => match v.as k with | some y => (match Nat.blt n z.length with | true => fillA k e r (z.set n y) | false => none) | none => none
    | none => none
def fillV (k : Kd) (m : Nat) (e : Operand → Option SV) : List (Nat × Operand) → Vector k.Ty m → Option (Vector k.Ty m)
  | [], z => some z
  | (n, x) :: r, z => match e x with
    | some v => match v.as k with | some y => (match Nat.blt n m with | true => fillV k m e r (z.setIfInBounds n y) | false => none) | none => none
    | none => none
/-- a type's own fields, within its kind -/
def inner : (k : Kd) → k.Ty → SV
  | .ag x, z => ⟨x, z⟩
  | k, z => ⟨k, z⟩
def builtR (T : Nat) (e : Operand → Option SV) (ps : List (Nat × Operand)) (K : SV → Prop) : Prop :=
  match τ.get T with
  | some ⟨.struct _, .ag k, _, _⟩ => match fillS k k.zero e ps with | some z => K ⟨.ag k, z⟩ | none => False
  | some ⟨.array _ _, .ar m k, _, _⟩ => match fillV k m e ps (Vector.replicate m k.zero) with | some z => K ⟨.ar m k, z⟩ | none => False
  | _ => False
def evs (e : Operand → Option SV) : List Operand → Option (List Value)
  | [] => some []
  | x :: r => match e x, evs e r with | some v, some vs => some (v.val :: vs) | _, _ => none
def evZ (e : Operand → Option SV) (x : Option Operand) (d : Int) : Option Int :=
  match x with
  | none => some d
  | some x => match e x with | some v => asZ v | none => none
def sliceR (T : Nat) (a : SV) (e : Operand → Option SV) (lo hi mx : Option Operand) (K : SV → Prop) : Prop :=
  match τ.get T with
  | some ⟨.str, _, _, _⟩ => (match asS a with
    | some s => (match mx, evZ e lo 0, evZ e hi s.size with
      | none, some l, some h => sls s l h fun z => K ⟨.s, z⟩
      | _, _, _ => False)
    | none => False)
  | some ⟨.slice _, _, _, _⟩ => (match asSl a, τ.elem T with
    | some s, some (_, i) => (match evZ e lo 0, evZ e hi s.len, mx with
      | some l, some h, none => slx s l h s.cap i.kd.size fun z => K ⟨.sl, z⟩
      | some l, some h, some m => (match hi, e m with
        | some _, some m => (match asZ m with | some m => slx s l h m i.kd.size fun z => K ⟨.sl, z⟩ | none => False)
        | _, _ => False)
      | _, _, _ => False)
    | _, _ => False)
  | some ⟨.array n _, _, _, _⟩ => (match asP a, τ.elem T, mx with
    | some (some l), some (_, i), none => (match evZ e lo 0, evZ e hi n with
      | some x, some y => sla l n x y i.kd.size fun z => K ⟨.sl, z⟩
      | _, _ => False)
    | _, _, _ => False)
  | _ => False
def minG (f : Int → Int → Int) : Int → List SV → Option Int
  | a, [] => some a
  | a, y :: r => match asI y with | some b => minG f (f a b) r | none => none
def minR (l : List SV) (f : Int → Int → Int) : Option Int :=
  match l with
  | [] => none
  | x :: r => match asI x with | some a => minG f a r | none => none
def mn2 (x y : Int) : Int := if y < x then y else x
def mx2 (x y : Int) : Int := if y > x then y else x
def evl (e : Operand → Option SV) : List Operand → Option (List SV)
  | [] => some []
  | x :: r => match e x, evl e r with | some v, some vs => some (v :: vs) | _, _ => none
def arrAt (n : Nat) (k : Kd) (z : Vector k.Ty n) (i : Int) (K : SV → Prop) : Prop := 0 ≤ i ∧ i < n ∧ K ⟨k, z.toList.getD i.toNat k.zero⟩
def fieldAddrR (T : Nat) (v : SV) (n : Nat) (K : SV → Prop) : Prop :=
  match τ.field T n with
  | some (off, _) => (match asP v with | some (some l) => K ⟨.p, some (l.fld off)⟩ | _ => False)
  | none => False
def s2aR (T : Nat) (v : SV) (K : SV → Prop) : Prop :=
  match τ.get T with
  | some ⟨.array n _, _, _, _⟩ => (match asSl v with | some s => n ≤ s.len ∧ nck s.a fun l => K ⟨.p, some l⟩ | none => False)
  | _ => False
def fieldR (T : Nat) (v : SV) (n : Nat) (K : SV → Prop) : Prop :=
  match τ.get T with
  | some ⟨.struct _, .ag k, _, _⟩ => (match v.as (.ag k) with
    | some z => (match getF k z n with | some v => K v | none => False)
    | none => False)
  | _ => False
def indexAddrR (T : Nat) (a : SV) (n : Int) (K : SV → Prop) : Prop :=
  match τ.get T with
  | some ⟨.slice _, _, _, _⟩ => (match asSl a, τ.elem T with
    | some s, some (_, ti) => ix s n ti.kd.size fun l => K ⟨.p, some l⟩
    | _, _ => False)
  | some ⟨.array m _, _, _, _⟩ => (match asP a, τ.elem T with
    | some (some l), some (_, ti) => ixa l m n ti.kd.size fun l => K ⟨.p, some l⟩
    | _, _ => False)
  | _ => False
def indexR (T : Nat) (a : SV) (n : Int) (K : SV → Prop) : Prop :=
  match τ.get T with
  | some ⟨.str, _, _, _⟩ => (match asS a with | some s => ixs s n fun c => K ⟨.u8, c⟩ | none => False)
  | some ⟨.array _ _, .ar m k, _, _⟩ => (match a.as (.ar m k) with | some z => arrAt m k z n fun v => K v | none => False)
  | _ => False
def notTp : Kd → Bool
  | .tp _ => false
  | _ => true
def extractR (v : SV) (n : Nat) (K : SV → Prop) : Prop :=
  match v with
  | ⟨.tp k, z⟩ => (match getF k z n with | some v => (match notTp v.1 with | true => K v | false => False) | none => False)
  | _ => False
def loadR (T : Nat) (v : SV) (h : Heap) (K : SV → Option (Heap → Prop) → Prop) : Prop :=
  match τ.kd T with
  | some k => (match asP v with | some (some l) => ld k l h fun x => K ⟨k, x⟩ (some (sm k l x)) | _ => False)
  | none => False
/-- the kinds of a map's keys and elements -/
def Tys.mapOf (T : Nat) : Option (Kd × Kd) :=
  match τ.get T with
  | some ⟨.map kt et, _, _, _⟩ => (match τ.get kt, τ.kd et with
    | some ⟨_, kk, _, true⟩, some ek => (match kk.pk with | true => some (kk, ek) | false => none)
    | _, _ => none)
  | _ => none
/-- what a map answers -/
def lkV (ek : Kd) (ok : Bool) (z : ek.Ty) (b : Bool) : SV :=
  match ok with | true => ⟨.tp (.pr ek (.pr .b .un)), (z, (b, ()))⟩ | false => ⟨ek, z⟩
def lookupR (T : Nat) (m key : SV) (ok : Bool) (h : Heap) (K : SV → Option (Heap → Prop) → Prop) : Prop :=
  match τ.mapOf T with
  | some (kk, ek) => (match asM m, key.as kk with
    | some m, some key => lk kk ek m key h fun r q => K (lkV ek ok (r.getD ek.zero) r.isSome) q
    | _, _ => False)
  | none => False
def lenR (T : Nat) (v : SV) (h : Heap) (K : SV → Option (Heap → Prop) → Prop) : Prop :=
  match τ.get T with
  | some ⟨.slice _, _, _, _⟩ => (match asSl v with | some s => K ⟨.i, s.len⟩ none | none => False)
  | some ⟨.str, _, _, _⟩ => (match asS v with | some s => K ⟨.i, s.size⟩ none | none => False)
  | some ⟨.map _ _, _, _, _⟩ => (match asM v with | some m => mlen m h fun n q => K ⟨.i, n⟩ q | none => False)
  | some ⟨.array n _, _, _, _⟩ => K ⟨.i, n⟩ none
  | _ => False
def capR (T : Nat) (v : SV) (K : SV → Prop) : Prop :=
  match τ.get T with
  | some ⟨.slice _, _, _, _⟩ => (match asSl v with | some s => K ⟨.i, s.cap⟩ | none => False)
  | _ => False
def faceR (T : Nat) (v : SV) (K : SV → Prop) : Prop :=
  match τ.get T with
  | some ⟨.ifc, _, _, _⟩ | some ⟨.tup, _, _, _⟩ | none => False
  | _ => K ⟨.v, .iface T v.val⟩
/-- operations that leave the heap as it is: the value; what must still hold of the heap for it to be the same later -/
def rd (o : Op) (e : Operand → Option SV) (h : Heap) (K : SV → Option (Heap → Prop) → Prop) : Prop :=
  match o with
  | .move x | .assign x => match e x with | some v => K v none | none => False
  | .pick c a b => match e c with
    | some c => (match asB c with
      | some true => (match e a with | some v => K v none | none => False)
      | some false => (match e b with | some v => K v none | none => False)
      | none => False)
    | none => False
  | .nilCheck x => match e x with
    | some v => (match asP v with | some p => nck p fun l => K ⟨.p, some l⟩ none | none => False)
    | none => False
  | .binOp op T x y _ => match e x, e y with | some a, some b => binR τ op T a b fun v => K v none | _, _ => False
  | .unOp op _ x => match e x with | some a => unR op a fun v => K v none | none => False
  | .convert src dst x => match e x with | some a => convR τ src dst a h K | none => False
  | .makeFunc fn first captured => match evs e first.toList, evs e captured.toList with
    | some a, some b => K ⟨.f, .func fn a.toArray b.toArray⟩ none
    | _, _ => False
  | .makeInterface T x => match e x with | some a => faceR τ T a fun v => K v none | none => False
  | .build T ps => builtR τ T e ps.toList fun v => K v none
  | .slice T x lo hi mx => match e x with | some a => sliceR τ T a e lo hi mx fun v => K v none | none => False
  | .fieldAddr T x n => match e x with | some v => fieldAddrR τ T v n fun v => K v none | none => False
  | .sliceToArrayPointer T x => match e x with | some v => s2aR τ T v fun v => K v none | none => False
  | .field T x n => match e x with | some v => fieldR τ T v n fun v => K v none | none => False
  | .indexAddr T x i => match e x, e i with
    | some a, some j => (match asZ j with | some n => indexAddrR τ T a n fun v => K v none | none => False)
    | _, _ => False
  | .index T x i => match e x, e i with
    | some a, some j => (match asZ j with | some n => indexR τ T a n fun v => K v none | none => False)
    | _, _ => False
  | .extract t n => match e t with | some v => extractR v n fun v => K v none | none => False
  | .load T x => match e x with | some v => loadR τ T v h K | none => False
  | .lookup T m key ok => match e m, e key with | some m, some key => lookupR τ T m key ok h K | _, _ => False
  | .call { callee := .builtin .len, args, argTypes } => match args.toList, argTypes.toList with
    | [x], [T] => (match e x with | some v => lenR τ T v h K | none => False)
    | _, _ => False
  | .call { callee := .builtin .cap, args, argTypes } => match args.toList, argTypes.toList with
    | [x], [T] => (match e x with | some v => capR τ T v fun v => K v none | none => False)
    | _, _ => False
  | .call { callee := .builtin .min, args, .. } => match evl e args.toList with
    | some l => (match minR l mn2 with | some n => K ⟨.i, n⟩ none | none => False)
    | none => False
  | .call { callee := .builtin .max, args, .. } => match evl e args.toList with
    | some l => (match minR l mx2 with | some n => K ⟨.i, n⟩ none | none => False)
    | none => False
  | _ => False

/-- does an operation turn the heap, or lay something? -/
def turns : Op → Bool
  | .alloc _ | .box _ _ | .buildSlice _ _ _ | .store _ _ _ | .makeMap _ _ | .makeSlice _ _ _ | .mapUpdate _ _ _ _ | .insert _ _ _ _ | .range _ _ | .next _ _ | .entry _ => true
  | .call { callee := .builtin .len, .. } | .call { callee := .builtin .cap, .. } | .call { callee := .builtin .min, .. } | .call { callee := .builtin .max, .. } => false
  | .call _ => true
  | .convert src dst _ => match τ.get src, τ.get dst with | some ⟨.str, _, _, _⟩, some ⟨.slice _, _, _, _⟩ => true | _, _ => false
  | _ => false
end

section
variable (P : Program) (rt : Option Nat) (τ : Tys)
/-- a call's step goes through, and what is called comes back -/
def backs (R : Value → World → Prop) : Result Next → Prop
  | .ok (.value v) w' => R v w'
  | .ok (.enter f args) w' => CallsIn Fence.wide 0 P f args w' fun e w'' => ∃ v, e = .returned v ∧ R v w''
  | .ok (.round l f tmps assign body) w' => RoundIn Fence.wide 0 P l f tmps assign body w' fun e w'' => ∃ v, e = .returned v ∧ R v w''
  | _ => False
/-- a call of a function by its number: whatever the world about the heap is -/
def callF (f : Nat) (args : List Value) (k : Kd) (h : Heap) (K : k.Ty → Heap → Prop) : Prop :=
  ∀ w : World, w.heap = h → backs P (fun v w' => ∃ x, v = k.val x ∧ w'.os = w.os ∧ w'.output = w.output ∧ K x w'.heap) ((callFunc f args.toArray).run P w)
/-- a call of a function value -/
def callV (fv : Value) (args : List Value) (k : Kd) (h : Heap) (K : k.Ty → Heap → Prop) : Prop :=
  match fv with
  | .func (.func f) first cap => callF P f (first.toList ++ args ++ cap.toList) k h K
  | .func (.yield l) first _ => ∀ w : World, w.heap = h → backs P (fun v w' => ∃ x, v = k.val x ∧ w'.os = w.os ∧ w'.output = w.output ∧ K x w'.heap) ((Instr.yield l (first ++ args.toArray)).run P w)
  | _ => False
def apR (T U : Nat) (a b : SV) (h : Heap) (K : SV → Heap → Prop) : Prop :=
  match τ.get T, τ.elem T, asSl a with
  | some ⟨.slice _, _, _, _⟩, some (et, ti), some s => (match Nat.blt 0 ti.bytes, τ.get U with
    | true, some ⟨.slice _, _, _, _⟩ => (match asSl b with
      | some r => slCells r (r.len * ti.kd.size) h fun cs => ap et ti.kd ti.bytes s r.len cs h fun z h => K ⟨.sl, z⟩ h
      | none => False)
    | true, some ⟨.str, _, _, _⟩ => (match asS b, ti.kd with
      | some r, .u8 => ap et .u8 ti.bytes s r.size (r.data.toList.flatMap Kd.u8.cells) h fun z h => K ⟨.sl, z⟩ h
      | _, _ => False)
    | true, some ⟨.k, .i, _, _⟩ => (match asI b with | some n => apz et ti.kd ti.bytes s n h fun z h => K ⟨.sl, z⟩ h | none => False)
    | _, _ => False)
  | _, _, _ => False
def cpR (T : Nat) (a b : SV) (h : Heap) (K : SV → Heap → Prop) : Prop :=
  match τ.get T, τ.elem T, asSl a with
  | some ⟨.slice _, _, _, _⟩, some (_, ti), some s => (match asSl b with
    | some r => slCells r (min r.len s.len * ti.kd.size) h fun cs => cp s (min r.len s.len) cs h fun z h => K ⟨.i, z⟩ h
    | none => match asS b, ti.kd with
      | some r, .u8 => cp s (min r.size s.len) ((r.data.toList.take (min r.size s.len)).flatMap Kd.u8.cells) h fun z h => K ⟨.i, z⟩ h
      | _, _ => False)
  | _, _, _ => False
def clrR (T : Nat) (v : SV) (h : Heap) (K : Heap → Prop) : Prop :=
  match τ.get T, asM v, asSl v with
  | some ⟨.map _ _, _, _, _⟩, some m, _ => mclr m h K
  | some ⟨.slice _, _, _, _⟩, _, some s => (match τ.elem T with | some (_, ti) => clr ti.kd s h K | none => False)
  | _, _, _ => False
def resvR (r : Option Operand) (e : Operand → Option SV) : Bool :=
  match r with
  | none => true
  | some x => match e x with | some v => (match asZ v with | some _ => true | none => false) | none => false
/-- operations that turn the heap -/
def ef (o : Op) (oty : Nat) (rks : Nat → Option Kd) (e : Operand → Option SV) (h : Heap) (K : Option SV → Heap → Prop) : Prop :=
  match o with
  | .alloc T => match τ.kd T with | some k => new T k k.zero h fun b h => K (some ⟨.p, some ⟨b, 0⟩⟩) h | none => False
  | .box T x => match e x, τ.kd T with
    | some v, some k => (match v.as k with | some z => new T k z h fun b h => K (some ⟨.p, some ⟨b, 0⟩⟩) h | none => False)
    | _, _ => False
  | .store T x y => match e x, e y, τ.kd T with
    | some a, some v, some k => (match asP a, v.as k with | some (some l), some z => st k l z h fun h => K none h | _, _ => False)
    | _, _, _ => False
  | .buildSlice T n ps => match τ.get T, τ.elem T with
    | some ⟨.slice _, _, _, _⟩, some (et, ti) => (match Nat.ble (n * ti.kd.size) 16777216, fillA ti.kd e ps.toList (List.replicate n ti.kd.zero) with
      | true, some xs => bs et ti.kd xs h fun s h => K (some ⟨.sl, s⟩) h
      | _, _ => False)
    | _, _ => False
  | .makeSlice T n c => match e n, e c, τ.get T, τ.elem T with
    | some a, some b, some ⟨.slice _, _, _, _⟩, some (et, ti) => (match asI a, asI b, Nat.blt 0 ti.bytes with
      | some n, some c, true => mk et ti.kd ti.bytes n c h fun s h => K (some ⟨.sl, s⟩) h
      | _, _, _ => False)
    | _, _, _, _ => False
  | .makeMap T r => match τ.get T, resvR r e with
    | some ⟨.map _ _, _, _, _⟩, true => mkm h fun b h => K (some ⟨.m, some b⟩) h
    | _, _ => False
  | .mapUpdate T m key x => match e m, e key, e x, τ.mapOf T with
    | some m, some key, some x, some (kk, ek) => (match asM m, key.as kk, x.as ek with
      | some m, some key, some x => mu kk ek m key x h fun h => K none h
      | _, _, _ => False)
    | _, _, _, _ => False
  | .range T x => match e x, τ.mapOf T with
    | some v, some (kk, ek) => (match asM v with | some m => rng m h fun b h => K (some ⟨.it kk ek, b⟩) h | none => False)
    | _, _ => False
  | .next x false => match e x with
    | some ⟨.it kk ek, b⟩ => (match notTp kk, notTp ek with
      | true, true => nx kk ek b h (fun h => K (some ⟨.tp (.pr .b .un), (false, ())⟩) h) fun y z h => K (some ⟨.tp (.pr .b (.pr kk (.pr ek .un))), (true, (y, (z, ())))⟩) h
      | _, _ => False)
    | _ => False
  | .entry x => match e x with
    | some ⟨.it kk ek, b⟩ => (match notTp kk, notTp ek with
      | true, true => en kk ek b h fun y z => K (some ⟨.tp (.pr kk (.pr ek .un)), (y, (z, ()))⟩) h
      | _, _ => False)
    | _ => False
  | .convert src dst x => match e x, τ.get src, τ.get dst, τ.elem dst with
    | some v, some ⟨.str, _, _, _⟩, some ⟨.slice _, _, _, _⟩, some (et, ⟨.k, .u8, _, _⟩) => (match asS v with | some s => s2b et s h fun z h => K (some ⟨.sl, z⟩) h | none => False)
    | _, _, _, _ => False
  | .call { callee := .builtin .append, args, argTypes } => match args.toList, argTypes.toList with
    | [x, y], [T, U] => (match e x, e y with | some a, some b => apR τ T U a b h fun v h => K (some v) h | _, _ => False)
    | _, _ => False
  | .call { callee := .builtin .copy, args, argTypes } => match args.toList, argTypes.toList with
    | [x, y], T :: _ => (match e x, e y with | some a, some b => cpR τ T a b h fun v h => K (some v) h | _, _ => False)
    | _, _ => False
  | .call { callee := .builtin .clear, args, argTypes } => match args.toList, argTypes.toList with
    | [x], [T] => (match e x with | some v => clrR τ T v h fun h => K none h | none => False)
    | _, _ => False
  | .call { callee := .value (.func f), args, .. } => match evs e args.toList, rks oty with
    | some vs, some k => callF P f vs k h fun x h => K (some ⟨k, x⟩) h
    | _, _ => False
  | .call { callee := .value x, args, .. } => match e x, evs e args.toList, rks oty with
    | some v, some vs, some k => (match asF v with | some fv => callV P fv vs k h fun x h => K (some ⟨k, x⟩) h | none => False)
    | _, _, _ => False
  | _ => False
end
end Go.Al
