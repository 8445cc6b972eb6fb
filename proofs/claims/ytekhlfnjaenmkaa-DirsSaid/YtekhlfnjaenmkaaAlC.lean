/- The logic: code. -/
import Derived.Test.YtekhlfnjaenmkaaAlB
namespace Go.Al

structure Qs where
  n : Env → Heap → Prop
  x : Nat → Env → Heap → Prop
  r : Env → Heap → Prop

abbrev Slots := List (Nat × Kd)
abbrev Ann := List (Nat × Slots)
def Ann.get : Ann → Nat → Option Slots
  | [], _ => none
  | (k, v) :: r, t => match Nat.beq k t with | true => some v | false => Ann.get r t
@[reducible] def slotsKd : Slots → Kd
  | [] => .un
  | (_, k) :: r => .pr k (slotsKd r)
/-- a slot's value: at 'l' a pointer that is not nil -/
def asSlot (k : Kd) (v : SV) : Option k.Ty :=
  match k, v with
  | .l, ⟨.p, some x⟩ => some x
  | k, v => v.as k
def svOf (k : Kd) (x : k.Ty) : SV :=
  match k, x with
  | .l, x => ⟨.p, some x⟩
  | k, x => ⟨k, x⟩
def getT : (s : Slots) → Env → Option (slotsKd s).Ty
  | [], _ => some ()
  | (t, k) :: r, ρ => match ρ.get t with
    | some v => (match asSlot k v, getT r ρ with | some x, some y => some (x, y) | _, _ => none)
    | none => none
def tup (s : Slots) (ρ : Env) (K : (slotsKd s).Ty → Prop) : Prop := match getT s ρ with | some x => K x | none => False
def bindT : (s : Slots) → (slotsKd s).Ty → Env → Env
  | [], _, ρ => ρ
  | (t, k) :: r, x, ρ => (t, some (svOf k x.1)) :: bindT r x.2 ρ
def forget : List Nat → Env → Env
  | [], ρ => ρ
  | m :: r, ρ => match ρ.get m with | some _ => (m, none) :: forget r ρ | none => forget r ρ

def nthO : List Oper → Nat → Option Oper
  | [], _ => none
  | x :: _, 0 => some x
  | _ :: r, n + 1 => nthO r n
def dsts : List Oper → List Nat
  | [] => []
  | o :: r => match o.dst with | some d => d :: dsts r | none => dsts r
def mods : Code → List Nat
  | .region _ ops _ => dsts ops.toList
  | .seq a b => mods a ++ mods b
  | .cond _ a b => mods a ++ mods b
  | .block _ c => mods c
  | .loop c => mods c
  | .rangeFunc _ _ _ _ => [DS]
  | _ => []
def firstReg : Code → Option Nat
  | .region id _ _ => some id
  | .seq a b => (firstReg a).orElse fun _ => firstReg b
  | .cond _ a b => (firstReg a).orElse fun _ => firstReg b
  | .block _ c => firstReg c
  | .loop c => firstReg c
  | _ => none

/-- loops and branches that begin at the same region -/
def lev : Code → Nat
  | .seq a b => match firstReg a with | some _ => lev a | none => lev b
  | .cond _ a b => (match firstReg a with | some _ => lev a | none => lev b) + 1
  | .block _ c => lev c
  | .loop c => lev c + 1
  | _ => 0

/-- an operation's guard: is it wanted? -/
def gd (all : List Oper) (g : Option (Nat × Bool)) (ρ : Env) (K : Bool → Env → Prop) : Prop :=
  match g with
  | none => K true ρ
  | some (j, want) => match nthO all j with
    | some o => (match o.dst with
      | some d => (match ρ.get d with
        | some v => (match asB v with
          | some b => if b = true then K want (ρ.put (some d) (some ⟨.b, true⟩)) else K (!want) (ρ.put (some d) (some ⟨.b, false⟩))
          | none => (match v.1 with | .un => K false ρ | _ => False))
        | none => False)
      | none => False)
    | none => False

section
variable (P : Program) (τ : Tys) (an : Ann)
def opC (o : Oper) (ρ : Env) (h : Heap) (K : Env → Heap → Prop) : Prop :=
  match turns τ o.op with
  | false => rd τ o.op (ev ρ) h fun v _ => K (ρ.put o.dst (some v)) h
  | true => ef P τ o.op o.type τ.rk (ev ρ) h fun v h => K (ρ.put o.dst v) h
def cOps (all : List Oper) : List Oper → Env → Heap → (Env → Heap → Prop) → Prop
  | [], ρ, h, K => K ρ h
  | o :: r, ρ, h, K => gd all o.guard ρ fun v ρ => match v with
    | true => opC P τ o ρ h fun ρ h => cOps all r ρ h K
    | false => cOps all r (ρ.put o.dst (some ⟨.un, ()⟩)) h K

/-! a region that draws its order -/
def anyEdge (e : Edge) : Bool := match e.ground with | .textOnly _ => false | .gcOnly _ => false | _ => true
def nthN : List Nat → Nat → Nat
  | [], _ => 0
  | x :: _, 0 => x
  | _ :: r, n + 1 => nthN r n
def befE (acc : List Nat) : List Edge → Nat → Nat
  | [], m => m
  | e :: r, m => match anyEdge e with | true => befE acc r (Nat.lor m (Nat.lor (2 ^ e.on) (nthN acc e.on))) | false => befE acc r m
def befG : List Oper → List Nat → List Nat
  | [], acc => acc
  | o :: r, acc => befG r (acc ++ [befE acc o.after.toList 0])
def bit (m i : Nat) : Bool := Nat.beq (Nat.land m (2 ^ i)) (2 ^ i)
def within (m d : Nat) : Bool := Nat.beq (Nat.land m d) m
/-- the first operation that may come up and leaves the heap as it is -/
def firstR : List Oper → List Nat → Nat → Nat → Option (Nat × Oper)
  | o :: r, b :: bs, i, d => match bit d i, within b d, turns τ o.op with
    | false, true, false => some (i, o)
    | _, _, _ => firstR r bs (i + 1) d
  | _, _, _, _ => none
def readyT : List Oper → List Nat → Nat → Nat → List (Nat × Nat × Oper)
  | o :: r, b :: bs, i, d => match bit d i, within b d with
    | false, true => (i, b, o) :: readyT r bs (i + 1) d
    | _, _ => readyT r bs (i + 1) d
  | _, _, _, _ => []
abbrev Still := List (Nat × (Heap → Prop))
def stab : Still → Heap → Prop → Prop
  | [], _, X => X
  | (_, q) :: r, h, X => q h ∧ stab r h X
def later (b : Nat) : Still → Still
  | [] => []
  | (i, q) :: r => match bit b i with | true => later b r | false => (i, q) :: later b r
def more (i : Nat) (q : Option (Heap → Prop)) (rs : Still) : Still := match q with | some q => (i, q) :: rs | none => rs
def allOf {α : Type} (f : α → Prop) : List α → Prop
  | [] => True
  | [x] => f x
  | x :: r => f x ∧ allOf f r
def cD (all : List Oper) (bf : List Nat) : Nat → Nat → Still → Env → Heap → (Env → Heap → Prop) → Prop
  | 0, _, _, _, _, _ => False
  | n + 1, d, rs, ρ, h, K => match firstR τ all bf 0 d with
    | some (i, o) => gd all o.guard ρ fun v ρ => (match v with
      | true => rd τ o.op (ev ρ) h fun x q => cD all bf n (Nat.lor d (2 ^ i)) (more i q rs) (ρ.put o.dst (some x)) h K
      | false => cD all bf n (Nat.lor d (2 ^ i)) rs (ρ.put o.dst (some ⟨.un, ()⟩)) h K)
    | none => (match readyT all bf 0 d with
      | [] => K ρ h
      | es => allOf (fun x => gd all x.2.2.guard ρ fun v ρ => (match v with
        | true => ef P τ x.2.2.op x.2.2.type τ.rk (ev ρ) h fun y h => stab (later x.2.1 rs) h (cD all bf n (Nat.lor d (2 ^ x.1)) (later x.2.1 rs) (ρ.put x.2.2.dst y) h K)
        | false => cD all bf n (Nat.lor d (2 ^ x.1)) rs (ρ.put x.2.2.dst (some ⟨.un, ()⟩)) h K)) es)
/-- an operation's operands -/
def opnds : Op → List Operand
  | .alloc _ | .ready _ | .waits _ => []
  | .move x | .assign x | .box _ x | .load _ x | .nilCheck x | .unOp _ _ x | .convert _ _ x | .sliceToArrayPointer _ x | .makeInterface _ x
  | .makeChan _ x | .fieldAddr _ x _ | .field _ x _ | .range _ x | .next x _ | .entry x | .typeAssert x _ _ _ | .extract x _ | .panic x | .recv _ x _ => [x]
  | .pick c a b => [c, a, b]
  | .build _ ps | .buildSlice _ _ ps => ps.toList.map (·.2)
  | .store _ a v | .binOp _ _ a v _ | .makeSlice _ a v | .indexAddr _ a v | .index _ a v | .lookup _ a v _ | .mapEntry _ a v | .send a v => [a, v]
  | .makeFunc _ a b => a.toList ++ b.toList
  | .makeMap _ r => r.toList
  | .slice _ x l h m => x :: (l.toList ++ h.toList ++ m.toList)
  | .mapUpdate _ m k v | .entryStore _ m k v | .insert _ m k v => [m, k, v]
  | .call c | .go c | .defer c => (match c.callee with | .value f => [f] | .invoke r _ => [r] | .builtin _ => []) ++ c.args.toList
  | .select _ _ => []
def tmpsOf : List Operand → List Nat
  | [] => []
  | .tmp t :: r => t :: tmpsOf r
  | _ :: r => tmpsOf r
/-- what an operation looks at -/
def looks (all : List Oper) (o : Oper) : List Nat :=
  tmpsOf (opnds o.op) ++ (match o.guard with | some (j, _) => (match nthO all j with | some g => (match g.dst with | some d => [d] | none => []) | none => []) | none => [])
/-- each temporary is written once; who looks at it is ahead of its writer, or behind -/
def hasN : List Nat → Nat → Bool
  | [], _ => false
  | x :: r, t => match Nat.beq x t with | true => true | false => hasN r t
def okW (all : List Oper) (bi i d : Nat) : List Oper → List Nat → Nat → Bool
  | o :: r, b :: bs, j => (match Nat.beq i j with
    | true => true
    | false => (match o.dst with | some d' => !(Nat.beq d d') | none => true) && (!(hasN (looks all o) d) || bit b i || bit bi j)) && okW all bi i d r bs (j + 1)
  | _, _, _ => true
/-- edges lead back -/
def backE (i : Nat) : List Edge → Bool
  | [] => true
  | e :: r => (match anyEdge e with | true => Nat.blt e.on i | false => true) && backE i r
def tameOp : Op → Bool
  | .select _ _ => false
  | .defer _ => false
  | _ => true
def okD (all : List Oper) (bf : List Nat) : List Oper → List Nat → Nat → Bool
  | o :: r, b :: bs, i => tameOp o.op && backE i o.after.toList && (match o.dst with | some d => !(hasN (looks all o) d) && okW all b i d all bf 0 | none => true) && okD all bf r bs (i + 1)
  | _, _, _ => true
def cDraw (ops : List Oper) (ρ : Env) (h : Heap) (K : Env → Heap → Prop) : Prop :=
  match okD ops (befG ops []) ops (befG ops []) 0 with
  | true => cD P τ ops (befG ops []) (ops.length + 1) 0 [] ρ h K
  | false => False

def cReg (ops : List Oper) (dr : Bool) (ρ : Env) (h : Heap) (K : Env → Heap → Prop) : Prop :=
  match dr with | true => cDraw P τ ops ρ h K | false => cOps P τ ops ops ρ h K
def cC : Code → Env → Heap → Qs → Prop
  | .skip, ρ, h, Q => Q.n ρ h
  | .ret, ρ, h, Q => Q.r ρ h
  | .exit id, ρ, h, Q => Q.x id ρ h
  | .region id ops dr, ρ, h, Q => match an.get (4 * id) with
    | none => cReg P τ ops.toList dr ρ h Q.n
    | some s => jn (slotsKd s) (fun J => cReg P τ ops.toList dr ρ h fun ρ h => tup s ρ fun x => J x h) fun x h => Q.n (bindT s x (forget (dsts ops.toList) ρ)) h
  | .seq a b, ρ, h, Q => cC a ρ h { Q with n := fun ρ h => cC b ρ h Q }
  | .cond c a b, ρ, h, Q => match ev ρ c with
    | some v => (match asB v with
      | some t => (match firstReg a <|> firstReg b with
        | some r => (match an.get (4 * r + 1 + 4194304 * (match firstReg a with | some _ => lev a | none => lev b)) with
          | some s => jn (slotsKd s) (fun J => if t = true then cC a ρ h { Q with n := fun ρ h => tup s ρ fun x => J x h } else cC b ρ h { Q with n := fun ρ h => tup s ρ fun x => J x h })
              fun x h => Q.n (bindT s x (forget (mods a ++ mods b) ρ)) h
          | none => if t = true then cC a ρ h Q else cC b ρ h Q)
        | none => if t = true then cC a ρ h Q else cC b ρ h Q)
      | none => False)
    | none => False
  | .block id c, ρ, h, Q => match an.get (4 * id + 3) with
    | some s => jn (slotsKd s) (fun J => cC c ρ h { n := fun ρ h => tup s ρ fun x => J x h, x := fun i ρ h => match Nat.beq i id with | true => tup s ρ fun x => J x h | false => Q.x i ρ h, r := Q.r })
        fun x h => Q.n (bindT s x (forget (mods c) ρ)) h
    | none => cC c ρ h { n := Q.n, x := fun i ρ h => match Nat.beq i id with | true => Q.n ρ h | false => Q.x i ρ h, r := Q.r }
  | .loop c, ρ, h, Q => match firstReg c with
    | some r => (match an.get (4 * r + 2 + 4194304 * lev c) with
      | some s => tup s ρ fun x => lp (slotsKd s) (fun x h next => cC c (bindT s x (forget (mods c) ρ)) h { Q with n := fun ρ h => tup s ρ fun x => next x h }) x h
      | none => False)
    | none => False
  | _, _, _, _ => False

def res1 (k : Kd) (v : ResultVar) (ρ : Env) (h : Heap) (K : k.Ty → Prop) : Prop :=
  match v with
  | .tmp t => (match ev ρ (.tmp t) with
    | some s => (match s.as k with | some x => K x | none => False)
    | none => False)
  | .cell t T => (match ev ρ (.tmp t), τ.kd T with
    | some s, some k' => (match asP s with
      | some (some l) => ld k' l h fun x => (match SV.as k ⟨k', x⟩ with | some x => K x | none => False)
      | _ => False)
    | _, _ => False)
def resG : (k : Kd) → List ResultVar → Env → Heap → (k.Ty → Prop) → Prop
  | .pr k r, v :: vs, ρ, h, K => (match notTp k with | true => res1 τ k v ρ h fun x => resG r vs ρ h fun y => K (x, y) | false => False)
  | .un, [], _, _, K => K ()
  | _, _, _, _, _ => False
def resC (k : Kd) (rs : List ResultVar) (ρ : Env) (h : Heap) (K : k.Ty → Prop) : Prop :=
  match k, K with
  | .tp k', K => (match rs with | [_] => False | rs => resG τ k' rs ρ h K)
  | .un, K => (match rs with | [] => K () | _ => False)
  | k, K => (match rs with | [v] => res1 τ k v ρ h K | _ => False)
def lv : List Nat → Heap → (Heap → Prop) → Prop
  | [], h, K => K h
  | d :: r, h, K => h[d]? = some (.deferred (some [])) ∧ lv r (h.setIfInBounds d (.deferred none)) K
def leave (k : Kd) (rs : List ResultVar) (K : k.Ty → Heap → Prop) (ρ : Env) (h : Heap) : Prop :=
  match ρ.get DS with
  | some v => (match asD v with | some ds => lv ds h fun h => resC τ k rs ρ h fun x => K x h | none => False)
  | none => False
def argE : List SV → Nat → Env
  | [], _ => [(DS, some ⟨.d, []⟩)]
  | x :: r, n => (n, some x) :: argE r (n + 1)
/-- a function's body -/
def fnC (fn : Func) (args : List SV) (k : Kd) (h : Heap) (K : k.Ty → Heap → Prop) : Prop :=
  match fn.body with
  | some c => cC P τ an c (argE args 0) h { n := leave τ k fn.results.toList K, x := fun _ _ _ => False, r := leave τ k fn.results.toList K }
  | none => False
end
end Go.Al
