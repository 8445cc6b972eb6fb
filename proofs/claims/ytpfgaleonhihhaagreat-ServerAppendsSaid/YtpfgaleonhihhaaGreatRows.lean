/-
  No cell of these rows narrows 'for every input' (looked for: loops, veiled, ifaces, maps, wideKeys, modest, calm, conditions, laid).
  DERIVED. THE GIVEN ROWS OF THIS SEAT. 5 by the template 'for every input the law returns true; each argument reads behind the call as it read before'; 0 by the template 'total and deterministic' (their statements: YtpfgaleonhihhaaGreatTotals.lean).
  GIVEN WITH THE SEED: the statements are not yours to turn. If you find one false, say at which input.
  Laid BY PROGRAM, IN A SANDBOX (cutbox-rows.mjs): the forced cells as the released guide's own fill.sh prints them over the translation 52b9aa9cce5278ef… (all of the seat's roots in one cut). By AI agents, Wed Nov 11 2026. No macro, syntax, notation, axiom, sorry.
-/
import Derived.Test.YtpfgaleonhihhaaGreatChecked
import GoSem.Claim
import GoSem.ClaimJoined
import GoSem.ClaimMapViews
import Derived.JoinedTies
import Derived.KernelRfl
namespace Go.Proofs.YtpfgaleonhihhaaGreat
/- THE CELL 'sum', in the pinned program and in every row, IS THE sha256 OF THE DUMP (.gsa) THAT YtpfgaleonhihhaaGreatProg.lean LOADS. Nothing in Lean hashes anything: it is a label: what it is worth is what the hold of that sum in a sandbox is worth. -/
noncomputable def Tryz.pinned : Pinned := { name := "ytpfgaleonhihhaagreat", sum := "52b9aa9cce5278ef1ca32f312c5c1a779ea84c83eee4961cffc1b14f231ef003", checked := Tryz.checked }
namespace Rows
def none {H : Type} : Left H := { results := [], args := [] }

/-- 'almonrylaw23.ServerMessages': WHATEVER THE INPUT: true; the input reads as it did. -/
def serverMessagesSpec : ChangeSpec := { name := "serverMessages", fn := fun _ => fun
  | [d1, d2, d3] => { results := [.lit (.bool true)], args := [d1, d2, d3] }
  | _ => none }
def serverMessagesRow : OpenClaim := { program := "ytpfgaleonhihhaagreat", sum := "52b9aa9cce5278ef1ca32f312c5c1a779ea84c83eee4961cffc1b14f231ef003", func := "almonry/almonrylaw23.ServerMessages", spec := "serverMessages", inPlace := ["internal/bytealg.IndexByteString", "internal/bytealg.IndexString"], unfollowed := true, recurses := true, named := ["internal/bytealg.MaxLen"], plainKeys := false, apart := false }
def ServerMessagesSaid : Prop := serverMessagesRow.holds Tryz.pinned (OpenSpec.ofChange serverMessagesSpec)

/-- ITS FALSE NEIGHBOUR: 'it returns false'. Refute it at one input. -/
def serverMessagesWrong : ChangeSpec := { name := "serverMessages", fn := fun _ => fun
  | [d1, d2, d3] => { results := [.lit (.bool false)], args := [d1, d2, d3] }
  | _ => none }
def ServerMessagesWrongFalsely : Prop := serverMessagesRow.holds Tryz.pinned (OpenSpec.ofChange serverMessagesWrong)

/-- 'almonrylaw23.ServerTurns': WHATEVER THE INPUT: true; the input reads as it did. -/
def serverTurnsSpec : ChangeSpec := { name := "serverTurns", fn := fun _ => fun
  | [d] => { results := [.lit (.bool true)], args := [d] }
  | _ => none }
def serverTurnsRow : OpenClaim := { program := "ytpfgaleonhihhaagreat", sum := "52b9aa9cce5278ef1ca32f312c5c1a779ea84c83eee4961cffc1b14f231ef003", func := "almonry/almonrylaw23.ServerTurns", spec := "serverTurns", inPlace := ["internal/bytealg.IndexByteString", "internal/bytealg.IndexString"], unfollowed := true, recurses := true, named := ["internal/bytealg.MaxLen"], plainKeys := false, apart := false }
def ServerTurnsSaid : Prop := serverTurnsRow.holds Tryz.pinned (OpenSpec.ofChange serverTurnsSpec)

/-- ITS FALSE NEIGHBOUR: 'it returns false'. Refute it at one input. -/
def serverTurnsWrong : ChangeSpec := { name := "serverTurns", fn := fun _ => fun
  | [d] => { results := [.lit (.bool false)], args := [d] }
  | _ => none }
def ServerTurnsWrongFalsely : Prop := serverTurnsRow.holds Tryz.pinned (OpenSpec.ofChange serverTurnsWrong)

/-- 'almonrylaw23.ServerTells': WHATEVER THE INPUT: true; the input reads as it did. -/
def serverTellsSpec : ChangeSpec := { name := "serverTells", fn := fun _ => fun
  | [d1, d2] => { results := [.lit (.bool true)], args := [d1, d2] }
  | _ => none }
def serverTellsRow : OpenClaim := { program := "ytpfgaleonhihhaagreat", sum := "52b9aa9cce5278ef1ca32f312c5c1a779ea84c83eee4961cffc1b14f231ef003", func := "almonry/almonrylaw23.ServerTells", spec := "serverTells", inPlace := ["internal/bytealg.IndexByteString", "internal/bytealg.IndexString"], unfollowed := true, recurses := true, named := ["internal/bytealg.MaxLen"], plainKeys := false, apart := false }
def ServerTellsSaid : Prop := serverTellsRow.holds Tryz.pinned (OpenSpec.ofChange serverTellsSpec)

/-- ITS FALSE NEIGHBOUR: 'it returns false'. Refute it at one input. -/
def serverTellsWrong : ChangeSpec := { name := "serverTells", fn := fun _ => fun
  | [d1, d2] => { results := [.lit (.bool false)], args := [d1, d2] }
  | _ => none }
def ServerTellsWrongFalsely : Prop := serverTellsRow.holds Tryz.pinned (OpenSpec.ofChange serverTellsWrong)

/-- 'almonrylaw23.ServerAppends': WHATEVER THE INPUT: true; the input reads as it did. -/
def serverAppendsSpec : ChangeSpec := { name := "serverAppends", fn := fun _ => fun
  | [d1, d2, d3] => { results := [.lit (.bool true)], args := [d1, d2, d3] }
  | _ => none }
def serverAppendsRow : OpenClaim := { program := "ytpfgaleonhihhaagreat", sum := "52b9aa9cce5278ef1ca32f312c5c1a779ea84c83eee4961cffc1b14f231ef003", func := "almonry/almonrylaw23.ServerAppends", spec := "serverAppends", inPlace := ["internal/bytealg.IndexByteString", "internal/bytealg.IndexString"], unfollowed := true, recurses := true, named := ["internal/bytealg.MaxLen"], plainKeys := false, apart := false }
def ServerAppendsSaid : Prop := serverAppendsRow.holds Tryz.pinned (OpenSpec.ofChange serverAppendsSpec)

/-- ITS FALSE NEIGHBOUR: 'it returns false'. Refute it at one input. -/
def serverAppendsWrong : ChangeSpec := { name := "serverAppends", fn := fun _ => fun
  | [d1, d2, d3] => { results := [.lit (.bool false)], args := [d1, d2, d3] }
  | _ => none }
def ServerAppendsWrongFalsely : Prop := serverAppendsRow.holds Tryz.pinned (OpenSpec.ofChange serverAppendsWrong)

/-- 'almonrylaw23.ServerActs': WHATEVER THE INPUT: true; the input reads as it did. -/
def serverActsSpec : ChangeSpec := { name := "serverActs", fn := fun _ => fun
  | [d1, d2] => { results := [.lit (.bool true)], args := [d1, d2] }
  | _ => none }
def serverActsRow : OpenClaim := { program := "ytpfgaleonhihhaagreat", sum := "52b9aa9cce5278ef1ca32f312c5c1a779ea84c83eee4961cffc1b14f231ef003", func := "almonry/almonrylaw23.ServerActs", spec := "serverActs", inPlace := ["internal/bytealg.IndexByteString", "internal/bytealg.IndexString"], unfollowed := true, recurses := true, named := ["internal/bytealg.MaxLen"], plainKeys := false, apart := false }
def ServerActsSaid : Prop := serverActsRow.holds Tryz.pinned (OpenSpec.ofChange serverActsSpec)

/-- ITS FALSE NEIGHBOUR: 'it returns false'. Refute it at one input. -/
def serverActsWrong : ChangeSpec := { name := "serverActs", fn := fun _ => fun
  | [d1, d2] => { results := [.lit (.bool false)], args := [d1, d2] }
  | _ => none }
def ServerActsWrongFalsely : Prop := serverActsRow.holds Tryz.pinned (OpenSpec.ofChange serverActsWrong)

/- THE SECOND FORM. 'bulk': how many values and letters a reading holds, each counted each time it is reached (what is shared counts as often as it is met; a slice's spare places count too). A statement '..UptoSaid' is the law's where the arguments, and the package variables that the reading takes, are together of bulk at most 1048576: NARROWER than '..Said'. Prove '..Said' where nothing that the law and all that it calls make is longer than what came in: it says more and counts as full. Else prove '..UptoSaid'. A law counts once. -/
mutual
def uptoBulk {H : Type} : DataW H → Nat
  | .lit (.string bytes) => bytes.length + 1
  | .lit _ => 1
  | .nil => 1
  | .ptr d => uptoBulk d + 1
  | .slice elems spare => uptoBulkAll elems + uptoBulkAll spare + 1
  | .agg parts => uptoBulkAll parts + 1
  | .iface _ d => uptoBulk d + 1
  | .map entries => uptoBulkEntries entries + 1
  | .held _ => 1
def uptoBulkAll {H : Type} : List (DataW H) → Nat
  | [] => 0
  | d :: r => uptoBulk d + uptoBulkAll r
def uptoBulkEntries {H : Type} : List (Lit × DataW H) → Nat
  | [] => 0
  | x :: r => uptoBulkEntry x + uptoBulkEntries r
def uptoBulkEntry {H : Type} : Lit × DataW H → Nat
  | (.string bytes, d) => bytes.length + uptoBulk d + 1
  | (_, d) => uptoBulk d + 1
 end
def uptoSmall : (H : Type) → List (DataW H) → Bool := fun _ ds => decide (uptoBulkAll ds ≤ 1048576)
def OpenSpec.upto (s : _root_.Go.ChangeSpec) : _root_.Go.OpenSpec := { _root_.Go.OpenSpec.ofChange s with cond := some uptoSmall }

/-- 'almonrylaw23.ServerMessages', WHERE WHAT IT READS IS OF BULK AT MOST 1048576: true; the input reads as it did. -/
def serverMessagesUptoRow : OpenClaim := { program := "ytpfgaleonhihhaagreat", sum := "52b9aa9cce5278ef1ca32f312c5c1a779ea84c83eee4961cffc1b14f231ef003", func := "almonry/almonrylaw23.ServerMessages", spec := "serverMessages", inPlace := ["internal/bytealg.IndexByteString", "internal/bytealg.IndexString"], unfollowed := true, recurses := true, named := ["internal/bytealg.MaxLen"], plainKeys := false, apart := false, narrowed := true }
def ServerMessagesUptoSaid : Prop := serverMessagesUptoRow.holds Tryz.pinned (OpenSpec.upto serverMessagesSpec)

/-- 'almonrylaw23.ServerTurns', WHERE WHAT IT READS IS OF BULK AT MOST 1048576: true; the input reads as it did. -/
def serverTurnsUptoRow : OpenClaim := { program := "ytpfgaleonhihhaagreat", sum := "52b9aa9cce5278ef1ca32f312c5c1a779ea84c83eee4961cffc1b14f231ef003", func := "almonry/almonrylaw23.ServerTurns", spec := "serverTurns", inPlace := ["internal/bytealg.IndexByteString", "internal/bytealg.IndexString"], unfollowed := true, recurses := true, named := ["internal/bytealg.MaxLen"], plainKeys := false, apart := false, narrowed := true }
def ServerTurnsUptoSaid : Prop := serverTurnsUptoRow.holds Tryz.pinned (OpenSpec.upto serverTurnsSpec)

/-- 'almonrylaw23.ServerTells', WHERE WHAT IT READS IS OF BULK AT MOST 1048576: true; the input reads as it did. -/
def serverTellsUptoRow : OpenClaim := { program := "ytpfgaleonhihhaagreat", sum := "52b9aa9cce5278ef1ca32f312c5c1a779ea84c83eee4961cffc1b14f231ef003", func := "almonry/almonrylaw23.ServerTells", spec := "serverTells", inPlace := ["internal/bytealg.IndexByteString", "internal/bytealg.IndexString"], unfollowed := true, recurses := true, named := ["internal/bytealg.MaxLen"], plainKeys := false, apart := false, narrowed := true }
def ServerTellsUptoSaid : Prop := serverTellsUptoRow.holds Tryz.pinned (OpenSpec.upto serverTellsSpec)

/-- 'almonrylaw23.ServerAppends', WHERE WHAT IT READS IS OF BULK AT MOST 1048576: true; the input reads as it did. -/
def serverAppendsUptoRow : OpenClaim := { program := "ytpfgaleonhihhaagreat", sum := "52b9aa9cce5278ef1ca32f312c5c1a779ea84c83eee4961cffc1b14f231ef003", func := "almonry/almonrylaw23.ServerAppends", spec := "serverAppends", inPlace := ["internal/bytealg.IndexByteString", "internal/bytealg.IndexString"], unfollowed := true, recurses := true, named := ["internal/bytealg.MaxLen"], plainKeys := false, apart := false, narrowed := true }
def ServerAppendsUptoSaid : Prop := serverAppendsUptoRow.holds Tryz.pinned (OpenSpec.upto serverAppendsSpec)

/-- 'almonrylaw23.ServerActs', WHERE WHAT IT READS IS OF BULK AT MOST 1048576: true; the input reads as it did. -/
def serverActsUptoRow : OpenClaim := { program := "ytpfgaleonhihhaagreat", sum := "52b9aa9cce5278ef1ca32f312c5c1a779ea84c83eee4961cffc1b14f231ef003", func := "almonry/almonrylaw23.ServerActs", spec := "serverActs", inPlace := ["internal/bytealg.IndexByteString", "internal/bytealg.IndexString"], unfollowed := true, recurses := true, named := ["internal/bytealg.MaxLen"], plainKeys := false, apart := false, narrowed := true }
def ServerActsUptoSaid : Prop := serverActsUptoRow.holds Tryz.pinned (OpenSpec.upto serverActsSpec)

end Rows
end Go.Proofs.YtpfgaleonhihhaaGreat
