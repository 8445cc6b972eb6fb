/-
  No cell of these rows narrows 'for every input' (looked for: loops, veiled, ifaces, maps, wideKeys, modest, calm, conditions, laid).
  DERIVED. THE GIVEN ROWS OF THIS SEAT. 6 by the template 'for every input the law returns true; each argument reads behind the call as it read before'; 0 by the template 'total and deterministic' (their statements: YtidcdanaonohfaaGreatTotals.lean).
  GIVEN WITH THE SEED: the statements are not yours to turn. If you find one false, say at which input.
  Laid BY PROGRAM, IN A SANDBOX (cutbox-rows.mjs): the forced cells as the released guide's own fill.sh prints them over the translation 47c350394dc2a879… (all of the seat's roots in one cut). By AI agents, Wed Nov 11 2026. No macro, syntax, notation, axiom, sorry.
-/
import Derived.Test.YtidcdanaonohfaaGreatChecked
import GoSem.Claim
import GoSem.ClaimJoined
import GoSem.ClaimMapViews
import Derived.JoinedTies
import Derived.KernelRfl
namespace Go.Proofs.YtidcdanaonohfaaGreat
/- THE CELL 'sum', in the pinned program and in every row, IS THE sha256 OF THE DUMP (.gsa) THAT YtidcdanaonohfaaGreatProg.lean LOADS. Nothing in Lean hashes anything: it is a label: what it is worth is what the hold of that sum in a sandbox is worth. -/
noncomputable def Tryz.pinned : Pinned := { name := "ytidcdanaonohfaagreat", sum := "47c350394dc2a8793a5d0518570e0c6b8a8cf3199e0592dec642579c1c55dbea", checked := Tryz.checked }
namespace Rows
def none {H : Type} : Left H := { results := [], args := [] }

/-- 'almonrylaw15.States': WHATEVER THE INPUT: true; the input reads as it did. -/
def statesSpec : ChangeSpec := { name := "states", fn := fun _ => fun
  | [d1, d2, d3] => { results := [.lit (.bool true)], args := [d1, d2, d3] }
  | _ => none }
def statesRow : OpenClaim := { program := "ytidcdanaonohfaagreat", sum := "47c350394dc2a8793a5d0518570e0c6b8a8cf3199e0592dec642579c1c55dbea", func := "almonry/almonrylaw15.States", spec := "states", inPlace := ["internal/bytealg.IndexByteString", "internal/bytealg.IndexString"], unfollowed := true, recurses := true, named := ["internal/bytealg.MaxLen"], plainKeys := false, apart := false }
def StatesSaid : Prop := statesRow.holds Tryz.pinned (OpenSpec.ofChange statesSpec)

/-- ITS FALSE NEIGHBOUR: 'it returns false'. Refute it at one input. -/
def statesWrong : ChangeSpec := { name := "states", fn := fun _ => fun
  | [d1, d2, d3] => { results := [.lit (.bool false)], args := [d1, d2, d3] }
  | _ => none }
def StatesWrongFalsely : Prop := statesRow.holds Tryz.pinned (OpenSpec.ofChange statesWrong)

/-- 'almonrylaw15.StateBack': WHATEVER THE INPUT: true; the input reads as it did. -/
def stateBackSpec : ChangeSpec := { name := "stateBack", fn := fun _ => fun
  | [d] => { results := [.lit (.bool true)], args := [d] }
  | _ => none }
def stateBackRow : OpenClaim := { program := "ytidcdanaonohfaagreat", sum := "47c350394dc2a8793a5d0518570e0c6b8a8cf3199e0592dec642579c1c55dbea", func := "almonry/almonrylaw15.StateBack", spec := "stateBack", inPlace := ["internal/bytealg.IndexByteString", "internal/bytealg.IndexString"], unfollowed := true, recurses := true, named := ["internal/bytealg.MaxLen"], plainKeys := false, apart := false }
def StateBackSaid : Prop := stateBackRow.holds Tryz.pinned (OpenSpec.ofChange stateBackSpec)

/-- ITS FALSE NEIGHBOUR: 'it returns false'. Refute it at one input. -/
def stateBackWrong : ChangeSpec := { name := "stateBack", fn := fun _ => fun
  | [d] => { results := [.lit (.bool false)], args := [d] }
  | _ => none }
def StateBackWrongFalsely : Prop := stateBackRow.holds Tryz.pinned (OpenSpec.ofChange stateBackWrong)

/-- 'almonrylaw15.StateForms': WHATEVER THE INPUT: true; the input reads as it did. -/
def stateFormsSpec : ChangeSpec := { name := "stateForms", fn := fun _ => fun
  | [d1, d2] => { results := [.lit (.bool true)], args := [d1, d2] }
  | _ => none }
def stateFormsRow : OpenClaim := { program := "ytidcdanaonohfaagreat", sum := "47c350394dc2a8793a5d0518570e0c6b8a8cf3199e0592dec642579c1c55dbea", func := "almonry/almonrylaw15.StateForms", spec := "stateForms", inPlace := ["internal/bytealg.IndexByteString", "internal/bytealg.IndexString"], unfollowed := true, recurses := true, named := ["internal/bytealg.MaxLen"], plainKeys := false, apart := false }
def StateFormsSaid : Prop := stateFormsRow.holds Tryz.pinned (OpenSpec.ofChange stateFormsSpec)

/-- ITS FALSE NEIGHBOUR: 'it returns false'. Refute it at one input. -/
def stateFormsWrong : ChangeSpec := { name := "stateForms", fn := fun _ => fun
  | [d1, d2] => { results := [.lit (.bool false)], args := [d1, d2] }
  | _ => none }
def StateFormsWrongFalsely : Prop := stateFormsRow.holds Tryz.pinned (OpenSpec.ofChange stateFormsWrong)

/-- 'almonrylaw15.StateEmpty': WHATEVER THE INPUT: true; the input reads as it did. -/
def stateEmptySpec : ChangeSpec := { name := "stateEmpty", fn := fun _ => fun
  | [d1, d2] => { results := [.lit (.bool true)], args := [d1, d2] }
  | _ => none }
def stateEmptyRow : OpenClaim := { program := "ytidcdanaonohfaagreat", sum := "47c350394dc2a8793a5d0518570e0c6b8a8cf3199e0592dec642579c1c55dbea", func := "almonry/almonrylaw15.StateEmpty", spec := "stateEmpty", inPlace := ["internal/bytealg.IndexByteString", "internal/bytealg.IndexString"], unfollowed := true, recurses := true, named := ["internal/bytealg.MaxLen"], plainKeys := false, apart := false }
def StateEmptySaid : Prop := stateEmptyRow.holds Tryz.pinned (OpenSpec.ofChange stateEmptySpec)

/-- ITS FALSE NEIGHBOUR: 'it returns false'. Refute it at one input. -/
def stateEmptyWrong : ChangeSpec := { name := "stateEmpty", fn := fun _ => fun
  | [d1, d2] => { results := [.lit (.bool false)], args := [d1, d2] }
  | _ => none }
def StateEmptyWrongFalsely : Prop := stateEmptyRow.holds Tryz.pinned (OpenSpec.ofChange stateEmptyWrong)

/-- 'almonrylaw15.StateUsed': WHATEVER THE INPUT: true; the input reads as it did. -/
def stateUsedSpec : ChangeSpec := { name := "stateUsed", fn := fun _ => fun
  | [d1, d2, d3] => { results := [.lit (.bool true)], args := [d1, d2, d3] }
  | _ => none }
def stateUsedRow : OpenClaim := { program := "ytidcdanaonohfaagreat", sum := "47c350394dc2a8793a5d0518570e0c6b8a8cf3199e0592dec642579c1c55dbea", func := "almonry/almonrylaw15.StateUsed", spec := "stateUsed", inPlace := ["internal/bytealg.IndexByteString", "internal/bytealg.IndexString"], unfollowed := true, recurses := true, named := ["internal/bytealg.MaxLen"], plainKeys := false, apart := false }
def StateUsedSaid : Prop := stateUsedRow.holds Tryz.pinned (OpenSpec.ofChange stateUsedSpec)

/-- ITS FALSE NEIGHBOUR: 'it returns false'. Refute it at one input. -/
def stateUsedWrong : ChangeSpec := { name := "stateUsed", fn := fun _ => fun
  | [d1, d2, d3] => { results := [.lit (.bool false)], args := [d1, d2, d3] }
  | _ => none }
def StateUsedWrongFalsely : Prop := stateUsedRow.holds Tryz.pinned (OpenSpec.ofChange stateUsedWrong)

/-- 'almonrylaw15.StateShares': WHATEVER THE INPUT: true; the input reads as it did. -/
def stateSharesSpec : ChangeSpec := { name := "stateShares", fn := fun _ => fun
  | [d1, d2] => { results := [.lit (.bool true)], args := [d1, d2] }
  | _ => none }
def stateSharesRow : OpenClaim := { program := "ytidcdanaonohfaagreat", sum := "47c350394dc2a8793a5d0518570e0c6b8a8cf3199e0592dec642579c1c55dbea", func := "almonry/almonrylaw15.StateShares", spec := "stateShares", inPlace := ["internal/bytealg.IndexByteString", "internal/bytealg.IndexString"], unfollowed := true, recurses := true, named := ["internal/bytealg.MaxLen"], plainKeys := false, apart := false }
def StateSharesSaid : Prop := stateSharesRow.holds Tryz.pinned (OpenSpec.ofChange stateSharesSpec)

/-- ITS FALSE NEIGHBOUR: 'it returns false'. Refute it at one input. -/
def stateSharesWrong : ChangeSpec := { name := "stateShares", fn := fun _ => fun
  | [d1, d2] => { results := [.lit (.bool false)], args := [d1, d2] }
  | _ => none }
def StateSharesWrongFalsely : Prop := stateSharesRow.holds Tryz.pinned (OpenSpec.ofChange stateSharesWrong)

/- THE SECOND FORM. 'bulk': how many values and letters a reading holds, each counted each time it is reached (what is shared counts as often as it is met; a slice's spare places count too). A statement '..UptoSaid' is the law's where the arguments, and the package variables that the reading takes, are together of bulk at most 1048576: NARROWER than '..Said'. Prove '..Said' where nothing that the law and all that it calls make is longer than what came in: it says more and counts as full. Else prove '..UptoSaid'. A law counts once. -/
mutual
def uptoBulk {H : Type} : DataW H → Nat
  | .lit (.string bytes) => bytes.length + 1
  | .lit _ => 1
  | .nil => 1
  | .ptr d => uptoBulk d + 1
  | .slice elems spare => uptoBulkAll elems + uptoBulkAll spare + 1
  | .agg parts => uptoBulkAll parts + 1
  | .iface _ d => uptoBulk d + 1
  | .map entries => uptoBulkEntries entries + 1
  | .held _ => 1
def uptoBulkAll {H : Type} : List (DataW H) → Nat
  | [] => 0
  | d :: r => uptoBulk d + uptoBulkAll r
def uptoBulkEntries {H : Type} : List (Lit × DataW H) → Nat
  | [] => 0
  | x :: r => uptoBulkEntry x + uptoBulkEntries r
def uptoBulkEntry {H : Type} : Lit × DataW H → Nat
  | (.string bytes, d) => bytes.length + uptoBulk d + 1
  | (_, d) => uptoBulk d + 1
 end
def uptoSmall : (H : Type) → List (DataW H) → Bool := fun _ ds => decide (uptoBulkAll ds ≤ 1048576)
def OpenSpec.upto (s : _root_.Go.ChangeSpec) : _root_.Go.OpenSpec := { _root_.Go.OpenSpec.ofChange s with cond := some uptoSmall }

/-- 'almonrylaw15.States', WHERE WHAT IT READS IS OF BULK AT MOST 1048576: true; the input reads as it did. -/
def statesUptoRow : OpenClaim := { program := "ytidcdanaonohfaagreat", sum := "47c350394dc2a8793a5d0518570e0c6b8a8cf3199e0592dec642579c1c55dbea", func := "almonry/almonrylaw15.States", spec := "states", inPlace := ["internal/bytealg.IndexByteString", "internal/bytealg.IndexString"], unfollowed := true, recurses := true, named := ["internal/bytealg.MaxLen"], plainKeys := false, apart := false, narrowed := true }
def StatesUptoSaid : Prop := statesUptoRow.holds Tryz.pinned (OpenSpec.upto statesSpec)

/-- 'almonrylaw15.StateBack', WHERE WHAT IT READS IS OF BULK AT MOST 1048576: true; the input reads as it did. -/
def stateBackUptoRow : OpenClaim := { program := "ytidcdanaonohfaagreat", sum := "47c350394dc2a8793a5d0518570e0c6b8a8cf3199e0592dec642579c1c55dbea", func := "almonry/almonrylaw15.StateBack", spec := "stateBack", inPlace := ["internal/bytealg.IndexByteString", "internal/bytealg.IndexString"], unfollowed := true, recurses := true, named := ["internal/bytealg.MaxLen"], plainKeys := false, apart := false, narrowed := true }
def StateBackUptoSaid : Prop := stateBackUptoRow.holds Tryz.pinned (OpenSpec.upto stateBackSpec)

/-- 'almonrylaw15.StateForms', WHERE WHAT IT READS IS OF BULK AT MOST 1048576: true; the input reads as it did. -/
def stateFormsUptoRow : OpenClaim := { program := "ytidcdanaonohfaagreat", sum := "47c350394dc2a8793a5d0518570e0c6b8a8cf3199e0592dec642579c1c55dbea", func := "almonry/almonrylaw15.StateForms", spec := "stateForms", inPlace := ["internal/bytealg.IndexByteString", "internal/bytealg.IndexString"], unfollowed := true, recurses := true, named := ["internal/bytealg.MaxLen"], plainKeys := false, apart := false, narrowed := true }
def StateFormsUptoSaid : Prop := stateFormsUptoRow.holds Tryz.pinned (OpenSpec.upto stateFormsSpec)

/-- 'almonrylaw15.StateEmpty', WHERE WHAT IT READS IS OF BULK AT MOST 1048576: true; the input reads as it did. -/
def stateEmptyUptoRow : OpenClaim := { program := "ytidcdanaonohfaagreat", sum := "47c350394dc2a8793a5d0518570e0c6b8a8cf3199e0592dec642579c1c55dbea", func := "almonry/almonrylaw15.StateEmpty", spec := "stateEmpty", inPlace := ["internal/bytealg.IndexByteString", "internal/bytealg.IndexString"], unfollowed := true, recurses := true, named := ["internal/bytealg.MaxLen"], plainKeys := false, apart := false, narrowed := true }
def StateEmptyUptoSaid : Prop := stateEmptyUptoRow.holds Tryz.pinned (OpenSpec.upto stateEmptySpec)

/-- 'almonrylaw15.StateUsed', WHERE WHAT IT READS IS OF BULK AT MOST 1048576: true; the input reads as it did. -/
def stateUsedUptoRow : OpenClaim := { program := "ytidcdanaonohfaagreat", sum := "47c350394dc2a8793a5d0518570e0c6b8a8cf3199e0592dec642579c1c55dbea", func := "almonry/almonrylaw15.StateUsed", spec := "stateUsed", inPlace := ["internal/bytealg.IndexByteString", "internal/bytealg.IndexString"], unfollowed := true, recurses := true, named := ["internal/bytealg.MaxLen"], plainKeys := false, apart := false, narrowed := true }
def StateUsedUptoSaid : Prop := stateUsedUptoRow.holds Tryz.pinned (OpenSpec.upto stateUsedSpec)

/-- 'almonrylaw15.StateShares', WHERE WHAT IT READS IS OF BULK AT MOST 1048576: true; the input reads as it did. -/
def stateSharesUptoRow : OpenClaim := { program := "ytidcdanaonohfaagreat", sum := "47c350394dc2a8793a5d0518570e0c6b8a8cf3199e0592dec642579c1c55dbea", func := "almonry/almonrylaw15.StateShares", spec := "stateShares", inPlace := ["internal/bytealg.IndexByteString", "internal/bytealg.IndexString"], unfollowed := true, recurses := true, named := ["internal/bytealg.MaxLen"], plainKeys := false, apart := false, narrowed := true }
def StateSharesUptoSaid : Prop := stateSharesUptoRow.holds Tryz.pinned (OpenSpec.upto stateSharesSpec)

end Rows
end Go.Proofs.YtidcdanaonohfaaGreat
