/-
  No cell of these rows narrows 'for every input' (looked for: loops, veiled, ifaces, maps, wideKeys, modest, calm, conditions, laid).
  DERIVED. THE GIVEN ROWS OF THIS SEAT. 5 by the template 'for every input the law returns true; each argument reads behind the call as it read before'; 0 by the template 'total and deterministic' (their statements: YteddcbknadbbgaaGreatTotals.lean).
  GIVEN WITH THE SEED: the statements are not yours to turn. If you find one false, say at which input.
  Laid BY PROGRAM, IN A SANDBOX (cutbox-rows.mjs): the forced cells as the released guide's own fill.sh prints them over the translation 8ee6e5405cc4ce46… (all of the seat's roots in one cut). By AI agents, Wed Nov 11 2026. No macro, syntax, notation, axiom, sorry.
-/
import Derived.Test.YteddcbknadbbgaaGreatChecked
import GoSem.Claim
import GoSem.ClaimJoined
import GoSem.ClaimMapViews
import Derived.JoinedTies
import Derived.KernelRfl
namespace Go.Proofs.YteddcbknadbbgaaGreat
/- THE CELL 'sum', in the pinned program and in every row, IS THE sha256 OF THE DUMP (.gsa) THAT YteddcbknadbbgaaGreatProg.lean LOADS. Nothing in Lean hashes anything: it is a label: what it is worth is what the hold of that sum in a sandbox is worth. -/
noncomputable def Tryz.pinned : Pinned := { name := "yteddcbknadbbgaagreat", sum := "8ee6e5405cc4ce468e2e88ea353f32b394a9413de13e649c125e473888b9bc73", checked := Tryz.checked }
namespace Rows
def none {H : Type} : Left H := { results := [], args := [] }

/-- 'almonrylaw20.ChainActs': WHATEVER THE INPUT: true; the input reads as it did. -/
def chainActsSpec : ChangeSpec := { name := "chainActs", fn := fun _ => fun
  | [d1, d2] => { results := [.lit (.bool true)], args := [d1, d2] }
  | _ => none }
def chainActsRow : OpenClaim := { program := "yteddcbknadbbgaagreat", sum := "8ee6e5405cc4ce468e2e88ea353f32b394a9413de13e649c125e473888b9bc73", func := "almonry/almonrylaw20.ChainActs", spec := "chainActs", inPlace := ["internal/bytealg.IndexByteString", "internal/bytealg.IndexString"], unfollowed := true, recurses := true, named := ["internal/bytealg.MaxLen"], apart := false }
def ChainActsSaid : Prop := chainActsRow.holds Tryz.pinned (OpenSpec.ofChange chainActsSpec)

/-- ITS FALSE NEIGHBOUR: 'it returns false'. Refute it at one input. -/
def chainActsWrong : ChangeSpec := { name := "chainActs", fn := fun _ => fun
  | [d1, d2] => { results := [.lit (.bool false)], args := [d1, d2] }
  | _ => none }
def ChainActsWrongFalsely : Prop := chainActsRow.holds Tryz.pinned (OpenSpec.ofChange chainActsWrong)

/-- 'almonrylaw20.ChainForms': WHATEVER THE INPUT: true; the input reads as it did. -/
def chainFormsSpec : ChangeSpec := { name := "chainForms", fn := fun _ => fun
  | [d1, d2, d3, d4] => { results := [.lit (.bool true)], args := [d1, d2, d3, d4] }
  | _ => none }
def chainFormsRow : OpenClaim := { program := "yteddcbknadbbgaagreat", sum := "8ee6e5405cc4ce468e2e88ea353f32b394a9413de13e649c125e473888b9bc73", func := "almonry/almonrylaw20.ChainForms", spec := "chainForms", inPlace := ["internal/bytealg.IndexByteString", "internal/bytealg.IndexString"], unfollowed := true, recurses := true, named := ["internal/bytealg.MaxLen"], apart := false }
def ChainFormsSaid : Prop := chainFormsRow.holds Tryz.pinned (OpenSpec.ofChange chainFormsSpec)

/-- ITS FALSE NEIGHBOUR: 'it returns false'. Refute it at one input. -/
def chainFormsWrong : ChangeSpec := { name := "chainForms", fn := fun _ => fun
  | [d1, d2, d3, d4] => { results := [.lit (.bool false)], args := [d1, d2, d3, d4] }
  | _ => none }
def ChainFormsWrongFalsely : Prop := chainFormsRow.holds Tryz.pinned (OpenSpec.ofChange chainFormsWrong)

/-- 'almonrylaw20.ChainOwn': WHATEVER THE INPUT: true; the input reads as it did. -/
def chainOwnSpec : ChangeSpec := { name := "chainOwn", fn := fun _ => fun
  | [d1, d2, d3, d4] => { results := [.lit (.bool true)], args := [d1, d2, d3, d4] }
  | _ => none }
def chainOwnRow : OpenClaim := { program := "yteddcbknadbbgaagreat", sum := "8ee6e5405cc4ce468e2e88ea353f32b394a9413de13e649c125e473888b9bc73", func := "almonry/almonrylaw20.ChainOwn", spec := "chainOwn", inPlace := ["internal/bytealg.IndexByteString", "internal/bytealg.IndexString"], unfollowed := true, recurses := true, named := ["internal/bytealg.MaxLen"], apart := false }
def ChainOwnSaid : Prop := chainOwnRow.holds Tryz.pinned (OpenSpec.ofChange chainOwnSpec)

/-- ITS FALSE NEIGHBOUR: 'it returns false'. Refute it at one input. -/
def chainOwnWrong : ChangeSpec := { name := "chainOwn", fn := fun _ => fun
  | [d1, d2, d3, d4] => { results := [.lit (.bool false)], args := [d1, d2, d3, d4] }
  | _ => none }
def ChainOwnWrongFalsely : Prop := chainOwnRow.holds Tryz.pinned (OpenSpec.ofChange chainOwnWrong)

/-- 'almonrylaw20.ChainGoes': WHATEVER THE INPUT: true; the input reads as it did. -/
def chainGoesSpec : ChangeSpec := { name := "chainGoes", fn := fun _ => fun
  | [d1, d2] => { results := [.lit (.bool true)], args := [d1, d2] }
  | _ => none }
def chainGoesRow : OpenClaim := { program := "yteddcbknadbbgaagreat", sum := "8ee6e5405cc4ce468e2e88ea353f32b394a9413de13e649c125e473888b9bc73", func := "almonry/almonrylaw20.ChainGoes", spec := "chainGoes", inPlace := ["internal/bytealg.IndexByteString", "internal/bytealg.IndexString"], unfollowed := true, recurses := true, named := ["internal/bytealg.MaxLen"], apart := false }
def ChainGoesSaid : Prop := chainGoesRow.holds Tryz.pinned (OpenSpec.ofChange chainGoesSpec)

/-- ITS FALSE NEIGHBOUR: 'it returns false'. Refute it at one input. -/
def chainGoesWrong : ChangeSpec := { name := "chainGoes", fn := fun _ => fun
  | [d1, d2] => { results := [.lit (.bool false)], args := [d1, d2] }
  | _ => none }
def ChainGoesWrongFalsely : Prop := chainGoesRow.holds Tryz.pinned (OpenSpec.ofChange chainGoesWrong)

/-- 'almonrylaw20.ChainFirst': WHATEVER THE INPUT: true; the input reads as it did. -/
def chainFirstSpec : ChangeSpec := { name := "chainFirst", fn := fun _ => fun
  | [d1, d2] => { results := [.lit (.bool true)], args := [d1, d2] }
  | _ => none }
def chainFirstRow : OpenClaim := { program := "yteddcbknadbbgaagreat", sum := "8ee6e5405cc4ce468e2e88ea353f32b394a9413de13e649c125e473888b9bc73", func := "almonry/almonrylaw20.ChainFirst", spec := "chainFirst", inPlace := ["internal/bytealg.IndexByteString", "internal/bytealg.IndexString"], unfollowed := true, recurses := true, named := ["internal/bytealg.MaxLen"], apart := false }
def ChainFirstSaid : Prop := chainFirstRow.holds Tryz.pinned (OpenSpec.ofChange chainFirstSpec)

/-- ITS FALSE NEIGHBOUR: 'it returns false'. Refute it at one input. -/
def chainFirstWrong : ChangeSpec := { name := "chainFirst", fn := fun _ => fun
  | [d1, d2] => { results := [.lit (.bool false)], args := [d1, d2] }
  | _ => none }
def ChainFirstWrongFalsely : Prop := chainFirstRow.holds Tryz.pinned (OpenSpec.ofChange chainFirstWrong)

/- THE SECOND FORM. 'bulk': how many values and letters a reading holds, each counted each time it is reached (what is shared counts as often as it is met; a slice's spare places count too). A statement '..UptoSaid' is the law's where the arguments, and the package variables that the reading takes, are together of bulk at most 1048576: NARROWER than '..Said'. Prove '..Said' where nothing that the law and all that it calls make is longer than what came in: it says more and counts as full. Else prove '..UptoSaid'. A law counts once. -/
mutual
def uptoBulk {H : Type} : DataW H → Nat
  | .lit (.string bytes) => bytes.length + 1
  | .lit _ => 1
  | .nil => 1
  | .ptr d => uptoBulk d + 1
  | .slice elems spare => uptoBulkAll elems + uptoBulkAll spare + 1
  | .agg parts => uptoBulkAll parts + 1
  | .iface _ d => uptoBulk d + 1
  | .map entries => uptoBulkEntries entries + 1
  | .held _ => 1
def uptoBulkAll {H : Type} : List (DataW H) → Nat
  | [] => 0
  | d :: r => uptoBulk d + uptoBulkAll r
def uptoBulkEntries {H : Type} : List (Lit × DataW H) → Nat
  | [] => 0
  | x :: r => uptoBulkEntry x + uptoBulkEntries r
def uptoBulkEntry {H : Type} : Lit × DataW H → Nat
  | (.string bytes, d) => bytes.length + uptoBulk d + 1
  | (_, d) => uptoBulk d + 1
 end
def uptoSmall : (H : Type) → List (DataW H) → Bool := fun _ ds => decide (uptoBulkAll ds ≤ 1048576)
def OpenSpec.upto (s : _root_.Go.ChangeSpec) : _root_.Go.OpenSpec := { _root_.Go.OpenSpec.ofChange s with cond := some uptoSmall }

/-- 'almonrylaw20.ChainActs', WHERE WHAT IT READS IS OF BULK AT MOST 1048576: true; the input reads as it did. -/
def chainActsUptoRow : OpenClaim := { program := "yteddcbknadbbgaagreat", sum := "8ee6e5405cc4ce468e2e88ea353f32b394a9413de13e649c125e473888b9bc73", func := "almonry/almonrylaw20.ChainActs", spec := "chainActs", inPlace := ["internal/bytealg.IndexByteString", "internal/bytealg.IndexString"], unfollowed := true, recurses := true, named := ["internal/bytealg.MaxLen"], apart := false, narrowed := true }
def ChainActsUptoSaid : Prop := chainActsUptoRow.holds Tryz.pinned (OpenSpec.upto chainActsSpec)

/-- 'almonrylaw20.ChainForms', WHERE WHAT IT READS IS OF BULK AT MOST 1048576: true; the input reads as it did. -/
def chainFormsUptoRow : OpenClaim := { program := "yteddcbknadbbgaagreat", sum := "8ee6e5405cc4ce468e2e88ea353f32b394a9413de13e649c125e473888b9bc73", func := "almonry/almonrylaw20.ChainForms", spec := "chainForms", inPlace := ["internal/bytealg.IndexByteString", "internal/bytealg.IndexString"], unfollowed := true, recurses := true, named := ["internal/bytealg.MaxLen"], apart := false, narrowed := true }
def ChainFormsUptoSaid : Prop := chainFormsUptoRow.holds Tryz.pinned (OpenSpec.upto chainFormsSpec)

/-- 'almonrylaw20.ChainOwn', WHERE WHAT IT READS IS OF BULK AT MOST 1048576: true; the input reads as it did. -/
def chainOwnUptoRow : OpenClaim := { program := "yteddcbknadbbgaagreat", sum := "8ee6e5405cc4ce468e2e88ea353f32b394a9413de13e649c125e473888b9bc73", func := "almonry/almonrylaw20.ChainOwn", spec := "chainOwn", inPlace := ["internal/bytealg.IndexByteString", "internal/bytealg.IndexString"], unfollowed := true, recurses := true, named := ["internal/bytealg.MaxLen"], apart := false, narrowed := true }
def ChainOwnUptoSaid : Prop := chainOwnUptoRow.holds Tryz.pinned (OpenSpec.upto chainOwnSpec)

/-- 'almonrylaw20.ChainGoes', WHERE WHAT IT READS IS OF BULK AT MOST 1048576: true; the input reads as it did. -/
def chainGoesUptoRow : OpenClaim := { program := "yteddcbknadbbgaagreat", sum := "8ee6e5405cc4ce468e2e88ea353f32b394a9413de13e649c125e473888b9bc73", func := "almonry/almonrylaw20.ChainGoes", spec := "chainGoes", inPlace := ["internal/bytealg.IndexByteString", "internal/bytealg.IndexString"], unfollowed := true, recurses := true, named := ["internal/bytealg.MaxLen"], apart := false, narrowed := true }
def ChainGoesUptoSaid : Prop := chainGoesUptoRow.holds Tryz.pinned (OpenSpec.upto chainGoesSpec)

/-- 'almonrylaw20.ChainFirst', WHERE WHAT IT READS IS OF BULK AT MOST 1048576: true; the input reads as it did. -/
def chainFirstUptoRow : OpenClaim := { program := "yteddcbknadbbgaagreat", sum := "8ee6e5405cc4ce468e2e88ea353f32b394a9413de13e649c125e473888b9bc73", func := "almonry/almonrylaw20.ChainFirst", spec := "chainFirst", inPlace := ["internal/bytealg.IndexByteString", "internal/bytealg.IndexString"], unfollowed := true, recurses := true, named := ["internal/bytealg.MaxLen"], apart := false, narrowed := true }
def ChainFirstUptoSaid : Prop := chainFirstUptoRow.holds Tryz.pinned (OpenSpec.upto chainFirstSpec)

end Rows
end Go.Proofs.YteddcbknadbbgaaGreat
