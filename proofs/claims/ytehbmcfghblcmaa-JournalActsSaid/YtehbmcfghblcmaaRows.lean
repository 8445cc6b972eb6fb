/-
  No cell of these rows narrows 'for every input' (looked for: loops, veiled, ifaces, maps, wideKeys, modest, calm, conditions, laid).
  DERIVED. THE GIVEN ROWS OF THIS SEAT. 7 by the template 'for every input the law returns true; each argument reads behind the call as it read before'; 0 by the template 'total and deterministic' (their statements: YtehbmcfghblcmaaTotals.lean).
  GIVEN WITH THE SEED: the statements are not yours to turn. If you find one false, say at which input.
  Laid BY PROGRAM, IN A SANDBOX (cutbox-rows.mjs): the forced cells as the released guide's own fill.sh prints them over the translation 5fb5c4eed4cebc88… (all of the seat's roots in one cut). By AI agents, Wed Nov 11 2026. No macro, syntax, notation, axiom, sorry.
-/
import Derived.Test.YtehbmcfghblcmaaChecked
import GoSem.Claim
import GoSem.ClaimJoined
import GoSem.ClaimMapViews
import Derived.JoinedTies
import Derived.KernelRfl
namespace Go.Proofs.Ytehbmcfghblcmaa
/- THE CELL 'sum', in the pinned program and in every row, IS THE sha256 OF THE DUMP (.gsa) THAT YtehbmcfghblcmaaProg.lean LOADS. Nothing in Lean hashes anything: it is a label: what it is worth is what the hold of that sum in a sandbox is worth. -/
noncomputable def Try.pinned : Pinned := { name := "ytehbmcfghblcmaa", sum := "5fb5c4eed4cebc883e84cc2c7a7fcfd549f03161047de8a9bc2324750bf2ea72", checked := Try.checked }
namespace Rows
def none {H : Type} : Left H := { results := [], args := [] }

/-- 'almonrylaw8.JournalSynced': WHATEVER THE INPUT: true; the input reads as it did. -/
def journalSyncedSpec : ChangeSpec := { name := "journalSynced", fn := fun _ => fun
  | [d1, d2, d3] => { results := [.lit (.bool true)], args := [d1, d2, d3] }
  | _ => none }
def journalSyncedRow : OpenClaim := { program := "ytehbmcfghblcmaa", sum := "5fb5c4eed4cebc883e84cc2c7a7fcfd549f03161047de8a9bc2324750bf2ea72", func := "almonry/almonrylaw8.JournalSynced", spec := "journalSynced", unfollowed := true, recurses := true, apart := false }
def JournalSyncedSaid : Prop := journalSyncedRow.holds Try.pinned (OpenSpec.ofChange journalSyncedSpec)

/-- ITS FALSE NEIGHBOUR: 'it returns false'. Refute it at one input. -/
def journalSyncedWrong : ChangeSpec := { name := "journalSynced", fn := fun _ => fun
  | [d1, d2, d3] => { results := [.lit (.bool false)], args := [d1, d2, d3] }
  | _ => none }
def JournalSyncedWrongFalsely : Prop := journalSyncedRow.holds Try.pinned (OpenSpec.ofChange journalSyncedWrong)

/-- 'almonrylaw8.JournalFull': WHATEVER THE INPUT: true; the input reads as it did. -/
def journalFullSpec : ChangeSpec := { name := "journalFull", fn := fun _ => fun
  | [d1, d2] => { results := [.lit (.bool true)], args := [d1, d2] }
  | _ => none }
def journalFullRow : OpenClaim := { program := "ytehbmcfghblcmaa", sum := "5fb5c4eed4cebc883e84cc2c7a7fcfd549f03161047de8a9bc2324750bf2ea72", func := "almonry/almonrylaw8.JournalFull", spec := "journalFull", unfollowed := true, recurses := true, apart := false }
def JournalFullSaid : Prop := journalFullRow.holds Try.pinned (OpenSpec.ofChange journalFullSpec)

/-- ITS FALSE NEIGHBOUR: 'it returns false'. Refute it at one input. -/
def journalFullWrong : ChangeSpec := { name := "journalFull", fn := fun _ => fun
  | [d1, d2] => { results := [.lit (.bool false)], args := [d1, d2] }
  | _ => none }
def JournalFullWrongFalsely : Prop := journalFullRow.holds Try.pinned (OpenSpec.ofChange journalFullWrong)

/-- 'almonrylaw8.JournalGoes': WHATEVER THE INPUT: true; the input reads as it did. -/
def journalGoesSpec : ChangeSpec := { name := "journalGoes", fn := fun _ => fun
  | [d1, d2] => { results := [.lit (.bool true)], args := [d1, d2] }
  | _ => none }
def journalGoesRow : OpenClaim := { program := "ytehbmcfghblcmaa", sum := "5fb5c4eed4cebc883e84cc2c7a7fcfd549f03161047de8a9bc2324750bf2ea72", func := "almonry/almonrylaw8.JournalGoes", spec := "journalGoes", unfollowed := true, recurses := true, apart := false }
def JournalGoesSaid : Prop := journalGoesRow.holds Try.pinned (OpenSpec.ofChange journalGoesSpec)

/-- ITS FALSE NEIGHBOUR: 'it returns false'. Refute it at one input. -/
def journalGoesWrong : ChangeSpec := { name := "journalGoes", fn := fun _ => fun
  | [d1, d2] => { results := [.lit (.bool false)], args := [d1, d2] }
  | _ => none }
def JournalGoesWrongFalsely : Prop := journalGoesRow.holds Try.pinned (OpenSpec.ofChange journalGoesWrong)

/-- 'almonrylaw8.JournalStale': WHATEVER THE INPUT: true; the input reads as it did. -/
def journalStaleSpec : ChangeSpec := { name := "journalStale", fn := fun _ => fun
  | [d1, d2, d3, d4] => { results := [.lit (.bool true)], args := [d1, d2, d3, d4] }
  | _ => none }
def journalStaleRow : OpenClaim := { program := "ytehbmcfghblcmaa", sum := "5fb5c4eed4cebc883e84cc2c7a7fcfd549f03161047de8a9bc2324750bf2ea72", func := "almonry/almonrylaw8.JournalStale", spec := "journalStale", unfollowed := true, recurses := true, apart := false }
def JournalStaleSaid : Prop := journalStaleRow.holds Try.pinned (OpenSpec.ofChange journalStaleSpec)

/-- ITS FALSE NEIGHBOUR: 'it returns false'. Refute it at one input. -/
def journalStaleWrong : ChangeSpec := { name := "journalStale", fn := fun _ => fun
  | [d1, d2, d3, d4] => { results := [.lit (.bool false)], args := [d1, d2, d3, d4] }
  | _ => none }
def JournalStaleWrongFalsely : Prop := journalStaleRow.holds Try.pinned (OpenSpec.ofChange journalStaleWrong)

/-- 'almonrylaw8.JournalActs': WHATEVER THE INPUT: true; the input reads as it did. -/
def journalActsSpec : ChangeSpec := { name := "journalActs", fn := fun _ => fun
  | [d1, d2] => { results := [.lit (.bool true)], args := [d1, d2] }
  | _ => none }
def journalActsRow : OpenClaim := { program := "ytehbmcfghblcmaa", sum := "5fb5c4eed4cebc883e84cc2c7a7fcfd549f03161047de8a9bc2324750bf2ea72", func := "almonry/almonrylaw8.JournalActs", spec := "journalActs", unfollowed := true, recurses := true, apart := false }
def JournalActsSaid : Prop := journalActsRow.holds Try.pinned (OpenSpec.ofChange journalActsSpec)

/-- ITS FALSE NEIGHBOUR: 'it returns false'. Refute it at one input. -/
def journalActsWrong : ChangeSpec := { name := "journalActs", fn := fun _ => fun
  | [d1, d2] => { results := [.lit (.bool false)], args := [d1, d2] }
  | _ => none }
def JournalActsWrongFalsely : Prop := journalActsRow.holds Try.pinned (OpenSpec.ofChange journalActsWrong)

/-- 'almonrylaw8.JournalSeals': WHATEVER THE INPUT: true; the input reads as it did. -/
def journalSealsSpec : ChangeSpec := { name := "journalSeals", fn := fun _ => fun
  | [d1, d2, d3] => { results := [.lit (.bool true)], args := [d1, d2, d3] }
  | _ => none }
def journalSealsRow : OpenClaim := { program := "ytehbmcfghblcmaa", sum := "5fb5c4eed4cebc883e84cc2c7a7fcfd549f03161047de8a9bc2324750bf2ea72", func := "almonry/almonrylaw8.JournalSeals", spec := "journalSeals", unfollowed := true, recurses := true, apart := false }
def JournalSealsSaid : Prop := journalSealsRow.holds Try.pinned (OpenSpec.ofChange journalSealsSpec)

/-- ITS FALSE NEIGHBOUR: 'it returns false'. Refute it at one input. -/
def journalSealsWrong : ChangeSpec := { name := "journalSeals", fn := fun _ => fun
  | [d1, d2, d3] => { results := [.lit (.bool false)], args := [d1, d2, d3] }
  | _ => none }
def JournalSealsWrongFalsely : Prop := journalSealsRow.holds Try.pinned (OpenSpec.ofChange journalSealsWrong)

/-- 'almonrylaw8.JournalBytes': WHATEVER THE INPUT: true; the input reads as it did. -/
def journalBytesSpec : ChangeSpec := { name := "journalBytes", fn := fun _ => fun
  | [d1, d2, d3, d4] => { results := [.lit (.bool true)], args := [d1, d2, d3, d4] }
  | _ => none }
def journalBytesRow : OpenClaim := { program := "ytehbmcfghblcmaa", sum := "5fb5c4eed4cebc883e84cc2c7a7fcfd549f03161047de8a9bc2324750bf2ea72", func := "almonry/almonrylaw8.JournalBytes", spec := "journalBytes", unfollowed := true, recurses := true, apart := false }
def JournalBytesSaid : Prop := journalBytesRow.holds Try.pinned (OpenSpec.ofChange journalBytesSpec)

/-- ITS FALSE NEIGHBOUR: 'it returns false'. Refute it at one input. -/
def journalBytesWrong : ChangeSpec := { name := "journalBytes", fn := fun _ => fun
  | [d1, d2, d3, d4] => { results := [.lit (.bool false)], args := [d1, d2, d3, d4] }
  | _ => none }
def JournalBytesWrongFalsely : Prop := journalBytesRow.holds Try.pinned (OpenSpec.ofChange journalBytesWrong)

/- THE SECOND FORM. 'bulk': how many values and letters a reading holds, each counted each time it is reached (what is shared counts as often as it is met; a slice's spare places count too). A statement '..UptoSaid' is the law's where the arguments, and the package variables that the reading takes, are together of bulk at most 1048576: NARROWER than '..Said'. Prove '..Said' where nothing that the law and all that it calls make is longer than what came in: it says more and counts as full. Else prove '..UptoSaid'. A law counts once. -/
mutual
def uptoBulk {H : Type} : DataW H → Nat
  | .lit (.string bytes) => bytes.length + 1
  | .lit _ => 1
  | .nil => 1
  | .ptr d => uptoBulk d + 1
  | .slice elems spare => uptoBulkAll elems + uptoBulkAll spare + 1
  | .agg parts => uptoBulkAll parts + 1
  | .iface _ d => uptoBulk d + 1
  | .map entries => uptoBulkEntries entries + 1
  | .held _ => 1
def uptoBulkAll {H : Type} : List (DataW H) → Nat
  | [] => 0
  | d :: r => uptoBulk d + uptoBulkAll r
def uptoBulkEntries {H : Type} : List (Lit × DataW H) → Nat
  | [] => 0
  | x :: r => uptoBulkEntry x + uptoBulkEntries r
def uptoBulkEntry {H : Type} : Lit × DataW H → Nat
  | (.string bytes, d) => bytes.length + uptoBulk d + 1
  | (_, d) => uptoBulk d + 1
 end
def uptoSmall : (H : Type) → List (DataW H) → Bool := fun _ ds => decide (uptoBulkAll ds ≤ 1048576)
def OpenSpec.upto (s : _root_.Go.ChangeSpec) : _root_.Go.OpenSpec := { _root_.Go.OpenSpec.ofChange s with cond := some uptoSmall }

/-- 'almonrylaw8.JournalSynced', WHERE WHAT IT READS IS OF BULK AT MOST 1048576: true; the input reads as it did. -/
def journalSyncedUptoRow : OpenClaim := { program := "ytehbmcfghblcmaa", sum := "5fb5c4eed4cebc883e84cc2c7a7fcfd549f03161047de8a9bc2324750bf2ea72", func := "almonry/almonrylaw8.JournalSynced", spec := "journalSynced", unfollowed := true, recurses := true, apart := false, narrowed := true }
def JournalSyncedUptoSaid : Prop := journalSyncedUptoRow.holds Try.pinned (OpenSpec.upto journalSyncedSpec)

/-- 'almonrylaw8.JournalFull', WHERE WHAT IT READS IS OF BULK AT MOST 1048576: true; the input reads as it did. -/
def journalFullUptoRow : OpenClaim := { program := "ytehbmcfghblcmaa", sum := "5fb5c4eed4cebc883e84cc2c7a7fcfd549f03161047de8a9bc2324750bf2ea72", func := "almonry/almonrylaw8.JournalFull", spec := "journalFull", unfollowed := true, recurses := true, apart := false, narrowed := true }
def JournalFullUptoSaid : Prop := journalFullUptoRow.holds Try.pinned (OpenSpec.upto journalFullSpec)

/-- 'almonrylaw8.JournalGoes', WHERE WHAT IT READS IS OF BULK AT MOST 1048576: true; the input reads as it did. -/
def journalGoesUptoRow : OpenClaim := { program := "ytehbmcfghblcmaa", sum := "5fb5c4eed4cebc883e84cc2c7a7fcfd549f03161047de8a9bc2324750bf2ea72", func := "almonry/almonrylaw8.JournalGoes", spec := "journalGoes", unfollowed := true, recurses := true, apart := false, narrowed := true }
def JournalGoesUptoSaid : Prop := journalGoesUptoRow.holds Try.pinned (OpenSpec.upto journalGoesSpec)

/-- 'almonrylaw8.JournalStale', WHERE WHAT IT READS IS OF BULK AT MOST 1048576: true; the input reads as it did. -/
def journalStaleUptoRow : OpenClaim := { program := "ytehbmcfghblcmaa", sum := "5fb5c4eed4cebc883e84cc2c7a7fcfd549f03161047de8a9bc2324750bf2ea72", func := "almonry/almonrylaw8.JournalStale", spec := "journalStale", unfollowed := true, recurses := true, apart := false, narrowed := true }
def JournalStaleUptoSaid : Prop := journalStaleUptoRow.holds Try.pinned (OpenSpec.upto journalStaleSpec)

/-- 'almonrylaw8.JournalActs', WHERE WHAT IT READS IS OF BULK AT MOST 1048576: true; the input reads as it did. -/
def journalActsUptoRow : OpenClaim := { program := "ytehbmcfghblcmaa", sum := "5fb5c4eed4cebc883e84cc2c7a7fcfd549f03161047de8a9bc2324750bf2ea72", func := "almonry/almonrylaw8.JournalActs", spec := "journalActs", unfollowed := true, recurses := true, apart := false, narrowed := true }
def JournalActsUptoSaid : Prop := journalActsUptoRow.holds Try.pinned (OpenSpec.upto journalActsSpec)

/-- 'almonrylaw8.JournalSeals', WHERE WHAT IT READS IS OF BULK AT MOST 1048576: true; the input reads as it did. -/
def journalSealsUptoRow : OpenClaim := { program := "ytehbmcfghblcmaa", sum := "5fb5c4eed4cebc883e84cc2c7a7fcfd549f03161047de8a9bc2324750bf2ea72", func := "almonry/almonrylaw8.JournalSeals", spec := "journalSeals", unfollowed := true, recurses := true, apart := false, narrowed := true }
def JournalSealsUptoSaid : Prop := journalSealsUptoRow.holds Try.pinned (OpenSpec.upto journalSealsSpec)

/-- 'almonrylaw8.JournalBytes', WHERE WHAT IT READS IS OF BULK AT MOST 1048576: true; the input reads as it did. -/
def journalBytesUptoRow : OpenClaim := { program := "ytehbmcfghblcmaa", sum := "5fb5c4eed4cebc883e84cc2c7a7fcfd549f03161047de8a9bc2324750bf2ea72", func := "almonry/almonrylaw8.JournalBytes", spec := "journalBytes", unfollowed := true, recurses := true, apart := false, narrowed := true }
def JournalBytesUptoSaid : Prop := journalBytesUptoRow.holds Try.pinned (OpenSpec.upto journalBytesSpec)

end Rows
end Go.Proofs.Ytehbmcfghblcmaa
