/-
  No cell of these rows narrows 'for every input' (looked for: loops, veiled, ifaces, maps, wideKeys, modest, calm, conditions, laid).
  DERIVED. THE GIVEN ROWS OF THIS SEAT. 13 by the template 'for every input the law returns true; each argument reads behind the call as it read before'; 0 by the template 'total and deterministic' (their statements: YtcjpfpklnogepaaGreatTotals.lean).
  GIVEN WITH THE SEED: the statements are not yours to turn. If you find one false, say at which input.
  Laid BY PROGRAM, IN A SANDBOX (cutbox-rows.mjs): the forced cells as the released guide's own fill.sh prints them over the translation a5743c7db9788ba3… (all of the seat's roots in one cut). By AI agents, Wed Nov 11 2026. No macro, syntax, notation, axiom, sorry.
-/
import Derived.Test.YtcjpfpklnogepaaGreatChecked
import GoSem.Claim
import GoSem.ClaimJoined
import GoSem.ClaimMapViews
import Derived.JoinedTies
import Derived.KernelRfl
namespace Go.Proofs.YtcjpfpklnogepaaGreat
/- THE CELL 'sum', in the pinned program and in every row, IS THE sha256 OF THE DUMP (.gsa) THAT YtcjpfpklnogepaaGreatProg.lean LOADS. Nothing in Lean hashes anything: it is a label: what it is worth is what the hold of that sum in a sandbox is worth. -/
noncomputable def Tryz.pinned : Pinned := { name := "ytcjpfpklnogepaagreat", sum := "a5743c7db9788ba311c1ced1358ed75952373b8cbb63e16666ab97f2176b12be", checked := Tryz.checked }
namespace Rows
def none {H : Type} : Left H := { results := [], args := [] }

/-- 'almonrylaw17.Does': WHATEVER THE INPUT: true; the input reads as it did. -/
def doesSpec : ChangeSpec := { name := "does", fn := fun _ => fun
  | [d1, d2, d3, d4, d5] => { results := [.lit (.bool true)], args := [d1, d2, d3, d4, d5] }
  | _ => none }
def doesRow : OpenClaim := { program := "ytcjpfpklnogepaagreat", sum := "a5743c7db9788ba311c1ced1358ed75952373b8cbb63e16666ab97f2176b12be", func := "almonry/almonrylaw17.Does", spec := "does", inPlace := ["internal/bytealg.IndexByteString", "internal/bytealg.IndexString", "slices.overlaps[almonry/api.Node]", "slices.overlaps[almonry/api.Dirent]"], unfollowed := true, recurses := true, named := ["internal/bytealg.MaxLen"], apart := false }
def DoesSaid : Prop := doesRow.holds Tryz.pinned (OpenSpec.ofChange doesSpec)

/-- ITS FALSE NEIGHBOUR: 'it returns false'. Refute it at one input. -/
def doesWrong : ChangeSpec := { name := "does", fn := fun _ => fun
  | [d1, d2, d3, d4, d5] => { results := [.lit (.bool false)], args := [d1, d2, d3, d4, d5] }
  | _ => none }
def DoesWrongFalsely : Prop := doesRow.holds Tryz.pinned (OpenSpec.ofChange doesWrong)

/-- 'almonrylaw17.DoesRow': WHATEVER THE INPUT: true; the input reads as it did. -/
def doesRowSpec : ChangeSpec := { name := "doesRow", fn := fun _ => fun
  | [d1, d2, d3] => { results := [.lit (.bool true)], args := [d1, d2, d3] }
  | _ => none }
def doesRowRow : OpenClaim := { program := "ytcjpfpklnogepaagreat", sum := "a5743c7db9788ba311c1ced1358ed75952373b8cbb63e16666ab97f2176b12be", func := "almonry/almonrylaw17.DoesRow", spec := "doesRow", inPlace := ["internal/bytealg.IndexByteString", "internal/bytealg.IndexString", "slices.overlaps[almonry/api.Node]", "slices.overlaps[almonry/api.Dirent]"], unfollowed := true, recurses := true, named := ["internal/bytealg.MaxLen"], apart := false }
def DoesRowSaid : Prop := doesRowRow.holds Tryz.pinned (OpenSpec.ofChange doesRowSpec)

/-- ITS FALSE NEIGHBOUR: 'it returns false'. Refute it at one input. -/
def doesRowWrong : ChangeSpec := { name := "doesRow", fn := fun _ => fun
  | [d1, d2, d3] => { results := [.lit (.bool false)], args := [d1, d2, d3] }
  | _ => none }
def DoesRowWrongFalsely : Prop := doesRowRow.holds Tryz.pinned (OpenSpec.ofChange doesRowWrong)

/-- 'almonrylaw17.DoesOwn': WHATEVER THE INPUT: true; the input reads as it did. -/
def doesOwnSpec : ChangeSpec := { name := "doesOwn", fn := fun _ => fun
  | [d1, d2, d3, d4] => { results := [.lit (.bool true)], args := [d1, d2, d3, d4] }
  | _ => none }
def doesOwnRow : OpenClaim := { program := "ytcjpfpklnogepaagreat", sum := "a5743c7db9788ba311c1ced1358ed75952373b8cbb63e16666ab97f2176b12be", func := "almonry/almonrylaw17.DoesOwn", spec := "doesOwn", inPlace := ["internal/bytealg.IndexByteString", "internal/bytealg.IndexString", "slices.overlaps[almonry/api.Node]", "slices.overlaps[almonry/api.Dirent]"], unfollowed := true, recurses := true, named := ["internal/bytealg.MaxLen"], apart := false }
def DoesOwnSaid : Prop := doesOwnRow.holds Tryz.pinned (OpenSpec.ofChange doesOwnSpec)

/-- ITS FALSE NEIGHBOUR: 'it returns false'. Refute it at one input. -/
def doesOwnWrong : ChangeSpec := { name := "doesOwn", fn := fun _ => fun
  | [d1, d2, d3, d4] => { results := [.lit (.bool false)], args := [d1, d2, d3, d4] }
  | _ => none }
def DoesOwnWrongFalsely : Prop := doesOwnRow.holds Tryz.pinned (OpenSpec.ofChange doesOwnWrong)

/-- 'almonrylaw17.DoesReads': WHATEVER THE INPUT: true; the input reads as it did. -/
def doesReadsSpec : ChangeSpec := { name := "doesReads", fn := fun _ => fun
  | [d1, d2, d3, d4, d5, d6] => { results := [.lit (.bool true)], args := [d1, d2, d3, d4, d5, d6] }
  | _ => none }
def doesReadsRow : OpenClaim := { program := "ytcjpfpklnogepaagreat", sum := "a5743c7db9788ba311c1ced1358ed75952373b8cbb63e16666ab97f2176b12be", func := "almonry/almonrylaw17.DoesReads", spec := "doesReads", inPlace := ["internal/bytealg.IndexByteString", "internal/bytealg.IndexString", "slices.overlaps[almonry/api.Node]", "slices.overlaps[almonry/api.Dirent]"], unfollowed := true, recurses := true, named := ["internal/bytealg.MaxLen"], apart := false }
def DoesReadsSaid : Prop := doesReadsRow.holds Tryz.pinned (OpenSpec.ofChange doesReadsSpec)

/-- ITS FALSE NEIGHBOUR: 'it returns false'. Refute it at one input. -/
def doesReadsWrong : ChangeSpec := { name := "doesReads", fn := fun _ => fun
  | [d1, d2, d3, d4, d5, d6] => { results := [.lit (.bool false)], args := [d1, d2, d3, d4, d5, d6] }
  | _ => none }
def DoesReadsWrongFalsely : Prop := doesReadsRow.holds Tryz.pinned (OpenSpec.ofChange doesReadsWrong)

/-- 'almonrylaw17.OpsNames': WHATEVER THE INPUT: true; the input reads as it did. -/
def opsNamesSpec : ChangeSpec := { name := "opsNames", fn := fun _ => fun
  | [d1, d2] => { results := [.lit (.bool true)], args := [d1, d2] }
  | _ => none }
def opsNamesRow : OpenClaim := { program := "ytcjpfpklnogepaagreat", sum := "a5743c7db9788ba311c1ced1358ed75952373b8cbb63e16666ab97f2176b12be", func := "almonry/almonrylaw17.OpsNames", spec := "opsNames", inPlace := ["internal/bytealg.IndexByteString", "internal/bytealg.IndexString", "slices.overlaps[almonry/api.Node]", "slices.overlaps[almonry/api.Dirent]"], unfollowed := true, recurses := true, named := ["internal/bytealg.MaxLen"], apart := false }
def OpsNamesSaid : Prop := opsNamesRow.holds Tryz.pinned (OpenSpec.ofChange opsNamesSpec)

/-- ITS FALSE NEIGHBOUR: 'it returns false'. Refute it at one input. -/
def opsNamesWrong : ChangeSpec := { name := "opsNames", fn := fun _ => fun
  | [d1, d2] => { results := [.lit (.bool false)], args := [d1, d2] }
  | _ => none }
def OpsNamesWrongFalsely : Prop := opsNamesRow.holds Tryz.pinned (OpenSpec.ofChange opsNamesWrong)

/-- 'almonrylaw17.OpsBytes': WHATEVER THE INPUT: true; the input reads as it did. -/
def opsBytesSpec : ChangeSpec := { name := "opsBytes", fn := fun _ => fun
  | [d1, d2, d3, d4, d5, d6] => { results := [.lit (.bool true)], args := [d1, d2, d3, d4, d5, d6] }
  | _ => none }
def opsBytesRow : OpenClaim := { program := "ytcjpfpklnogepaagreat", sum := "a5743c7db9788ba311c1ced1358ed75952373b8cbb63e16666ab97f2176b12be", func := "almonry/almonrylaw17.OpsBytes", spec := "opsBytes", inPlace := ["internal/bytealg.IndexByteString", "internal/bytealg.IndexString", "slices.overlaps[almonry/api.Node]", "slices.overlaps[almonry/api.Dirent]"], unfollowed := true, recurses := true, named := ["internal/bytealg.MaxLen"], apart := false }
def OpsBytesSaid : Prop := opsBytesRow.holds Tryz.pinned (OpenSpec.ofChange opsBytesSpec)

/-- ITS FALSE NEIGHBOUR: 'it returns false'. Refute it at one input. -/
def opsBytesWrong : ChangeSpec := { name := "opsBytes", fn := fun _ => fun
  | [d1, d2, d3, d4, d5, d6] => { results := [.lit (.bool false)], args := [d1, d2, d3, d4, d5, d6] }
  | _ => none }
def OpsBytesWrongFalsely : Prop := opsBytesRow.holds Tryz.pinned (OpenSpec.ofChange opsBytesWrong)

/-- 'almonrylaw17.OpsLinks': WHATEVER THE INPUT: true; the input reads as it did. -/
def opsLinksSpec : ChangeSpec := { name := "opsLinks", fn := fun _ => fun
  | [d1, d2] => { results := [.lit (.bool true)], args := [d1, d2] }
  | _ => none }
def opsLinksRow : OpenClaim := { program := "ytcjpfpklnogepaagreat", sum := "a5743c7db9788ba311c1ced1358ed75952373b8cbb63e16666ab97f2176b12be", func := "almonry/almonrylaw17.OpsLinks", spec := "opsLinks", inPlace := ["internal/bytealg.IndexByteString", "internal/bytealg.IndexString", "slices.overlaps[almonry/api.Node]", "slices.overlaps[almonry/api.Dirent]"], unfollowed := true, recurses := true, named := ["internal/bytealg.MaxLen"], apart := false }
def OpsLinksSaid : Prop := opsLinksRow.holds Tryz.pinned (OpenSpec.ofChange opsLinksSpec)

/-- ITS FALSE NEIGHBOUR: 'it returns false'. Refute it at one input. -/
def opsLinksWrong : ChangeSpec := { name := "opsLinks", fn := fun _ => fun
  | [d1, d2] => { results := [.lit (.bool false)], args := [d1, d2] }
  | _ => none }
def OpsLinksWrongFalsely : Prop := opsLinksRow.holds Tryz.pinned (OpenSpec.ofChange opsLinksWrong)

/-- 'almonrylaw17.OpsDirs': WHATEVER THE INPUT: true; the input reads as it did. -/
def opsDirsSpec : ChangeSpec := { name := "opsDirs", fn := fun _ => fun
  | [d1, d2] => { results := [.lit (.bool true)], args := [d1, d2] }
  | _ => none }
def opsDirsRow : OpenClaim := { program := "ytcjpfpklnogepaagreat", sum := "a5743c7db9788ba311c1ced1358ed75952373b8cbb63e16666ab97f2176b12be", func := "almonry/almonrylaw17.OpsDirs", spec := "opsDirs", inPlace := ["internal/bytealg.IndexByteString", "internal/bytealg.IndexString", "slices.overlaps[almonry/api.Node]", "slices.overlaps[almonry/api.Dirent]"], unfollowed := true, recurses := true, named := ["internal/bytealg.MaxLen"], apart := false }
def OpsDirsSaid : Prop := opsDirsRow.holds Tryz.pinned (OpenSpec.ofChange opsDirsSpec)

/-- ITS FALSE NEIGHBOUR: 'it returns false'. Refute it at one input. -/
def opsDirsWrong : ChangeSpec := { name := "opsDirs", fn := fun _ => fun
  | [d1, d2] => { results := [.lit (.bool false)], args := [d1, d2] }
  | _ => none }
def OpsDirsWrongFalsely : Prop := opsDirsRow.holds Tryz.pinned (OpenSpec.ofChange opsDirsWrong)

/-- 'almonrylaw17.OpsMoves': WHATEVER THE INPUT: true; the input reads as it did. -/
def opsMovesSpec : ChangeSpec := { name := "opsMoves", fn := fun _ => fun
  | [d1, d2] => { results := [.lit (.bool true)], args := [d1, d2] }
  | _ => none }
def opsMovesRow : OpenClaim := { program := "ytcjpfpklnogepaagreat", sum := "a5743c7db9788ba311c1ced1358ed75952373b8cbb63e16666ab97f2176b12be", func := "almonry/almonrylaw17.OpsMoves", spec := "opsMoves", inPlace := ["internal/bytealg.IndexByteString", "internal/bytealg.IndexString", "slices.overlaps[almonry/api.Node]", "slices.overlaps[almonry/api.Dirent]"], unfollowed := true, recurses := true, named := ["internal/bytealg.MaxLen"], apart := false }
def OpsMovesSaid : Prop := opsMovesRow.holds Tryz.pinned (OpenSpec.ofChange opsMovesSpec)

/-- ITS FALSE NEIGHBOUR: 'it returns false'. Refute it at one input. -/
def opsMovesWrong : ChangeSpec := { name := "opsMoves", fn := fun _ => fun
  | [d1, d2] => { results := [.lit (.bool false)], args := [d1, d2] }
  | _ => none }
def OpsMovesWrongFalsely : Prop := opsMovesRow.holds Tryz.pinned (OpenSpec.ofChange opsMovesWrong)

/-- 'almonrylaw17.OpsShuts': WHATEVER THE INPUT: true; the input reads as it did. -/
def opsShutsSpec : ChangeSpec := { name := "opsShuts", fn := fun _ => fun
  | [d1, d2, d3] => { results := [.lit (.bool true)], args := [d1, d2, d3] }
  | _ => none }
def opsShutsRow : OpenClaim := { program := "ytcjpfpklnogepaagreat", sum := "a5743c7db9788ba311c1ced1358ed75952373b8cbb63e16666ab97f2176b12be", func := "almonry/almonrylaw17.OpsShuts", spec := "opsShuts", inPlace := ["internal/bytealg.IndexByteString", "internal/bytealg.IndexString", "slices.overlaps[almonry/api.Node]", "slices.overlaps[almonry/api.Dirent]"], unfollowed := true, recurses := true, named := ["internal/bytealg.MaxLen"], apart := false }
def OpsShutsSaid : Prop := opsShutsRow.holds Tryz.pinned (OpenSpec.ofChange opsShutsSpec)

/-- ITS FALSE NEIGHBOUR: 'it returns false'. Refute it at one input. -/
def opsShutsWrong : ChangeSpec := { name := "opsShuts", fn := fun _ => fun
  | [d1, d2, d3] => { results := [.lit (.bool false)], args := [d1, d2, d3] }
  | _ => none }
def OpsShutsWrongFalsely : Prop := opsShutsRow.holds Tryz.pinned (OpenSpec.ofChange opsShutsWrong)

/-- 'almonrylaw17.OpsFull': WHATEVER THE INPUT: true; the input reads as it did. -/
def opsFullSpec : ChangeSpec := { name := "opsFull", fn := fun _ => fun
  | [d1, d2] => { results := [.lit (.bool true)], args := [d1, d2] }
  | _ => none }
def opsFullRow : OpenClaim := { program := "ytcjpfpklnogepaagreat", sum := "a5743c7db9788ba311c1ced1358ed75952373b8cbb63e16666ab97f2176b12be", func := "almonry/almonrylaw17.OpsFull", spec := "opsFull", inPlace := ["internal/bytealg.IndexByteString", "internal/bytealg.IndexString", "slices.overlaps[almonry/api.Node]", "slices.overlaps[almonry/api.Dirent]"], unfollowed := true, recurses := true, named := ["internal/bytealg.MaxLen"], apart := false }
def OpsFullSaid : Prop := opsFullRow.holds Tryz.pinned (OpenSpec.ofChange opsFullSpec)

/-- ITS FALSE NEIGHBOUR: 'it returns false'. Refute it at one input. -/
def opsFullWrong : ChangeSpec := { name := "opsFull", fn := fun _ => fun
  | [d1, d2] => { results := [.lit (.bool false)], args := [d1, d2] }
  | _ => none }
def OpsFullWrongFalsely : Prop := opsFullRow.holds Tryz.pinned (OpenSpec.ofChange opsFullWrong)

/-- 'almonrylaw17.OpsNumbers': WHATEVER THE INPUT: true; the input reads as it did. -/
def opsNumbersSpec : ChangeSpec := { name := "opsNumbers", fn := fun _ => fun
  | [d] => { results := [.lit (.bool true)], args := [d] }
  | _ => none }
def opsNumbersRow : OpenClaim := { program := "ytcjpfpklnogepaagreat", sum := "a5743c7db9788ba311c1ced1358ed75952373b8cbb63e16666ab97f2176b12be", func := "almonry/almonrylaw17.OpsNumbers", spec := "opsNumbers", inPlace := ["internal/bytealg.IndexByteString", "internal/bytealg.IndexString", "slices.overlaps[almonry/api.Node]", "slices.overlaps[almonry/api.Dirent]"], unfollowed := true, recurses := true, named := ["internal/bytealg.MaxLen"], apart := false }
def OpsNumbersSaid : Prop := opsNumbersRow.holds Tryz.pinned (OpenSpec.ofChange opsNumbersSpec)

/-- ITS FALSE NEIGHBOUR: 'it returns false'. Refute it at one input. -/
def opsNumbersWrong : ChangeSpec := { name := "opsNumbers", fn := fun _ => fun
  | [d] => { results := [.lit (.bool false)], args := [d] }
  | _ => none }
def OpsNumbersWrongFalsely : Prop := opsNumbersRow.holds Tryz.pinned (OpenSpec.ofChange opsNumbersWrong)

/-- 'almonrylaw17.OpsWrong': WHATEVER THE INPUT: true; the input reads as it did. -/
def opsWrongSpec : ChangeSpec := { name := "opsWrong", fn := fun _ => fun
  | [d] => { results := [.lit (.bool true)], args := [d] }
  | _ => none }
def opsWrongRow : OpenClaim := { program := "ytcjpfpklnogepaagreat", sum := "a5743c7db9788ba311c1ced1358ed75952373b8cbb63e16666ab97f2176b12be", func := "almonry/almonrylaw17.OpsWrong", spec := "opsWrong", inPlace := ["internal/bytealg.IndexByteString", "internal/bytealg.IndexString", "slices.overlaps[almonry/api.Node]", "slices.overlaps[almonry/api.Dirent]"], unfollowed := true, recurses := true, named := ["internal/bytealg.MaxLen"], apart := false }
def OpsWrongSaid : Prop := opsWrongRow.holds Tryz.pinned (OpenSpec.ofChange opsWrongSpec)

/-- ITS FALSE NEIGHBOUR: 'it returns false'. Refute it at one input. -/
def opsWrongWrong : ChangeSpec := { name := "opsWrong", fn := fun _ => fun
  | [d] => { results := [.lit (.bool false)], args := [d] }
  | _ => none }
def OpsWrongWrongFalsely : Prop := opsWrongRow.holds Tryz.pinned (OpenSpec.ofChange opsWrongWrong)

/- THE SECOND FORM. 'bulk': how many values and letters a reading holds, each counted each time it is reached (what is shared counts as often as it is met; a slice's spare places count too). A statement '..UptoSaid' is the law's where the arguments, and the package variables that the reading takes, are together of bulk at most 1048576: NARROWER than '..Said'. Prove '..Said' where nothing that the law and all that it calls make is longer than what came in: it says more and counts as full. Else prove '..UptoSaid'. A law counts once. -/
mutual
def uptoBulk {H : Type} : DataW H → Nat
  | .lit (.string bytes) => bytes.length + 1
  | .lit _ => 1
  | .nil => 1
  | .ptr d => uptoBulk d + 1
  | .slice elems spare => uptoBulkAll elems + uptoBulkAll spare + 1
  | .agg parts => uptoBulkAll parts + 1
  | .iface _ d => uptoBulk d + 1
  | .map entries => uptoBulkEntries entries + 1
  | .held _ => 1
def uptoBulkAll {H : Type} : List (DataW H) → Nat
  | [] => 0
  | d :: r => uptoBulk d + uptoBulkAll r
def uptoBulkEntries {H : Type} : List (Lit × DataW H) → Nat
  | [] => 0
  | x :: r => uptoBulkEntry x + uptoBulkEntries r
def uptoBulkEntry {H : Type} : Lit × DataW H → Nat
  | (.string bytes, d) => bytes.length + uptoBulk d + 1
  | (_, d) => uptoBulk d + 1
 end
def uptoSmall : (H : Type) → List (DataW H) → Bool := fun _ ds => decide (uptoBulkAll ds ≤ 1048576)
def OpenSpec.upto (s : _root_.Go.ChangeSpec) : _root_.Go.OpenSpec := { _root_.Go.OpenSpec.ofChange s with cond := some uptoSmall }

/-- 'almonrylaw17.Does', WHERE WHAT IT READS IS OF BULK AT MOST 1048576: true; the input reads as it did. -/
def doesUptoRow : OpenClaim := { program := "ytcjpfpklnogepaagreat", sum := "a5743c7db9788ba311c1ced1358ed75952373b8cbb63e16666ab97f2176b12be", func := "almonry/almonrylaw17.Does", spec := "does", inPlace := ["internal/bytealg.IndexByteString", "internal/bytealg.IndexString", "slices.overlaps[almonry/api.Node]", "slices.overlaps[almonry/api.Dirent]"], unfollowed := true, recurses := true, named := ["internal/bytealg.MaxLen"], apart := false, narrowed := true }
def DoesUptoSaid : Prop := doesUptoRow.holds Tryz.pinned (OpenSpec.upto doesSpec)

/-- 'almonrylaw17.DoesRow', WHERE WHAT IT READS IS OF BULK AT MOST 1048576: true; the input reads as it did. -/
def doesRowUptoRow : OpenClaim := { program := "ytcjpfpklnogepaagreat", sum := "a5743c7db9788ba311c1ced1358ed75952373b8cbb63e16666ab97f2176b12be", func := "almonry/almonrylaw17.DoesRow", spec := "doesRow", inPlace := ["internal/bytealg.IndexByteString", "internal/bytealg.IndexString", "slices.overlaps[almonry/api.Node]", "slices.overlaps[almonry/api.Dirent]"], unfollowed := true, recurses := true, named := ["internal/bytealg.MaxLen"], apart := false, narrowed := true }
def DoesRowUptoSaid : Prop := doesRowUptoRow.holds Tryz.pinned (OpenSpec.upto doesRowSpec)

/-- 'almonrylaw17.DoesOwn', WHERE WHAT IT READS IS OF BULK AT MOST 1048576: true; the input reads as it did. -/
def doesOwnUptoRow : OpenClaim := { program := "ytcjpfpklnogepaagreat", sum := "a5743c7db9788ba311c1ced1358ed75952373b8cbb63e16666ab97f2176b12be", func := "almonry/almonrylaw17.DoesOwn", spec := "doesOwn", inPlace := ["internal/bytealg.IndexByteString", "internal/bytealg.IndexString", "slices.overlaps[almonry/api.Node]", "slices.overlaps[almonry/api.Dirent]"], unfollowed := true, recurses := true, named := ["internal/bytealg.MaxLen"], apart := false, narrowed := true }
def DoesOwnUptoSaid : Prop := doesOwnUptoRow.holds Tryz.pinned (OpenSpec.upto doesOwnSpec)

/-- 'almonrylaw17.DoesReads', WHERE WHAT IT READS IS OF BULK AT MOST 1048576: true; the input reads as it did. -/
def doesReadsUptoRow : OpenClaim := { program := "ytcjpfpklnogepaagreat", sum := "a5743c7db9788ba311c1ced1358ed75952373b8cbb63e16666ab97f2176b12be", func := "almonry/almonrylaw17.DoesReads", spec := "doesReads", inPlace := ["internal/bytealg.IndexByteString", "internal/bytealg.IndexString", "slices.overlaps[almonry/api.Node]", "slices.overlaps[almonry/api.Dirent]"], unfollowed := true, recurses := true, named := ["internal/bytealg.MaxLen"], apart := false, narrowed := true }
def DoesReadsUptoSaid : Prop := doesReadsUptoRow.holds Tryz.pinned (OpenSpec.upto doesReadsSpec)

/-- 'almonrylaw17.OpsNames', WHERE WHAT IT READS IS OF BULK AT MOST 1048576: true; the input reads as it did. -/
def opsNamesUptoRow : OpenClaim := { program := "ytcjpfpklnogepaagreat", sum := "a5743c7db9788ba311c1ced1358ed75952373b8cbb63e16666ab97f2176b12be", func := "almonry/almonrylaw17.OpsNames", spec := "opsNames", inPlace := ["internal/bytealg.IndexByteString", "internal/bytealg.IndexString", "slices.overlaps[almonry/api.Node]", "slices.overlaps[almonry/api.Dirent]"], unfollowed := true, recurses := true, named := ["internal/bytealg.MaxLen"], apart := false, narrowed := true }
def OpsNamesUptoSaid : Prop := opsNamesUptoRow.holds Tryz.pinned (OpenSpec.upto opsNamesSpec)

/-- 'almonrylaw17.OpsBytes', WHERE WHAT IT READS IS OF BULK AT MOST 1048576: true; the input reads as it did. -/
def opsBytesUptoRow : OpenClaim := { program := "ytcjpfpklnogepaagreat", sum := "a5743c7db9788ba311c1ced1358ed75952373b8cbb63e16666ab97f2176b12be", func := "almonry/almonrylaw17.OpsBytes", spec := "opsBytes", inPlace := ["internal/bytealg.IndexByteString", "internal/bytealg.IndexString", "slices.overlaps[almonry/api.Node]", "slices.overlaps[almonry/api.Dirent]"], unfollowed := true, recurses := true, named := ["internal/bytealg.MaxLen"], apart := false, narrowed := true }
def OpsBytesUptoSaid : Prop := opsBytesUptoRow.holds Tryz.pinned (OpenSpec.upto opsBytesSpec)

/-- 'almonrylaw17.OpsLinks', WHERE WHAT IT READS IS OF BULK AT MOST 1048576: true; the input reads as it did. -/
def opsLinksUptoRow : OpenClaim := { program := "ytcjpfpklnogepaagreat", sum := "a5743c7db9788ba311c1ced1358ed75952373b8cbb63e16666ab97f2176b12be", func := "almonry/almonrylaw17.OpsLinks", spec := "opsLinks", inPlace := ["internal/bytealg.IndexByteString", "internal/bytealg.IndexString", "slices.overlaps[almonry/api.Node]", "slices.overlaps[almonry/api.Dirent]"], unfollowed := true, recurses := true, named := ["internal/bytealg.MaxLen"], apart := false, narrowed := true }
def OpsLinksUptoSaid : Prop := opsLinksUptoRow.holds Tryz.pinned (OpenSpec.upto opsLinksSpec)

/-- 'almonrylaw17.OpsDirs', WHERE WHAT IT READS IS OF BULK AT MOST 1048576: true; the input reads as it did. -/
def opsDirsUptoRow : OpenClaim := { program := "ytcjpfpklnogepaagreat", sum := "a5743c7db9788ba311c1ced1358ed75952373b8cbb63e16666ab97f2176b12be", func := "almonry/almonrylaw17.OpsDirs", spec := "opsDirs", inPlace := ["internal/bytealg.IndexByteString", "internal/bytealg.IndexString", "slices.overlaps[almonry/api.Node]", "slices.overlaps[almonry/api.Dirent]"], unfollowed := true, recurses := true, named := ["internal/bytealg.MaxLen"], apart := false, narrowed := true }
def OpsDirsUptoSaid : Prop := opsDirsUptoRow.holds Tryz.pinned (OpenSpec.upto opsDirsSpec)

/-- 'almonrylaw17.OpsMoves', WHERE WHAT IT READS IS OF BULK AT MOST 1048576: true; the input reads as it did. -/
def opsMovesUptoRow : OpenClaim := { program := "ytcjpfpklnogepaagreat", sum := "a5743c7db9788ba311c1ced1358ed75952373b8cbb63e16666ab97f2176b12be", func := "almonry/almonrylaw17.OpsMoves", spec := "opsMoves", inPlace := ["internal/bytealg.IndexByteString", "internal/bytealg.IndexString", "slices.overlaps[almonry/api.Node]", "slices.overlaps[almonry/api.Dirent]"], unfollowed := true, recurses := true, named := ["internal/bytealg.MaxLen"], apart := false, narrowed := true }
def OpsMovesUptoSaid : Prop := opsMovesUptoRow.holds Tryz.pinned (OpenSpec.upto opsMovesSpec)

/-- 'almonrylaw17.OpsShuts', WHERE WHAT IT READS IS OF BULK AT MOST 1048576: true; the input reads as it did. -/
def opsShutsUptoRow : OpenClaim := { program := "ytcjpfpklnogepaagreat", sum := "a5743c7db9788ba311c1ced1358ed75952373b8cbb63e16666ab97f2176b12be", func := "almonry/almonrylaw17.OpsShuts", spec := "opsShuts", inPlace := ["internal/bytealg.IndexByteString", "internal/bytealg.IndexString", "slices.overlaps[almonry/api.Node]", "slices.overlaps[almonry/api.Dirent]"], unfollowed := true, recurses := true, named := ["internal/bytealg.MaxLen"], apart := false, narrowed := true }
def OpsShutsUptoSaid : Prop := opsShutsUptoRow.holds Tryz.pinned (OpenSpec.upto opsShutsSpec)

/-- 'almonrylaw17.OpsFull', WHERE WHAT IT READS IS OF BULK AT MOST 1048576: true; the input reads as it did. -/
def opsFullUptoRow : OpenClaim := { program := "ytcjpfpklnogepaagreat", sum := "a5743c7db9788ba311c1ced1358ed75952373b8cbb63e16666ab97f2176b12be", func := "almonry/almonrylaw17.OpsFull", spec := "opsFull", inPlace := ["internal/bytealg.IndexByteString", "internal/bytealg.IndexString", "slices.overlaps[almonry/api.Node]", "slices.overlaps[almonry/api.Dirent]"], unfollowed := true, recurses := true, named := ["internal/bytealg.MaxLen"], apart := false, narrowed := true }
def OpsFullUptoSaid : Prop := opsFullUptoRow.holds Tryz.pinned (OpenSpec.upto opsFullSpec)

/-- 'almonrylaw17.OpsNumbers', WHERE WHAT IT READS IS OF BULK AT MOST 1048576: true; the input reads as it did. -/
def opsNumbersUptoRow : OpenClaim := { program := "ytcjpfpklnogepaagreat", sum := "a5743c7db9788ba311c1ced1358ed75952373b8cbb63e16666ab97f2176b12be", func := "almonry/almonrylaw17.OpsNumbers", spec := "opsNumbers", inPlace := ["internal/bytealg.IndexByteString", "internal/bytealg.IndexString", "slices.overlaps[almonry/api.Node]", "slices.overlaps[almonry/api.Dirent]"], unfollowed := true, recurses := true, named := ["internal/bytealg.MaxLen"], apart := false, narrowed := true }
def OpsNumbersUptoSaid : Prop := opsNumbersUptoRow.holds Tryz.pinned (OpenSpec.upto opsNumbersSpec)

/-- 'almonrylaw17.OpsWrong', WHERE WHAT IT READS IS OF BULK AT MOST 1048576: true; the input reads as it did. -/
def opsWrongUptoRow : OpenClaim := { program := "ytcjpfpklnogepaagreat", sum := "a5743c7db9788ba311c1ced1358ed75952373b8cbb63e16666ab97f2176b12be", func := "almonry/almonrylaw17.OpsWrong", spec := "opsWrong", inPlace := ["internal/bytealg.IndexByteString", "internal/bytealg.IndexString", "slices.overlaps[almonry/api.Node]", "slices.overlaps[almonry/api.Dirent]"], unfollowed := true, recurses := true, named := ["internal/bytealg.MaxLen"], apart := false, narrowed := true }
def OpsWrongUptoSaid : Prop := opsWrongUptoRow.holds Tryz.pinned (OpenSpec.upto opsWrongSpec)

end Rows
end Go.Proofs.YtcjpfpklnogepaaGreat
