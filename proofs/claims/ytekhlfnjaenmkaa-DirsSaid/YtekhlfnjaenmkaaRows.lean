/-
  No cell of these rows narrows 'for every input' (looked for: loops, veiled, ifaces, maps, wideKeys, modest, calm, conditions, laid).
  DERIVED. THE GIVEN ROWS OF THIS SEAT. 4 by the template 'for every input the law returns true; each argument reads behind the call as it read before'; 0 by the template 'total and deterministic' (their statements: YtekhlfnjaenmkaaTotals.lean).
  GIVEN WITH THE SEED: the statements are not yours to turn. If you find one false, say at which input.
  Laid BY PROGRAM, IN A SANDBOX (cutbox-rows.mjs): the forced cells as the released guide's own fill.sh prints them over the translation 85bdd64e04ae89bc… (all of the seat's roots in one cut). By AI agents, Wed Nov 11 2026. No macro, syntax, notation, axiom, sorry.
-/
import Derived.Test.YtekhlfnjaenmkaaChecked
import GoSem.Claim
import GoSem.ClaimJoined
import GoSem.ClaimMapViews
import Derived.JoinedTies
import Derived.KernelRfl
namespace Go.Proofs.Ytekhlfnjaenmkaa
/- THE CELL 'sum', in the pinned program and in every row, IS THE sha256 OF THE DUMP (.gsa) THAT YtekhlfnjaenmkaaProg.lean LOADS. Nothing in Lean hashes anything: it is a label: what it is worth is what the hold of that sum in a sandbox is worth. -/
noncomputable def Try.pinned : Pinned := { name := "ytekhlfnjaenmkaa", sum := "85bdd64e04ae89bcf4cfe85543e23bad09ed912cb0c1d29db146a956cdbf6c75", checked := Try.checked }
namespace Rows
def none {H : Type} : Left H := { results := [], args := [] }

/-- 'almonrylaw13.Dirs': WHATEVER THE INPUT: true; the input reads as it did. -/
def dirsSpec : ChangeSpec := { name := "dirs", fn := fun _ => fun
  | [d1, d2, d3, d4] => { results := [.lit (.bool true)], args := [d1, d2, d3, d4] }
  | _ => none }
def dirsRow : OpenClaim := { program := "ytekhlfnjaenmkaa", sum := "85bdd64e04ae89bcf4cfe85543e23bad09ed912cb0c1d29db146a956cdbf6c75", func := "almonry/almonrylaw13.Dirs", spec := "dirs", inPlace := ["internal/bytealg.IndexByteString", "internal/bytealg.IndexString", "slices.overlaps[almonry/api.Dirent]"], unfollowed := true, recurses := true, named := ["internal/bytealg.MaxLen"], apart := false }
def DirsSaid : Prop := dirsRow.holds Try.pinned (OpenSpec.ofChange dirsSpec)

/-- ITS FALSE NEIGHBOUR: 'it returns false'. Refute it at one input. -/
def dirsWrong : ChangeSpec := { name := "dirs", fn := fun _ => fun
  | [d1, d2, d3, d4] => { results := [.lit (.bool false)], args := [d1, d2, d3, d4] }
  | _ => none }
def DirsWrongFalsely : Prop := dirsRow.holds Try.pinned (OpenSpec.ofChange dirsWrong)

/-- 'almonrylaw13.DirRules': WHATEVER THE INPUT: true; the input reads as it did. -/
def dirRulesSpec : ChangeSpec := { name := "dirRules", fn := fun _ => fun
  | [d1, d2] => { results := [.lit (.bool true)], args := [d1, d2] }
  | _ => none }
def dirRulesRow : OpenClaim := { program := "ytekhlfnjaenmkaa", sum := "85bdd64e04ae89bcf4cfe85543e23bad09ed912cb0c1d29db146a956cdbf6c75", func := "almonry/almonrylaw13.DirRules", spec := "dirRules", inPlace := ["internal/bytealg.IndexByteString", "internal/bytealg.IndexString", "slices.overlaps[almonry/api.Dirent]"], unfollowed := true, recurses := true, named := ["internal/bytealg.MaxLen"], apart := false }
def DirRulesSaid : Prop := dirRulesRow.holds Try.pinned (OpenSpec.ofChange dirRulesSpec)

/-- ITS FALSE NEIGHBOUR: 'it returns false'. Refute it at one input. -/
def dirRulesWrong : ChangeSpec := { name := "dirRules", fn := fun _ => fun
  | [d1, d2] => { results := [.lit (.bool false)], args := [d1, d2] }
  | _ => none }
def DirRulesWrongFalsely : Prop := dirRulesRow.holds Try.pinned (OpenSpec.ofChange dirRulesWrong)

/-- 'almonrylaw13.DirForms': WHATEVER THE INPUT: true; the input reads as it did. -/
def dirFormsSpec : ChangeSpec := { name := "dirForms", fn := fun _ => fun
  | [d1, d2] => { results := [.lit (.bool true)], args := [d1, d2] }
  | _ => none }
def dirFormsRow : OpenClaim := { program := "ytekhlfnjaenmkaa", sum := "85bdd64e04ae89bcf4cfe85543e23bad09ed912cb0c1d29db146a956cdbf6c75", func := "almonry/almonrylaw13.DirForms", spec := "dirForms", inPlace := ["internal/bytealg.IndexByteString", "internal/bytealg.IndexString", "slices.overlaps[almonry/api.Dirent]"], unfollowed := true, recurses := true, named := ["internal/bytealg.MaxLen"], apart := false }
def DirFormsSaid : Prop := dirFormsRow.holds Try.pinned (OpenSpec.ofChange dirFormsSpec)

/-- ITS FALSE NEIGHBOUR: 'it returns false'. Refute it at one input. -/
def dirFormsWrong : ChangeSpec := { name := "dirForms", fn := fun _ => fun
  | [d1, d2] => { results := [.lit (.bool false)], args := [d1, d2] }
  | _ => none }
def DirFormsWrongFalsely : Prop := dirFormsRow.holds Try.pinned (OpenSpec.ofChange dirFormsWrong)

/-- 'almonrylaw13.DirFull': WHATEVER THE INPUT: true; the input reads as it did. -/
def dirFullSpec : ChangeSpec := { name := "dirFull", fn := fun _ => fun
  | [d] => { results := [.lit (.bool true)], args := [d] }
  | _ => none }
def dirFullRow : OpenClaim := { program := "ytekhlfnjaenmkaa", sum := "85bdd64e04ae89bcf4cfe85543e23bad09ed912cb0c1d29db146a956cdbf6c75", func := "almonry/almonrylaw13.DirFull", spec := "dirFull", inPlace := ["internal/bytealg.IndexByteString", "internal/bytealg.IndexString", "slices.overlaps[almonry/api.Dirent]"], unfollowed := true, recurses := true, named := ["internal/bytealg.MaxLen"], apart := false }
def DirFullSaid : Prop := dirFullRow.holds Try.pinned (OpenSpec.ofChange dirFullSpec)

/-- ITS FALSE NEIGHBOUR: 'it returns false'. Refute it at one input. -/
def dirFullWrong : ChangeSpec := { name := "dirFull", fn := fun _ => fun
  | [d] => { results := [.lit (.bool false)], args := [d] }
  | _ => none }
def DirFullWrongFalsely : Prop := dirFullRow.holds Try.pinned (OpenSpec.ofChange dirFullWrong)

/- THE SECOND FORM. 'bulk': how many values and letters a reading holds, each counted each time it is reached (what is shared counts as often as it is met; a slice's spare places count too). A statement '..UptoSaid' is the law's where the arguments, and the package variables that the reading takes, are together of bulk at most 1048576: NARROWER than '..Said'. Prove '..Said' where nothing that the law and all that it calls make is longer than what came in: it says more and counts as full. Else prove '..UptoSaid'. A law counts once. -/
mutual
def uptoBulk {H : Type} : DataW H → Nat
  | .lit (.string bytes) => bytes.length + 1
  | .lit _ => 1
  | .nil => 1
  | .ptr d => uptoBulk d + 1
  | .slice elems spare => uptoBulkAll elems + uptoBulkAll spare + 1
  | .agg parts => uptoBulkAll parts + 1
  | .iface _ d => uptoBulk d + 1
  | .map entries => uptoBulkEntries entries + 1
  | .held _ => 1
def uptoBulkAll {H : Type} : List (DataW H) → Nat
  | [] => 0
  | d :: r => uptoBulk d + uptoBulkAll r
def uptoBulkEntries {H : Type} : List (Lit × DataW H) → Nat
  | [] => 0
  | x :: r => uptoBulkEntry x + uptoBulkEntries r
def uptoBulkEntry {H : Type} : Lit × DataW H → Nat
  | (.string bytes, d) => bytes.length + uptoBulk d + 1
  | (_, d) => uptoBulk d + 1
 end
def uptoSmall : (H : Type) → List (DataW H) → Bool := fun _ ds => decide (uptoBulkAll ds ≤ 1048576)
def OpenSpec.upto (s : _root_.Go.ChangeSpec) : _root_.Go.OpenSpec := { _root_.Go.OpenSpec.ofChange s with cond := some uptoSmall }

/-- 'almonrylaw13.Dirs', WHERE WHAT IT READS IS OF BULK AT MOST 1048576: true; the input reads as it did. -/
def dirsUptoRow : OpenClaim := { program := "ytekhlfnjaenmkaa", sum := "85bdd64e04ae89bcf4cfe85543e23bad09ed912cb0c1d29db146a956cdbf6c75", func := "almonry/almonrylaw13.Dirs", spec := "dirs", inPlace := ["internal/bytealg.IndexByteString", "internal/bytealg.IndexString", "slices.overlaps[almonry/api.Dirent]"], unfollowed := true, recurses := true, named := ["internal/bytealg.MaxLen"], apart := false, narrowed := true }
def DirsUptoSaid : Prop := dirsUptoRow.holds Try.pinned (OpenSpec.upto dirsSpec)

/-- 'almonrylaw13.DirRules', WHERE WHAT IT READS IS OF BULK AT MOST 1048576: true; the input reads as it did. -/
def dirRulesUptoRow : OpenClaim := { program := "ytekhlfnjaenmkaa", sum := "85bdd64e04ae89bcf4cfe85543e23bad09ed912cb0c1d29db146a956cdbf6c75", func := "almonry/almonrylaw13.DirRules", spec := "dirRules", inPlace := ["internal/bytealg.IndexByteString", "internal/bytealg.IndexString", "slices.overlaps[almonry/api.Dirent]"], unfollowed := true, recurses := true, named := ["internal/bytealg.MaxLen"], apart := false, narrowed := true }
def DirRulesUptoSaid : Prop := dirRulesUptoRow.holds Try.pinned (OpenSpec.upto dirRulesSpec)

/-- 'almonrylaw13.DirForms', WHERE WHAT IT READS IS OF BULK AT MOST 1048576: true; the input reads as it did. -/
def dirFormsUptoRow : OpenClaim := { program := "ytekhlfnjaenmkaa", sum := "85bdd64e04ae89bcf4cfe85543e23bad09ed912cb0c1d29db146a956cdbf6c75", func := "almonry/almonrylaw13.DirForms", spec := "dirForms", inPlace := ["internal/bytealg.IndexByteString", "internal/bytealg.IndexString", "slices.overlaps[almonry/api.Dirent]"], unfollowed := true, recurses := true, named := ["internal/bytealg.MaxLen"], apart := false, narrowed := true }
def DirFormsUptoSaid : Prop := dirFormsUptoRow.holds Try.pinned (OpenSpec.upto dirFormsSpec)

/-- 'almonrylaw13.DirFull', WHERE WHAT IT READS IS OF BULK AT MOST 1048576: true; the input reads as it did. -/
def dirFullUptoRow : OpenClaim := { program := "ytekhlfnjaenmkaa", sum := "85bdd64e04ae89bcf4cfe85543e23bad09ed912cb0c1d29db146a956cdbf6c75", func := "almonry/almonrylaw13.DirFull", spec := "dirFull", inPlace := ["internal/bytealg.IndexByteString", "internal/bytealg.IndexString", "slices.overlaps[almonry/api.Dirent]"], unfollowed := true, recurses := true, named := ["internal/bytealg.MaxLen"], apart := false, narrowed := true }
def DirFullUptoSaid : Prop := dirFullUptoRow.holds Try.pinned (OpenSpec.upto dirFullSpec)

end Rows
end Go.Proofs.Ytekhlfnjaenmkaa
