/-
  No cell of these rows narrows 'for every input' (looked for: loops, veiled, ifaces, maps, wideKeys, modest, calm, conditions, laid).
  DERIVED. THE GIVEN ROWS OF THIS SEAT. 6 by the template 'for every input the law returns true; each argument reads behind the call as it read before'; 0 by the template 'total and deterministic' (their statements: YtjohobehhijbcaaTotals.lean).
  GIVEN WITH THE SEED: the statements are not yours to turn. If you find one false, say at which input.
  Laid BY PROGRAM, IN A SANDBOX (cutbox-rows.mjs): the forced cells as the released guide's own fill.sh prints them over the translation 50e9080be4853a08… (all of the seat's roots in one cut). By AI agents, Wed Nov 11 2026. No macro, syntax, notation, axiom, sorry.
-/
import Derived.Test.YtjohobehhijbcaaChecked
import GoSem.Claim
import GoSem.ClaimJoined
import GoSem.ClaimMapViews
import Derived.JoinedTies
import Derived.KernelRfl
namespace Go.Proofs.Ytjohobehhijbcaa
/- THE CELL 'sum', in the pinned program and in every row, IS THE sha256 OF THE DUMP (.gsa) THAT YtjohobehhijbcaaProg.lean LOADS. Nothing in Lean hashes anything: it is a label: what it is worth is what the hold of that sum in a sandbox is worth. -/
noncomputable def Try.pinned : Pinned := { name := "ytjohobehhijbcaa", sum := "50e9080be4853a08d9ab0e66e51d6eaa293af21846aaa9c203742e15a413b1d3", checked := Try.checked }
namespace Rows
def none {H : Type} : Left H := { results := [], args := [] }

/-- 'anchoritelaw08.EntryReads': WHATEVER THE INPUT: true; the input reads as it did. -/
def entryReadsSpec : ChangeSpec := { name := "entryReads", fn := fun _ => fun
  | [d] => { results := [.lit (.bool true)], args := [d] }
  | _ => none }
def entryReadsRow : OpenClaim := { program := "ytjohobehhijbcaa", sum := "50e9080be4853a08d9ab0e66e51d6eaa293af21846aaa9c203742e15a413b1d3", func := "anchorite/anchoritelaw08.EntryReads", spec := "entryReads", apart := false }
def EntryReadsSaid : Prop := entryReadsRow.holds Try.pinned (OpenSpec.ofChange entryReadsSpec)

/-- ITS FALSE NEIGHBOUR: 'it returns false'. Refute it at one input. -/
def entryReadsWrong : ChangeSpec := { name := "entryReads", fn := fun _ => fun
  | [d] => { results := [.lit (.bool false)], args := [d] }
  | _ => none }
def EntryReadsWrongFalsely : Prop := entryReadsRow.holds Try.pinned (OpenSpec.ofChange entryReadsWrong)

/-- 'anchoritelaw08.EntryPlaces': WHATEVER THE INPUT: true; the input reads as it did. -/
def entryPlacesSpec : ChangeSpec := { name := "entryPlaces", fn := fun _ => fun
  | [d1, d2] => { results := [.lit (.bool true)], args := [d1, d2] }
  | _ => none }
def entryPlacesRow : OpenClaim := { program := "ytjohobehhijbcaa", sum := "50e9080be4853a08d9ab0e66e51d6eaa293af21846aaa9c203742e15a413b1d3", func := "anchorite/anchoritelaw08.EntryPlaces", spec := "entryPlaces", apart := false }
def EntryPlacesSaid : Prop := entryPlacesRow.holds Try.pinned (OpenSpec.ofChange entryPlacesSpec)

/-- ITS FALSE NEIGHBOUR: 'it returns false'. Refute it at one input. -/
def entryPlacesWrong : ChangeSpec := { name := "entryPlaces", fn := fun _ => fun
  | [d1, d2] => { results := [.lit (.bool false)], args := [d1, d2] }
  | _ => none }
def EntryPlacesWrongFalsely : Prop := entryPlacesRow.holds Try.pinned (OpenSpec.ofChange entryPlacesWrong)

/-- 'anchoritelaw08.EntryNests': WHATEVER THE INPUT: true; the input reads as it did. -/
def entryNestsSpec : ChangeSpec := { name := "entryNests", fn := fun _ => fun
  | [d1, d2] => { results := [.lit (.bool true)], args := [d1, d2] }
  | _ => none }
def entryNestsRow : OpenClaim := { program := "ytjohobehhijbcaa", sum := "50e9080be4853a08d9ab0e66e51d6eaa293af21846aaa9c203742e15a413b1d3", func := "anchorite/anchoritelaw08.EntryNests", spec := "entryNests", apart := false }
def EntryNestsSaid : Prop := entryNestsRow.holds Try.pinned (OpenSpec.ofChange entryNestsSpec)

/-- ITS FALSE NEIGHBOUR: 'it returns false'. Refute it at one input. -/
def entryNestsWrong : ChangeSpec := { name := "entryNests", fn := fun _ => fun
  | [d1, d2] => { results := [.lit (.bool false)], args := [d1, d2] }
  | _ => none }
def EntryNestsWrongFalsely : Prop := entryNestsRow.holds Try.pinned (OpenSpec.ofChange entryNestsWrong)

/-- 'anchoritelaw08.EntryMays': WHATEVER THE INPUT: true; the input reads as it did. -/
def entryMaysSpec : ChangeSpec := { name := "entryMays", fn := fun _ => fun
  | [d1, d2, d3] => { results := [.lit (.bool true)], args := [d1, d2, d3] }
  | _ => none }
def entryMaysRow : OpenClaim := { program := "ytjohobehhijbcaa", sum := "50e9080be4853a08d9ab0e66e51d6eaa293af21846aaa9c203742e15a413b1d3", func := "anchorite/anchoritelaw08.EntryMays", spec := "entryMays", apart := false }
def EntryMaysSaid : Prop := entryMaysRow.holds Try.pinned (OpenSpec.ofChange entryMaysSpec)

/-- ITS FALSE NEIGHBOUR: 'it returns false'. Refute it at one input. -/
def entryMaysWrong : ChangeSpec := { name := "entryMays", fn := fun _ => fun
  | [d1, d2, d3] => { results := [.lit (.bool false)], args := [d1, d2, d3] }
  | _ => none }
def EntryMaysWrongFalsely : Prop := entryMaysRow.holds Try.pinned (OpenSpec.ofChange entryMaysWrong)

/-- 'anchoritelaw08.EntryTables': WHATEVER THE INPUT: true; the input reads as it did. -/
def entryTablesSpec : ChangeSpec := { name := "entryTables", fn := fun _ => fun
  | [d1, d2] => { results := [.lit (.bool true)], args := [d1, d2] }
  | _ => none }
def entryTablesRow : OpenClaim := { program := "ytjohobehhijbcaa", sum := "50e9080be4853a08d9ab0e66e51d6eaa293af21846aaa9c203742e15a413b1d3", func := "anchorite/anchoritelaw08.EntryTables", spec := "entryTables", unfollowed := true, recurses := true, apart := false }
def EntryTablesSaid : Prop := entryTablesRow.holds Try.pinned (OpenSpec.ofChange entryTablesSpec)

/-- ITS FALSE NEIGHBOUR: 'it returns false'. Refute it at one input. -/
def entryTablesWrong : ChangeSpec := { name := "entryTables", fn := fun _ => fun
  | [d1, d2] => { results := [.lit (.bool false)], args := [d1, d2] }
  | _ => none }
def EntryTablesWrongFalsely : Prop := entryTablesRow.holds Try.pinned (OpenSpec.ofChange entryTablesWrong)

/-- 'anchoritelaw08.EntryBack': WHATEVER THE INPUT: true; the input reads as it did. -/
def entryBackSpec : ChangeSpec := { name := "entryBack", fn := fun _ => fun
  | [d1, d2, d3] => { results := [.lit (.bool true)], args := [d1, d2, d3] }
  | _ => none }
def entryBackRow : OpenClaim := { program := "ytjohobehhijbcaa", sum := "50e9080be4853a08d9ab0e66e51d6eaa293af21846aaa9c203742e15a413b1d3", func := "anchorite/anchoritelaw08.EntryBack", spec := "entryBack", unfollowed := true, recurses := true, apart := false }
def EntryBackSaid : Prop := entryBackRow.holds Try.pinned (OpenSpec.ofChange entryBackSpec)

/-- ITS FALSE NEIGHBOUR: 'it returns false'. Refute it at one input. -/
def entryBackWrong : ChangeSpec := { name := "entryBack", fn := fun _ => fun
  | [d1, d2, d3] => { results := [.lit (.bool false)], args := [d1, d2, d3] }
  | _ => none }
def EntryBackWrongFalsely : Prop := entryBackRow.holds Try.pinned (OpenSpec.ofChange entryBackWrong)

/- THE SECOND FORM. 'bulk': how many values and letters a reading holds, each counted each time it is reached (what is shared counts as often as it is met; a slice's spare places count too). A statement '..UptoSaid' is the law's where the arguments, and the package variables that the reading takes, are together of bulk at most 1048576: NARROWER than '..Said'. Prove '..Said' where nothing that the law and all that it calls make is longer than what came in: it says more and counts as full. Else prove '..UptoSaid'. A law counts once. -/
mutual
def uptoBulk {H : Type} : DataW H → Nat
  | .lit (.string bytes) => bytes.length + 1
  | .lit _ => 1
  | .nil => 1
  | .ptr d => uptoBulk d + 1
  | .slice elems spare => uptoBulkAll elems + uptoBulkAll spare + 1
  | .agg parts => uptoBulkAll parts + 1
  | .iface _ d => uptoBulk d + 1
  | .map entries => uptoBulkEntries entries + 1
  | .held _ => 1
def uptoBulkAll {H : Type} : List (DataW H) → Nat
  | [] => 0
  | d :: r => uptoBulk d + uptoBulkAll r
def uptoBulkEntries {H : Type} : List (Lit × DataW H) → Nat
  | [] => 0
  | x :: r => uptoBulkEntry x + uptoBulkEntries r
def uptoBulkEntry {H : Type} : Lit × DataW H → Nat
  | (.string bytes, d) => bytes.length + uptoBulk d + 1
  | (_, d) => uptoBulk d + 1
 end
def uptoSmall : (H : Type) → List (DataW H) → Bool := fun _ ds => decide (uptoBulkAll ds ≤ 1048576)
def OpenSpec.upto (s : _root_.Go.ChangeSpec) : _root_.Go.OpenSpec := { _root_.Go.OpenSpec.ofChange s with cond := some uptoSmall }

/-- 'anchoritelaw08.EntryReads', WHERE WHAT IT READS IS OF BULK AT MOST 1048576: true; the input reads as it did. -/
def entryReadsUptoRow : OpenClaim := { program := "ytjohobehhijbcaa", sum := "50e9080be4853a08d9ab0e66e51d6eaa293af21846aaa9c203742e15a413b1d3", func := "anchorite/anchoritelaw08.EntryReads", spec := "entryReads", apart := false, narrowed := true }
def EntryReadsUptoSaid : Prop := entryReadsUptoRow.holds Try.pinned (OpenSpec.upto entryReadsSpec)

/-- 'anchoritelaw08.EntryPlaces', WHERE WHAT IT READS IS OF BULK AT MOST 1048576: true; the input reads as it did. -/
def entryPlacesUptoRow : OpenClaim := { program := "ytjohobehhijbcaa", sum := "50e9080be4853a08d9ab0e66e51d6eaa293af21846aaa9c203742e15a413b1d3", func := "anchorite/anchoritelaw08.EntryPlaces", spec := "entryPlaces", apart := false, narrowed := true }
def EntryPlacesUptoSaid : Prop := entryPlacesUptoRow.holds Try.pinned (OpenSpec.upto entryPlacesSpec)

/-- 'anchoritelaw08.EntryNests', WHERE WHAT IT READS IS OF BULK AT MOST 1048576: true; the input reads as it did. -/
def entryNestsUptoRow : OpenClaim := { program := "ytjohobehhijbcaa", sum := "50e9080be4853a08d9ab0e66e51d6eaa293af21846aaa9c203742e15a413b1d3", func := "anchorite/anchoritelaw08.EntryNests", spec := "entryNests", apart := false, narrowed := true }
def EntryNestsUptoSaid : Prop := entryNestsUptoRow.holds Try.pinned (OpenSpec.upto entryNestsSpec)

/-- 'anchoritelaw08.EntryMays', WHERE WHAT IT READS IS OF BULK AT MOST 1048576: true; the input reads as it did. -/
def entryMaysUptoRow : OpenClaim := { program := "ytjohobehhijbcaa", sum := "50e9080be4853a08d9ab0e66e51d6eaa293af21846aaa9c203742e15a413b1d3", func := "anchorite/anchoritelaw08.EntryMays", spec := "entryMays", apart := false, narrowed := true }
def EntryMaysUptoSaid : Prop := entryMaysUptoRow.holds Try.pinned (OpenSpec.upto entryMaysSpec)

/-- 'anchoritelaw08.EntryTables', WHERE WHAT IT READS IS OF BULK AT MOST 1048576: true; the input reads as it did. -/
def entryTablesUptoRow : OpenClaim := { program := "ytjohobehhijbcaa", sum := "50e9080be4853a08d9ab0e66e51d6eaa293af21846aaa9c203742e15a413b1d3", func := "anchorite/anchoritelaw08.EntryTables", spec := "entryTables", unfollowed := true, recurses := true, apart := false, narrowed := true }
def EntryTablesUptoSaid : Prop := entryTablesUptoRow.holds Try.pinned (OpenSpec.upto entryTablesSpec)

/-- 'anchoritelaw08.EntryBack', WHERE WHAT IT READS IS OF BULK AT MOST 1048576: true; the input reads as it did. -/
def entryBackUptoRow : OpenClaim := { program := "ytjohobehhijbcaa", sum := "50e9080be4853a08d9ab0e66e51d6eaa293af21846aaa9c203742e15a413b1d3", func := "anchorite/anchoritelaw08.EntryBack", spec := "entryBack", unfollowed := true, recurses := true, apart := false, narrowed := true }
def EntryBackUptoSaid : Prop := entryBackUptoRow.holds Try.pinned (OpenSpec.upto entryBackSpec)

end Rows
end Go.Proofs.Ytjohobehhijbcaa
