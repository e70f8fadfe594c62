/-
  No cell of these rows narrows 'for every input' (looked for: loops, veiled, ifaces, maps, wideKeys, modest, calm, conditions, laid).
  DERIVED. THE GIVEN ROWS OF THIS SEAT. 5 by the template 'for every input the law returns true; each argument reads behind the call as it read before'; 0 by the template 'total and deterministic' (their statements: YtkpcomldjnahhaaTotals.lean).
  GIVEN WITH THE SEED: the statements are not yours to turn. If you find one false, say at which input.
  Laid BY PROGRAM, IN A SANDBOX (cutbox-rows.mjs): the forced cells as the released guide's own fill.sh prints them over the translation 3d2ed8cdef1c7eba… (all of the seat's roots in one cut). By AI agents, Wed Nov 11 2026. No macro, syntax, notation, axiom, sorry.
-/
import Derived.Test.YtkpcomldjnahhaaChecked
import GoSem.Claim
import GoSem.ClaimJoined
import GoSem.ClaimMapViews
import Derived.JoinedTies
import Derived.KernelRfl
namespace Go.Proofs.Ytkpcomldjnahhaa
/- THE CELL 'sum', in the pinned program and in every row, IS THE sha256 OF THE DUMP (.gsa) THAT YtkpcomldjnahhaaProg.lean LOADS. Nothing in Lean hashes anything: it is a label: what it is worth is what the hold of that sum in a sandbox is worth. -/
noncomputable def Try.pinned : Pinned := { name := "ytkpcomldjnahhaa", sum := "3d2ed8cdef1c7eba2cab412c5de87c6f25cf7d409c725ed0adc2bd66d1235506", checked := Try.checked }
namespace Rows
def none {H : Type} : Left H := { results := [], args := [] }

/-- 'anchoritelaw06.MachinePlaces': WHATEVER THE INPUT: true; the input reads as it did. -/
def machinePlacesSpec : ChangeSpec := { name := "machinePlaces", fn := fun _ => fun
  | [d] => { results := [.lit (.bool true)], args := [d] }
  | _ => none }
def machinePlacesRow : OpenClaim := { program := "ytkpcomldjnahhaa", sum := "3d2ed8cdef1c7eba2cab412c5de87c6f25cf7d409c725ed0adc2bd66d1235506", func := "anchorite/anchoritelaw06.MachinePlaces", spec := "machinePlaces", apart := false }
def MachinePlacesSaid : Prop := machinePlacesRow.holds Try.pinned (OpenSpec.ofChange machinePlacesSpec)

/-- ITS FALSE NEIGHBOUR: 'it returns false'. Refute it at one input. -/
def machinePlacesWrong : ChangeSpec := { name := "machinePlaces", fn := fun _ => fun
  | [d] => { results := [.lit (.bool false)], args := [d] }
  | _ => none }
def MachinePlacesWrongFalsely : Prop := machinePlacesRow.holds Try.pinned (OpenSpec.ofChange machinePlacesWrong)

/-- 'anchoritelaw06.MachineWords': WHATEVER THE INPUT: true; the input reads as it did. -/
def machineWordsSpec : ChangeSpec := { name := "machineWords", fn := fun _ => fun
  | [d1, d2, d3, d4] => { results := [.lit (.bool true)], args := [d1, d2, d3, d4] }
  | _ => none }
def machineWordsRow : OpenClaim := { program := "ytkpcomldjnahhaa", sum := "3d2ed8cdef1c7eba2cab412c5de87c6f25cf7d409c725ed0adc2bd66d1235506", func := "anchorite/anchoritelaw06.MachineWords", spec := "machineWords", apart := false }
def MachineWordsSaid : Prop := machineWordsRow.holds Try.pinned (OpenSpec.ofChange machineWordsSpec)

/-- ITS FALSE NEIGHBOUR: 'it returns false'. Refute it at one input. -/
def machineWordsWrong : ChangeSpec := { name := "machineWords", fn := fun _ => fun
  | [d1, d2, d3, d4] => { results := [.lit (.bool false)], args := [d1, d2, d3, d4] }
  | _ => none }
def MachineWordsWrongFalsely : Prop := machineWordsRow.holds Try.pinned (OpenSpec.ofChange machineWordsWrong)

/-- 'anchoritelaw06.MachinePlays': WHATEVER THE INPUT: true; the input reads as it did. -/
def machinePlaysSpec : ChangeSpec := { name := "machinePlays", fn := fun _ => fun
  | [d1, d2, d3, d4, d5] => { results := [.lit (.bool true)], args := [d1, d2, d3, d4, d5] }
  | _ => none }
def machinePlaysRow : OpenClaim := { program := "ytkpcomldjnahhaa", sum := "3d2ed8cdef1c7eba2cab412c5de87c6f25cf7d409c725ed0adc2bd66d1235506", func := "anchorite/anchoritelaw06.MachinePlays", spec := "machinePlays", apart := false }
def MachinePlaysSaid : Prop := machinePlaysRow.holds Try.pinned (OpenSpec.ofChange machinePlaysSpec)

/-- ITS FALSE NEIGHBOUR: 'it returns false'. Refute it at one input. -/
def machinePlaysWrong : ChangeSpec := { name := "machinePlays", fn := fun _ => fun
  | [d1, d2, d3, d4, d5] => { results := [.lit (.bool false)], args := [d1, d2, d3, d4, d5] }
  | _ => none }
def MachinePlaysWrongFalsely : Prop := machinePlaysRow.holds Try.pinned (OpenSpec.ofChange machinePlaysWrong)

/-- 'anchoritelaw06.MachineWhole': WHATEVER THE INPUT: true; the input reads as it did. -/
def machineWholeSpec : ChangeSpec := { name := "machineWhole", fn := fun _ => fun
  | [d1, d2, d3] => { results := [.lit (.bool true)], args := [d1, d2, d3] }
  | _ => none }
def machineWholeRow : OpenClaim := { program := "ytkpcomldjnahhaa", sum := "3d2ed8cdef1c7eba2cab412c5de87c6f25cf7d409c725ed0adc2bd66d1235506", func := "anchorite/anchoritelaw06.MachineWhole", spec := "machineWhole", unfollowed := true, recurses := true, apart := false }
def MachineWholeSaid : Prop := machineWholeRow.holds Try.pinned (OpenSpec.ofChange machineWholeSpec)

/-- ITS FALSE NEIGHBOUR: 'it returns false'. Refute it at one input. -/
def machineWholeWrong : ChangeSpec := { name := "machineWhole", fn := fun _ => fun
  | [d1, d2, d3] => { results := [.lit (.bool false)], args := [d1, d2, d3] }
  | _ => none }
def MachineWholeWrongFalsely : Prop := machineWholeRow.holds Try.pinned (OpenSpec.ofChange machineWholeWrong)

/-- 'anchoritelaw06.MachineNil': WHATEVER THE INPUT: true; the input reads as it did. -/
def machineNilSpec : ChangeSpec := { name := "machineNil", fn := fun _ => fun
  | [] => { results := [.lit (.bool true)], args := [] }
  | _ => none }
def machineNilRow : OpenClaim := { program := "ytkpcomldjnahhaa", sum := "3d2ed8cdef1c7eba2cab412c5de87c6f25cf7d409c725ed0adc2bd66d1235506", func := "anchorite/anchoritelaw06.MachineNil", spec := "machineNil", unfollowed := true, recurses := true, apart := false }
def MachineNilSaid : Prop := machineNilRow.holds Try.pinned (OpenSpec.ofChange machineNilSpec)

/-- ITS FALSE NEIGHBOUR: 'it returns false'. Refute it at one input. -/
def machineNilWrong : ChangeSpec := { name := "machineNil", fn := fun _ => fun
  | [] => { results := [.lit (.bool false)], args := [] }
  | _ => none }
def MachineNilWrongFalsely : Prop := machineNilRow.holds Try.pinned (OpenSpec.ofChange machineNilWrong)

/- THE SECOND FORM. 'bulk': how many values and letters a reading holds, each counted each time it is reached (what is shared counts as often as it is met; a slice's spare places count too). A statement '..UptoSaid' is the law's where the arguments, and the package variables that the reading takes, are together of bulk at most 1048576: NARROWER than '..Said'. Prove '..Said' where nothing that the law and all that it calls make is longer than what came in: it says more and counts as full. Else prove '..UptoSaid'. A law counts once. -/
mutual
def uptoBulk {H : Type} : DataW H → Nat
  | .lit (.string bytes) => bytes.length + 1
  | .lit _ => 1
  | .nil => 1
  | .ptr d => uptoBulk d + 1
  | .slice elems spare => uptoBulkAll elems + uptoBulkAll spare + 1
  | .agg parts => uptoBulkAll parts + 1
  | .iface _ d => uptoBulk d + 1
  | .map entries => uptoBulkEntries entries + 1
  | .held _ => 1
def uptoBulkAll {H : Type} : List (DataW H) → Nat
  | [] => 0
  | d :: r => uptoBulk d + uptoBulkAll r
def uptoBulkEntries {H : Type} : List (Lit × DataW H) → Nat
  | [] => 0
  | x :: r => uptoBulkEntry x + uptoBulkEntries r
def uptoBulkEntry {H : Type} : Lit × DataW H → Nat
  | (.string bytes, d) => bytes.length + uptoBulk d + 1
  | (_, d) => uptoBulk d + 1
 end
def uptoSmall : (H : Type) → List (DataW H) → Bool := fun _ ds => decide (uptoBulkAll ds ≤ 1048576)
def OpenSpec.upto (s : _root_.Go.ChangeSpec) : _root_.Go.OpenSpec := { _root_.Go.OpenSpec.ofChange s with cond := some uptoSmall }

/-- 'anchoritelaw06.MachinePlaces', WHERE WHAT IT READS IS OF BULK AT MOST 1048576: true; the input reads as it did. -/
def machinePlacesUptoRow : OpenClaim := { program := "ytkpcomldjnahhaa", sum := "3d2ed8cdef1c7eba2cab412c5de87c6f25cf7d409c725ed0adc2bd66d1235506", func := "anchorite/anchoritelaw06.MachinePlaces", spec := "machinePlaces", apart := false, narrowed := true }
def MachinePlacesUptoSaid : Prop := machinePlacesUptoRow.holds Try.pinned (OpenSpec.upto machinePlacesSpec)

/-- 'anchoritelaw06.MachineWords', WHERE WHAT IT READS IS OF BULK AT MOST 1048576: true; the input reads as it did. -/
def machineWordsUptoRow : OpenClaim := { program := "ytkpcomldjnahhaa", sum := "3d2ed8cdef1c7eba2cab412c5de87c6f25cf7d409c725ed0adc2bd66d1235506", func := "anchorite/anchoritelaw06.MachineWords", spec := "machineWords", apart := false, narrowed := true }
def MachineWordsUptoSaid : Prop := machineWordsUptoRow.holds Try.pinned (OpenSpec.upto machineWordsSpec)

/-- 'anchoritelaw06.MachinePlays', WHERE WHAT IT READS IS OF BULK AT MOST 1048576: true; the input reads as it did. -/
def machinePlaysUptoRow : OpenClaim := { program := "ytkpcomldjnahhaa", sum := "3d2ed8cdef1c7eba2cab412c5de87c6f25cf7d409c725ed0adc2bd66d1235506", func := "anchorite/anchoritelaw06.MachinePlays", spec := "machinePlays", apart := false, narrowed := true }
def MachinePlaysUptoSaid : Prop := machinePlaysUptoRow.holds Try.pinned (OpenSpec.upto machinePlaysSpec)

/-- 'anchoritelaw06.MachineWhole', WHERE WHAT IT READS IS OF BULK AT MOST 1048576: true; the input reads as it did. -/
def machineWholeUptoRow : OpenClaim := { program := "ytkpcomldjnahhaa", sum := "3d2ed8cdef1c7eba2cab412c5de87c6f25cf7d409c725ed0adc2bd66d1235506", func := "anchorite/anchoritelaw06.MachineWhole", spec := "machineWhole", unfollowed := true, recurses := true, apart := false, narrowed := true }
def MachineWholeUptoSaid : Prop := machineWholeUptoRow.holds Try.pinned (OpenSpec.upto machineWholeSpec)

/-- 'anchoritelaw06.MachineNil', WHERE WHAT IT READS IS OF BULK AT MOST 1048576: true; the input reads as it did. -/
def machineNilUptoRow : OpenClaim := { program := "ytkpcomldjnahhaa", sum := "3d2ed8cdef1c7eba2cab412c5de87c6f25cf7d409c725ed0adc2bd66d1235506", func := "anchorite/anchoritelaw06.MachineNil", spec := "machineNil", unfollowed := true, recurses := true, apart := false, narrowed := true }
def MachineNilUptoSaid : Prop := machineNilUptoRow.holds Try.pinned (OpenSpec.upto machineNilSpec)

end Rows
end Go.Proofs.Ytkpcomldjnahhaa
