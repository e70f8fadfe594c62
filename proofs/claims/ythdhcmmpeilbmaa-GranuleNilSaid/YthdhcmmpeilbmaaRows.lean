/-
  No cell of these rows narrows 'for every input' (looked for: loops, veiled, ifaces, maps, wideKeys, modest, calm, conditions, laid).
  DERIVED. THE GIVEN ROWS OF THIS SEAT. 5 by the template 'for every input the law returns true; each argument reads behind the call as it read before'; 0 by the template 'total and deterministic' (their statements: YthdhcmmpeilbmaaTotals.lean).
  GIVEN WITH THE SEED: the statements are not yours to turn. If you find one false, say at which input.
  Laid BY PROGRAM, IN A SANDBOX (cutbox-rows.mjs): the forced cells as the released guide's own fill.sh prints them over the translation 361255f64f690276… (all of the seat's roots in one cut). By AI agents, Wed Nov 11 2026. No macro, syntax, notation, axiom, sorry.
-/
import Derived.Test.YthdhcmmpeilbmaaChecked
import GoSem.Claim
import GoSem.ClaimJoined
import GoSem.ClaimMapViews
import Derived.JoinedTies
import Derived.KernelRfl
namespace Go.Proofs.Ythdhcmmpeilbmaa
/- THE CELL 'sum', in the pinned program and in every row, IS THE sha256 OF THE DUMP (.gsa) THAT YthdhcmmpeilbmaaProg.lean LOADS. Nothing in Lean hashes anything: it is a label: what it is worth is what the hold of that sum in a sandbox is worth. -/
noncomputable def Try.pinned : Pinned := { name := "ythdhcmmpeilbmaa", sum := "361255f64f690276249fa13de566c44bf2f0de23bf93fe7f8e48a07db326e1bb", checked := Try.checked }
namespace Rows
def none {H : Type} : Left H := { results := [], args := [] }

/-- 'anchoritelaw07.GranuleGoes': WHATEVER THE INPUT: true; the input reads as it did. -/
def granuleGoesSpec : ChangeSpec := { name := "granuleGoes", fn := fun _ => fun
  | [d1, d2] => { results := [.lit (.bool true)], args := [d1, d2] }
  | _ => none }
def granuleGoesRow : OpenClaim := { program := "ythdhcmmpeilbmaa", sum := "361255f64f690276249fa13de566c44bf2f0de23bf93fe7f8e48a07db326e1bb", func := "anchorite/anchoritelaw07.GranuleGoes", spec := "granuleGoes", plainKeys := false, apart := false }
def GranuleGoesSaid : Prop := granuleGoesRow.holds Try.pinned (OpenSpec.ofChange granuleGoesSpec)

/-- ITS FALSE NEIGHBOUR: 'it returns false'. Refute it at one input. -/
def granuleGoesWrong : ChangeSpec := { name := "granuleGoes", fn := fun _ => fun
  | [d1, d2] => { results := [.lit (.bool false)], args := [d1, d2] }
  | _ => none }
def GranuleGoesWrongFalsely : Prop := granuleGoesRow.holds Try.pinned (OpenSpec.ofChange granuleGoesWrong)

/-- 'anchoritelaw07.GranuleHeld': WHATEVER THE INPUT: true; the input reads as it did. -/
def granuleHeldSpec : ChangeSpec := { name := "granuleHeld", fn := fun _ => fun
  | [d] => { results := [.lit (.bool true)], args := [d] }
  | _ => none }
def granuleHeldRow : OpenClaim := { program := "ythdhcmmpeilbmaa", sum := "361255f64f690276249fa13de566c44bf2f0de23bf93fe7f8e48a07db326e1bb", func := "anchorite/anchoritelaw07.GranuleHeld", spec := "granuleHeld", plainKeys := false, apart := false }
def GranuleHeldSaid : Prop := granuleHeldRow.holds Try.pinned (OpenSpec.ofChange granuleHeldSpec)

/-- ITS FALSE NEIGHBOUR: 'it returns false'. Refute it at one input. -/
def granuleHeldWrong : ChangeSpec := { name := "granuleHeld", fn := fun _ => fun
  | [d] => { results := [.lit (.bool false)], args := [d] }
  | _ => none }
def GranuleHeldWrongFalsely : Prop := granuleHeldRow.holds Try.pinned (OpenSpec.ofChange granuleHeldWrong)

/-- 'anchoritelaw07.GranulePlays': WHATEVER THE INPUT: true; the input reads as it did. -/
def granulePlaysSpec : ChangeSpec := { name := "granulePlays", fn := fun _ => fun
  | [d1, d2] => { results := [.lit (.bool true)], args := [d1, d2] }
  | _ => none }
def granulePlaysRow : OpenClaim := { program := "ythdhcmmpeilbmaa", sum := "361255f64f690276249fa13de566c44bf2f0de23bf93fe7f8e48a07db326e1bb", func := "anchorite/anchoritelaw07.GranulePlays", spec := "granulePlays", plainKeys := false, apart := false }
def GranulePlaysSaid : Prop := granulePlaysRow.holds Try.pinned (OpenSpec.ofChange granulePlaysSpec)

/-- ITS FALSE NEIGHBOUR: 'it returns false'. Refute it at one input. -/
def granulePlaysWrong : ChangeSpec := { name := "granulePlays", fn := fun _ => fun
  | [d1, d2] => { results := [.lit (.bool false)], args := [d1, d2] }
  | _ => none }
def GranulePlaysWrongFalsely : Prop := granulePlaysRow.holds Try.pinned (OpenSpec.ofChange granulePlaysWrong)

/-- 'anchoritelaw07.GranuleMay': WHATEVER THE INPUT: true; the input reads as it did. -/
def granuleMaySpec : ChangeSpec := { name := "granuleMay", fn := fun _ => fun
  | [d1, d2] => { results := [.lit (.bool true)], args := [d1, d2] }
  | _ => none }
def granuleMayRow : OpenClaim := { program := "ythdhcmmpeilbmaa", sum := "361255f64f690276249fa13de566c44bf2f0de23bf93fe7f8e48a07db326e1bb", func := "anchorite/anchoritelaw07.GranuleMay", spec := "granuleMay", plainKeys := false, apart := false }
def GranuleMaySaid : Prop := granuleMayRow.holds Try.pinned (OpenSpec.ofChange granuleMaySpec)

/-- ITS FALSE NEIGHBOUR: 'it returns false'. Refute it at one input. -/
def granuleMayWrong : ChangeSpec := { name := "granuleMay", fn := fun _ => fun
  | [d1, d2] => { results := [.lit (.bool false)], args := [d1, d2] }
  | _ => none }
def GranuleMayWrongFalsely : Prop := granuleMayRow.holds Try.pinned (OpenSpec.ofChange granuleMayWrong)

/-- 'anchoritelaw07.GranuleNil': WHATEVER THE INPUT: true; the input reads as it did. -/
def granuleNilSpec : ChangeSpec := { name := "granuleNil", fn := fun _ => fun
  | [] => { results := [.lit (.bool true)], args := [] }
  | _ => none }
def granuleNilRow : OpenClaim := { program := "ythdhcmmpeilbmaa", sum := "361255f64f690276249fa13de566c44bf2f0de23bf93fe7f8e48a07db326e1bb", func := "anchorite/anchoritelaw07.GranuleNil", spec := "granuleNil", unfollowed := true, recurses := true, plainKeys := false, apart := false }
def GranuleNilSaid : Prop := granuleNilRow.holds Try.pinned (OpenSpec.ofChange granuleNilSpec)

/-- ITS FALSE NEIGHBOUR: 'it returns false'. Refute it at one input. -/
def granuleNilWrong : ChangeSpec := { name := "granuleNil", fn := fun _ => fun
  | [] => { results := [.lit (.bool false)], args := [] }
  | _ => none }
def GranuleNilWrongFalsely : Prop := granuleNilRow.holds Try.pinned (OpenSpec.ofChange granuleNilWrong)

/- THE SECOND FORM. 'bulk': how many values and letters a reading holds, each counted each time it is reached (what is shared counts as often as it is met; a slice's spare places count too). A statement '..UptoSaid' is the law's where the arguments, and the package variables that the reading takes, are together of bulk at most 1048576: NARROWER than '..Said'. Prove '..Said' where nothing that the law and all that it calls make is longer than what came in: it says more and counts as full. Else prove '..UptoSaid'. A law counts once. -/
mutual
def uptoBulk {H : Type} : DataW H → Nat
  | .lit (.string bytes) => bytes.length + 1
  | .lit _ => 1
  | .nil => 1
  | .ptr d => uptoBulk d + 1
  | .slice elems spare => uptoBulkAll elems + uptoBulkAll spare + 1
  | .agg parts => uptoBulkAll parts + 1
  | .iface _ d => uptoBulk d + 1
  | .map entries => uptoBulkEntries entries + 1
  | .held _ => 1
def uptoBulkAll {H : Type} : List (DataW H) → Nat
  | [] => 0
  | d :: r => uptoBulk d + uptoBulkAll r
def uptoBulkEntries {H : Type} : List (Lit × DataW H) → Nat
  | [] => 0
  | x :: r => uptoBulkEntry x + uptoBulkEntries r
def uptoBulkEntry {H : Type} : Lit × DataW H → Nat
  | (.string bytes, d) => bytes.length + uptoBulk d + 1
  | (_, d) => uptoBulk d + 1
 end
def uptoSmall : (H : Type) → List (DataW H) → Bool := fun _ ds => decide (uptoBulkAll ds ≤ 1048576)
def OpenSpec.upto (s : _root_.Go.ChangeSpec) : _root_.Go.OpenSpec := { _root_.Go.OpenSpec.ofChange s with cond := some uptoSmall }

/-- 'anchoritelaw07.GranuleGoes', WHERE WHAT IT READS IS OF BULK AT MOST 1048576: true; the input reads as it did. -/
def granuleGoesUptoRow : OpenClaim := { program := "ythdhcmmpeilbmaa", sum := "361255f64f690276249fa13de566c44bf2f0de23bf93fe7f8e48a07db326e1bb", func := "anchorite/anchoritelaw07.GranuleGoes", spec := "granuleGoes", plainKeys := false, apart := false, narrowed := true }
def GranuleGoesUptoSaid : Prop := granuleGoesUptoRow.holds Try.pinned (OpenSpec.upto granuleGoesSpec)

/-- 'anchoritelaw07.GranuleHeld', WHERE WHAT IT READS IS OF BULK AT MOST 1048576: true; the input reads as it did. -/
def granuleHeldUptoRow : OpenClaim := { program := "ythdhcmmpeilbmaa", sum := "361255f64f690276249fa13de566c44bf2f0de23bf93fe7f8e48a07db326e1bb", func := "anchorite/anchoritelaw07.GranuleHeld", spec := "granuleHeld", plainKeys := false, apart := false, narrowed := true }
def GranuleHeldUptoSaid : Prop := granuleHeldUptoRow.holds Try.pinned (OpenSpec.upto granuleHeldSpec)

/-- 'anchoritelaw07.GranulePlays', WHERE WHAT IT READS IS OF BULK AT MOST 1048576: true; the input reads as it did. -/
def granulePlaysUptoRow : OpenClaim := { program := "ythdhcmmpeilbmaa", sum := "361255f64f690276249fa13de566c44bf2f0de23bf93fe7f8e48a07db326e1bb", func := "anchorite/anchoritelaw07.GranulePlays", spec := "granulePlays", plainKeys := false, apart := false, narrowed := true }
def GranulePlaysUptoSaid : Prop := granulePlaysUptoRow.holds Try.pinned (OpenSpec.upto granulePlaysSpec)

/-- 'anchoritelaw07.GranuleMay', WHERE WHAT IT READS IS OF BULK AT MOST 1048576: true; the input reads as it did. -/
def granuleMayUptoRow : OpenClaim := { program := "ythdhcmmpeilbmaa", sum := "361255f64f690276249fa13de566c44bf2f0de23bf93fe7f8e48a07db326e1bb", func := "anchorite/anchoritelaw07.GranuleMay", spec := "granuleMay", plainKeys := false, apart := false, narrowed := true }
def GranuleMayUptoSaid : Prop := granuleMayUptoRow.holds Try.pinned (OpenSpec.upto granuleMaySpec)

/-- 'anchoritelaw07.GranuleNil', WHERE WHAT IT READS IS OF BULK AT MOST 1048576: true; the input reads as it did. -/
def granuleNilUptoRow : OpenClaim := { program := "ythdhcmmpeilbmaa", sum := "361255f64f690276249fa13de566c44bf2f0de23bf93fe7f8e48a07db326e1bb", func := "anchorite/anchoritelaw07.GranuleNil", spec := "granuleNil", unfollowed := true, recurses := true, plainKeys := false, apart := false, narrowed := true }
def GranuleNilUptoSaid : Prop := granuleNilUptoRow.holds Try.pinned (OpenSpec.upto granuleNilSpec)

end Rows
end Go.Proofs.Ythdhcmmpeilbmaa
