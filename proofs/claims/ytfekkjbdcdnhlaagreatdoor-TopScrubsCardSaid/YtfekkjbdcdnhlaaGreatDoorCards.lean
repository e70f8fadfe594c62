/-
  DERIVED. GIVEN WITH THE SEED: THE CARDS: each row of YtfekkjbdcdnhlaaGreatDoorRows.lean that lists a variable, with what it lists TIED to the program's text (the seventh form; the later family's looks); each row that meets fmt, with fmt's text TOLD by the authors' own Lean function (tested against real Go, not proved from fmt's source: count such statements apart). THE CARD IS WHAT COUNTS. Prove the row's statement (the work); the ties are given (YtfekkjbdcdnhlaaGreatDoorTie.lean); close each card by the builder's one call (the guide's Derived/Test/ToyasCard.lean, 'card_holds'). Laid BY PROGRAM, IN A SANDBOX (cutbox-door.mjs). By AI agents, Wed Nov 11 2026. No macro, syntax, notation, axiom, sorry.
-/
import Derived.Test.YtfekkjbdcdnhlaaGreatDoorRows
import GoSem.ClaimSeven
namespace Go.Proofs.YtfekkjbdcdnhlaaGreatDoor
namespace Rows

/-- THE TIED CARD OF 'anchoritetop.TopScrubs'. -/
def topScrubsCard : Claim7 := { stood := { row := topScrubsRow, standIns := [], harness := (true, "4e6437ec516427830985439d736836bde32b375019343cf9f72dc231d419c503"), looks := true }, kinds := [], alts := [], laidByText := true, laidKinds := [.data, .data, .data, .data, .sentinel, .sentinel, .pinned], laidTests := true, laidLooks := .later }
def TopScrubsCardSaid : Prop := Claim7.holds Tryz.pinned (.plain (OpenSpec.ofChange topScrubsSpec)) topScrubsCard

/-- THE SECOND FORM's CARD OF 'anchoritetop.TopScrubs'. -/
def topScrubsUptoCard : Claim7 := { stood := { row := topScrubsUptoRow, standIns := [], harness := (true, "4e6437ec516427830985439d736836bde32b375019343cf9f72dc231d419c503"), looks := true }, kinds := [], alts := [], laidByText := true, laidKinds := [.data, .data, .data, .data, .sentinel, .sentinel, .pinned], laidTests := true, laidLooks := .later }
def TopScrubsUptoCardSaid : Prop := Claim7.holds Tryz.pinned (.plain (OpenSpec.upto topScrubsSpec)) topScrubsUptoCard
end Rows
end Go.Proofs.YtfekkjbdcdnhlaaGreatDoor
