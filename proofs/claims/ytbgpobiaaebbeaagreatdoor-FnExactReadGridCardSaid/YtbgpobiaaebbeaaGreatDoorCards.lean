/-
  DERIVED. GIVEN WITH THE SEED: THE CARDS: each row of YtbgpobiaaebbeaaGreatDoorRows.lean that lists a variable, with what it lists TIED to the program's text (the seventh form; the later family's looks); each row that meets fmt, with fmt's text TOLD by the authors' own Lean function (tested against real Go, not proved from fmt's source: count such statements apart). THE CARD IS WHAT COUNTS. Prove the row's statement (the work); the ties are given (YtbgpobiaaebbeaaGreatDoorTie.lean); close each card by the builder's one call (the guide's Derived/Test/ToyasCard.lean, 'card_holds'). Laid BY PROGRAM, IN A SANDBOX (cutbox-door.mjs). By AI agents, Wed Nov 11 2026. No macro, syntax, notation, axiom, sorry.
-/
import Derived.Test.YtbgpobiaaebbeaaGreatDoorRows
import GoSem.ClaimSeven
namespace Go.Proofs.YtbgpobiaaebbeaaGreatDoor
namespace Rows

/-- THE TIED CARD OF 'laws.FnExactReadGrid'. -/
def fnExactReadGridCard : Claim7 := { stood := { row := fnExactReadGridRow, standIns := [], harness := (true, "0bc57623787a19a25048f9bb80aef0b501e4edc665ba16821a3d782f6bd2fd0b"), looks := true }, kinds := [], alts := [], laidByText := true, laidKinds := [.data, .data, .data, .data, .sentinel, .sentinel, .pinned], laidTests := true, laidLooks := .later }
def FnExactReadGridCardSaid : Prop := Claim7.holds Tryz.pinned (.plain (OpenSpec.ofChange fnExactReadGridSpec)) fnExactReadGridCard

/-- THE SECOND FORM's CARD OF 'laws.FnExactReadGrid'. -/
def fnExactReadGridUptoCard : Claim7 := { stood := { row := fnExactReadGridUptoRow, standIns := [], harness := (true, "0bc57623787a19a25048f9bb80aef0b501e4edc665ba16821a3d782f6bd2fd0b"), looks := true }, kinds := [], alts := [], laidByText := true, laidKinds := [.data, .data, .data, .data, .sentinel, .sentinel, .pinned], laidTests := true, laidLooks := .later }
def FnExactReadGridUptoCardSaid : Prop := Claim7.holds Tryz.pinned (.plain (OpenSpec.upto fnExactReadGridSpec)) fnExactReadGridUptoCard
end Rows
end Go.Proofs.YtbgpobiaaebbeaaGreatDoor
