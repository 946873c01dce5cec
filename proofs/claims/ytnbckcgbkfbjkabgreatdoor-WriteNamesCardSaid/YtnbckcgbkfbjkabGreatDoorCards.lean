/-
  DERIVED. GIVEN WITH THE SEED: THE CARDS: each row of YtnbckcgbkfbjkabGreatDoorRows.lean that lists a variable, with what it lists TIED to the program's text (the seventh form; the later family's looks); each row that meets fmt, with fmt's text TOLD by the authors' own Lean function (tested against real Go, not proved from fmt's source: count such statements apart). THE CARD IS WHAT COUNTS. Prove the row's statement (the work); the ties are given (YtnbckcgbkfbjkabGreatDoorTie.lean); close each card by the builder's one call (the guide's Derived/Test/ToyasCard.lean, 'card_holds'). Laid BY PROGRAM, IN A SANDBOX (cutbox-door.mjs). By AI agents, Wed Nov 11 2026. No macro, syntax, notation, axiom, sorry.
-/
import Derived.Test.YtnbckcgbkfbjkabGreatDoorRows
import GoSem.ClaimSeven
namespace Go.Proofs.YtnbckcgbkfbjkabGreatDoor
namespace Rows

/-- THE TIED CARD OF 'basculelaw27.WriteNames'. -/
def writeNamesCard : Claim7 := { stood := { row := writeNamesRow, standIns := [], harness := (true, "7fb6981087a250ee796a8ae29d663883b9fc86fdf34e04a04a6c1695c4497f15"), looks := false }, kinds := [], alts := [], laidByText := true, laidKinds := [.data, .data, .data, .data], laidTests := true, laidLooks := .later }
def WriteNamesCardSaid : Prop := Claim7.holds Tryz.pinned (.plain (OpenSpec.ofChange writeNamesSpec)) writeNamesCard

/-- THE SECOND FORM's CARD OF 'basculelaw27.WriteNames'. -/
def writeNamesUptoCard : Claim7 := { stood := { row := writeNamesUptoRow, standIns := [], harness := (true, "7fb6981087a250ee796a8ae29d663883b9fc86fdf34e04a04a6c1695c4497f15"), looks := false }, kinds := [], alts := [], laidByText := true, laidKinds := [.data, .data, .data, .data], laidTests := true, laidLooks := .later }
def WriteNamesUptoCardSaid : Prop := Claim7.holds Tryz.pinned (.plain (OpenSpec.upto writeNamesSpec)) writeNamesUptoCard
end Rows
end Go.Proofs.YtnbckcgbkfbjkabGreatDoor
