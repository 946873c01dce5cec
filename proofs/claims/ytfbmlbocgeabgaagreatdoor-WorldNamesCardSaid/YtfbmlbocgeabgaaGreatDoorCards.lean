/-
  DERIVED. GIVEN WITH THE SEED: THE CARDS: each row of YtfbmlbocgeabgaaGreatDoorRows.lean that lists a variable, with what it lists TIED to the program's text (the seventh form; the later family's looks); each row that meets fmt, with fmt's text TOLD by the authors' own Lean function (tested against real Go, not proved from fmt's source: count such statements apart). THE CARD IS WHAT COUNTS. Prove the row's statement (the work); the ties are given (YtfbmlbocgeabgaaGreatDoorTie.lean); close each card by the builder's one call (the guide's Derived/Test/ToyasCard.lean, 'card_holds'). Laid BY PROGRAM, IN A SANDBOX (cutbox-door.mjs). By AI agents, Wed Nov 11 2026. No macro, syntax, notation, axiom, sorry.
-/
import Derived.Test.YtfbmlbocgeabgaaGreatDoorRows
import GoSem.ClaimSeven
namespace Go.Proofs.YtfbmlbocgeabgaaGreatDoor
namespace Rows

/-- THE TIED CARD OF 'basculelaw29.WorldNames'. -/
def worldNamesCard : Claim7 := { stood := { row := worldNamesRow, standIns := [], harness := (true, "304cb4aa79e74f5cc812eda61cee1b49b1de3e8fdadc90e7bc88697b0a8ec76d"), looks := true }, kinds := [], alts := [], laidByText := true, laidKinds := [.data, .data, .data, .data], laidTests := true, laidLooks := .later }
def WorldNamesCardSaid : Prop := Claim7.holds Tryz.pinned (.plain (OpenSpec.ofChange worldNamesSpec)) worldNamesCard

/-- THE SECOND FORM's CARD OF 'basculelaw29.WorldNames'. -/
def worldNamesUptoCard : Claim7 := { stood := { row := worldNamesUptoRow, standIns := [], harness := (true, "304cb4aa79e74f5cc812eda61cee1b49b1de3e8fdadc90e7bc88697b0a8ec76d"), looks := true }, kinds := [], alts := [], laidByText := true, laidKinds := [.data, .data, .data, .data], laidTests := true, laidLooks := .later }
def WorldNamesUptoCardSaid : Prop := Claim7.holds Tryz.pinned (.plain (OpenSpec.upto worldNamesSpec)) worldNamesUptoCard
end Rows
end Go.Proofs.YtfbmlbocgeabgaaGreatDoor
