/-
  DERIVED. GIVEN WITH THE SEED: THE CARDS: each row of YtehfcbppcfpjoaaGreatDoorRows.lean that lists a variable, with what it lists TIED to the program's text (the seventh form; the later family's looks); each row that meets fmt, with fmt's text TOLD by the authors' own Lean function (tested against real Go, not proved from fmt's source: count such statements apart). THE CARD IS WHAT COUNTS. Prove the row's statement (the work); the ties are given (YtehfcbppcfpjoaaGreatDoorTie.lean); close each card by the builder's one call (the guide's Derived/Test/ToyasCard.lean, 'card_holds'). Laid BY PROGRAM, IN A SANDBOX (cutbox-door.mjs). By AI agents, Wed Nov 11 2026. No macro, syntax, notation, axiom, sorry.
-/
import Derived.Test.YtehfcbppcfpjoaaGreatDoorRows
import GoSem.ClaimSeven
namespace Go.Proofs.YtehfcbppcfpjoaaGreatDoor
namespace Rows

/-- THE TIED CARD OF 'basculelaw17.AloneNames'. -/
def aloneNamesCard : Claim7 := { stood := { row := aloneNamesRow, standIns := [], harness := (true, "2a807077a495012d92454c27b4a35988168f7f82f11a098d3a183b5c7db6b54f"), looks := false }, kinds := [], alts := [], laidByText := true, laidKinds := [.data, .data], laidTests := true, laidLooks := .later }
def AloneNamesCardSaid : Prop := Claim7.holds Tryz.pinned (.plain (OpenSpec.ofChange aloneNamesSpec)) aloneNamesCard

/-- THE SECOND FORM's CARD OF 'basculelaw17.AloneNames'. -/
def aloneNamesUptoCard : Claim7 := { stood := { row := aloneNamesUptoRow, standIns := [], harness := (true, "2a807077a495012d92454c27b4a35988168f7f82f11a098d3a183b5c7db6b54f"), looks := false }, kinds := [], alts := [], laidByText := true, laidKinds := [.data, .data], laidTests := true, laidLooks := .later }
def AloneNamesUptoCardSaid : Prop := Claim7.holds Tryz.pinned (.plain (OpenSpec.upto aloneNamesSpec)) aloneNamesUptoCard
end Rows
end Go.Proofs.YtehfcbppcfpjoaaGreatDoor
