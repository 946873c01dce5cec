/-
  DERIVED. GIVEN WITH THE SEED: THE CARDS: each row of YtfbmlbocgeabgabGreatDoorRows.lean that lists a variable, with what it lists TIED to the program's text (the seventh form; the later family's looks); each row that meets fmt, with fmt's text TOLD by the authors' own Lean function (tested against real Go, not proved from fmt's source: count such statements apart). THE CARD IS WHAT COUNTS. Prove the row's statement (the work); the ties are given (YtfbmlbocgeabgabGreatDoorTie.lean); close each card by the builder's one call (the guide's Derived/Test/ToyasCard.lean, 'card_holds'). Laid BY PROGRAM, IN A SANDBOX (cutbox-door.mjs). By AI agents, Wed Nov 11 2026. No macro, syntax, notation, axiom, sorry.
-/
import Derived.Test.YtfbmlbocgeabgabGreatDoorRows
import GoSem.ClaimSeven
namespace Go.Proofs.YtfbmlbocgeabgabGreatDoor
namespace Rows

/-- THE TIED CARD OF 'basculelaw30.GhostNames'. -/
def ghostNamesCard : Claim7 := { stood := { row := ghostNamesRow, standIns := [], harness := (true, "5ce21daab030377cc02c21f9ce4d9869e0394ebad79135bea8d49629ab1fdaac"), looks := true }, kinds := [], alts := [], laidByText := true, laidKinds := [.data, .data, .data, .data], laidTests := true, laidLooks := .later }
def GhostNamesCardSaid : Prop := Claim7.holds Tryz.pinned (.plain (OpenSpec.ofChange ghostNamesSpec)) ghostNamesCard

/-- THE SECOND FORM's CARD OF 'basculelaw30.GhostNames'. -/
def ghostNamesUptoCard : Claim7 := { stood := { row := ghostNamesUptoRow, standIns := [], harness := (true, "5ce21daab030377cc02c21f9ce4d9869e0394ebad79135bea8d49629ab1fdaac"), looks := true }, kinds := [], alts := [], laidByText := true, laidKinds := [.data, .data, .data, .data], laidTests := true, laidLooks := .later }
def GhostNamesUptoCardSaid : Prop := Claim7.holds Tryz.pinned (.plain (OpenSpec.upto ghostNamesSpec)) ghostNamesUptoCard
end Rows
end Go.Proofs.YtfbmlbocgeabgabGreatDoor
