/-
  DERIVED. GIVEN WITH THE SEED: THE CARDS: each row of YteniehfknbiakaaGreatDoorRows.lean that lists a variable, with what it lists TIED to the program's text (the seventh form; the later family's looks); each row that meets fmt, with fmt's text TOLD by the authors' own Lean function (tested against real Go, not proved from fmt's source: count such statements apart). THE CARD IS WHAT COUNTS. Prove the row's statement (the work); the ties are given (YteniehfknbiakaaGreatDoorTie.lean); close each card by the builder's one call (the guide's Derived/Test/ToyasCard.lean, 'card_holds'). Laid BY PROGRAM, IN A SANDBOX (cutbox-door.mjs). By AI agents, Wed Nov 11 2026. No macro, syntax, notation, axiom, sorry.
-/
import Derived.Test.YteniehfknbiakaaGreatDoorRows
import GoSem.ClaimSeven
namespace Go.Proofs.YteniehfknbiakaaGreatDoor
namespace Rows

/-- THE TIED CARD OF 'basculelaw26.ReadEnds'. -/
def readEndsCard : Claim7 := { stood := { row := readEndsRow, standIns := [], harness := (true, "c65c472a588cd69673f6711932cee58d1356119361029575c9360d1e7d945f4e"), looks := true }, kinds := [], alts := [], laidByText := true, laidKinds := [.data, .data, .data], laidTests := true, laidLooks := .later }
def ReadEndsCardSaid : Prop := Claim7.holds Tryz.pinned (.plain (OpenSpec.ofChange readEndsSpec)) readEndsCard

/-- THE SECOND FORM's CARD OF 'basculelaw26.ReadEnds'. -/
def readEndsUptoCard : Claim7 := { stood := { row := readEndsUptoRow, standIns := [], harness := (true, "c65c472a588cd69673f6711932cee58d1356119361029575c9360d1e7d945f4e"), looks := true }, kinds := [], alts := [], laidByText := true, laidKinds := [.data, .data, .data], laidTests := true, laidLooks := .later }
def ReadEndsUptoCardSaid : Prop := Claim7.holds Tryz.pinned (.plain (OpenSpec.upto readEndsSpec)) readEndsUptoCard
end Rows
end Go.Proofs.YteniehfknbiakaaGreatDoor
