/-
  DERIVED. GIVEN WITH THE SEED: THE CARDS: each row of YtjepofcbkojibaaGreatDoorRows.lean that lists a variable, with what it lists TIED to the program's text (the seventh form; the later family's looks); each row that meets fmt, with fmt's text TOLD by the authors' own Lean function (tested against real Go, not proved from fmt's source: count such statements apart). THE CARD IS WHAT COUNTS. Prove the row's statement (the work); the ties are given (YtjepofcbkojibaaGreatDoorTie.lean); close each card by the builder's one call (the guide's Derived/Test/ToyasCard.lean, 'card_holds'). Laid BY PROGRAM, IN A SANDBOX (cutbox-door.mjs). By AI agents, Wed Nov 11 2026. No macro, syntax, notation, axiom, sorry.
-/
import Derived.Test.YtjepofcbkojibaaGreatDoorRows
import GoSem.ClaimSeven
namespace Go.Proofs.YtjepofcbkojibaaGreatDoor
namespace Rows

/-- THE TIED CARD OF 'basculelaw26.ReadBegins'. -/
def readBeginsCard : Claim7 := { stood := { row := readBeginsRow, standIns := [], harness := (true, "0cb80774747713666c6b3c795d68d6eec3aa056023dc04924460245525a87bb5"), looks := true }, kinds := [], alts := [], laidByText := true, laidKinds := [.data, .data, .data], laidTests := true, laidLooks := .later }
def ReadBeginsCardSaid : Prop := Claim7.holds Tryz.pinned (.plain (OpenSpec.ofChange readBeginsSpec)) readBeginsCard

/-- THE TIED CARD OF 'basculelaw25.WorkNexts'. -/
def workNextsCard : Claim7 := { stood := { row := workNextsRow, standIns := [], harness := (true, "0cb80774747713666c6b3c795d68d6eec3aa056023dc04924460245525a87bb5"), looks := true }, kinds := [], alts := [], laidByText := true, laidKinds := [.data, .data, .data, .data], laidTests := true, laidLooks := .later }
def WorkNextsCardSaid : Prop := Claim7.holds Tryz.pinned (.plain (OpenSpec.ofChange workNextsSpec)) workNextsCard

/-- THE TIED CARD OF 'basculelaw25.WorkMoves'. -/
def workMovesCard : Claim7 := { stood := { row := workMovesRow, standIns := [], harness := (true, "0cb80774747713666c6b3c795d68d6eec3aa056023dc04924460245525a87bb5"), looks := true }, kinds := [], alts := [], laidByText := true, laidKinds := [.data, .data, .data, .data], laidTests := true, laidLooks := .later }
def WorkMovesCardSaid : Prop := Claim7.holds Tryz.pinned (.plain (OpenSpec.ofChange workMovesSpec)) workMovesCard

/-- THE TIED CARD OF 'basculelaw27.WriteBegins'. -/
def writeBeginsCard : Claim7 := { stood := { row := writeBeginsRow, standIns := [], harness := (true, "0cb80774747713666c6b3c795d68d6eec3aa056023dc04924460245525a87bb5"), looks := true }, kinds := [], alts := [], laidByText := true, laidKinds := [.data, .data, .data, .data], laidTests := true, laidLooks := .later }
def WriteBeginsCardSaid : Prop := Claim7.holds Tryz.pinned (.plain (OpenSpec.ofChange writeBeginsSpec)) writeBeginsCard

/-- THE TIED CARD OF 'basculelaw28.ThreadBegins'. -/
def threadBeginsCard : Claim7 := { stood := { row := threadBeginsRow, standIns := [], harness := (true, "0cb80774747713666c6b3c795d68d6eec3aa056023dc04924460245525a87bb5"), looks := true }, kinds := [], alts := [], laidByText := true, laidKinds := [.data, .data, .data, .data], laidTests := true, laidLooks := .later }
def ThreadBeginsCardSaid : Prop := Claim7.holds Tryz.pinned (.plain (OpenSpec.ofChange threadBeginsSpec)) threadBeginsCard

/-- THE TIED CARD OF 'basculelaw28.ThreadRefuses'. -/
def threadRefusesCard : Claim7 := { stood := { row := threadRefusesRow, standIns := [], harness := (true, "0cb80774747713666c6b3c795d68d6eec3aa056023dc04924460245525a87bb5"), looks := true }, kinds := [], alts := [], laidByText := true, laidKinds := [.data, .data, .data, .data], laidTests := true, laidLooks := .later }
def ThreadRefusesCardSaid : Prop := Claim7.holds Tryz.pinned (.plain (OpenSpec.ofChange threadRefusesSpec)) threadRefusesCard

/-- THE SECOND FORM's CARD OF 'basculelaw26.ReadBegins'. -/
def readBeginsUptoCard : Claim7 := { stood := { row := readBeginsUptoRow, standIns := [], harness := (true, "0cb80774747713666c6b3c795d68d6eec3aa056023dc04924460245525a87bb5"), looks := true }, kinds := [], alts := [], laidByText := true, laidKinds := [.data, .data, .data], laidTests := true, laidLooks := .later }
def ReadBeginsUptoCardSaid : Prop := Claim7.holds Tryz.pinned (.plain (OpenSpec.upto readBeginsSpec)) readBeginsUptoCard

/-- THE SECOND FORM's CARD OF 'basculelaw25.WorkNexts'. -/
def workNextsUptoCard : Claim7 := { stood := { row := workNextsUptoRow, standIns := [], harness := (true, "0cb80774747713666c6b3c795d68d6eec3aa056023dc04924460245525a87bb5"), looks := true }, kinds := [], alts := [], laidByText := true, laidKinds := [.data, .data, .data, .data], laidTests := true, laidLooks := .later }
def WorkNextsUptoCardSaid : Prop := Claim7.holds Tryz.pinned (.plain (OpenSpec.upto workNextsSpec)) workNextsUptoCard

/-- THE SECOND FORM's CARD OF 'basculelaw25.WorkMoves'. -/
def workMovesUptoCard : Claim7 := { stood := { row := workMovesUptoRow, standIns := [], harness := (true, "0cb80774747713666c6b3c795d68d6eec3aa056023dc04924460245525a87bb5"), looks := true }, kinds := [], alts := [], laidByText := true, laidKinds := [.data, .data, .data, .data], laidTests := true, laidLooks := .later }
def WorkMovesUptoCardSaid : Prop := Claim7.holds Tryz.pinned (.plain (OpenSpec.upto workMovesSpec)) workMovesUptoCard

/-- THE SECOND FORM's CARD OF 'basculelaw27.WriteBegins'. -/
def writeBeginsUptoCard : Claim7 := { stood := { row := writeBeginsUptoRow, standIns := [], harness := (true, "0cb80774747713666c6b3c795d68d6eec3aa056023dc04924460245525a87bb5"), looks := true }, kinds := [], alts := [], laidByText := true, laidKinds := [.data, .data, .data, .data], laidTests := true, laidLooks := .later }
def WriteBeginsUptoCardSaid : Prop := Claim7.holds Tryz.pinned (.plain (OpenSpec.upto writeBeginsSpec)) writeBeginsUptoCard

/-- THE SECOND FORM's CARD OF 'basculelaw28.ThreadBegins'. -/
def threadBeginsUptoCard : Claim7 := { stood := { row := threadBeginsUptoRow, standIns := [], harness := (true, "0cb80774747713666c6b3c795d68d6eec3aa056023dc04924460245525a87bb5"), looks := true }, kinds := [], alts := [], laidByText := true, laidKinds := [.data, .data, .data, .data], laidTests := true, laidLooks := .later }
def ThreadBeginsUptoCardSaid : Prop := Claim7.holds Tryz.pinned (.plain (OpenSpec.upto threadBeginsSpec)) threadBeginsUptoCard

/-- THE SECOND FORM's CARD OF 'basculelaw28.ThreadRefuses'. -/
def threadRefusesUptoCard : Claim7 := { stood := { row := threadRefusesUptoRow, standIns := [], harness := (true, "0cb80774747713666c6b3c795d68d6eec3aa056023dc04924460245525a87bb5"), looks := true }, kinds := [], alts := [], laidByText := true, laidKinds := [.data, .data, .data, .data], laidTests := true, laidLooks := .later }
def ThreadRefusesUptoCardSaid : Prop := Claim7.holds Tryz.pinned (.plain (OpenSpec.upto threadRefusesSpec)) threadRefusesUptoCard
end Rows
end Go.Proofs.YtjepofcbkojibaaGreatDoor
