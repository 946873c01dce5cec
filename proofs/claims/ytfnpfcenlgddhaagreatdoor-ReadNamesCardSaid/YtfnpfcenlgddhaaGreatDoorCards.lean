/-
  DERIVED. GIVEN WITH THE SEED: THE CARDS: each row of YtfnpfcenlgddhaaGreatDoorRows.lean that lists a variable, with what it lists TIED to the program's text (the seventh form; the later family's looks); each row that meets fmt, with fmt's text TOLD by the authors' own Lean function (tested against real Go, not proved from fmt's source: count such statements apart). THE CARD IS WHAT COUNTS. Prove the row's statement (the work); the ties are given (YtfnpfcenlgddhaaGreatDoorTie.lean); close each card by the builder's one call (the guide's Derived/Test/ToyasCard.lean, 'card_holds'). Laid BY PROGRAM, IN A SANDBOX (cutbox-door.mjs). By AI agents, Wed Nov 11 2026. No macro, syntax, notation, axiom, sorry.
-/
import Derived.Test.YtfnpfcenlgddhaaGreatDoorRows
import GoSem.ClaimSeven
namespace Go.Proofs.YtfnpfcenlgddhaaGreatDoor
namespace Rows

/-- THE TIED CARD OF 'basculelaw26.ReadBegins'. -/
def readBeginsCard : Claim7 := { stood := { row := readBeginsRow, standIns := [], harness := (true, "4f3e63c040164cd17fe0c6f6d78d231bdb7ee47cbdaa6950cb59c259f08846f3"), looks := true }, kinds := [], alts := [], laidByText := true, laidKinds := [.data, .data, .data], laidTests := true, laidLooks := .later }
def ReadBeginsCardSaid : Prop := Claim7.holds Tryz.pinned (.plain (OpenSpec.ofChange readBeginsSpec)) readBeginsCard

/-- THE TIED CARD OF 'basculelaw26.ReadNames'. -/
def readNamesCard : Claim7 := { stood := { row := readNamesRow, standIns := [], harness := (true, "4f3e63c040164cd17fe0c6f6d78d231bdb7ee47cbdaa6950cb59c259f08846f3"), looks := true }, kinds := [], alts := [], laidByText := true, laidKinds := [.data, .data, .data], laidTests := true, laidLooks := .later }
def ReadNamesCardSaid : Prop := Claim7.holds Tryz.pinned (.plain (OpenSpec.ofChange readNamesSpec)) readNamesCard

/-- THE TIED CARD OF 'basculelaw25.WorkNexts'. -/
def workNextsCard : Claim7 := { stood := { row := workNextsRow, standIns := [], harness := (true, "4f3e63c040164cd17fe0c6f6d78d231bdb7ee47cbdaa6950cb59c259f08846f3"), looks := true }, kinds := [], alts := [], laidByText := true, laidKinds := [.data, .data, .data, .data], laidTests := true, laidLooks := .later }
def WorkNextsCardSaid : Prop := Claim7.holds Tryz.pinned (.plain (OpenSpec.ofChange workNextsSpec)) workNextsCard

/-- THE TIED CARD OF 'basculelaw25.WorkMoves'. -/
def workMovesCard : Claim7 := { stood := { row := workMovesRow, standIns := [], harness := (true, "4f3e63c040164cd17fe0c6f6d78d231bdb7ee47cbdaa6950cb59c259f08846f3"), looks := true }, kinds := [], alts := [], laidByText := true, laidKinds := [.data, .data, .data, .data], laidTests := true, laidLooks := .later }
def WorkMovesCardSaid : Prop := Claim7.holds Tryz.pinned (.plain (OpenSpec.ofChange workMovesSpec)) workMovesCard

/-- THE TIED CARD OF 'basculelaw25.WorkNames'. -/
def workNamesCard : Claim7 := { stood := { row := workNamesRow, standIns := [], harness := (true, "4f3e63c040164cd17fe0c6f6d78d231bdb7ee47cbdaa6950cb59c259f08846f3"), looks := true }, kinds := [], alts := [], laidByText := true, laidKinds := [.data, .data, .data, .data], laidTests := true, laidLooks := .later }
def WorkNamesCardSaid : Prop := Claim7.holds Tryz.pinned (.plain (OpenSpec.ofChange workNamesSpec)) workNamesCard

/-- THE TIED CARD OF 'basculelaw25.WorkRises'. -/
def workRisesCard : Claim7 := { stood := { row := workRisesRow, standIns := [], harness := (true, "4f3e63c040164cd17fe0c6f6d78d231bdb7ee47cbdaa6950cb59c259f08846f3"), looks := true }, kinds := [], alts := [], laidByText := true, laidKinds := [.data, .data, .data, .data], laidTests := true, laidLooks := .later }
def WorkRisesCardSaid : Prop := Claim7.holds Tryz.pinned (.plain (OpenSpec.ofChange workRisesSpec)) workRisesCard

/-- THE TIED CARD OF 'basculelaw26.ReadEnds'. -/
def readEndsCard : Claim7 := { stood := { row := readEndsRow, standIns := [], harness := (true, "4f3e63c040164cd17fe0c6f6d78d231bdb7ee47cbdaa6950cb59c259f08846f3"), looks := true }, kinds := [], alts := [], laidByText := true, laidKinds := [.data, .data, .data], laidTests := true, laidLooks := .later }
def ReadEndsCardSaid : Prop := Claim7.holds Tryz.pinned (.plain (OpenSpec.ofChange readEndsSpec)) readEndsCard

/-- THE SECOND FORM's CARD OF 'basculelaw26.ReadBegins'. -/
def readBeginsUptoCard : Claim7 := { stood := { row := readBeginsUptoRow, standIns := [], harness := (true, "4f3e63c040164cd17fe0c6f6d78d231bdb7ee47cbdaa6950cb59c259f08846f3"), looks := true }, kinds := [], alts := [], laidByText := true, laidKinds := [.data, .data, .data], laidTests := true, laidLooks := .later }
def ReadBeginsUptoCardSaid : Prop := Claim7.holds Tryz.pinned (.plain (OpenSpec.upto readBeginsSpec)) readBeginsUptoCard

/-- THE SECOND FORM's CARD OF 'basculelaw26.ReadNames'. -/
def readNamesUptoCard : Claim7 := { stood := { row := readNamesUptoRow, standIns := [], harness := (true, "4f3e63c040164cd17fe0c6f6d78d231bdb7ee47cbdaa6950cb59c259f08846f3"), looks := true }, kinds := [], alts := [], laidByText := true, laidKinds := [.data, .data, .data], laidTests := true, laidLooks := .later }
def ReadNamesUptoCardSaid : Prop := Claim7.holds Tryz.pinned (.plain (OpenSpec.upto readNamesSpec)) readNamesUptoCard

/-- THE SECOND FORM's CARD OF 'basculelaw25.WorkNexts'. -/
def workNextsUptoCard : Claim7 := { stood := { row := workNextsUptoRow, standIns := [], harness := (true, "4f3e63c040164cd17fe0c6f6d78d231bdb7ee47cbdaa6950cb59c259f08846f3"), looks := true }, kinds := [], alts := [], laidByText := true, laidKinds := [.data, .data, .data, .data], laidTests := true, laidLooks := .later }
def WorkNextsUptoCardSaid : Prop := Claim7.holds Tryz.pinned (.plain (OpenSpec.upto workNextsSpec)) workNextsUptoCard

/-- THE SECOND FORM's CARD OF 'basculelaw25.WorkMoves'. -/
def workMovesUptoCard : Claim7 := { stood := { row := workMovesUptoRow, standIns := [], harness := (true, "4f3e63c040164cd17fe0c6f6d78d231bdb7ee47cbdaa6950cb59c259f08846f3"), looks := true }, kinds := [], alts := [], laidByText := true, laidKinds := [.data, .data, .data, .data], laidTests := true, laidLooks := .later }
def WorkMovesUptoCardSaid : Prop := Claim7.holds Tryz.pinned (.plain (OpenSpec.upto workMovesSpec)) workMovesUptoCard

/-- THE SECOND FORM's CARD OF 'basculelaw25.WorkNames'. -/
def workNamesUptoCard : Claim7 := { stood := { row := workNamesUptoRow, standIns := [], harness := (true, "4f3e63c040164cd17fe0c6f6d78d231bdb7ee47cbdaa6950cb59c259f08846f3"), looks := true }, kinds := [], alts := [], laidByText := true, laidKinds := [.data, .data, .data, .data], laidTests := true, laidLooks := .later }
def WorkNamesUptoCardSaid : Prop := Claim7.holds Tryz.pinned (.plain (OpenSpec.upto workNamesSpec)) workNamesUptoCard

/-- THE SECOND FORM's CARD OF 'basculelaw25.WorkRises'. -/
def workRisesUptoCard : Claim7 := { stood := { row := workRisesUptoRow, standIns := [], harness := (true, "4f3e63c040164cd17fe0c6f6d78d231bdb7ee47cbdaa6950cb59c259f08846f3"), looks := true }, kinds := [], alts := [], laidByText := true, laidKinds := [.data, .data, .data, .data], laidTests := true, laidLooks := .later }
def WorkRisesUptoCardSaid : Prop := Claim7.holds Tryz.pinned (.plain (OpenSpec.upto workRisesSpec)) workRisesUptoCard

/-- THE SECOND FORM's CARD OF 'basculelaw26.ReadEnds'. -/
def readEndsUptoCard : Claim7 := { stood := { row := readEndsUptoRow, standIns := [], harness := (true, "4f3e63c040164cd17fe0c6f6d78d231bdb7ee47cbdaa6950cb59c259f08846f3"), looks := true }, kinds := [], alts := [], laidByText := true, laidKinds := [.data, .data, .data], laidTests := true, laidLooks := .later }
def ReadEndsUptoCardSaid : Prop := Claim7.holds Tryz.pinned (.plain (OpenSpec.upto readEndsSpec)) readEndsUptoCard
end Rows
end Go.Proofs.YtfnpfcenlgddhaaGreatDoor
