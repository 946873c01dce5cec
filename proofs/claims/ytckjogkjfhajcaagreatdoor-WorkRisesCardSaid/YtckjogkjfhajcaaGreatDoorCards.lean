/-
  DERIVED. GIVEN WITH THE SEED: THE CARDS: each row of YtckjogkjfhajcaaGreatDoorRows.lean that lists a variable, with what it lists TIED to the program's text (the seventh form; the later family's looks); each row that meets fmt, with fmt's text TOLD by the authors' own Lean function (tested against real Go, not proved from fmt's source: count such statements apart). THE CARD IS WHAT COUNTS. Prove the row's statement (the work); the ties are given (YtckjogkjfhajcaaGreatDoorTie.lean); close each card by the builder's one call (the guide's Derived/Test/ToyasCard.lean, 'card_holds'). Laid BY PROGRAM, IN A SANDBOX (cutbox-door.mjs). By AI agents, Wed Nov 11 2026. No macro, syntax, notation, axiom, sorry.
-/
import Derived.Test.YtckjogkjfhajcaaGreatDoorRows
import GoSem.ClaimSeven
namespace Go.Proofs.YtckjogkjfhajcaaGreatDoor
namespace Rows

/-- THE TIED CARD OF 'basculelaw25.WorkRises'. -/
def workRisesCard : Claim7 := { stood := { row := workRisesRow, standIns := [], harness := (true, "ed9b5c2d70104c040a4490030b889294bd81bb9d640e87c04d34f46225505f61"), looks := true }, kinds := [], alts := [], laidByText := true, laidKinds := [.data, .data, .data, .data], laidTests := true, laidLooks := .later }
def WorkRisesCardSaid : Prop := Claim7.holds Tryz.pinned (.plain (OpenSpec.ofChange workRisesSpec)) workRisesCard

/-- THE TIED CARD OF 'basculelaw28.ThreadNames'. -/
def threadNamesCard : Claim7 := { stood := { row := threadNamesRow, standIns := [], harness := (true, "ed9b5c2d70104c040a4490030b889294bd81bb9d640e87c04d34f46225505f61"), looks := true }, kinds := [], alts := [], laidByText := true, laidKinds := [.data, .data, .data, .data], laidTests := true, laidLooks := .later }
def ThreadNamesCardSaid : Prop := Claim7.holds Tryz.pinned (.plain (OpenSpec.ofChange threadNamesSpec)) threadNamesCard

/-- THE TIED CARD OF 'basculelaw28.ThreadRefuses'. -/
def threadRefusesCard : Claim7 := { stood := { row := threadRefusesRow, standIns := [], harness := (true, "ed9b5c2d70104c040a4490030b889294bd81bb9d640e87c04d34f46225505f61"), looks := true }, kinds := [], alts := [], laidByText := true, laidKinds := [.data, .data, .data, .data], laidTests := true, laidLooks := .later }
def ThreadRefusesCardSaid : Prop := Claim7.holds Tryz.pinned (.plain (OpenSpec.ofChange threadRefusesSpec)) threadRefusesCard

/-- THE SECOND FORM's CARD OF 'basculelaw25.WorkRises'. -/
def workRisesUptoCard : Claim7 := { stood := { row := workRisesUptoRow, standIns := [], harness := (true, "ed9b5c2d70104c040a4490030b889294bd81bb9d640e87c04d34f46225505f61"), looks := true }, kinds := [], alts := [], laidByText := true, laidKinds := [.data, .data, .data, .data], laidTests := true, laidLooks := .later }
def WorkRisesUptoCardSaid : Prop := Claim7.holds Tryz.pinned (.plain (OpenSpec.upto workRisesSpec)) workRisesUptoCard

/-- THE SECOND FORM's CARD OF 'basculelaw28.ThreadNames'. -/
def threadNamesUptoCard : Claim7 := { stood := { row := threadNamesUptoRow, standIns := [], harness := (true, "ed9b5c2d70104c040a4490030b889294bd81bb9d640e87c04d34f46225505f61"), looks := true }, kinds := [], alts := [], laidByText := true, laidKinds := [.data, .data, .data, .data], laidTests := true, laidLooks := .later }
def ThreadNamesUptoCardSaid : Prop := Claim7.holds Tryz.pinned (.plain (OpenSpec.upto threadNamesSpec)) threadNamesUptoCard

/-- THE SECOND FORM's CARD OF 'basculelaw28.ThreadRefuses'. -/
def threadRefusesUptoCard : Claim7 := { stood := { row := threadRefusesUptoRow, standIns := [], harness := (true, "ed9b5c2d70104c040a4490030b889294bd81bb9d640e87c04d34f46225505f61"), looks := true }, kinds := [], alts := [], laidByText := true, laidKinds := [.data, .data, .data, .data], laidTests := true, laidLooks := .later }
def ThreadRefusesUptoCardSaid : Prop := Claim7.holds Tryz.pinned (.plain (OpenSpec.upto threadRefusesSpec)) threadRefusesUptoCard
end Rows
end Go.Proofs.YtckjogkjfhajcaaGreatDoor
