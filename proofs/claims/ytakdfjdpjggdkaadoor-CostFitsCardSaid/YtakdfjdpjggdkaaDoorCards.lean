/-
  DERIVED. GIVEN WITH THE SEED: THE CARDS: each row of YtakdfjdpjggdkaaDoorRows.lean that lists a variable, with what it lists TIED to the program's text (the seventh form; the later family's looks); each row that meets fmt, with fmt's text TOLD by the authors' own Lean function (tested against real Go, not proved from fmt's source: count such statements apart). THE CARD IS WHAT COUNTS. Prove the row's statement (the work); the ties are given (YtakdfjdpjggdkaaDoorTie.lean); close each card by the builder's one call (the guide's Derived/Test/ToyasCard.lean, 'card_holds'). Laid BY PROGRAM, IN A SANDBOX (cutbox-door.mjs). By AI agents, Wed Nov 11 2026. No macro, syntax, notation, axiom, sorry.
-/
import Derived.Test.YtakdfjdpjggdkaaDoorRows
import GoSem.ClaimSeven
namespace Go.Proofs.YtakdfjdpjggdkaaDoor
namespace Rows

/-- THE TIED CARD OF 'basculelaw23.BatchCounts'. -/
def batchCountsCard : Claim7 := { stood := { row := batchCountsRow, standIns := [], harness := (true, "6ff77923a224c71e6a34fbd6265c9f54db9e3ec93dd688ad54fade042591c50b"), looks := false }, kinds := [], alts := [], laidByText := true, laidKinds := [.data], laidTests := true, laidLooks := .later }
def BatchCountsCardSaid : Prop := Claim7.holds Tryd.pinned (.plain (OpenSpec.ofChange batchCountsSpec)) batchCountsCard

/-- THE TIED CARD OF 'basculelaw23.BatchNames'. -/
def batchNamesCard : Claim7 := { stood := { row := batchNamesRow, standIns := [], harness := (true, "6ff77923a224c71e6a34fbd6265c9f54db9e3ec93dd688ad54fade042591c50b"), looks := false }, kinds := [], alts := [], laidByText := true, laidKinds := [.data], laidTests := true, laidLooks := .later }
def BatchNamesCardSaid : Prop := Claim7.holds Tryd.pinned (.plain (OpenSpec.ofChange batchNamesSpec)) batchNamesCard

/-- THE TIED CARD OF 'basculelaw23.BatchFair'. -/
def batchFairCard : Claim7 := { stood := { row := batchFairRow, standIns := [], harness := (true, "6ff77923a224c71e6a34fbd6265c9f54db9e3ec93dd688ad54fade042591c50b"), looks := false }, kinds := [], alts := [], laidByText := true, laidKinds := [.data], laidTests := true, laidLooks := .later }
def BatchFairCardSaid : Prop := Claim7.holds Tryd.pinned (.plain (OpenSpec.ofChange batchFairSpec)) batchFairCard

/-- THE TIED CARD OF 'basculelaw23.BatchOrder'. -/
def batchOrderCard : Claim7 := { stood := { row := batchOrderRow, standIns := [], harness := (true, "6ff77923a224c71e6a34fbd6265c9f54db9e3ec93dd688ad54fade042591c50b"), looks := false }, kinds := [], alts := [], laidByText := true, laidKinds := [.data], laidTests := true, laidLooks := .later }
def BatchOrderCardSaid : Prop := Claim7.holds Tryd.pinned (.plain (OpenSpec.ofChange batchOrderSpec)) batchOrderCard

/-- THE TIED CARD OF 'basculelaw23.BatchServes'. -/
def batchServesCard : Claim7 := { stood := { row := batchServesRow, standIns := [], harness := (true, "6ff77923a224c71e6a34fbd6265c9f54db9e3ec93dd688ad54fade042591c50b"), looks := false }, kinds := [], alts := [], laidByText := true, laidKinds := [.data], laidTests := true, laidLooks := .later }
def BatchServesCardSaid : Prop := Claim7.holds Tryd.pinned (.plain (OpenSpec.ofChange batchServesSpec)) batchServesCard

/-- THE TIED CARD OF 'basculelaw18.CostSays'. -/
def costSaysCard : Claim7 := { stood := { row := costSaysRow, standIns := [], harness := (true, "6ff77923a224c71e6a34fbd6265c9f54db9e3ec93dd688ad54fade042591c50b"), looks := false }, kinds := [], alts := [], laidByText := true, laidKinds := [.data, .data, .data], laidTests := true, laidLooks := .later }
def CostSaysCardSaid : Prop := Claim7.holds Tryd.pinned (.plain (OpenSpec.ofChange costSaysSpec)) costSaysCard

/-- THE TIED CARD OF 'basculelaw18.CostBounds'. -/
def costBoundsCard : Claim7 := { stood := { row := costBoundsRow, standIns := [], harness := (true, "6ff77923a224c71e6a34fbd6265c9f54db9e3ec93dd688ad54fade042591c50b"), looks := false }, kinds := [], alts := [], laidByText := true, laidKinds := [.data, .data, .data], laidTests := true, laidLooks := .later }
def CostBoundsCardSaid : Prop := Claim7.holds Tryd.pinned (.plain (OpenSpec.ofChange costBoundsSpec)) costBoundsCard

/-- THE TIED CARD OF 'basculelaw18.CostNames'. -/
def costNamesCard : Claim7 := { stood := { row := costNamesRow, standIns := [], harness := (true, "6ff77923a224c71e6a34fbd6265c9f54db9e3ec93dd688ad54fade042591c50b"), looks := false }, kinds := [], alts := [], laidByText := true, laidKinds := [.data, .data, .data], laidTests := true, laidLooks := .later }
def CostNamesCardSaid : Prop := Claim7.holds Tryd.pinned (.plain (OpenSpec.ofChange costNamesSpec)) costNamesCard

/-- THE TIED CARD OF 'basculelaw18.CostAlone'. -/
def costAloneCard : Claim7 := { stood := { row := costAloneRow, standIns := [], harness := (true, "6ff77923a224c71e6a34fbd6265c9f54db9e3ec93dd688ad54fade042591c50b"), looks := false }, kinds := [], alts := [], laidByText := true, laidKinds := [.data, .data, .data], laidTests := true, laidLooks := .later }
def CostAloneCardSaid : Prop := Claim7.holds Tryd.pinned (.plain (OpenSpec.ofChange costAloneSpec)) costAloneCard

/-- THE TIED CARD OF 'basculelaw18.CostFits'. -/
def costFitsCard : Claim7 := { stood := { row := costFitsRow, standIns := [], harness := (true, "6ff77923a224c71e6a34fbd6265c9f54db9e3ec93dd688ad54fade042591c50b"), looks := false }, kinds := [], alts := [], laidByText := true, laidKinds := [.data, .data, .data], laidTests := true, laidLooks := .later }
def CostFitsCardSaid : Prop := Claim7.holds Tryd.pinned (.plain (OpenSpec.ofChange costFitsSpec)) costFitsCard

/-- THE SECOND FORM's CARD OF 'basculelaw23.BatchCounts'. -/
def batchCountsUptoCard : Claim7 := { stood := { row := batchCountsUptoRow, standIns := [], harness := (true, "6ff77923a224c71e6a34fbd6265c9f54db9e3ec93dd688ad54fade042591c50b"), looks := false }, kinds := [], alts := [], laidByText := true, laidKinds := [.data], laidTests := true, laidLooks := .later }
def BatchCountsUptoCardSaid : Prop := Claim7.holds Tryd.pinned (.plain (OpenSpec.upto batchCountsSpec)) batchCountsUptoCard

/-- THE SECOND FORM's CARD OF 'basculelaw23.BatchNames'. -/
def batchNamesUptoCard : Claim7 := { stood := { row := batchNamesUptoRow, standIns := [], harness := (true, "6ff77923a224c71e6a34fbd6265c9f54db9e3ec93dd688ad54fade042591c50b"), looks := false }, kinds := [], alts := [], laidByText := true, laidKinds := [.data], laidTests := true, laidLooks := .later }
def BatchNamesUptoCardSaid : Prop := Claim7.holds Tryd.pinned (.plain (OpenSpec.upto batchNamesSpec)) batchNamesUptoCard

/-- THE SECOND FORM's CARD OF 'basculelaw23.BatchFair'. -/
def batchFairUptoCard : Claim7 := { stood := { row := batchFairUptoRow, standIns := [], harness := (true, "6ff77923a224c71e6a34fbd6265c9f54db9e3ec93dd688ad54fade042591c50b"), looks := false }, kinds := [], alts := [], laidByText := true, laidKinds := [.data], laidTests := true, laidLooks := .later }
def BatchFairUptoCardSaid : Prop := Claim7.holds Tryd.pinned (.plain (OpenSpec.upto batchFairSpec)) batchFairUptoCard

/-- THE SECOND FORM's CARD OF 'basculelaw23.BatchOrder'. -/
def batchOrderUptoCard : Claim7 := { stood := { row := batchOrderUptoRow, standIns := [], harness := (true, "6ff77923a224c71e6a34fbd6265c9f54db9e3ec93dd688ad54fade042591c50b"), looks := false }, kinds := [], alts := [], laidByText := true, laidKinds := [.data], laidTests := true, laidLooks := .later }
def BatchOrderUptoCardSaid : Prop := Claim7.holds Tryd.pinned (.plain (OpenSpec.upto batchOrderSpec)) batchOrderUptoCard

/-- THE SECOND FORM's CARD OF 'basculelaw23.BatchServes'. -/
def batchServesUptoCard : Claim7 := { stood := { row := batchServesUptoRow, standIns := [], harness := (true, "6ff77923a224c71e6a34fbd6265c9f54db9e3ec93dd688ad54fade042591c50b"), looks := false }, kinds := [], alts := [], laidByText := true, laidKinds := [.data], laidTests := true, laidLooks := .later }
def BatchServesUptoCardSaid : Prop := Claim7.holds Tryd.pinned (.plain (OpenSpec.upto batchServesSpec)) batchServesUptoCard

/-- THE SECOND FORM's CARD OF 'basculelaw18.CostSays'. -/
def costSaysUptoCard : Claim7 := { stood := { row := costSaysUptoRow, standIns := [], harness := (true, "6ff77923a224c71e6a34fbd6265c9f54db9e3ec93dd688ad54fade042591c50b"), looks := false }, kinds := [], alts := [], laidByText := true, laidKinds := [.data, .data, .data], laidTests := true, laidLooks := .later }
def CostSaysUptoCardSaid : Prop := Claim7.holds Tryd.pinned (.plain (OpenSpec.upto costSaysSpec)) costSaysUptoCard

/-- THE SECOND FORM's CARD OF 'basculelaw18.CostBounds'. -/
def costBoundsUptoCard : Claim7 := { stood := { row := costBoundsUptoRow, standIns := [], harness := (true, "6ff77923a224c71e6a34fbd6265c9f54db9e3ec93dd688ad54fade042591c50b"), looks := false }, kinds := [], alts := [], laidByText := true, laidKinds := [.data, .data, .data], laidTests := true, laidLooks := .later }
def CostBoundsUptoCardSaid : Prop := Claim7.holds Tryd.pinned (.plain (OpenSpec.upto costBoundsSpec)) costBoundsUptoCard

/-- THE SECOND FORM's CARD OF 'basculelaw18.CostNames'. -/
def costNamesUptoCard : Claim7 := { stood := { row := costNamesUptoRow, standIns := [], harness := (true, "6ff77923a224c71e6a34fbd6265c9f54db9e3ec93dd688ad54fade042591c50b"), looks := false }, kinds := [], alts := [], laidByText := true, laidKinds := [.data, .data, .data], laidTests := true, laidLooks := .later }
def CostNamesUptoCardSaid : Prop := Claim7.holds Tryd.pinned (.plain (OpenSpec.upto costNamesSpec)) costNamesUptoCard

/-- THE SECOND FORM's CARD OF 'basculelaw18.CostAlone'. -/
def costAloneUptoCard : Claim7 := { stood := { row := costAloneUptoRow, standIns := [], harness := (true, "6ff77923a224c71e6a34fbd6265c9f54db9e3ec93dd688ad54fade042591c50b"), looks := false }, kinds := [], alts := [], laidByText := true, laidKinds := [.data, .data, .data], laidTests := true, laidLooks := .later }
def CostAloneUptoCardSaid : Prop := Claim7.holds Tryd.pinned (.plain (OpenSpec.upto costAloneSpec)) costAloneUptoCard

/-- THE SECOND FORM's CARD OF 'basculelaw18.CostFits'. -/
def costFitsUptoCard : Claim7 := { stood := { row := costFitsUptoRow, standIns := [], harness := (true, "6ff77923a224c71e6a34fbd6265c9f54db9e3ec93dd688ad54fade042591c50b"), looks := false }, kinds := [], alts := [], laidByText := true, laidKinds := [.data, .data, .data], laidTests := true, laidLooks := .later }
def CostFitsUptoCardSaid : Prop := Claim7.holds Tryd.pinned (.plain (OpenSpec.upto costFitsSpec)) costFitsUptoCard
end Rows
end Go.Proofs.YtakdfjdpjggdkaaDoor
