/-
  DERIVED. GIVEN WITH THE SEED: THE CARDS: each row of YtjibpphcdfbgkaaDoorRows.lean that lists a variable, with what it lists TIED to the program's text (the seventh form; the later family's looks); each row that meets fmt, with fmt's text TOLD by the authors' own Lean function (tested against real Go, not proved from fmt's source: count such statements apart). THE CARD IS WHAT COUNTS. Prove the row's statement (the work); the ties are given (YtjibpphcdfbgkaaDoorTie.lean); close each card by the builder's one call (the guide's Derived/Test/ToyasCard.lean, 'card_holds'). Laid BY PROGRAM, IN A SANDBOX (cutbox-door.mjs). By AI agents, Wed Nov 11 2026. No macro, syntax, notation, axiom, sorry.
-/
import Derived.Test.YtjibpphcdfbgkaaDoorRows
import GoSem.ClaimSeven
namespace Go.Proofs.YtjibpphcdfbgkaaDoor
namespace Rows

/-- THE TIED CARD OF 'basculelaw17.AloneViews'. -/
def aloneViewsCard : Claim7 := { stood := { row := aloneViewsRow, standIns := [], harness := (true, "67a00ed3748d402f5095702e755cffd44773d5291d371bc41a6c0e34d059f31c"), looks := false }, kinds := [], alts := [], laidByText := true, laidKinds := [.data], laidTests := true, laidLooks := .later }
def AloneViewsCardSaid : Prop := Claim7.holds Tryd.pinned (.plain (OpenSpec.ofChange aloneViewsSpec)) aloneViewsCard

/-- THE SECOND FORM's CARD OF 'basculelaw17.AloneViews'. -/
def aloneViewsUptoCard : Claim7 := { stood := { row := aloneViewsUptoRow, standIns := [], harness := (true, "67a00ed3748d402f5095702e755cffd44773d5291d371bc41a6c0e34d059f31c"), looks := false }, kinds := [], alts := [], laidByText := true, laidKinds := [.data], laidTests := true, laidLooks := .later }
def AloneViewsUptoCardSaid : Prop := Claim7.holds Tryd.pinned (.plain (OpenSpec.upto aloneViewsSpec)) aloneViewsUptoCard
end Rows
end Go.Proofs.YtjibpphcdfbgkaaDoor
