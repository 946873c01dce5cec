/- The law ThreadRefuses returns true, whatever it is given. No conditions. -/
import Derived.Test.YtjepofcbkojibaaGreatDoorBasW36
import Derived.Test.YtjepofcbkojibaaGreatDoorRows
import Derived.Test.YtjepofcbkojibaaGreatDoorCards
import Derived.Test.YtjepofcbkojibaaGreatDoorTie
import Derived.SevenTiedAt
namespace Go.Proofs.YtjepofcbkojibaaGreatDoor.threadRefuses
open Go.ChangeShapes Go.WideShapes Go.ChangeAt Go.RowKit Go.Bas Go.Bas.BasZBase Go.Bas.BasZRefuse
set_option linter.unusedVariables false
set_option linter.unusedSimpArgs false
theorem threadRefuses : Rows.ThreadRefusesCardSaid :=
  Claim7.holds_tied_plain_at .later [] [.data, .data, .data, .data] true (true, "0cb80774747713666c6b3c795d68d6eec3aa056023dc04924460245525a87bb5") true
    over (fun _ h => by cases h) c_text (fun _ h => by cases h) threadRefuses_row_tie rfl ⟨rfl, rfl⟩ c_main rfl
    (fun f fn hf hfn => by
      obtain rfl : f = 8 := Option.some.inj (c_func.symm.trans hf) |>.symm
      obtain rfl : fn = Tryz.f8 := (Option.some.inj (Tryz.func8.symm.trans hfn)).symm
      exact ⟨c_looks, fun j t ht => by
        rw [Tryz.params8] at ht
        have hm : t ∈ [3, 24, 79, 81] := by
          have := Array.mem_of_getElem? ht
          simp at this ⊢
          first | exact this | (rcases this with h | h | h | h <;> simp [h]) | (rcases this with h | h | h | h <;> simp [h])
        have hall := c_all
        exact (show Tryz.prog.wantsStandIn t = false by simpa using List.all_eq_true.1 hall t hm)⟩)
    c_goes
#print axioms threadRefuses
end Go.Proofs.YtjepofcbkojibaaGreatDoor.threadRefuses
