/- The law WorkNexts returns true, whatever it is given. No conditions. -/
import Derived.Test.YtjepofcbkojibaaGreatDoorBasW43
import Derived.Test.YtjepofcbkojibaaGreatDoorRows
import Derived.Test.YtjepofcbkojibaaGreatDoorCards
import Derived.Test.YtjepofcbkojibaaGreatDoorTie
import Derived.SevenTiedAt
namespace Go.Proofs.YtjepofcbkojibaaGreatDoor.workNexts
open Go.ChangeShapes Go.WideShapes Go.ChangeAt Go.RowKit Go.Bas Go.Bas.BasZBase Go.Bas.BasZWNexts
set_option linter.unusedVariables false
set_option linter.unusedSimpArgs false
theorem workNexts : Rows.WorkNextsCardSaid :=
  Claim7.holds_tied_plain_at .later [] [.data, .data, .data, .data] true (true, "0cb80774747713666c6b3c795d68d6eec3aa056023dc04924460245525a87bb5") true
    Apw (fun _ h => by cases h) Bp6 (fun _ h => by cases h) workNexts_row_tie rfl ⟨rfl, rfl⟩ Bp7 rfl
    (fun f fn hf hfn => by
      obtain rfl : f = 4 := Option.some.inj (c_func.symm.trans hf) |>.symm
      obtain rfl : fn = Tryz.f4 := (Option.some.inj (Tryz.func4.symm.trans hfn)).symm
      exact ⟨Bh7, fun j t ht => by
        rw [Tryz.params4] at ht
        have hm : t ∈ [24, 41, 51] := by
          have := Array.mem_of_getElem? ht
          simp at this ⊢
          first | exact this | (rcases this with h | h | h <;> simp [h]) | (rcases this with h | h | h <;> simp [h])
        have hall := c_all
        exact (show Tryz.prog.wantsStandIn t = false by simpa using List.all_eq_true.1 hall t hm)⟩)
    Bp8
#print axioms workNexts
end Go.Proofs.YtjepofcbkojibaaGreatDoor.workNexts
