/- The law ReadEnds returns true, whatever it is given. No conditions. -/
import Derived.Test.YteniehfknbiakaaGreatDoorBasW17
import Derived.Test.YteniehfknbiakaaGreatDoorRows
import Derived.Test.YteniehfknbiakaaGreatDoorCards
import Derived.Test.YteniehfknbiakaaGreatDoorTie
import Derived.SevenTiedAt
namespace Go.Proofs.YteniehfknbiakaaGreatDoor.readEnds
open Go.ChangeShapes Go.WideShapes Go.ChangeAt Go.RowKit Go.Bas Go.Bas.BasZBase Go.Bas.BasZReadEnds
set_option linter.unusedVariables false
set_option linter.unusedSimpArgs false
theorem readEnds : Rows.ReadEndsCardSaid :=
  Claim7.holds_tied_plain_at .later [] [.data, .data, .data] true (true, "c65c472a588cd69673f6711932cee58d1356119361029575c9360d1e7d945f4e") true
    over (fun _ h => by cases h) c_text (fun _ h => by cases h) readEnds_row_tie rfl ⟨rfl, rfl⟩ c_main rfl
    (fun f fn hf hfn => by
      obtain rfl : f = 3 := Option.some.inj (c_func.symm.trans hf) |>.symm
      obtain rfl : fn = Tryz.f3 := (Option.some.inj (Tryz.func3.symm.trans hfn)).symm
      exact ⟨c_looks, fun j t ht => by
        rw [Tryz.params3] at ht
        have hm : t ∈ [3, 24, 27, 28] := by
          have := Array.mem_of_getElem? ht
          simp at this ⊢
          first | exact this | (rcases this with h | h | h | h <;> simp [h]) | (rcases this with h | h | h | h <;> simp [h])
        have hall := c_all
        exact (show Tryz.prog.wantsStandIn t = false by simpa using List.all_eq_true.1 hall t hm)⟩)
    c_goes
#print axioms readEnds
end Go.Proofs.YteniehfknbiakaaGreatDoor.readEnds
