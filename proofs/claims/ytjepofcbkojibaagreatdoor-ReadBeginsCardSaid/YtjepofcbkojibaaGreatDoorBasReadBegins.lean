/- The law ReadBegins returns true, whatever it is given. No conditions. -/
import Derived.Test.YtjepofcbkojibaaGreatDoorBasW47
import Derived.Test.YtjepofcbkojibaaGreatDoorRows
import Derived.Test.YtjepofcbkojibaaGreatDoorCards
import Derived.Test.YtjepofcbkojibaaGreatDoorTie
import Derived.SevenTiedAt
namespace Go.Proofs.YtjepofcbkojibaaGreatDoor.readBegins
open Go.ChangeShapes Go.WideShapes Go.ChangeAt Go.RowKit Go.Bas Go.Bas.BasZBase Go.Bas.BasZReads
set_option linter.unusedVariables false
set_option linter.unusedSimpArgs false
theorem readBegins : Rows.ReadBeginsCardSaid :=
  Claim7.holds_tied_plain_at .later [] [.data, .data, .data] true (true, "0cb80774747713666c6b3c795d68d6eec3aa056023dc04924460245525a87bb5") true
    Apw (fun _ h => by cases h) Bp6 (fun _ h => by cases h) readBegins_row_tie rfl ⟨rfl, rfl⟩ Bp7 rfl
    (fun f fn hf hfn => by
      obtain rfl : f = 3 := Option.some.inj (c_func.symm.trans hf) |>.symm
      obtain rfl : fn = Tryz.f3 := (Option.some.inj (Tryz.func3.symm.trans hfn)).symm
      exact ⟨Bh7, fun j t ht => by
        rw [Tryz.params3] at ht
        have hm : t ∈ [3, 24, 27, 35] := by
          have := Array.mem_of_getElem? ht
          simp at this ⊢
          first | exact this | (rcases this with h | h | h | h <;> simp [h]) | (rcases this with h | h | h | h <;> simp [h])
        have hall := c_all
        exact (show Tryz.prog.wantsStandIn t = false by simpa using List.all_eq_true.1 hall t hm)⟩)
    Bp8
#print axioms readBegins
end Go.Proofs.YtjepofcbkojibaaGreatDoor.readBegins
