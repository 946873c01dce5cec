/- The examples of chapter 18 hold: a closed run. -/
import Derived.Test.YtakdfjdpjggdkaaDoorBasCBase
namespace Go.Bas.BasCAlive
open Go.RowKit Go.Proofs Go.Bas.BasCBase
theorem t_alive : runF (cfg []) 2000 33 [] (fun v => match v with | .bool b => b | _ => false) false = true := by kernel_rfl
theorem s_alive : ACalls Tryd.prog (gmap gs) 33 [] (fun v => v = .bool true) :=
  (runF_sound (cfg_ok base sums_nil) t_alive).mono fun v h => by
    cases v <;> first | exact (by subst h; rfl) | cases h
end Go.Bas.BasCAlive
