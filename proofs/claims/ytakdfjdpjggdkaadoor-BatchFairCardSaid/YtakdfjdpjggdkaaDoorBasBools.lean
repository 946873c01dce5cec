/- A slice of bools, seen abstractly. -/
import Derived.Test.YtakdfjdpjggdkaaDoorBasNMa
namespace Go.Bas
open Go.RowKit
theorem bools_cells : ∀ {rows : List (List Value)}, (∀ x ∈ rows, CellsOk [.b] x) → (rows.flatten.map ofS).length = rows.length ∧ (rows.flatten.map ofS).all AV.isB = true
  | [], _ => ⟨rfl, rfl⟩
  | x :: r, h => by
    obtain ⟨b, y, e, hy⟩ := h x (List.mem_cons_self ..)
    have hy : y = [] := hy
    subst hy
    obtain ⟨h1, h2⟩ := bools_cells (rows := r) (fun x hx => h x (List.mem_cons_of_mem _ hx))
    subst e
    refine ⟨?_, ?_⟩
    · show ((ofS (.bool b)) :: (r.flatten.map ofS)).length = _
      rw [List.length_cons, h1]
      rfl
    · show ((ofS (.bool b)) :: (r.flatten.map ofS)).all AV.isB = true
      rw [List.all_cons, h2]
      rfl
theorem isB_one {l : List AV} (h : l.all AV.isB = true) : l.all AV.one = true := by
  rw [List.all_eq_true] at *
  intro v hv
  have := AV.of_isB (h v hv)
  rw [this]
  rfl
end Go.Bas
