/- The law StageNames returns true: a closed run. -/
import Derived.Test.YtakdfjdpjggdkaaRows
import Derived.Test.YtakdfjdpjggdkaaBasNL
namespace Go.Proofs.Ytakdfjdpjggdkaa
open Go.ChangeShapes Go.WideShapes Go.ChangeAt Go.RowKit Go.Bas
set_option linter.unusedVariables false
set_option linter.unusedSimpArgs false

theorem base : Base Try.prog := ⟨by kernel_rfl, by kernel_rfl⟩
noncomputable abbrev cfg0 : Cfg := ⟨Try.prog, fun _ => none, lookS [], fun _ => false⟩
theorem t_names : runF cfg0 2000 6 [] (fun v => match v with | .bool b => b | _ => false) false = true := by kernel_rfl
theorem law : ACalls Try.prog (fun _ => none) 6 [] (fun v => v = .bool true) :=
  (runF_sound (cfg_ok base sums_nil) t_names).mono fun v h => by
    cases v <;> first | exact (by subst h; rfl) | cases h

theorem own : ownKnob Try.prog.godebug = none := by kernel_rfl
theorem laidOut : laidOutB Try.prog = true := by kernel_rfl

set_option maxRecDepth 100000 in
theorem lifted (os : Os) (started : os.Started) (H : Type) (enc : TypeId × Value → H) :
    ReturnsInHanded {} Try.checked os 6 .any (Rows.stageNamesSpec.pre6 enc Try.prog Try.f6 Rows.stageNamesRow.domain false) (Rows.stageNamesSpec.post enc Try.prog Try.f6 false true false false) := by
  refine returnsInHanded_of_change (C := Try.checked) own started (by kernel_rfl) Try.func6
    (ChangeSpec.witness6 (enc := enc) (C := Try.checked) false ⟨#[], #[], []⟩ 8 (by kernel_rfl) (by kernel_rfl) (by kernel_rfl) (by kernel_rfl)) ?_
  intro W base args ds gs before hval0 hW hcnd _
  have hW' := hW
  obtain ⟨p, q, hA0, hV, rfl, hfz, hnd⟩ := hW
  have hA : DataW.TrodAll enc Try.prog W 0 (fun _ => true) true Try.f6.params.toList args.toList ds p := hA0
  rw [Try.params6] at hA
  obtain ⟨e0, rfl⟩ : args = #[] ∧ ds = [] := by
    cases hargs : args.toList with
    | nil =>
      rw [hargs] at hA
      cases ds with
      | nil => exact ⟨by simpa using hargs, rfl⟩
      | cons d ds => exact hA.elim
    | cons x xs =>
      rw [hargs] at hA
      cases ds <;> exact hA.elim
  subst e0
  obtain ⟨rfl, rfl⟩ := trodVars_none hV
  refine (law W _ (fun _ => False) (fun g cells h => (by cases h)) (fun g cells h => (by cases h)) (fun _ h => h.elim) repL_nil).mono fun e W' hh => ?_
  obtain ⟨v, u, rfl, rfl, E, R⟩ := hh
  cases R
  exact ⟨_, rfl, post_true laidOut (by kernel_rfl) rfl hW' (Still.below E) (by kernel_rfl) Try.underlying4 rfl rfl rfl⟩

theorem over : Rows.stageNamesRow.holds Try.pinned (OpenSpec.ofChange Rows.stageNamesSpec) :=
  OpenClaim.holds_of_wide 6 Try.f6 rfl rfl rfl rfl rfl rfl rfl ⟨rfl, rfl, rfl, rfl, rfl⟩ rfl rfl rfl rfl rfl (by kernel_rfl) Try.func6 (by kernel_rfl)
    (of_decide_eq_true (by kernel_rfl)) (by unfold Func.isWrapper; first | (rw [if_pos (by decide +kernel)]; kernel_rfl) | (rw [if_neg (by decide +kernel)]; exact ⟨rfl, rfl⟩))
    (fun os started H enc _ => lifted os started H enc)

theorem stageNames : Rows.StageNamesSaid := over
#print axioms stageNames
end Go.Proofs.Ytakdfjdpjggdkaa
