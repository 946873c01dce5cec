/- The law BatchNames returns true: a closed run. No conditions. -/
import Derived.Test.YtakdfjdpjggdkaaDoorRows
import Derived.Test.YtakdfjdpjggdkaaDoorCards
import Derived.Test.YtakdfjdpjggdkaaDoorTie
import Derived.SevenTiedAt
import Derived.Test.YtakdfjdpjggdkaaDoorBasNZ
namespace Go.Proofs.YtakdfjdpjggdkaaDoor.batchNames
open Go.ChangeShapes Go.WideShapes Go.ChangeAt Go.RowKit Go.Bas
set_option linter.unusedVariables false
set_option linter.unusedSimpArgs false

theorem base : Base Tryd.prog := ⟨by kernel_rfl, by kernel_rfl⟩
def vals0 : List Value := [.int .u8 0, .int .u8 1, .int .u8 56, .int .u8 2, .int .u8 57, .int .u8 49, .int .u8 28, .int .u8 3, .int .u8 61, .int .u8 58, .int .u8 42, .int .u8 50, .int .u8 38, .int .u8 29, .int .u8 17, .int .u8 4, .int .u8 62, .int .u8 47, .int .u8 59, .int .u8 36, .int .u8 45, .int .u8 43, .int .u8 51, .int .u8 22, .int .u8 53, .int .u8 39, .int .u8 33, .int .u8 30, .int .u8 24, .int .u8 18, .int .u8 12, .int .u8 5, .int .u8 63, .int .u8 55, .int .u8 48, .int .u8 27, .int .u8 60, .int .u8 41, .int .u8 37, .int .u8 16, .int .u8 46, .int .u8 35, .int .u8 44, .int .u8 21, .int .u8 52, .int .u8 32, .int .u8 23, .int .u8 11, .int .u8 54, .int .u8 26, .int .u8 40, .int .u8 15, .int .u8 34, .int .u8 20, .int .u8 31, .int .u8 10, .int .u8 25, .int .u8 14, .int .u8 19, .int .u8 9, .int .u8 13, .int .u8 8, .int .u8 7, .int .u8 6]
def cells0 : List AV := [.int .u8 0, .int .u8 1, .int .u8 56, .int .u8 2, .int .u8 57, .int .u8 49, .int .u8 28, .int .u8 3, .int .u8 61, .int .u8 58, .int .u8 42, .int .u8 50, .int .u8 38, .int .u8 29, .int .u8 17, .int .u8 4, .int .u8 62, .int .u8 47, .int .u8 59, .int .u8 36, .int .u8 45, .int .u8 43, .int .u8 51, .int .u8 22, .int .u8 53, .int .u8 39, .int .u8 33, .int .u8 30, .int .u8 24, .int .u8 18, .int .u8 12, .int .u8 5, .int .u8 63, .int .u8 55, .int .u8 48, .int .u8 27, .int .u8 60, .int .u8 41, .int .u8 37, .int .u8 16, .int .u8 46, .int .u8 35, .int .u8 44, .int .u8 21, .int .u8 52, .int .u8 32, .int .u8 23, .int .u8 11, .int .u8 54, .int .u8 26, .int .u8 40, .int .u8 15, .int .u8 34, .int .u8 20, .int .u8 31, .int .u8 10, .int .u8 25, .int .u8 14, .int .u8 19, .int .u8 9, .int .u8 13, .int .u8 8, .int .u8 7, .int .u8 6]
def gs : List (Nat × List AV) := [(0, cells0)]
noncomputable abbrev cfg0 : Cfg := ⟨Tryd.prog, gmap gs, lookS [], fun _ => false⟩
theorem t_run : runF cfg0 2000 4 [] (fun v => match v with | .bool b => b | _ => false) false = true := by kernel_rfl
theorem law : ACalls Tryd.prog (gmap gs) 4 [] (fun v => v = .bool true) :=
  (runF_sound (cfg_ok base sums_nil) t_run).mono fun v h => by
    cases v <;> first | exact (by subst h; rfl) | cases h

theorem own : ownKnob Tryd.prog.godebug = none := by kernel_rfl
theorem laidOut : laidOutB Tryd.prog = true := by kernel_rfl

def laidL : List (String × DataW Unit) := [("math/bits.deBruijn64tab", Rows.laid_math_bits_deBruijn64tab)]
theorem g0 : Tryd.prog.globalNamed "math/bits.deBruijn64tab" = some 0 := by kernel_rfl
theorem of_laid {W : World} (h : laidMetH Tryd.prog laidL W) : GsOk W gs := by
  rw [MakeChecks.laidMetH_plain _ _ _ (by kernel_rfl)] at h
  obtain ⟨ps, ⟨g0', t0, cs0, f0, p0, q0, hg0, ht0, hv0, hd0, _, _⟩, _⟩ := h
  obtain ⟨ty0, e0⟩ : ∃ t, (Tryd.prog.globals[0]?).map (·.type) = some t := Option.isSome_iff_exists.1 (by kernel_rfl)
  have k0 : tabOk Tryd.prog 8 ty0 = true := by
    have : (((Tryd.prog.globals[0]?).map (·.type)).map (tabOk Tryd.prog 8)) = some true := by kernel_rfl
    rw [e0] at this
    exact Option.some.inj this
  exact ⟨⟨vals0, by kernel_rfl, laid_var g0 hg0 e0 ht0 hv0 hd0 k0 (by kernel_rfl) rfl⟩, trivial⟩
theorem door_met (os : Os) (args : Array Value) : laidMetH Tryd.prog laidL ((World.doorLaid Tryd.prog 32 os).forCall (fun _ _ => 0) ⟨#[], args, []⟩).memory :=
  laidMetH_of_parts3 (fuel := 8) (laidMet_of_run' 8 (by kernel_rfl) (by kernel_rfl)) (by kernel_rfl) (by kernel_rfl)

set_option maxRecDepth 100000 in
theorem lifted (os : Os) (started : os.Started) (H : Type) (enc : TypeId × Value → H) :
    ReturnsInHanded {} Tryd.checked os 4 .any (fun w args => (Rows.batchNamesSpec.pre enc Tryd.prog Tryd.f4 [] false w args ∧ laidMetH Tryd.prog laidL w) ∧ sizedMet enc Tryd.prog Tryd.f4 (OpenSpec.ofChange Rows.batchNamesSpec) false w args) (Rows.batchNamesSpec.post enc Tryd.prog Tryd.f4 false true false false) := by
  refine returnsInHanded_of_change_and (C := Tryd.checked) (X := fun w _ => laidMetH Tryd.prog laidL w) (fun _ _ _ hh h => h.of_heap hh) own started (by kernel_rfl) Tryd.func4
    (ChangeSpec.witness_shaped (enc := enc) (C := Tryd.checked) (os := os) (X := fun w _ => laidMetH Tryd.prog laidL w) false (World.doorLaid Tryd.prog 32 os) #[] 8 rfl (World.shaped_of_RefB (by kernel_rfl) (by kernel_rfl)) (by kernel_rfl) (by kernel_rfl) (by kernel_rfl) (door_met os _)) ?_
  intro W base args ds gs0 before hval0 hW _ _ hL _
  have hgs := gok_of (of_laid hL)
  have hW' := hW
  obtain ⟨p, q, hA0, hV, rfl, hfz, hnd⟩ := hW
  have hA : DataW.TrodAll enc Tryd.prog W 0 (fun _ => true) true Tryd.f4.params.toList args.toList ds p := hA0
  rw [Tryd.params4] at hA
  obtain ⟨e0, rfl⟩ : args = #[] ∧ ds = [] := by
    cases hargs : args.toList with
    | nil =>
      rw [hargs] at hA
      cases ds with
      | nil => exact ⟨by simpa using hargs, rfl⟩
      | cons d ds => exact hA.elim
    | cons x xs =>
      rw [hargs] at hA
      cases ds <;> exact hA.elim
  subst e0
  obtain ⟨rfl, rfl⟩ := trodVars_none hV
  refine (law W _ (fun _ => False) hgs (fun g cells h => fun hb => hb) (fun _ h => h.elim) repL_nil).mono fun e W' hh => ?_
  obtain ⟨v, u, rfl, rfl, E, R⟩ := hh
  cases R
  exact ⟨_, rfl, post_true laidOut (by kernel_rfl) rfl hW' (Still.below E) (by kernel_rfl) Tryd.underlying4 rfl rfl rfl⟩

theorem over : Rows.BatchNamesSaid :=
  OpenClaim.holds_of_wide 4 Tryd.f4 rfl rfl rfl rfl rfl rfl rfl ⟨rfl, rfl, rfl, rfl, rfl⟩ rfl rfl rfl rfl rfl (by kernel_rfl) Tryd.func4 (by kernel_rfl)
    (of_decide_eq_true (by kernel_rfl)) (by unfold Func.isWrapper; first | (rw [if_pos (by decide +kernel)]; kernel_rfl) | (rw [if_neg (by decide +kernel)]; exact ⟨rfl, rfl⟩))
    (fun os started H enc _ => lifted os started H enc)

theorem batchNames : Rows.BatchNamesCardSaid :=
  Claim7.holds_tied_plain_at .later [] [.data] true (true, "6ff77923a224c71e6a34fbd6265c9f54db9e3ec93dd688ad54fade042591c50b") false
    over (fun _ h => by cases h) (by kernel_rfl) (fun _ h => by cases h) batchNames_row_tie rfl ⟨rfl, rfl⟩ (by kernel_rfl) rfl
    (fun f fn hf hfn => by
      obtain rfl : f = 4 := Option.some.inj ((show Tryd.prog.funcNamed "bascule/basculelaw23.BatchNames" = some 4 by kernel_rfl).symm.trans hf) |>.symm
      obtain rfl : fn = Tryd.f4 := (Option.some.inj (Tryd.func4.symm.trans hfn)).symm
      exact ⟨by kernel_rfl, fun j t ht => by
        rw [Tryd.params4] at ht
        simp at ht⟩)
    (by kernel_rfl)
#print axioms batchNames
end Go.Proofs.YtakdfjdpjggdkaaDoor.batchNames
