/- The law AloneNames returns true: a closed run. No conditions. -/
import Derived.Test.YtehfcbppcfpjoaaGreatDoorRows
import Derived.Test.YtehfcbppcfpjoaaGreatDoorCards
import Derived.Test.YtehfcbppcfpjoaaGreatDoorTie
import Derived.SevenTiedAt
import Derived.Test.YtehfcbppcfpjoaaGreatDoorBasAloneNamesX4
namespace Go.Proofs.YtehfcbppcfpjoaaGreatDoor.aloneNames
open Go.ChangeShapes Go.WideShapes Go.ChangeAt Go.RowKit Go.Bas
set_option linter.unusedVariables false
theorem law : ACalls Tryz.prog (gmap gs) 3 [] (fun v => v = .bool true) :=
  (runF_sound hX (k := fun v => match v with | .bool b => b | _ => false) ((t_run _).trans (by rw [onP_true (⟨rfl, rfl⟩ : zA0 = zA0 ∧ zM0 = zM0), onP_true (⟨rfl, rfl⟩ : zA1 = zA1 ∧ zM1 = zM1), onP_true (⟨rfl, rfl⟩ : zA2 = zA2 ∧ zM2 = zM2), onP_true (⟨rfl, rfl⟩ : zA3 = zA3 ∧ zM3 = zM3), onP_true (⟨rfl, rfl⟩ : zA4 = zA4 ∧ zM4 = zM4), onP_true (⟨rfl, rfl⟩ : zA5 = zA5 ∧ zM5 = zM5), onP_true (⟨rfl, rfl⟩ : zA6 = zA6 ∧ zM6 = zM6), onP_true (⟨rfl, rfl⟩ : zA7 = zA7 ∧ zM7 = zM7), onP_true (⟨rfl, rfl⟩ : zA8 = zA8 ∧ zM8 = zM8), onP_true (⟨rfl, rfl⟩ : zA9 = zA9 ∧ zM9 = zM9), onP_true (⟨rfl, rfl⟩ : zA10 = zA10 ∧ zM10 = zM10)]; rfl))).mono fun v h => by
    cases v <;> first | exact (by subst h; rfl) | cases h

theorem own : ownKnob Tryz.prog.godebug = none := by kernel_rfl
theorem laidOut : laidOutB Tryz.prog = true := by kernel_rfl

def laidL : List (String × DataW Unit) := [("bascule/rank.powers", Rows.laid_bascule_rank_powers), ("bascule/op.objects", Rows.laid_bascule_op_objects)]
theorem g1 : Tryz.prog.globalNamed "bascule/rank.powers" = some 1 := by kernel_rfl
theorem g0 : Tryz.prog.globalNamed "bascule/op.objects" = some 0 := by kernel_rfl
theorem of_laid {W : World} (h : laidMetH Tryz.prog laidL W) : GsOk W gs := by
  rw [MakeChecks.laidMetH_plain _ _ _ (by kernel_rfl)] at h
  obtain ⟨ps, ⟨g0', t0, cs0, f0, p0, q0, hg0, ht0, hv0, hd0, ⟨g1', t1, cs1, f1, p1, q1, hg1, ht1, hv1, hd1, _, _⟩, _⟩, _⟩ := h
  obtain ⟨ty1, e1⟩ : ∃ t, (Tryz.prog.globals[1]?).map (·.type) = some t := Option.isSome_iff_exists.1 (by kernel_rfl)
  obtain ⟨ty0, e0⟩ : ∃ t, (Tryz.prog.globals[0]?).map (·.type) = some t := Option.isSome_iff_exists.1 (by kernel_rfl)
  have k1 : tabOk Tryz.prog 8 ty1 = true := by
    have : (((Tryz.prog.globals[1]?).map (·.type)).map (tabOk Tryz.prog 8)) = some true := by kernel_rfl
    rw [e1] at this
    exact Option.some.inj this
  have k0 : tabOk Tryz.prog 8 ty0 = true := by
    have : (((Tryz.prog.globals[0]?).map (·.type)).map (tabOk Tryz.prog 8)) = some true := by kernel_rfl
    rw [e0] at this
    exact Option.some.inj this
  exact ⟨⟨vals1, by kernel_rfl, laid_var g1 hg0 e1 ht0 hv0 hd0 k1 (by kernel_rfl) rfl⟩, ⟨⟨vals0, by kernel_rfl, laid_var g0 hg1 e0 ht1 hv1 hd1 k0 (by kernel_rfl) rfl⟩, trivial⟩⟩
theorem door_met (os : Os) (args : Array Value) : laidMetH Tryz.prog laidL ((World.doorLaid Tryz.prog 32 os).forCall (fun _ _ => 0) ⟨#[], args, []⟩).memory :=
  laidMetH_of_parts3 (fuel := 8) (laidMet_of_run' 8 (by kernel_rfl) (by kernel_rfl)) (by kernel_rfl) (by kernel_rfl)

set_option maxRecDepth 100000 in
theorem lifted (os : Os) (started : os.Started) (H : Type) (enc : TypeId × Value → H) :
    ReturnsInHanded {} Tryz.checked os 3 .any (fun w args => (Rows.aloneNamesSpec.pre enc Tryz.prog Tryz.f3 [] false w args ∧ laidMetH Tryz.prog laidL w) ∧ sizedMet enc Tryz.prog Tryz.f3 (OpenSpec.ofChange Rows.aloneNamesSpec) false w args) (Rows.aloneNamesSpec.post enc Tryz.prog Tryz.f3 false true false false) := by
  refine returnsInHanded_of_change_and (C := Tryz.checked) (X := fun w _ => laidMetH Tryz.prog laidL w) (fun _ _ _ hh h => h.of_heap hh) own started (by kernel_rfl) Tryz.func3
    (ChangeSpec.witness_shaped (enc := enc) (C := Tryz.checked) (os := os) (X := fun w _ => laidMetH Tryz.prog laidL w) false (World.doorLaid Tryz.prog 32 os) #[] 8 rfl (World.shaped_of_RefB (by kernel_rfl) (by kernel_rfl)) (by kernel_rfl) (by kernel_rfl) (by kernel_rfl) (door_met os _)) ?_
  intro W base args ds gs0 before hval0 hW _ _ hL _
  have hgs := gok_of (of_laid hL)
  have hW' := hW
  obtain ⟨p, q, hA0, hV, rfl, hfz, hnd⟩ := hW
  have hA : DataW.TrodAll enc Tryz.prog W 0 (fun _ => true) true Tryz.f3.params.toList args.toList ds p := hA0
  rw [Tryz.params3] at hA
  obtain ⟨e0, rfl⟩ : args = #[] ∧ ds = [] := by
    cases hargs : args.toList with
    | nil =>
      rw [hargs] at hA
      cases ds with
      | nil => exact ⟨by simpa using hargs, rfl⟩
      | cons d ds => exact hA.elim
    | cons x xs =>
      rw [hargs] at hA
      cases ds <;> exact hA.elim
  subst e0
  obtain ⟨rfl, rfl⟩ := trodVars_none hV
  refine (law W _ (fun _ => False) hgs (fun g cells h => fun hb => hb) (fun _ h => h.elim) repL_nil).mono fun e W' hh => ?_
  obtain ⟨v, u, rfl, rfl, E, R⟩ := hh
  cases R
  exact ⟨_, rfl, post_true laidOut (by kernel_rfl) rfl hW' (Still.below E) (by kernel_rfl) Tryz.underlying4 rfl rfl rfl⟩

theorem over : Rows.AloneNamesSaid :=
  OpenClaim.holds_of_wide 3 Tryz.f3 rfl rfl rfl rfl rfl rfl rfl ⟨rfl, rfl, rfl, rfl, rfl⟩ rfl rfl rfl rfl rfl (by kernel_rfl) Tryz.func3 (by kernel_rfl)
    (of_decide_eq_true (by kernel_rfl)) (by unfold Func.isWrapper; first | (rw [if_pos (by decide +kernel)]; kernel_rfl) | (rw [if_neg (by decide +kernel)]; exact ⟨rfl, rfl⟩))
    (fun os started H enc _ => lifted os started H enc)

theorem aloneNames : Rows.AloneNamesCardSaid :=
  Claim7.holds_tied_plain_at .later [] [.data, .data] true (true, "2a807077a495012d92454c27b4a35988168f7f82f11a098d3a183b5c7db6b54f") false
    over (fun _ h => by cases h) (by kernel_rfl) (fun _ h => by cases h) aloneNames_row_tie rfl ⟨rfl, rfl⟩ (by kernel_rfl) rfl
    (fun f fn hf hfn => by
      obtain rfl : f = 3 := Option.some.inj ((show Tryz.prog.funcNamed "bascule/basculelaw17.AloneNames" = some 3 by kernel_rfl).symm.trans hf) |>.symm
      obtain rfl : fn = Tryz.f3 := (Option.some.inj (Tryz.func3.symm.trans hfn)).symm
      exact ⟨by kernel_rfl, fun j t ht => by
        rw [Tryz.params3] at ht
        simp at ht⟩)
    (by kernel_rfl)
#print axioms aloneNames
end Go.Proofs.YtehfcbppcfpjoaaGreatDoor.aloneNames
