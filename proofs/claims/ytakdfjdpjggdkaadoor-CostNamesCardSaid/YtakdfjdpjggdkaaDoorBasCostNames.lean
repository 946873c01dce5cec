/- The law CostNames returns true: a closed run. No conditions. -/
import Derived.Test.YtakdfjdpjggdkaaDoorRows
import Derived.Test.YtakdfjdpjggdkaaDoorCards
import Derived.Test.YtakdfjdpjggdkaaDoorTie
import Derived.SevenTiedAt
import Derived.Test.YtakdfjdpjggdkaaDoorBasNZ
namespace Go.Proofs.YtakdfjdpjggdkaaDoor.costNames
open Go.ChangeShapes Go.WideShapes Go.ChangeAt Go.RowKit Go.Bas
set_option linter.unusedVariables false
set_option linter.unusedSimpArgs false

theorem base : Base Tryd.prog := ⟨by kernel_rfl, by kernel_rfl⟩
def vals3 : List Value := [.int .i64 1, .int .i64 2, .int .i64 4, .int .i64 8, .int .i64 16, .int .i64 1, .int .i64 3, .int .i64 9, .int .i64 27, .int .i64 81, .int .i64 1, .int .i64 4, .int .i64 16, .int .i64 64, .int .i64 256]
def cells3 : List AV := [.int .i64 1, .int .i64 2, .int .i64 4, .int .i64 8, .int .i64 16, .int .i64 1, .int .i64 3, .int .i64 9, .int .i64 27, .int .i64 81, .int .i64 1, .int .i64 4, .int .i64 16, .int .i64 64, .int .i64 256]
def vals1 : List Value := [.int .u8 0, .int .u8 1, .int .u8 1, .int .u8 1, .int .u8 2, .int .u8 2, .int .u8 2, .int .u8 2, .int .u8 2, .int .u8 3, .int .u8 3, .int .u8 3, .int .u8 4, .int .u8 4, .int .u8 4]
def cells1 : List AV := [.int .u8 0, .int .u8 1, .int .u8 1, .int .u8 1, .int .u8 2, .int .u8 2, .int .u8 2, .int .u8 2, .int .u8 2, .int .u8 3, .int .u8 3, .int .u8 3, .int .u8 4, .int .u8 4, .int .u8 4]
def vals2 : List Value := [.bool false, .bool true, .bool true, .bool false, .bool true, .bool true, .bool false, .bool false, .bool false, .bool true, .bool true, .bool false, .bool true, .bool true, .bool false]
def cells2 : List AV := [.bool false, .bool true, .bool true, .bool false, .bool true, .bool true, .bool false, .bool false, .bool false, .bool true, .bool true, .bool false, .bool true, .bool true, .bool false]
def gs : List (Nat × List AV) := [(3, cells3), (1, cells1), (2, cells2)]
noncomputable abbrev cfg0 : Cfg := ⟨Tryd.prog, gmap gs, lookS [], fun _ => false⟩
theorem t_run : runF cfg0 2000 10 [] (fun v => match v with | .bool b => b | _ => false) false = true := by kernel_rfl
theorem law : ACalls Tryd.prog (gmap gs) 10 [] (fun v => v = .bool true) :=
  (runF_sound (cfg_ok base sums_nil) t_run).mono fun v h => by
    cases v <;> first | exact (by subst h; rfl) | cases h

theorem own : ownKnob Tryd.prog.godebug = none := by kernel_rfl
theorem laidOut : laidOutB Tryd.prog = true := by kernel_rfl

def laidL : List (String × DataW Unit) := [("bascule/rank.powers", Rows.laid_bascule_rank_powers), ("bascule/op.objects", Rows.laid_bascule_op_objects), ("bascule/op.writers", Rows.laid_bascule_op_writers)]
theorem g3 : Tryd.prog.globalNamed "bascule/rank.powers" = some 3 := by kernel_rfl
theorem g1 : Tryd.prog.globalNamed "bascule/op.objects" = some 1 := by kernel_rfl
theorem g2 : Tryd.prog.globalNamed "bascule/op.writers" = some 2 := by kernel_rfl
theorem of_laid {W : World} (h : laidMetH Tryd.prog laidL W) : GsOk W gs := by
  rw [MakeChecks.laidMetH_plain _ _ _ (by kernel_rfl)] at h
  obtain ⟨ps, ⟨g0', t0, cs0, f0, p0, q0, hg0, ht0, hv0, hd0, ⟨g1', t1, cs1, f1, p1, q1, hg1, ht1, hv1, hd1, ⟨g2', t2, cs2, f2, p2, q2, hg2, ht2, hv2, hd2, _, _⟩, _⟩, _⟩, _⟩ := h
  obtain ⟨ty3, e3⟩ : ∃ t, (Tryd.prog.globals[3]?).map (·.type) = some t := Option.isSome_iff_exists.1 (by kernel_rfl)
  obtain ⟨ty1, e1⟩ : ∃ t, (Tryd.prog.globals[1]?).map (·.type) = some t := Option.isSome_iff_exists.1 (by kernel_rfl)
  obtain ⟨ty2, e2⟩ : ∃ t, (Tryd.prog.globals[2]?).map (·.type) = some t := Option.isSome_iff_exists.1 (by kernel_rfl)
  have k3 : tabOk Tryd.prog 8 ty3 = true := by
    have : (((Tryd.prog.globals[3]?).map (·.type)).map (tabOk Tryd.prog 8)) = some true := by kernel_rfl
    rw [e3] at this
    exact Option.some.inj this
  have k1 : tabOk Tryd.prog 8 ty1 = true := by
    have : (((Tryd.prog.globals[1]?).map (·.type)).map (tabOk Tryd.prog 8)) = some true := by kernel_rfl
    rw [e1] at this
    exact Option.some.inj this
  have k2 : tabOk Tryd.prog 8 ty2 = true := by
    have : (((Tryd.prog.globals[2]?).map (·.type)).map (tabOk Tryd.prog 8)) = some true := by kernel_rfl
    rw [e2] at this
    exact Option.some.inj this
  exact ⟨⟨vals3, by kernel_rfl, laid_var g3 hg0 e3 ht0 hv0 hd0 k3 (by kernel_rfl) rfl⟩, ⟨⟨vals1, by kernel_rfl, laid_var g1 hg1 e1 ht1 hv1 hd1 k1 (by kernel_rfl) rfl⟩, ⟨⟨vals2, by kernel_rfl, laid_var g2 hg2 e2 ht2 hv2 hd2 k2 (by kernel_rfl) rfl⟩, trivial⟩⟩⟩
theorem door_met (os : Os) (args : Array Value) : laidMetH Tryd.prog laidL ((World.doorLaid Tryd.prog 32 os).forCall (fun _ _ => 0) ⟨#[], args, []⟩).memory :=
  laidMetH_of_parts3 (fuel := 8) (laidMet_of_run' 8 (by kernel_rfl) (by kernel_rfl)) (by kernel_rfl) (by kernel_rfl)

set_option maxRecDepth 100000 in
theorem lifted (os : Os) (started : os.Started) (H : Type) (enc : TypeId × Value → H) :
    ReturnsInHanded {} Tryd.checked os 10 .any (fun w args => (Rows.costNamesSpec.pre enc Tryd.prog Tryd.f10 [] false w args ∧ laidMetH Tryd.prog laidL w) ∧ sizedMet enc Tryd.prog Tryd.f10 (OpenSpec.ofChange Rows.costNamesSpec) false w args) (Rows.costNamesSpec.post enc Tryd.prog Tryd.f10 false true false false) := by
  refine returnsInHanded_of_change_and (C := Tryd.checked) (X := fun w _ => laidMetH Tryd.prog laidL w) (fun _ _ _ hh h => h.of_heap hh) own started (by kernel_rfl) Tryd.func10
    (ChangeSpec.witness_shaped (enc := enc) (C := Tryd.checked) (os := os) (X := fun w _ => laidMetH Tryd.prog laidL w) false (World.doorLaid Tryd.prog 32 os) #[] 8 rfl (World.shaped_of_RefB (by kernel_rfl) (by kernel_rfl)) (by kernel_rfl) (by kernel_rfl) (by kernel_rfl) (door_met os _)) ?_
  intro W base args ds gs0 before hval0 hW _ _ hL _
  have hgs := gok_of (of_laid hL)
  have hW' := hW
  obtain ⟨p, q, hA0, hV, rfl, hfz, hnd⟩ := hW
  have hA : DataW.TrodAll enc Tryd.prog W 0 (fun _ => true) true Tryd.f10.params.toList args.toList ds p := hA0
  rw [Tryd.params10] at hA
  obtain ⟨e0, rfl⟩ : args = #[] ∧ ds = [] := by
    cases hargs : args.toList with
    | nil =>
      rw [hargs] at hA
      cases ds with
      | nil => exact ⟨by simpa using hargs, rfl⟩
      | cons d ds => exact hA.elim
    | cons x xs =>
      rw [hargs] at hA
      cases ds <;> exact hA.elim
  subst e0
  obtain ⟨rfl, rfl⟩ := trodVars_none hV
  refine (law W _ (fun _ => False) hgs (fun g cells h => fun hb => hb) (fun _ h => h.elim) repL_nil).mono fun e W' hh => ?_
  obtain ⟨v, u, rfl, rfl, E, R⟩ := hh
  cases R
  exact ⟨_, rfl, post_true laidOut (by kernel_rfl) rfl hW' (Still.below E) (by kernel_rfl) Tryd.underlying4 rfl rfl rfl⟩

theorem over : Rows.CostNamesSaid :=
  OpenClaim.holds_of_wide 10 Tryd.f10 rfl rfl rfl rfl rfl rfl rfl ⟨rfl, rfl, rfl, rfl, rfl⟩ rfl rfl rfl rfl rfl (by kernel_rfl) Tryd.func10 (by kernel_rfl)
    (of_decide_eq_true (by kernel_rfl)) (by unfold Func.isWrapper; first | (rw [if_pos (by decide +kernel)]; kernel_rfl) | (rw [if_neg (by decide +kernel)]; exact ⟨rfl, rfl⟩))
    (fun os started H enc _ => lifted os started H enc)

theorem costNames : Rows.CostNamesCardSaid :=
  Claim7.holds_tied_plain_at .later [] [.data, .data, .data] true (true, "6ff77923a224c71e6a34fbd6265c9f54db9e3ec93dd688ad54fade042591c50b") false
    over (fun _ h => by cases h) (by kernel_rfl) (fun _ h => by cases h) costNames_row_tie rfl ⟨rfl, rfl⟩ (by kernel_rfl) rfl
    (fun f fn hf hfn => by
      obtain rfl : f = 10 := Option.some.inj ((show Tryd.prog.funcNamed "bascule/basculelaw18.CostNames" = some 10 by kernel_rfl).symm.trans hf) |>.symm
      obtain rfl : fn = Tryd.f10 := (Option.some.inj (Tryd.func10.symm.trans hfn)).symm
      exact ⟨by kernel_rfl, fun j t ht => by
        rw [Tryd.params10] at ht
        simp at ht⟩)
    (by kernel_rfl)
#print axioms costNames
end Go.Proofs.YtakdfjdpjggdkaaDoor.costNames
