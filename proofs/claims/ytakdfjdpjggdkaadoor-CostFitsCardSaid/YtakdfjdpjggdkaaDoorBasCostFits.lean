/- The law CostFits returns true, whatever it is given. No conditions. -/
import Derived.Test.YtakdfjdpjggdkaaDoorRows
import Derived.Test.YtakdfjdpjggdkaaDoorCards
import Derived.Test.YtakdfjdpjggdkaaDoorTie
import Derived.SevenTiedAt
import Derived.Test.YtakdfjdpjggdkaaDoorBasNZ
import Derived.Test.YtakdfjdpjggdkaaDoorBasCost12
namespace Go.Proofs.YtakdfjdpjggdkaaDoor.costFits
open Go.ChangeShapes Go.WideShapes Go.ChangeAt Go.RowKit Go.Bas Go.Bas.BasCBase Go.Bas.BasCost12
set_option linter.unusedVariables false
set_option linter.unusedSimpArgs false

theorem own : ownKnob Tryd.prog.godebug = none := by kernel_rfl
theorem laidOut : laidOutB Tryd.prog = true := by kernel_rfl
theorem flat33 : flatT Tryd.prog 8 33 = some [.i .u8, .i .i64, .i .i64, .i .u8, .i .i64, .i .i64, .i .i64, .i .i64, .i .i64, .i .i64, .i .u64, .i .u64] := by kernel_rfl
def laidL : List (String × DataW Unit) := [("bascule/rank.powers", Rows.laid_bascule_rank_powers), ("bascule/op.objects", Rows.laid_bascule_op_objects), ("bascule/op.writers", Rows.laid_bascule_op_writers)]
def vals3 : List Value := [.int .i64 1, .int .i64 2, .int .i64 4, .int .i64 8, .int .i64 16, .int .i64 1, .int .i64 3, .int .i64 9, .int .i64 27, .int .i64 81, .int .i64 1, .int .i64 4, .int .i64 16, .int .i64 64, .int .i64 256]
theorem g3 : Tryd.prog.globalNamed "bascule/rank.powers" = some 3 := by kernel_rfl
def vals1 : List Value := [.int .u8 0, .int .u8 1, .int .u8 1, .int .u8 1, .int .u8 2, .int .u8 2, .int .u8 2, .int .u8 2, .int .u8 2, .int .u8 3, .int .u8 3, .int .u8 3, .int .u8 4, .int .u8 4, .int .u8 4]
theorem g1 : Tryd.prog.globalNamed "bascule/op.objects" = some 1 := by kernel_rfl
def vals2 : List Value := [.bool false, .bool true, .bool true, .bool false, .bool true, .bool true, .bool false, .bool false, .bool false, .bool true, .bool true, .bool false, .bool true, .bool true, .bool false]
theorem g2 : Tryd.prog.globalNamed "bascule/op.writers" = some 2 := by kernel_rfl
theorem of_laid {W : World} (h : laidMetH Tryd.prog laidL W) : GsOk W gs := by
  rw [MakeChecks.laidMetH_plain _ _ _ (by kernel_rfl)] at h
  obtain ⟨ps, ⟨g0', t0, cs0, f0, p0, q0, hg0, ht0, hv0, hd0, ⟨g1', t1, cs1, f1, p1, q1, hg1, ht1, hv1, hd1, ⟨g2', t2, cs2, f2, p2, q2, hg2, ht2, hv2, hd2, _, _⟩, _⟩, _⟩, _⟩ := h
  obtain ⟨ty3, e3⟩ : ∃ t, (Tryd.prog.globals[3]?).map (·.type) = some t := Option.isSome_iff_exists.1 (by kernel_rfl)
  have k3 : tabOk Tryd.prog 8 ty3 = true := by
    have : (((Tryd.prog.globals[3]?).map (·.type)).map (tabOk Tryd.prog 8)) = some true := by kernel_rfl
    rw [e3] at this
    exact Option.some.inj this
  obtain ⟨ty1, e1⟩ : ∃ t, (Tryd.prog.globals[1]?).map (·.type) = some t := Option.isSome_iff_exists.1 (by kernel_rfl)
  have k1 : tabOk Tryd.prog 8 ty1 = true := by
    have : (((Tryd.prog.globals[1]?).map (·.type)).map (tabOk Tryd.prog 8)) = some true := by kernel_rfl
    rw [e1] at this
    exact Option.some.inj this
  obtain ⟨ty2, e2⟩ : ∃ t, (Tryd.prog.globals[2]?).map (·.type) = some t := Option.isSome_iff_exists.1 (by kernel_rfl)
  have k2 : tabOk Tryd.prog 8 ty2 = true := by
    have : (((Tryd.prog.globals[2]?).map (·.type)).map (tabOk Tryd.prog 8)) = some true := by kernel_rfl
    rw [e2] at this
    exact Option.some.inj this
  exact ⟨⟨vals3, by kernel_rfl, laid_var g3 hg0 e3 ht0 hv0 hd0 k3 (by kernel_rfl) rfl⟩, ⟨⟨vals1, by kernel_rfl, laid_var g1 hg1 e1 ht1 hv1 hd1 k1 (by kernel_rfl) rfl⟩, ⟨⟨vals2, by kernel_rfl, laid_var g2 hg2 e2 ht2 hv2 hd2 k2 (by kernel_rfl) rfl⟩, trivial⟩⟩⟩
theorem door_met (os : Os) (args : Array Value) : laidMetH Tryd.prog laidL ((World.doorLaid Tryd.prog 32 os).forCall (fun _ _ => 0) ⟨#[], args, []⟩).memory :=
  laidMetH_of_parts3 (fuel := 8) (laidMet_of_run' 8 (by kernel_rfl) (by kernel_rfl)) (by kernel_rfl) (by kernel_rfl)

set_option maxRecDepth 100000 in
theorem lifted (os : Os) (started : os.Started) (H : Type) (enc : TypeId × Value → H) :
    ReturnsInHanded {} Tryd.checked os 12 .any (fun w args => (Rows.costFitsSpec.pre enc Tryd.prog Tryd.f12 [] false w args ∧ laidMetH Tryd.prog laidL w) ∧ sizedMet enc Tryd.prog Tryd.f12 (OpenSpec.ofChange Rows.costFitsSpec) false w args) (Rows.costFitsSpec.post enc Tryd.prog Tryd.f12 false true false false) := by
  refine returnsInHanded_of_change_and (C := Tryd.checked) (X := fun w _ => laidMetH Tryd.prog laidL w) (fun _ _ _ hh h => h.of_heap hh) own started (by kernel_rfl) Tryd.func12
    (ChangeSpec.witness_shaped (enc := enc) (C := Tryd.checked) (os := os) (X := fun w _ => laidMetH Tryd.prog laidL w) false (World.doorLaid Tryd.prog 32 os) #[.agg #[.int .u8 0, .int .i64 0, .int .i64 0, .int .u8 0, .int .i64 0, .int .i64 0, .int .i64 0, .int .i64 0, .int .i64 0, .int .i64 0, .int .u64 0, .int .u64 0], .int .i64 0, .int .i64 0] 8 rfl (World.shaped_of_RefB (by kernel_rfl) (by kernel_rfl)) (by kernel_rfl) (by kernel_rfl) (by kernel_rfl) (door_met os _)) ?_
  intro W base args ds gs0 before hval0 hW _ _ hL _
  have hgs := gok_of (of_laid hL)
  have hval : ∀ (j : Nat) t v, Tryd.f12.params[j]? = some t → args[j]? = some v → Value.okWide Tryd.prog W .any base t v := hval0
  have hW' := hW
  obtain ⟨p, q, hA0, hV, rfl, hfz, hnd⟩ := hW
  have hA : DataW.TrodAll enc Tryd.prog W 0 (fun _ => true) true Tryd.f12.params.toList args.toList ds p := hA0
  rw [Tryd.params12] at hA hval
  obtain ⟨v0, v1, v2, d0, d1, d2, p0, p1, p2, rfl, rfl, rfl, h0, h1, h2⟩ := trodAll_three hA
  obtain ⟨rfl, rfl⟩ := trodVars_none hV
  obtain ⟨l0, rfl, c0⟩ := open_flat Tryd.underlying33 flat33 (by kernel_rfl) (hval 0 33 v0 rfl rfl) h0
  obtain ⟨x0_0, _, rfl, w0_0, x0_1, _, rfl, w0_1, x0_2, _, rfl, w0_2, x0_3, _, rfl, w0_3, x0_4, _, rfl, w0_4, x0_5, _, rfl, w0_5, x0_6, _, rfl, w0_6, x0_7, _, rfl, w0_7, x0_8, _, rfl, w0_8, x0_9, _, rfl, w0_9, x0_10, _, rfl, w0_10, x0_11, _, rfl, w0_11, rfl⟩ := c0
  obtain ⟨x1, rfl, rfl, rfl, w1⟩ := open_int Tryd.underlying3 (hval 1 3 v1 rfl rfl) h1
  obtain ⟨x2, rfl, rfl, rfl, w2⟩ := open_int Tryd.underlying3 (hval 2 3 v2 rfl rfl) h2
  refine (lawFits ⟨x0_0, x0_1, x0_2, x0_3, x0_4, x0_5, x0_6, x0_7, x0_8, x0_9, x0_10, x0_11⟩ x1 x2 w0_0 w0_1 w0_2 w0_3 w0_4 w0_5 w0_6 w0_7 w0_8 w0_9 w0_10 w0_11 w1 w2 W _ (fun _ => False) hgs (fun g cells h => fun hb => hb) (fun _ h => h.elim) (repL_cons (rep_cells [.int .u8 x0_0, .int .i64 x0_1, .int .i64 x0_2, .int .u8 x0_3, .int .i64 x0_4, .int .i64 x0_5, .int .i64 x0_6, .int .i64 x0_7, .int .i64 x0_8, .int .i64 x0_9, .int .u64 x0_10, .int .u64 x0_11]) (repL_cons (.int _ _ _) (repL_cons (.int _ _ _) repL_nil)))).mono fun e W' hh => ?_
  obtain ⟨v, u, rfl, rfl, E, R⟩ := hh
  cases R
  exact ⟨_, rfl, post_true laidOut (by kernel_rfl) rfl hW' (Still.below E) (by kernel_rfl) Tryd.underlying4 rfl rfl rfl⟩

theorem over : Rows.CostFitsSaid :=
  OpenClaim.holds_of_wide 12 Tryd.f12 rfl rfl rfl rfl rfl rfl rfl ⟨rfl, rfl, rfl, rfl, rfl⟩ rfl rfl rfl rfl rfl (by kernel_rfl) Tryd.func12 (by kernel_rfl)
    (of_decide_eq_true (by kernel_rfl)) (by unfold Func.isWrapper; first | (rw [if_pos (by decide +kernel)]; kernel_rfl) | (rw [if_neg (by decide +kernel)]; exact ⟨rfl, rfl⟩))
    (fun os started H enc _ => lifted os started H enc)

theorem costFits : Rows.CostFitsCardSaid :=
  Claim7.holds_tied_plain_at .later [] [.data, .data, .data] true (true, "6ff77923a224c71e6a34fbd6265c9f54db9e3ec93dd688ad54fade042591c50b") false
    over (fun _ h => by cases h) (by kernel_rfl) (fun _ h => by cases h) costFits_row_tie rfl ⟨rfl, rfl⟩ (by kernel_rfl) rfl
    (fun f fn hf hfn => by
      obtain rfl : f = 12 := Option.some.inj ((show Tryd.prog.funcNamed "bascule/basculelaw18.CostFits" = some 12 by kernel_rfl).symm.trans hf) |>.symm
      obtain rfl : fn = Tryd.f12 := (Option.some.inj (Tryd.func12.symm.trans hfn)).symm
      exact ⟨by kernel_rfl, fun j t ht => by
        rw [Tryd.params12] at ht
        have hm : t ∈ [3, 33] := by
          have := Array.mem_of_getElem? ht
          simp at this ⊢
          first | exact this | (rcases this with h | h | h <;> simp [h]) | (rcases this with h | h <;> simp [h])
        have hall : ([3, 33].all fun u => !Tryd.prog.wantsStandIn u) = true := by kernel_rfl
        exact (show Tryd.prog.wantsStandIn t = false by simpa using List.all_eq_true.1 hall t hm)⟩)
    (by kernel_rfl)
#print axioms costFits
end Go.Proofs.YtakdfjdpjggdkaaDoor.costFits
