/- The law WorkRises returns true, whatever it is given. No conditions. -/
import Derived.Test.YtckjogkjfhajcaaGreatDoorBasW31
import Derived.Test.YtckjogkjfhajcaaGreatDoorRows
import Derived.Test.YtckjogkjfhajcaaGreatDoorCards
import Derived.Test.YtckjogkjfhajcaaGreatDoorTie
import Derived.SevenTiedAt
namespace Go.Proofs.YtckjogkjfhajcaaGreatDoor.workRises
open Go.ChangeShapes Go.WideShapes Go.ChangeAt Go.RowKit Go.Bas Go.Bas.BasZBase Go.Bas.BasZRises
set_option linter.unusedVariables false
set_option linter.unusedSimpArgs false

theorem own : ownKnob Tryz.prog.godebug = none := by kernel_rfl
theorem laidOut : laidOutB Tryz.prog = true := by kernel_rfl
theorem flat28 : flatT Tryz.prog 8 28 = some [.i .u64, .i .u64, .i .u64, .i .u64] := by kernel_rfl
theorem flat24 : flatT Tryz.prog 8 24 = some [.i .u8, .i .i64, .i .i64, .i .u8, .i .i64, .i .i64, .i .i64, .i .i64, .i .i64, .i .i64, .i .u64, .i .u64] := by kernel_rfl
theorem flat26 : flatT Tryz.prog 8 26 = some [.i .u64, .i .i64, .i .u64, .i .i64] := by kernel_rfl
def laidL : List (String × DataW Unit) := [("math/bits.deBruijn64tab", Rows.laid_math_bits_deBruijn64tab), ("bascule/rank.powers", Rows.laid_bascule_rank_powers), ("bascule/op.objects", Rows.laid_bascule_op_objects), ("bascule/op.writers", Rows.laid_bascule_op_writers)]
def vals2 : List Value := [.int .u8 0, .int .u8 1, .int .u8 56, .int .u8 2, .int .u8 57, .int .u8 49, .int .u8 28, .int .u8 3, .int .u8 61, .int .u8 58, .int .u8 42, .int .u8 50, .int .u8 38, .int .u8 29, .int .u8 17, .int .u8 4, .int .u8 62, .int .u8 47, .int .u8 59, .int .u8 36, .int .u8 45, .int .u8 43, .int .u8 51, .int .u8 22, .int .u8 53, .int .u8 39, .int .u8 33, .int .u8 30, .int .u8 24, .int .u8 18, .int .u8 12, .int .u8 5, .int .u8 63, .int .u8 55, .int .u8 48, .int .u8 27, .int .u8 60, .int .u8 41, .int .u8 37, .int .u8 16, .int .u8 46, .int .u8 35, .int .u8 44, .int .u8 21, .int .u8 52, .int .u8 32, .int .u8 23, .int .u8 11, .int .u8 54, .int .u8 26, .int .u8 40, .int .u8 15, .int .u8 34, .int .u8 20, .int .u8 31, .int .u8 10, .int .u8 25, .int .u8 14, .int .u8 19, .int .u8 9, .int .u8 13, .int .u8 8, .int .u8 7, .int .u8 6]
theorem g2 : Tryz.prog.globalNamed "math/bits.deBruijn64tab" = some 2 := by kernel_rfl
def vals3 : List Value := [.int .i64 1, .int .i64 2, .int .i64 4, .int .i64 8, .int .i64 16, .int .i64 1, .int .i64 3, .int .i64 9, .int .i64 27, .int .i64 81, .int .i64 1, .int .i64 4, .int .i64 16, .int .i64 64, .int .i64 256]
theorem g3 : Tryz.prog.globalNamed "bascule/rank.powers" = some 3 := by kernel_rfl
def vals1 : List Value := [.int .u8 0, .int .u8 1, .int .u8 1, .int .u8 1, .int .u8 2, .int .u8 2, .int .u8 2, .int .u8 2, .int .u8 2, .int .u8 3, .int .u8 3, .int .u8 3, .int .u8 4, .int .u8 4, .int .u8 4]
theorem g1 : Tryz.prog.globalNamed "bascule/op.objects" = some 1 := by kernel_rfl
def vals0 : List Value := [.bool false, .bool true, .bool true, .bool false, .bool true, .bool true, .bool false, .bool false, .bool false, .bool true, .bool true, .bool false, .bool true, .bool true, .bool false]
theorem g0 : Tryz.prog.globalNamed "bascule/op.writers" = some 0 := by kernel_rfl
theorem of_laid {W : World} (h : laidMetH Tryz.prog laidL W) : GsOk W gs := by
  rw [MakeChecks.laidMetH_plain _ _ _ (by kernel_rfl)] at h
  obtain ⟨ps, ⟨g0', t0, cs0, f0, p0, q0, hg0, ht0, hv0, hd0, ⟨g1', t1, cs1, f1, p1, q1, hg1, ht1, hv1, hd1, ⟨g2', t2, cs2, f2, p2, q2, hg2, ht2, hv2, hd2, ⟨g3', t3, cs3, f3, p3, q3, hg3, ht3, hv3, hd3, _, _⟩, _⟩, _⟩, _⟩, _⟩ := h
  obtain ⟨ty2, e2⟩ : ∃ t, (Tryz.prog.globals[2]?).map (·.type) = some t := Option.isSome_iff_exists.1 (by kernel_rfl)
  have k2 : tabOk Tryz.prog 8 ty2 = true := by
    have : (((Tryz.prog.globals[2]?).map (·.type)).map (tabOk Tryz.prog 8)) = some true := by kernel_rfl
    rw [e2] at this
    exact Option.some.inj this
  obtain ⟨ty3, e3⟩ : ∃ t, (Tryz.prog.globals[3]?).map (·.type) = some t := Option.isSome_iff_exists.1 (by kernel_rfl)
  have k3 : tabOk Tryz.prog 8 ty3 = true := by
    have : (((Tryz.prog.globals[3]?).map (·.type)).map (tabOk Tryz.prog 8)) = some true := by kernel_rfl
    rw [e3] at this
    exact Option.some.inj this
  obtain ⟨ty1, e1⟩ : ∃ t, (Tryz.prog.globals[1]?).map (·.type) = some t := Option.isSome_iff_exists.1 (by kernel_rfl)
  have k1 : tabOk Tryz.prog 8 ty1 = true := by
    have : (((Tryz.prog.globals[1]?).map (·.type)).map (tabOk Tryz.prog 8)) = some true := by kernel_rfl
    rw [e1] at this
    exact Option.some.inj this
  obtain ⟨ty0, e0⟩ : ∃ t, (Tryz.prog.globals[0]?).map (·.type) = some t := Option.isSome_iff_exists.1 (by kernel_rfl)
  have k0 : tabOk Tryz.prog 8 ty0 = true := by
    have : (((Tryz.prog.globals[0]?).map (·.type)).map (tabOk Tryz.prog 8)) = some true := by kernel_rfl
    rw [e0] at this
    exact Option.some.inj this
  exact ⟨⟨vals0, by kernel_rfl, laid_var g0 hg3 e0 ht3 hv3 hd3 k0 (by kernel_rfl) rfl⟩, ⟨⟨vals1, by kernel_rfl, laid_var g1 hg2 e1 ht2 hv2 hd2 k1 (by kernel_rfl) rfl⟩, ⟨⟨vals2, by kernel_rfl, laid_var g2 hg0 e2 ht0 hv0 hd0 k2 (by kernel_rfl) rfl⟩, ⟨⟨vals3, by kernel_rfl, laid_var g3 hg1 e3 ht1 hv1 hd1 k3 (by kernel_rfl) rfl⟩, trivial⟩⟩⟩⟩
theorem door_met (os : Os) (args : Array Value) : laidMetH Tryz.prog laidL ((World.doorLaid Tryz.prog 32 os).forCall (fun _ _ => 0) ⟨#[], args, []⟩).memory :=
  laidMetH_of_parts3 (fuel := 8) (laidMet_of_run' 8 (by kernel_rfl) (by kernel_rfl)) (by kernel_rfl) (by kernel_rfl)

set_option maxRecDepth 100000 in
theorem lifted (os : Os) (started : os.Started) (H : Type) (enc : TypeId × Value → H) :
    ReturnsInHanded {} Tryz.checked os 3 .any (fun w args => (Rows.workRisesSpec.pre enc Tryz.prog Tryz.f3 [] false w args ∧ laidMetH Tryz.prog laidL w) ∧ sizedMet enc Tryz.prog Tryz.f3 (OpenSpec.ofChange Rows.workRisesSpec) false w args) (Rows.workRisesSpec.post enc Tryz.prog Tryz.f3 false true false false) := by
  refine returnsInHanded_of_change_and (C := Tryz.checked) (X := fun w _ => laidMetH Tryz.prog laidL w) (fun _ _ _ hh h => h.of_heap hh) own started (by kernel_rfl) Tryz.func3
    (ChangeSpec.witness_shaped (enc := enc) (C := Tryz.checked) (os := os) (X := fun w _ => laidMetH Tryz.prog laidL w) false (World.doorLaid Tryz.prog 32 os) #[.agg #[.int .u8 0, .int .i64 0, .int .i64 0, .int .u8 0, .int .i64 0, .int .i64 0, .int .i64 0, .int .i64 0, .int .i64 0, .int .i64 0, .int .u64 0, .int .u64 0], .agg #[.int .u64 0, .int .i64 0, .int .u64 0, .int .i64 0], .agg #[.int .u64 0, .int .u64 0, .int .u64 0, .int .u64 0], .agg #[.int .u64 0, .int .u64 0, .int .u64 0, .int .u64 0]] 8 rfl (World.shaped_of_RefB (by kernel_rfl) (by kernel_rfl)) (by kernel_rfl) (by kernel_rfl) (by kernel_rfl) (door_met os _)) ?_
  intro W base args ds gs0 before hval0 hW _ _ hL _
  have hgs := gok_of (of_laid hL)
  have hval : ∀ (j : Nat) t v, Tryz.f3.params[j]? = some t → args[j]? = some v → Value.okWide Tryz.prog W .any base t v := hval0
  have hW' := hW
  obtain ⟨p, q, hA0, hV, rfl, hfz, hnd⟩ := hW
  have hA : DataW.TrodAll enc Tryz.prog W 0 (fun _ => true) true Tryz.f3.params.toList args.toList ds p := hA0
  rw [Tryz.params3] at hA hval
  obtain ⟨v0, v1, v2, v3, d0, d1, d2, d3, p0, p1, p2, p3, rfl, rfl, rfl, h0, h1, h2, h3⟩ := trodAll_four hA
  obtain ⟨rfl, rfl⟩ := trodVars_none hV
  obtain ⟨l0, rfl, c0⟩ := open_flat Tryz.underlying24 flat24 (by kernel_rfl) (hval 0 24 v0 rfl rfl) h0
  obtain ⟨x0_0, _, rfl, w0_0, x0_1, _, rfl, w0_1, x0_2, _, rfl, w0_2, x0_3, _, rfl, w0_3, x0_4, _, rfl, w0_4, x0_5, _, rfl, w0_5, x0_6, _, rfl, w0_6, x0_7, _, rfl, w0_7, x0_8, _, rfl, w0_8, x0_9, _, rfl, w0_9, x0_10, _, rfl, w0_10, x0_11, _, rfl, w0_11, rfl⟩ := c0
  obtain ⟨l1, rfl, c1⟩ := open_flat Tryz.underlying26 flat26 (by kernel_rfl) (hval 1 26 v1 rfl rfl) h1
  obtain ⟨x1_0, _, rfl, w1_0, x1_1, _, rfl, w1_1, x1_2, _, rfl, w1_2, x1_3, _, rfl, w1_3, rfl⟩ := c1
  obtain ⟨l2, rfl, c2⟩ := open_flat Tryz.underlying28 flat28 (by kernel_rfl) (hval 2 28 v2 rfl rfl) h2
  obtain ⟨x2_0, _, rfl, w2_0, x2_1, _, rfl, w2_1, x2_2, _, rfl, w2_2, x2_3, _, rfl, w2_3, rfl⟩ := c2
  obtain ⟨l3, rfl, c3⟩ := open_flat Tryz.underlying28 flat28 (by kernel_rfl) (hval 3 28 v3 rfl rfl) h3
  obtain ⟨x3_0, _, rfl, w3_0, x3_1, _, rfl, w3_1, x3_2, _, rfl, w3_2, x3_3, _, rfl, w3_3, rfl⟩ := c3
  refine (law ⟨x0_0, x0_1, x0_2, x0_3, x0_4, x0_5, x0_6, x0_7, x0_8, x0_9, x0_10, x0_11⟩ ⟨x1_0, x1_1, x1_2, x1_3⟩ ⟨x2_0, x2_1, x2_2, x2_3⟩ ⟨x3_0, x3_1, x3_2, x3_3⟩ w0_0 w0_1 w0_2 w0_3 w0_4 w0_5 w0_6 w0_7 w0_8 w0_9 w0_10 w0_11 w1_0 w1_1 w1_2 w1_3 w2_0 w2_1 w2_2 w2_3 w3_0 w3_1 w3_2 w3_3 W _ (fun _ => False) hgs (fun g cells h => fun hb => hb) (fun _ h => h.elim) (repL_cons (rep_cells [.int .u8 x0_0, .int .i64 x0_1, .int .i64 x0_2, .int .u8 x0_3, .int .i64 x0_4, .int .i64 x0_5, .int .i64 x0_6, .int .i64 x0_7, .int .i64 x0_8, .int .i64 x0_9, .int .u64 x0_10, .int .u64 x0_11]) (repL_cons (rep_cells [.int .u64 x1_0, .int .i64 x1_1, .int .u64 x1_2, .int .i64 x1_3]) (repL_cons (rep_cells [.int .u64 x2_0, .int .u64 x2_1, .int .u64 x2_2, .int .u64 x2_3]) (repL_cons (rep_cells [.int .u64 x3_0, .int .u64 x3_1, .int .u64 x3_2, .int .u64 x3_3]) repL_nil))))).mono fun e W' hh => ?_
  obtain ⟨v, u, rfl, rfl, E, R⟩ := hh
  cases R
  exact ⟨_, rfl, post_true laidOut (by kernel_rfl) rfl hW' (Still.below E) (by kernel_rfl) Tryz.underlying4 rfl rfl rfl⟩

theorem over : Rows.WorkRisesSaid :=
  OpenClaim.holds_of_wide 3 Tryz.f3 rfl rfl rfl rfl rfl rfl rfl ⟨rfl, rfl, rfl, rfl, rfl⟩ rfl rfl rfl rfl rfl (by kernel_rfl) Tryz.func3 (by kernel_rfl)
    (of_decide_eq_true (by kernel_rfl)) (by unfold Func.isWrapper; first | (rw [if_pos (by decide +kernel)]; kernel_rfl) | (rw [if_neg (by decide +kernel)]; exact ⟨rfl, rfl⟩))
    (fun os started H enc _ => lifted os started H enc)

theorem workRises : Rows.WorkRisesCardSaid :=
  Claim7.holds_tied_plain_at .later [] [.data, .data, .data, .data] true (true, "ed9b5c2d70104c040a4490030b889294bd81bb9d640e87c04d34f46225505f61") true
    over (fun _ h => by cases h) (by kernel_rfl) (fun _ h => by cases h) workRises_row_tie rfl ⟨rfl, rfl⟩ (by kernel_rfl) rfl
    (fun f fn hf hfn => by
      obtain rfl : f = 3 := Option.some.inj ((show Tryz.prog.funcNamed "bascule/basculelaw25.WorkRises" = some 3 by kernel_rfl).symm.trans hf) |>.symm
      obtain rfl : fn = Tryz.f3 := (Option.some.inj (Tryz.func3.symm.trans hfn)).symm
      exact ⟨by kernel_rfl, fun j t ht => by
        rw [Tryz.params3] at ht
        have hm : t ∈ [24, 26, 28] := by
          have := Array.mem_of_getElem? ht
          simp at this ⊢
          first | exact this | (rcases this with h | h | h | h <;> simp [h]) | (rcases this with h | h | h <;> simp [h])
        have hall : ([24, 26, 28].all fun u => !Tryz.prog.wantsStandIn u) = true := by kernel_rfl
        exact (show Tryz.prog.wantsStandIn t = false by simpa using List.all_eq_true.1 hall t hm)⟩)
    (by kernel_rfl)
#print axioms workRises
end Go.Proofs.YtckjogkjfhajcaaGreatDoor.workRises
