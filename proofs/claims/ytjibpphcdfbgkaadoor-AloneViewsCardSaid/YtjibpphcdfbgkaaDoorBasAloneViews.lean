/- The law AloneViews returns true, whatever it is given. No conditions. -/
import Derived.Test.YtjibpphcdfbgkaaDoorBasW6
import Derived.Test.YtjibpphcdfbgkaaDoorBasW12
import Derived.Test.YtjibpphcdfbgkaaDoorRows
import Derived.Test.YtjibpphcdfbgkaaDoorCards
import Derived.Test.YtjibpphcdfbgkaaDoorTie
import Derived.SevenTiedAt
namespace Go.Proofs.YtjibpphcdfbgkaaDoor.aloneViews
open Go.ChangeShapes Go.WideShapes Go.ChangeAt Go.RowKit Go.Bas Go.Bas.BasZBase Go.Bas.BasAvLw
set_option linter.unusedVariables false
set_option linter.unusedSimpArgs false

theorem own : ownKnob Tryd.prog.godebug = none := by kernel_rfl
theorem laidOut : laidOutB Tryd.prog = true := by kernel_rfl
theorem flat24 : flatT Tryd.prog 8 24 = some [.i .u8, .i .i64, .i .i64, .i .u8, .i .i64, .i .i64, .i .i64, .i .i64, .i .i64, .i .i64, .i .u64, .i .u64] := by kernel_rfl
def laidL : List (String × DataW Unit) := [("bascule/rank.powers", Rows.laid_bascule_rank_powers)]
def vals0 : List Value := [.int .i64 1, .int .i64 2, .int .i64 4, .int .i64 8, .int .i64 16, .int .i64 1, .int .i64 3, .int .i64 9, .int .i64 27, .int .i64 81, .int .i64 1, .int .i64 4, .int .i64 16, .int .i64 64, .int .i64 256]
theorem g0 : Tryd.prog.globalNamed "bascule/rank.powers" = some 0 := by kernel_rfl
theorem of_laid {W : World} (h : laidMetH Tryd.prog laidL W) : GsOk W gs := by
  rw [MakeChecks.laidMetH_plain _ _ _ (by kernel_rfl)] at h
  obtain ⟨ps, ⟨g0', t0, cs0, f0, p0, q0, hg0, ht0, hv0, hd0, _, _⟩, _⟩ := h
  obtain ⟨ty0, e0⟩ : ∃ t, (Tryd.prog.globals[0]?).map (·.type) = some t := Option.isSome_iff_exists.1 (by kernel_rfl)
  have k0 : tabOk Tryd.prog 8 ty0 = true := by
    have : (((Tryd.prog.globals[0]?).map (·.type)).map (tabOk Tryd.prog 8)) = some true := by kernel_rfl
    rw [e0] at this
    exact Option.some.inj this
  exact ⟨⟨vals0, by kernel_rfl, laid_var g0 hg0 e0 ht0 hv0 hd0 k0 (by kernel_rfl) rfl⟩, trivial⟩
theorem door_met (os : Os) (args : Array Value) : laidMetH Tryd.prog laidL ((World.doorLaid Tryd.prog 32 os).forCall (fun _ _ => 0) ⟨#[], args, []⟩).memory :=
  laidMetH_of_parts3 (fuel := 8) (laidMet_of_run' 8 (by kernel_rfl) (by kernel_rfl)) (by kernel_rfl) (by kernel_rfl)

set_option maxRecDepth 100000 in
theorem lifted (os : Os) (started : os.Started) (H : Type) (enc : TypeId × Value → H) :
    ReturnsInHanded {} Tryd.checked os 3 .any (fun w args => (Rows.aloneViewsSpec.pre enc Tryd.prog Tryd.f3 [] false w args ∧ laidMetH Tryd.prog laidL w) ∧ sizedMet enc Tryd.prog Tryd.f3 (OpenSpec.ofChange Rows.aloneViewsSpec) false w args) (Rows.aloneViewsSpec.post enc Tryd.prog Tryd.f3 false true false false) := by
  refine returnsInHanded_of_change_and (C := Tryd.checked) (X := fun w _ => laidMetH Tryd.prog laidL w) (fun _ _ _ hh h => h.of_heap hh) own started (by kernel_rfl) Tryd.func3
    (ChangeSpec.witness_shaped (enc := enc) (C := Tryd.checked) (os := os) (X := fun w _ => laidMetH Tryd.prog laidL w) false (World.doorLaid Tryd.prog 32 os) #[.agg #[.int .u8 0, .int .i64 0, .int .i64 0, .int .u8 0, .int .i64 0, .int .i64 0, .int .i64 0, .int .i64 0, .int .i64 0, .int .i64 0, .int .u64 0, .int .u64 0], .slice none 0 0] 8 rfl (World.shaped_of_RefB (by kernel_rfl) (by kernel_rfl)) (by kernel_rfl) (by kernel_rfl) (by kernel_rfl) (door_met os _)) ?_
  intro W base args ds gs0 before hval0 hW _ hwt hL _
  have hgs := gok_of (of_laid hL)
  have hval : ∀ (j : Nat) t v, Tryd.f3.params[j]? = some t → args[j]? = some v → Value.okWide Tryd.prog W .any base t v := hval0
  have hW' := hW
  obtain ⟨p, q, hA0, hV, rfl, hfz, hnd⟩ := hW
  have hA : DataW.TrodAll enc Tryd.prog W 0 (fun _ => true) true Tryd.f3.params.toList args.toList ds p := hA0
  rw [Tryd.params3] at hA hval
  obtain ⟨v0, v1, d0, d1, p0, p1, rfl, rfl, rfl, h0, h1⟩ := trodAll_two hA
  obtain ⟨rfl, rfl⟩ := trodVars_none hV
  obtain ⟨l0, rfl, c0⟩ := open_flat Tryd.underlying24 flat24 (by kernel_rfl) (hval 0 24 v0 rfl rfl) h0
  obtain ⟨x0_0, _, rfl, w0_0, x0_1, _, rfl, w0_1, x0_2, _, rfl, w0_2, x0_3, _, rfl, w0_3, x0_4, _, rfl, w0_4, x0_5, _, rfl, w0_5, x0_6, _, rfl, w0_6, x0_7, _, rfl, w0_7, x0_8, _, rfl, w0_8, x0_9, _, rfl, w0_9, x0_10, _, rfl, w0_10, x0_11, _, rfl, w0_11, rfl⟩ := c0
  obtain ⟨x1, w1, m1, r1⟩ := open_flats (ks := [.i .u64, .i .u64, .i .u64, .i .u64]) Tryd.underlying25 (by kernel_rfl) (by kernel_rfl) (by decide) (hval 1 25 v1 rfl rfl) h1
  refine (law ⟨x0_0, x0_1, x0_2, x0_3, x0_4, x0_5, x0_6, x0_7, x0_8, x0_9, x0_10, x0_11⟩ x1 w0_0 w0_1 w0_2 w0_3 w0_4 w0_5 w0_6 w0_7 w0_8 w0_9 w0_10 w0_11 w1 m1 W _ (fun _ => False) hgs (fun g cells h => fun hb => hb) (fun _ h => h.elim) (repL_cons (rep_cells [.int .u8 x0_0, .int .i64 x0_1, .int .i64 x0_2, .int .u8 x0_3, .int .i64 x0_4, .int .i64 x0_5, .int .i64 x0_6, .int .i64 x0_7, .int .i64 x0_8, .int .i64 x0_9, .int .u64 x0_10, .int .u64 x0_11]) (repL_cons r1 repL_nil))).mono fun e W' hh => ?_
  obtain ⟨v, u, rfl, rfl, E, R⟩ := hh
  cases R
  exact ⟨_, rfl, post_true laidOut (by kernel_rfl) rfl hW' (Still.below E) (by kernel_rfl) Tryd.underlying4 rfl rfl rfl⟩

theorem over : Rows.AloneViewsSaid :=
  OpenClaim.holds_of_wide 3 Tryd.f3 rfl rfl rfl rfl rfl rfl rfl ⟨rfl, rfl, rfl, rfl, rfl⟩ rfl rfl rfl rfl rfl (by kernel_rfl) Tryd.func3 (by kernel_rfl)
    (of_decide_eq_true (by kernel_rfl)) (by unfold Func.isWrapper; first | (rw [if_pos (by decide +kernel)]; kernel_rfl) | (rw [if_neg (by decide +kernel)]; exact ⟨rfl, rfl⟩))
    (fun os started H enc _ => lifted os started H enc)

theorem aloneViews : Rows.AloneViewsCardSaid :=
  Claim7.holds_tied_plain_at .later [] [.data] true (true, "67a00ed3748d402f5095702e755cffd44773d5291d371bc41a6c0e34d059f31c") false
    over (fun _ h => by cases h) (by kernel_rfl) (fun _ h => by cases h) aloneViews_row_tie rfl ⟨rfl, rfl⟩ (by kernel_rfl) rfl
    (fun f fn hf hfn => by
      obtain rfl : f = 3 := Option.some.inj ((show Tryd.prog.funcNamed "bascule/basculelaw17.AloneViews" = some 3 by kernel_rfl).symm.trans hf) |>.symm
      obtain rfl : fn = Tryd.f3 := (Option.some.inj (Tryd.func3.symm.trans hfn)).symm
      exact ⟨by kernel_rfl, fun j t ht => by
        rw [Tryd.params3] at ht
        have hm : t ∈ [24, 25] := by
          have := Array.mem_of_getElem? ht
          simp at this ⊢
          first | exact this | (rcases this with h | h <;> simp [h]) | (rcases this with h | h <;> simp [h])
        have hall : ([24, 25].all fun u => !Tryd.prog.wantsStandIn u) = true := by kernel_rfl
        exact (show Tryd.prog.wantsStandIn t = false by simpa using List.all_eq_true.1 hall t hm)⟩)
    (by kernel_rfl)
#print axioms aloneViews
end Go.Proofs.YtjibpphcdfbgkaaDoor.aloneViews
