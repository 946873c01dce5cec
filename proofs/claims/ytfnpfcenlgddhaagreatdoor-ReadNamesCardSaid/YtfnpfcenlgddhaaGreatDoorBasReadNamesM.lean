/- The law ReadNames returns true: a closed run. No conditions. -/
import Derived.Test.YtfnpfcenlgddhaaGreatDoorRows
import Derived.Test.YtfnpfcenlgddhaaGreatDoorCards
import Derived.Test.YtfnpfcenlgddhaaGreatDoorTie
import Derived.SevenTiedAt
import Derived.Test.YtfnpfcenlgddhaaGreatDoorBasNMm
namespace Go.Proofs.YtfnpfcenlgddhaaGreatDoor.readNames
open Go.ChangeShapes Go.WideShapes Go.ChangeAt Go.RowKit Go.Bas
set_option linter.unusedVariables false
set_option linter.unusedSimpArgs false

theorem base : Base Tryz.prog := ⟨by kernel_rfl, by kernel_rfl⟩
def vals3 : List Value := [.int .i64 1, .int .i64 2, .int .i64 4, .int .i64 8, .int .i64 16, .int .i64 1, .int .i64 3, .int .i64 9, .int .i64 27, .int .i64 81, .int .i64 1, .int .i64 4, .int .i64 16, .int .i64 64, .int .i64 256]
def cells3 : List AV := [.int .i64 1, .int .i64 2, .int .i64 4, .int .i64 8, .int .i64 16, .int .i64 1, .int .i64 3, .int .i64 9, .int .i64 27, .int .i64 81, .int .i64 1, .int .i64 4, .int .i64 16, .int .i64 64, .int .i64 256]
def vals1 : List Value := [.int .u8 0, .int .u8 1, .int .u8 1, .int .u8 1, .int .u8 2, .int .u8 2, .int .u8 2, .int .u8 2, .int .u8 2, .int .u8 3, .int .u8 3, .int .u8 3, .int .u8 4, .int .u8 4, .int .u8 4]
def cells1 : List AV := [.int .u8 0, .int .u8 1, .int .u8 1, .int .u8 1, .int .u8 2, .int .u8 2, .int .u8 2, .int .u8 2, .int .u8 2, .int .u8 3, .int .u8 3, .int .u8 3, .int .u8 4, .int .u8 4, .int .u8 4]
def vals0 : List Value := [.bool false, .bool true, .bool true, .bool false, .bool true, .bool true, .bool false, .bool false, .bool false, .bool true, .bool true, .bool false, .bool true, .bool true, .bool false]
def cells0 : List AV := [.bool false, .bool true, .bool true, .bool false, .bool true, .bool true, .bool false, .bool false, .bool false, .bool true, .bool true, .bool false, .bool true, .bool true, .bool false]
def gs : List (Nat × List AV) := [(3, cells3), (1, cells1), (0, cells0)]
theorem m57_0 (k : AV → Bool) : runF ⟨Tryz.prog, gmap gs, lookS [], fun _ => false⟩ 3000 57 [.agg [.int .u8 3, .int .i64 2, .int .i64 3, .int .u8 1, .int .i64 0, .int .i64 0, .int .i64 4, .int .i64 0, .int .i64 2, .int .i64 0, .int .u64 131072, .int .u64 0]] k false = k (.int .i64 0) := by kernel_rfl
theorem m57_1 (k : AV → Bool) : runF ⟨Tryz.prog, gmap gs, lookS [], fun _ => false⟩ 3000 57 [.agg [.int .u8 0, .int .i64 0, .int .i64 0, .int .u8 0, .int .i64 0, .int .i64 0, .int .i64 0, .int .i64 0, .int .i64 0, .int .i64 0, .int .u64 0, .int .u64 0]] k false = k (.int .i64 40) := by kernel_rfl
theorem m57_2 (k : AV → Bool) : runF ⟨Tryz.prog, gmap gs, lookS [], fun _ => false⟩ 3000 57 [.agg [.int .u8 3, .int .i64 2, .int .i64 3, .int .u8 2, .int .i64 1, .int .i64 0, .int .i64 4, .int .i64 0, .int .i64 2, .int .i64 0, .int .u64 131072, .int .u64 3]] k false = k (.int .i64 0) := by kernel_rfl
def M57 : List (List AV × AV) := [([.agg [.int .u8 3, .int .i64 2, .int .i64 3, .int .u8 1, .int .i64 0, .int .i64 0, .int .i64 4, .int .i64 0, .int .i64 2, .int .i64 0, .int .u64 131072, .int .u64 0]], .int .i64 0), ([.agg [.int .u8 0, .int .i64 0, .int .i64 0, .int .u8 0, .int .i64 0, .int .i64 0, .int .i64 0, .int .i64 0, .int .i64 0, .int .i64 0, .int .u64 0, .int .u64 0]], .int .i64 40), ([.agg [.int .u8 3, .int .i64 2, .int .i64 3, .int .u8 2, .int .i64 1, .int .i64 0, .int .i64 4, .int .i64 0, .int .i64 2, .int .i64 0, .int .u64 131072, .int .u64 3]], .int .i64 0)]
theorem s57 : SumOk Tryz.prog (gmap gs) (57, memo M57) := memo_sum (memo_cons (acalls_eq base sums_nil fun k hk => (m57_0 k).trans hk) (memo_cons (acalls_eq base sums_nil fun k hk => (m57_1 k).trans hk) (memo_cons (acalls_eq base sums_nil fun k hk => (m57_2 k).trans hk) memo_nil)))
theorem m34_0 (k : AV → Bool) : runF ⟨Tryz.prog, gmap gs, lookS [(57, memo M57)], fun _ => false⟩ 3000 34 [.agg [.int .u8 3, .int .i64 2, .int .i64 3, .int .u8 1, .int .i64 0, .int .i64 0, .int .i64 4, .int .i64 0, .int .i64 2, .int .i64 0, .int .u64 131072, .int .u64 0], .agg [.int .u8 1, .int .i64 0, .int .i64 0]] k false = k (.tup [.int .i64 0, .int .i64 0]) := by kernel_rfl
theorem m34_1 (k : AV → Bool) : runF ⟨Tryz.prog, gmap gs, lookS [(57, memo M57)], fun _ => false⟩ 3000 34 [.agg [.int .u8 3, .int .i64 2, .int .i64 3, .int .u8 1, .int .i64 0, .int .i64 0, .int .i64 4, .int .i64 0, .int .i64 2, .int .i64 0, .int .u64 131072, .int .u64 0], .agg [.int .u8 6, .int .i64 0, .int .i64 1]] k false = k (.tup [.int .i64 10, .int .i64 0]) := by kernel_rfl
theorem m34_2 (k : AV → Bool) : runF ⟨Tryz.prog, gmap gs, lookS [(57, memo M57)], fun _ => false⟩ 3000 34 [.agg [.int .u8 3, .int .i64 2, .int .i64 3, .int .u8 1, .int .i64 0, .int .i64 0, .int .i64 4, .int .i64 0, .int .i64 2, .int .i64 0, .int .u64 131072, .int .u64 0], .agg [.int .u8 2, .int .i64 0, .int .i64 0]] k false = k (.tup [.int .i64 1, .int .i64 0]) := by kernel_rfl
theorem m34_3 (k : AV → Bool) : runF ⟨Tryz.prog, gmap gs, lookS [(57, memo M57)], fun _ => false⟩ 3000 34 [.agg [.int .u8 3, .int .i64 2, .int .i64 3, .int .u8 1, .int .i64 0, .int .i64 0, .int .i64 4, .int .i64 0, .int .i64 2, .int .i64 0, .int .u64 131072, .int .u64 0], .agg [.int .u8 10, .int .i64 0, .int .i64 0]] k false = k (.tup [.int .i64 16, .int .i64 0]) := by kernel_rfl
theorem m34_4 (k : AV → Bool) : runF ⟨Tryz.prog, gmap gs, lookS [(57, memo M57)], fun _ => false⟩ 3000 34 [.agg [.int .u8 3, .int .i64 2, .int .i64 3, .int .u8 1, .int .i64 0, .int .i64 0, .int .i64 4, .int .i64 0, .int .i64 2, .int .i64 0, .int .u64 131072, .int .u64 0], .agg [.int .u8 10, .int .i64 0, .int .i64 1]] k false = k (.tup [.int .i64 17, .int .i64 0]) := by kernel_rfl
theorem m34_5 (k : AV → Bool) : runF ⟨Tryz.prog, gmap gs, lookS [(57, memo M57)], fun _ => false⟩ 3000 34 [.agg [.int .u8 3, .int .i64 2, .int .i64 3, .int .u8 1, .int .i64 0, .int .i64 0, .int .i64 4, .int .i64 0, .int .i64 2, .int .i64 0, .int .u64 131072, .int .u64 0], .agg [.int .u8 10, .int .i64 0, .int .i64 2]] k false = k (.tup [.int .i64 18, .int .i64 0]) := by kernel_rfl
theorem m34_6 (k : AV → Bool) : runF ⟨Tryz.prog, gmap gs, lookS [(57, memo M57)], fun _ => false⟩ 3000 34 [.agg [.int .u8 3, .int .i64 2, .int .i64 3, .int .u8 1, .int .i64 0, .int .i64 0, .int .i64 4, .int .i64 0, .int .i64 2, .int .i64 0, .int .u64 131072, .int .u64 0], .agg [.int .u8 10, .int .i64 0, .int .i64 3]] k false = k (.tup [.int .i64 19, .int .i64 0]) := by kernel_rfl
def M34 : List (List AV × AV) := [([.agg [.int .u8 3, .int .i64 2, .int .i64 3, .int .u8 1, .int .i64 0, .int .i64 0, .int .i64 4, .int .i64 0, .int .i64 2, .int .i64 0, .int .u64 131072, .int .u64 0], .agg [.int .u8 1, .int .i64 0, .int .i64 0]], .tup [.int .i64 0, .int .i64 0]), ([.agg [.int .u8 3, .int .i64 2, .int .i64 3, .int .u8 1, .int .i64 0, .int .i64 0, .int .i64 4, .int .i64 0, .int .i64 2, .int .i64 0, .int .u64 131072, .int .u64 0], .agg [.int .u8 6, .int .i64 0, .int .i64 1]], .tup [.int .i64 10, .int .i64 0]), ([.agg [.int .u8 3, .int .i64 2, .int .i64 3, .int .u8 1, .int .i64 0, .int .i64 0, .int .i64 4, .int .i64 0, .int .i64 2, .int .i64 0, .int .u64 131072, .int .u64 0], .agg [.int .u8 2, .int .i64 0, .int .i64 0]], .tup [.int .i64 1, .int .i64 0]), ([.agg [.int .u8 3, .int .i64 2, .int .i64 3, .int .u8 1, .int .i64 0, .int .i64 0, .int .i64 4, .int .i64 0, .int .i64 2, .int .i64 0, .int .u64 131072, .int .u64 0], .agg [.int .u8 10, .int .i64 0, .int .i64 0]], .tup [.int .i64 16, .int .i64 0]), ([.agg [.int .u8 3, .int .i64 2, .int .i64 3, .int .u8 1, .int .i64 0, .int .i64 0, .int .i64 4, .int .i64 0, .int .i64 2, .int .i64 0, .int .u64 131072, .int .u64 0], .agg [.int .u8 10, .int .i64 0, .int .i64 1]], .tup [.int .i64 17, .int .i64 0]), ([.agg [.int .u8 3, .int .i64 2, .int .i64 3, .int .u8 1, .int .i64 0, .int .i64 0, .int .i64 4, .int .i64 0, .int .i64 2, .int .i64 0, .int .u64 131072, .int .u64 0], .agg [.int .u8 10, .int .i64 0, .int .i64 2]], .tup [.int .i64 18, .int .i64 0]), ([.agg [.int .u8 3, .int .i64 2, .int .i64 3, .int .u8 1, .int .i64 0, .int .i64 0, .int .i64 4, .int .i64 0, .int .i64 2, .int .i64 0, .int .u64 131072, .int .u64 0], .agg [.int .u8 10, .int .i64 0, .int .i64 3]], .tup [.int .i64 19, .int .i64 0])]
theorem s34 : SumOk Tryz.prog (gmap gs) (34, memo M34) := memo_sum (memo_cons (acalls_eq base (sums_cons s57 sums_nil) fun k hk => (m34_0 k).trans hk) (memo_cons (acalls_eq base (sums_cons s57 sums_nil) fun k hk => (m34_1 k).trans hk) (memo_cons (acalls_eq base (sums_cons s57 sums_nil) fun k hk => (m34_2 k).trans hk) (memo_cons (acalls_eq base (sums_cons s57 sums_nil) fun k hk => (m34_3 k).trans hk) (memo_cons (acalls_eq base (sums_cons s57 sums_nil) fun k hk => (m34_4 k).trans hk) (memo_cons (acalls_eq base (sums_cons s57 sums_nil) fun k hk => (m34_5 k).trans hk) (memo_cons (acalls_eq base (sums_cons s57 sums_nil) fun k hk => (m34_6 k).trans hk) memo_nil)))))))
theorem m27_0 (k : AV → Bool) : runF ⟨Tryz.prog, gmap gs, lookS [(34, memo M34), (57, memo M57)], fun _ => false⟩ 3000 27 [.agg [.int .u8 3, .int .i64 2, .int .i64 3, .int .u8 1, .int .i64 0, .int .i64 0, .int .i64 4, .int .i64 0, .int .i64 2, .int .i64 0, .int .u64 131072, .int .u64 0], .agg [.int .u8 11, .int .u32 1, .int .u32 7, .int .u32 0]] k false = k (.int .i64 0) := by kernel_rfl
theorem m27_1 (k : AV → Bool) : runF ⟨Tryz.prog, gmap gs, lookS [(34, memo M34), (57, memo M57)], fun _ => false⟩ 3000 27 [.agg [.int .u8 3, .int .i64 2, .int .i64 3, .int .u8 1, .int .i64 0, .int .i64 0, .int .i64 4, .int .i64 0, .int .i64 2, .int .i64 0, .int .u64 131072, .int .u64 0], .agg [.int .u8 9, .int .u32 0, .int .u32 0, .int .u32 2]] k false = k (.int .i64 0) := by kernel_rfl
theorem m27_2 (k : AV → Bool) : runF ⟨Tryz.prog, gmap gs, lookS [(34, memo M34), (57, memo M57)], fun _ => false⟩ 3000 27 [.agg [.int .u8 3, .int .i64 2, .int .i64 3, .int .u8 1, .int .i64 0, .int .i64 0, .int .i64 4, .int .i64 0, .int .i64 2, .int .i64 0, .int .u64 131072, .int .u64 0], .agg [.int .u8 11, .int .u32 0, .int .u32 0, .int .u32 0]] k false = k (.int .i64 10) := by kernel_rfl
theorem m27_3 (k : AV → Bool) : runF ⟨Tryz.prog, gmap gs, lookS [(34, memo M34), (57, memo M57)], fun _ => false⟩ 3000 27 [.agg [.int .u8 3, .int .i64 2, .int .i64 3, .int .u8 2, .int .i64 1, .int .i64 0, .int .i64 4, .int .i64 0, .int .i64 2, .int .i64 0, .int .u64 131072, .int .u64 3], .agg [.int .u8 11, .int .u32 1, .int .u32 7, .int .u32 0]] k false = k (.int .i64 0) := by kernel_rfl
def M27 : List (List AV × AV) := [([.agg [.int .u8 3, .int .i64 2, .int .i64 3, .int .u8 1, .int .i64 0, .int .i64 0, .int .i64 4, .int .i64 0, .int .i64 2, .int .i64 0, .int .u64 131072, .int .u64 0], .agg [.int .u8 11, .int .u32 1, .int .u32 7, .int .u32 0]], .int .i64 0), ([.agg [.int .u8 3, .int .i64 2, .int .i64 3, .int .u8 1, .int .i64 0, .int .i64 0, .int .i64 4, .int .i64 0, .int .i64 2, .int .i64 0, .int .u64 131072, .int .u64 0], .agg [.int .u8 9, .int .u32 0, .int .u32 0, .int .u32 2]], .int .i64 0), ([.agg [.int .u8 3, .int .i64 2, .int .i64 3, .int .u8 1, .int .i64 0, .int .i64 0, .int .i64 4, .int .i64 0, .int .i64 2, .int .i64 0, .int .u64 131072, .int .u64 0], .agg [.int .u8 11, .int .u32 0, .int .u32 0, .int .u32 0]], .int .i64 10), ([.agg [.int .u8 3, .int .i64 2, .int .i64 3, .int .u8 2, .int .i64 1, .int .i64 0, .int .i64 4, .int .i64 0, .int .i64 2, .int .i64 0, .int .u64 131072, .int .u64 3], .agg [.int .u8 11, .int .u32 1, .int .u32 7, .int .u32 0]], .int .i64 0)]
theorem s27 : SumOk Tryz.prog (gmap gs) (27, memo M27) := memo_sum (memo_cons (acalls_eq base (sums_cons s34 (sums_cons s57 sums_nil)) fun k hk => (m27_0 k).trans hk) (memo_cons (acalls_eq base (sums_cons s34 (sums_cons s57 sums_nil)) fun k hk => (m27_1 k).trans hk) (memo_cons (acalls_eq base (sums_cons s34 (sums_cons s57 sums_nil)) fun k hk => (m27_2 k).trans hk) (memo_cons (acalls_eq base (sums_cons s34 (sums_cons s57 sums_nil)) fun k hk => (m27_3 k).trans hk) memo_nil))))
noncomputable abbrev cfg0 : Cfg := ⟨Tryz.prog, gmap gs, lookS [(27, memo M27), (34, memo M34), (57, memo M57)], fun _ => false⟩
theorem t_run : runF cfg0 3000 4 [] (fun v => match v with | .bool b => b | _ => false) false = true := by kernel_rfl
theorem law : ACalls Tryz.prog (gmap gs) 4 [] (fun v => v = .bool true) :=
  (runF_sound (cfg_ok base (sums_cons s27 (sums_cons s34 (sums_cons s57 sums_nil)))) t_run).mono fun v h => by
    cases v <;> first | exact (by subst h; rfl) | cases h

theorem own : ownKnob Tryz.prog.godebug = none := by kernel_rfl
theorem laidOut : laidOutB Tryz.prog = true := by kernel_rfl

def laidL : List (String × DataW Unit) := [("bascule/rank.powers", Rows.laid_bascule_rank_powers), ("bascule/op.objects", Rows.laid_bascule_op_objects), ("bascule/op.writers", Rows.laid_bascule_op_writers)]
theorem g3 : Tryz.prog.globalNamed "bascule/rank.powers" = some 3 := by kernel_rfl
theorem g1 : Tryz.prog.globalNamed "bascule/op.objects" = some 1 := by kernel_rfl
theorem g0 : Tryz.prog.globalNamed "bascule/op.writers" = some 0 := by kernel_rfl
theorem of_laid {W : World} (h : laidMetH Tryz.prog laidL W) : GsOk W gs := by
  rw [MakeChecks.laidMetH_plain _ _ _ (by kernel_rfl)] at h
  obtain ⟨ps, ⟨g0', t0, cs0, f0, p0, q0, hg0, ht0, hv0, hd0, ⟨g1', t1, cs1, f1, p1, q1, hg1, ht1, hv1, hd1, ⟨g2', t2, cs2, f2, p2, q2, hg2, ht2, hv2, hd2, _, _⟩, _⟩, _⟩, _⟩ := h
  obtain ⟨ty3, e3⟩ : ∃ t, (Tryz.prog.globals[3]?).map (·.type) = some t := Option.isSome_iff_exists.1 (by kernel_rfl)
  obtain ⟨ty1, e1⟩ : ∃ t, (Tryz.prog.globals[1]?).map (·.type) = some t := Option.isSome_iff_exists.1 (by kernel_rfl)
  obtain ⟨ty0, e0⟩ : ∃ t, (Tryz.prog.globals[0]?).map (·.type) = some t := Option.isSome_iff_exists.1 (by kernel_rfl)
  have k3 : tabOk Tryz.prog 8 ty3 = true := by
    have : (((Tryz.prog.globals[3]?).map (·.type)).map (tabOk Tryz.prog 8)) = some true := by kernel_rfl
    rw [e3] at this
    exact Option.some.inj this
  have k1 : tabOk Tryz.prog 8 ty1 = true := by
    have : (((Tryz.prog.globals[1]?).map (·.type)).map (tabOk Tryz.prog 8)) = some true := by kernel_rfl
    rw [e1] at this
    exact Option.some.inj this
  have k0 : tabOk Tryz.prog 8 ty0 = true := by
    have : (((Tryz.prog.globals[0]?).map (·.type)).map (tabOk Tryz.prog 8)) = some true := by kernel_rfl
    rw [e0] at this
    exact Option.some.inj this
  exact ⟨⟨vals3, by kernel_rfl, laid_var g3 hg0 e3 ht0 hv0 hd0 k3 (by kernel_rfl) rfl⟩, ⟨⟨vals1, by kernel_rfl, laid_var g1 hg1 e1 ht1 hv1 hd1 k1 (by kernel_rfl) rfl⟩, ⟨⟨vals0, by kernel_rfl, laid_var g0 hg2 e0 ht2 hv2 hd2 k0 (by kernel_rfl) rfl⟩, trivial⟩⟩⟩
theorem door_met (os : Os) (args : Array Value) : laidMetH Tryz.prog laidL ((World.doorLaid Tryz.prog 32 os).forCall (fun _ _ => 0) ⟨#[], args, []⟩).memory :=
  laidMetH_of_parts3 (fuel := 8) (laidMet_of_run' 8 (by kernel_rfl) (by kernel_rfl)) (by kernel_rfl) (by kernel_rfl)

set_option maxRecDepth 100000 in
theorem lifted (os : Os) (started : os.Started) (H : Type) (enc : TypeId × Value → H) :
    ReturnsInHanded {} Tryz.checked os 4 .any (fun w args => (Rows.readNamesSpec.pre enc Tryz.prog Tryz.f4 [] false w args ∧ laidMetH Tryz.prog laidL w) ∧ sizedMet enc Tryz.prog Tryz.f4 (OpenSpec.ofChange Rows.readNamesSpec) false w args) (Rows.readNamesSpec.post enc Tryz.prog Tryz.f4 false true false false) := by
  refine returnsInHanded_of_change_and (C := Tryz.checked) (X := fun w _ => laidMetH Tryz.prog laidL w) (fun _ _ _ hh h => h.of_heap hh) own started (by kernel_rfl) Tryz.func4
    (ChangeSpec.witness_shaped (enc := enc) (C := Tryz.checked) (os := os) (X := fun w _ => laidMetH Tryz.prog laidL w) false (World.doorLaid Tryz.prog 32 os) #[] 8 rfl (World.shaped_of_RefB (by kernel_rfl) (by kernel_rfl)) (by kernel_rfl) (by kernel_rfl) (by kernel_rfl) (door_met os _)) ?_
  intro W base args ds gs0 before hval0 hW _ _ hL _
  have hgs := gok_of (of_laid hL)
  have hW' := hW
  obtain ⟨p, q, hA0, hV, rfl, hfz, hnd⟩ := hW
  have hA : DataW.TrodAll enc Tryz.prog W 0 (fun _ => true) true Tryz.f4.params.toList args.toList ds p := hA0
  rw [Tryz.params4] at hA
  obtain ⟨e0, rfl⟩ : args = #[] ∧ ds = [] := by
    cases hargs : args.toList with
    | nil =>
      rw [hargs] at hA
      cases ds with
      | nil => exact ⟨by simpa using hargs, rfl⟩
      | cons d ds => exact hA.elim
    | cons x xs =>
      rw [hargs] at hA
      cases ds <;> exact hA.elim
  subst e0
  obtain ⟨rfl, rfl⟩ := trodVars_none hV
  refine (law W _ (fun _ => False) hgs (fun g cells h => fun hb => hb) (fun _ h => h.elim) repL_nil).mono fun e W' hh => ?_
  obtain ⟨v, u, rfl, rfl, E, R⟩ := hh
  cases R
  exact ⟨_, rfl, post_true laidOut (by kernel_rfl) rfl hW' (Still.below E) (by kernel_rfl) Tryz.underlying4 rfl rfl rfl⟩

theorem over : Rows.ReadNamesSaid :=
  OpenClaim.holds_of_wide 4 Tryz.f4 rfl rfl rfl rfl rfl rfl rfl ⟨rfl, rfl, rfl, rfl, rfl⟩ rfl rfl rfl rfl rfl (by kernel_rfl) Tryz.func4 (by kernel_rfl)
    (of_decide_eq_true (by kernel_rfl)) (by unfold Func.isWrapper; first | (rw [if_pos (by decide +kernel)]; kernel_rfl) | (rw [if_neg (by decide +kernel)]; exact ⟨rfl, rfl⟩))
    (fun os started H enc _ => lifted os started H enc)

theorem readNames : Rows.ReadNamesCardSaid :=
  Claim7.holds_tied_plain_at .later [] [.data, .data, .data] true (true, "4f3e63c040164cd17fe0c6f6d78d231bdb7ee47cbdaa6950cb59c259f08846f3") true
    over (fun _ h => by cases h) (by kernel_rfl) (fun _ h => by cases h) readNames_row_tie rfl ⟨rfl, rfl⟩ (by kernel_rfl) rfl
    (fun f fn hf hfn => by
      obtain rfl : f = 4 := Option.some.inj ((show Tryz.prog.funcNamed "bascule/basculelaw26.ReadNames" = some 4 by kernel_rfl).symm.trans hf) |>.symm
      obtain rfl : fn = Tryz.f4 := (Option.some.inj (Tryz.func4.symm.trans hfn)).symm
      exact ⟨by kernel_rfl, fun j t ht => by
        rw [Tryz.params4] at ht
        simp at ht⟩)
    (by kernel_rfl)
#print axioms readNames
end Go.Proofs.YtfnpfcenlgddhaaGreatDoor.readNames
