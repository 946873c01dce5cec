/- ThreadRefuses: what the row asks of the program, each by itself. -/
import Derived.Test.YtjepofcbkojibaaGreatDoorBasW5
import Derived.Test.YtjepofcbkojibaaGreatDoorRows
import Derived.JoinedOf
set_option maxRecDepth 100000
set_option maxHeartbeats 4000000
set_option linter.unusedVariables false
set_option linter.unusedSimpArgs false
namespace Go.Proofs.YtjepofcbkojibaaGreatDoor.threadRefuses
open Go.ChangeShapes Go.WideShapes Go.ChangeAt Go.RowKit Go.Bas
theorem j1 : (Rows.threadRefusesRow.wf (OpenSpec.ofChange Rows.threadRefusesSpec)) = true := by kernel_rfl
theorem j2 : (laidOutB Tryz.prog) = true := by kernel_rfl
theorem j3 : (mapsRowed Tryz.prog) = true := by kernel_rfl
theorem j4 : (Tryz.f8.params.all (Tryz.prog.readableRec ·)) = true := by kernel_rfl
theorem j5 : (namedTie Tryz.prog Rows.threadRefusesRow.named Rows.threadRefusesSpec.vars) = true := by kernel_rfl
theorem j6 : ((Rows.threadRefusesRow.stops == [])) = true := by kernel_rfl
theorem j7 : ((Tryz.prog.stops == [])) = true := by kernel_rfl
theorem j8 : ((Rows.threadRefusesRow.knobs == [])) = true := by kernel_rfl
theorem j9 : ((Tryz.prog.stopKnobs == [])) = true := by kernel_rfl
theorem j10 : ((Rows.threadRefusesRow.inPlace == Tryz.prog.inPlace 8)) = true := by kernel_rfl
theorem j11 : ((Rows.threadRefusesRow.unfollowed == Tryz.prog.unfollowed 8)) = true := by kernel_rfl
theorem j12 : ((Rows.threadRefusesRow.recurses == Tryz.prog.recurses 8)) = true := by kernel_rfl
theorem j13 : ((Rows.threadRefusesRow.named == Tryz.prog.varsNamed 8)) = true := by kernel_rfl
theorem j14 : ((Rows.threadRefusesRow.maps == (Tryz.f8.params.toList ++ Rows.threadRefusesSpec.plain.varTypes Tryz.prog).any (Tryz.prog.mapsRec ·))) = true := by kernel_rfl
theorem j15 : ((Rows.threadRefusesRow.ifaces == (Tryz.f8.params.toList ++ Rows.threadRefusesSpec.plain.varTypes Tryz.prog).any (Tryz.prog.ifacesRec ·))) = true := by kernel_rfl
theorem j16 : ((Rows.threadRefusesRow.mapsOut == Tryz.prog.mapsAmong Tryz.f8.resultTypes.toList)) = true := by kernel_rfl
theorem j17 : ((Rows.threadRefusesRow.loops == (Tryz.f8.params.toList ++ Rows.threadRefusesSpec.plain.varTypes Tryz.prog).any (Tryz.prog.loopsFrom ·))) = true := by kernel_rfl
theorem j18 : ((Rows.threadRefusesRow.wideKeys == (Tryz.f8.params.toList ++ Rows.threadRefusesSpec.plain.varTypes Tryz.prog ++ Tryz.f8.resultTypes.toList).any (Tryz.prog.wideKeysFrom ·))) = true := by kernel_rfl
theorem j19 : (Rows.threadRefusesSpec.vars.all (Tryz.prog.varReadable ·)) = true := by kernel_rfl
theorem j20 : (Tryz.f8.resultTypes.all (fun t => Tryz.prog.readableRec t && decide (t < Tryz.prog.types.size))) = true := by kernel_rfl
theorem j21 : ((Rows.threadRefusesRow.ifacesOut == Tryz.f8.resultTypes.toList.any (Tryz.prog.ifacesRec ·))) = true := by kernel_rfl
theorem j22 : ((Rows.threadRefusesRow.loopsOut == Tryz.f8.resultTypes.toList.any (Tryz.prog.loopsFrom ·))) = true := by kernel_rfl
theorem j23 : ((Rows.threadRefusesRow.plainKeys == Tryz.prog.plainKeys)) = true := by kernel_rfl
theorem j24 : (Rows.threadRefusesRow.shortTexts.isNone) = true := by kernel_rfl
theorem j25 : (Tryz.prog.stopsHeard) = true := by kernel_rfl
theorem j26 : (Tryz.prog.mayEnter) = true := by kernel_rfl
theorem j27 : ((Rows.threadRefusesRow.lifted == Tryz.prog.liftsFinal)) = true := by kernel_rfl
theorem j28 : ((Tryz.prog.make == some Rows.threadRefusesRow.make)) = true := by kernel_rfl
theorem j29 : ((Rows.threadRefusesRow.kinds == (if Rows.threadRefusesRow.domain.isEmpty then [] else Tryz.f8.params.toList.map fun t => match Tryz.prog.underlying t with | some (.int k) => some k | _ => none))) = true := by kernel_rfl
theorem j30 : ((Rows.threadRefusesRow.pinned == Rows.threadRefusesRow.pinnedBy)) = true := by kernel_rfl
theorem j31 : ((Rows.threadRefusesRow.veiled == (Tryz.f8.params.toList ++ Rows.threadRefusesSpec.plain.varTypes Tryz.prog ++ Tryz.f8.resultTypes.toList).any (Tryz.prog.veiledRec ·))) = true := by kernel_rfl
theorem j32 : (Rows.threadRefusesRow.veiledFits Tryz.prog Tryz.f8.params.toList (Tryz.f8.params.toList ++ Rows.threadRefusesSpec.plain.varTypes Tryz.prog ++ Tryz.f8.resultTypes.toList)) = true := by kernel_rfl
theorem tt {a b : Bool} (h : a = true) (k : b = true) : (a && b) = true := by rw [h, k]; rfl
theorem joined : joinedFacts Tryz.prog 8 Tryz.f8 Rows.threadRefusesSpec Rows.threadRefusesRow = true := (tt (tt (tt (tt (tt (tt (tt (tt (tt (tt (tt (tt (tt (tt (tt (tt (tt (tt (tt (tt (tt (tt (tt (tt (tt (tt (tt (tt (tt (tt (tt j1 j2) j3) j4) j5) j6) j7) j8) j9) j10) j11) j12) j13) j14) j15) j16) j17) j18) j19) j20) j21) j22) j23) j24) j25) j26) j27) j28) j29) j30) j31) j32)
end Go.Proofs.YtjepofcbkojibaaGreatDoor.threadRefuses
