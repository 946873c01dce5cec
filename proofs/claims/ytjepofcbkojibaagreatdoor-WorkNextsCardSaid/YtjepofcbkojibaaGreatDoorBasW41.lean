/- WorkNexts: what the row asks of the program, each by itself. -/
import Derived.Test.YtjepofcbkojibaaGreatDoorBasW4
import Derived.Test.YtjepofcbkojibaaGreatDoorRows
import Derived.JoinedOf
set_option maxRecDepth 100000
set_option maxHeartbeats 4000000
set_option linter.unusedVariables false
set_option linter.unusedSimpArgs false
namespace Go.Proofs.YtjepofcbkojibaaGreatDoor.workNexts
open Go.ChangeShapes Go.WideShapes Go.ChangeAt Go.RowKit Go.Bas
theorem j1:(Rows.workNextsRow.wf (OpenSpec.ofChange Rows.workNextsSpec))=true:=by kernel_rfl
theorem j2:(laidOutB Tryz.prog)=true:=by kernel_rfl
theorem j3:(mapsRowed Tryz.prog)=true:=by kernel_rfl
theorem j4:(Tryz.f4.params.all (Tryz.prog.readableRec ·))=true:=by kernel_rfl
theorem j5:(namedTie Tryz.prog Rows.workNextsRow.named Rows.workNextsSpec.vars)=true:=by kernel_rfl
theorem j6:((Rows.workNextsRow.stops == []))=true:=by kernel_rfl
theorem j7:((Tryz.prog.stops == []))=true:=by kernel_rfl
theorem j8:((Rows.workNextsRow.knobs == []))=true:=by kernel_rfl
theorem j9:((Tryz.prog.stopKnobs == []))=true:=by kernel_rfl
theorem j10:((Rows.workNextsRow.inPlace == Tryz.prog.inPlace 4))=true:=by kernel_rfl
theorem j11:((Rows.workNextsRow.unfollowed == Tryz.prog.unfollowed 4))=true:=by kernel_rfl
theorem j12:((Rows.workNextsRow.recurses == Tryz.prog.recurses 4))=true:=by kernel_rfl
theorem j13:((Rows.workNextsRow.named == Tryz.prog.varsNamed 4))=true:=by kernel_rfl
theorem j14:((Rows.workNextsRow.maps == (Tryz.f4.params.toList ++ Rows.workNextsSpec.plain.varTypes Tryz.prog).any (Tryz.prog.mapsRec ·)))=true:=by kernel_rfl
theorem j15:((Rows.workNextsRow.ifaces == (Tryz.f4.params.toList ++ Rows.workNextsSpec.plain.varTypes Tryz.prog).any (Tryz.prog.ifacesRec ·)))=true:=by kernel_rfl
theorem j16:((Rows.workNextsRow.mapsOut == Tryz.prog.mapsAmong Tryz.f4.resultTypes.toList))=true:=by kernel_rfl
theorem j17:((Rows.workNextsRow.loops == (Tryz.f4.params.toList ++ Rows.workNextsSpec.plain.varTypes Tryz.prog).any (Tryz.prog.loopsFrom ·)))=true:=by kernel_rfl
theorem j18:((Rows.workNextsRow.wideKeys == (Tryz.f4.params.toList ++ Rows.workNextsSpec.plain.varTypes Tryz.prog ++ Tryz.f4.resultTypes.toList).any (Tryz.prog.wideKeysFrom ·)))=true:=by kernel_rfl
theorem j19:(Rows.workNextsSpec.vars.all (Tryz.prog.varReadable ·))=true:=by kernel_rfl
theorem j20:(Tryz.f4.resultTypes.all (fun t=>Tryz.prog.readableRec t&&decide (t<Tryz.prog.types.size)))=true:=by kernel_rfl
theorem j21:((Rows.workNextsRow.ifacesOut == Tryz.f4.resultTypes.toList.any (Tryz.prog.ifacesRec ·)))=true:=by kernel_rfl
theorem j22:((Rows.workNextsRow.loopsOut == Tryz.f4.resultTypes.toList.any (Tryz.prog.loopsFrom ·)))=true:=by kernel_rfl
theorem j23:((Rows.workNextsRow.plainKeys == Tryz.prog.plainKeys))=true:=by kernel_rfl
theorem j24:(Rows.workNextsRow.shortTexts.isNone)=true:=by kernel_rfl
theorem j25:(Tryz.prog.stopsHeard)=true:=by kernel_rfl
theorem j26:(Tryz.prog.mayEnter)=true:=by kernel_rfl
theorem j27:((Rows.workNextsRow.lifted == Tryz.prog.liftsFinal))=true:=by kernel_rfl
theorem j28:((Tryz.prog.make == some Rows.workNextsRow.make))=true:=by kernel_rfl
theorem j29:((Rows.workNextsRow.kinds == (if Rows.workNextsRow.domain.isEmpty then [] else Tryz.f4.params.toList.map fun t=>match Tryz.prog.underlying t with|some (.int k)=>some k|_=>none)))=true:=by kernel_rfl
theorem j30:((Rows.workNextsRow.pinned == Rows.workNextsRow.pinnedBy))=true:=by kernel_rfl
theorem j31:((Rows.workNextsRow.veiled == (Tryz.f4.params.toList ++ Rows.workNextsSpec.plain.varTypes Tryz.prog ++ Tryz.f4.resultTypes.toList).any (Tryz.prog.veiledRec ·)))=true:=by kernel_rfl
theorem j32:(Rows.workNextsRow.veiledFits Tryz.prog Tryz.f4.params.toList (Tryz.f4.params.toList ++ Rows.workNextsSpec.plain.varTypes Tryz.prog ++ Tryz.f4.resultTypes.toList))=true:=by kernel_rfl
theorem tt {a b:Bool} (h:a=true) (k:b=true):(a&&b)=true:=by rw [h,k];rfl
theorem Apv:joinedFacts Tryz.prog 4 Tryz.f4 Rows.workNextsSpec Rows.workNextsRow=true:=(tt (tt (tt (tt (tt (tt (tt (tt (tt (tt (tt (tt (tt (tt (tt (tt (tt (tt (tt (tt (tt (tt (tt (tt (tt (tt (tt (tt (tt (tt (tt j1 j2) j3) j4) j5) j6) j7) j8) j9) j10) j11) j12) j13) j14) j15) j16) j17) j18) j19) j20) j21) j22) j23) j24) j25) j26) j27) j28) j29) j30) j31) j32)
end Go.Proofs.YtjepofcbkojibaaGreatDoor.workNexts
