/- ReadBegins: what the row asks of the program, each by itself. -/
import Derived.Test.YtjepofcbkojibaaGreatDoorBasW4
import Derived.Test.YtjepofcbkojibaaGreatDoorRows
import Derived.JoinedOf
set_option maxRecDepth 100000
set_option maxHeartbeats 4000000
set_option linter.unusedVariables false
set_option linter.unusedSimpArgs false
namespace Go.Proofs.YtjepofcbkojibaaGreatDoor.readBegins
open Go.ChangeShapes Go.WideShapes Go.ChangeAt Go.RowKit Go.Bas
theorem j1:(Rows.readBeginsRow.wf (OpenSpec.ofChange Rows.readBeginsSpec))=true:=by kernel_rfl
theorem j2:(laidOutB Tryz.prog)=true:=by kernel_rfl
theorem j3:(mapsRowed Tryz.prog)=true:=by kernel_rfl
theorem j4:(Tryz.f3.params.all (Tryz.prog.readableRec ·))=true:=by kernel_rfl
theorem j5:(namedTie Tryz.prog Rows.readBeginsRow.named Rows.readBeginsSpec.vars)=true:=by kernel_rfl
theorem j6:((Rows.readBeginsRow.stops == []))=true:=by kernel_rfl
theorem j7:((Tryz.prog.stops == []))=true:=by kernel_rfl
theorem j8:((Rows.readBeginsRow.knobs == []))=true:=by kernel_rfl
theorem j9:((Tryz.prog.stopKnobs == []))=true:=by kernel_rfl
theorem j10:((Rows.readBeginsRow.inPlace == Tryz.prog.inPlace 3))=true:=by kernel_rfl
theorem j11:((Rows.readBeginsRow.unfollowed == Tryz.prog.unfollowed 3))=true:=by kernel_rfl
theorem j12:((Rows.readBeginsRow.recurses == Tryz.prog.recurses 3))=true:=by kernel_rfl
theorem j13:((Rows.readBeginsRow.named == Tryz.prog.varsNamed 3))=true:=by kernel_rfl
theorem j14:((Rows.readBeginsRow.maps == (Tryz.f3.params.toList ++ Rows.readBeginsSpec.plain.varTypes Tryz.prog).any (Tryz.prog.mapsRec ·)))=true:=by kernel_rfl
theorem j15:((Rows.readBeginsRow.ifaces == (Tryz.f3.params.toList ++ Rows.readBeginsSpec.plain.varTypes Tryz.prog).any (Tryz.prog.ifacesRec ·)))=true:=by kernel_rfl
theorem j16:((Rows.readBeginsRow.mapsOut == Tryz.prog.mapsAmong Tryz.f3.resultTypes.toList))=true:=by kernel_rfl
theorem j17:((Rows.readBeginsRow.loops == (Tryz.f3.params.toList ++ Rows.readBeginsSpec.plain.varTypes Tryz.prog).any (Tryz.prog.loopsFrom ·)))=true:=by kernel_rfl
theorem j18:((Rows.readBeginsRow.wideKeys == (Tryz.f3.params.toList ++ Rows.readBeginsSpec.plain.varTypes Tryz.prog ++ Tryz.f3.resultTypes.toList).any (Tryz.prog.wideKeysFrom ·)))=true:=by kernel_rfl
theorem j19:(Rows.readBeginsSpec.vars.all (Tryz.prog.varReadable ·))=true:=by kernel_rfl
theorem j20:(Tryz.f3.resultTypes.all (fun t=>Tryz.prog.readableRec t&&decide (t<Tryz.prog.types.size)))=true:=by kernel_rfl
theorem j21:((Rows.readBeginsRow.ifacesOut == Tryz.f3.resultTypes.toList.any (Tryz.prog.ifacesRec ·)))=true:=by kernel_rfl
theorem j22:((Rows.readBeginsRow.loopsOut == Tryz.f3.resultTypes.toList.any (Tryz.prog.loopsFrom ·)))=true:=by kernel_rfl
theorem j23:((Rows.readBeginsRow.plainKeys == Tryz.prog.plainKeys))=true:=by kernel_rfl
theorem j24:(Rows.readBeginsRow.shortTexts.isNone)=true:=by kernel_rfl
theorem j25:(Tryz.prog.stopsHeard)=true:=by kernel_rfl
theorem j26:(Tryz.prog.mayEnter)=true:=by kernel_rfl
theorem j27:((Rows.readBeginsRow.lifted == Tryz.prog.liftsFinal))=true:=by kernel_rfl
theorem j28:((Tryz.prog.make == some Rows.readBeginsRow.make))=true:=by kernel_rfl
theorem j29:((Rows.readBeginsRow.kinds == (if Rows.readBeginsRow.domain.isEmpty then [] else Tryz.f3.params.toList.map fun t=>match Tryz.prog.underlying t with|some (.int k)=>some k|_=>none)))=true:=by kernel_rfl
theorem j30:((Rows.readBeginsRow.pinned == Rows.readBeginsRow.pinnedBy))=true:=by kernel_rfl
theorem j31:((Rows.readBeginsRow.veiled == (Tryz.f3.params.toList ++ Rows.readBeginsSpec.plain.varTypes Tryz.prog ++ Tryz.f3.resultTypes.toList).any (Tryz.prog.veiledRec ·)))=true:=by kernel_rfl
theorem j32:(Rows.readBeginsRow.veiledFits Tryz.prog Tryz.f3.params.toList (Tryz.f3.params.toList ++ Rows.readBeginsSpec.plain.varTypes Tryz.prog ++ Tryz.f3.resultTypes.toList))=true:=by kernel_rfl
theorem tt {a b:Bool} (h:a=true) (k:b=true):(a&&b)=true:=by rw [h,k];rfl
theorem Apv:joinedFacts Tryz.prog 3 Tryz.f3 Rows.readBeginsSpec Rows.readBeginsRow=true:=(tt (tt (tt (tt (tt (tt (tt (tt (tt (tt (tt (tt (tt (tt (tt (tt (tt (tt (tt (tt (tt (tt (tt (tt (tt (tt (tt (tt (tt (tt (tt j1 j2) j3) j4) j5) j6) j7) j8) j9) j10) j11) j12) j13) j14) j15) j16) j17) j18) j19) j20) j21) j22) j23) j24) j25) j26) j27) j28) j29) j30) j31) j32)
end Go.Proofs.YtjepofcbkojibaaGreatDoor.readBegins
