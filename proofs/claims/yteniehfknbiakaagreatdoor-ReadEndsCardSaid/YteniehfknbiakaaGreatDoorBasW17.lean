/- ReadEnds: what the row asks of the program, each by itself; ReadEnds: its row holds; ReadEnds: what the card asks of the program, each by itself. -/
import Derived.Test.YteniehfknbiakaaGreatDoorBasW5
import Derived.Test.YteniehfknbiakaaGreatDoorBasW16
import Derived.Test.YteniehfknbiakaaGreatDoorRows
import Derived.JoinedOf
import Derived.Test.YteniehfknbiakaaGreatDoorCards
import Derived.Test.YteniehfknbiakaaGreatDoorTie
import Derived.SevenTiedAt
section
namespace Go.Proofs.YteniehfknbiakaaGreatDoor.readEnds
open Go.ChangeShapes Go.WideShapes Go.ChangeAt Go.RowKit Go.Bas
set_option maxRecDepth 100000
theorem j1 : (Rows.readEndsRow.wf (OpenSpec.ofChange Rows.readEndsSpec)) = true := by kernel_rfl
theorem j2 : (laidOutB Tryz.prog) = true := by kernel_rfl
theorem j3 : (mapsRowed Tryz.prog) = true := by kernel_rfl
theorem j4 : (Tryz.f3.params.all (Tryz.prog.readableRec ·)) = true := by kernel_rfl
theorem j5 : (namedTie Tryz.prog Rows.readEndsRow.named Rows.readEndsSpec.vars) = true := by kernel_rfl
theorem j6 : ((Rows.readEndsRow.stops == [])) = true := by kernel_rfl
theorem j7 : ((Tryz.prog.stops == [])) = true := by kernel_rfl
theorem j8 : ((Rows.readEndsRow.knobs == [])) = true := by kernel_rfl
theorem j9 : ((Tryz.prog.stopKnobs == [])) = true := by kernel_rfl
theorem j10 : ((Rows.readEndsRow.inPlace == Tryz.prog.inPlace 3)) = true := by kernel_rfl
theorem j11 : ((Rows.readEndsRow.unfollowed == Tryz.prog.unfollowed 3)) = true := by kernel_rfl
theorem j12 : ((Rows.readEndsRow.recurses == Tryz.prog.recurses 3)) = true := by kernel_rfl
theorem j13 : ((Rows.readEndsRow.named == Tryz.prog.varsNamed 3)) = true := by kernel_rfl
theorem j14 : ((Rows.readEndsRow.maps == (Tryz.f3.params.toList ++ Rows.readEndsSpec.plain.varTypes Tryz.prog).any (Tryz.prog.mapsRec ·))) = true := by kernel_rfl
theorem j15 : ((Rows.readEndsRow.ifaces == (Tryz.f3.params.toList ++ Rows.readEndsSpec.plain.varTypes Tryz.prog).any (Tryz.prog.ifacesRec ·))) = true := by kernel_rfl
theorem j16 : ((Rows.readEndsRow.mapsOut == Tryz.prog.mapsAmong Tryz.f3.resultTypes.toList)) = true := by kernel_rfl
theorem j17 : ((Rows.readEndsRow.loops == (Tryz.f3.params.toList ++ Rows.readEndsSpec.plain.varTypes Tryz.prog).any (Tryz.prog.loopsFrom ·))) = true := by kernel_rfl
theorem j18 : ((Rows.readEndsRow.wideKeys == (Tryz.f3.params.toList ++ Rows.readEndsSpec.plain.varTypes Tryz.prog ++ Tryz.f3.resultTypes.toList).any (Tryz.prog.wideKeysFrom ·))) = true := by kernel_rfl
theorem j19 : (Rows.readEndsSpec.vars.all (Tryz.prog.varReadable ·)) = true := by kernel_rfl
theorem j20 : (Tryz.f3.resultTypes.all (fun t => Tryz.prog.readableRec t && decide (t < Tryz.prog.types.size))) = true := by kernel_rfl
theorem j21 : ((Rows.readEndsRow.ifacesOut == Tryz.f3.resultTypes.toList.any (Tryz.prog.ifacesRec ·))) = true := by kernel_rfl
theorem j22 : ((Rows.readEndsRow.loopsOut == Tryz.f3.resultTypes.toList.any (Tryz.prog.loopsFrom ·))) = true := by kernel_rfl
theorem j23 : ((Rows.readEndsRow.plainKeys == Tryz.prog.plainKeys)) = true := by kernel_rfl
theorem j24 : (Rows.readEndsRow.shortTexts.isNone) = true := by kernel_rfl
theorem j25 : (Tryz.prog.stopsHeard) = true := by kernel_rfl
theorem j26 : (Tryz.prog.mayEnter) = true := by kernel_rfl
theorem j27 : ((Rows.readEndsRow.lifted == Tryz.prog.liftsFinal)) = true := by kernel_rfl
theorem j28 : ((Tryz.prog.make == some Rows.readEndsRow.make)) = true := by kernel_rfl
theorem j29 : ((Rows.readEndsRow.kinds == (if Rows.readEndsRow.domain.isEmpty then [] else Tryz.f3.params.toList.map fun t => match Tryz.prog.underlying t with | some (.int k) => some k | _ => none))) = true := by kernel_rfl
theorem j30 : ((Rows.readEndsRow.pinned == Rows.readEndsRow.pinnedBy)) = true := by kernel_rfl
theorem j31 : ((Rows.readEndsRow.veiled == (Tryz.f3.params.toList ++ Rows.readEndsSpec.plain.varTypes Tryz.prog ++ Tryz.f3.resultTypes.toList).any (Tryz.prog.veiledRec ·))) = true := by kernel_rfl
theorem j32 : (Rows.readEndsRow.veiledFits Tryz.prog Tryz.f3.params.toList (Tryz.f3.params.toList ++ Rows.readEndsSpec.plain.varTypes Tryz.prog ++ Tryz.f3.resultTypes.toList)) = true := by kernel_rfl
theorem tt {a b : Bool} (h : a = true) (k : b = true) : (a && b) = true := by rw [h, k]; rfl
theorem joined : joinedFacts Tryz.prog 3 Tryz.f3 Rows.readEndsSpec Rows.readEndsRow = true := (tt (tt (tt (tt (tt (tt (tt (tt (tt (tt (tt (tt (tt (tt (tt (tt (tt (tt (tt (tt (tt (tt (tt (tt (tt (tt (tt (tt (tt (tt (tt j1 j2) j3) j4) j5) j6) j7) j8) j9) j10) j11) j12) j13) j14) j15) j16) j17) j18) j19) j20) j21) j22) j23) j24) j25) j26) j27) j28) j29) j30) j31) j32)
end Go.Proofs.YteniehfknbiakaaGreatDoor.readEnds
end
section
namespace Go.Proofs.YteniehfknbiakaaGreatDoor.readEnds
open Go.ChangeShapes Go.WideShapes Go.ChangeAt Go.RowKit Go.Bas Go.Bas.BasZBase Go.Bas.BasZReadEnds
set_option linter.unusedVariables false
set_option linter.unusedSimpArgs false
theorem over : Rows.ReadEndsSaid :=
  OpenClaim.holds_of_wide 3 Tryz.f3 rfl rfl rfl rfl rfl rfl rfl ⟨rfl, rfl, rfl, rfl, rfl⟩ rfl rfl rfl rfl rfl (by kernel_rfl) Tryz.func3 joined
    (of_decide_eq_true (by kernel_rfl)) (by unfold Func.isWrapper; first | (rw [if_pos (by decide +kernel)]; kernel_rfl) | (rw [if_neg (by decide +kernel)]; exact ⟨rfl, rfl⟩))
    (fun os started H enc _ => lifted os started H enc)

end Go.Proofs.YteniehfknbiakaaGreatDoor.readEnds
end
section
namespace Go.Proofs.YteniehfknbiakaaGreatDoor.readEnds
open Go.ChangeShapes Go.WideShapes Go.ChangeAt Go.RowKit Go.Bas Go.Bas.BasZBase Go.Bas.BasZReadEnds
set_option linter.unusedVariables false
set_option linter.unusedSimpArgs false
theorem c_text : Rows.readEndsRow.wfByText (OpenSpec.ofChange Rows.readEndsSpec) = true := by kernel_rfl
theorem c_main : Tryz.checked.prog.mainIs = some (true, ("c65c472a588cd69673f6711932cee58d1356119361029575c9360d1e7d945f4e").toList) := by kernel_rfl
theorem c_looks : true = Tryz.checked.prog.looks [] := by kernel_rfl
theorem c_goes : false = Rows.readEndsRow.goesBy Tryz.checked.prog := by kernel_rfl
theorem c_func : Tryz.prog.funcNamed "bascule/basculelaw26.ReadEnds" = some 3 := by kernel_rfl
theorem c_all : ([3, 24, 27, 28].all fun u => !Tryz.prog.wantsStandIn u) = true := by kernel_rfl
end Go.Proofs.YteniehfknbiakaaGreatDoor.readEnds
end
