/- Known calls of a closed run, where they stand: states, rounds, ends. No conditions. -/
import Derived.Test.YtfbmlbocgeabgabGreatDoorBasGhostNamesX13
namespace Go.Proofs.YtfbmlbocgeabgabGreatDoor.ghostNames
open Go.ChangeShapes Go.WideShapes Go.ChangeAt Go.RowKit Go.Bas
set_option linter.unusedVariables false
set_option maxRecDepth 100000
noncomputable def zX21 (args : List AV) (m : Mem) : TrM := cond (Nat.beq m.nx 21) (.br (onP (args = zA0 ∧ m = zM0)) (.leaf zV0 zE0.m) .bad) (cond (Nat.beq m.nx 3265) (.br (onP (args = zA7 ∧ m = zM7)) (.leaf zV7 zE7.m) .bad) (.bad))
theorem zX21_ok : InpOk cR 21 zX21 := by
  obtain ⟨fn, hfn, hbd, hnt, hrs⟩ := fn_is (P := Tryz.prog) (f := 21) (n := 28) (r := 0) (by kernel_rfl)
  have hr : fn.results.toList = [] := by
    have : ((Tryz.prog.funcs[21]?).map fun fn => fn.results.toList) = some [] := by kernel_rfl
    rw [show Tryz.prog.funcs[21]? = some fn from hfn] at this
    exact Option.some.inj this
  refine inp_of_awp hR hfn hbd rfl rfl rfl fun args m kk h => ?_
  unfold zX21 at h
  rw [ev_cond] at h
  rcases of_cond2 h with ⟨_, h⟩ | ⟨_, h⟩
  · rw [TrM.ev_br] at h
    rcases of_cond2 h with ⟨hc, h9⟩ | ⟨_, h9⟩
    · obtain ⟨rfl, rfl⟩ := of_onP hc
      rw [hnt]
      exact AWp.inp zy0 (.inr rfl) hr rfl ((show resKs cR zE0 [] (fun vs => kk (tupOf vs) zE0.m) false = kk zV0 zE0.m by kernel_rfl).trans h9)
    · cases h9
  rw [ev_cond] at h
  rcases of_cond2 h with ⟨_, h⟩ | ⟨_, h⟩
  · rw [TrM.ev_br] at h
    rcases of_cond2 h with ⟨hc, h9⟩ | ⟨_, h9⟩
    · obtain ⟨rfl, rfl⟩ := of_onP hc
      rw [hnt]
      exact AWp.inp zy7 (.inr rfl) hr rfl ((show resKs cR zE7 [] (fun vs => kk (tupOf vs) zE7.m) false = kk zV7 zE7.m by kernel_rfl).trans h9)
    · cases h9
  cases h
noncomputable def zX13 (args : List AV) (m : Mem) : TrM := cond (Nat.beq m.nx 1735) (.br (onP (args = zA1 ∧ m = zM1)) (.leaf zV1 zE1.m) .bad) (cond (Nat.beq m.nx 3220) (.br (onP (args = zA3 ∧ m = zM3)) (.leaf zV3 zE3.m) .bad) (cond (Nat.beq m.nx 3223) (.br (onP (args = zA4 ∧ m = zM4)) (.leaf zV4 zE4.m) .bad) (cond (Nat.beq m.nx 3227) (.br (onP (args = zA5 ∧ m = zM5)) (.leaf zV5 zE5.m) .bad) (cond (Nat.beq m.nx 3237) (.br (onP (args = zA6 ∧ m = zM6)) (.leaf zV6 zE6.m) .bad) (cond (Nat.beq m.nx 3327) (.br (onP (args = zA8 ∧ m = zM8)) (.leaf zV8 zE8.m) .bad) (cond (Nat.beq m.nx 3437) (.br (onP (args = zA9 ∧ m = zM9)) (.leaf zV9 zE9.m) .bad) (.bad)))))))
theorem zX13_ok : InpOk cR 13 zX13 := by
  obtain ⟨fn, hfn, hbd, hnt, hrs⟩ := fn_is (P := Tryz.prog) (f := 13) (n := 90) (r := 2) (by kernel_rfl)
  have hr : fn.results.toList = [.tmp 6, .tmp 7] := by
    have : ((Tryz.prog.funcs[13]?).map fun fn => fn.results.toList) = some [.tmp 6, .tmp 7] := by kernel_rfl
    rw [show Tryz.prog.funcs[13]? = some fn from hfn] at this
    exact Option.some.inj this
  refine inp_of_awp hR hfn hbd rfl rfl rfl fun args m kk h => ?_
  unfold zX13 at h
  rw [ev_cond] at h
  rcases of_cond2 h with ⟨_, h⟩ | ⟨_, h⟩
  · rw [TrM.ev_br] at h
    rcases of_cond2 h with ⟨hc, h9⟩ | ⟨_, h9⟩
    · obtain ⟨rfl, rfl⟩ := of_onP hc
      rw [hnt]
      exact AWp.inp zy1 (.inl rfl) hr rfl ((show resKs cR zE1 [.tmp 6, .tmp 7] (fun vs => kk (tupOf vs) zE1.m) false = kk zV1 zE1.m by kernel_rfl).trans h9)
    · cases h9
  rw [ev_cond] at h
  rcases of_cond2 h with ⟨_, h⟩ | ⟨_, h⟩
  · rw [TrM.ev_br] at h
    rcases of_cond2 h with ⟨hc, h9⟩ | ⟨_, h9⟩
    · obtain ⟨rfl, rfl⟩ := of_onP hc
      rw [hnt]
      exact AWp.inp zy3 (.inl rfl) hr rfl ((show resKs cR zE3 [.tmp 6, .tmp 7] (fun vs => kk (tupOf vs) zE3.m) false = kk zV3 zE3.m by kernel_rfl).trans h9)
    · cases h9
  rw [ev_cond] at h
  rcases of_cond2 h with ⟨_, h⟩ | ⟨_, h⟩
  · rw [TrM.ev_br] at h
    rcases of_cond2 h with ⟨hc, h9⟩ | ⟨_, h9⟩
    · obtain ⟨rfl, rfl⟩ := of_onP hc
      rw [hnt]
      exact AWp.inp zy4 (.inl rfl) hr rfl ((show resKs cR zE4 [.tmp 6, .tmp 7] (fun vs => kk (tupOf vs) zE4.m) false = kk zV4 zE4.m by kernel_rfl).trans h9)
    · cases h9
  rw [ev_cond] at h
  rcases of_cond2 h with ⟨_, h⟩ | ⟨_, h⟩
  · rw [TrM.ev_br] at h
    rcases of_cond2 h with ⟨hc, h9⟩ | ⟨_, h9⟩
    · obtain ⟨rfl, rfl⟩ := of_onP hc
      rw [hnt]
      exact AWp.inp zy5 (.inl rfl) hr rfl ((show resKs cR zE5 [.tmp 6, .tmp 7] (fun vs => kk (tupOf vs) zE5.m) false = kk zV5 zE5.m by kernel_rfl).trans h9)
    · cases h9
  rw [ev_cond] at h
  rcases of_cond2 h with ⟨_, h⟩ | ⟨_, h⟩
  · rw [TrM.ev_br] at h
    rcases of_cond2 h with ⟨hc, h9⟩ | ⟨_, h9⟩
    · obtain ⟨rfl, rfl⟩ := of_onP hc
      rw [hnt]
      exact AWp.inp zy6 (.inl rfl) hr rfl ((show resKs cR zE6 [.tmp 6, .tmp 7] (fun vs => kk (tupOf vs) zE6.m) false = kk zV6 zE6.m by kernel_rfl).trans h9)
    · cases h9
  rw [ev_cond] at h
  rcases of_cond2 h with ⟨_, h⟩ | ⟨_, h⟩
  · rw [TrM.ev_br] at h
    rcases of_cond2 h with ⟨hc, h9⟩ | ⟨_, h9⟩
    · obtain ⟨rfl, rfl⟩ := of_onP hc
      rw [hnt]
      exact AWp.inp zy8 (.inl rfl) hr rfl ((show resKs cR zE8 [.tmp 6, .tmp 7] (fun vs => kk (tupOf vs) zE8.m) false = kk zV8 zE8.m by kernel_rfl).trans h9)
    · cases h9
  rw [ev_cond] at h
  rcases of_cond2 h with ⟨_, h⟩ | ⟨_, h⟩
  · rw [TrM.ev_br] at h
    rcases of_cond2 h with ⟨hc, h9⟩ | ⟨_, h9⟩
    · obtain ⟨rfl, rfl⟩ := of_onP hc
      rw [hnt]
      exact AWp.inp zy9 (.inl rfl) hr rfl ((show resKs cR zE9 [.tmp 6, .tmp 7] (fun vs => kk (tupOf vs) zE9.m) false = kk zV9 zE9.m by kernel_rfl).trans h9)
    · cases h9
  cases h
noncomputable def zX7 (args : List AV) (m : Mem) : TrM := cond (Nat.beq m.nx 2960) (.br (onP (args = zA2 ∧ m = zM2)) (.leaf zV2 zE2.m) .bad) (cond (Nat.beq m.nx 3546) (.br (onP (args = zA10 ∧ m = zM10)) (.leaf zV10 zE10.m) .bad) (.bad))
theorem zX7_ok : InpOk cR 7 zX7 := by
  obtain ⟨fn, hfn, hbd, hnt, hrs⟩ := fn_is (P := Tryz.prog) (f := 7) (n := 30) (r := 2) (by kernel_rfl)
  have hr : fn.results.toList = [.tmp 4, .tmp 5] := by
    have : ((Tryz.prog.funcs[7]?).map fun fn => fn.results.toList) = some [.tmp 4, .tmp 5] := by kernel_rfl
    rw [show Tryz.prog.funcs[7]? = some fn from hfn] at this
    exact Option.some.inj this
  refine inp_of_awp hR hfn hbd rfl rfl rfl fun args m kk h => ?_
  unfold zX7 at h
  rw [ev_cond] at h
  rcases of_cond2 h with ⟨_, h⟩ | ⟨_, h⟩
  · rw [TrM.ev_br] at h
    rcases of_cond2 h with ⟨hc, h9⟩ | ⟨_, h9⟩
    · obtain ⟨rfl, rfl⟩ := of_onP hc
      rw [hnt]
      exact AWp.inp zy2 (.inl rfl) hr rfl ((show resKs cR zE2 [.tmp 4, .tmp 5] (fun vs => kk (tupOf vs) zE2.m) false = kk zV2 zE2.m by kernel_rfl).trans h9)
    · cases h9
  rw [ev_cond] at h
  rcases of_cond2 h with ⟨_, h⟩ | ⟨_, h⟩
  · rw [TrM.ev_br] at h
    rcases of_cond2 h with ⟨hc, h9⟩ | ⟨_, h9⟩
    · obtain ⟨rfl, rfl⟩ := of_onP hc
      rw [hnt]
      exact AWp.inp zy10 (.inl rfl) hr rfl ((show resKs cR zE10 [.tmp 4, .tmp 5] (fun vs => kk (tupOf vs) zE10.m) false = kk zV10 zE10.m by kernel_rfl).trans h9)
    · cases h9
  cases h
noncomputable abbrev lX : List Inp := [(21, zX21), (13, zX13), (7, zX7)]
noncomputable abbrev cX : Cfg := ⟨Tryz.prog, gmap gs, lookS lS, fun _ => false, lookX lX⟩
theorem hX : cX.Ok := cfg_okX base sumsR (fun s hs => by
  rcases List.mem_cons.1 hs with rfl | hs
  · exact zX21_ok
  rcases List.mem_cons.1 hs with rfl | hs
  · exact zX13_ok
  rcases List.mem_cons.1 hs with rfl | hs
  · exact zX7_ok
  cases hs)
theorem t_run (k : AV → Bool) : runF cX 3000 3 [] k false = cond (onP (zA0 = zA0 ∧ zM0 = zM0)) (cond (onP (zA1 = zA1 ∧ zM1 = zM1)) (cond (onP (zA2 = zA2 ∧ zM2 = zM2)) (cond (onP (zA3 = zA3 ∧ zM3 = zM3)) (cond (onP (zA4 = zA4 ∧ zM4 = zM4)) (cond (onP (zA5 = zA5 ∧ zM5 = zM5)) (cond (onP (zA6 = zA6 ∧ zM6 = zM6)) (cond (onP (zA7 = zA7 ∧ zM7 = zM7)) (cond (onP (zA8 = zA8 ∧ zM8 = zM8)) (cond (onP (zA9 = zA9 ∧ zM9 = zM9)) (cond (onP (zA10 = zA10 ∧ zM10 = zM10)) (k (.bool true)) false) false) false) false) false) false) false) false) false) false) false := by kernel_rfl
end Go.Proofs.YtfbmlbocgeabgabGreatDoor.ghostNames
