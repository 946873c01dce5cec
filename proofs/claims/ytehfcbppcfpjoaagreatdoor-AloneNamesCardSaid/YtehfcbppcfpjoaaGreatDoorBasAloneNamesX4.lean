/- Known calls of a closed run, where they stand: states, rounds, ends. No conditions. -/
import Derived.Test.YtehfcbppcfpjoaaGreatDoorBasAloneNamesX3
namespace Go.Proofs.YtehfcbppcfpjoaaGreatDoor.aloneNames
open Go.ChangeShapes Go.WideShapes Go.ChangeAt Go.RowKit Go.Bas
set_option linter.unusedVariables false
set_option maxRecDepth 100000
noncomputable def zX5 (args : List AV) (m : Mem) : TrM := cond (Nat.beq m.nx 3) (.br (onP (args = zA0 ∧ m = zM0)) (.leaf zV0 zE0.m) .bad) (cond (Nat.beq m.nx 23) (.br (onP (args = zA1 ∧ m = zM1)) (.leaf zV1 zW1) .bad) (cond (Nat.beq m.nx 37) (.br (onP (args = zA2 ∧ m = zM2)) (.leaf zV2 zE2.m) .bad) (cond (Nat.beq m.nx 69) (.br (onP (args = zA3 ∧ m = zM3)) (.leaf zV3 zW3) .bad) (cond (Nat.beq m.nx 99) (.br (onP (args = zA4 ∧ m = zM4)) (.leaf zV4 zE4.m) .bad) (cond (Nat.beq m.nx 137) (.br (onP (args = zA5 ∧ m = zM5)) (.leaf zV5 zW5) .bad) (cond (Nat.beq m.nx 163) (.br (onP (args = zA6 ∧ m = zM6)) (.leaf zV6 zE6.m) .bad) (cond (Nat.beq m.nx 169) (.br (onP (args = zA7 ∧ m = zM7)) (.leaf zV7 zE7.m) .bad) (cond (Nat.beq m.nx 179) (.br (onP (args = zA8 ∧ m = zM8)) (.leaf zV8 zE8.m) .bad) (cond (Nat.beq m.nx 195) (.br (onP (args = zA9 ∧ m = zM9)) (.leaf zV9 zW9) .bad) (cond (Nat.beq m.nx 218) (.br (onP (args = zA10 ∧ m = zM10)) (.leaf zV10 zE10.m) .bad) (.bad)))))))))))
theorem zX5_ok : InpOk cR 5 zX5 := fun args m kk w B oC oL ω us h hM hA => by
  obtain ⟨fn, hfn, hbd, hnt, hrs⟩ := fn_is (P := Tryz.prog) (f := 5) (n := 25) (r := 2) (by kernel_rfl)
  refine ⟨call_in hR hfn hbd us w, ?_⟩
  unfold zX5 at h
  rw [ev_cond] at h
  rcases of_cond2 h with ⟨_, h⟩ | ⟨_, h⟩
  · rw [TrM.ev_br] at h
    rcases of_cond2 h with ⟨hc, h9⟩ | ⟨_, h9⟩
    · obtain ⟨rfl, rfl⟩ := of_onP hc
      exact view_norm (i4 := 4) (i5 := 5) zt0 rfl (by kernel_rfl) (by kernel_rfl) (by kernel_rfl) rfl zu0 zw0 kk us h9 hM hA
    · cases h9
  rw [ev_cond] at h
  rcases of_cond2 h with ⟨_, h⟩ | ⟨_, h⟩
  · rw [TrM.ev_br] at h
    rcases of_cond2 h with ⟨hc, h9⟩ | ⟨_, h9⟩
    · obtain ⟨rfl, rfl⟩ := of_onP hc
      exact view_pan (i4 := 24) (i5 := 25) zt1 rfl (by kernel_rfl) (by kernel_rfl) (by kernel_rfl) rfl zu1 rfl zq1 zw1 kk us h9 hM hA
    · cases h9
  rw [ev_cond] at h
  rcases of_cond2 h with ⟨_, h⟩ | ⟨_, h⟩
  · rw [TrM.ev_br] at h
    rcases of_cond2 h with ⟨hc, h9⟩ | ⟨_, h9⟩
    · obtain ⟨rfl, rfl⟩ := of_onP hc
      exact view_norm (i4 := 38) (i5 := 39) zt2 rfl (by kernel_rfl) (by kernel_rfl) (by kernel_rfl) rfl zu2 zw2 kk us h9 hM hA
    · cases h9
  rw [ev_cond] at h
  rcases of_cond2 h with ⟨_, h⟩ | ⟨_, h⟩
  · rw [TrM.ev_br] at h
    rcases of_cond2 h with ⟨hc, h9⟩ | ⟨_, h9⟩
    · obtain ⟨rfl, rfl⟩ := of_onP hc
      exact view_pan (i4 := 70) (i5 := 71) zt3 rfl (by kernel_rfl) (by kernel_rfl) (by kernel_rfl) rfl zu3 rfl zq3 zw3 kk us h9 hM hA
    · cases h9
  rw [ev_cond] at h
  rcases of_cond2 h with ⟨_, h⟩ | ⟨_, h⟩
  · rw [TrM.ev_br] at h
    rcases of_cond2 h with ⟨hc, h9⟩ | ⟨_, h9⟩
    · obtain ⟨rfl, rfl⟩ := of_onP hc
      exact view_norm (i4 := 100) (i5 := 101) zt4 rfl (by kernel_rfl) (by kernel_rfl) (by kernel_rfl) rfl zu4 zw4 kk us h9 hM hA
    · cases h9
  rw [ev_cond] at h
  rcases of_cond2 h with ⟨_, h⟩ | ⟨_, h⟩
  · rw [TrM.ev_br] at h
    rcases of_cond2 h with ⟨hc, h9⟩ | ⟨_, h9⟩
    · obtain ⟨rfl, rfl⟩ := of_onP hc
      exact view_pan (i4 := 138) (i5 := 139) zt5 rfl (by kernel_rfl) (by kernel_rfl) (by kernel_rfl) rfl zu5 rfl zq5 zw5 kk us h9 hM hA
    · cases h9
  rw [ev_cond] at h
  rcases of_cond2 h with ⟨_, h⟩ | ⟨_, h⟩
  · rw [TrM.ev_br] at h
    rcases of_cond2 h with ⟨hc, h9⟩ | ⟨_, h9⟩
    · obtain ⟨rfl, rfl⟩ := of_onP hc
      exact view_dir zx6 rfl zw6 kk us h9 hM hA
    · cases h9
  rw [ev_cond] at h
  rcases of_cond2 h with ⟨_, h⟩ | ⟨_, h⟩
  · rw [TrM.ev_br] at h
    rcases of_cond2 h with ⟨hc, h9⟩ | ⟨_, h9⟩
    · obtain ⟨rfl, rfl⟩ := of_onP hc
      exact view_dir zx7 rfl zw7 kk us h9 hM hA
    · cases h9
  rw [ev_cond] at h
  rcases of_cond2 h with ⟨_, h⟩ | ⟨_, h⟩
  · rw [TrM.ev_br] at h
    rcases of_cond2 h with ⟨hc, h9⟩ | ⟨_, h9⟩
    · obtain ⟨rfl, rfl⟩ := of_onP hc
      exact view_norm (i4 := 180) (i5 := 181) zt8 rfl (by kernel_rfl) (by kernel_rfl) (by kernel_rfl) rfl zu8 zw8 kk us h9 hM hA
    · cases h9
  rw [ev_cond] at h
  rcases of_cond2 h with ⟨_, h⟩ | ⟨_, h⟩
  · rw [TrM.ev_br] at h
    rcases of_cond2 h with ⟨hc, h9⟩ | ⟨_, h9⟩
    · obtain ⟨rfl, rfl⟩ := of_onP hc
      exact view_pan (i4 := 196) (i5 := 197) zt9 rfl (by kernel_rfl) (by kernel_rfl) (by kernel_rfl) rfl zu9 rfl zq9 zw9 kk us h9 hM hA
    · cases h9
  rw [ev_cond] at h
  rcases of_cond2 h with ⟨_, h⟩ | ⟨_, h⟩
  · rw [TrM.ev_br] at h
    rcases of_cond2 h with ⟨hc, h9⟩ | ⟨_, h9⟩
    · obtain ⟨rfl, rfl⟩ := of_onP hc
      exact view_norm (i4 := 219) (i5 := 220) zt10 rfl (by kernel_rfl) (by kernel_rfl) (by kernel_rfl) rfl zu10 zw10 kk us h9 hM hA
    · cases h9
  cases h
noncomputable abbrev lX : List Inp := [(5, zX5)]
noncomputable abbrev cX : Cfg := ⟨Tryz.prog, gmap gs, lookS lS, fun _ => false, lookX lX⟩
theorem hX : cX.Ok := cfg_okX base sumsR (fun s hs => by
  rcases List.mem_cons.1 hs with rfl | hs
  · exact zX5_ok
  cases hs)
theorem t_run (k : AV → Bool) : runF cX 3000 3 [] k false = cond (onP (zA0 = zA0 ∧ zM0 = zM0)) (cond (onP (zA1 = zA1 ∧ zM1 = zM1)) (cond (onP (zA2 = zA2 ∧ zM2 = zM2)) (cond (onP (zA3 = zA3 ∧ zM3 = zM3)) (cond (onP (zA4 = zA4 ∧ zM4 = zM4)) (cond (onP (zA5 = zA5 ∧ zM5 = zM5)) (cond (onP (zA6 = zA6 ∧ zM6 = zM6)) (cond (onP (zA7 = zA7 ∧ zM7 = zM7)) (cond (onP (zA8 = zA8 ∧ zM8 = zM8)) (cond (onP (zA9 = zA9 ∧ zM9 = zM9)) (cond (onP (zA10 = zA10 ∧ zM10 = zM10)) (k (.bool true)) false) false) false) false) false) false) false) false) false) false) false := by kernel_rfl
end Go.Proofs.YtehfcbppcfpjoaaGreatDoor.aloneNames
