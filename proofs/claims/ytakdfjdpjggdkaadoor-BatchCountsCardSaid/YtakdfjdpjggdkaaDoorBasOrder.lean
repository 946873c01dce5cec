/- The laws BatchCounts and BatchOrder: a loop's body, and the trees. -/
import Derived.Test.YtakdfjdpjggdkaaDoorBasCounts2
import Derived.Test.YtakdfjdpjggdkaaDoorBasDAlive
namespace Go.Bas.BasOrder
open Go.RowKit Go.Proofs
open Go.Bas.BasDBase Go.Bas.BasDChoose Go.Bas.BasDChoose2 Go.Bas.BasCounts Go.Bas.BasCounts2
set_option maxRecDepth 100000
set_option maxHeartbeats 4000000
set_option linter.unusedVariables false
set_option linter.unusedSimpArgs false
def I_bo (x : Int) (ok : Bool) (n : Int) (s : Int) (l : Int) (k0 : Int) : St := ⟨fill 56 [(0, .int .u64 x), (3, .bool ok), (4, .int .i64 n), (5, .int .u64 s), (6, .int .i64 l), (7, .int .i64 k0)], [], ⟨[], 0, []⟩⟩
noncomputable def P_bo {Ω : Type} (st : St) (g : (Int) → (Bool) → (Int) → (Int) → (Int) → (Int) → Ω) (z : Ω) : Ω := match lget st.tmps 0, lget st.tmps 3, lget st.tmps 4, lget st.tmps 5, lget st.tmps 6, lget st.tmps 7, st.ds, st.m with
  | .int .u64 x, .bool ok, .int .i64 n, .int .u64 s, .int .i64 l, .int .i64 k0, [], ⟨[], z1, []⟩ => cond (Nat.beq st.tmps.length 56 && (Nat.beq z1 0 && (true))) (g x ok n s l k0) z
  | _, _, _, _, _, _, _, _ => z
theorem P_bo_ok {C : Cfg} {c : Code} {G : (Int) → (Bool) → (Int) → (Int) → (Int) → (Int) → (Ex → St → Bool) → Bool} (hG : ∀ x ok n s l k0 k, G x ok n s l k0 k = true → AWq C c (I_bo x ok n s l k0) (fun e s => k e s = true)) : ∀ st k, P_bo st (fun x ok n s l k0 => G x ok n s l k0 k) false = true → AWq C c st (fun e s => k e s = true) := by
  intro st k h
  unfold P_bo at h
  split at h
  · rename_i q0 q1 q2 q3 q4 q5 hd hm
    rcases of_cond2 h with ⟨hb, h2⟩ | ⟨_, h2⟩
    · simp only [Bool.and_eq_true, and_true, decide_eq_true_eq, beq_iff] at hb
      obtain ⟨hb0, hb1⟩ := hb
      subst hb1
      exact AWq.less (Less.fill hb0 (AllL_cons q0 (AllL_cons q1 (AllL_cons q2 (AllL_cons q3 (AllL_cons q4 (AllL_cons q5 AllL_nil)))))) hd hm) (hG _ _ _ _ _ _ _ h2)
    · cases h2
  · cases h
theorem P_bo_okP {C : Cfg} {c : Code} {G : (Int) → (Bool) → (Int) → (Int) → (Int) → (Int) → (Ex → St → Bool) → Bool} (hG : ∀ x ok n s l k0 k, G x ok n s l k0 k = true → AWp C none c (I_bo x ok n s l k0) (fun e s => k e s = true)) : ∀ st k, P_bo st (fun x ok n s l k0 => G x ok n s l k0 k) false = true → AWp C none c st (fun e s => k e s = true) := by
  intro st k h
  unfold P_bo at h
  split at h
  · rename_i q0 q1 q2 q3 q4 q5 hd hm
    rcases of_cond2 h with ⟨hb, h2⟩ | ⟨_, h2⟩
    · simp only [Bool.and_eq_true, and_true, decide_eq_true_eq, beq_iff] at hb
      obtain ⟨hb0, hb1⟩ := hb
      subst hb1
      exact AWp.less (LessS.fill hb0 (AllL_cons q0 (AllL_cons q1 (AllL_cons q2 (AllL_cons q3 (AllL_cons q4 (AllL_cons q5 AllL_nil)))))) hd hm) (hG _ _ _ _ _ _ _ h2)
    · cases h2
  · cases h
noncomputable def G_bo (x : Int) (ok : Bool) (n s l k0 : Int) (k : Ex → St → Bool) : Bool := cond (lt64 x && (eqj n (popS x) && (eqj s 0 && (eqj l (-1) && eqj k0 0)))) (k (.exit 0) ⟨fill 56 [(0, .int .u64 x), (3, .bool ok), (5, .int .u64 x)], [], ⟨[], 0, []⟩⟩) false
noncomputable def F_bo : LF := fun st k => P_bo st (fun x ok n s l k0 => G_bo x ok n s l k0 k) false
def S_alive : Sum := (19, fun args => match args with | [] => some (true, .bool true) | _ => none)

theorem t_bob (P : Int → Int) (pr : Int → Bool) (x : Int) (ok : Bool) (n s l k0 : Int) (k : Ex → St → Bool) : run (cfg [S_alive, (SA_size P pr), S_th]) 100 none none (loopAt (fcode Tryd.prog 6) [0]) (I_bo x ok n s l k0) (fun e s => k e (keepS [0, 3, 4, 5, 6, 7] s)) false = ((bif decide (k0 < n) then ((BasCounts.lt64 x) && (bif (!decide ((BasCounts.thErr x k0) = 0)) then (k Ex.ret (St.mk [(AV.int IntKind.u64 x), AV.any, AV.any, (AV.bool ok), (AV.int IntKind.i64 n), (AV.int IntKind.u64 s), (AV.int IntKind.i64 l), (AV.int IntKind.i64 k0), AV.any, AV.any, AV.any, AV.any, AV.any, AV.any, AV.any, AV.any, AV.any, AV.any, AV.any, AV.any, AV.any, AV.any, AV.any, AV.any, AV.any, AV.any, AV.any, AV.any, AV.any, AV.any, AV.any, AV.any, AV.any, AV.any, AV.any, AV.any, AV.any, AV.any, AV.any, AV.any, AV.any, AV.any, AV.any, AV.any, AV.any, AV.any, AV.any, AV.any, AV.any, AV.any, AV.any, AV.any, AV.any, AV.any, AV.any, AV.any] [] (Mem.mk [] 0 []))) else (bif decide ((bif (BasCounts.ltk k0 x) then (BasCounts.nthI x k0) else 0) ≤ l) then (k Ex.ret (St.mk [(AV.int IntKind.u64 x), AV.any, AV.any, (AV.bool ok), (AV.int IntKind.i64 n), (AV.int IntKind.u64 s), (AV.int IntKind.i64 l), (AV.int IntKind.i64 k0), AV.any, AV.any, AV.any, AV.any, AV.any, AV.any, AV.any, AV.any, AV.any, AV.any, AV.any, AV.any, AV.any, AV.any, AV.any, AV.any, AV.any, AV.any, AV.any, AV.any, AV.any, AV.any, AV.any, AV.any, AV.any, AV.any, AV.any, AV.any, AV.any, AV.any, AV.any, AV.any, AV.any, AV.any, AV.any, AV.any, AV.any, AV.any, AV.any, AV.any, AV.any, AV.any, AV.any, AV.any, AV.any, AV.any, AV.any, AV.any] [] (Mem.mk [] 0 []))) else (bif decide ((bif (BasCounts.ltk k0 x) then (BasCounts.nthI x k0) else 0) > 63) then (k Ex.ret (St.mk [(AV.int IntKind.u64 x), AV.any, AV.any, (AV.bool ok), (AV.int IntKind.i64 n), (AV.int IntKind.u64 s), (AV.int IntKind.i64 l), (AV.int IntKind.i64 k0), AV.any, AV.any, AV.any, AV.any, AV.any, AV.any, AV.any, AV.any, AV.any, AV.any, AV.any, AV.any, AV.any, AV.any, AV.any, AV.any, AV.any, AV.any, AV.any, AV.any, AV.any, AV.any, AV.any, AV.any, AV.any, AV.any, AV.any, AV.any, AV.any, AV.any, AV.any, AV.any, AV.any, AV.any, AV.any, AV.any, AV.any, AV.any, AV.any, AV.any, AV.any, AV.any, AV.any, AV.any, AV.any, AV.any, AV.any, AV.any] [] (Mem.mk [] 0 []))) else (bif decide ((bif (BasCounts.ltk k0 x) then (BasCounts.nthI x k0) else 0) < 0) then Bool.false else (k Ex.normal (St.mk [(AV.int IntKind.u64 x), AV.any, AV.any, (AV.bool ok), (AV.int IntKind.i64 n), (AV.int IntKind.u64 (IntKind.wrap IntKind.u64 (s + (ishl IntKind.u64 1 (bif (BasCounts.ltk k0 x) then (BasCounts.nthI x k0) else 0))))), (AV.int IntKind.i64 (bif (BasCounts.ltk k0 x) then (BasCounts.nthI x k0) else 0)), (AV.int IntKind.i64 (IntKind.wrap IntKind.i64 (k0 + 1))), AV.any, AV.any, AV.any, AV.any, AV.any, AV.any, AV.any, AV.any, AV.any, AV.any, AV.any, AV.any, AV.any, AV.any, AV.any, AV.any, AV.any, AV.any, AV.any, AV.any, AV.any, AV.any, AV.any, AV.any, AV.any, AV.any, AV.any, AV.any, AV.any, AV.any, AV.any, AV.any, AV.any, AV.any, AV.any, AV.any, AV.any, AV.any, AV.any, AV.any, AV.any, AV.any, AV.any, AV.any, AV.any, AV.any, AV.any, AV.any] [] (Mem.mk [] 0 [])))))))) else (k (Ex.exit 0) (St.mk [(AV.int IntKind.u64 x), AV.any, AV.any, (AV.bool ok), (AV.int IntKind.i64 n), (AV.int IntKind.u64 s), (AV.int IntKind.i64 l), (AV.int IntKind.i64 k0), AV.any, AV.any, AV.any, AV.any, AV.any, AV.any, AV.any, AV.any, AV.any, AV.any, AV.any, AV.any, AV.any, AV.any, AV.any, AV.any, AV.any, AV.any, AV.any, AV.any, AV.any, AV.any, AV.any, AV.any, AV.any, AV.any, AV.any, AV.any, AV.any, AV.any, AV.any, AV.any, AV.any, AV.any, AV.any, AV.any, AV.any, AV.any, AV.any, AV.any, AV.any, AV.any, AV.any, AV.any, AV.any, AV.any, AV.any, AV.any] [] (Mem.mk [] 0 []))))) := by kernel_rfl
theorem t_bo (P : Int → Int) (pr : Int → Bool) (x : Int) (k : AV → Bool) : runFM (cfg [S_alive, (SA_size P pr), S_th]) 300 6 [F_bo] [.int .u64 x] k = (((pr x) && (bif decide ((P x) < 0) then (k (AV.bool Bool.false)) else (bif decide ((P x) > 64) then (k (AV.bool Bool.false)) else (((BasCounts.lt64 x) && ((BasCounts.eqj (P x) (popS x)) && Bool.true)) && (k (AV.bool (decide (x = x))))))))) := by kernel_rfl
theorem t_bc (P : Int → Int) (pr ps : Int → Bool) (x n : Int) (k : AV → Bool) : runF (cfg [S_th, S_rth, (SA_size P pr), (SA_rsize P ps)]) 300 3 [.int .u64 x, .int .i64 n] k false = (((BasCounts.lt64 x) && ((BasCounts.lt64 x) && ((pr x) && ((ps x) && (bif decide ((P x) = (P x)) then (bif decide ((bif (BasCounts.ltk n x) then (BasCounts.nthI x n) else 0) = (bif (BasCounts.ltk n x) then (BasCounts.nthI x n) else 0)) then (k (AV.bool (decide ((BasCounts.thErr x n) = (BasCounts.thErr x n))))) else (k (AV.bool Bool.false))) else (k (AV.bool Bool.false)))))))) := by kernel_rfl
end Go.Bas.BasOrder
