/- Contracts: how many threads a mask has, and which one is that of a number: trees. -/
import Derived.Test.YtakdfjdpjggdkaaDoorBasDChoose2
import Derived.Test.YtakdfjdpjggdkaaDoorBasNth
namespace Go.Bas.BasCounts
open Go.RowKit Go.Proofs
open Go.Bas.BasDBase Go.Bas.BasDChoose Go.Bas.BasDChoose2
set_option maxRecDepth 100000
set_option maxHeartbeats 4000000
set_option linter.unusedVariables false
set_option linter.unusedSimpArgs false
def I_th (m : Int) (k0 : Int) (i : Int) : St := ⟨fill 24 [(0, .int .u64 m), (14, .int .i64 k0), (15, .int .i64 i)], [], ⟨[], 0, []⟩⟩
noncomputable def P_th {Ω : Type} (st : St) (g : (Int) → (Int) → (Int) → Ω) (z : Ω) : Ω := match lget st.tmps 0, lget st.tmps 14, lget st.tmps 15, st.ds, st.m with
  | .int .u64 m, .int .i64 k0, .int .i64 i, [], ⟨[], z1, []⟩ => cond (Nat.beq st.tmps.length 24 && (Nat.beq z1 0 && (true))) (g m k0 i) z
  | _, _, _, _, _ => z
theorem P_th_ok {C : Cfg} {c : Code} {G : (Int) → (Int) → (Int) → (Ex → St → Bool) → Bool} (hG : ∀ m k0 i k, G m k0 i k = true → AWq C c (I_th m k0 i) (fun e s => k e s = true)) : ∀ st k, P_th st (fun m k0 i => G m k0 i k) false = true → AWq C c st (fun e s => k e s = true) := by
  intro st k h
  unfold P_th at h
  split at h
  · rename_i q0 q1 q2 hd hm
    rcases of_cond2 h with ⟨hb, h2⟩ | ⟨_, h2⟩
    · simp only [Bool.and_eq_true, and_true, decide_eq_true_eq, beq_iff] at hb
      obtain ⟨hb0, hb1⟩ := hb
      subst hb1
      exact AWq.less (Less.fill hb0 (AllL_cons q0 (AllL_cons q1 (AllL_cons q2 AllL_nil))) hd hm) (hG _ _ _ _ h2)
    · cases h2
  · cases h
theorem P_th_okP {C : Cfg} {c : Code} {G : (Int) → (Int) → (Int) → (Ex → St → Bool) → Bool} (hG : ∀ m k0 i k, G m k0 i k = true → AWp C none c (I_th m k0 i) (fun e s => k e s = true)) : ∀ st k, P_th st (fun m k0 i => G m k0 i k) false = true → AWp C none c st (fun e s => k e s = true) := by
  intro st k h
  unfold P_th at h
  split at h
  · rename_i q0 q1 q2 hd hm
    rcases of_cond2 h with ⟨hb, h2⟩ | ⟨_, h2⟩
    · simp only [Bool.and_eq_true, and_true, decide_eq_true_eq, beq_iff] at hb
      obtain ⟨hb0, hb1⟩ := hb
      subst hb1
      exact AWp.less (LessS.fill hb0 (AllL_cons q0 (AllL_cons q1 (AllL_cons q2 AllL_nil))) hd hm) (hG _ _ _ _ h2)
    · cases h2
  · cases h
def I_rs (x : Int) (n : Int) (t : Int) : St := ⟨fill 16 [(0, .int .u64 x), (3, .int .i64 n), (4, .int .i64 t)], [], ⟨[], 0, []⟩⟩
noncomputable def P_rs {Ω : Type} (st : St) (g : (Int) → (Int) → (Int) → Ω) (z : Ω) : Ω := match lget st.tmps 0, lget st.tmps 3, lget st.tmps 4, st.ds, st.m with
  | .int .u64 x, .int .i64 n, .int .i64 t, [], ⟨[], z1, []⟩ => cond (Nat.beq st.tmps.length 16 && (Nat.beq z1 0 && (true))) (g x n t) z
  | _, _, _, _, _ => z
theorem P_rs_ok {C : Cfg} {c : Code} {G : (Int) → (Int) → (Int) → (Ex → St → Bool) → Bool} (hG : ∀ x n t k, G x n t k = true → AWq C c (I_rs x n t) (fun e s => k e s = true)) : ∀ st k, P_rs st (fun x n t => G x n t k) false = true → AWq C c st (fun e s => k e s = true) := by
  intro st k h
  unfold P_rs at h
  split at h
  · rename_i q0 q1 q2 hd hm
    rcases of_cond2 h with ⟨hb, h2⟩ | ⟨_, h2⟩
    · simp only [Bool.and_eq_true, and_true, decide_eq_true_eq, beq_iff] at hb
      obtain ⟨hb0, hb1⟩ := hb
      subst hb1
      exact AWq.less (Less.fill hb0 (AllL_cons q0 (AllL_cons q1 (AllL_cons q2 AllL_nil))) hd hm) (hG _ _ _ _ h2)
    · cases h2
  · cases h
theorem P_rs_okP {C : Cfg} {c : Code} {G : (Int) → (Int) → (Int) → (Ex → St → Bool) → Bool} (hG : ∀ x n t k, G x n t k = true → AWp C none c (I_rs x n t) (fun e s => k e s = true)) : ∀ st k, P_rs st (fun x n t => G x n t k) false = true → AWp C none c st (fun e s => k e s = true) := by
  intro st k h
  unfold P_rs at h
  split at h
  · rename_i q0 q1 q2 hd hm
    rcases of_cond2 h with ⟨hb, h2⟩ | ⟨_, h2⟩
    · simp only [Bool.and_eq_true, and_true, decide_eq_true_eq, beq_iff] at hb
      obtain ⟨hb0, hb1⟩ := hb
      subst hb1
      exact AWp.less (LessS.fill hb0 (AllL_cons q0 (AllL_cons q1 (AllL_cons q2 AllL_nil))) hd hm) (hG _ _ _ _ h2)
    · cases h2
  · cases h
def I_rt (x : Int) (k0 : Int) (t : Int) : St := ⟨fill 28 [(0, .int .u64 x), (1, .int .i64 k0), (6, .int .i64 t)], [], ⟨[], 0, []⟩⟩
noncomputable def P_rt {Ω : Type} (st : St) (g : (Int) → (Int) → (Int) → Ω) (z : Ω) : Ω := match lget st.tmps 0, lget st.tmps 1, lget st.tmps 6, st.ds, st.m with
  | .int .u64 x, .int .i64 k0, .int .i64 t, [], ⟨[], z1, []⟩ => cond (Nat.beq st.tmps.length 28 && (Nat.beq z1 0 && (true))) (g x k0 t) z
  | _, _, _, _, _ => z
theorem P_rt_ok {C : Cfg} {c : Code} {G : (Int) → (Int) → (Int) → (Ex → St → Bool) → Bool} (hG : ∀ x k0 t k, G x k0 t k = true → AWq C c (I_rt x k0 t) (fun e s => k e s = true)) : ∀ st k, P_rt st (fun x k0 t => G x k0 t k) false = true → AWq C c st (fun e s => k e s = true) := by
  intro st k h
  unfold P_rt at h
  split at h
  · rename_i q0 q1 q2 hd hm
    rcases of_cond2 h with ⟨hb, h2⟩ | ⟨_, h2⟩
    · simp only [Bool.and_eq_true, and_true, decide_eq_true_eq, beq_iff] at hb
      obtain ⟨hb0, hb1⟩ := hb
      subst hb1
      exact AWq.less (Less.fill hb0 (AllL_cons q0 (AllL_cons q1 (AllL_cons q2 AllL_nil))) hd hm) (hG _ _ _ _ h2)
    · cases h2
  · cases h
theorem P_rt_okP {C : Cfg} {c : Code} {G : (Int) → (Int) → (Int) → (Ex → St → Bool) → Bool} (hG : ∀ x k0 t k, G x k0 t k = true → AWp C none c (I_rt x k0 t) (fun e s => k e s = true)) : ∀ st k, P_rt st (fun x k0 t => G x k0 t k) false = true → AWp C none c st (fun e s => k e s = true) := by
  intro st k h
  unfold P_rt at h
  split at h
  · rename_i q0 q1 q2 hd hm
    rcases of_cond2 h with ⟨hb, h2⟩ | ⟨_, h2⟩
    · simp only [Bool.and_eq_true, and_true, decide_eq_true_eq, beq_iff] at hb
      obtain ⟨hb0, hb1⟩ := hb
      subst hb1
      exact AWp.less (LessS.fill hb0 (AllL_cons q0 (AllL_cons q1 (AllL_cons q2 AllL_nil))) hd hm) (hG _ _ _ _ h2)
    · cases h2
  · cases h
def eqj (x y : Int) : Bool := decide (x = y)
def lt64 (x : Int) : Bool := decide (0 ≤ x ∧ x < 18446744073709551616)
def ltk (k x : Int) : Bool := decide (0 ≤ k ∧ k < popS x)
def nthI (x k : Int) : Int := (nthB x.toNat k.toNat : Nat)
def clrI (x k : Int) : Int := (clr k.toNat x.toNat : Nat)
noncomputable def G_th (m k0 i : Int) (k : Ex → St → Bool) : Bool := cond (lt64 m && (ltk k0 m && eqj i 0)) (k (.exit 0) (I_th (clrI m k0) k0 k0)) false
noncomputable def F_th : LF := fun st k => P_th st (fun m k0 i => G_th m k0 i k) false
noncomputable def G_rs (x n t : Int) (k : Ex → St → Bool) : Bool := cond (lt64 x && (eqj n 0 && eqj t 0)) (k (.exit 0) (I_rs x (popS x) 64)) false
noncomputable def F_rs : LF := fun st k => P_rs st (fun x n t => G_rs x n t k) false
noncomputable def G_rt (x k0 t : Int) (k : Ex → St → Bool) : Bool := cond (lt64 x && (ltk k0 x && eqj t 0)) (k .ret ⟨fill 28 [(4, .int .i64 (nthI x k0)), (5, .int .i64 0)], [], ⟨[], 0, []⟩⟩) false
noncomputable def F_rt : LF := fun st k => P_rt st (fun x k0 t => G_rt x k0 t k) false
def tzI (x : Int) : Int := (nthB x.toNat 0 : Nat)
def Ftz : List AV → Option (Bool × AV)
  | [.int .u64 x] => some (lt64 x && !eqj x 0, .int .i64 (tzI x))
  | _ => none
def thErr (x k : Int) : Int := cond (ltk k x) 0 2
def Fth : List AV → Option (Bool × AV)
  | [.int .u64 x, .int .i64 k] => some (lt64 x, .tup [.int .i64 (cond (ltk k x) (nthI x k) 0), .int .i64 (thErr x k)])
  | _ => none
def FB (P : Int → Int → Int) (pr : Int → Bool) : List AV → Option (Bool × AV)
  | [.int .u64 x, .int .i64 n] => some (pr n, .int .u64 (P x n))
  | _ => none
def SA_bit (P : Int → Int → Int) (pr : Int → Bool) : Sum := (35, FB P pr)
def SA_tz (P : Int → Int) (pr : Int → Bool) : Sum := (34, FA P pr)
def SA_rsize (P : Int → Int) (pr : Int → Bool) : Sum := (16, FA P pr)
def SA_th (S : Sum) (f : Nat) : Sum := S

def S_bit : Sum := (35, Fbit)
theorem t_bit (x n : Int) (k : AV → Bool) : runF (cfg []) 300 35 [.int .u64 x, .int .i64 n] k false = ((bif decide (n < 0) then Bool.false else (k (AV.int IntKind.u64 (Int.tmod (ishr IntKind.u64 x n) 2))))) := by kernel_rfl
theorem s_bit : SumOk Tryd.prog (gmap gs) S_bit := fun args r hr => by
    simp only [S_bit] at hr
    unfold Fbit at hr
    split at hr
    · rename_i x n
      simp only [Option.some.injEq, Prod.mk.injEq, decide_eq_true_eq, Bool.and_eq_true] at hr
      obtain ⟨hp, hr⟩ := hr
      subst hr
      refine acalls_eq base sums_nil (n := 300) fun k hk => ?_
      refine (t_bit _ _ _).trans ?_
      have h : ¬ n < 0 := by omega
      simpa [h, bitS] using hk
    · cases hr
theorem t_tz (x : Int) (k : AV → Bool) : runF (cfg []) 300 34 [.int .u64 x] k false = ((bif decide (x = 0) then (k (AV.int IntKind.i64 64)) else ((inside (ishr IntKind.u64 (IntKind.wrap IntKind.u64 ((iand IntKind.u64 x (IntKind.wrap IntKind.u64 (0 - x))) * 285870213051353865)) 58) 64) && ((Nat.ble ((0 + ((Int.toNat (ishr IntKind.u64 (IntKind.wrap IntKind.u64 ((iand IntKind.u64 x (IntKind.wrap IntKind.u64 (0 - x))) * 285870213051353865)) 58)) * 1)) + 1) 64) && ((AV.isI IntKind.u8 (lget [(AV.int IntKind.u8 0), (AV.int IntKind.u8 1), (AV.int IntKind.u8 56), (AV.int IntKind.u8 2), (AV.int IntKind.u8 57), (AV.int IntKind.u8 49), (AV.int IntKind.u8 28), (AV.int IntKind.u8 3), (AV.int IntKind.u8 61), (AV.int IntKind.u8 58), (AV.int IntKind.u8 42), (AV.int IntKind.u8 50), (AV.int IntKind.u8 38), (AV.int IntKind.u8 29), (AV.int IntKind.u8 17), (AV.int IntKind.u8 4), (AV.int IntKind.u8 62), (AV.int IntKind.u8 47), (AV.int IntKind.u8 59), (AV.int IntKind.u8 36), (AV.int IntKind.u8 45), (AV.int IntKind.u8 43), (AV.int IntKind.u8 51), (AV.int IntKind.u8 22), (AV.int IntKind.u8 53), (AV.int IntKind.u8 39), (AV.int IntKind.u8 33), (AV.int IntKind.u8 30), (AV.int IntKind.u8 24), (AV.int IntKind.u8 18), (AV.int IntKind.u8 12), (AV.int IntKind.u8 5), (AV.int IntKind.u8 63), (AV.int IntKind.u8 55), (AV.int IntKind.u8 48), (AV.int IntKind.u8 27), (AV.int IntKind.u8 60), (AV.int IntKind.u8 41), (AV.int IntKind.u8 37), (AV.int IntKind.u8 16), (AV.int IntKind.u8 46), (AV.int IntKind.u8 35), (AV.int IntKind.u8 44), (AV.int IntKind.u8 21), (AV.int IntKind.u8 52), (AV.int IntKind.u8 32), (AV.int IntKind.u8 23), (AV.int IntKind.u8 11), (AV.int IntKind.u8 54), (AV.int IntKind.u8 26), (AV.int IntKind.u8 40), (AV.int IntKind.u8 15), (AV.int IntKind.u8 34), (AV.int IntKind.u8 20), (AV.int IntKind.u8 31), (AV.int IntKind.u8 10), (AV.int IntKind.u8 25), (AV.int IntKind.u8 14), (AV.int IntKind.u8 19), (AV.int IntKind.u8 9), (AV.int IntKind.u8 13), (AV.int IntKind.u8 8), (AV.int IntKind.u8 7), (AV.int IntKind.u8 6)] (0 + ((Int.toNat (ishr IntKind.u64 (IntKind.wrap IntKind.u64 ((iand IntKind.u64 x (IntKind.wrap IntKind.u64 (0 - x))) * 285870213051353865)) 58)) * 1)))) && (k (AV.int IntKind.i64 (IntKind.wrap IntKind.i64 (AV.toI (lget [(AV.int IntKind.u8 0), (AV.int IntKind.u8 1), (AV.int IntKind.u8 56), (AV.int IntKind.u8 2), (AV.int IntKind.u8 57), (AV.int IntKind.u8 49), (AV.int IntKind.u8 28), (AV.int IntKind.u8 3), (AV.int IntKind.u8 61), (AV.int IntKind.u8 58), (AV.int IntKind.u8 42), (AV.int IntKind.u8 50), (AV.int IntKind.u8 38), (AV.int IntKind.u8 29), (AV.int IntKind.u8 17), (AV.int IntKind.u8 4), (AV.int IntKind.u8 62), (AV.int IntKind.u8 47), (AV.int IntKind.u8 59), (AV.int IntKind.u8 36), (AV.int IntKind.u8 45), (AV.int IntKind.u8 43), (AV.int IntKind.u8 51), (AV.int IntKind.u8 22), (AV.int IntKind.u8 53), (AV.int IntKind.u8 39), (AV.int IntKind.u8 33), (AV.int IntKind.u8 30), (AV.int IntKind.u8 24), (AV.int IntKind.u8 18), (AV.int IntKind.u8 12), (AV.int IntKind.u8 5), (AV.int IntKind.u8 63), (AV.int IntKind.u8 55), (AV.int IntKind.u8 48), (AV.int IntKind.u8 27), (AV.int IntKind.u8 60), (AV.int IntKind.u8 41), (AV.int IntKind.u8 37), (AV.int IntKind.u8 16), (AV.int IntKind.u8 46), (AV.int IntKind.u8 35), (AV.int IntKind.u8 44), (AV.int IntKind.u8 21), (AV.int IntKind.u8 52), (AV.int IntKind.u8 32), (AV.int IntKind.u8 23), (AV.int IntKind.u8 11), (AV.int IntKind.u8 54), (AV.int IntKind.u8 26), (AV.int IntKind.u8 40), (AV.int IntKind.u8 15), (AV.int IntKind.u8 34), (AV.int IntKind.u8 20), (AV.int IntKind.u8 31), (AV.int IntKind.u8 10), (AV.int IntKind.u8 25), (AV.int IntKind.u8 14), (AV.int IntKind.u8 19), (AV.int IntKind.u8 9), (AV.int IntKind.u8 13), (AV.int IntKind.u8 8), (AV.int IntKind.u8 7), (AV.int IntKind.u8 6)] (0 + ((Int.toNat (ishr IntKind.u64 (IntKind.wrap IntKind.u64 ((iand IntKind.u64 x (IntKind.wrap IntKind.u64 (0 - x))) * 285870213051353865)) 58)) * 1)))))))))))) := by kernel_rfl
theorem t_thb (P : Int → Int) (pr : Int → Bool) (R : Int → Int) (pt : Int → Bool) (m k0 i : Int) (k : Ex → St → Bool) : run (cfg [(SA_size P pr), (SA_tz R pt)]) 100 none none (loopAt (fcode Tryd.prog 13) [0]) (I_th m k0 i) (fun e s => k e (keepS [0, 14, 15] s)) false = ((bif decide (i < k0) then (k Ex.normal (St.mk [(AV.int IntKind.u64 (iand IntKind.u64 m (IntKind.wrap IntKind.u64 (m - 1)))), AV.any, AV.any, AV.any, AV.any, AV.any, AV.any, AV.any, AV.any, AV.any, AV.any, AV.any, AV.any, AV.any, (AV.int IntKind.i64 k0), (AV.int IntKind.i64 (IntKind.wrap IntKind.i64 (i + 1))), AV.any, AV.any, AV.any, AV.any, AV.any, AV.any, AV.any, AV.any] [] (Mem.mk [] 0 []))) else (k (Ex.exit 0) (St.mk [(AV.int IntKind.u64 m), AV.any, AV.any, AV.any, AV.any, AV.any, AV.any, AV.any, AV.any, AV.any, AV.any, AV.any, AV.any, AV.any, (AV.int IntKind.i64 k0), (AV.int IntKind.i64 i), AV.any, AV.any, AV.any, AV.any, AV.any, AV.any, AV.any, AV.any] [] (Mem.mk [] 0 []))))) := by kernel_rfl
theorem t_rsb (B : Int → Int → Int) (pb : Int → Bool) (x n t : Int) (k : Ex → St → Bool) : run (cfg [(SA_bit B pb)]) 100 none none (loopAt (fcode Tryd.prog 16) [0]) (I_rs x n t) (fun e s => k e (keepS [0, 3, 4] s)) false = ((bif decide (t < 64) then ((pb t) && (bif decide ((B x t) = 1) then (k Ex.normal (St.mk [(AV.int IntKind.u64 x), AV.any, AV.any, (AV.int IntKind.i64 (IntKind.wrap IntKind.i64 (n + 1))), (AV.int IntKind.i64 (IntKind.wrap IntKind.i64 (t + 1))), AV.any, AV.any, AV.any, AV.any, AV.any, AV.any, AV.any, AV.any, AV.any, AV.any, AV.any] [] (Mem.mk [] 0 []))) else (k Ex.normal (St.mk [(AV.int IntKind.u64 x), AV.any, AV.any, (AV.int IntKind.i64 n), (AV.int IntKind.i64 (IntKind.wrap IntKind.i64 (t + 1))), AV.any, AV.any, AV.any, AV.any, AV.any, AV.any, AV.any, AV.any, AV.any, AV.any, AV.any] [] (Mem.mk [] 0 []))))) else (k (Ex.exit 0) (St.mk [(AV.int IntKind.u64 x), AV.any, AV.any, (AV.int IntKind.i64 n), (AV.int IntKind.i64 t), AV.any, AV.any, AV.any, AV.any, AV.any, AV.any, AV.any, AV.any, AV.any, AV.any, AV.any] [] (Mem.mk [] 0 []))))) := by kernel_rfl
theorem t_rtb (B : Int → Int → Int) (pb : Int → Bool) (P : Int → Int) (pr : Int → Bool) (x k0 t : Int) (k : Ex → St → Bool) : run (cfg [(SA_bit B pb), (SA_rsize P pr)]) 100 none none (loopAt (fcode Tryd.prog 14) [0]) (I_rt x k0 t) (fun e s => k e (keepS [0, 1, 4, 5, 6] s)) false = ((bif decide (t < 64) then ((pb t) && (bif decide ((B x t) = 1) then (bif decide (k0 = 0) then (k Ex.ret (St.mk [(AV.int IntKind.u64 x), (AV.int IntKind.i64 k0), AV.any, AV.any, (AV.int IntKind.i64 t), (AV.int IntKind.i64 0), (AV.int IntKind.i64 t), AV.any, AV.any, AV.any, AV.any, AV.any, AV.any, AV.any, AV.any, AV.any, AV.any, AV.any, AV.any, AV.any, AV.any, AV.any, AV.any, AV.any, AV.any, AV.any, AV.any, AV.any] [] (Mem.mk [] 0 []))) else (k Ex.normal (St.mk [(AV.int IntKind.u64 x), (AV.int IntKind.i64 (IntKind.wrap IntKind.i64 (k0 - 1))), AV.any, AV.any, AV.any, AV.any, (AV.int IntKind.i64 (IntKind.wrap IntKind.i64 (t + 1))), AV.any, AV.any, AV.any, AV.any, AV.any, AV.any, AV.any, AV.any, AV.any, AV.any, AV.any, AV.any, AV.any, AV.any, AV.any, AV.any, AV.any, AV.any, AV.any, AV.any, AV.any] [] (Mem.mk [] 0 [])))) else (k Ex.normal (St.mk [(AV.int IntKind.u64 x), (AV.int IntKind.i64 k0), AV.any, AV.any, AV.any, AV.any, (AV.int IntKind.i64 (IntKind.wrap IntKind.i64 (t + 1))), AV.any, AV.any, AV.any, AV.any, AV.any, AV.any, AV.any, AV.any, AV.any, AV.any, AV.any, AV.any, AV.any, AV.any, AV.any, AV.any, AV.any, AV.any, AV.any, AV.any, AV.any] [] (Mem.mk [] 0 []))))) else (k (Ex.exit 0) (St.mk [(AV.int IntKind.u64 x), (AV.int IntKind.i64 k0), AV.any, AV.any, AV.any, AV.any, (AV.int IntKind.i64 t), AV.any, AV.any, AV.any, AV.any, AV.any, AV.any, AV.any, AV.any, AV.any, AV.any, AV.any, AV.any, AV.any, AV.any, AV.any, AV.any, AV.any, AV.any, AV.any, AV.any, AV.any] [] (Mem.mk [] 0 []))))) := by kernel_rfl
theorem t_rs (B : Int → Int → Int) (pb : Int → Bool) (x : Int) (k : AV → Bool) : runFM (cfg [(SA_bit B pb)]) 300 16 [F_rs] [.int .u64 x] k = ((((BasCounts.lt64 x) && Bool.true) && (k (AV.int IntKind.i64 (popS x))))) := by kernel_rfl
theorem t_th (P : Int → Int) (pr : Int → Bool) (R : Int → Int) (pt : Int → Bool) (x n : Int) (k : AV → Bool) : runFM (cfg [(SA_size P pr), (SA_tz R pt)]) 300 13 [F_th] [.int .u64 x, .int .i64 n] k = ((bif decide (n < 0) then (k (AV.tup [(AV.int IntKind.i64 0), (AV.int IntKind.i64 2)])) else ((pr x) && (bif decide (n ≥ (P x)) then (k (AV.tup [(AV.int IntKind.i64 0), (AV.int IntKind.i64 2)])) else (((BasCounts.lt64 x) && ((BasCounts.ltk n x) && Bool.true)) && ((pt (BasCounts.clrI x n)) && (k (AV.tup [(AV.int IntKind.i64 (R (BasCounts.clrI x n))), (AV.int IntKind.i64 0)])))))))) := by kernel_rfl
theorem t_rt (B : Int → Int → Int) (pb : Int → Bool) (P : Int → Int) (pr : Int → Bool) (x n : Int) (k : AV → Bool) : runFM (cfg [(SA_bit B pb), (SA_rsize P pr)]) 300 14 [F_rt] [.int .u64 x, .int .i64 n] k = ((bif decide (n < 0) then (k (AV.tup [(AV.int IntKind.i64 0), (AV.int IntKind.i64 2)])) else ((pr x) && (bif decide (n ≥ (P x)) then (k (AV.tup [(AV.int IntKind.i64 0), (AV.int IntKind.i64 2)])) else (((BasCounts.lt64 x) && ((BasCounts.ltk n x) && Bool.true)) && (k (AV.tup [(AV.int IntKind.i64 (BasCounts.nthI x n)), (AV.int IntKind.i64 0)]))))))) := by kernel_rfl
end Go.Bas.BasCounts
