/- How many items there are so many levels up: the document's loops. -/
import Derived.Test.YtakdfjdpjggdkaaDoorBasCBase
import Derived.Test.YtakdfjdpjggdkaaDoorBasCeil
namespace Go.Bas.BasCItems
open Go.RowKit Go.Proofs
open Go.Bas.BasCBase
set_option maxRecDepth 100000
set_option maxHeartbeats 4000000
set_option linter.unusedVariables false
set_option linter.unusedSimpArgs false
def I_io (m : Int) (w : Int) (h : Int) (k0 : Int) : St := ⟨fill 25 [(0, .int .i64 m), (1, .int .i64 w), (2, .int .i64 h), (7, .int .i64 k0)], [], ⟨[], 0, []⟩⟩
noncomputable def P_io {Ω : Type} (st : St) (g : (Int) → (Int) → (Int) → (Int) → Ω) (z : Ω) : Ω := match lget st.tmps 0, lget st.tmps 1, lget st.tmps 2, lget st.tmps 7, st.ds, st.m with
  | .int .i64 m, .int .i64 w, .int .i64 h, .int .i64 k0, [], ⟨[], z1, []⟩ => cond (Nat.beq st.tmps.length 25 && (Nat.beq z1 0 && (true))) (g m w h k0) z
  | _, _, _, _, _, _ => z
theorem P_io_ok {C : Cfg} {c : Code} {G : (Int) → (Int) → (Int) → (Int) → (Ex → St → Bool) → Bool} (hG : ∀ m w h k0 k, G m w h k0 k = true → AWq C c (I_io m w h k0) (fun e s => k e s = true)) : ∀ st k, P_io st (fun m w h k0 => G m w h k0 k) false = true → AWq C c st (fun e s => k e s = true) := by
  intro st k h
  unfold P_io at h
  split at h
  · rename_i q0 q1 q2 q3 hd hm
    rcases of_cond2 h with ⟨hb, h2⟩ | ⟨_, h2⟩
    · simp only [Bool.and_eq_true, and_true, decide_eq_true_eq, beq_iff] at hb
      obtain ⟨hb0, hb1⟩ := hb
      subst hb1
      exact AWq.less (Less.fill hb0 (AllL_cons q0 (AllL_cons q1 (AllL_cons q2 (AllL_cons q3 AllL_nil)))) hd hm) (hG _ _ _ _ _ h2)
    · cases h2
  · cases h
theorem P_io_okP {C : Cfg} {c : Code} {G : (Int) → (Int) → (Int) → (Int) → (Ex → St → Bool) → Bool} (hG : ∀ m w h k0 k, G m w h k0 k = true → AWp C none c (I_io m w h k0) (fun e s => k e s = true)) : ∀ st k, P_io st (fun m w h k0 => G m w h k0 k) false = true → AWp C none c st (fun e s => k e s = true) := by
  intro st k h
  unfold P_io at h
  split at h
  · rename_i q0 q1 q2 q3 hd hm
    rcases of_cond2 h with ⟨hb, h2⟩ | ⟨_, h2⟩
    · simp only [Bool.and_eq_true, and_true, decide_eq_true_eq, beq_iff] at hb
      obtain ⟨hb0, hb1⟩ := hb
      subst hb1
      exact AWp.less (LessS.fill hb0 (AllL_cons q0 (AllL_cons q1 (AllL_cons q2 (AllL_cons q3 AllL_nil)))) hd hm) (hG _ _ _ _ _ h2)
    · cases h2
  · cases h
def I_ii (m : Int) (w : Int) (h : Int) (k0 : Int) (n : Int) (i : Int) : St := ⟨fill 25 [(0, .int .i64 m), (1, .int .i64 w), (2, .int .i64 h), (7, .int .i64 k0), (8, .int .i64 n), (9, .int .i64 i)], [], ⟨[], 0, []⟩⟩
noncomputable def P_ii {Ω : Type} (st : St) (g : (Int) → (Int) → (Int) → (Int) → (Int) → (Int) → Ω) (z : Ω) : Ω := match lget st.tmps 0, lget st.tmps 1, lget st.tmps 2, lget st.tmps 7, lget st.tmps 8, lget st.tmps 9, st.ds, st.m with
  | .int .i64 m, .int .i64 w, .int .i64 h, .int .i64 k0, .int .i64 n, .int .i64 i, [], ⟨[], z1, []⟩ => cond (Nat.beq st.tmps.length 25 && (Nat.beq z1 0 && (true))) (g m w h k0 n i) z
  | _, _, _, _, _, _, _, _ => z
theorem P_ii_ok {C : Cfg} {c : Code} {G : (Int) → (Int) → (Int) → (Int) → (Int) → (Int) → (Ex → St → Bool) → Bool} (hG : ∀ m w h k0 n i k, G m w h k0 n i k = true → AWq C c (I_ii m w h k0 n i) (fun e s => k e s = true)) : ∀ st k, P_ii st (fun m w h k0 n i => G m w h k0 n i k) false = true → AWq C c st (fun e s => k e s = true) := by
  intro st k h
  unfold P_ii at h
  split at h
  · rename_i q0 q1 q2 q3 q4 q5 hd hm
    rcases of_cond2 h with ⟨hb, h2⟩ | ⟨_, h2⟩
    · simp only [Bool.and_eq_true, and_true, decide_eq_true_eq, beq_iff] at hb
      obtain ⟨hb0, hb1⟩ := hb
      subst hb1
      exact AWq.less (Less.fill hb0 (AllL_cons q0 (AllL_cons q1 (AllL_cons q2 (AllL_cons q3 (AllL_cons q4 (AllL_cons q5 AllL_nil)))))) hd hm) (hG _ _ _ _ _ _ _ h2)
    · cases h2
  · cases h
theorem P_ii_okP {C : Cfg} {c : Code} {G : (Int) → (Int) → (Int) → (Int) → (Int) → (Int) → (Ex → St → Bool) → Bool} (hG : ∀ m w h k0 n i k, G m w h k0 n i k = true → AWp C none c (I_ii m w h k0 n i) (fun e s => k e s = true)) : ∀ st k, P_ii st (fun m w h k0 n i => G m w h k0 n i k) false = true → AWp C none c st (fun e s => k e s = true) := by
  intro st k h
  unfold P_ii at h
  split at h
  · rename_i q0 q1 q2 q3 q4 q5 hd hm
    rcases of_cond2 h with ⟨hb, h2⟩ | ⟨_, h2⟩
    · simp only [Bool.and_eq_true, and_true, decide_eq_true_eq, beq_iff] at hb
      obtain ⟨hb0, hb1⟩ := hb
      subst hb1
      exact AWp.less (LessS.fill hb0 (AllL_cons q0 (AllL_cons q1 (AllL_cons q2 (AllL_cons q3 (AllL_cons q4 (AllL_cons q5 AllL_nil)))))) hd hm) (hG _ _ _ _ _ _ _ h2)
    · cases h2
  · cases h
def cdI (m w : Int) : Int := (cdiv m.toNat w.toNat : Nat)
def itI (m w h : Int) : Int := (itm m.toNat w.toNat h.toNat : Nat)
def inOk (m w n i : Int) : Bool := decide (0 ≤ m) && (decide (m ≤ 1000) && (decide (1 ≤ w) && (decide (w ≤ 1000) && (decide (n = 0) && decide (i = 0)))))
def outOk (m w h k0 : Int) : Bool := decide (0 ≤ m) && (decide (m ≤ 1000) && (decide (1 ≤ w) && (decide (w ≤ 1000) && (decide (0 ≤ h) && (decide (h ≤ 1000) && decide (k0 = 0))))))
noncomputable def G_ii (m w h k0 n i : Int) (k : Ex → St → Bool) : Bool := cond (inOk m w n i) (k (.exit 2) ⟨fill 25 [(1, .int .i64 w), (2, .int .i64 h), (7, .int .i64 k0), (8, .int .i64 (cdI m w))], [], ⟨[], 0, []⟩⟩) false
noncomputable def F_ii : LF := fun st k => P_ii st (fun m w h k0 n i => G_ii m w h k0 n i k) false
noncomputable def G_io (m w h k0 : Int) (k : Ex → St → Bool) : Bool := cond (outOk m w h k0) (k (.exit 0) ⟨fill 25 [(0, .int .i64 (itI m w h))], [], ⟨[], 0, []⟩⟩) false
noncomputable def F_io : LF := fun st k => P_io st (fun m w h k0 => G_io m w h k0 k) false
def Fit : List AV → Option (Bool × AV)
  | [.int .i64 m, .int .i64 w, .int .i64 h] => some (outOk m w h 0, .int .i64 (itI m w h))
  | _ => none
def S_items : Sum := (57, Fit)

theorem t_iib (m w h k0 n i : Int) (k : Ex → St → Bool) : run (cfg []) 100 none none (loopAt (fcode Tryd.prog 57) [0, 0]) (I_ii m w h k0 n i) (fun e s => k e (keepS [0, 1, 2, 7, 8, 9] s)) false = ((bif decide (i < m) then (k Ex.normal (St.mk [(AV.int IntKind.i64 m), (AV.int IntKind.i64 w), (AV.int IntKind.i64 h), AV.any, AV.any, AV.any, AV.any, (AV.int IntKind.i64 k0), (AV.int IntKind.i64 (IntKind.wrap IntKind.i64 (n + 1))), (AV.int IntKind.i64 (IntKind.wrap IntKind.i64 (i + w))), AV.any, AV.any, AV.any, AV.any, AV.any, AV.any, AV.any, AV.any, AV.any, AV.any, AV.any, AV.any, AV.any, AV.any, AV.any] [] (Mem.mk [] 0 []))) else (k (Ex.exit 2) (St.mk [(AV.int IntKind.i64 m), (AV.int IntKind.i64 w), (AV.int IntKind.i64 h), AV.any, AV.any, AV.any, AV.any, (AV.int IntKind.i64 k0), (AV.int IntKind.i64 n), (AV.int IntKind.i64 i), AV.any, AV.any, AV.any, AV.any, AV.any, AV.any, AV.any, AV.any, AV.any, AV.any, AV.any, AV.any, AV.any, AV.any, AV.any] [] (Mem.mk [] 0 []))))) := by kernel_rfl
theorem t_iob (m w h k0 : Int) (k : Ex → St → Bool) : runM (cfg []) 100 (loopAt (fcode Tryd.prog 57) [0]) [F_ii] (I_io m w h k0) (fun e s => k e (keepS [0, 1, 2, 7] s)) = ((bif decide (k0 < h) then ((BasCItems.inOk m w 0 0) && (k Ex.normal (St.mk [(AV.int IntKind.i64 (BasCItems.cdI m w)), (AV.int IntKind.i64 w), (AV.int IntKind.i64 h), AV.any, AV.any, AV.any, AV.any, (AV.int IntKind.i64 (IntKind.wrap IntKind.i64 (k0 + 1))), AV.any, AV.any, AV.any, AV.any, AV.any, AV.any, AV.any, AV.any, AV.any, AV.any, AV.any, AV.any, AV.any, AV.any, AV.any, AV.any, AV.any] [] (Mem.mk [] 0 [])))) else (k (Ex.exit 0) (St.mk [(AV.int IntKind.i64 m), (AV.int IntKind.i64 w), (AV.int IntKind.i64 h), AV.any, AV.any, AV.any, AV.any, (AV.int IntKind.i64 k0), AV.any, AV.any, AV.any, AV.any, AV.any, AV.any, AV.any, AV.any, AV.any, AV.any, AV.any, AV.any, AV.any, AV.any, AV.any, AV.any, AV.any] [] (Mem.mk [] 0 []))))) := by kernel_rfl
theorem t_items (m w h : Int) (k : AV → Bool) : runFM (cfg []) 300 57 [F_io] [.int .i64 m, .int .i64 w, .int .i64 h] k = (((BasCItems.outOk m w h 0) && (k (AV.int IntKind.i64 (BasCItems.itI m w h))))) := by kernel_rfl
end Go.Bas.BasCItems
