/- The program's rows of an index's cells: its contract, where they may be, and where it gives up; Plain: an index's cells may be, says the program, just where the document says so; The program's View: its contract; The program's View answers what the document's does; The engine, part Mv: rows of one's own that are written no more become a list, in the midst of a run; Rows, and cells, are the same asv themselves; what View answers; The law AloneViews. -/
import Derived.Test.YtjibpphcdfbgkaaDoorBasW8
import Derived.Test.YtjibpphcdfbgkaaDoorBasW9
import Derived.Test.YtjibpphcdfbgkaaDoorBasW10
import Derived.Test.YtjibpphcdfbgkaaDoorBasW11
section
namespace Go.Bas.BasAvJ4
open Go.RowKit Go.Proofs
open Go.Bas.BasZBase Go.Bas.BasAvR1 Go.Bas.BasAvR2 Go.Bas.BasAvR3 Go.Bas.BasAvL Go.Bas.BasAvF Go.Bas.BasAvW Go.Bas.BasAvP1 Go.Bas.BasAvP2 Go.Bas.BasAvP4 Go.Bas.BasAvA Go.Bas.BasZRank Go.Bas.BasZRank3 Go.Bas.BasZLev Go.Bas.BasZItems Go.Bas.BasAvI0 Go.Bas.BasAvIE Go.Bas.BasAvIE2 Go.Bas.BasAvI1 Go.Bas.BasAvG Go.Bas.BasAvI2 Go.Bas.BasAvI3 Go.Bas.BasAvI4 Go.Bas.BasAvI5 Go.Bas.BasAvI6 Go.Bas.BasAvJ1 Go.Bas.BasAvJ2 Go.Bas.BasAvJ3
set_option maxRecDepth 100000
set_option maxHeartbeats 4000000
set_option linter.unusedVariables false
set_option linter.unusedSimpArgs false
noncomputable def EJ0 (c : Conf) (us : List AV) (m : Nat) (n : Int) (r : Option (List AV × Nat)) : St := ⟨[.any, .ptr 0 0, rwV r, .any, .int .i64 n, .any, .any, .any, .any, .any, .any, .any, .any, .any, .any, .any, .any, .any, .any, .any, .any, .any, .any, .any, .any, .any, .any, .any, .any, .any, .any, .any, .any, .any, .any, .any, .any, .any, .any, .any, .any, .any, .any, .any, .any, .any, .any, .any, .any, .any, .any, .any, .any, .any, .any, .any, .any, .any, .any, .any, .any, .any, .any, .any, .any, .any, .any, .any, .any, .any, .any, .any, .any, .any, .any, .any, .any, .any, .any, .any, .any, .any, .any, .any, .any, .any, .any, .any, .any, .any, .any, .any, .any, .any, .any, .any, .any, .any, .any, .any, .any, .any, .any, .any, .any, .any, .any, .any, .any, .any, .any, .any, .any, .any, .any, .any, .any, .any, .any, .any, .any, .any, .any, .any, .any, .any, .any, .any, .any, .any, .any, .any, .any, .any, .any, .any, .any, .any, .any, .any, .any, .any, .any, .any, .any, .any, .any, .any, .any, .any, .any, .any, .any, .any, .any, .any, .any, .any, .any, .any, .any, .any, .any, .any, .any, .any, .any, .any, .any, .any, .any, .any, .any, .any, .any, .any, .any, .any, .any, .any, .any, .any, .any, .any, .any, .any, .any, .any], [], ⟨rwH r ++ [(0, ⟨c.cells ++ [.lst us m], 55, true⟩)], 2, []⟩⟩
noncomputable def EJ2 (r : Option (List AV × Nat)) : St := ⟨[.any, .any, rwV r, .any, .any, .any, .any, .any, .any, .any, .any, .any, .any, .any, .any, .any, .any, .any, .any, .any, .any, .any, .any, .any, .any, .any, .any, .any, .any, .any, .any, .any, .any, .any, .any, .any, .any, .any, .any, .any, .any, .any, .any, .any, .any, .any, .any, .any, .any, .any, .any, .any, .any, .any, .any, .any, .any, .any, .any, .any, .any, .any, .any, .any, .any, .any, .any, .any, .any, .any, .any, .any, .any, .any, .any, .any, .any, .any, .any, .any, .any, .any, .any, .any, .any, .any, .any, .any, .any, .any, .any, .any, .any, .any, .any, .any, .any, .any, .any, .any, .any, .any, .any, .any, .any, .any, .any, .any, .any, .any, .any, .any, .any, .any, .any, .any, .any, .any, .any, .any, .any, .any, .any, .any, .any, .any, .any, .any, .any, .any, .any, .any, .any, .any, .any, .any, .any, .any, .any, .any, .any, .any, .any, .any, .any, .any, .any, .any, .any, .any, .any, .any, .any, .any, .any, .any, .any, .any, .any, .any, .any, .any, .any, .any, .any, .any, .any, .any, .any, .any, .any, .any, .any, .any, .any, .any, .any, .any, .any, .any, .any, .any, .any, .any, .any, .any, .any, .any], [], ⟨rwH r, 2, []⟩⟩
noncomputable def G0 (c : Conf) (us : List AV) (m : Nat) (n : Int) (vs : List AV) (q : Nat) (r : Option (List AV × Nat)) (ok : Bool) : LF := fun st k => cond (onP (keepSH [1, 2, 4, 51, 52, 53] [0] st = hJ0 c us m n vs q none 0 2)) (br ok (k (.exit 0) (EJ0 c us m n r)) (k pan (pJ 3))) false
noncomputable def G2 (c : Conf) (us : List AV) (m : Nat) (n : Int) (r : Option (List AV × Nat)) (vs : List AV) (lv : Nat) (ok : Bool) : LF := fun st k => cond (onP (keepSH [1, 2, 4, 9, 10, 108, 109, 110] [0, 1] st = hJ2 c us m r n vs lv 1 1 0)) (br ok (k (.exit 2) (EJ2 r)) (ba (k pan (pJ 3)) (k pan (pJ 4)))) false
noncomputable def nJ (us : List AV) : Int := IntKind.wrap .i64 (lget us 1).toI
noncomputable def qJ (us : List AV) : Nat := (IntKind.wrap .i64 (1 + nJ us)).toNat - 1
noncomputable def tJ (c : Conf) (us : List AV) (m : Nat) (n : Int) (vs : List AV) (q : Nat) (r : Option (List AV × Nat)) (ok ok2 : Bool) (p1 p3 p4 last : Bool) : Bool :=
  ld00 us m (br (decide ((lget us 1).toI ≤ IntKind.wrap .u64 c.cap)) (br (decide ((lget us 2).toI = 0)) (br (!decide ((lget us 3).toI = 0)) p1
    (ba (okBounds 1 (IntKind.wrap .i64 (1 + nJ us)) m && Nat.beq us.length (m * 4)) (ba (onP (hJ0 c us m (nJ us) ((us.drop 4).take (qJ us * 4)) (qJ us) none 0 2 = hJ0 c us m n vs q none 0 2))
      (br ok (ba (levIs c.cap c.node (lvN c.cap c.node)) (ba (onP (hJ2 c us m r n (levL c.cap c.node) (lvN c.cap c.node) 1 1 0 = hJ2 c us m r n (levL c.cap c.node) (lvN c.cap c.node) 1 1 0)) (br ok2 last p4))) p3)))) p1) p1)
theorem t_fJ (c : Conf) (us : List AV) (m : Nat) (n : Int) (vs : List AV) (q : Nat) (r : Option (List AV × Nat)) (ok ok2 : Bool) (K : AV → Bool) : runFM cJ 300 57 [G0 c us m n vs q r ok, G2 c us m n r (levL c.cap c.node) (lvN c.cap c.node) ok2] [agC c us m] K = tJ c us m n vs q r ok ok2 false false false (frzP r K) := by
  cases r with
  | none => kernel_rfl
  | some p => obtain ⟨a, b⟩ := p; kernel_rfl
theorem t_gJ (c : Conf) (us : List AV) (m : Nat) (n : Int) (vs : List AV) (q : Nat) (r : Option (List AV × Nat)) (ok ok2 : Bool) (K : Ex → St → Bool) : runM cJ 300 codeJ [G0 c us m n vs q r ok, G2 c us m n r (levL c.cap c.node) (lvN c.cap c.node) ok2] (st0 Tryd.prog 57 [agC c us m]) (fun e s => K e (keepSH [] [] s)) = tJ c us m n vs q r ok ok2 (K pan (pJ 2)) (K pan (pJ 3)) (ba (K pan (pJ 3)) (K pan (pJ 4))) (K .ret (pJ 2)) := by
  cases r with
  | none => kernel_rfl
  | some p => obtain ⟨a, b⟩ := p; kernel_rfl
theorem l_cJ : loopsOf codeJ = [.loop j0, .loop j2] := by kernel_rfl
theorem EJ0_is (c : Conf) (us : List AV) (m : Nat) (n : Int) (vs : List AV) (q : Nat) (r : Option (List AV × Nat)) (i : Int) : keepSH [1, 2, 4] [0, 1] (hJ0 c us m n vs q r i 2) = EJ0 c us m n r := by
  cases r with
  | none => kernel_rfl
  | some p => obtain ⟨a, b⟩ := p; kernel_rfl
theorem EJ2_is (c : Conf) (us : List AV) (m : Nat) (r : Option (List AV × Nat)) (n : Int) (vs : List AV) (lv : Nat) (below at_ h : Int) : keepSH [2] [1] (hJ2 c us m r n vs lv below at_ h) = EJ2 r := by
  cases r with
  | none => kernel_rfl
  | some p => obtain ⟨a, b⟩ := p; kernel_rfl
theorem pJ0_is (c : Conf) (us : List AV) (m : Nat) (n : Int) (vs : List AV) (q : Nat) (r : Option (List AV × Nat)) (i : Int) : keepSH [] [] (hJ0 c us m n vs q r i 3) = pJ 3 := by
  cases r with
  | none => kernel_rfl
  | some p => obtain ⟨a, b⟩ := p; kernel_rfl
theorem G0_ok {c : Conf} {us : List AV} {m n : Nat} (hc : CL us m) (hnm : 1 + n ≤ m) : ∀ (st : St) (K : Ex → St → Bool), G0 c us m (n : Int) (vsJ us n) n (rwo (rwX us n)) (onP (∀ i, i < n → ¬ RwBadP us i)) st K = true → AWq cJ (.loop j0) st (fun e s => K e s = true) := fun st K hk => by
  obtain ⟨e1, e2⟩ := of_cond hk
  have e1 := of_onP e1
  refine AWq.less (LessS.keepSH (C := cJ) [1, 2, 4, 51, 52, 53] [0] st).less ?_
  rw [e1]
  refine AWq.post (K := fun e s => (e = pan ∧ ¬ (∀ i, i < n → ¬ RwBadP us i) ∧ ∃ r i, s = hJ0 c us m (n : Int) (vsJ us n) n r i 3) ∨ (e = .exit 0 ∧ (∀ i, i < n → ¬ RwBadP us i) ∧ s = hJ0 c us m (n : Int) (vsJ us n) n (rwo (rwX us n)) (n : Int) 2)) (zj0 hc hnm (fun h => .inr ⟨rfl, h, rfl⟩) (fun ⟨i, h1, h2⟩ r j => .inl ⟨rfl, fun ha => ha i h1 h2, r, j, rfl⟩)) ?_
  rintro e s (⟨rfl, hb, r, i, rfl⟩ | ⟨rfl, ho, rfl⟩)
  · rw [onP_false hb] at e2
    refine ⟨pJ 3, ?_, e2⟩
    rw [← pJ0_is c us m (n : Int) (vsJ us n) n r i]
    exact LessS.keepSH _ _ _
  · rw [onP_true ho] at e2
    refine ⟨_, ?_, e2⟩
    rw [← EJ0_is c us m (n : Int) (vsJ us n) n (rwo (rwX us n)) (n : Int)]
    exact LessS.keepSH _ _ _
theorem G2_ok {c : Conf} (hx : IxOk c) {us : List AV} (hc : CL us (GG c)) {n : Nat} (hn : n ≤ CC c) (r : Option (List AV × Nat)) : ∀ (st : St) (K : Ex → St → Bool), G2 c us (GG c) (n : Int) r (levL c.cap c.node) (lvN c.cap c.node) (onP (∀ h, h < lv c → LvOk c us n h)) st K = true → AWq cJ (.loop j2) st (fun e s => K e s = true) := fun st K hk => by
  obtain ⟨e1, e2⟩ := of_cond hk
  have e1 := of_onP e1
  refine AWq.less (LessS.keepSH (C := cJ) [1, 2, 4, 9, 10, 108, 109, 110] [0, 1] st).less ?_
  rw [e1]
  refine AWq.post (K := fun e s => (e = pan ∧ ¬ (∀ h, h < lv c → LvOk c us n h) ∧ ∃ nx, (nx = 3 ∨ nx = 4) ∧ s = pJ nx) ∨ (e = .exit 2 ∧ (∀ h, h < lv c → LvOk c us n h) ∧ ∃ below at_, s = hJ2 c us (GG c) r (n : Int) (levL c.cap c.node) (lv c) below at_ ((lv c : Nat) : Int))) (zj2 hx hc hn r (fun h b a => .inr ⟨rfl, h, b, a, rfl⟩) (fun ⟨h, h1, h2⟩ nx hnx => .inl ⟨rfl, fun ha => h2 (ha h h1), nx, hnx, rfl⟩)) ?_
  rintro e s (⟨rfl, hb, nx, hnx, rfl⟩ | ⟨rfl, ho, b, a, rfl⟩)
  · rw [onP_false hb] at e2
    have e2 : ba (K pan (pJ 3)) (K pan (pJ 4)) = true := e2
    have e2 := of_ba e2
    refine ⟨pJ nx, LessS.refl _, ?_⟩
    rcases hnx with rfl | rfl
    · exact e2.1
    · exact e2.2
  · rw [onP_true ho] at e2
    refine ⟨_, ?_, e2⟩
    rw [← EJ2_is c us (GG c) r (n : Int) (levL c.cap c.node) (lv c) b a ((lv c : Nat) : Int)]
    exact LessS.keepSH _ _ _
/-- An index's cells may be, says the program. -/
def IxP (c : Conf) (us : List AV) : Prop := (cA us 0 ≤ c.cap ∧ cB us 0 = 0 ∧ cC us 0 = 0) ∧ (∀ i, i < (cA us 0).toNat → ¬ RwBadP us i) ∧ ∀ h, h < lv c → LvOk c us (cA us 0).toNat h
theorem tJ_ok {c : Conf} (hx : IxOk c) {us : List AV} (hc : CL us (GG c)) {n : Nat} (hn : (cA us 0).toNat = n) (r : Option (List AV × Nat)) {p1 p3 p4 last : Bool} (h1 : ¬ IxP c us → p1 = true) (h3 : ¬ IxP c us → p3 = true) (h4 : ¬ IxP c us → p4 = true) (h5 : IxP c us → last = true) :
    tJ c us (GG c) (n : Int) (vsJ us n) n r (onP (∀ i, i < n → ¬ RwBadP us i)) (onP (∀ h, h < lv c → LvOk c us n h)) p1 p3 p4 last = true := by
  have hG := GG_bd hx
  have hC : (CC c : Int) = c.cap := by have := hx.1; show ((c.cap.toNat : Nat) : Int) = _; omega
  have hb := hx.2.1
  have hb1 := hx.1
  have hw : IntKind.wrap .u64 c.cap = c.cap := wU (by omega) (by omega)
  have g := fun j (hj : j < us.length) => (hc.2.2 j hj).1
  have hl := hc.1
  have h0 : 0 ≤ cA us 0 := (hc.2.2 (0 * 4 + 1) (by omega)).2
  have b1 : (decide ((0 : Int) < Int.ofNat (GG c)) && Nat.beq us.length (GG c * 4)) = true := by
    rw [hl, decide_eq_true (p := (0 : Int) < Int.ofNat (GG c)) (by show (0 : Int) < ((GG c : Nat) : Int); omega), Nat.beq_refl]
    rfl
  unfold tJ ld00
  refine band b1 (band (Nat.ble_eq_true_of_le (by omega)) (band (g _ (by omega)) (band (g _ (by omega)) (band (g _ (by omega)) (band (g _ (by omega)) (bdt (fun a1 => bdt (fun a2 => bdt (fun a3 => h1 fun hh => ?_) (fun a3 => ?_)) (fun a2 => h1 fun hh => of_decide_eq_false a2 hh.1.2.1)) (fun a1 => h1 fun hh => ?_)))))))
  · rw [decide_eq_true (show (lget us 3).toI = 0 from hh.1.2.2)] at a3
    cases a3
  · have a1 := of_decide_eq_true a1
    rw [hw] at a1
    have a1 : cA us 0 ≤ c.cap := a1
    have en : nJ us = (n : Int) := by
      show IntKind.wrap .i64 (cA us 0) = _
      rw [wI (by omega) (by omega)]
      omega
    have e2 : IntKind.wrap .i64 (1 + nJ us) = ((1 + n : Nat) : Int) := by
      rw [en, wI (by omega) (by omega)]
      omega
    have eq : qJ us = n := by
      unfold qJ
      rw [e2]
      omega
    rw [e2, en, eq]
    refine band ?_ (band (onP_true rfl) (bdt (fun d1 => band (lvN_is (ix_w hx)).1 (band (onP_true rfl) (bdt (fun d2 => h5 ?_) (fun d2 => h4 fun hh => of_onPf d2 ?_)))) (fun d1 => h3 fun hh => of_onPf d1 ?_)))
    · rw [hl, Nat.beq_refl, Bool.and_true]
      simp only [okBounds, Bool.and_eq_true, decide_eq_true_eq]
      omega
    · refine ⟨⟨a1, of_decide_eq_true a2, show (lget us 3).toI = 0 by simpa using a3⟩, ?_, ?_⟩
      · rw [hn]; exact of_onP d1
      · rw [hn]; exact of_onP d2
    · have := hh.2.2
      rw [hn] at this
      exact this
    · have := hh.2.1
      rw [hn] at this
      exact this
  · have := of_decide_eq_false a1
    rw [hw] at this
    exact this hh.1.1
theorem q_ixP {c : Conf} (hx : IxOk c) {us : List AV} (hc : CL us (GG c)) (hi : IxP c us) : ACalls Tryd.prog (gmap gs) 57 [agC c us (GG c)] (fun v => v = rowsV (rwo (rwX us (cA us 0).toNat))) := by
  have hG := GG_bd hx
  have hC : (CC c : Int) = c.cap := by have := hx.1; show ((c.cap.toNat : Nat) : Int) = _; omega
  have hn := hi.1.1
  obtain ⟨n, hnn⟩ : ∃ n, (cA us 0).toNat = n := ⟨_, rfl⟩
  have hC2 := hx.2.1
  rw [hnn]
  refine acalls_eqM (q := fun _ => false) base sumsJ (n := 300) (fs := [G0 c us (GG c) (n : Int) (vsJ us n) n (rwo (rwX us n)) (onP (∀ i, i < n → ¬ RwBadP us i)), G2 c us (GG c) (n : Int) (rwo (rwX us n)) (levL c.cap c.node) (lvN c.cap c.node) (onP (∀ h, h < lv c → LvOk c us n h))]) (by kernel_rfl) ?_ fun K hK => ?_
  · show LoopsOk cJ (loopsOf codeJ) _
    rw [l_cJ]
    exact ⟨G0_ok hc (by omega), G2_ok hx hc (by omega) _, trivial⟩
  refine (t_fJ c us (GG c) _ _ _ _ _ _ K).trans (tJ_ok hx hc hnn _ (fun h => absurd hi h) (fun h => absurd hi h) (fun h => absurd hi h) (fun _ => ?_))
  have hl := rwX_len us n
  cases hq : rwX us n with
  | nil => rw [hq] at hK; exact hK
  | cons p l =>
    rw [hq] at hK hl
    show br (Nat.beq (p :: l).length 0) (K .ns) (ba (Nat.ble (0 + (p :: l).length * 2) (enc (p :: l)).length) (K (.lst ((enc (p :: l)).take ((p :: l).length * 2)) (p :: l).length))) = true
    refine btf rfl (band (Nat.ble_eq_true_of_le ?_) ?_)
    · show 0 + (p :: l).length * 2 ≤ (enc (p :: l)).length
      rw [enc_len]
      omega
    · show K (.lst ((enc (p :: l)).take ((p :: l).length * 2)) (p :: l).length) = true
      rw [List.take_of_length_le (by rw [enc_len]; omega)]
      exact hK
theorem p_ixP {c : Conf} (hx : IxOk c) {us : List AV} (hc : CL us (GG c)) (hi : ¬ IxP c us) : PCalls Tryd.prog (gmap gs) 57 [agC c us (GG c)] 27 .i64 2 := by
  have hG := GG_bd hx
  have hC : (CC c : Int) = c.cap := by have := hx.1; show ((c.cap.toNat : Nat) : Int) = _; omega
  obtain ⟨n, hnn⟩ : ∃ n, (cA us 0).toNat = n := ⟨_, rfl⟩
  have hC2 := hx.2.1
  by_cases hn : n ≤ CC c
  · refine pcalls_run (C := cJ) hCJ (n := 300) (l := [G0 c us (GG c) (n : Int) (vsJ us n) n (rwo (rwX us n)) (onP (∀ i, i < n → ¬ RwBadP us i)), G2 c us (GG c) (n : Int) (rwo (rwX us n)) (levL c.cap c.node) (lvN c.cap c.node) (onP (∀ h, h < lv c → LvOk c us n h))]) (by kernel_rfl) ?_ (ids := []) fun K hK => ?_
    · show LoopsOk cJ (loopsOf codeJ) _
      rw [l_cJ]
      exact ⟨G0_ok hc (by omega), G2_ok hx hc (by omega) _, trivial⟩
    · exact (t_gJ c us (GG c) _ _ _ _ _ _ K).trans (tJ_ok hx hc hnn _ (fun _ => hK _ rfl rfl) (fun _ => hK _ rfl rfl) (fun _ => band (hK _ rfl rfl) (hK _ rfl rfl)) (fun h => absurd h hi))
  · have h0 : 0 ≤ cA us 0 := (hc.2.2 (0 * 4 + 1) (by have := hc.1; omega)).2
    refine pcalls_run (C := cJ) hCJ (n := 300) (l := [fun _ _ => false, fun _ _ => false]) (by kernel_rfl) ?_ (ids := []) fun K hK => ?_
    · show LoopsOk cJ (loopsOf codeJ) _
      rw [l_cJ]
      exact ⟨fun st k hk => (by cases hk), fun st k hk => (by cases hk), trivial⟩
    · have t : runM cJ 300 codeJ [fun _ _ => false, fun _ _ => false] (st0 Tryd.prog 57 [agC c us (GG c)]) (fun e s => K e (keepSH [] [] s)) = ld00 us (GG c) (br (decide ((lget us 1).toI ≤ IntKind.wrap .u64 c.cap)) (br (decide ((lget us 2).toI = 0)) (br (!decide ((lget us 3).toI = 0)) (K pan (pJ 2)) (ba (okBounds 1 (IntKind.wrap .i64 (1 + nJ us)) (GG c) && Nat.beq us.length (GG c * 4)) false)) (K pan (pJ 2))) (K pan (pJ 2))) := by kernel_rfl
      have hw : IntKind.wrap .u64 c.cap = c.cap := wU (by omega) (by omega)
      have g := fun j (hj : j < us.length) => (hc.2.2 j hj).1
      have hl := hc.1
      have b1 : (decide ((0 : Int) < Int.ofNat (GG c)) && Nat.beq us.length (GG c * 4)) = true := by
        rw [hl, decide_eq_true (p := (0 : Int) < Int.ofNat (GG c)) (by show (0 : Int) < ((GG c : Nat) : Int); omega), Nat.beq_refl]
        rfl
      refine t.trans ?_
      unfold ld00
      refine band b1 (band (Nat.ble_eq_true_of_le (by omega)) (band (g _ (by omega)) (band (g _ (by omega)) (band (g _ (by omega)) (band (g _ (by omega)) (btf (decide_eq_false ?_) (hK _ rfl rfl)))))))
      rw [hw]
      show ¬ cA us 0 ≤ c.cap
      omega
end Go.Bas.BasAvJ4
end
section
namespace Go.Bas.BasAvJ5
open Go.RowKit Go.Proofs
open Go.Bas.BasZBase Go.Bas.BasAvR1 Go.Bas.BasAvR2 Go.Bas.BasAvR3 Go.Bas.BasAvL Go.Bas.BasAvW Go.Bas.BasAvA Go.Bas.BasZRank Go.Bas.BasZRank3 Go.Bas.BasZLev Go.Bas.BasZItems Go.Bas.BasAvI0 Go.Bas.BasAvIE Go.Bas.BasAvIE2 Go.Bas.BasAvI1 Go.Bas.BasAvG Go.Bas.BasAvI2 Go.Bas.BasAvI3 Go.Bas.BasAvI4 Go.Bas.BasAvI5 Go.Bas.BasAvI6 Go.Bas.BasAvI9 Go.Bas.BasAvJ3 Go.Bas.BasAvJ4
set_option maxRecDepth 100000
set_option linter.unusedVariables false
set_option linter.unusedSimpArgs false
theorem lst_lt {c : Conf} (h : IxOk c) {n q i : Nat} (hi : i < itm n (W c) (q + 1)) : lst (W c) i (itm n (W c) q) < itm n (W c) q := by
  have hw : 0 < W c := by have := h.2.2.1; show 0 < c.node.toNat; omega
  have : i * W c < itm n (W c) q := (cdiv_lt hw).1 hi
  unfold lst
  rw [if_neg (by omega)]
  split
  · omega
  · omega
theorem off1 {c : Conf} {q : Nat} (hq : 1 ≤ q) : 1 + CC c ≤ offM (CC c) (W c) q := off_mono (CC c) (W c) (q := 1) (q' := q) hq
theorem place {c : Conf} {q i : Nat} (hq : q < lv c) (hi : i < itm (CC c) (W c) q) : offM (CC c) (W c) q + i < GG c := by
  have o2 : offM (CC c) (W c) (q + 1) = offM (CC c) (W c) q + itm (CC c) (W c) q := rfl
  have o3 : offM (CC c) (W c) (q + 1) ≤ GG c := off_mono _ _ hq
  omega
theorem L2 {c : Conf} {L : RL} {H I p : Nat} : Lw c L H I p 2 = if 1 ≤ p ∧ p ≤ L.length then rv L (p - 1) else 0 := rfl
theorem ix_law {c : Conf} (hx : IxOk c) {us : List AV} (hc : CL us (GG c)) : IxP c us ↔ (IxRows c us (GG c) ∧ Ris (rwX us (cA us 0).toNat)) := by
  have hG := GG_bd hx
  have hv := lv_bd hx
  have hC : (CC c : Int) = c.cap := by have := hx.1; show ((c.cap.toNat : Nat) : Int) = _; omega
  have h0 : 0 ≤ cA us 0 := (hc.2.2 (0 * 4 + 1) (by have := hc.1; omega)).2
  obtain ⟨n, hn⟩ : ∃ n, (cA us 0).toNat = n := ⟨_, rfl⟩
  have ha0 : cA us 0 = (n : Int) := by omega
  have hl := rwX_len us n
  unfold IxP IxRows
  rw [hn]
  by_cases hle : ¬ cA us 0 ≤ c.cap
  · exact ⟨fun h => absurd h.1.1 hle, fun h => absurd h.1.1 hle⟩
  have hle : cA us 0 ≤ c.cap := Classical.not_not.1 hle
  have hnC : n ≤ CC c := by omega
  have hmo := itm_mono (m := n) (m' := CC c) (w := W c) hnC
  constructor
  · rintro ⟨⟨_, hb, hcc⟩, hrow, hlv⟩
    have key : ∀ q, q < lv c → ∀ i, i < itm n (W c) q → cA us (offM (CC c) (W c) q + i) = aT (rwX us n) (W c) q i := fun q => by
      induction q with
      | zero =>
        intro hq i hi
        exact ((rwX_at us n i hi).1).symm
      | succ k ih =>
        intro hq i hi
        have hnb := hlv (k + 1) hq i (Nat.lt_of_lt_of_le hi (hmo _))
        have : cA us (offM (CC c) (W c) (k + 1) + i) = cA us (offM (CC c) (W c) k + lst (W c) i (itm n (W c) k)) := Classical.byContradiction fun hh => hnb (.inr ⟨hi, by omega, fun hd => hh hd.1⟩)
        rw [this, ih (by omega) _ (lst_lt hx hi)]
        show _ = aT (rwX us n) (W c) k (lst (W c) i (itm (rwX us n).length (W c) k))
        rw [hl]
    refine ⟨⟨hle, fun i hi hr => hrow i hi (.inl hr), fun p hp => ?_⟩, fun i hi => ?_⟩
    · by_cases e : p = 0
      · subst e
        refine ⟨?_, ?_, hcc⟩
        · show cA us 0 = ((rwX us n).length : Int)
          rw [hl, ha0]
        · rw [L2, if_neg (by omega)]
          exact hb
      · obtain ⟨q, i, h1, h2, h3⟩ := wv_ex (CC c) (W c) (lv c) p (by omega) hp
        subst h3
        have hnb := hlv q h1 i h2
        unfold CelOk
        rw [Lw_at c (rwX us n) (by omega) h2, L2, hl]
        unfold fL
        rw [hl]
        by_cases hi : i < itm n (W c) q
        · rw [if_pos ⟨hi, .inl h1⟩]
          refine ⟨key q h1 i hi, ?_⟩
          cases q with
          | zero =>
            have hi : i < n := hi
            have hr := hrow i hi
            have eo : offM (CC c) (W c) 0 + i = 1 + i := rfl
            rw [eo, if_pos (by omega), show 1 + i - 1 = i by omega, (rwX_at us n i hi).2]
            exact ⟨rfl, Classical.byContradiction fun hh => hr (.inr (.inl hh))⟩
          | succ k =>
            have := off1 (c := c) (q := k + 1) (by omega)
            rw [if_neg (by omega)]
            exact Classical.byContradiction fun hh => hnb (.inr ⟨hi, by omega, fun hd => hh hd.2⟩)
        · rw [if_neg (fun hh => hi hh.1)]
          have hbare : Bare us (offM (CC c) (W c) q + i) := Classical.byContradiction fun hh => hnb (.inl ⟨by omega, hh⟩)
          have hpn : ¬ (1 ≤ offM (CC c) (W c) q + i ∧ offM (CC c) (W c) q + i ≤ n) := by
            cases q with
            | zero =>
              have hi : ¬ i < n := hi
              have eo : offM (CC c) (W c) 0 = 1 := rfl
              omega
            | succ k =>
              have := off1 (c := c) (q := k + 1) (by omega)
              omega
          rw [if_neg hpn]
          exact hbare
    · rw [hl] at hi
      rw [(rwX_at us n i (by omega)).1, (rwX_at us n (i + 1) hi).1]
      have hr := hrow (i + 1) hi
      have : cA us (1 + (i + 1)) > cA us (i + 1) := Classical.byContradiction fun hh => hr (.inr (.inr ⟨by omega, hh⟩))
      rw [show 1 + i = i + 1 by omega]
      exact this
  · rintro ⟨⟨_, hrow, hcel⟩, hr⟩
    have at1 : ∀ q i, q < lv c → i < itm (CC c) (W c) q → cA us (offM (CC c) (W c) q + i) = fL (rwX us n) (W c) (lv c) 0 q i := fun q i hq hi => by
      have := (hcel _ (place hq hi)).1
      rw [Lw_at c (rwX us n) (by omega) hi] at this
      exact this
    have at3 : ∀ q i, q < lv c → i < itm (CC c) (W c) q → cC us (offM (CC c) (W c) q + i) = 0 := fun q i hq hi => (hcel _ (place hq hi)).2.2
    have at2 : ∀ q i, q < lv c → i < itm (CC c) (W c) q → ¬ (q = 0 ∧ i < n) → cB us (offM (CC c) (W c) q + i) = 0 := fun q i hq hi hh => by
      have := (hcel _ (place hq hi)).2.1
      rw [L2, hl] at this
      rw [this, if_neg]
      cases q with
      | zero =>
        have eo : offM (CC c) (W c) 0 = 1 := rfl
        omega
      | succ k =>
        have := off1 (c := c) (q := k + 1) (by omega)
        omega
    have f1 : ∀ q i, q < lv c → i < itm n (W c) q → cA us (offM (CC c) (W c) q + i) = aT (rwX us n) (W c) q i := fun q i hq hi => by
      rw [at1 q i hq (Nat.lt_of_lt_of_le hi (hmo _))]
      unfold fL
      rw [hl, if_pos ⟨hi, .inl hq⟩]
    refine ⟨⟨hle, ?_, ?_⟩, fun i hi => ?_, fun h hh i hi => ?_⟩
    · have := (hcel 0 (by omega)).2.1
      rw [L2, if_neg (by omega)] at this
      exact this
    · exact (hcel 0 (by omega)).2.2
    · rintro (hh | hh | ⟨y1, y2⟩)
      · exact hrow i hi hh
      · exact hh (hcel (1 + i) (by omega)).2.2
      · have := hr (i - 1) (by omega)
        rw [(rwX_at us n (i - 1) (by omega)).1, (rwX_at us n (i - 1 + 1) (by omega)).1, show 1 + (i - 1) = i by omega, show i - 1 + 1 = i by omega] at this
        exact y2 this
    · rintro (⟨y1, y2⟩ | ⟨y1, y3, y2⟩)
      · refine y2 ⟨?_, at2 h i hh hi ?_, at3 h i hh hi⟩
        · rw [at1 h i hh hi]
          unfold fL
          rw [hl, if_neg (fun hd => by omega)]
        · rintro ⟨e, e2⟩
          subst e
          have y1 : n ≤ i := y1
          omega
      · obtain ⟨k, rfl⟩ : ∃ k, h = k + 1 := ⟨h - 1, by omega⟩
        refine y2 ⟨?_, at2 _ i hh hi (by omega), at3 _ i hh hi⟩
        rw [f1 (k + 1) i hh y1, show k + 1 - 1 = k by omega, f1 k _ (by omega) (lst_lt hx y1)]
        show aT (rwX us n) (W c) k (lst (W c) i (itm (rwX us n).length (W c) k)) = _
        rw [hl]
end Go.Bas.BasAvJ5
end
section
namespace Go.Bas.BasAvK3
open Go.RowKit Go.Proofs
open Go.Bas.BasZBase Go.Bas.BasAvR1 Go.Bas.BasAvR2 Go.Bas.BasAvR3 Go.Bas.BasAvL Go.Bas.BasAvP1 Go.Bas.BasAvP2 Go.Bas.BasAvP4 Go.Bas.BasZRank Go.Bas.BasZLev Go.Bas.BasAvI0 Go.Bas.BasAvI1 Go.Bas.BasAvG Go.Bas.BasAvI3 Go.Bas.BasAvI4 Go.Bas.BasAvV2 Go.Bas.BasAvV3 Go.Bas.BasAvK1 Go.Bas.BasAvK2
set_option maxRecDepth 100000
set_option maxHeartbeats 4000000
set_option linter.unusedVariables false
set_option linter.unusedSimpArgs false
/-- A call at these very arguments. -/
noncomputable def S_e (f : FuncId) (a : List AV) (v : AV) : Sum := (f, fun args => some (onP (args = a), v))
theorem s_e {f : FuncId} {a : List AV} {v : AV} (h : ACalls Tryd.prog (gmap gs) f a (fun x => x = v)) : SumOk Tryd.prog (gmap gs) (S_e f a v) := fun args r hr => by
  have hr : some (onP (args = a), v) = some (true, r) := hr
  simp only [Option.some.injEq, Prod.mk.injEq] at hr
  obtain ⟨h1, rfl⟩ := hr
  have h1 := of_onP h1
  subst h1
  exact h
noncomputable abbrev cfV (T : TypeId) (c : Conf) (us : List AV) (m : Nat) : List Sum := [S_sz, S_e 10 [agC c us m] (.iface T (agC c us m))]
noncomputable def mS (c : Conf) (e : Int) (v : AV) : Mem := ⟨[(2, ⟨[.int .i64 e], 27, true⟩), (1, ⟨[v], 26, true⟩), (0, ⟨c.cells, 24, true⟩)], 3, []⟩
noncomputable def SD (c : Conf) (us : List AV) (m : Nat) : St := ⟨[.any, .lst us m, .ptr 0 0, .any, .ptr 1 0, .ptr 2 0, .any, .any, .any, .any, .any, .any, .any, .any, .any, .any, .any, .any, .any, .any, .any, .any, .any, .any, .any], [], mS c (errC c) .nils⟩
noncomputable def mE (e : Int) (v : AV) : Mem := ⟨[(2, ⟨[.int .i64 e], 27, true⟩), (1, ⟨[v], 26, true⟩)], 3, []⟩
noncomputable def SE (e : Int) (v : AV) : St := ⟨[.any, .any, .any, .any, .ptr 1 0, .ptr 2 0, .any, .any, .any, .any, .any, .any, .any, .any, .any, .any, .any, .any, .any, .any, .any, .any, .any, .any, .any], [], mE e v⟩
theorem nrA (c : Conf) (us : List AV) (m : Nat) : [agC c us m].all (AV.noRef 6) = true := by kernel_rfl

/-! routes -/
theorem t_of1 (c : Conf) (us : List AV) (m : Nat) (K : AV → Bool) : runFM (cfg []) 300 10 [] [agC (BasAvG.setO c 1 c.bits) us m] K = K (.iface 54 (agC (BasAvG.setO c 1 c.bits) us m)) := by kernel_rfl
theorem q_of1 {c : Conf} (h : c.ob = 1) (us : List AV) (m : Nat) : ACalls Tryd.prog (gmap gs) 10 [agC c us m] (fun v => v = .iface 54 (agC c us m)) := by
  rw [BasAvG.setO_is h rfl]
  exact acalls_eqM (q := fun _ => false) base sums_nil (n := 300) (fs := []) (by kernel_rfl) trivial fun K hK => (t_of1 c us m K).trans hK
theorem h1 {c : Conf} (h : c.ob = 1) (us : List AV) (m : Nat) : (cfg (cfV 54 c us m)).Ok := cfg_ok base (sums_cons s_sz (sums_cons (s_e (q_of1 h us m)) sums_nil))
theorem t1_1 (c : Conf) (us : List AV) (m : Nat) (K : St → Bool) : runs (cfg (cfV 54 c us m)) 300 vps ⟨padL [c.av, .lst us m] 25, [], ⟨[], 0, []⟩⟩ (fun s => K (keepSN [1, 2, 4, 5] [0, 1, 2] s)) false = br (!decide (errC c = 0)) false (br (!decide (Int.ofNat m = szG c)) false (K (SD c us m))) := by kernel_rfl
theorem t2n_1 (c : Conf) (us : List AV) (m : Nat) (r : Option (List AV × Nat)) (k : St → Bool) (kp : AV → St → Bool) : opsK (cfg (cfV 54 c us m)) (callX (cfg (cfV 54 c us m)) (run (cfg (cfV 54 c us m)) 300) 54 [agC c us m] (mS c (errC c) .nils) false (rowsV r) (mS c (errC c) .nils)) (opsOf vL) (opsOf vL).toList (SD c us m) (fun s => k (keepSN [4, 5] [1, 2] s)) kp false =
    ba (onP ([agC c us m] = [agC c us m])) (ba (onP ([agC c us m] = [agC c us m] ∧ mS c (errC c) .nils = mS c (errC c) .nils)) (k (SE 0 (rowsV r)))) := by
  cases r with
  | none => kernel_rfl
  | some p => obtain ⟨a, b⟩ := p; kernel_rfl
theorem t2p_1 (c : Conf) (us : List AV) (m : Nat) (v : AV) (k : St → Bool) (kp : AV → St → Bool) : opsK (cfg (cfV 54 c us m)) (callX (cfg (cfV 54 c us m)) (run (cfg (cfV 54 c us m)) 300) 54 [agC c us m] (mS c (errC c) .nils) true v (mS c (errC c) .nils)) (opsOf vL) (opsOf vL).toList (SD c us m) k (fun v s => kp v (keepSN [4, 5] [1, 2] s)) false =
    ba (onP ([agC c us m] = [agC c us m])) (ba (onP ([agC c us m] = [agC c us m] ∧ mS c (errC c) .nils = mS c (errC c) .nils)) (kp v (SE (errC c) .nils))) := by kernel_rfl
theorem t3_1 (c : Conf) (us : List AV) (m : Nat) (e : Int) (v : AV) (k : Ex → St → Bool) : run (cfg (cfV 54 c us m)) 300 none none kY ⟨[.ptr 1 0, .ptr 2 0, .any, .any], [], (SE e v).m⟩ (fun e s => k e (keepSN [] [1, 2] s)) false = k .normal ⟨[.any, .any, .any, .any], [], mE 2 .nils⟩ := by kernel_rfl
theorem t4_1 (c : Conf) (us : List AV) (m : Nat) (e : Int) (r : Option (List AV × Nat)) (k : AV → Bool) : resKs (cfg (cfV 54 c us m)) (SE e (rowsV r)) [.cell 4 26, .cell 5 27] (fun vs => freezeK (SE e (rowsV r)).m.heap 6 (tupOf vs) k false) false = k (.tup [rowsV r, .int .i64 e]) := by
  cases r with
  | none => kernel_rfl
  | some p => obtain ⟨a, b⟩ := p; kernel_rfl
theorem t5_1 (c : Conf) (us : List AV) (m : Nat) (e : Int) (k : AV → Bool) : resKs (cfg (cfV 54 c us m)) ⟨(SE e .nils).tmps, [], mE 2 .nils⟩ [.cell 4 26, .cell 5 27] (fun vs => freezeK (mE 2 .nils).heap 6 (tupOf vs) k false) false = k (.tup [.nils, .int .i64 2]) := by kernel_rfl
theorem T1_1 {c : Conf} (hk : c.OkP) (us : List AV) {m : Nat} (hm : (m : Int) = grI c) : runs (cfg (cfV 54 c us m)) 300 vps ⟨padL [c.av, .lst us m] 25, [], ⟨[], 0, []⟩⟩ (fun s => onP (keepSN [1, 2, 4, 5] [0, 1, 2] s = SD c us m)) false = true :=
  (t1_1 c us m (fun s => onP (s = SD c us m))).trans (btf (by rw [errC_ok hk]; rfl) (btf (by rw [decide_eq_true (show Int.ofNat m = szG c from hm.trans (if_pos hk).symm)]; rfl) (onP_true rfl)))
theorem n_1 {c : Conf} (ho : c.ob = 1) (hk : c.OkP) {us : List AV} {m : Nat} (hm : (m : Int) = grI c) {r : Option (List AV × Nat)} (hq : ACalls Tryd.prog (gmap gs) 54 [agC c us m] (fun v => v = rowsV r)) : ACalls Tryd.prog (gmap gs) 4 [c.av, .lst us m] (fun v => v = .tup [rowsV r, .int .i64 0]) := by
  refine ACalls.mono (fun v hv => of_onP hv) (view_norm (h1 ho us m) (k := fun v => onP (v = .tup [rowsV r, .int .i64 0])) (callX_ok (h1 ho us m) (run_sound (h1 ho us m) 300).1 (by kernel_rfl) (xcalls_of_acalls (nrA c us m) hq (mS c (errC c) .nils))) (T1_1 hk us hm) rfl (i4 := 1) (i5 := 2) rfl rfl (by kernel_rfl) (by kernel_rfl)
    ((t2n_1 c us m r (fun s => onP (s = SE 0 (rowsV r))) _).trans (band (onP_true rfl) (band (onP_true ⟨rfl, rfl⟩) (onP_true rfl)))) ((t4_1 c us m 0 r _).trans (onP_true rfl)))
theorem p_1 {c : Conf} (ho : c.ob = 1) (hk : c.OkP) {us : List AV} {m : Nat} (hm : (m : Int) = grI c) (hq : PCalls Tryd.prog (gmap gs) 54 [agC c us m] 27 .i64 2) : ACalls Tryd.prog (gmap gs) 4 [c.av, .lst us m] (fun v => v = .tup [.nils, .int .i64 2]) := by
  refine ACalls.mono (fun v hv => of_onP hv) (view_pan (h1 ho us m) (k := fun v => onP (v = .tup [.nils, .int .i64 2])) (callX_ok (h1 ho us m) (run_sound (h1 ho us m) 300).1 (by kernel_rfl) (xcalls_of_pcalls (nrA c us m) hq (mS c (errC c) .nils))) (T1_1 hk us hm) rfl (i4 := 1) (i5 := 2) rfl rfl (by kernel_rfl) (by kernel_rfl)
    ((t2p_1 c us m (.iface 27 (.int .i64 2)) _ (fun v s => onP (v = .iface 27 (.int .i64 2) ∧ s = SE (errC c) .nils))).trans (band (onP_true rfl) (band (onP_true ⟨rfl, rfl⟩) (onP_true ⟨rfl, rfl⟩)))) rfl (t3_1 c us m (errC c) .nils) ((t5_1 c us m (errC c) _).trans (onP_true rfl)))

/-! index -/
theorem t_of2 (c : Conf) (us : List AV) (m : Nat) (K : AV → Bool) : runFM (cfg []) 300 10 [] [agC (BasAvG.setO c 2 c.bits) us m] K = K (.iface 55 (agC (BasAvG.setO c 2 c.bits) us m)) := by kernel_rfl
theorem q_of2 {c : Conf} (h : c.ob = 2) (us : List AV) (m : Nat) : ACalls Tryd.prog (gmap gs) 10 [agC c us m] (fun v => v = .iface 55 (agC c us m)) := by
  rw [BasAvG.setO_is h rfl]
  exact acalls_eqM (q := fun _ => false) base sums_nil (n := 300) (fs := []) (by kernel_rfl) trivial fun K hK => (t_of2 c us m K).trans hK
theorem h2 {c : Conf} (h : c.ob = 2) (us : List AV) (m : Nat) : (cfg (cfV 55 c us m)).Ok := cfg_ok base (sums_cons s_sz (sums_cons (s_e (q_of2 h us m)) sums_nil))
theorem t1_2 (c : Conf) (us : List AV) (m : Nat) (K : St → Bool) : runs (cfg (cfV 55 c us m)) 300 vps ⟨padL [c.av, .lst us m] 25, [], ⟨[], 0, []⟩⟩ (fun s => K (keepSN [1, 2, 4, 5] [0, 1, 2] s)) false = br (!decide (errC c = 0)) false (br (!decide (Int.ofNat m = szG c)) false (K (SD c us m))) := by kernel_rfl
theorem t2n_2 (c : Conf) (us : List AV) (m : Nat) (r : Option (List AV × Nat)) (k : St → Bool) (kp : AV → St → Bool) : opsK (cfg (cfV 55 c us m)) (callX (cfg (cfV 55 c us m)) (run (cfg (cfV 55 c us m)) 300) 57 [agC c us m] (mS c (errC c) .nils) false (rowsV r) (mS c (errC c) .nils)) (opsOf vL) (opsOf vL).toList (SD c us m) (fun s => k (keepSN [4, 5] [1, 2] s)) kp false =
    ba (onP ([agC c us m] = [agC c us m])) (ba (onP ([agC c us m] = [agC c us m] ∧ mS c (errC c) .nils = mS c (errC c) .nils)) (k (SE 0 (rowsV r)))) := by
  cases r with
  | none => kernel_rfl
  | some p => obtain ⟨a, b⟩ := p; kernel_rfl
theorem t2p_2 (c : Conf) (us : List AV) (m : Nat) (v : AV) (k : St → Bool) (kp : AV → St → Bool) : opsK (cfg (cfV 55 c us m)) (callX (cfg (cfV 55 c us m)) (run (cfg (cfV 55 c us m)) 300) 57 [agC c us m] (mS c (errC c) .nils) true v (mS c (errC c) .nils)) (opsOf vL) (opsOf vL).toList (SD c us m) k (fun v s => kp v (keepSN [4, 5] [1, 2] s)) false =
    ba (onP ([agC c us m] = [agC c us m])) (ba (onP ([agC c us m] = [agC c us m] ∧ mS c (errC c) .nils = mS c (errC c) .nils)) (kp v (SE (errC c) .nils))) := by kernel_rfl
theorem t3_2 (c : Conf) (us : List AV) (m : Nat) (e : Int) (v : AV) (k : Ex → St → Bool) : run (cfg (cfV 55 c us m)) 300 none none kY ⟨[.ptr 1 0, .ptr 2 0, .any, .any], [], (SE e v).m⟩ (fun e s => k e (keepSN [] [1, 2] s)) false = k .normal ⟨[.any, .any, .any, .any], [], mE 2 .nils⟩ := by kernel_rfl
theorem t4_2 (c : Conf) (us : List AV) (m : Nat) (e : Int) (r : Option (List AV × Nat)) (k : AV → Bool) : resKs (cfg (cfV 55 c us m)) (SE e (rowsV r)) [.cell 4 26, .cell 5 27] (fun vs => freezeK (SE e (rowsV r)).m.heap 6 (tupOf vs) k false) false = k (.tup [rowsV r, .int .i64 e]) := by
  cases r with
  | none => kernel_rfl
  | some p => obtain ⟨a, b⟩ := p; kernel_rfl
theorem t5_2 (c : Conf) (us : List AV) (m : Nat) (e : Int) (k : AV → Bool) : resKs (cfg (cfV 55 c us m)) ⟨(SE e .nils).tmps, [], mE 2 .nils⟩ [.cell 4 26, .cell 5 27] (fun vs => freezeK (mE 2 .nils).heap 6 (tupOf vs) k false) false = k (.tup [.nils, .int .i64 2]) := by kernel_rfl
theorem T1_2 {c : Conf} (hk : c.OkP) (us : List AV) {m : Nat} (hm : (m : Int) = grI c) : runs (cfg (cfV 55 c us m)) 300 vps ⟨padL [c.av, .lst us m] 25, [], ⟨[], 0, []⟩⟩ (fun s => onP (keepSN [1, 2, 4, 5] [0, 1, 2] s = SD c us m)) false = true :=
  (t1_2 c us m (fun s => onP (s = SD c us m))).trans (btf (by rw [errC_ok hk]; rfl) (btf (by rw [decide_eq_true (show Int.ofNat m = szG c from hm.trans (if_pos hk).symm)]; rfl) (onP_true rfl)))
theorem n_2 {c : Conf} (ho : c.ob = 2) (hk : c.OkP) {us : List AV} {m : Nat} (hm : (m : Int) = grI c) {r : Option (List AV × Nat)} (hq : ACalls Tryd.prog (gmap gs) 57 [agC c us m] (fun v => v = rowsV r)) : ACalls Tryd.prog (gmap gs) 4 [c.av, .lst us m] (fun v => v = .tup [rowsV r, .int .i64 0]) := by
  refine ACalls.mono (fun v hv => of_onP hv) (view_norm (h2 ho us m) (k := fun v => onP (v = .tup [rowsV r, .int .i64 0])) (callX_ok (h2 ho us m) (run_sound (h2 ho us m) 300).1 (by kernel_rfl) (xcalls_of_acalls (nrA c us m) hq (mS c (errC c) .nils))) (T1_2 hk us hm) rfl (i4 := 1) (i5 := 2) rfl rfl (by kernel_rfl) (by kernel_rfl)
    ((t2n_2 c us m r (fun s => onP (s = SE 0 (rowsV r))) _).trans (band (onP_true rfl) (band (onP_true ⟨rfl, rfl⟩) (onP_true rfl)))) ((t4_2 c us m 0 r _).trans (onP_true rfl)))
theorem p_2 {c : Conf} (ho : c.ob = 2) (hk : c.OkP) {us : List AV} {m : Nat} (hm : (m : Int) = grI c) (hq : PCalls Tryd.prog (gmap gs) 57 [agC c us m] 27 .i64 2) : ACalls Tryd.prog (gmap gs) 4 [c.av, .lst us m] (fun v => v = .tup [.nils, .int .i64 2]) := by
  refine ACalls.mono (fun v hv => of_onP hv) (view_pan (h2 ho us m) (k := fun v => onP (v = .tup [.nils, .int .i64 2])) (callX_ok (h2 ho us m) (run_sound (h2 ho us m) 300).1 (by kernel_rfl) (xcalls_of_pcalls (nrA c us m) hq (mS c (errC c) .nils))) (T1_2 hk us hm) rfl (i4 := 1) (i5 := 2) rfl rfl (by kernel_rfl) (by kernel_rfl)
    ((t2p_2 c us m (.iface 27 (.int .i64 2)) _ (fun v s => onP (v = .iface 27 (.int .i64 2) ∧ s = SE (errC c) .nils))).trans (band (onP_true rfl) (band (onP_true ⟨rfl, rfl⟩) (onP_true ⟨rfl, rfl⟩)))) rfl (t3_2 c us m (errC c) .nils) ((t5_2 c us m (errC c) _).trans (onP_true rfl)))

/-! access -/
theorem t_of3 (c : Conf) (us : List AV) (m : Nat) (K : AV → Bool) : runFM (cfg []) 300 10 [] [agC (BasAvG.setO c 3 c.bits) us m] K = K (.iface 56 (agC (BasAvG.setO c 3 c.bits) us m)) := by kernel_rfl
theorem q_of3 {c : Conf} (h : c.ob = 3) (us : List AV) (m : Nat) : ACalls Tryd.prog (gmap gs) 10 [agC c us m] (fun v => v = .iface 56 (agC c us m)) := by
  rw [BasAvG.setO_is h rfl]
  exact acalls_eqM (q := fun _ => false) base sums_nil (n := 300) (fs := []) (by kernel_rfl) trivial fun K hK => (t_of3 c us m K).trans hK
theorem h3 {c : Conf} (h : c.ob = 3) (us : List AV) (m : Nat) : (cfg (cfV 56 c us m)).Ok := cfg_ok base (sums_cons s_sz (sums_cons (s_e (q_of3 h us m)) sums_nil))
theorem t1_3 (c : Conf) (us : List AV) (m : Nat) (K : St → Bool) : runs (cfg (cfV 56 c us m)) 300 vps ⟨padL [c.av, .lst us m] 25, [], ⟨[], 0, []⟩⟩ (fun s => K (keepSN [1, 2, 4, 5] [0, 1, 2] s)) false = br (!decide (errC c = 0)) false (br (!decide (Int.ofNat m = szG c)) false (K (SD c us m))) := by kernel_rfl
theorem t2n_3 (c : Conf) (us : List AV) (m : Nat) (r : Option (List AV × Nat)) (k : St → Bool) (kp : AV → St → Bool) : opsK (cfg (cfV 56 c us m)) (callX (cfg (cfV 56 c us m)) (run (cfg (cfV 56 c us m)) 300) 60 [agC c us m] (mS c (errC c) .nils) false (rowsV r) (mS c (errC c) .nils)) (opsOf vL) (opsOf vL).toList (SD c us m) (fun s => k (keepSN [4, 5] [1, 2] s)) kp false =
    ba (onP ([agC c us m] = [agC c us m])) (ba (onP ([agC c us m] = [agC c us m] ∧ mS c (errC c) .nils = mS c (errC c) .nils)) (k (SE 0 (rowsV r)))) := by
  cases r with
  | none => kernel_rfl
  | some p => obtain ⟨a, b⟩ := p; kernel_rfl
theorem t2p_3 (c : Conf) (us : List AV) (m : Nat) (v : AV) (k : St → Bool) (kp : AV → St → Bool) : opsK (cfg (cfV 56 c us m)) (callX (cfg (cfV 56 c us m)) (run (cfg (cfV 56 c us m)) 300) 60 [agC c us m] (mS c (errC c) .nils) true v (mS c (errC c) .nils)) (opsOf vL) (opsOf vL).toList (SD c us m) k (fun v s => kp v (keepSN [4, 5] [1, 2] s)) false =
    ba (onP ([agC c us m] = [agC c us m])) (ba (onP ([agC c us m] = [agC c us m] ∧ mS c (errC c) .nils = mS c (errC c) .nils)) (kp v (SE (errC c) .nils))) := by kernel_rfl
theorem t3_3 (c : Conf) (us : List AV) (m : Nat) (e : Int) (v : AV) (k : Ex → St → Bool) : run (cfg (cfV 56 c us m)) 300 none none kY ⟨[.ptr 1 0, .ptr 2 0, .any, .any], [], (SE e v).m⟩ (fun e s => k e (keepSN [] [1, 2] s)) false = k .normal ⟨[.any, .any, .any, .any], [], mE 2 .nils⟩ := by kernel_rfl
theorem t4_3 (c : Conf) (us : List AV) (m : Nat) (e : Int) (r : Option (List AV × Nat)) (k : AV → Bool) : resKs (cfg (cfV 56 c us m)) (SE e (rowsV r)) [.cell 4 26, .cell 5 27] (fun vs => freezeK (SE e (rowsV r)).m.heap 6 (tupOf vs) k false) false = k (.tup [rowsV r, .int .i64 e]) := by
  cases r with
  | none => kernel_rfl
  | some p => obtain ⟨a, b⟩ := p; kernel_rfl
theorem t5_3 (c : Conf) (us : List AV) (m : Nat) (e : Int) (k : AV → Bool) : resKs (cfg (cfV 56 c us m)) ⟨(SE e .nils).tmps, [], mE 2 .nils⟩ [.cell 4 26, .cell 5 27] (fun vs => freezeK (mE 2 .nils).heap 6 (tupOf vs) k false) false = k (.tup [.nils, .int .i64 2]) := by kernel_rfl
theorem T1_3 {c : Conf} (hk : c.OkP) (us : List AV) {m : Nat} (hm : (m : Int) = grI c) : runs (cfg (cfV 56 c us m)) 300 vps ⟨padL [c.av, .lst us m] 25, [], ⟨[], 0, []⟩⟩ (fun s => onP (keepSN [1, 2, 4, 5] [0, 1, 2] s = SD c us m)) false = true :=
  (t1_3 c us m (fun s => onP (s = SD c us m))).trans (btf (by rw [errC_ok hk]; rfl) (btf (by rw [decide_eq_true (show Int.ofNat m = szG c from hm.trans (if_pos hk).symm)]; rfl) (onP_true rfl)))
theorem n_3 {c : Conf} (ho : c.ob = 3) (hk : c.OkP) {us : List AV} {m : Nat} (hm : (m : Int) = grI c) {r : Option (List AV × Nat)} (hq : ACalls Tryd.prog (gmap gs) 60 [agC c us m] (fun v => v = rowsV r)) : ACalls Tryd.prog (gmap gs) 4 [c.av, .lst us m] (fun v => v = .tup [rowsV r, .int .i64 0]) := by
  refine ACalls.mono (fun v hv => of_onP hv) (view_norm (h3 ho us m) (k := fun v => onP (v = .tup [rowsV r, .int .i64 0])) (callX_ok (h3 ho us m) (run_sound (h3 ho us m) 300).1 (by kernel_rfl) (xcalls_of_acalls (nrA c us m) hq (mS c (errC c) .nils))) (T1_3 hk us hm) rfl (i4 := 1) (i5 := 2) rfl rfl (by kernel_rfl) (by kernel_rfl)
    ((t2n_3 c us m r (fun s => onP (s = SE 0 (rowsV r))) _).trans (band (onP_true rfl) (band (onP_true ⟨rfl, rfl⟩) (onP_true rfl)))) ((t4_3 c us m 0 r _).trans (onP_true rfl)))
theorem p_3 {c : Conf} (ho : c.ob = 3) (hk : c.OkP) {us : List AV} {m : Nat} (hm : (m : Int) = grI c) (hq : PCalls Tryd.prog (gmap gs) 60 [agC c us m] 27 .i64 2) : ACalls Tryd.prog (gmap gs) 4 [c.av, .lst us m] (fun v => v = .tup [.nils, .int .i64 2]) := by
  refine ACalls.mono (fun v hv => of_onP hv) (view_pan (h3 ho us m) (k := fun v => onP (v = .tup [.nils, .int .i64 2])) (callX_ok (h3 ho us m) (run_sound (h3 ho us m) 300).1 (by kernel_rfl) (xcalls_of_pcalls (nrA c us m) hq (mS c (errC c) .nils))) (T1_3 hk us hm) rfl (i4 := 1) (i5 := 2) rfl rfl (by kernel_rfl) (by kernel_rfl)
    ((t2p_3 c us m (.iface 27 (.int .i64 2)) _ (fun v s => onP (v = .iface 27 (.int .i64 2) ∧ s = SE (errC c) .nils))).trans (band (onP_true rfl) (band (onP_true ⟨rfl, rfl⟩) (onP_true ⟨rfl, rfl⟩)))) rfl (t3_3 c us m (errC c) .nils) ((t5_3 c us m (errC c) _).trans (onP_true rfl)))

/-! tree -/
theorem t_of4 (c : Conf) (us : List AV) (m : Nat) (K : AV → Bool) : runFM (cfg []) 300 10 [] [agC (BasAvG.setO c 4 c.bits) us m] K = K (.iface 57 (agC (BasAvG.setO c 4 c.bits) us m)) := by kernel_rfl
theorem q_of4 {c : Conf} (h : c.ob = 4) (us : List AV) (m : Nat) : ACalls Tryd.prog (gmap gs) 10 [agC c us m] (fun v => v = .iface 57 (agC c us m)) := by
  rw [BasAvG.setO_is h rfl]
  exact acalls_eqM (q := fun _ => false) base sums_nil (n := 300) (fs := []) (by kernel_rfl) trivial fun K hK => (t_of4 c us m K).trans hK
theorem h4 {c : Conf} (h : c.ob = 4) (us : List AV) (m : Nat) : (cfg (cfV 57 c us m)).Ok := cfg_ok base (sums_cons s_sz (sums_cons (s_e (q_of4 h us m)) sums_nil))
theorem t1_4 (c : Conf) (us : List AV) (m : Nat) (K : St → Bool) : runs (cfg (cfV 57 c us m)) 300 vps ⟨padL [c.av, .lst us m] 25, [], ⟨[], 0, []⟩⟩ (fun s => K (keepSN [1, 2, 4, 5] [0, 1, 2] s)) false = br (!decide (errC c = 0)) false (br (!decide (Int.ofNat m = szG c)) false (K (SD c us m))) := by kernel_rfl
theorem t2n_4 (c : Conf) (us : List AV) (m : Nat) (r : Option (List AV × Nat)) (k : St → Bool) (kp : AV → St → Bool) : opsK (cfg (cfV 57 c us m)) (callX (cfg (cfV 57 c us m)) (run (cfg (cfV 57 c us m)) 300) 85 [agC c us m] (mS c (errC c) .nils) false (rowsV r) (mS c (errC c) .nils)) (opsOf vL) (opsOf vL).toList (SD c us m) (fun s => k (keepSN [4, 5] [1, 2] s)) kp false =
    ba (onP ([agC c us m] = [agC c us m])) (ba (onP ([agC c us m] = [agC c us m] ∧ mS c (errC c) .nils = mS c (errC c) .nils)) (k (SE 0 (rowsV r)))) := by
  cases r with
  | none => kernel_rfl
  | some p => obtain ⟨a, b⟩ := p; kernel_rfl
theorem t2p_4 (c : Conf) (us : List AV) (m : Nat) (v : AV) (k : St → Bool) (kp : AV → St → Bool) : opsK (cfg (cfV 57 c us m)) (callX (cfg (cfV 57 c us m)) (run (cfg (cfV 57 c us m)) 300) 85 [agC c us m] (mS c (errC c) .nils) true v (mS c (errC c) .nils)) (opsOf vL) (opsOf vL).toList (SD c us m) k (fun v s => kp v (keepSN [4, 5] [1, 2] s)) false =
    ba (onP ([agC c us m] = [agC c us m])) (ba (onP ([agC c us m] = [agC c us m] ∧ mS c (errC c) .nils = mS c (errC c) .nils)) (kp v (SE (errC c) .nils))) := by kernel_rfl
theorem t3_4 (c : Conf) (us : List AV) (m : Nat) (e : Int) (v : AV) (k : Ex → St → Bool) : run (cfg (cfV 57 c us m)) 300 none none kY ⟨[.ptr 1 0, .ptr 2 0, .any, .any], [], (SE e v).m⟩ (fun e s => k e (keepSN [] [1, 2] s)) false = k .normal ⟨[.any, .any, .any, .any], [], mE 2 .nils⟩ := by kernel_rfl
theorem t4_4 (c : Conf) (us : List AV) (m : Nat) (e : Int) (r : Option (List AV × Nat)) (k : AV → Bool) : resKs (cfg (cfV 57 c us m)) (SE e (rowsV r)) [.cell 4 26, .cell 5 27] (fun vs => freezeK (SE e (rowsV r)).m.heap 6 (tupOf vs) k false) false = k (.tup [rowsV r, .int .i64 e]) := by
  cases r with
  | none => kernel_rfl
  | some p => obtain ⟨a, b⟩ := p; kernel_rfl
theorem t5_4 (c : Conf) (us : List AV) (m : Nat) (e : Int) (k : AV → Bool) : resKs (cfg (cfV 57 c us m)) ⟨(SE e .nils).tmps, [], mE 2 .nils⟩ [.cell 4 26, .cell 5 27] (fun vs => freezeK (mE 2 .nils).heap 6 (tupOf vs) k false) false = k (.tup [.nils, .int .i64 2]) := by kernel_rfl
theorem T1_4 {c : Conf} (hk : c.OkP) (us : List AV) {m : Nat} (hm : (m : Int) = grI c) : runs (cfg (cfV 57 c us m)) 300 vps ⟨padL [c.av, .lst us m] 25, [], ⟨[], 0, []⟩⟩ (fun s => onP (keepSN [1, 2, 4, 5] [0, 1, 2] s = SD c us m)) false = true :=
  (t1_4 c us m (fun s => onP (s = SD c us m))).trans (btf (by rw [errC_ok hk]; rfl) (btf (by rw [decide_eq_true (show Int.ofNat m = szG c from hm.trans (if_pos hk).symm)]; rfl) (onP_true rfl)))
theorem n_4 {c : Conf} (ho : c.ob = 4) (hk : c.OkP) {us : List AV} {m : Nat} (hm : (m : Int) = grI c) {r : Option (List AV × Nat)} (hq : ACalls Tryd.prog (gmap gs) 85 [agC c us m] (fun v => v = rowsV r)) : ACalls Tryd.prog (gmap gs) 4 [c.av, .lst us m] (fun v => v = .tup [rowsV r, .int .i64 0]) := by
  refine ACalls.mono (fun v hv => of_onP hv) (view_norm (h4 ho us m) (k := fun v => onP (v = .tup [rowsV r, .int .i64 0])) (callX_ok (h4 ho us m) (run_sound (h4 ho us m) 300).1 (by kernel_rfl) (xcalls_of_acalls (nrA c us m) hq (mS c (errC c) .nils))) (T1_4 hk us hm) rfl (i4 := 1) (i5 := 2) rfl rfl (by kernel_rfl) (by kernel_rfl)
    ((t2n_4 c us m r (fun s => onP (s = SE 0 (rowsV r))) _).trans (band (onP_true rfl) (band (onP_true ⟨rfl, rfl⟩) (onP_true rfl)))) ((t4_4 c us m 0 r _).trans (onP_true rfl)))
theorem p_4 {c : Conf} (ho : c.ob = 4) (hk : c.OkP) {us : List AV} {m : Nat} (hm : (m : Int) = grI c) (hq : PCalls Tryd.prog (gmap gs) 85 [agC c us m] 27 .i64 2) : ACalls Tryd.prog (gmap gs) 4 [c.av, .lst us m] (fun v => v = .tup [.nils, .int .i64 2]) := by
  refine ACalls.mono (fun v hv => of_onP hv) (view_pan (h4 ho us m) (k := fun v => onP (v = .tup [.nils, .int .i64 2])) (callX_ok (h4 ho us m) (run_sound (h4 ho us m) 300).1 (by kernel_rfl) (xcalls_of_pcalls (nrA c us m) hq (mS c (errC c) .nils))) (T1_4 hk us hm) rfl (i4 := 1) (i5 := 2) rfl rfl (by kernel_rfl) (by kernel_rfl)
    ((t2p_4 c us m (.iface 27 (.int .i64 2)) _ (fun v s => onP (v = .iface 27 (.int .i64 2) ∧ s = SE (errC c) .nils))).trans (band (onP_true rfl) (band (onP_true ⟨rfl, rfl⟩) (onP_true ⟨rfl, rfl⟩)))) rfl (t3_4 c us m (errC c) .nils) ((t5_4 c us m (errC c) _).trans (onP_true rfl)))
end Go.Bas.BasAvK3
end
section
namespace Go.Bas.BasAvK4
open Go.RowKit Go.Proofs
open Go.Bas.BasZBase Go.Bas.BasAvR1 Go.Bas.BasAvR2 Go.Bas.BasAvR3 Go.Bas.BasAvL Go.Bas.BasAvP1 Go.Bas.BasAvP2 Go.Bas.BasAvP4 Go.Bas.BasAvA Go.Bas.BasAvT Go.Bas.BasAvT2 Go.Bas.BasAvS Go.Bas.BasAvS2 Go.Bas.BasAvS3 Go.Bas.BasAvS4 Go.Bas.BasAvB Go.Bas.BasAvB2 Go.Bas.BasAvQ Go.Bas.BasZRank Go.Bas.BasZLev Go.Bas.BasAvI0 Go.Bas.BasAvI1 Go.Bas.BasAvG Go.Bas.BasAvI3 Go.Bas.BasAvI4 Go.Bas.BasAvI5 Go.Bas.BasAvI6 Go.Bas.BasAvI9 Go.Bas.BasAvC Go.Bas.BasAvC2 Go.Bas.BasAvC3 Go.Bas.BasAvC4 Go.Bas.BasAvC5 Go.Bas.BasAvV2 Go.Bas.BasAvV3 Go.Bas.BasAvJ4 Go.Bas.BasAvJ5 Go.Bas.BasAvK1 Go.Bas.BasAvK2 Go.Bas.BasAvK3
set_option maxRecDepth 100000
set_option maxHeartbeats 4000000
set_option linter.unusedVariables false
set_option linter.unusedSimpArgs false
theorem t_vwN (c : Conf) (us : List AV) (m : Nat) (K : AV → Bool) : runFM (cfg [S_sz]) 300 4 [] [c.av, .lst us m] K = br (!decide (errC c = 0)) (K (.tup [.nils, .int .i64 (errC c)])) (br (!decide (Int.ofNat m = szG c)) (K (.tup [.nils, .int .i64 2])) false) := by kernel_rfl
theorem q_vwNo {c : Conf} {us : List AV} {m : Nat} (hk : ¬ c.OkP) : ACalls Tryd.prog (gmap gs) 4 [c.av, .lst us m] (fun v => v = .tup [.nils, .int .i64 40]) := by
  refine acalls_eqM (q := fun _ => false) base (sums_cons s_sz sums_nil) (n := 300) (fs := []) (by kernel_rfl) trivial fun K hK => ?_
  exact (t_vwN c us m K).trans (btb (by rw [errC_no hk]; rfl) (by rw [errC_no hk]; exact hK))
theorem q_vwM {c : Conf} {us : List AV} {m : Nat} (hk : c.OkP) (hm : (m : Int) ≠ grI c) : ACalls Tryd.prog (gmap gs) 4 [c.av, .lst us m] (fun v => v = .tup [.nils, .int .i64 2]) := by
  refine acalls_eqM (q := fun _ => false) base (sums_cons s_sz sums_nil) (n := 300) (fs := []) (by kernel_rfl) trivial fun K hK => ?_
  exact (t_vwN c us m K).trans (btf (by rw [errC_ok hk]; rfl) (btb (by rw [decide_eq_false (show ¬ Int.ofNat m = szG c from fun h => hm (h.trans (if_pos hk)))]; rfl) hK))
theorem q_viewP {c : Conf} {us : List AV} {m : Nat} (hk : c.OkP) (hc : CL us m) : ACalls Tryd.prog (gmap gs) 4 [c.av, .lst us m] (fun v => v = vwV (rwsP c us m)) := by
  unfold rwsP
  by_cases hm' : (m : Int) ≠ grI c
  · rw [if_pos hm']
    exact q_vwM hk hm'
  have hm : (m : Int) = grI c := Classical.not_not.1 hm'
  rw [if_neg hm']
  have hob : c.ob = 1 ∨ c.ob = 2 ∨ c.ob = 3 ∨ c.ob = 4 := by unfold Conf.OkP at hk; omega
  have hcap : 1 ≤ c.cap ∧ c.cap ≤ 32 := by unfold Conf.OkP at hk; omega
  rcases hob with h | h | h | h
  · rw [if_pos h]
    have h2 : 2 ≤ m := by have := gr_two hk h; omega
    by_cases hr : RouteOk c us m
    · rw [if_pos hr]
      exact n_1 h hk hm (q_rtP hc h2 hk hr)
    · rw [if_neg hr]
      exact p_1 h hk hm (p_rtP hc h2 hk hr)
  · rw [if_neg (by omega), if_pos h]
    have hx : IxOk c := by
      unfold Conf.OkP at hk
      unfold IxOk
      omega
    have hG : m = GG c := by have := gr_is hx h; omega
    subst hG
    have law := ix_law hx hc
    by_cases hi : IxP c us
    · obtain ⟨h1, h2⟩ := law.1 hi
      rw [if_pos h1, onP_true h2]
      exact n_2 h hk hm (q_ixP hx hc hi)
    · have hp := p_2 h hk hm (p_ixP hx hc hi)
      by_cases h1 : IxRows c us (GG c)
      · rw [if_pos h1, BasAvI9.onP_false (fun h2 => hi (law.2 ⟨h1, h2⟩))]
        exact hp
      · rw [if_neg h1]
        exact hp
  · rw [if_neg (by omega), if_neg (by omega), if_pos h]
    have hA := acc_is us m
    by_cases hex : ∃ L, accP us m = some L ∧ ND L
    · obtain ⟨L, h1, h2⟩ := hex
      rw [hA.1 L h1 h2]
      exact n_3 h hk hm (q_acP hc h1 (adj_of_nd h2))
    · rw [hA.2 (fun L h1 h2 => hex ⟨L, h1, h2⟩)]
      exact p_3 h hk hm (p_acP hc (fun L h1 h2 => hex ⟨L, h1, nd_of_adj h2⟩))
  · rw [if_neg (by omega), if_neg (by omega), if_neg (by omega), tre_is c us m]
    have hg : grI c = c.cap := by
      unfold grI
      rw [if_neg (by omega), if_neg (by omega)]
    have ho : TrOk c us m := ⟨hc, by omega, by omega, by omega⟩
    cases ht : treP c us m with
    | none => exact p_4 h hk hm (BasAvC5.p_trP ho ht)
    | some L => exact n_4 h hk hm (BasAvC5.q_trP ho ht)
end Go.Bas.BasAvK4
end
section
namespace Go.Bas
open Go.RowKit
set_option linter.unusedSimpArgs false
set_option linter.unusedVariables false
/-- As AWq, where the run's own memory is none that its caller keeps apart. -/
def AWd (C : Cfg) (code : Code) (st : St) (K : Ex → St → Prop) : Prop :=
  ∀ (w : World) (B oC oL : Nat → Prop) (ω : Nat → Option Nat) (a : Act) (Q : Exit → Act → World → Prop), Sim C w B oC oL ω st a → (∀ b, Or2 oC oL b → ¬ B b) →
    (∀ e st' a' w' oC' oL' ω' out, Sim C w' B oC' oL' ω' st' a' → ExtR w oC oL (fun _ => none) 0 w' oC' oL' ω' st'.m.nx → K e st' → OutIs w' B oC' oL' ω' st'.m.nx e out → Q out a' w') → code.wpIn (Fr none) 0 C.P Q a w
section
variable {C : Cfg} {K K' : Ex → St → Prop} {st : St}
theorem AWq.d {code : Code} (h : AWq C code st K) : AWd C code st K := fun w B oC oL ω a Q S _ hQ => h w B oC oL ω a Q S hQ
theorem AWd.less {code : Code} {st' : St} (h : Less C st st') (hw : AWd C code st' K) : AWd C code st K := fun w B oC oL ω a Q S hd hQ => by
  obtain ⟨ω', S'⟩ := h w B oC oL ω a S
  exact hw w B oC oL ω' a Q S' hd hQ
theorem AWd.seq {x y : Code} (h : AWq C x st (fun e s => match e with | .normal => AWd C y s K | e => K e s)) : AWd C (.seq x y) st K := fun w B oC oL ω a Q S hd hQ => by
  refine wpIn_seq (h w B oC oL ω a _ S (fun e st' a' w' oC' oL' ω' out S' E hk ho => ?_))
  cases e with
  | normal =>
    subst ho
    exact hk w' B oC' oL' ω' a' Q S' (fun b hb hB => by
      rcases E.owns b hb with h1 | h1
      · exact hd b h1 hB
      · have := S.ms.bl b hB
        omega) (fun e2 st2 a2 w2 oC2 oL2 ω2 out2 S2 E2 hk2 ho2 => hQ e2 st2 a2 w2 oC2 oL2 ω2 out2 S2 (E.then E2) hk2 ho2)
  | exit id => have h2 := hQ _ st' a' w' oC' oL' ω' out S' E hk ho; subst ho; exact h2
  | goto l => have h2 := hQ _ st' a' w' oC' oL' ω' out S' E hk ho; subst ho; exact h2
  | ret => have h2 := hQ _ st' a' w' oC' oL' ω' out S' E hk ho; subst ho; exact h2
  | panic v => have h2 := hQ _ st' a' w' oC' oL' ω' out S' E hk ho; obtain ⟨u, rfl, _⟩ := ho; exact h2
theorem Rep.shrink {w : World} {B own own' : Nat → Prop} {ω : Nat → Option Nat} {nx : Nat} {v : AV} {u : Value} (h : Rep w B own ω nx v u) (hs : ∀ b, own' b → own b) : Rep w B own' ω nx v u :=
  h.mono (Nat.le_refl _) (fun b _ h1 h2 => ⟨rfl, fun h => h1 (hs b h), h2⟩) (fun id b hi hm => ⟨hi, hm⟩) (fun _ _ h => h)
/-- Rows of one's own become a list. -/
theorem AWd.frz {code : Code} (j id n sz : Nat) {app : Bool} {hb : HB} (ids : List Nat) (hds : st.ds = []) (hlp : st.m.lp = []) (hjl : j < st.tmps.length) (hj : st.tmps[j]? = some (.sl id 0 n sz app)) (hh : hget st.m.heap id = some hb) (hp : hb.pure = true) (hid : memL id ids = false)
    (h : AWd C code ⟨lset st.tmps j (.lst ((hb.cells.drop 0).take (n * sz)) n), [], ⟨hkeep ids st.m.heap, st.m.nx, []⟩⟩ K) : AWd C code st K := fun w B oC oL ω a Q S hd hQ => by
  have hja : j < a.tmps.size := by rw [← S.tm.1]; exact hjl
  have hr : Rep w (Or2 B oL) oC ω st.m.nx (.sl id 0 n sz app) (a.tmps.getD j undef) := by
    have := S.tm.2 j hjl
    rw [List.getElem?_eq_getElem hjl] at hj
    rw [Option.some.inj hj] at this
    exact this
  obtain ⟨b, cap, hω, hcap, hv⟩ : ∃ b cap, ω id = some b ∧ n ≤ cap ∧ a.tmps.getD j undef = .slice (some ⟨b, 0, none⟩) n cap := by
    generalize a.tmps.getD j undef = z at hr
    cases hr with
    | sl _ _ _ _ _ cap b g1 g2 g3 => exact ⟨b, cap, g2, g3, rfl⟩
    | sla _ _ _ _ cap b g1 g2 g3 g4 g5 => exact ⟨b, cap, g2, g3, rfl⟩
  obtain ⟨arr, ho, _, _, _⟩ := S.ms.hp.there hh hω
  obtain ⟨q1, vs, q2, q3⟩ := pure_cells S.ms.hp hh hp hω
  have hnB : ¬ Or2 B oL b := fun hh => hh.elim (fun hh => hd b (.inl ho) hh) (fun hh => (S.ms.lp.dis b hh).2 ho)
  have sh : ∀ x, (oC x ∧ x ≠ b) → oC x := fun x hx => hx.1
  have hl : Rep w (Or2 B oL) (fun x => oC x ∧ x ≠ b) ω st.m.nx (.lst ((hb.cells.drop 0).take (n * sz)) n) (a.tmps.getD j undef) := by
    rw [hv]
    have := lst_take (w := w) (B := Or2 B oL) (own := fun x => oC x ∧ x ≠ b) (ω := ω) (nx := st.m.nx) (cells := hb.cells) (cap := cap) (b := b) (o := 0) (d := 0) (m := n) (vs := vs) (fun _ => ⟨q1, fun h => h.2 rfl, hnB⟩) hcap
      (fun i hi => by rw [Nat.zero_add]; exact q2 i hi) (fun i hi => (q3 i hi).shrink sh) (n * sz)
    exact this
  have ht : RepL w (Or2 B oL) (fun x => oC x ∧ x ≠ b) ω st.m.nx (lset st.tmps j (.lst ((hb.cells.drop 0).take (n * sz)) n)) a.tmps := by
    have h0 : RepL w (Or2 B oL) (fun x => oC x ∧ x ≠ b) ω st.m.nx st.tmps a.tmps := ⟨S.tm.1, fun i hi => (S.tm.2 i hi).shrink sh⟩
    have h1 := h0.set j hl
    have e : a.tmps.setIfInBounds j (a.tmps.getD j undef) = a.tmps := by
      apply Array.ext
      · simp
      · intro i h1 h2
        by_cases hij : j = i
        · subst hij
          simp [h2]
        · simp [Array.getElem_setIfInBounds, hij, h2]
    rw [e] at h1
    exact h1
  refine h w B (fun x => oC x ∧ x ≠ b) oL ω a Q ⟨ht, ?_, ⟨⟨fun i x hx => ?_, fun i k l h1 h2 => ?_, fun x hx => S.ms.hp.ob x hx.1⟩, ⟨fun i x hx => (by cases hx), fun i k l h1 => (by cases h1), fun l hl => ⟨(S.ms.lp.dis l hl).1, fun hh => (S.ms.lp.dis l hl).2 hh.1⟩⟩, S.ms.gl, fun g cells hg => ⟨fun hh => (S.ms.gb g cells hg).1 hh.1, (S.ms.gb g cells hg).2⟩, S.ms.bl⟩⟩ (fun x hx => hx.elim (fun hx => hd x (.inl hx.1)) (fun hx => hd x (.inr hx)))
    (fun e st' a' w' oC' oL' ω' out S' E hk ho => hQ e st' a' w' oC' oL' ω' out S' ⟨E.os, E.tape, E.output, E.size, fun x hx hn => E.old x hx (fun hh => hn (hh.imp And.left (fun h => h))), fun x hx => (E.owns x hx).imp (fun hh => hh.imp And.left (fun h => h)) (fun h => h), E.nxle, E.om, E.row⟩ hk ho)
  · have := S.dn
    rw [hds] at this
    exact this
  · obtain ⟨k1, k2⟩ := hget_hkeep ids i x _ hx
    obtain ⟨y1, y, yarr, y2, y3, y4, y5, y6⟩ := S.ms.hp.rel i x k2
    refine ⟨y1, y, yarr, y2, ⟨y3, fun e => ?_⟩, y4, y5, fun k hk => (y6 k hk).shrink sh⟩
    subst e
    have := S.ms.hp.inj i id y (by rw [k2]; rfl) (by rw [hh]; rfl) y2 hω
    subst this
    rw [hid] at k1
    cases k1
  · obtain ⟨x1, e1⟩ := Option.isSome_iff_exists.1 h1
    obtain ⟨x2, e2⟩ := Option.isSome_iff_exists.1 h2
    have e1 := (hget_hkeep ids i x1 _ e1).2
    have e2 := (hget_hkeep ids k x2 _ e2).2
    exact S.ms.hp.inj i k l (by rw [e1]; rfl) (by rw [e2]; rfl)
/-- A call, out of what its body comes to. -/
theorem acalls_of_awd {f : FuncId} {args : List AV} {k : AV → Bool} (hf : ((C.P.funcs[f]?).bind (·.body)).isSome = true)
    (h : AWd C (fcode C.P f) (st0 C.P f args) (fun e s => (e = .ret ∨ e = .normal) ∧ resF C f s k false = true)) : ACalls C.P C.G f args (fun v => k v = true) := by
  obtain ⟨fn, hfn⟩ : ∃ fn, C.P.funcs[f]? = some fn := by
    cases hq : C.P.funcs[f]? with
    | none => rw [hq] at hf; cases hf
    | some fn => exact ⟨fn, rfl⟩
  obtain ⟨c, hb⟩ : ∃ c, fn.body = some c := by
    rw [hfn] at hf
    exact Option.isSome_iff_exists.1 hf
  have ec : fcode C.P f = c := by simp [fcode, hfn, hb]
  rw [ec] at h
  simp only [st0, hfn, Option.map_some, Option.getD_some, resF] at h
  intro w us bad hg gb bl hr
  refine (callsIn_calls (ro := none) (n := 0)).1 (callsIn_of_wp_marks hfn hb trivial ?_ rfl)
  have H0 : Hp w (Or2 bad (fun _ => False)) (fun _ => False) (fun _ => none) 0 [] := ⟨fun id hb h => (by cases h), fun i j b h => (by cases h), fun b (h : False) => h.elim⟩
  have M0 : MemSim C w bad (fun _ => False) (fun _ => False) (fun _ => none) ⟨[], 0, []⟩ := ⟨H0, ⟨fun id e h => (by cases h), fun i j l h => (by cases h), fun l (h : False) => h.elim⟩, hg, fun g cells h => ⟨fun h => h, fun h => h, gb g cells h⟩, bl⟩
  have hl : RepL w (Or2 bad (fun _ => False)) (fun _ => False) (fun _ => none) 0 (padL args fn.ntmps) (us ++ Array.replicate (fn.ntmps - us.size) undef) :=
    (pad_rep hr fn.ntmps).other fun b h1 h2 => ⟨h1, fun h => h.elim h2 (fun h => h)⟩
  refine h w bad (fun _ => False) (fun _ => False) (fun _ => none) _ _ ⟨hl, trivial, M0⟩ (fun b hb => hb.elim (fun h => h.elim) (fun h => h.elim)) (fun e st' a' w' oC' oL' ω' out S' E hk' ho => ?_)
  obtain ⟨he, hk'⟩ := hk'
  have fin : closeK st'.ds st'.m.lp (fun _ => resK C fn st' (fun v => freezeK st'.m.heap 6 v k false) false) false = true → LeavesInM (Fr none) 0 C.P fn a'.tmps (fun e w' => ∃ v u, e = .returned u ∧ k v = true ∧ Still w w' ∧ Rep w' bad (fun _ => False) (fun _ => none) 0 v u) a'.defers .returning w' := fun hk' => by
    refine leave_ret (k := fun v _ => freezeK st'.m.heap 6 v k false) S' hk' (fun v u lp' w2 h1 M E2 hr2 => ?_)
    have hE := E.then E2.low
    have hown : ∀ b, oC' b → ¬ Or2 bad oL' b := fun b ho hbad => by
      rcases hbad with hbad | hbad
      · rcases hE.owns b (.inl ho) with h | h
        · exact h.elim (fun h => h) (fun h => h)
        · have := bl b hbad; omega
      · exact (M.lp.dis b hbad).2 ho
    obtain ⟨v', h3, h4⟩ := freezeK_sound M.hp hown 6 v k h1
    refine ⟨v', u, rfl, h3, ⟨hE.os, hE.tape, hE.output, hE.size, fun b hb _ => hE.old b hb (fun h => h.elim (fun h => h) (fun h => h)), fun _ h => .inl h, Nat.le_refl _, fun _ _ => rfl, hE.row⟩, ?_⟩
    exact (h4 u hr2).other fun b _ h2 => ⟨fun h => h, fun h => h2 (.inl h)⟩
  rcases he with rfl | rfl
  · subst ho; exact fin hk'
  · subst ho; exact fin hk'
end
end Go.Bas
end
section
namespace Go.Bas.BasAvK5
open Go.RowKit Go.Proofs
open Go.Bas.BasZBase Go.Bas.BasAvR1 Go.Bas.BasAvR2 Go.Bas.BasAvR3 Go.Bas.BasAvL Go.Bas.BasAvP1 Go.Bas.BasAvP2 Go.Bas.BasAvP4 Go.Bas.BasAvA Go.Bas.BasAvI9 Go.Bas.BasAvI6 Go.Bas.BasAvV2 Go.Bas.BasAvV3 Go.Bas.BasAvK1 Go.Bas.BasAvK2 Go.Bas.BasAvK3 Go.Bas.BasAvK4
set_option maxRecDepth 100000
set_option maxHeartbeats 4000000
set_option linter.unusedVariables false
set_option linter.unusedSimpArgs false
/-! Rows. -/
noncomputable abbrev codeR : Code := fcode Tryd.prog 6
noncomputable abbrev bR : Code := loopAt codeR [0]
noncomputable def hR (a : List AV) (b : Nat) (i : Int) : St := ⟨[.lst a b, .lst a b, .any, .any, .any, .int .i64 i, .any, .any, .any, .any, .any, .any, .any, .any, .any, .any, .any, .any, .any, .any, .any, .any, .any, .any, .any, .any, .any, .any, .any, .any, .any, .any, .any, .any, .any, .any, .any, .any, .any, .any, .any], [], ⟨[], 0, []⟩⟩
noncomputable def hRf (a : List AV) (b : Nat) (i : Int) : St := ⟨[.lst a b, .lst a b, .any, .any, .bool false, .int .i64 i, .any, .any, .any, .any, .any, .any, .any, .any, .any, .any, .any, .any, .any, .any, .any, .any, .any, .any, .any, .any, .any, .any, .any, .any, .any, .any, .any, .any, .any, .any, .any, .any, .any, .any, .any], [], ⟨[], 0, []⟩⟩
noncomputable def ld2 (a : List AV) (b : Nat) (i : Int) (w : Nat) (x : Int → Bool) : Bool := ba (inside i b && Nat.beq a.length (b * 2)) (ba (Nat.ble ((i.toNat * 2 + w) + 1) a.length) (ba (AV.isI .u64 (lget a (i.toNat * 2 + w))) (x (lget a (i.toNat * 2 + w)).toI)))
theorem t_sr0 (a : List AV) (b : Nat) (i : Int) (K : Ex → St → Bool) : runM cR 300 bR [] (hR a b i) (fun e s => K e (keepSH [0, 1, 4, 5] [] s)) =
    br (decide (i < Int.ofNat b)) (ld2 a b i 0 fun x => ld2 a b i 0 fun y => br (!decide (x = y)) (K .ret (hRf a b i)) (ld2 a b i 1 fun x => ld2 a b i 1 fun y => br (!decide (x = y)) (K .ret (hRf a b i)) (K .normal (hR a b (IntKind.wrap .i64 (i + 1)))))) (K (.exit 0) (hR a b i)) := by kernel_rfl
theorem lsR : loopsOf bR = [] := by kernel_rfl
/-- Rows asv they are. -/
def RG (a : List AV) (b : Nat) : Prop := a.length = b * 2 ∧ b ≤ 5000 ∧ ∀ j, j < a.length → AV.isI .u64 (lget a j) = true
theorem ld2_ok {a : List AV} {b : Nat} (h : RG a b) {i : Nat} (hi : i < b) {w : Nat} (hw : w < 2) {x : Int → Bool} (hx : x (lget a (i * 2 + w)).toI = true) : ld2 a b (i : Int) w x = true := by
  have e : ((i : Nat) : Int).toNat = i := rfl
  have hl := h.1
  unfold ld2
  rw [e]
  refine band ?_ (band (Nat.ble_eq_true_of_le (by omega)) (band (h.2.2 _ (by omega)) hx))
  rw [hl]
  simp only [inside, Bool.and_eq_true, decide_eq_true_eq]
  exact ⟨⟨Int.natCast_nonneg _, by omega⟩, Nat.beq_refl _⟩
theorem zsr {a : List AV} {b : Nat} (h : RG a b) {KK : Ex → St → Prop} (h1 : KK (.exit 0) (hR a b (b : Int))) : AWq cR (.loop bR) (hR a b 0) KK := by
  have hb := h.2.1
  refine awq_loopK hC (ι := { i : Nat // i ≤ b }) (fun i => hR a b (i.1 : Int)) (fun i => b - i.1) (n := 300) (l := fun _ => []) (g := keepSH [0, 1, 4, 5] []) (fun _ => by rw [lsR]; exact trivial) (fun s => LessS.keepSH _ _ s) ?_ ⟨0, Nat.zero_le _⟩
  rintro ⟨i, hi⟩ K hk
  have hi : i ≤ b := hi
  have e0 : (Int.ofNat b : Int) = (b : Int) := rfl
  refine (t_sr0 a b (i : Int) K).trans (bdt (fun d => ?_) (fun d => hk _ _ ?_))
  · have d := of_decide_eq_true d
    have hib : i < b := by omega
    have e1 : IntKind.wrap .i64 ((i : Int) + 1) = ((i + 1 : Nat) : Int) := by rw [wI (by omega) (by omega)]; omega
    refine ld2_ok h hib (by omega) (ld2_ok h hib (by omega) (btf (by simp) (ld2_ok h hib (by omega) (ld2_ok h hib (by omega) (btf (by simp) (hk _ _ ?_))))))
    rw [e1]
    exact .inl ⟨rfl, ⟨i + 1, hib⟩, by show b - (i + 1) < b - i; omega, Less.refl _⟩
  · have d := of_decide_eq_false d
    have : i = b := by omega
    subst this
    exact .inr ⟨fun hh => (by cases hh), h1⟩
noncomputable def LFsr (a : List AV) (b : Nat) : LF := fun st K => cond (onP (keepSH [0, 1, 5] [] st = hR a b 0)) (K (.exit 0) (hR a b (b : Int))) false
theorem t_sr (a : List AV) (b : Nat) (K : AV → Bool) : runFM cR 300 6 [LFsr a b] [.lst a b, .lst a b] K = br (!decide (Int.ofNat b = Int.ofNat b)) (K (.bool false)) (ba (onP (hR a b 0 = hR a b 0)) (K (.bool true))) := by kernel_rfl
theorem l_cR : loopsOf codeR = [.loop bR] := by kernel_rfl
theorem q_sr {a : List AV} {b : Nat} (h : RG a b) : ACalls Tryd.prog (gmap gs) 6 [.lst a b, .lst a b] (fun v => v = .bool true) := by
  refine acalls_eqM (q := fun _ => false) base sums_nil (n := 300) (fs := [LFsr a b]) (by kernel_rfl) ?_ fun K hK => ?_
  · show LoopsOk cR (loopsOf codeR) _
    rw [l_cR]
    exact ⟨lf_ok (g := keepSH [0, 1, 5] []) (fun s => LessS.keepSH _ _ s) (fun KK hk => zsr h hk), trivial⟩
  · exact (t_sr a b K).trans (btf (by simp) (band (onP_true rfl) hK))
noncomputable def hN (i : Int) : St := ⟨[.nils, .nils, .any, .any, .any, .int .i64 i, .any, .any, .any, .any, .any, .any, .any, .any, .any, .any, .any, .any, .any, .any, .any, .any, .any, .any, .any, .any, .any, .any, .any, .any, .any, .any, .any, .any, .any, .any, .any, .any, .any, .any, .any], [], ⟨[], 0, []⟩⟩
theorem t_sn0 (K : Ex → St → Bool) : runM cR 300 bR [] (hN 0) (fun e s => K e (keepSH [0, 1, 4, 5] [] s)) = K (.exit 0) (hN 0) := by kernel_rfl
noncomputable def LFsn : LF := fun st K => cond (onP (keepSH [0, 1, 5] [] st = hN 0)) (K (.exit 0) (hN 0)) false
theorem t_sn (K : AV → Bool) : runFM cR 300 6 [LFsn] [.nils, .nils] K = ba (onP (hN 0 = hN 0)) (K (.bool true)) := by kernel_rfl
theorem zsn {KK : Ex → St → Prop} (h1 : KK (.exit 0) (hN 0)) : AWq cR (.loop bR) (hN 0) KK := by
  refine awq_loopK hC (ι := Unit) (fun i => hN 0) (fun i => 0) (n := 300) (l := fun _ => []) (g := keepSH [0, 1, 4, 5] []) (fun _ => by rw [lsR]; exact trivial) (fun s => LessS.keepSH _ _ s) ?_ ()
  rintro ⟨⟩ K hk
  exact (t_sn0 K).trans (hk _ _ (.inr ⟨fun hh => (by cases hh), h1⟩))
theorem q_sn : ACalls Tryd.prog (gmap gs) 6 [.nils, .nils] (fun v => v = .bool true) := by
  refine acalls_eqM (q := fun _ => false) base sums_nil (n := 300) (fs := [LFsn]) (by kernel_rfl) ?_ fun K hK => ?_
  · show LoopsOk cR (loopsOf codeR) _
    rw [l_cR]
    exact ⟨lf_ok (g := keepSH [0, 1, 5] []) (fun s => LessS.keepSH _ _ s) (fun KK hk => zsn hk), trivial⟩
  · exact (t_sn K).trans (band (onP_true rfl) hK)
def RGo (r : Option (List AV × Nat)) : Prop := ∀ p, r = some p → RG p.1 p.2
theorem q_srows {r : Option (List AV × Nat)} (h : RGo r) : ACalls Tryd.prog (gmap gs) 6 [rowsV r, rowsV r] (fun v => v = .bool true) := by
  cases r with
  | none => exact q_sn
  | some p => exact q_sr (h p rfl)
/-! Cells. -/
noncomputable abbrev codeC : Code := fcode Tryd.prog 7
noncomputable abbrev bC : Code := loopAt codeC [0]
noncomputable def hC0 (us : List AV) (m : Nat) (i : Int) (nx : Nat) : St := ⟨[.lst us m, .lst us m, .any, .any, .any, .int .i64 i, .any, .any, .any, .any, .any, .any, .any, .any, .any, .any, .any, .any, .any, .any, .any, .any, .any, .any, .any, .any, .any], [], ⟨[], nx, []⟩⟩
noncomputable def hCf (us : List AV) (m : Nat) (i : Int) : St := ⟨[.lst us m, .lst us m, .any, .any, .bool false, .int .i64 i, .any, .any, .any, .any, .any, .any, .any, .any, .any, .any, .any, .any, .any, .any, .any, .any, .any, .any, .any, .any, .any], [], ⟨[], 2, []⟩⟩
noncomputable def g0 (us : List AV) (i : Int) : Int := (lget us (i.toNat * 4)).toI
theorem t_sc0 (us : List AV) (m : Nat) (i : Int) (K : Ex → St → Bool) : runM cR 300 bC [] (hC0 us m i 0) (fun e s => K e (keepSH [0, 1, 4, 5] [] s)) =
    br (decide (i < Int.ofNat m)) (ld4 us m i (ld4 us m i (br (decide (g0 us i = g0 us i)) (br (decide (gA us i = gA us i)) (br (decide (gB us i = gB us i)) (br (!decide (gC us i = gC us i)) (K .ret (hCf us m i)) (K .normal (hC0 us m (IntKind.wrap .i64 (i + 1)) 2))) (K .ret (hCf us m i))) (K .ret (hCf us m i))) (K .ret (hCf us m i))))) (K (.exit 0) (hC0 us m i 0)) := by kernel_rfl
theorem lsC : loopsOf bC = [] := by kernel_rfl
theorem ren_C (us : List AV) (m : Nat) (i : Int) : Less cR (hC0 us m i 2) (hC0 us m i 0) := by
  have h := Less.ren (C := cR) [] 0 (st := hC0 us m i 2) rfl rfl (by kernel_rfl)
  have e : renS [] 0 (hC0 us m i 2) = hC0 us m i 0 := by kernel_rfl
  rw [e] at h
  exact h
theorem zsc {us : List AV} {m : Nat} (hc : CL us m) {KK : Ex → St → Prop} (h1 : KK (.exit 0) (hC0 us m (m : Int) 0)) : AWq cR (.loop bC) (hC0 us m 0 0) KK := by
  have hm := hc.2.1
  refine awq_loopK hC (ι := { i : Nat // i ≤ m }) (fun i => hC0 us m (i.1 : Int) 0) (fun i => m - i.1) (n := 300) (l := fun _ => []) (g := keepSH [0, 1, 4, 5] []) (fun _ => by rw [lsC]; exact trivial) (fun s => LessS.keepSH _ _ s) ?_ ⟨0, Nat.zero_le _⟩
  rintro ⟨i, hi⟩ K hk
  have hi : i ≤ m := hi
  have e0 : (Int.ofNat m : Int) = (m : Int) := rfl
  refine (t_sc0 us m (i : Int) K).trans (bdt (fun d => ?_) (fun d => hk _ _ ?_))
  · have d := of_decide_eq_true d
    have hib : i < m := by omega
    have e1 : IntKind.wrap .i64 ((i : Int) + 1) = ((i + 1 : Nat) : Int) := by rw [wI (by omega) (by omega)]; omega
    refine ld4_ok hc hib (ld4_ok hc hib (btb (decide_eq_true rfl) (btb (decide_eq_true rfl) (btb (decide_eq_true rfl) (btf (by simp) (hk _ _ ?_))))))
    rw [e1]
    exact .inl ⟨rfl, ⟨i + 1, hib⟩, by show m - (i + 1) < m - i; omega, ren_C _ _ _⟩
  · have d := of_decide_eq_false d
    have : i = m := by omega
    subst this
    exact .inr ⟨fun hh => (by cases hh), h1⟩
noncomputable def LFsc (us : List AV) (m : Nat) : LF := fun st K => cond (onP (keepSH [0, 1, 5] [] st = hC0 us m 0 0)) (K (.exit 0) (hC0 us m (m : Int) 0)) false
theorem t_sc (us : List AV) (m : Nat) (K : AV → Bool) : runFM cR 300 7 [LFsc us m] [.lst us m, .lst us m] K = br (!decide (Int.ofNat m = Int.ofNat m)) (K (.bool false)) (ba (onP (hC0 us m 0 0 = hC0 us m 0 0)) (K (.bool true))) := by kernel_rfl
theorem l_cC : loopsOf codeC = [.loop bC] := by kernel_rfl
theorem q_scells {us : List AV} {m : Nat} (hc : CL us m) : ACalls Tryd.prog (gmap gs) 7 [.lst us m, .lst us m] (fun v => v = .bool true) := by
  refine acalls_eqM (q := fun _ => false) base sums_nil (n := 300) (fs := [LFsc us m]) (by kernel_rfl) ?_ fun K hK => ?_
  · show LoopsOk cR (loopsOf codeC) _
    rw [l_cC]
    exact ⟨lf_ok (g := keepSH [0, 1, 5] []) (fun s => LessS.keepSH _ _ s) (fun KK hk => zsc hc hk), trivial⟩
  · exact (t_sc us m K).trans (btf (by simp) (band (onP_true rfl) hK))
/-! What View answers. -/
theorem enc_isI : ∀ (L : RL) (j : Nat), j < (enc L).length → AV.isI .u64 (lget (enc L) j) = true
  | [], j, h => absurd h (Nat.not_lt_zero _)
  | p :: l, 0, h => rfl
  | p :: l, 1, h => rfl
  | p :: l, j + 2, h => enc_isI l j (by
      have h : j + 2 < (enc l).length + 1 + 1 := h
      omega)
theorem rg_rwo {L : RL} (h : L.length ≤ 5000) : RGo (rwo L) := fun p hp => by
  cases L with
  | nil => cases hp
  | cons x l =>
    cases hp
    exact ⟨enc_len _, h, enc_isI _⟩
theorem rws_rwo (us : List AV) : ∀ n, ∃ L : RL, rws us n = rwo L ∧ L.length ≤ n
  | 0 => ⟨[], rfl, Nat.le_refl _⟩
  | n + 1 => by
    obtain ⟨L, h1, h2⟩ := rws_rwo us n
    show ∃ L : RL, cond (decide (1 ≤ n) && !decide (cA us n = 0)) (apR (rws us n) (rowA us n)) (rws us n) = rwo L ∧ L.length ≤ n + 1
    cases (decide (1 ≤ n) && !decide (cA us n = 0)) with
    | false => exact ⟨L, h1, by omega⟩
    | true =>
      show ∃ L : RL, apR (rws us n) (rowA us n) = rwo L ∧ L.length ≤ n + 1
      rw [h1, apR_is]
      obtain ⟨a, b, e⟩ : ∃ a b : Int, rowA us n = [.int .u64 a, .int .u64 b] := ⟨_, _, rfl⟩
      rw [e, apx]
      exact ⟨_, rfl, by rw [List.length_append]; show L.length + 1 ≤ n + 1; omega⟩
theorem vw_is {c : Conf} {us : List AV} {m : Nat} (hk : c.OkP) (hc : CL us m) : ∃ (r : Option (List AV × Nat)) (e : Int), vwV (rwsP c us m) = .tup [rowsV r, .int .i64 e] ∧ RGo r := by
  have hm := hc.2.1
  have no : ∃ (r : Option (List AV × Nat)) (e : Int), (AV.tup [.nils, .int .i64 2]) = .tup [rowsV r, .int .i64 e] ∧ RGo r := ⟨none, 2, rfl, fun p hp => by cases hp⟩
  unfold rwsP
  split
  · exact no
  split
  · split
    · obtain ⟨L, h1, h2⟩ := rws_rwo us m
      exact ⟨rws us m, 0, rfl, by rw [h1]; exact rg_rwo (by omega)⟩
    · exact no
  split
  · rename_i h2
    have hx : BasAvG.IxOk c := by
      unfold Conf.OkP at hk
      unfold BasAvG.IxOk
      omega
    split
    · rename_i hr
      have hle : (rwX us (cA us 0).toNat).length ≤ 5000 := by
        rw [rwX_len]
        have := hr.1
        have := hx.2.1
        omega
      cases onP (BasAvI1.Ris (rwX us (cA us 0).toNat)) with
      | true => exact ⟨_, 0, rfl, rg_rwo hle⟩
      | false => exact no
    · exact no
  have mp : ∀ o : Option RL, (∀ L, o = some L → L.length ≤ 5000) → ∃ (r : Option (List AV × Nat)) (e : Int), vwV (o.map fun L => (rwo L, true)) = .tup [rowsV r, .int .i64 e] ∧ RGo r := fun o ho => by
    cases o with
    | none => exact no
    | some L => exact ⟨rwo L, 0, rfl, rg_rwo (ho L rfl)⟩
  split
  · exact mp _ (fun L hL => by have := accR_len us m L hL; omega)
  · exact mp _ (fun L hL => by have := BasAvT2.treR_len c us m L hL; omega)
end Go.Bas.BasAvK5
end
section
namespace Go.Bas.BasAvLw
open Go.RowKit Go.Proofs
open Go.Bas.BasZBase Go.Bas.BasAvR1 Go.Bas.BasAvR2 Go.Bas.BasAvR3 Go.Bas.BasAvL Go.Bas.BasAvV2 Go.Bas.BasAvV3 Go.Bas.BasAvK3 Go.Bas.BasAvK4 Go.Bas.BasAvK5
set_option maxRecDepth 100000
set_option maxHeartbeats 4000000
set_option linter.unusedVariables false
set_option linter.unusedSimpArgs false
noncomputable abbrev codeA : Code := fcode Tryd.prog 3
noncomputable abbrev a0 : Code := sel [false] codeA
noncomputable abbrev a1 : Code := sel [true, false] codeA
noncomputable abbrev a3 : Code := sel [true, true, false] codeA
noncomputable abbrev a4 : Code := sel [true, true, true] codeA
theorem a_code : codeA = .seq a0 (.seq a1 (.seq a3 a4)) := by kernel_rfl
noncomputable abbrev lA (c : Conf) (us : List AV) (m : Nat) (r : Option (List AV × Nat)) (e : Int) : List Sum :=
  [S_e 4 [c.av, .lst us m] (.tup [rowsV r, .int .i64 e]), S_e 5 [c.av, .lst us m] (.tup [rowsV r, .int .i64 e]), S_e 6 [rowsV r, rowsV r] (.bool true), S_e 7 [.lst us m, .lst us m] (.bool true)]
noncomputable def S0 (c : Conf) (us : List AV) (m : Nat) : St := ⟨[.any, .lst us m, .ptr 0 0, .any, .any, .any, .any, .any, .any, .any, .any, .any, .any, .any, .any, .any, .any, .any, .any, .any, .any, .any, .any, .any, .any, .any, .any, .any, .any, .any, .any, .any, .any, .any, .any, .any, .any, .any, .any, .any, .any], [], ⟨[(0, ⟨c.cells, 24, true⟩)], 1, []⟩⟩
noncomputable def S3 (c : Conf) (us : List AV) (m : Nat) : St := ⟨[.any, .lst us m, .ptr 0 0, .any, .any, .sl 2 0 (0 + m) 4 true, .any, .any, .any, .any, .any, .any, .any, .any, .any, .any, .any, .any, .any, .any, .any, .any, .any, .any, .any, .any, .any, .any, .any, .any, .any, .any, .any, .any, .any, .any, .any, .any, .any, .any, .any], [], ⟨[(2, ⟨us, 50, true⟩), (0, ⟨c.cells, 24, true⟩)], 3, []⟩⟩
noncomputable def S4 (c : Conf) (us : List AV) (m : Nat) (vs : List AV) (n : Nat) : St := ⟨[.any, .lst us m, .ptr 0 0, .any, .any, .lst vs n, .any, .any, .any, .any, .any, .any, .any, .any, .any, .any, .any, .any, .any, .any, .any, .any, .any, .any, .any, .any, .any, .any, .any, .any, .any, .any, .any, .any, .any, .any, .any, .any, .any, .any, .any], [], ⟨[(0, ⟨c.cells, 24, true⟩)], 3, []⟩⟩
noncomputable def T4 (b : Bool) : St := ⟨[.any, .any, .any, .any, .bool b, .any, .any, .any, .any, .any, .any, .any, .any, .any, .any, .any, .any, .any, .any, .any, .any, .any, .any, .any, .any, .any, .any, .any, .any, .any, .any, .any, .any, .any, .any, .any, .any, .any, .any, .any, .any], [], ⟨[], 3, []⟩⟩
noncomputable def T1 (nx : Nat) : St := ⟨[.any, .any, .any, .any, .bool true, .any, .any, .any, .any, .any, .any, .any, .any, .any, .any, .any, .any, .any, .any, .any, .any, .any, .any, .any, .any, .any, .any, .any, .any, .any, .any, .any, .any, .any, .any, .any, .any, .any, .any, .any, .any], [], ⟨[], nx, []⟩⟩
theorem t_b0 (c : Conf) (us : List AV) (m : Nat) (k : Ex → St → Bool) : run cR 300 none none a0 (st0 Tryd.prog 3 [c.av, .lst us m]) (fun e s => k e (keepSH [1, 2] [0] s)) false = k .normal (S0 c us m) := by kernel_rfl
theorem t_b1 (c : Conf) (us : List AV) (m : Nat) (K : Ex → St → Bool) : runM cR 300 a1 [] (S0 c us m) (fun e s => K e (keepSH [4] [] s)) = br (decide (Int.ofNat m > 1000)) (K .ret (T1 1)) (K .normal ⟨[.any, .any, .any, .any, .any, .any, .any, .any, .any, .any, .any, .any, .any, .any, .any, .any, .any, .any, .any, .any, .any, .any, .any, .any, .any, .any, .any, .any, .any, .any, .any, .any, .any, .any, .any, .any, .any, .any, .any, .any, .any], [], ⟨[], 1, []⟩⟩) := by kernel_rfl
theorem t_rB (K : AV → Bool) : resF cR 3 (T1 1) K false = K (.bool true) := by kernel_rfl
theorem l_a1 : loopsOf a1 = [] := by kernel_rfl
theorem l_a3 : loopsOf a3 = [] := by kernel_rfl
theorem l_a4 : loopsOf a4 = [] := by kernel_rfl
theorem q_big {c : Conf} {us : List AV} {m : Nat} (hm : m > 1000) : ACalls Tryd.prog (gmap gs) 3 [c.av, .lst us m] (fun v => v = .bool true) := by
  refine ACalls.mono (fun v hv => of_onP hv) (acalls_of_awq (C := cR) (k := fun v => onP (v = .bool true)) (by kernel_rfl) ?_)
  show AWq cR codeA _ _
  rw [a_code]
  refine AWq.seq (AWq.mono (fun e s hh => ?_) (awp_run hC (t_b0 c us m)).q)
  obtain ⟨rfl, hh⟩ := hh
  refine AWq.less hh.less (AWq.seq ?_)
  have h1 : AWq cR a1 (S0 c us m) (fun e s => onP (e = .ret ∧ keepSH [4] [] s = T1 1) = true) :=
    awq_gM hC (n := 300) (g := keepSH [4] []) (l := []) (K := fun e s => onP (e = .ret ∧ s = T1 1)) (by rw [l_a1]; exact trivial) ((t_b1 c us m (fun e s => onP (e = .ret ∧ s = T1 1))).trans (btb (decide_eq_true (by show ((m : Nat) : Int) > 1000; omega)) (onP_true ⟨rfl, rfl⟩)))
  refine AWq.post h1 fun e s he => ⟨keepSH [4] [] s, LessS.keepSH _ _ s, ?_⟩
  obtain ⟨rfl, hs⟩ := of_onP he
  refine ⟨.inl rfl, ?_⟩
  rw [hs, t_rB]
  exact onP_true rfl
theorem t_a0 (c : Conf) (us : List AV) (m : Nat) (r : Option (List AV × Nat)) (e : Int) (k : Ex → St → Bool) : run (cfg (lA c us m r e)) 300 none none a0 (st0 Tryd.prog 3 [c.av, .lst us m]) (fun e s => k e (keepSH [1, 2] [0] s)) false = k .normal (S0 c us m) := by kernel_rfl
theorem t_a1 (c : Conf) (us : List AV) (m : Nat) (r : Option (List AV × Nat)) (e : Int) (K : Ex → St → Bool) : runM (cfg (lA c us m r e)) 300 a1 [] (S0 c us m) (fun e s => K e (keepSH [1, 2] [0] s)) = br (decide (Int.ofNat m > 1000)) (K .ret (S0 c us m)) (K .normal (S0 c us m)) := by kernel_rfl
theorem t_a3 (c : Conf) (us : List AV) (m : Nat) (r : Option (List AV × Nat)) (e : Int) (K : Ex → St → Bool) : runM (cfg (lA c us m r e)) 300 a3 [] (S0 c us m) (fun e s => K e (keepSH [1, 2, 5] [0, 2] s)) = ba (Nat.beq us.length (m * 4)) (ba (us.all AV.one) (ba (Nat.ble (0 + m) 9223372036854775807 && Nat.ble ((0 + m) * 32) 140737488355328) (K .normal (S3 c us m)))) := by kernel_rfl
theorem t_frz (c : Conf) (us : List AV) (m : Nat) : (⟨lset (S3 c us m).tmps 5 (.lst ((us.drop 0).take ((0 + m) * 4)) (0 + m)), [], ⟨hkeep [0] (S3 c us m).m.heap, (S3 c us m).m.nx, []⟩⟩ : St) = S4 c us m ((us.drop 0).take ((0 + m) * 4)) (0 + m) := by kernel_rfl
theorem t_a4 (c : Conf) (us : List AV) (m : Nat) (r : Option (List AV × Nat)) (e : Int) (K : Ex → St → Bool) : runM (cfg (lA c us m r e)) 300 a4 [] (S4 c us m us m) (fun e s => K e (keepSH [4] [] s)) =
    ba (onP ([c.av, AV.lst us m] = [c.av, .lst us m])) (ba (onP ([c.av, AV.lst us m] = [c.av, .lst us m])) (br (decide (e = e)) (ba (onP ([rowsV r, rowsV r] = [rowsV r, rowsV r])) (ba (onP ([AV.lst us m, .lst us m] = [.lst us m, .lst us m])) (K .ret (T4 true)))) (K .ret (T4 false)))) := by
  cases r with
  | none => kernel_rfl
  | some p => obtain ⟨a, b⟩ := p; kernel_rfl
theorem t_rA (c : Conf) (us : List AV) (m : Nat) (r : Option (List AV × Nat)) (e : Int) (K : AV → Bool) : resF (cfg (lA c us m r e)) 3 (T4 true) K false = K (.bool true) := by kernel_rfl
theorem all_one {us : List AV} (h : ∀ j, j < us.length → AV.isI .u64 (lget us j) = true) : us.all AV.one = true := by
  rw [List.all_eq_true]
  intro x hx
  obtain ⟨j, hj, rfl⟩ := List.getElem_of_mem hx
  have := h j hj
  rw [lget_eq, List.getD_eq_getElem?_getD, List.getElem?_eq_getElem hj] at this
  have this : AV.isI .u64 us[j] = true := this
  revert this
  generalize us[j] = z
  intro hz
  cases z <;> first | rfl | cases hz
theorem small {c : Conf} {us : List AV} {m : Nat} (hc : CL us m) {r : Option (List AV × Nat)} {e : Int} (hr : RGo r) (h1 : ACalls Tryd.prog (gmap gs) 4 [c.av, .lst us m] (fun v => v = .tup [rowsV r, .int .i64 e])) (h2 : ACalls Tryd.prog (gmap gs) 5 [c.av, .lst us m] (fun v => v = .tup [rowsV r, .int .i64 e])) :
    ACalls Tryd.prog (gmap gs) 3 [c.av, .lst us m] (fun v => v = .bool true) := by
  have hm := hc.2.1
  have hl := hc.1
  have hC' : (cfg (lA c us m r e)).Ok := cfg_ok base (sums_cons (s_e h1) (sums_cons (s_e h2) (sums_cons (s_e (q_srows hr)) (sums_cons (s_e (q_scells hc)) sums_nil))))
  refine ACalls.mono (fun v hv => of_onP hv) (acalls_of_awd (C := cfg (lA c us m r e)) (k := fun v => onP (v = .bool true)) (by kernel_rfl) ?_)
  show AWd (cfg (lA c us m r e)) codeA _ _
  rw [a_code]
  refine AWd.seq (AWq.mono (fun e s hh => ?_) (awp_run hC' (t_a0 c us m r e)).q)
  obtain ⟨rfl, hh⟩ := hh
  refine AWd.less hh.less (AWd.seq ?_)
  have k1 : AWq (cfg (lA c us m r e)) a1 (S0 c us m) (fun e s => onP (e = .normal ∧ keepSH [1, 2] [0] s = S0 c us m) = true) :=
    awq_gM hC' (n := 300) (g := keepSH [1, 2] [0]) (l := []) (K := fun e s => onP (e = .normal ∧ s = S0 c us m)) (by rw [l_a1]; exact trivial) ((t_a1 c us m r e (fun e s => onP (e = .normal ∧ s = S0 c us m))).trans (btf (decide_eq_false (by show ¬ ((m : Nat) : Int) > 1000; omega)) (onP_true ⟨rfl, rfl⟩)))
  refine AWq.mono (fun x s hx => ?_) k1
  obtain ⟨rfl, hs⟩ := of_onP hx
  refine AWd.less ((LessS.keepSH (C := cfg (lA c us m r e)) [1, 2] [0] s).less) ?_
  rw [hs]
  refine AWd.seq ?_
  have k3 : AWq (cfg (lA c us m r e)) a3 (S0 c us m) (fun e s => onP (e = .normal ∧ keepSH [1, 2, 5] [0, 2] s = S3 c us m) = true) :=
    awq_gM hC' (n := 300) (g := keepSH [1, 2, 5] [0, 2]) (l := []) (K := fun e s => onP (e = .normal ∧ s = S3 c us m)) (by rw [l_a3]; exact trivial) ((t_a3 c us m r e (fun e s => onP (e = .normal ∧ s = S3 c us m))).trans (band (by rw [hl]; exact Nat.beq_refl _) (band (all_one fun j hj => (hc.2.2 j hj).1) (band (by simp only [Bool.and_eq_true, Nat.ble_eq]; omega) (onP_true ⟨rfl, rfl⟩)))))
  refine AWq.mono (fun x s hx => ?_) k3
  obtain ⟨rfl, hs⟩ := of_onP hx
  refine AWd.less ((LessS.keepSH (C := cfg (lA c us m r e)) [1, 2, 5] [0, 2] s).less) ?_
  rw [hs]
  have h41 : (S3 c us m).tmps.length = 41 := by kernel_rfl
  refine AWd.frz (hb := ⟨us, 50, true⟩) 5 2 (0 + m) 4 (app := true) [0] rfl rfl (by rw [h41]; omega) (by kernel_rfl) (by kernel_rfl) rfl (by kernel_rfl) ?_
  show AWd (cfg (lA c us m r e)) a4 (⟨lset (S3 c us m).tmps 5 (.lst ((us.drop 0).take ((0 + m) * 4)) (0 + m)), [], ⟨hkeep [0] (S3 c us m).m.heap, (S3 c us m).m.nx, []⟩⟩ : St) _
  rw [t_frz, show (us.drop 0).take ((0 + m) * 4) = us by rw [List.drop_zero, List.take_of_length_le (by omega)], Nat.zero_add]
  refine AWq.d ?_
  have k4 : AWq (cfg (lA c us m r e)) a4 (S4 c us m us m) (fun e s => onP (e = .ret ∧ keepSH [4] [] s = T4 true) = true) :=
    awq_gM hC' (n := 300) (g := keepSH [4] []) (l := []) (K := fun e s => onP (e = .ret ∧ s = T4 true)) (by rw [l_a4]; exact trivial) ((t_a4 c us m r e (fun e s => onP (e = .ret ∧ s = T4 true))).trans (band (onP_true rfl) (band (onP_true rfl) (btb (decide_eq_true rfl) (band (onP_true rfl) (band (onP_true rfl) (onP_true ⟨rfl, rfl⟩)))))))
  refine AWq.post k4 fun x s he => ⟨keepSH [4] [] s, LessS.keepSH _ _ s, ?_⟩
  obtain ⟨rfl, hs⟩ := of_onP he
  refine ⟨.inl rfl, ?_⟩
  rw [hs, t_rA]
  exact onP_true rfl
theorem lawA (c : Conf) {us : List AV} {m : Nat} (h : us.length = m * 4 ∧ ∀ j, j < us.length → AV.isI .u64 (lget us j) = true ∧ 0 ≤ (lget us j).toI) : ACalls Tryd.prog (gmap gs) 3 [c.av, .lst us m] (fun v => v = .bool true) := by
  by_cases hm : m > 1000
  · exact q_big hm
  have hc : CL us m := ⟨h.1, by omega, h.2⟩
  by_cases hk : c.OkP
  · obtain ⟨r, e, he, hr⟩ := vw_is hk hc
    exact small hc hr ((q_viewP hk hc).mono fun v hv => hv.trans he) ((q_view hk hc).mono fun v hv => hv.trans he)
  · exact small (r := none) (e := 40) hc (fun p hp => by cases hp) (q_vwNo hk) (q_viewN hk)
theorem u64_wf {n : Int} (h : (Lit.int .u64 n).wf = true) : 0 ≤ n := by
  have h1 := wf_iff.1 h
  simp only [IntKind.min, IntKind.max, IntKind.signed, IntKind.bits] at h1
  simp at h1
  exact h1.1
theorem cell_get {u : List AV} {r : List AV} (h : ∀ j, j < u.length → AV.isI .u64 (lget u j) = true ∧ 0 ≤ (lget u j).toI) {n : Int} (hn : 0 ≤ n) : ∀ j, j < (.int .u64 n :: u).length → AV.isI .u64 (lget (.int .u64 n :: u) j) = true ∧ 0 ≤ (lget (.int .u64 n :: u) j).toI := fun j hj => by
  cases j with
  | zero => exact ⟨rfl, hn⟩
  | succ j => exact h j (by simpa using hj)
theorem cells_u : ∀ {rows : List (List Value)}, (∀ x ∈ rows, CellsOk [.i .u64, .i .u64, .i .u64, .i .u64] x) → (rows.flatten.map ofS).length = rows.length * 4 ∧ ∀ j, j < (rows.flatten.map ofS).length → AV.isI .u64 (lget (rows.flatten.map ofS) j) = true ∧ 0 ≤ (lget (rows.flatten.map ofS) j).toI
  | [], _ => ⟨rfl, fun j h => absurd h (Nat.not_lt_zero _)⟩
  | x :: r, h => by
    obtain ⟨a, y1, e1, w1, b, y2, e2, w2, c, y3, e3, w3, d, y4, e4, w4, hy⟩ := h x (List.mem_cons_self ..)
    have hy : y4 = [] := hy
    subst hy
    subst e4
    subst e3
    subst e2
    subst e1
    obtain ⟨h1, h2⟩ := cells_u (rows := r) (fun x hx => h x (List.mem_cons_of_mem _ hx))
    have e : ((([.int .u64 a, .int .u64 b, .int .u64 c, .int .u64 d] : List Value) :: r).flatten.map ofS) = (.int .u64 a :: .int .u64 b :: .int .u64 c :: .int .u64 d :: r.flatten.map ofS) := rfl
    rw [e]
    refine ⟨?_, cell_get (r := []) (cell_get (r := []) (cell_get (r := []) (cell_get (r := []) h2 (u64_wf w4)) (u64_wf w3)) (u64_wf w2)) (u64_wf w1)⟩
    simp only [List.length_cons, h1]
    omega
theorem law (c : Conf) (rows : List (List Value)) (c0 : (Lit.int .u8 c.ob).wf = true) (c1 : (Lit.int .i64 c.ins).wf = true) (c2 : (Lit.int .i64 c.thr).wf = true) (c3 : (Lit.int .u8 c.kind).wf = true) (c4 : (Lit.int .i64 c.str).wf = true) (c5 : (Lit.int .i64 c.bits).wf = true) (c6 : (Lit.int .i64 c.cap).wf = true) (c7 : (Lit.int .i64 c.node).wf = true) (c8 : (Lit.int .i64 c.batch).wf = true) (c9 : (Lit.int .i64 c.chunk).wf = true) (c10 : (Lit.int .u64 c.limit).wf = true) (c11 : (Lit.int .u64 c.most).wf = true) (w : ∀ x ∈ rows, CellsOk [.i .u64, .i .u64, .i .u64, .i .u64] x) (m : rows.length ≤ maxLen) : ACalls Tryd.prog (gmap gs) 3 [c.av, .lst (rows.flatten.map ofS) rows.length] (fun v => v = .bool true) := lawA c (cells_u w)
end Go.Bas.BasAvLw
end
