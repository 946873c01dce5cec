/- The program's rows of rules' cells (access); The program's rows of rules' cells (access): its contract, and where it gives up; The document's path of a node; The document's rows of settings' cells (tree); The engine, part Mt: blocks under other numbers, where there are objects of the run's own that keep; The program's rows of settings' cells (tree): the key of a node, and a round of the first loop; The program's rows of settings' cells (tree): the first loop; The program's rows of settings' cells (tree): the first loop goes through all cells; The program's rows of settings' cells (tree): the second loop; The program's rows of settings' cells (tree): its contract, and where it gives up. -/
import Derived.Test.YtjibpphcdfbgkaaDoorBasW8
section
namespace Go.Bas.BasAvB
open Go.RowKit Go.Proofs
open Go.Bas.BasZBase Go.Bas.BasAvR1 Go.Bas.BasAvR2 Go.Bas.BasAvR3 Go.Bas.BasAvL Go.Bas.BasAvF Go.Bas.BasAvW Go.Bas.BasAvP1 Go.Bas.BasAvP2 Go.Bas.BasAvP4 Go.Bas.BasAvA Go.Bas.BasAvS Go.Bas.BasAvS2 Go.Bas.BasAvS3 Go.Bas.BasAvS4
set_option maxRecDepth 100000
set_option maxHeartbeats 4000000
set_option linter.unusedVariables false
set_option linter.unusedSimpArgs false
noncomputable abbrev codeB : Code := fcode Tryd.prog 60
noncomputable abbrev bB : Code := loopAt codeB [0]
noncomputable def hB (us : List AV) (m : Nat) (r : Option (List AV × Nat)) (i : Int) (nx : Nat) : St := ⟨[.any, .any, rwV r, .any, .any, .any, .any, .lst us m, .int .i64 (Int.ofNat m), .int .i64 i, .any, .any, .any, .any, .any, .any, .any, .any, .any, .any, .any, .any, .any, .any, .any, .any, .any, .any, .any, .any, .any, .any, .any, .any, .any, .any, .any, .any, .any, .any, .any, .any, .any, .any, .any, .any, .any, .any, .any], [], ⟨rwH r, nx, []⟩⟩
noncomputable def hB5 (us : List AV) (m : Nat) (cs : List AV) (q : Nat) (i : Int) : St := ⟨[.any, .any, .sl 5 0 q 2 true, .any, .any, .any, .any, .lst us m, .int .i64 (Int.ofNat m), .int .i64 i, .any, .any, .any, .any, .any, .any, .any, .any, .any, .any, .any, .any, .any, .any, .any, .any, .any, .any, .any, .any, .any, .any, .any, .any, .any, .any, .any, .any, .any, .any, .any, .any, .any, .any, .any, .any, .any, .any, .any], [], ⟨[(5, ⟨cs, 47, true⟩)], 6, []⟩⟩
noncomputable def pK (us : List AV) (i : Int) : Int := ior .u64 (ishl .u64 (gB us i) 16) (gC us i)
noncomputable def tB2 (us : List AV) (m : Nat) (r : Option (List AV × Nat)) (i : Int) (K : Ex → St → Bool) : Bool :=
  br (decide (gB us i ≤ 65535)) (br (!decide (gC us i ≤ 65535)) (K pan (hB us m r i 4)) (apC r (K .normal (hB5 us m (apCs r [.int .u64 (pK us i), .int .u64 (gA us i)]) (apQ r) (IntKind.wrap .i64 (i + 1)))))) (K pan (hB us m r i 4))
theorem t_b0 (us : List AV) (m : Nat) (r : Option (List AV × Nat)) (i : Int) (K : Ex → St → Bool) : runM cR 300 bB [] (hB us m r i 2) (fun e s => K e (keepSH [2, 7, 8, 9] [1, 5] s)) =
    br (decide (i < Int.ofNat m)) (ld4 us m i (brBare us i (K .normal (hB us m r (IntKind.wrap .i64 (i + 1)) 4))
      (br (decide (gA us i = 1)) (tB2 us m r i K) (br (decide (gA us i = 2)) (tB2 us m r i K) (K pan (hB us m r i 4)))))) (K (.exit 0) (hB us m r i 2)) := by
  cases r with
  | none => kernel_rfl
  | some p => obtain ⟨a, b⟩ := p; kernel_rfl
theorem lB : loopsOf bB = [] := by kernel_rfl
theorem ren_B4 (us : List AV) (m : Nat) (r : Option (List AV × Nat)) (i : Int) : Less cR (hB us m r i 4) (hB us m r i 2) := by
  cases r with
  | none =>
    have h := Less.ren (C := cR) [] 2 (st := hB us m none i 4) rfl rfl (by kernel_rfl)
    have e : renS [] 2 (hB us m none i 4) = hB us m none i 2 := by kernel_rfl
    rw [e] at h
    exact h
  | some p =>
    obtain ⟨a, b⟩ := p
    have h := Less.ren (C := cR) [(1, 1)] 2 (st := hB us m (some (a, b)) i 4) rfl rfl (by kernel_rfl)
    have e : renS [(1, 1)] 2 (hB us m (some (a, b)) i 4) = hB us m (some (a, b)) i 2 := by kernel_rfl
    rw [e] at h
    exact h
theorem ren_B1 (us : List AV) (m : Nat) (i : Int) : Less cR (hB us m none i 1) (hB us m none i 2) := by
  have h := Less.ren (C := cR) [] 2 (st := hB us m none i 1) rfl rfl (by kernel_rfl)
  have e : renS [] 2 (hB us m none i 1) = hB us m none i 2 := by kernel_rfl
  rw [e] at h
  exact h
theorem ren_B5 (us : List AV) (m : Nat) (cs : List AV) (q : Nat) (i : Int) : Less cR (hB5 us m cs q i) (hB us m (some (cs, q)) i 2) := by
  have h := Less.ren (C := cR) [(5, 1)] 2 (st := hB5 us m cs q i) rfl rfl (by kernel_rfl)
  have e : renS [(5, 1)] 2 (hB5 us m cs q i) = hB us m (some (cs, q)) i 2 := by kernel_rfl
  rw [e] at h
  exact h
/-- A shift, and an or, are a sum. -/
theorem orK {b c : Int} (hb : 0 ≤ b ∧ b ≤ 281474976710655) (hc : 0 ≤ c ∧ c ≤ 65535) : ior .u64 (ishl .u64 b 16) c = 65536 * b + c := by
  obtain ⟨x, rfl⟩ := Int.eq_ofNat_of_zero_le hb.1
  obtain ⟨y, rfl⟩ := Int.eq_ofNat_of_zero_le hc.1
  have e1 : ishl .u64 (x : Int) 16 = ((x * 65536 : Nat) : Int) := by
    unfold ishl
    rw [show (x : Int) * 2 ^ (min (Int.toNat 16) (IntKind.bits .u64)) = ((x * 65536 : Nat) : Int) by simp [IntKind.bits]]
    exact wU6 (by omega) (by omega)
  rw [e1]
  have e2 : (BitVec.ofInt 64 ((x * 65536 : Nat) : Int) ||| BitVec.ofInt 64 (y : Int)).toNat = x * 65536 + y := by
    rw [BitVec.toNat_or, BitVec.toNat_ofInt, BitVec.toNat_ofInt]
    rw [show (((x * 65536 : Nat) : Int) % ((2 ^ 64 : Nat) : Int)).toNat = x * 65536 by omega, show ((y : Int) % ((2 ^ 64 : Nat) : Int)).toNat = y by omega]
    have := Nat.two_pow_add_eq_or_of_lt (i := 16) (b := y) (by omega) x
    rw [show x * 65536 = 2 ^ 16 * x by omega]
    exact this.symm
  have e3 : ior .u64 ((x * 65536 : Nat) : Int) (y : Int) = IntKind.wrap .u64 ((BitVec.ofInt 64 ((x * 65536 : Nat) : Int) ||| BitVec.ofInt 64 (y : Int)).toNat : Int) := held_eq _ _ _
  rw [e3, e2, wU6 (by omega) (by omega)]
  omega
open Classical in
/-- One cell more. -/
noncomputable def accT (us : List AV) (i : Nat) (L : RL) : Option RL :=
  if Bare us i then some L else if AcBad us i then none else some (L ++ [(acK us i, cA us i)])
noncomputable def accP (us : List AV) : Nat → Option RL
  | 0 => some []
  | i + 1 => (accP us i).bind (accT us i)
theorem accP_none {us : List AV} {i : Nat} (h : accP us i = none) : ∀ {j : Nat}, i ≤ j → accP us j = none
  | 0, hj => by rw [show i = 0 by omega] at h; exact h
  | j + 1, hj => by
    by_cases e : i = j + 1
    · rw [← e]; exact h
    · show (accP us j).bind _ = none
      rw [accP_none h (by omega)]
      rfl
theorem accP_len (us : List AV) : ∀ (i : Nat) (L : RL), accP us i = some L → L.length ≤ i
  | 0, L, h => by
    have h : some [] = some L := h
    cases h
    exact Nat.le_refl _
  | i + 1, L, h => by
    have h : (accP us i).bind (accT us i) = some L := h
    cases hq : accP us i with
    | none => rw [hq] at h; cases h
    | some M =>
      rw [hq] at h
      have hm := accP_len us i M hq
      have h : accT us i M = some L := h
      unfold accT at h
      split at h
      · cases h; omega
      · split at h
        · cases h
        · cases h
          rw [List.length_append]
          show M.length + 1 ≤ _
          omega
theorem zb0 {us : List AV} {m : Nat} (hc : CL us m) {KK : Ex → St → Prop} (h1 : ∀ L, accP us m = some L → KK (.exit 0) (hB us m (rwo L) (m : Int) 2)) (h0 : accP us m = none → ∀ r i, KK pan (hB us m r i 4)) : AWq cR (.loop bB) (hB us m none 0 2) KK := by
  have hm := hc.2.1
  refine awq_loopK hC (ι := { x : Nat × RL // x.1 ≤ m ∧ accP us x.1 = some x.2 }) (fun x => hB us m (rwo x.1.2) (x.1.1 : Int) 2) (fun x => m - x.1.1) (n := 300) (l := fun _ => []) (g := keepSH [2, 7, 8, 9] [1, 5]) (fun _ => by rw [lB]; exact trivial) (fun s => LessS.keepSH _ _ s) ?_ ⟨(0, []), Nat.zero_le _, rfl⟩
  rintro ⟨⟨i, L⟩, him, hi⟩ K hk
  have him : i ≤ m := him
  have hi : accP us i = some L := hi
  have hll := accP_len us i L hi
  have e1 : IntKind.wrap .i64 ((i : Int) + 1) = ((i + 1 : Nat) : Int) := by
    rw [wI (by omega) (by omega)]
    omega
  refine (t_b0 us m (rwo L) (i : Int) K).trans (bdt (fun h => ?_) (fun h => hk _ _ ?_))
  · have h : ((i : Nat) : Int) < Int.ofNat m := of_decide_eq_true h
    have eo : (Int.ofNat m : Int) = (m : Int) := rfl
    have h' : i < m := by omega
    have hS : accP us (i + 1) = accT us i L := by
      show (accP us i).bind (accT us i) = _
      rw [hi]
      rfl
    have ea : gA us (i : Int) = cA us i := rfl
    have eb : gB us (i : Int) = cB us i := rfl
    have ec : gC us (i : Int) = cC us i := rfl
    have nb : 0 ≤ cB us i := (hc.2.2 _ (by rw [hc.1]; omega)).2
    have nc : 0 ≤ cC us i := (hc.2.2 _ (by rw [hc.1]; omega)).2
    have bad : accT us i L = none → ∀ r j, RndG cR (fun x : { x : Nat × RL // x.1 ≤ m ∧ accP us x.1 = some x.2 } => hB us m (rwo x.1.2) (x.1.1 : Int) 2) (fun x => m - x.1.1) KK ⟨(i, L), him, hi⟩ pan (hB us m r j 4) := fun hn r j => .inr ⟨fun hh => (by cases hh), h0 (accP_none (i := i + 1) (by rw [hS]; exact hn) h') r j⟩
    have good : ∀ M s, accT us i L = some M → Less cR s (hB us m (rwo M) ((i + 1 : Nat) : Int) 2) → RndG cR (fun x : { x : Nat × RL // x.1 ≤ m ∧ accP us x.1 = some x.2 } => hB us m (rwo x.1.2) (x.1.1 : Int) 2) (fun x => m - x.1.1) KK ⟨(i, L), him, hi⟩ .normal s := fun M s hM hs =>
      .inl ⟨rfl, ⟨(i + 1, M), h', by show accP us (i + 1) = some M; rw [hS]; exact hM⟩, by show m - (i + 1) < m - i; omega, hs⟩
    have rest : ¬ Bare us i → (br (decide (cA us i = 1)) (tB2 us m (rwo L) (i : Int) K) (br (decide (cA us i = 2)) (tB2 us m (rwo L) (i : Int) K) (K pan (hB us m (rwo L) (i : Int) 4)))) = true := fun hnb => by
      have two : (cA us i = 1 ∨ cA us i = 2) → tB2 us m (rwo L) (i : Int) K = true := fun ha => by
        unfold tB2
        rw [eb, ec]
        refine bdt (fun a1 => bdt (fun a2 => hk _ _ (bad ?_ _ _)) (fun a2 => apx_ok (by omega) (hk _ _ (good (L ++ [(acK us i, cA us i)]) _ ?_ ?_)))) (fun a1 => hk _ _ (bad ?_ _ _))
        · have a2 : ¬ cC us i ≤ 65535 := by simpa using a2
          unfold accT
          rw [if_neg hnb, if_pos (.inr (.inr (by omega)))]
        · have a1 := of_decide_eq_true a1
          have a2 : cC us i ≤ 65535 := by simpa using a2
          have hnB : ¬ AcBad us i := by
            unfold AcBad
            omega
          unfold accT
          rw [if_neg hnb, if_neg hnB]
        · have a1 := of_decide_eq_true a1
          have a2 : cC us i ≤ 65535 := by simpa using a2
          have ek : pK us (i : Int) = acK us i := by
            unfold pK acK
            rw [eb, ec]
            exact orK (by omega) (by omega)
          rw [ek, ea, e1, ← apx]
          exact ren_B5 _ _ _ _ _
        · have a1 := of_decide_eq_false a1
          unfold accT
          rw [if_neg hnb, if_pos (.inr (.inl (by omega)))]
      refine bdt (fun a1 => two (.inl (of_decide_eq_true a1))) (fun a1 => bdt (fun a2 => two (.inr (of_decide_eq_true a2))) (fun a2 => hk _ _ (bad ?_ _ _)))
      unfold accT
      rw [if_neg hnb, if_pos (.inl ⟨of_decide_eq_false a1, of_decide_eq_false a2⟩)]
    refine ld4_ok hc h' ?_
    unfold brBare
    rw [ea, eb, ec]
    refine bdt (fun a1 => bdt (fun a2 => bdt (fun a3 => hk _ _ (good L _ ?_ ?_)) (fun a3 => rest ?_)) (fun a2 => rest ?_)) (fun a1 => rest ?_)
    · unfold accT
      rw [if_pos ⟨of_decide_eq_true a1, of_decide_eq_true a2, of_decide_eq_true a3⟩]
    · rw [e1]
      exact ren_B4 _ _ _ _
    · exact fun hh => of_decide_eq_false a3 hh.2.2
    · exact fun hh => of_decide_eq_false a2 hh.2.1
    · exact fun hh => of_decide_eq_false a1 hh.1
  · have h : ¬ ((i : Nat) : Int) < Int.ofNat m := of_decide_eq_false h
    have eo : (Int.ofNat m : Int) = (m : Int) := rfl
    have h' : i = m := by omega
    subst h'
    exact .inr ⟨fun hh => (by cases hh), h1 L hi⟩
end Go.Bas.BasAvB
end
section
namespace Go.Bas.BasAvB2
open Go.RowKit Go.Proofs
open Go.Bas.BasZBase Go.Bas.BasAvR1 Go.Bas.BasAvR2 Go.Bas.BasAvR3 Go.Bas.BasAvL Go.Bas.BasAvF Go.Bas.BasAvW Go.Bas.BasAvP1 Go.Bas.BasAvP2 Go.Bas.BasAvP4 Go.Bas.BasAvA Go.Bas.BasAvS Go.Bas.BasAvS2 Go.Bas.BasAvS3 Go.Bas.BasAvS4 Go.Bas.BasAvB
set_option maxRecDepth 100000
set_option maxHeartbeats 4000000
set_option linter.unusedVariables false
set_option linter.unusedSimpArgs false
noncomputable abbrev b0 : Code := sel [false] codeB
noncomputable abbrev b1 : Code := sel [true, false, false] codeB
noncomputable abbrev b2 : Code := sel [true, false, true] codeB
noncomputable abbrev b3 : Code := sel [true, true, false] codeB
theorem b_code : codeB = .seq b0 (.seq (.seq b1 b2) (.seq b3 .ret)) := by kernel_rfl
theorem b3_is : b3 = .region 8 (opsOf b3) false := by kernel_rfl
noncomputable def A1 (c : Conf) (us : List AV) (m : Nat) : St := ⟨[.any, .ptr 0 0, .nils, .any, .any, .any, .any, .any, .any, .any, .any, .any, .any, .any, .any, .any, .any, .any, .any, .any, .any, .any, .any, .any, .any, .any, .any, .any, .any, .any, .any, .any, .any, .any, .any, .any, .any, .any, .any, .any, .any, .any, .any, .any, .any, .any, .any, .any, .any], [], ⟨[(0, ⟨c.cells ++ [.lst us m], 56, true⟩)], 1, []⟩⟩
theorem t_b_0 (c : Conf) (us : List AV) (m : Nat) (k : Ex → St → Bool) : run cR 300 none none b0 (st0 Tryd.prog 60 [agC c us m]) (fun e s => k e (keepSH [1, 2] [0] s)) false = k .normal (A1 c us m) := by kernel_rfl
theorem t_b_1 (c : Conf) (us : List AV) (m : Nat) (k : Ex → St → Bool) : run cR 300 none none b1 (A1 c us m) (fun e s => k e (keepSH [2, 7, 8, 9] [] s)) false = k .normal (hB us m none 0 1) := by kernel_rfl
noncomputable def XB (r : Option (List AV × Nat)) : St := ⟨[.any, .any, rwV r, .any, .any, .any, .any, .any, .any, .any, .any, .any, .any, .any, .any, .any, .any, .any, .any, .any, .any, .any, .any, .any, .any, .any, .any, .any, .any, .any, .any, .any, .any, .any, .any, .any, .any, .any, .any, .any, .any, .any, .any, .any, .any, .any, .any, .any, .any], [], memR r 2⟩
noncomputable def PX : St := ⟨[.any, .any, .any, .any, .any, .any, .any, .any, .any, .any, .any, .any, .any, .any, .any, .any, .any, .any, .any, .any, .any, .any, .any, .any, .any, .any, .any, .any, .any, .any, .any, .any, .any, .any, .any, .any, .any, .any, .any, .any, .any, .any, .any, .any, .any, .any, .any, .any, .any], [], ⟨[], 4, []⟩⟩
noncomputable def LFb (us : List AV) (m : Nat) (r : Option (List AV × Nat)) (ok : Bool) : LF := fun st K => cond (onP (keepSH [2, 7, 8, 9] [] st = hB us m none 0 1)) (br ok (K (.exit 0) (XB r)) (K pan PX)) false
theorem t_b_2 (us : List AV) (m : Nat) (r : Option (List AV × Nat)) (ok : Bool) (K : Ex → St → Bool) : runM cR 300 b2 [LFb us m r ok] (hB us m none 0 1) (fun e s => K e (keepSH [2] [1] s)) = ba (onP (hB us m none 0 1 = hB us m none 0 1)) (br ok (K .normal (XB r)) (K pan PX)) := by
  cases r with
  | none => kernel_rfl
  | some p => obtain ⟨a, b⟩ := p; kernel_rfl
theorem l_b2 : loopsOf b2 = [.loop bB] := by kernel_rfl
theorem LFb_ok {us : List AV} {m : Nat} (hc : CL us m) {L : RL} {ok : Bool} (h1 : ok = true → accP us m = some L) (h0 : ok = false → accP us m = none) : ∀ (st : St) (K : Ex → St → Bool), LFb us m (rwo L) ok st K = true → AWq cR (.loop bB) st (fun e s => K e s = true) := fun st K hk => by
  obtain ⟨e1, e2⟩ := of_cond hk
  have e1 := of_onP e1
  refine AWq.less (fun w B oC oL ω a S => ⟨ω, (LessS.keepSH (C := cR) [2, 7, 8, 9] [] st).2 w B oC oL ω a S⟩) ?_
  rw [e1]
  refine AWq.less (ren_B1 us m 0) ?_
  refine AWq.post (K := fun e s => (e = pan ∧ accP us m = none ∧ ∃ r i, s = hB us m r i 4) ∨ (e = .exit 0 ∧ ∃ M, accP us m = some M ∧ s = hB us m (rwo M) (m : Int) 2)) (zb0 hc (fun M h => .inr ⟨rfl, M, h, rfl⟩) (fun h r i => .inl ⟨rfl, h, r, i, rfl⟩)) ?_
  rintro e s (⟨rfl, hn, r, i, rfl⟩ | ⟨rfl, M, hM, rfl⟩)
  · cases ok with
    | true => rw [h1 rfl] at hn; cases hn
    | false =>
      refine ⟨PX, ?_, e2⟩
      have e : ∀ r, keepSH [] [] (hB us m r i 4) = PX := fun r => by cases r <;> kernel_rfl
      rw [← e r]
      exact LessS.keepSH _ _ _
  · cases ok with
    | false => rw [h0 rfl] at hM; cases hM
    | true =>
      rw [h1 rfl] at hM
      cases hM
      refine ⟨XB (rwo L), ?_, e2⟩
      have e : ∀ r, keepSH [2] [1] (hB us m r (m : Int) 2) = XB r := fun r => by
        cases r with
        | none => kernel_rfl
        | some p => obtain ⟨a, b⟩ := p; kernel_rfl
      rw [← e]
      exact LessS.keepSH _ _ _
theorem t_b3a (r r' : Option (List AV × Nat)) (k : Ex → St → Bool) : opsK cR (callX cR (run cR 300) 61 [rwV r] (memR r 2) false (rwV r') (memR r' 2)) (opsOf b3) (opsOf b3).toList (XB r) (fun s => k .normal (keepSH [2] [1] s)) (fun v s => k (.panic v) (keepSH [2] [1] s)) false = ba (onP ([rwV r] = [rwV r] ∧ memR r 2 = memR r 2)) (k .normal (XB r')) := by
  cases r with
  | none => cases r' with
    | none => kernel_rfl
    | some q => obtain ⟨c, d⟩ := q; kernel_rfl
  | some p =>
    obtain ⟨a, b⟩ := p
    cases r' with
    | none => kernel_rfl
    | some q => obtain ⟨c, d⟩ := q; kernel_rfl
theorem t_b3p (r r' : Option (List AV × Nat)) (k : Ex → St → Bool) : opsK cR (callX cR (run cR 300) 61 [rwV r] (memR r 2) true errI (memR r' 2)) (opsOf b3) (opsOf b3).toList (XB r) (fun s => k .normal (keepSH [] [] s)) (fun v s => k (.panic v) (keepSH [] [] s)) false = ba (onP ([rwV r] = [rwV r] ∧ memR r 2 = memR r 2)) (k pan ⟨[.any, .any, .any, .any, .any, .any, .any, .any, .any, .any, .any, .any, .any, .any, .any, .any, .any, .any, .any, .any, .any, .any, .any, .any, .any, .any, .any, .any, .any, .any, .any, .any, .any, .any, .any, .any, .any, .any, .any, .any, .any, .any, .any, .any, .any, .any, .any, .any, .any], [], ⟨[], 2, []⟩⟩) := by
  cases r with
  | none => cases r' with
    | none => kernel_rfl
    | some q => obtain ⟨c, d⟩ := q; kernel_rfl
  | some p =>
    obtain ⟨a, b⟩ := p
    cases r' with
    | none => kernel_rfl
    | some q => obtain ⟨c, d⟩ := q; kernel_rfl
theorem t_rB (r : Option (List AV × Nat)) (K : AV → Bool) : resF cR 60 (XB r) K false = BasAvW.frz r K := by
  cases r with
  | none => kernel_rfl
  | some p => obtain ⟨a, b⟩ := p; kernel_rfl
theorem t_ret (r : Option (List AV × Nat)) (k : Ex → St → Bool) : run cR 300 none none .ret (XB r) (fun e s => k e (keepSH [2] [1] s)) false = k .ret (XB r) := by
  cases r with
  | none => kernel_rfl
  | some p => obtain ⟨a, b⟩ := p; kernel_rfl
/-- The way up to the rows' sorting. -/
theorem b_to {c : Conf} {us : List AV} {m : Nat} (hc : CL us m) {L : RL} {ok : Bool} (h1 : ok = true → accP us m = some L) (h0 : ok = false → accP us m = none) {K : Ex → St → Prop} (hp : ok = false → K pan PX) (hn : ok = true → AWq cR (.seq b3 .ret) (XB (rwo L)) K) : AWq cR codeB (st0 Tryd.prog 60 [agC c us m]) K := by
  rw [b_code]
  refine AWq.seq (AWq.mono (fun e s hh => ?_) (awp_run hC (t_b_0 c us m)).q)
  obtain ⟨rfl, hh⟩ := hh
  refine AWq.less (fun w B oC oL ω a S => ⟨ω, hh.2 w B oC oL ω a S⟩) (AWq.seq (AWq.seq (AWq.mono (fun e s hh => ?_) (awp_run hC (t_b_1 c us m)).q)))
  obtain ⟨rfl, hh⟩ := hh
  refine AWq.less (fun w B oC oL ω a S => ⟨ω, hh.2 w B oC oL ω a S⟩) ?_
  have h4 : AWq cR b2 (hB us m none 0 1) (fun e s => onP ((ok = true ∧ e = .normal ∧ keepSH [2] [1] s = XB (rwo L)) ∨ (ok = false ∧ e = pan ∧ keepSH [2] [1] s = PX)) = true) :=
    awq_gM hC (n := 300) (g := keepSH [2] [1]) (l := [LFb us m (rwo L) ok]) (K := fun e s => onP ((ok = true ∧ e = .normal ∧ s = XB (rwo L)) ∨ (ok = false ∧ e = pan ∧ s = PX)))
      (by rw [l_b2]; exact ⟨LFb_ok hc h1 h0, trivial⟩) ((t_b_2 us m (rwo L) ok (fun e s => onP ((ok = true ∧ e = .normal ∧ s = XB (rwo L)) ∨ (ok = false ∧ e = pan ∧ s = PX)))).trans (band (onP_true rfl) (bdt (fun ho => onP_true (.inl ⟨ho, rfl, rfl⟩)) (fun ho => onP_true (.inr ⟨ho, rfl, rfl⟩)))))
  refine AWq.post h4 fun e s he => ⟨keepSH [2] [1] s, LessS.keepSH _ _ s, ?_⟩
  rcases of_onP he with ⟨ho, rfl, hs⟩ | ⟨ho, rfl, hs⟩
  · rw [hs]
    exact hn ho
  · rw [hs]
    exact hp ho
theorem q_acP {c : Conf} {us : List AV} {m : Nat} (hc : CL us m) {L : RL} (hL : accP us m = some L) (hA : Adj (srt L)) : ACalls Tryd.prog (gmap gs) 60 [agC c us m] (fun v => v = rowsV (rwo (srt L))) := by
  have hll := accP_len us m L hL
  have hm := hc.2.1
  refine ACalls.mono (fun v hv => of_onP hv) (acalls_of_awq (C := cR) (k := fun v => onP (v = rowsV (rwo (srt L)))) (by kernel_rfl) ?_)
  refine b_to hc (ok := true) (fun _ => hL) (fun h => by cases h) (fun h => by cases h) (fun _ => AWq.seq ?_)
  have h3 : AWp cR none (.region 8 (opsOf b3) false) (XB (rwo L)) (fun e s => onP (e = .normal ∧ keepSH [2] [1] s = XB (rwo (srt L))) = true) :=
    AWp.regionC (callX_ok hC (run_sound hC 300).1 (by kernel_rfl) (sorted_ok (by omega) 2 hA)) (k := fun e s => (fun e s => onP (e = .normal ∧ s = XB (rwo (srt L)))) e (keepSH [2] [1] s))
      ((t_b3a (rwo L) (rwo (srt L)) (fun e s => onP (e = .normal ∧ s = XB (rwo (srt L))))).trans (band (onP_true ⟨rfl, rfl⟩) (onP_true ⟨rfl, rfl⟩)))
  rw [← b3_is] at h3
  refine AWq.mono (fun e s he => ?_) h3.q
  obtain ⟨rfl, he2⟩ := of_onP he
  refine AWq.less (fun w B oC oL ω a S => ⟨ω, (LessS.keepSH (C := cR) [2] [1] s).2 w B oC oL ω a S⟩) ?_
  rw [he2]
  refine AWq.post (awp_run hC (t_ret (rwo (srt L)))).q fun e s hh => ?_
  obtain ⟨rfl, hh⟩ := hh
  refine ⟨_, hh, .inl rfl, ?_⟩
  rw [t_rB]
  exact frz_ok (onP_true rfl)
theorem p_acP {c : Conf} {us : List AV} {m : Nat} (hc : CL us m) (hn : ∀ L, accP us m = some L → ¬ Adj (srt L)) : PCalls Tryd.prog (gmap gs) 60 [agC c us m] 27 .i64 2 := by
  have hm := hc.2.1
  refine pcalls_of_awq (C := cR) (by kernel_rfl) ?_
  cases hq : accP us m with
  | none => exact b_to hc (L := []) (ok := false) (fun h => by cases h) (fun _ => hq) (fun _ => ⟨rfl, rfl, rfl⟩) (fun h => by cases h)
  | some L =>
    have hll := accP_len us m L hq
    refine b_to hc (ok := true) (fun _ => hq) (fun h => by cases h) (fun h => by cases h) (fun _ => AWq.seq ?_)
    have h3 : AWp cR none (.region 8 (opsOf b3) false) (XB (rwo L)) (fun e s => onP (e = pan ∧ keepSH [] [] s = ⟨[.any, .any, .any, .any, .any, .any, .any, .any, .any, .any, .any, .any, .any, .any, .any, .any, .any, .any, .any, .any, .any, .any, .any, .any, .any, .any, .any, .any, .any, .any, .any, .any, .any, .any, .any, .any, .any, .any, .any, .any, .any, .any, .any, .any, .any, .any, .any, .any, .any], [], ⟨[], 2, []⟩⟩) = true) :=
      AWp.regionC (callX_ok hC (run_sound hC 300).1 (by kernel_rfl) (sorted_pan (by omega) 2 (hn L hq))) (k := fun e s => (fun e s => onP (e = pan ∧ s = ⟨[.any, .any, .any, .any, .any, .any, .any, .any, .any, .any, .any, .any, .any, .any, .any, .any, .any, .any, .any, .any, .any, .any, .any, .any, .any, .any, .any, .any, .any, .any, .any, .any, .any, .any, .any, .any, .any, .any, .any, .any, .any, .any, .any, .any, .any, .any, .any, .any, .any], [], ⟨[], 2, []⟩⟩)) e (keepSH [] [] s))
        ((t_b3p (rwo L) (rwo (srt L)) (fun e s => onP (e = pan ∧ s = ⟨[.any, .any, .any, .any, .any, .any, .any, .any, .any, .any, .any, .any, .any, .any, .any, .any, .any, .any, .any, .any, .any, .any, .any, .any, .any, .any, .any, .any, .any, .any, .any, .any, .any, .any, .any, .any, .any, .any, .any, .any, .any, .any, .any, .any, .any, .any, .any, .any, .any], [], ⟨[], 2, []⟩⟩))).trans (band (onP_true ⟨rfl, rfl⟩) (onP_true ⟨rfl, rfl⟩)))
    rw [← b3_is] at h3
    refine AWq.post h3.q fun e s he => ⟨keepSH [] [] s, LessS.keepSH _ _ s, ?_⟩
    obtain ⟨rfl, he2⟩ := of_onP he
    refine ⟨rfl, ?_, ?_⟩
    · rw [he2]
    · rw [he2]
end Go.Bas.BasAvB2
end
section
namespace Go.Bas.BasAvT
open Go.RowKit Go.Proofs
open Go.Bas.BasZBase Go.Bas.BasAvR1 Go.Bas.BasAvR2 Go.Bas.BasAvR3 Go.Bas.BasAvL Go.Bas.BasAvF Go.Bas.BasAvW Go.Bas.BasAvP1 Go.Bas.BasAvP2 Go.Bas.BasAvA
set_option maxRecDepth 100000
set_option maxHeartbeats 4000000
set_option linter.unusedVariables false
set_option linter.unusedSimpArgs false
noncomputable def tN (c : Conf) (us : List AV) (m : Nat) (i : Int) (F one more : Bool) : Bool :=
  ld4 us m i (br (decide (gA us i < 1)) F (br (decide (gA us i > IntKind.wrap .u64 (IntKind.wrap .u64 c.cap + 1))) F (br (decide (gB us i < 1)) F (br (decide (gB us i > 65535)) F (br (decide (gC us i > 2147483648)) F (br (decide (gA us i = 1)) one more))))))
noncomputable def upI (us : List AV) (i : Int) : Int := IntKind.wrap .i64 (IntKind.wrap .i64 (gA us i) - 2)
noncomputable def k3I (a b d : Int) : Int := IntKind.wrap .u64 (IntKind.wrap .u64 (IntKind.wrap .u64 (a * 4294967296) + b) + d)
noncomputable def tPath (c : Conf) (us : List AV) (m : Nat) (i : Int) (K : AV → Bool) : Bool :=
  tN c us m i (K (.tup [.int .u64 0, .bool false])) (K (.tup [.int .u64 (k3I (gB us i) 0 0), .bool true]))
    (tN c us m (upI us i) (K (.tup [.int .u64 0, .bool false])) (K (.tup [.int .u64 (k3I (gB us (upI us i)) (IntKind.wrap .u64 (gB us i * 65536)) 0), .bool true]))
      (tN c us m (upI us (upI us i)) (K (.tup [.int .u64 0, .bool false])) (K (.tup [.int .u64 (k3I (gB us (upI us (upI us i))) (IntKind.wrap .u64 (gB us (upI us i) * 65536)) (gB us i)), .bool true])) (K (.tup [.int .u64 0, .bool false]))))
theorem t_path (c : Conf) (us : List AV) (m : Nat) (i : Int) (K : AV → Bool) : runFM cR 300 31 [] [c.av, .lst us m, .int .i64 i] K = tPath c us m i K := by kernel_rfl
/-- A node that may not be. -/
def NdBad (c : Conf) (us : List AV) (i : Nat) : Prop := cA us i < 1 ∨ cA us i > c.cap + 1 ∨ cB us i < 1 ∨ cB us i > 65535 ∨ cC us i > 2147483648
noncomputable def upN (us : List AV) (i : Nat) : Nat := (cA us i - 2).toNat
open Classical in
/-- The key of a node's path. -/
noncomputable def keyT (c : Conf) (us : List AV) (i : Nat) : Option Int :=
  if NdBad c us i then none else if cA us i = 1 then some (cB us i * 4294967296) else
  if NdBad c us (upN us i) then none else if cA us (upN us i) = 1 then some (cB us (upN us i) * 4294967296 + cB us i * 65536) else
  if NdBad c us (upN us (upN us i)) then none else if cA us (upN us (upN us i)) = 1 then some (cB us (upN us (upN us i)) * 4294967296 + cB us (upN us i) * 65536 + cB us i) else none
noncomputable def kI (c : Conf) (us : List AV) (i : Int) : Int := (keyT c us i.toNat).getD 0
noncomputable def kB (c : Conf) (us : List AV) (i : Int) : Bool := (keyT c us i.toNat).isSome
noncomputable def pthV (c : Conf) (us : List AV) (i : Int) : AV := .tup [.int .u64 (kI c us i), .bool (kB c us i)]
def TrOk (c : Conf) (us : List AV) (m : Nat) : Prop := CL us m ∧ c.cap ≤ (m : Int) ∧ 1 ≤ c.cap ∧ c.cap ≤ 32
theorem tN_ok {c : Conf} {us : List AV} {m : Nat} (ho : TrOk c us m) {i : Nat} (hi : i < m) {F one more : Bool} (hF : NdBad c us i → F = true) (h1 : ¬ NdBad c us i → cA us i = 1 → one = true) (h2 : ¬ NdBad c us i → cA us i ≠ 1 → more = true) : tN c us m (i : Int) F one more = true := by
  obtain ⟨hc, h3, h4, h5⟩ := ho
  have ew : IntKind.wrap .u64 (IntKind.wrap .u64 c.cap + 1) = c.cap + 1 := by rw [wU (i := c.cap) (by omega) (by omega), wU (by omega) (by omega)]
  refine ld4_ok hc hi ?_
  rw [ew, show gA us (i : Int) = cA us i from rfl, show gB us (i : Int) = cB us i from rfl, show gC us (i : Int) = cC us i from rfl]
  unfold NdBad at hF h1 h2
  refine bdt (fun a => hF (.inl (of_decide_eq_true a))) (fun a1 => bdt (fun a => hF (.inr (.inl (of_decide_eq_true a)))) (fun a2 => bdt (fun a => hF (.inr (.inr (.inl (of_decide_eq_true a))))) (fun a3 => bdt (fun a => hF (.inr (.inr (.inr (.inl (of_decide_eq_true a)))))) (fun a4 => bdt (fun a => hF (.inr (.inr (.inr (.inr (of_decide_eq_true a)))))) (fun a5 => ?_)))))
  have a1 := of_decide_eq_false a1
  have a2 := of_decide_eq_false a2
  have a3 := of_decide_eq_false a3
  have a4 := of_decide_eq_false a4
  have a5 := of_decide_eq_false a5
  exact bdt (fun a => h1 (by omega) (of_decide_eq_true a)) (fun a => h2 (by omega) (of_decide_eq_false a))
theorem upN_lt {c : Conf} {us : List AV} {m : Nat} (ho : TrOk c us m) {i : Nat} (hn : ¬ NdBad c us i) (h1 : cA us i ≠ 1) : upN us i < m ∧ upI us (i : Int) = ((upN us i : Nat) : Int) := by
  obtain ⟨hc, h3, h4, h5⟩ := ho
  unfold NdBad at hn
  unfold upN upI
  rw [show gA us (i : Int) = cA us i from rfl]
  refine ⟨by omega, ?_⟩
  rw [wI (i := cA us i) (by omega) (by omega), wI (by omega) (by omega)]
  omega
theorem k3_is {a b d : Int} (ha : 0 ≤ a ∧ a ≤ 65535) (hb : 0 ≤ b ∧ b ≤ 4294967295) (hd : 0 ≤ d ∧ d ≤ 65535) : k3I a b d = a * 4294967296 + b + d := by
  unfold k3I
  rw [wU6 (i := a * 4294967296) (by omega) (by omega), wU6 (i := a * 4294967296 + b) (by omega) (by omega), wU6 (by omega) (by omega)]
theorem q_pth {c : Conf} {us : List AV} {m : Nat} (ho : TrOk c us m) {i : Nat} (hi : i < m) : ACalls Tryd.prog (gmap gs) 31 [c.av, .lst us m, .int .i64 (i : Int)] (fun v => v = pthV c us (i : Int)) := by
  refine acalls_eqM (q := fun _ => false) base sums_nil (n := 300) (fs := []) (by kernel_rfl) trivial fun K hK => ?_
  have hK : K (.tup [.int .u64 ((keyT c us i).getD 0), .bool (keyT c us i).isSome]) = true := hK
  have nb : ∀ {j : Nat}, ¬ NdBad c us j → 0 ≤ cB us j ∧ cB us j ≤ 65535 := fun h => by
    unfold NdBad at h
    omega
  have w1 : ∀ {j : Nat}, ¬ NdBad c us j → IntKind.wrap .u64 (cB us j * 65536) = cB us j * 65536 ∧ 0 ≤ cB us j * 65536 ∧ cB us j * 65536 ≤ 4294967295 := fun h => by
    have := nb h
    exact ⟨wU6 (by omega) (by omega), by omega, by omega⟩
  refine (t_path c us m i K).trans (tN_ok ho hi (fun h => ?_) (fun h1 h2 => ?_) (fun h1 h2 => ?_))
  · unfold keyT at hK
    rw [if_pos h] at hK
    exact hK
  · unfold keyT at hK
    rw [if_neg h1, if_pos h2] at hK
    rw [show gB us (i : Int) = cB us i from rfl, k3_is (nb h1) (by omega) (by omega), Int.add_zero, Int.add_zero]
    exact hK
  · obtain ⟨u1, u2⟩ := upN_lt ho h1 h2
    rw [u2, show gB us ((upN us i : Nat) : Int) = cB us (upN us i) from rfl, show gB us (i : Int) = cB us i from rfl, (w1 h1).1]
    refine tN_ok ho u1 (fun h => ?_) (fun h3 h4 => ?_) (fun h3 h4 => ?_)
    · unfold keyT at hK
      rw [if_neg h1, if_neg h2, if_pos h] at hK
      exact hK
    · unfold keyT at hK
      rw [if_neg h1, if_neg h2, if_neg h3, if_pos h4] at hK
      rw [k3_is (nb h3) (w1 h1).2 (by omega), Int.add_zero]
      exact hK
    · obtain ⟨u3, u4⟩ := upN_lt ho h3 h4
      rw [u4, show gB us ((upN us (upN us i) : Nat) : Int) = cB us (upN us (upN us i)) from rfl, (w1 h3).1]
      refine tN_ok ho u3 (fun h => ?_) (fun h5 h6 => ?_) (fun h5 h6 => ?_)
      · unfold keyT at hK
        rw [if_neg h1, if_neg h2, if_neg h3, if_neg h4, if_pos h] at hK
        exact hK
      · unfold keyT at hK
        rw [if_neg h1, if_neg h2, if_neg h3, if_neg h4, if_neg h5, if_pos h6] at hK
        rw [k3_is (nb h5) (w1 h3).2 (nb h1)]
        exact hK
      · unfold keyT at hK
        rw [if_neg h1, if_neg h2, if_neg h3, if_neg h4, if_neg h5, if_neg h6] at hK
        exact hK
noncomputable def S_pth : Sum := (31, on3 rConf rLs (rI .i64) (fun c p i => onP (TrOk c p.1 p.2 ∧ 0 ≤ i ∧ i < (p.2 : Int))) (fun c p i => pthV c p.1 i))
theorem s_pth : SumOk Tryd.prog (gmap gs) S_pth := on3_sum fun c p i hp => by
  obtain ⟨h1, h2, h3⟩ := of_onP hp
  obtain ⟨j, rfl⟩ : ∃ j : Nat, i = (j : Int) := ⟨i.toNat, by omega⟩
  exact q_pth h1 (by omega)
end Go.Bas.BasAvT
end
section
namespace Go.Bas.BasAvT2
open Go.RowKit Go.Proofs
open Go.Bas.BasZBase Go.Bas.BasAvR1 Go.Bas.BasAvR2 Go.Bas.BasAvR3 Go.Bas.BasAvL Go.Bas.BasAvF Go.Bas.BasAvW Go.Bas.BasAvP1 Go.Bas.BasAvP2 Go.Bas.BasAvA Go.Bas.BasAvT
set_option maxRecDepth 100000
set_option maxHeartbeats 4000000
set_option linter.unusedVariables false
set_option linter.unusedSimpArgs false
theorem sumsT : ∀ s ∈ [S_fnd, S_wth, S_pth], SumOk Tryd.prog (gmap gs) s := sums_cons s_fnd (sums_cons s_wth (sums_cons s_pth sums_nil))
noncomputable abbrev cT : Cfg := cfg [S_fnd, S_wth, S_pth]
theorem hCT : cT.Ok := cfg_ok base sumsT
noncomputable abbrev codeT : Code := fcode Tryd.prog 21
noncomputable abbrev bT : Code := loopAt codeT [0]
noncomputable def hT (c : Conf) (us : List AV) (m : Nat) (r : Option (List AV × Nat)) (i : Int) (nx : Nat) : St := ⟨[.any, .lst us m, .ptr 0 0, .any, .any, .any, rowsV r, .int .i64 i, .any, .any, .any, .any, .any, .any, .any, .any, .any, .any, .any, .any, .any, .any, .any, .any, .any, .any, .any, .any, .any, .any, .any, .any, .any, .any, .any, .any, .any, .any, .any, .any, .any, .any, .any, .any, .any], [], ⟨[(0, ⟨c.cells, 24, true⟩)], nx, []⟩⟩
noncomputable def hTr (c : Conf) (us : List AV) (m : Nat) (r : Option (List AV × Nat)) (i : Int) : St := ⟨[.any, .lst us m, .ptr 0 0, .any, .nils, .bool false, rowsV r, .int .i64 i, .any, .any, .any, .any, .any, .any, .any, .any, .any, .any, .any, .any, .any, .any, .any, .any, .any, .any, .any, .any, .any, .any, .any, .any, .any, .any, .any, .any, .any, .any, .any, .any, .any, .any, .any, .any, .any], [], ⟨[(0, ⟨c.cells, 24, true⟩)], 2, []⟩⟩
noncomputable def tTe (c : Conf) (us : List AV) (m : Nat) (r : Option (List AV × Nat)) (i : Int) (K : Ex → St → Bool) : Bool :=
  ba (onP (TrOk c us m ∧ 0 ≤ i ∧ i < (m : Int))) (br (!kB c us i) (K .ret (hTr c us m r i)) (ba (rwOk r) (br (decide (fI (decR r) (kI c us i) (decR r).length 0 ≥ 0)) (K .ret (hTr c us m r i))
    (ldC us m i 3 (ba (rwOk r) (K .normal (hT c us m (rwo (withL (decR r) (kI c us i) (lget us (i.toNat * 4 + 3)).toI)) (IntKind.wrap .i64 (i + 1)) 2)))))))
theorem t_t0 (c : Conf) (us : List AV) (m : Nat) (r : Option (List AV × Nat)) (i : Int) (K : Ex → St → Bool) : runM cT 300 bT [] (hT c us m r i 1) (fun e s => K e (keepSH [1, 2, 4, 5, 6, 7] [0] s)) =
    br (decide (i < Int.ofNat m)) (ld4 us m i (brBare us i (K .normal (hT c us m r (IntKind.wrap .i64 (i + 1)) 2)) (tTe c us m r i K))) (K (.exit 0) (hT c us m r i 1)) := by
  cases r with
  | none => kernel_rfl
  | some p => obtain ⟨a, b⟩ := p; kernel_rfl
theorem lT : loopsOf bT = [] := by kernel_rfl
theorem ren_T (c : Conf) (us : List AV) (m : Nat) (r : Option (List AV × Nat)) (i : Int) : Less cT (hT c us m r i 2) (hT c us m r i 1) := by
  have h := Less.ren (C := cT) [(0, 0)] 1 (st := hT c us m r i 2) rfl rfl (by cases r <;> kernel_rfl)
  have e : renS [(0, 0)] 1 (hT c us m r i 2) = hT c us m r i 1 := by
    cases r with
    | none => kernel_rfl
    | some p => obtain ⟨c, d⟩ := p; kernel_rfl
  rw [e] at h
  exact h
/-- One cell more. -/
noncomputable def treN (L : RL) (k : Int) (v : Int) : Option RL := if fI L k L.length 0 ≥ 0 then none else some (withL L k v)
open Classical in
noncomputable def treS (c : Conf) (us : List AV) (i : Nat) (L : RL) : Option RL :=
  if Bare us i then some L else (keyT c us i).bind fun k => treN L k (cC us i)
noncomputable def treR (c : Conf) (us : List AV) : Nat → Option RL
  | 0 => some []
  | i + 1 => (treR c us i).bind (treS c us i)
theorem treR_none {c : Conf} {us : List AV} {i : Nat} (h : treR c us i = none) : ∀ {j : Nat}, i ≤ j → treR c us j = none
  | 0, hj => by rw [show i = 0 by omega] at h; exact h
  | j + 1, hj => by
    by_cases e : i = j + 1
    · rw [← e]; exact h
    · show (treR c us j).bind _ = none
      rw [treR_none h (by omega)]
      rfl
theorem treR_len (c : Conf) (us : List AV) : ∀ (i : Nat) (L : RL), treR c us i = some L → L.length ≤ i
  | 0, L, h => by
    have h : some [] = some L := h
    cases h
    exact Nat.le_refl _
  | i + 1, L, h => by
    have h : (treR c us i).bind (treS c us i) = some L := h
    cases hq : treR c us i with
    | none => rw [hq] at h; cases h
    | some M =>
      rw [hq] at h
      have hm := treR_len c us i M hq
      have h : treS c us i M = some L := h
      unfold treS at h
      split at h
      · cases h; omega
      · cases hk : keyT c us i with
        | none => rw [hk] at h; cases h
        | some k =>
          rw [hk] at h
          have h : treN M k (cC us i) = some L := h
          unfold treN at h
          split at h
          · cases h
          · cases h
            have := withL_len M k (cC us i)
            omega
theorem zt0 {c : Conf} {us : List AV} {m : Nat} (ho : TrOk c us m) {KK : Ex → St → Prop} (h1 : ∀ L, treR c us m = some L → KK (.exit 0) (hT c us m (rwo L) (m : Int) 1)) (h0 : treR c us m = none → ∀ r i, KK .ret (hTr c us m r i)) : AWq cT (.loop bT) (hT c us m none 0 1) KK := by
  have hc := ho.1
  have hm := hc.2.1
  refine awq_loopK hCT (ι := { x : Nat × RL // x.1 ≤ m ∧ treR c us x.1 = some x.2 }) (fun x => hT c us m (rwo x.1.2) (x.1.1 : Int) 1) (fun x => m - x.1.1) (n := 300) (l := fun _ => []) (g := keepSH [1, 2, 4, 5, 6, 7] [0]) (fun _ => by rw [lT]; exact trivial) (fun s => LessS.keepSH _ _ s) ?_ ⟨(0, []), Nat.zero_le _, rfl⟩
  rintro ⟨⟨i, L⟩, him, hi⟩ K hk
  have him : i ≤ m := him
  have hi : treR c us i = some L := hi
  have hll := treR_len c us i L hi
  have e1 : IntKind.wrap .i64 ((i : Int) + 1) = ((i + 1 : Nat) : Int) := by
    rw [wI (by omega) (by omega)]
    omega
  refine (t_t0 c us m (rwo L) (i : Int) K).trans (bdt (fun h => ?_) (fun h => hk _ _ ?_))
  · have h : ((i : Nat) : Int) < Int.ofNat m := of_decide_eq_true h
    have eo : (Int.ofNat m : Int) = (m : Int) := rfl
    have h' : i < m := by omega
    have hS : treR c us (i + 1) = treS c us i L := by
      show (treR c us i).bind (treS c us i) = _
      rw [hi]
      rfl
    have ea : gA us (i : Int) = cA us i := rfl
    have eb : gB us (i : Int) = cB us i := rfl
    have ec : gC us (i : Int) = cC us i := rfl
    have bad : treS c us i L = none → ∀ r j, RndG cT (fun x : { x : Nat × RL // x.1 ≤ m ∧ treR c us x.1 = some x.2 } => hT c us m (rwo x.1.2) (x.1.1 : Int) 1) (fun x => m - x.1.1) KK ⟨(i, L), him, hi⟩ .ret (hTr c us m r j) := fun hn r j => .inr ⟨fun hh => (by cases hh), h0 (treR_none (i := i + 1) (by rw [hS]; exact hn) h') r j⟩
    have good : ∀ M, treS c us i L = some M → RndG cT (fun x : { x : Nat × RL // x.1 ≤ m ∧ treR c us x.1 = some x.2 } => hT c us m (rwo x.1.2) (x.1.1 : Int) 1) (fun x => m - x.1.1) KK ⟨(i, L), him, hi⟩ .normal (hT c us m (rwo M) (IntKind.wrap .i64 ((i : Int) + 1)) 2) := fun M hM => by
      refine .inl ⟨rfl, ⟨(i + 1, M), h', by show treR c us (i + 1) = some M; rw [hS]; exact hM⟩, by show m - (i + 1) < m - i; omega, ?_⟩
      rw [e1]
      exact ren_T _ _ _ _ _
    have ekb : kB c us (i : Int) = (keyT c us i).isSome := rfl
    have eki : kI c us (i : Int) = (keyT c us i).getD 0 := rfl
    have rest : ¬ Bare us i → tTe c us m (rwo L) (i : Int) K = true := fun hnb => by
      have hS2 : treS c us i L = (keyT c us i).bind fun k => treN L k (cC us i) := by
        unfold treS
        rw [if_neg hnb]
      unfold tTe
      rw [dec_rwo, ekb, eki]
      refine band (onP_true ⟨ho, by omega, by omega⟩) ?_
      cases hq : keyT c us i with
      | none =>
        refine btb rfl (hk _ _ (bad ?_ _ _))
        rw [hS2, hq]
        rfl
      | some k =>
        rw [hq] at hS2
        refine btf rfl (band (rwOk_rwo (by omega)) (bdt (fun a3 => hk _ _ (bad ?_ _ _)) (fun a3 => ldC_ok hc h' (by omega) (band (rwOk_rwo (by omega)) (hk _ _ (good _ ?_))))))
        · rw [hS2]
          show treN L k (cC us i) = none
          unfold treN
          exact if_pos (of_decide_eq_true a3)
        · rw [hS2]
          show treN L k (cC us i) = _
          unfold treN
          exact if_neg (of_decide_eq_false a3)
    refine ld4_ok hc h' ?_
    unfold brBare
    rw [ea, eb, ec]
    refine bdt (fun a1 => bdt (fun a2 => bdt (fun a3 => hk _ _ (good _ ?_)) (fun a3 => rest ?_)) (fun a2 => rest ?_)) (fun a1 => rest ?_)
    · unfold treS
      rw [if_pos ⟨of_decide_eq_true a1, of_decide_eq_true a2, of_decide_eq_true a3⟩]
    · exact fun hh => of_decide_eq_false a3 hh.2.2
    · exact fun hh => of_decide_eq_false a2 hh.2.1
    · exact fun hh => of_decide_eq_false a1 hh.1
  · have h : ¬ ((i : Nat) : Int) < Int.ofNat m := of_decide_eq_false h
    have eo : (Int.ofNat m : Int) = (m : Int) := rfl
    have h' : i = m := by omega
    subst h'
    exact .inr ⟨fun hh => (by cases hh), h1 L hi⟩
/-! Its contract. -/
noncomputable def YT (r : Option (List AV × Nat)) : St := ⟨[.any, .any, .any, .any, .any, .any, rowsV r, .any, .any, .any, .any, .any, .any, .any, .any, .any, .any, .any, .any, .any, .any, .any, .any, .any, .any, .any, .any, .any, .any, .any, .any, .any, .any, .any, .any, .any, .any, .any, .any, .any, .any, .any, .any, .any, .any], [], ⟨[], 1, []⟩⟩
noncomputable def YTr : St := ⟨[.any, .any, .any, .any, .nils, .bool false, .any, .any, .any, .any, .any, .any, .any, .any, .any, .any, .any, .any, .any, .any, .any, .any, .any, .any, .any, .any, .any, .any, .any, .any, .any, .any, .any, .any, .any, .any, .any, .any, .any, .any, .any, .any, .any, .any, .any], [], ⟨[], 2, []⟩⟩
noncomputable def LFt (c : Conf) (us : List AV) (m : Nat) (r : Option (List AV × Nat)) (bad : Bool) : LF := fun st K => cond (onP (keepSH [1, 2, 6, 7] [0] st = hT c us m none 0 1)) (br bad (K .ret YTr) (K (.exit 0) (YT r))) false
theorem lcT : loopsOf codeT = [.loop bT] := by kernel_rfl
theorem LFt_ok {c : Conf} {us : List AV} {m : Nat} (ho : TrOk c us m) : ∀ (st : St) (K : Ex → St → Bool), LFt c us m (orR (treR c us m)) (treR c us m).isNone st K = true → AWq cT (.loop bT) st (fun e s => K e s = true) := fun st K hk => by
  obtain ⟨e1, e2⟩ := of_cond hk
  have e1 := of_onP e1
  refine AWq.less (fun w B oC oL ω a S => ⟨ω, (LessS.keepSH (C := cT) [1, 2, 6, 7] [0] st).2 w B oC oL ω a S⟩) ?_
  rw [e1]
  refine AWq.post (K := fun e s => (e = .ret ∧ treR c us m = none ∧ ∃ r i, s = hTr c us m r i) ∨ (e = .exit 0 ∧ ∃ L, treR c us m = some L ∧ s = hT c us m (rwo L) (m : Int) 1)) (zt0 ho (fun L h => .inr ⟨rfl, L, h, rfl⟩) (fun h r i => .inl ⟨rfl, h, r, i, rfl⟩)) ?_
  rintro e s (⟨rfl, hn, r, i, rfl⟩ | ⟨rfl, L, hL, rfl⟩)
  · rw [hn] at e2
    refine ⟨YTr, ?_, e2⟩
    have e : keepSH [4, 5] [] (hTr c us m r i) = YTr := by cases r <;> kernel_rfl
    rw [← e]
    exact LessS.keepSH _ _ _
  · rw [hL] at e2
    refine ⟨YT (rwo L), ?_, e2⟩
    have e : ∀ r, keepSH [6] [] (hT c us m r (m : Int) 1) = YT r := fun r => by cases r <;> kernel_rfl
    rw [← e]
    exact LessS.keepSH _ _ _
theorem t_ft (c : Conf) (us : List AV) (m : Nat) (r : Option (List AV × Nat)) (bad : Bool) (K : AV → Bool) : runFM cT 300 21 [LFt c us m r bad] [c.av, .lst us m] K = ba (onP (hT c us m none 0 1 = hT c us m none 0 1)) (br bad (K (.tup [.nils, .bool false])) (K (.tup [rowsV r, .bool true]))) := by
  cases r with
  | none => kernel_rfl
  | some p => obtain ⟨a, b⟩ := p; kernel_rfl
theorem q_tre {c : Conf} {us : List AV} {m : Nat} (ho : TrOk c us m) : ACalls Tryd.prog (gmap gs) 21 [c.av, .lst us m] (fun v => v = accV (treR c us m)) := by
  refine acalls_eqM (q := fun _ => false) base sumsT (n := 300) (fs := [LFt c us m (orR (treR c us m)) (treR c us m).isNone]) (by kernel_rfl) ?_ fun K hK => ?_
  · show LoopsOk cT (loopsOf codeT) _
    rw [lcT]
    exact ⟨LFt_ok ho, trivial⟩
  refine (t_ft _ _ _ _ _ K).trans (band (onP_true rfl) ?_)
  cases hq : treR c us m with
  | none => rw [hq] at hK; exact hK
  | some L => rw [hq] at hK; exact hK
end Go.Bas.BasAvT2
end
section
namespace Go.Bas
open Go.RowKit
set_option linter.unusedSimpArgs false
set_option linter.unusedVariables false
noncomputable def okLp (m : List (Nat × Nat)) (nx' : Nat) (lp : Loops) : Bool := lp.all fun p => okI m nx' p.1 && (Nat.beq (renI m p.1) p.1 && (match p.2 with
  | .obj _ => true
  | _ => false))
noncomputable def renSL (m : List (Nat × Nat)) (nx' : Nat) (st : St) : St := ⟨st.tmps.map (renV m 8), [], ⟨renH m st.m.heap, nx', st.m.lp⟩⟩
theorem okLp_is {m : List (Nat × Nat)} {nx' : Nat} {lp : Loops} (h : okLp m nx' lp = true) {id : Nat} {e : LB} (he : lpget lp id = some e) : id < nx' ∧ backI m id = id ∧ ∃ o, e = .obj o := by
  obtain ⟨p, hp, rfl, rfl⟩ := lpget_mem he
  have := List.all_eq_true.1 h p hp
  rw [Bool.and_eq_true, Bool.and_eq_true] at this
  obtain ⟨h1, h2, h3⟩ := this
  obtain ⟨i1, i2⟩ := okI_is h1
  have e := Nat.eq_of_beq_eq_true h2
  rw [e] at i1 i2
  refine ⟨i1, i2, ?_⟩
  cases hq : p.2 with
  | obj o => exact ⟨o, rfl⟩
  | dfb => rw [hq] at h3; cases h3
  | lop => rw [hq] at h3; cases h3
theorem Less.renL {C : Cfg} {st : St} (m : List (Nat × Nat)) (nx' : Nat) (hds : st.ds = []) (hlp : okLp m nx' st.m.lp = true) (hok : okS m nx' st = true) : Less C st (renSL m nx' st) := fun w B oC oL ω a S => by
  have S0 : Sim C w B oC oL ω ⟨st.tmps, st.ds, ⟨st.m.heap, st.m.nx, []⟩⟩ a := ⟨S.tm, S.dn, ⟨S.ms.hp, ⟨fun id e h => (by cases h), fun i j l h => (by cases h), S.ms.lp.dis⟩, S.ms.gl, S.ms.gb, S.ms.bl⟩⟩
  unfold okS at hok
  rw [Bool.and_eq_true] at hok
  obtain ⟨ht, hh⟩ := hok
  rw [List.all_eq_true] at ht
  refine ⟨fun id => ω (backI m id), ⟨by show (st.tmps.map _).length = _; rw [List.length_map]; exact S.tm.1, fun i hi => ?_⟩, ?_, ⟨⟨fun id hb h => ?_, fun i j b h1 h2 e1 e2 => ?_, S.ms.hp.ob⟩, ⟨fun id e h => ?_, fun i j l h1 h2 e1 e2 => ?_, S.ms.lp.dis⟩, S.ms.gl, S.ms.gb, S.ms.bl⟩⟩
  · have hi0 : i < (st.tmps.map (renV m 8)).length := hi
    have hi' : i < st.tmps.length := by rwa [List.length_map] at hi0
    have := (S.tm.2 i hi').ren (m := m) (nx' := nx') (d := 8) (ht _ (List.getElem_mem hi'))
    show Rep w (Or2 B oL) oC _ nx' (st.tmps.map (renV m 8))[i] _
    rw [List.getElem_map]
    exact this
  · have := S.dn
    rw [hds] at this
    show Marks _ nx' [] a.defers
    cases hq : a.defers with
    | nil => exact trivial
    | cons x xs => rw [hq] at this; exact this.elim
  · obtain ⟨hb0, g1, g2, g3, g4, g5⟩ := hget_ren hh h
    obtain ⟨q1, b, arr, q2, q3, q4, q5, q6⟩ := S.ms.hp.rel _ hb0 g1
    subst g2
    cases hp : hb0.pure with
    | true =>
      have e : renB m hb0 = hb0 := by unfold renB; rw [hp]; rfl
      rw [e]
      refine ⟨g4, b, arr, q2, q3, q4, q5, fun i hi => ?_⟩
      have := q6 i hi
      rw [hp] at this ⊢
      exact this.mono (Nat.le_refl _) (fun _ _ hn hB => ⟨rfl, hn, hB⟩) (fun _ _ hi => absurd hi (Nat.not_lt_zero _)) (fun _ _ h => h)
    | false =>
      have e : renB m hb0 = ⟨hb0.cells.map (renV m 8), hb0.elem, false⟩ := by unfold renB; rw [hp]; rfl
      rw [e]
      rw [hp, Bool.false_or, List.all_eq_true] at g5
      refine ⟨g4, b, arr, q2, q3, q4, (by show (hb0.cells.map _).length ≤ _; rw [List.length_map]; exact q5), fun i hi => ?_⟩
      have hi0 : i < (hb0.cells.map (renV m 8)).length := hi
      have hi' : i < hb0.cells.length := by rwa [List.length_map] at hi0
      have := q6 i hi'
      rw [hp] at this
      show Rep w (Or2 B oL) oC _ nx' (hb0.cells.map (renV m 8))[i] _
      rw [List.getElem_map]
      exact this.ren (g5 _ (List.getElem_mem hi'))
  · obtain ⟨x1, f1⟩ := Option.isSome_iff_exists.1 h1
    obtain ⟨x2, f2⟩ := Option.isSome_iff_exists.1 h2
    obtain ⟨y1, a1, _, a2, _⟩ := hget_ren hh f1
    obtain ⟨y2, b1, _, b2, _⟩ := hget_ren hh f2
    have := S.ms.hp.inj _ _ b (by rw [a1]; rfl) (by rw [b1]; rfl) e1 e2
    rw [← a2, ← b2, this]
  · have h : lpget st.m.lp id = some e := h
    obtain ⟨i1, i2, o, rfl⟩ := okLp_is hlp h
    obtain ⟨_, l, k1, k2, k3⟩ := S.ms.lp.rel id _ h
    exact ⟨i1, l, by show ω (backI m id) = some l; rw [i2]; exact k1, k2, k3⟩
  · obtain ⟨x1, f1⟩ := Option.isSome_iff_exists.1 h1
    obtain ⟨x2, f2⟩ := Option.isSome_iff_exists.1 h2
    obtain ⟨_, a2, _⟩ := okLp_is hlp f1
    obtain ⟨_, b2, _⟩ := okLp_is hlp f2
    have e1 : ω (backI m i) = some l := e1
    have e2 : ω (backI m j) = some l := e2
    rw [a2] at e1
    rw [b2] at e2
    exact S.ms.lp.inj i j l h1 h2 e1 e2
section
variable {C : Cfg}
/-- A call that stands apart, where it stands. -/
theorem xcalls_of_acalls {f : FuncId} {args : List AV} {r : AV} (hn : args.all (AV.noRef 6) = true) (h : ACalls C.P C.G f args (fun v => v = r)) (m : Mem) : XCalls C f args m false r m := fun w B oC oL ω us M hr => by
  have hl : RepL w (Or2 oC (Or2 B oL)) (fun _ => False) (fun _ => none) 0 args us := ⟨hr.1, fun i hi => by
    have := ((hr.2 i hi).down (all_noRef hn i hi) 0)
    exact this.mono (Nat.le_refl _) (fun b _ ho hB => ⟨rfl, fun h => h, fun h => h.elim ho hB⟩) (fun id b hi => absurd hi (Nat.not_lt_zero _)) (fun _ _ h => h)⟩
  refine callsIn_calls.2 ((h w us (Or2 oC (Or2 B oL)) M.gl (fun g cells h ho => ho.elim (M.gb g cells h).1 (fun hh => hh.elim (M.gb g cells h).2.2 (M.gb g cells h).2.1)) (fun b hb => hb.elim (M.hp.ob b) (fun hh => hh.elim (M.bl b) (fun hh => (M.lp.dis b hh).1))) hl).mono fun e w' hh => ?_)
  obtain ⟨v, u, rfl, rfl, E, hu⟩ := hh
  exact .inl ⟨_, u, m, oC, oL, ω, rfl, onP_true ⟨rfl, rfl⟩, Still.ext E, M.still E, hu.mono (Nat.le_refl _) (fun b _ _ hB => ⟨rfl, fun ho => hB (.inl ho), fun hb => hB (.inr hb)⟩) (fun id b hi => absurd hi (Nat.not_lt_zero _)) (fun _ _ h => h)⟩
theorem xcalls_of_pcalls {f : FuncId} {args : List AV} {t : TypeId} {x : IntKind} {i : Int} (hn : args.all (AV.noRef 6) = true) (h : PCalls C.P C.G f args t x i) (m : Mem) : XCalls C f args m true (.iface t (.int x i)) m := fun w B oC oL ω us M hr => by
  have hl : RepL w (Or2 oC (Or2 B oL)) (fun _ => False) (fun _ => none) 0 args us := ⟨hr.1, fun i hi => by
    have := ((hr.2 i hi).down (all_noRef hn i hi) 0)
    exact this.mono (Nat.le_refl _) (fun b _ ho hB => ⟨rfl, fun h => h, fun h => h.elim ho hB⟩) (fun id b hi => absurd hi (Nat.not_lt_zero _)) (fun _ _ h => h)⟩
  refine callsIn_calls.2 ((h w us (Or2 oC (Or2 B oL)) M.gl (fun g cells h ho => ho.elim (M.gb g cells h).1 (fun hh => hh.elim (M.gb g cells h).2.2 (M.gb g cells h).2.1)) (fun b hb => hb.elim (M.hp.ob b) (fun hh => hh.elim (M.bl b) (fun hh => (M.lp.dis b hh).1))) hl).mono fun e w' hh => ?_)
  obtain ⟨rfl, E⟩ := hh
  exact .inr ⟨_, _, m, oC, oL, ω, rfl, onP_true ⟨rfl, rfl⟩, Still.ext E, M.still E, .iface _ _ _ _ (.int _ _ _)⟩
/-- A loop whose body is marked by hand. -/
theorem awq_loopA (hC : C.Ok) {body : Code} {n : Nat} {g : St → St} {ι : Type} (I : ι → St) (μ : ι → Nat) (ac : ι → AC) {KK : Ex → St → Prop} (hc : ∀ i, (ac i).code = body) (hok : ∀ i, (ac i).Ok C) (hg : ∀ s, LessS C s (g s))
    (h : ∀ (i : ι) (K : Ex → St → Bool), (∀ e s, RndG C I μ KK i e s → K e s = true) → runA C n (ac i) (I i) (fun e s => K e (g s)) = true) (i : ι) : AWq C (.loop body) (I i) KK := by
  refine AWq.loop I μ (fun i => ?_) i
  have h1 := runA_sound hC (ac i) (I i) _ (hok i) (h i (fun e s => onP (RndG C I μ KK i e s)) (fun e s hh => onP_true hh))
  rw [hc i] at h1
  refine h1.mono fun e s he => ?_
  rcases of_onP he with ⟨rfl, j, h1, h2⟩ | ⟨h1, h2⟩
  · exact ⟨j, h1, Less.trans (fun w B oC oL ω a S => ⟨ω, (hg s).2 w B oC oL ω a S⟩) h2⟩
  · cases e with
    | normal => exact absurd rfl h1
    | exit id => exact ⟨g s, hg s, h2⟩
    | goto l => exact ⟨g s, hg s, h2⟩
    | ret => exact ⟨g s, hg s, h2⟩
    | panic v => exact ⟨g s, hg s, h2⟩
end
end Go.Bas
end
section
namespace Go.Bas.BasAvC
open Go.RowKit Go.Proofs
open Go.Bas.BasZBase Go.Bas.BasAvR1 Go.Bas.BasAvR2 Go.Bas.BasAvR3 Go.Bas.BasAvL Go.Bas.BasAvF Go.Bas.BasAvW Go.Bas.BasAvP1 Go.Bas.BasAvP2 Go.Bas.BasAvP4 Go.Bas.BasAvA Go.Bas.BasAvB Go.Bas.BasAvT Go.Bas.BasAvT2
set_option maxRecDepth 100000
set_option maxHeartbeats 4000000
set_option linter.unusedVariables false
set_option linter.unusedSimpArgs false
noncomputable def brX (c : Conf) (us : List AV) (i : Int) (P next : Bool) : Bool :=
  br (decide (gA us i ≥ 1)) (br (decide (gA us i ≤ IntKind.wrap .u64 (IntKind.wrap .u64 c.cap + 1))) (br (decide (gB us i ≥ 1)) (br (decide (gB us i ≤ 65535)) (br (!decide (gC us i ≤ 2147483648)) P next) P) P) P) P
noncomputable def brN (c : Conf) (us : List AV) (i : Int) (P next : Bool) : Bool :=
  br (decide (gA us i = 0)) (br (decide (gB us i = 0)) (br (!!decide (gC us i = 0)) P (brX c us i P next)) (brX c us i P next)) (brX c us i P next)
noncomputable def k1P (us : List AV) (i : Int) : Int := ishl .u64 (ishl .u64 (ior .u64 0 (gB us i)) 16) 16
noncomputable def k2P (us : List AV) (i : Int) : Int := ishl .u64 (ior .u64 (ishl .u64 (ior .u64 0 (gB us (upI us i))) 16) (gB us i)) 16
noncomputable def k3P (us : List AV) (i : Int) : Int := ior .u64 (ishl .u64 (ior .u64 (ishl .u64 (ior .u64 0 (gB us (upI us (upI us i)))) 16) (gB us (upI us i))) 16) (gB us i)
noncomputable def tKey (c : Conf) (us : List AV) (m : Nat) (i : Int) (n : Nat) (P : Nat → Bool) (R : Int → Nat → Bool) : Bool :=
  br (decide (i ≥ 0)) (ld4 us m i (brN c us i (P (n + 3)) (br (decide (upI us i ≥ 0)) (ld4 us m (upI us i) (brN c us (upI us i) (P (n + 7)) (br (decide (upI us (upI us i) ≥ 0)) (ld4 us m (upI us (upI us i)) (brN c us (upI us (upI us i)) (P (n + 11))
    (br (decide (upI us (upI us (upI us i)) ≥ 0)) (ld4 us m (upI us (upI us (upI us i))) (P (n + 14))) (R (k3P us i) (n + 13))))) (R (k2P us i) (n + 9))))) (R (k1P us i) (n + 5))))) (R 0 (n + 1))
/-! Its contracts. -/
theorem t_keyF (c : Conf) (us : List AV) (m : Nat) (i : Int) (K : AV → Bool) : runFM cR 300 84 [] [agC c us m, .int .i64 i] K = tKey c us m i 0 (fun _ => false) (fun k _ => K (.int .u64 k)) := by kernel_rfl
theorem t_keyP (c : Conf) (us : List AV) (m : Nat) (i : Int) (K : Ex → St → Bool) : runM cR 300 (fcode Tryd.prog 84) [] (st0 Tryd.prog 84 [agC c us m, .int .i64 i]) (fun e s => K e (keepSH [] [] s)) =
    tKey c us m i 0 (fun nx => K pan ⟨[.any, .any, .any, .any, .any, .any, .any, .any, .any, .any, .any, .any, .any, .any, .any, .any, .any, .any, .any, .any, .any, .any, .any, .any, .any, .any, .any, .any, .any, .any, .any, .any, .any, .any, .any, .any, .any, .any, .any, .any, .any, .any, .any, .any, .any, .any, .any, .any, .any, .any, .any, .any, .any, .any, .any, .any, .any, .any, .any, .any, .any, .any, .any, .any, .any, .any, .any, .any, .any, .any, .any, .any, .any, .any, .any, .any, .any, .any, .any, .any, .any, .any, .any, .any, .any, .any], [], ⟨[], nx, []⟩⟩) (fun k nx => K .ret ⟨[.any, .any, .any, .any, .any, .any, .any, .any, .any, .any, .any, .any, .any, .any, .any, .any, .any, .any, .any, .any, .any, .any, .any, .any, .any, .any, .any, .any, .any, .any, .any, .any, .any, .any, .any, .any, .any, .any, .any, .any, .any, .any, .any, .any, .any, .any, .any, .any, .any, .any, .any, .any, .any, .any, .any, .any, .any, .any, .any, .any, .any, .any, .any, .any, .any, .any, .any, .any, .any, .any, .any, .any, .any, .any, .any, .any, .any, .any, .any, .any, .any, .any, .any, .any, .any, .any], [], ⟨[], nx, []⟩⟩) := by kernel_rfl
theorem brX_ok {c : Conf} {us : List AV} {i : Nat} {P next : Bool} (hcap : 1 ≤ c.cap ∧ c.cap ≤ 32) (hP : NdBad c us i → P = true) (hn : ¬ NdBad c us i → next = true) : brX c us (i : Int) P next = true := by
  have ew : IntKind.wrap .u64 (IntKind.wrap .u64 c.cap + 1) = c.cap + 1 := by rw [wU (i := c.cap) (by omega) (by omega), wU (by omega) (by omega)]
  unfold brX
  rw [ew, show gA us (i : Int) = cA us i from rfl, show gB us (i : Int) = cB us i from rfl, show gC us (i : Int) = cC us i from rfl]
  unfold NdBad at hP hn
  refine bdt (fun a1 => bdt (fun a2 => bdt (fun a3 => bdt (fun a4 => bdt (fun a5 => hP ?_) (fun a5 => hn ?_)) (fun a4 => hP ?_)) (fun a3 => hP ?_)) (fun a2 => hP ?_)) (fun a1 => hP ?_)
  · have a5 : ¬ cC us i ≤ 2147483648 := by simpa using a5
    omega
  · have a1 := of_decide_eq_true a1
    have a2 := of_decide_eq_true a2
    have a3 := of_decide_eq_true a3
    have a4 := of_decide_eq_true a4
    have a5 : cC us i ≤ 2147483648 := by simpa using a5
    omega
  · have := of_decide_eq_false a4
    omega
  · have := of_decide_eq_false a3
    omega
  · have := of_decide_eq_false a2
    omega
  · have := of_decide_eq_false a1
    omega
theorem brN_ok {c : Conf} {us : List AV} {i : Nat} {P next : Bool} (hcap : 1 ≤ c.cap ∧ c.cap ≤ 32) (hP : NdBad c us i → P = true) (hn : ¬ NdBad c us i → next = true) : brN c us (i : Int) P next = true := by
  have hx := brX_ok hcap hP hn
  unfold brN
  refine bdt (fun a1 => bdt (fun a2 => bdt (fun a3 => hP (.inl ?_)) (fun a3 => hx)) (fun a2 => hx)) (fun a1 => hx)
  have : cA us i = 0 := of_decide_eq_true a1
  omega
theorem wIm {i : Int} (h0 : -1000000 ≤ i) (h : i ≤ 1000000) : IntKind.wrap .i64 i = i := by
  simp only [IntKind.wrap, IntKind.signed, IntKind.bits]
  (try simp) <;> omega
/-- A node above that there is. -/
theorem up_ge {c : Conf} {us : List AV} {m : Nat} (ho : TrOk c us m) {i : Nat} (hn : ¬ NdBad c us i) : (decide (upI us (i : Int) ≥ 0)) = decide (cA us i ≠ 1) := by
  have hn' := hn
  unfold NdBad at hn'
  obtain ⟨h0, h1, h2, h3⟩ := ho
  have e : upI us (i : Int) = cA us i - 2 := by
    unfold upI
    rw [show gA us (i : Int) = cA us i from rfl, wI (i := cA us i) (by omega) (by omega), wIm (by omega) (by omega)]
  rw [e]
  apply decide_eq_decide.2
  omega
theorem ior0 {x : Int} (h : 0 ≤ x ∧ x ≤ 65535) : ior .u64 0 x = x := by
  have := orK (b := 0) (c := x) (by omega) h
  have e : ishl .u64 0 16 = 0 := by unfold ishl; simp [IntKind.wrap, IntKind.bits, IntKind.signed]
  rw [e] at this
  omega
theorem shl16 {x : Int} (h : 0 ≤ x ∧ x ≤ 281474976710655) : ishl .u64 x 16 = x * 65536 := by
  unfold ishl
  rw [show (x : Int) * 2 ^ (min (Int.toNat 16) (IntKind.bits .u64)) = x * 65536 by simp [IntKind.bits]]
  exact wU6 (by omega) (by omega)
theorem tKey_ok {c : Conf} {us : List AV} {m : Nat} (ho : TrOk c us m) {i : Nat} (hi : i < m) {n : Nat} {P : Nat → Bool} {R : Int → Nat → Bool} (hP : keyT c us i = none → ∀ nx, P nx = true) (hR : ∀ k, keyT c us i = some k → ∀ nx, R k nx = true) : tKey c us m (i : Int) n P R = true := by
  have hc := ho.1
  have hcap := ho.2.2
  have nb : ∀ {j : Nat}, ¬ NdBad c us j → 0 ≤ cB us j ∧ cB us j ≤ 65535 := fun h => by
    unfold NdBad at h
    omega
  unfold tKey
  refine btb (decide_eq_true (by omega)) (ld4_ok hc hi (brN_ok hcap (fun h => hP ?_ _) (fun h1 => ?_)))
  · unfold keyT
    rw [if_pos h]
  · rw [up_ge ho h1]
    refine bdt (fun a => ?_) (fun a => hR _ ?_ _)
    · have h2 : cA us i ≠ 1 := of_decide_eq_true a
      obtain ⟨u1, u2⟩ := upN_lt ho h1 h2
      unfold k2P k3P
      rw [u2]
      refine ld4_ok hc u1 (brN_ok hcap (fun h => hP ?_ _) (fun h3 => ?_))
      · unfold keyT
        rw [if_neg h1, if_neg h2, if_pos h]
      · rw [up_ge ho h3]
        refine bdt (fun a => ?_) (fun a => hR _ ?_ _)
        · have h4 : cA us (upN us i) ≠ 1 := of_decide_eq_true a
          obtain ⟨u3, u4⟩ := upN_lt ho h3 h4
          rw [u4]
          refine ld4_ok hc u3 (brN_ok hcap (fun h => hP ?_ _) (fun h5 => ?_))
          · unfold keyT
            rw [if_neg h1, if_neg h2, if_neg h3, if_neg h4, if_pos h]
          · rw [up_ge ho h5]
            refine bdt (fun a => ?_) (fun a => hR _ ?_ _)
            · have h6 : cA us (upN us (upN us i)) ≠ 1 := of_decide_eq_true a
              obtain ⟨u5, u6⟩ := upN_lt ho h5 h6
              rw [u6]
              refine ld4_ok hc u5 (hP ?_ _)
              unfold keyT
              rw [if_neg h1, if_neg h2, if_neg h3, if_neg h4, if_neg h5, if_neg h6]
            · have h6 : cA us (upN us (upN us i)) = 1 := by simpa using a
              have x1 := nb h1
              have x3 := nb h3
              have x5 := nb h5
              unfold keyT
              rw [if_neg h1, if_neg h2, if_neg h3, if_neg h4, if_neg h5, if_pos h6]
              rw [show gB us ((upN us (upN us i) : Nat) : Int) = cB us (upN us (upN us i)) from rfl, show gB us ((upN us i : Nat) : Int) = cB us (upN us i) from rfl, show gB us (i : Int) = cB us i from rfl, ior0 x5, orK (by omega) x3, orK (by omega) x1]
              exact congrArg some (by omega)
        · have h4 : cA us (upN us i) = 1 := by simpa using a
          have x1 := nb h1
          have x3 := nb h3
          unfold keyT
          rw [if_neg h1, if_neg h2, if_neg h3, if_pos h4]
          rw [show gB us ((upN us i : Nat) : Int) = cB us (upN us i) from rfl, show gB us (i : Int) = cB us i from rfl, ior0 x3, orK (by omega) x1, shl16 (by omega)]
          exact congrArg some (by omega)
    · have h2 : cA us i = 1 := by simpa using a
      have x1 := nb h1
      unfold keyT k1P
      rw [if_neg h1, if_pos h2, show gB us (i : Int) = cB us i from rfl, ior0 x1, shl16 (x := cB us i) (by omega), shl16 (by omega)]
      exact congrArg some (by omega)
theorem q_key {c : Conf} {us : List AV} {m : Nat} (ho : TrOk c us m) {i : Nat} (hi : i < m) {k : Int} (hk : keyT c us i = some k) : ACalls Tryd.prog (gmap gs) 84 [agC c us m, .int .i64 (i : Int)] (fun v => v = .int .u64 k) := by
  refine acalls_eqM (q := fun _ => false) base sums_nil (n := 300) (fs := []) (by kernel_rfl) trivial fun K hK => ?_
  refine (t_keyF c us m i K).trans (tKey_ok ho hi (fun h => by rw [hk] at h; cases h) (fun k' h _ => ?_))
  rw [hk] at h
  cases h
  exact hK
theorem p_key {c : Conf} {us : List AV} {m : Nat} (ho : TrOk c us m) {i : Nat} (hi : i < m) (hk : keyT c us i = none) : PCalls Tryd.prog (gmap gs) 84 [agC c us m, .int .i64 (i : Int)] 27 .i64 2 := by
  refine pcalls_run (C := cR) hC (n := 300) (l := []) (by kernel_rfl) trivial (ids := []) fun K hK => ?_
  refine (t_keyP c us m i K).trans (tKey_ok ho hi (fun h _ => hK _ rfl rfl) (fun k' h _ => ?_))
  rw [hk] at h
  cases h
end Go.Bas.BasAvC
end
section
namespace Go.Bas.BasAvC2
open Go.RowKit Go.Proofs
open Go.Bas.BasZBase Go.Bas.BasAvR1 Go.Bas.BasAvR2 Go.Bas.BasAvR3 Go.Bas.BasAvL Go.Bas.BasAvF Go.Bas.BasAvW Go.Bas.BasAvP1 Go.Bas.BasAvP2 Go.Bas.BasAvP4 Go.Bas.BasAvA Go.Bas.BasAvB Go.Bas.BasAvT Go.Bas.BasAvT2 Go.Bas.BasAvC Go.Bas.BasAvS3
set_option maxRecDepth 100000
set_option maxHeartbeats 4000000
set_option linter.unusedVariables false
set_option linter.unusedSimpArgs false
noncomputable abbrev codeC : Code := fcode Tryd.prog 85
noncomputable abbrev bC : Code := loopAt codeC [0]
noncomputable def rwVb (b : Nat) : Option (List AV × Nat) → AV
  | none => .nils
  | some p => .sl b 0 p.2 2 true
noncomputable def rwHb (b : Nat) : Option (List AV × Nat) → Heap
  | none => []
  | some p => [(b, ⟨p.1, 47, true⟩)]
noncomputable def hb0 (c : Conf) (us : List AV) (m : Nat) : Heap := [(0, ⟨c.cells ++ [.lst us m], 57, true⟩)]
noncomputable def hD (c : Conf) (us : List AV) (m : Nat) (es : Array MapEntry) (cl : Nat) (r : Option (List AV × Nat)) (i : Int) (b nx : Nat) : St := ⟨[.any, .ptr 0 0, rwVb b r, .mp 1, .any, .any, .any, .any, .any, .any, .any, .any, .any, .any, .lst us m, .int .i64 (Int.ofNat m), .int .i64 i, .any, .any, .any, .any, .any, .any, .any, .any, .any, .any, .any, .any, .any, .any, .any, .any, .any, .any, .any, .any, .any, .any, .any, .any, .any, .any, .any, .any, .any, .any, .any, .any, .any, .any, .any, .any, .any, .any, .any, .any, .any, .any, .any, .any, .any, .any], [], ⟨rwHb b r ++ hb0 c us m, nx, [(1, .obj (.map es cl))]⟩⟩
noncomputable def cel (us : List AV) (i : Int) : List AV := [.int .u64 (lget us (i.toNat * 4)).toI, .int .u64 (gA us i), .int .u64 (gB us i), .int .u64 (gC us i)]
noncomputable def mC6 (c : Conf) (us : List AV) (m : Nat) (es : Array MapEntry) (cl : Nat) (r : Option (List AV × Nat)) (i : Int) : Mem := ⟨(3, ⟨cel us i, 50, true⟩) :: (rwHb 2 r ++ hb0 c us m), 5, [(1, .obj (.map es cl))]⟩
noncomputable def hC6 (c : Conf) (us : List AV) (m : Nat) (es : Array MapEntry) (cl : Nat) (r : Option (List AV × Nat)) (i : Int) (k : AV) : St := ⟨[.any, .ptr 0 0, rwVb 2 r, .mp 1, .int .i64 i, .ptr 3 0, k, .any, .any, .any, .any, .any, .any, .any, .lst us m, .int .i64 (Int.ofNat m), .int .i64 i, .any, .any, .any, .any, .any, .any, .any, .any, .any, .any, .any, .any, .any, .any, .any, .any, .any, .any, .any, .any, .any, .any, .any, .any, .any, .any, .any, .any, .any, .any, .any, .any, .any, .any, .any, .any, .any, .any, .any, .any, .any, .any, .any, .any, .any, .any], [], mC6 c us m es cl r i⟩
noncomputable def F6 (c : Conf) (us : List AV) (m : Nat) (es : Array MapEntry) (cl : Nat) (r : Option (List AV × Nat)) (i : Int) (ok : Bool) (k : Int) : LF := fun st K => cond (onP (keepSH [1, 2, 3, 4, 5, 14, 15, 16] [0, 2, 3] st = hC6 c us m es cl r i .any)) (br ok (K .normal (hC6 c us m es cl r i (.int .u64 k))) (K pan (hC6 c us m es cl r i .any))) false
noncomputable abbrev c3 : Code := sel [false] bC
noncomputable abbrev c3c : Code := sel [true, false] bC
noncomputable abbrev c4 : Code := sel [true, true, false, true, false] bC
noncomputable abbrev c5 : Code := sel [true, true, false, true, true, false] bC
noncomputable abbrev c6 : Code := sel [true, true, false, true, true, true, false] bC
noncomputable abbrev c7 : Code := sel [true, true, false, true, true, true, true] bC
noncomputable abbrev c11 : Code := sel [true, true, true] bC
noncomputable def acC (F : LF) : AC := .seq (.leaf c3) (.seq (.leaf c3c) (.seq (.block 1 (.seq (.leaf c4) (.seq (.leaf c5) (.seq (.known c6 F) (.leaf c7))))) (.leaf c11)))
theorem acC_code (F : LF) : (acC F).code = bC := by kernel_rfl
noncomputable def fndK (es : Array MapEntry) (k : Int) (x : Bool) (y : Bool) : Bool := match findI Tryd.prog 22 es .u64 k with
  | some (some (kv, v)) => x
  | some none => y
  | none => false
noncomputable def fndU (es : Array MapEntry) (k : Int) (y : Bool) : Bool := match findI Tryd.prog 22 es .u64 k with
  | some none => y
  | _ => false
noncomputable def tC2 (c : Conf) (us : List AV) (m : Nat) (es : Array MapEntry) (cl : Nat) (r : Option (List AV × Nat)) (i : Int) (k : Int) (K : Ex → St → Bool) : Bool :=
  fndK es k (K pan (hD c us m es cl r i 2 5)) (fndU es k (apC r (K .normal (hD c us m (es.push { key := .int .u64 k, val := .int .u64 (gC us i), born := cl }) (cl + 1) (some (apCs r [.int .u64 k, .int .u64 0], apQ r)) (IntKind.wrap .i64 (i + 1)) 6 7))))
theorem t_c0 (c : Conf) (us : List AV) (m : Nat) (es : Array MapEntry) (cl : Nat) (r : Option (List AV × Nat)) (i : Int) (ok : Bool) (k : Int) (K : Ex → St → Bool) : runA cR 300 (acC (F6 c us m es cl r i ok k)) (hD c us m es cl r i 2 3) (fun e s => K e (keepSH [1, 2, 3, 14, 15, 16] [0, 2, 6] s)) =
    br (decide (i < Int.ofNat m)) (ld4 us m i (brBare us i (K .normal (hD c us m es cl r (IntKind.wrap .i64 (i + 1)) 2 5)) (ba (onP (hC6 c us m es cl r i .any = hC6 c us m es cl r i .any)) (br ok (tC2 c us m es cl r i k K) (K pan (hD c us m es cl r i 2 5)))))) (K (.exit 0) (hD c us m es cl r i 2 3)) := by
  cases r with
  | none => kernel_rfl
  | some p => obtain ⟨a, b⟩ := p; kernel_rfl
theorem t_cx (c : Conf) (us : List AV) (m : Nat) (es : Array MapEntry) (cl : Nat) (r : Option (List AV × Nat)) (i : Int) (K : Ex → St → Bool) : runA cR 300 (acC (fun _ _ => false)) (hD c us m es cl r i 2 3) (fun e s => K e (keepSH [1, 2, 3, 14, 15, 16] [0, 2, 6] s)) =
    br (decide (i < Int.ofNat m)) (ld4 us m i (brBare us i (K .normal (hD c us m es cl r (IntKind.wrap .i64 (i + 1)) 2 5)) false)) (K (.exit 0) (hD c us m es cl r i 2 3)) := by
  cases r with
  | none => kernel_rfl
  | some p => obtain ⟨a, b⟩ := p; kernel_rfl
theorem c6_is : c6 = .region 6 (opsOf c6) false := by kernel_rfl
noncomputable def aK (c : Conf) (us : List AV) (m : Nat) (i : Int) : List AV := [agC c us m, .int .i64 i]
theorem t_c6 (c : Conf) (us : List AV) (m : Nat) (es : Array MapEntry) (cl : Nat) (r : Option (List AV × Nat)) (i k : Int) (K : Ex → St → Bool) : opsK cR (callX cR (run cR 300) 84 (aK c us m i) (mC6 c us m es cl r i) false (.int .u64 k) (mC6 c us m es cl r i)) (opsOf c6) (opsOf c6).toList (hC6 c us m es cl r i .any) (fun s => K .normal (keepSH [1, 2, 3, 4, 5, 6, 14, 15, 16] [0, 2, 3] s)) (fun v s => K (.panic v) (keepSH [1, 2, 3, 4, 5, 6, 14, 15, 16] [0, 2, 3] s)) false =
    ba (onP (aK c us m i = aK c us m i ∧ mC6 c us m es cl r i = mC6 c us m es cl r i)) (K .normal (hC6 c us m es cl r i (.int .u64 k))) := by
  cases r with
  | none => kernel_rfl
  | some p => obtain ⟨a, b⟩ := p; kernel_rfl
theorem t_c6p (c : Conf) (us : List AV) (m : Nat) (es : Array MapEntry) (cl : Nat) (r : Option (List AV × Nat)) (i : Int) (K : Ex → St → Bool) : opsK cR (callX cR (run cR 300) 84 (aK c us m i) (mC6 c us m es cl r i) true (.iface 27 (.int .i64 2)) (mC6 c us m es cl r i)) (opsOf c6) (opsOf c6).toList (hC6 c us m es cl r i .any) (fun s => K .normal (keepSH [1, 2, 3, 4, 5, 6, 14, 15, 16] [0, 2, 3] s)) (fun v s => K (.panic v) (keepSH [1, 2, 3, 4, 5, 6, 14, 15, 16] [0, 2, 3] s)) false =
    ba (onP (aK c us m i = aK c us m i ∧ mC6 c us m es cl r i = mC6 c us m es cl r i)) (K pan (hC6 c us m es cl r i .any)) := by
  cases r with
  | none => kernel_rfl
  | some p => obtain ⟨a, b⟩ := p; kernel_rfl
theorem nrA (c : Conf) (us : List AV) (m : Nat) (i : Int) : (aK c us m i).all (AV.noRef 6) = true := by kernel_rfl
theorem F6_ok {c : Conf} {us : List AV} {m : Nat} (ho : TrOk c us m) {es : Array MapEntry} {cl : Nat} {r : Option (List AV × Nat)} {i : Nat} (hi : i < m) : ∀ (st : St) (K : Ex → St → Bool), F6 c us m es cl r (i : Int) (keyT c us i).isSome ((keyT c us i).getD 0) st K = true → AWq cR c6 st (fun e s => K e s = true) := fun st K hk => by
  obtain ⟨e1, e2⟩ := of_cond hk
  have e1 := of_onP e1
  refine AWq.less (fun w B oC oL ω a S => ⟨ω, (LessS.keepSH (C := cR) [1, 2, 3, 4, 5, 14, 15, 16] [0, 2, 3] st).2 w B oC oL ω a S⟩) ?_
  rw [e1, c6_is]
  cases hq : keyT c us i with
  | none =>
    rw [hq] at e2
    have hx := xcalls_of_pcalls (C := cR) (nrA c us m (i : Int)) (p_key ho hi hq) (mC6 c us m es cl r (i : Int))
    have h3 : AWp cR none (.region 6 (opsOf c6) false) (hC6 c us m es cl r (i : Int) .any) (fun e s => K e (keepSH [1, 2, 3, 4, 5, 6, 14, 15, 16] [0, 2, 3] s) = true) :=
      AWp.regionC (callX_ok hC (run_sound hC 300).1 (by kernel_rfl) hx) (k := fun e s => K e (keepSH [1, 2, 3, 4, 5, 6, 14, 15, 16] [0, 2, 3] s)) ((t_c6p c us m es cl r (i : Int) K).trans (band (onP_true ⟨rfl, rfl⟩) e2))
    exact AWq.post h3.q fun e s he => ⟨_, LessS.keepSH _ _ s, he⟩
  | some k =>
    rw [hq] at e2
    have hx := xcalls_of_acalls (C := cR) (nrA c us m (i : Int)) (q_key ho hi hq) (mC6 c us m es cl r (i : Int))
    have h3 : AWp cR none (.region 6 (opsOf c6) false) (hC6 c us m es cl r (i : Int) .any) (fun e s => K e (keepSH [1, 2, 3, 4, 5, 6, 14, 15, 16] [0, 2, 3] s) = true) :=
      AWp.regionC (callX_ok hC (run_sound hC 300).1 (by kernel_rfl) hx) (k := fun e s => K e (keepSH [1, 2, 3, 4, 5, 6, 14, 15, 16] [0, 2, 3] s)) ((t_c6 c us m es cl r (i : Int) k K).trans (band (onP_true ⟨rfl, rfl⟩) e2))
    exact AWq.post h3.q fun e s he => ⟨_, LessS.keepSH _ _ s, he⟩
end Go.Bas.BasAvC2
end
section
namespace Go.Bas.BasAvC3
open Go.RowKit Go.Proofs
open Go.Bas.BasZBase Go.Bas.BasAvR1 Go.Bas.BasAvR2 Go.Bas.BasAvR3 Go.Bas.BasAvL Go.Bas.BasAvF Go.Bas.BasAvW Go.Bas.BasAvP1 Go.Bas.BasAvP2 Go.Bas.BasAvP4 Go.Bas.BasAvA Go.Bas.BasAvB Go.Bas.BasAvT Go.Bas.BasAvT2 Go.Bas.BasAvC Go.Bas.BasAvC2
set_option maxRecDepth 100000
set_option maxHeartbeats 4000000
set_option linter.unusedVariables false
set_option linter.unusedSimpArgs false
/-! The map. -/
def mpL : RL → Nat → List MapEntry
  | [], _ => []
  | p :: l, b => { key := .int .u64 p.1, val := .int .u64 p.2, born := b } :: mpL l (b + 1)
def mpA (L : RL) : Array MapEntry := (mpL L 0).toArray
def lkN : RL → Int → Nat → Option (Nat × Int)
  | [], _, _ => none
  | p :: l, k, j => if k = p.1 then some (j, p.2) else lkN l k (j + 1)
theorem mpL_app : ∀ (L : RL) (p : Int × Int) (b : Nat), mpL (L ++ [p]) b = mpL L b ++ [{ key := .int .u64 p.1, val := .int .u64 p.2, born := b + L.length }]
  | [], p, b => rfl
  | q :: l, p, b => by
    show _ :: mpL (l ++ [p]) (b + 1) = _
    rw [mpL_app l p (b + 1)]
    show _ = _ :: (mpL l (b + 1) ++ _)
    rw [show b + 1 + l.length = b + (q :: l).length by simp only [List.length_cons]; omega]
theorem mpA_push (L : RL) (k v : Int) : (mpA L).push { key := .int .u64 k, val := .int .u64 v, born := L.length } = mpA (L ++ [(k, v)]) := by
  unfold mpA
  rw [mpL_app, Nat.zero_add]
  simp
theorem now_is (k : Int) : ∀ (L : RL) (b j : Nat), Instr.findNow (.int .u64) (.int .u64 k) (mpL L b) j = some ((lkN L k j).map fun q => (q.1, .int .u64 q.2))
  | [], b, j => rfl
  | p :: l, b, j => by
    unfold mpL lkN Instr.findNow
    have e : Instr.sameNow (.int .u64) (.int .u64 k) (.int .u64 p.1) = some (k == p.1) := by simp [Instr.sameNow]
    show (match Instr.sameNow (.int .u64) (.int .u64 k) (.int .u64 p.1) with
      | some true => some (some (j, Value.int .u64 p.2))
      | some false => Instr.findNow (.int .u64) (.int .u64 k) (mpL l (b + 1)) (j + 1)
      | none => none) = _
    rw [e]
    by_cases h : k = p.1
    · rw [if_pos h, show (k == p.1) = true from beq_iff_eq.2 h]
      rfl
    · rw [if_neg h, show (k == p.1) = false from beq_eq_false_iff_ne.2 h]
      exact now_is k l (b + 1) (j + 1)
theorem und_u : (Tryd.prog).underlying 22 = some (.int .u64) := by kernel_rfl
theorem find_is (L : RL) (k : Int) : findI Tryd.prog 22 (mpA L) .u64 k = some ((lkN L k 0).map fun q => (.u64, q.2)) := by
  unfold findI
  rw [und_u]
  show cond (kindEq .u64 .u64) _ none = _
  rw [show kindEq .u64 .u64 = true from rfl, cond_true]
  rw [show (mpA L).toList = mpL L 0 from rfl, now_is]
  cases lkN L k 0 <;> rfl
theorem fndK_is (L : RL) (k : Int) (x y : Bool) : fndK (mpA L) k x y = cond (lkN L k 0).isSome x y := by
  unfold fndK
  rw [find_is]
  cases lkN L k 0 <;> rfl
theorem fndU_is (L : RL) (k : Int) (y : Bool) : fndU (mpA L) k y = cond (lkN L k 0).isSome false y := by
  unfold fndU
  rw [find_is]
  cases lkN L k 0 <;> rfl
/-! The loop. -/
theorem rnC (c : Conf) (us : List AV) (m : Nat) (es : Array MapEntry) (cl : Nat) (r : Option (List AV × Nat)) (i : Int) (b nx : Nat) (hok : okS [(b, 2), (0, 0), (1, 1)] 3 (hD c us m es cl r i b nx) = true) (hl : okLp [(b, 2), (0, 0), (1, 1)] 3 (hD c us m es cl r i b nx).m.lp = true) (e : renSL [(b, 2), (0, 0), (1, 1)] 3 (hD c us m es cl r i b nx) = hD c us m es cl r i 2 3) : Less cR (hD c us m es cl r i b nx) (hD c us m es cl r i 2 3) := by
  have h := Less.renL (C := cR) [(b, 2), (0, 0), (1, 1)] 3 (st := hD c us m es cl r i b nx) rfl hl hok
  rw [e] at h
  exact h
theorem ren_c2 (c : Conf) (us : List AV) (m : Nat) (es : Array MapEntry) (cl : Nat) (i : Int) : Less cR (hD c us m es cl none i 2 2) (hD c us m es cl none i 2 3) := rnC _ _ _ _ _ _ _ _ _ (by kernel_rfl) (by kernel_rfl) (by kernel_rfl)
theorem ren_c5 (c : Conf) (us : List AV) (m : Nat) (es : Array MapEntry) (cl : Nat) (r : Option (List AV × Nat)) (i : Int) : Less cR (hD c us m es cl r i 2 5) (hD c us m es cl r i 2 3) := by
  cases r with
  | none => exact rnC _ _ _ _ _ _ _ _ _ (by kernel_rfl) (by kernel_rfl) (by kernel_rfl)
  | some p => obtain ⟨a, b⟩ := p; exact rnC _ _ _ _ _ _ _ _ _ (by kernel_rfl) (by kernel_rfl) (by kernel_rfl)
theorem ren_c6 (c : Conf) (us : List AV) (m : Nat) (es : Array MapEntry) (cl : Nat) (r : List AV × Nat) (i : Int) : Less cR (hD c us m es cl (some r) i 6 7) (hD c us m es cl (some r) i 2 3) := by
  obtain ⟨a, b⟩ := r
  exact rnC _ _ _ _ _ _ _ _ _ (by kernel_rfl) (by kernel_rfl) (by kernel_rfl)
/-- Rows' keys alone. -/
def zer (L : RL) : RL := L.map fun p => (p.1, 0)
theorem zer_len (L : RL) : (zer L).length = L.length := by simp [zer]
open Classical in
noncomputable def trpS (c : Conf) (us : List AV) (i : Nat) (L : RL) : Option RL :=
  if Bare us i then some L else (keyT c us i).bind fun k => cond (lkN L k 0).isSome none (some (L ++ [(k, cC us i)]))
noncomputable def treP (c : Conf) (us : List AV) : Nat → Option RL
  | 0 => some []
  | i + 1 => (treP c us i).bind (trpS c us i)
theorem treP_none {c : Conf} {us : List AV} {i : Nat} (h : treP c us i = none) : ∀ {j : Nat}, i ≤ j → treP c us j = none
  | 0, hj => by rw [show i = 0 by omega] at h; exact h
  | j + 1, hj => by
    by_cases e : i = j + 1
    · rw [← e]; exact h
    · show (treP c us j).bind _ = none
      rw [treP_none h (by omega)]
      rfl
theorem treP_len (c : Conf) (us : List AV) : ∀ (i : Nat) (L : RL), treP c us i = some L → L.length ≤ i
  | 0, L, h => by
    have h : some [] = some L := h
    cases h
    exact Nat.le_refl _
  | i + 1, L, h => by
    have h : (treP c us i).bind (trpS c us i) = some L := h
    cases hq : treP c us i with
    | none => rw [hq] at h; cases h
    | some M =>
      rw [hq] at h
      have hm := treP_len c us i M hq
      have h : trpS c us i M = some L := h
      unfold trpS at h
      split at h
      · cases h; omega
      · cases hk : keyT c us i with
        | none => rw [hk] at h; cases h
        | some k =>
          rw [hk] at h
          have h : cond (lkN M k 0).isSome none (some (M ++ [(k, cC us i)])) = some L := h
          cases hs : (lkN M k 0).isSome with
          | true => rw [hs] at h; cases h
          | false =>
            rw [hs] at h
            have h : some (M ++ [(k, cC us i)]) = some L := h
            cases h
            rw [List.length_append]
            show M.length + 1 ≤ _
            omega
theorem zc0 {c : Conf} {us : List AV} {m : Nat} (ho : TrOk c us m) {KK : Ex → St → Prop} (h1 : ∀ L, treP c us m = some L → KK (.exit 0) (hD c us m (mpA L) L.length (rwo (zer L)) (m : Int) 2 3)) (h0 : treP c us m = none → ∀ es cl r i, KK pan (hD c us m es cl r i 2 5)) : AWq cR (.loop bC) (hD c us m (mpA []) 0 none 0 2 3) KK := by
  have hc := ho.1
  have hm := hc.2.1
  refine awq_loopA hC (n := 300) (g := keepSH [1, 2, 3, 14, 15, 16] [0, 2, 6]) (ι := { x : Nat × RL // x.1 ≤ m ∧ treP c us x.1 = some x.2 }) (fun x => hD c us m (mpA x.1.2) x.1.2.length (rwo (zer x.1.2)) (x.1.1 : Int) 2 3) (fun x => m - x.1.1) (fun x => acC (cond (decide (x.1.1 < m)) (F6 c us m (mpA x.1.2) x.1.2.length (rwo (zer x.1.2)) (x.1.1 : Int) (keyT c us x.1.1).isSome ((keyT c us x.1.1).getD 0)) (fun _ _ => false))) (fun x => acC_code _) (fun x => ?_) (fun s => LessS.keepSH _ _ s) ?_ ⟨(0, []), Nat.zero_le _, rfl⟩
  · refine ⟨trivial, trivial, ⟨trivial, trivial, ?_, trivial⟩, trivial⟩
    by_cases hx : x.1.1 < m
    · rw [decide_eq_true hx]
      exact F6_ok ho hx
    · rw [decide_eq_false hx]
      exact fun st k h => by cases h
  rintro ⟨⟨i, L⟩, him, hi⟩ K hk
  have him : i ≤ m := him
  have hi : treP c us i = some L := hi
  have hll := treP_len c us i L hi
  have e1 : IntKind.wrap .i64 ((i : Int) + 1) = ((i + 1 : Nat) : Int) := by
    rw [wI (by omega) (by omega)]
    omega
  by_cases h' : i < m
  · show runA cR 300 (acC (cond (decide (i < m)) _ _)) _ _ = true
    rw [decide_eq_true h', cond_true]
    refine (t_c0 c us m (mpA L) L.length (rwo (zer L)) (i : Int) (keyT c us i).isSome ((keyT c us i).getD 0) K).trans (btb (decide_eq_true (by show (i : Int) < (m : Int); omega)) (ld4_ok hc h' ?_))
    have hS : treP c us (i + 1) = trpS c us i L := by
      show (treP c us i).bind (trpS c us i) = _
      rw [hi]
      rfl
    have bad : trpS c us i L = none → ∀ es cl r j, K pan (hD c us m es cl r j 2 5) = true := fun hn es cl r j => hk _ _ (.inr ⟨fun hh => (by cases hh), h0 (treP_none (i := i + 1) (by rw [hS]; exact hn) h') es cl r j⟩)
    have good : ∀ M s, trpS c us i L = some M → Less cR s (hD c us m (mpA M) M.length (rwo (zer M)) ((i + 1 : Nat) : Int) 2 3) → K .normal s = true := fun M s hM hs =>
      hk _ _ (.inl ⟨rfl, ⟨(i + 1, M), h', by show treP c us (i + 1) = some M; rw [hS]; exact hM⟩, by show m - (i + 1) < m - i; omega, hs⟩)
    have rest : ¬ Bare us i → br (keyT c us i).isSome (tC2 c us m (mpA L) L.length (rwo (zer L)) (i : Int) ((keyT c us i).getD 0) K) (K pan (hD c us m (mpA L) L.length (rwo (zer L)) (i : Int) 2 5)) = true := fun hnb => by
      have hS2 : trpS c us i L = (keyT c us i).bind fun k => cond (lkN L k 0).isSome none (some (L ++ [(k, cC us i)])) := by
        unfold trpS
        rw [if_neg hnb]
      cases hq : keyT c us i with
      | none =>
        rw [hq] at hS2
        exact btf rfl (bad hS2 _ _ _ _)
      | some k =>
        rw [hq] at hS2
        have hS2 : trpS c us i L = cond (lkN L k 0).isSome none (some (L ++ [(k, cC us i)])) := hS2
        refine btb rfl ?_
        show tC2 c us m (mpA L) L.length (rwo (zer L)) (i : Int) k K = true
        unfold tC2
        rw [fndK_is, fndU_is]
        cases hs : (lkN L k 0).isSome with
        | true =>
          rw [hs] at hS2
          exact bad hS2 _ _ _ _
        | false =>
          rw [hs] at hS2
          rw [cond_false, cond_false]
          refine apx_ok (by rw [zer_len]; omega) (good _ _ hS2 ?_)
          rw [e1, show gC us (i : Int) = cC us i from rfl, mpA_push, apx, show zer L ++ [(k, 0)] = zer (L ++ [(k, cC us i)]) by simp [zer]]
          have el : L.length + 1 = (L ++ [(k, cC us i)]).length := by simp
          rw [el]
          generalize L ++ [(k, cC us i)] = M at *
          cases hM : zer M with
          | nil =>
            have := zer_len M
            rw [hM] at this
            have : 0 = M.length := this
            omega
          | cons p l => exact ren_c6 _ _ _ _ _ _ _
    unfold brBare
    rw [show gA us (i : Int) = cA us i from rfl, show gB us (i : Int) = cB us i from rfl, show gC us (i : Int) = cC us i from rfl]
    have rest2 : ¬ Bare us i → (ba (onP (hC6 c us m (mpA L) L.length (rwo (zer L)) (i : Int) .any = hC6 c us m (mpA L) L.length (rwo (zer L)) (i : Int) .any)) (br (keyT c us i).isSome (tC2 c us m (mpA L) L.length (rwo (zer L)) (i : Int) ((keyT c us i).getD 0) K) (K pan (hD c us m (mpA L) L.length (rwo (zer L)) (i : Int) 2 5)))) = true := fun hn => band (onP_true rfl) (rest hn)
    refine bdt (fun a1 => bdt (fun a2 => bdt (fun a3 => good L _ ?_ ?_) (fun a3 => rest2 ?_)) (fun a2 => rest2 ?_)) (fun a1 => rest2 ?_)
    · unfold trpS
      rw [if_pos ⟨of_decide_eq_true a1, of_decide_eq_true a2, of_decide_eq_true a3⟩]
    · rw [e1]
      exact ren_c5 _ _ _ _ _ _ _
    · exact fun hh => of_decide_eq_false a3 hh.2.2
    · exact fun hh => of_decide_eq_false a2 hh.2.1
    · exact fun hh => of_decide_eq_false a1 hh.1
  · have h' : i = m := by omega
    subst h'
    show runA cR 300 (acC (cond (decide (i < i)) _ _)) _ _ = true
    rw [decide_eq_false (Nat.lt_irrefl i), cond_false]
    refine (t_cx c us i (mpA L) L.length (rwo (zer L)) (i : Int) K).trans (btf (decide_eq_false (by show ¬ (i : Int) < (i : Int); omega)) (hk _ _ (.inr ⟨fun hh => (by cases hh), h1 L hi⟩)))
end Go.Bas.BasAvC3
end
section
namespace Go.Bas.BasAvC4
open Go.RowKit Go.Proofs
open Go.Bas.BasZBase Go.Bas.BasAvR1 Go.Bas.BasAvR2 Go.Bas.BasAvR3 Go.Bas.BasAvL Go.Bas.BasAvF Go.Bas.BasAvW Go.Bas.BasAvP1 Go.Bas.BasAvP2 Go.Bas.BasAvP4 Go.Bas.BasAvA Go.Bas.BasAvB Go.Bas.BasAvT Go.Bas.BasAvT2 Go.Bas.BasAvC Go.Bas.BasAvC2 Go.Bas.BasAvC3
set_option maxRecDepth 100000
set_option maxHeartbeats 4000000
set_option linter.unusedVariables false
set_option linter.unusedSimpArgs false
noncomputable abbrev bE : Code := loopAt codeC [1]
noncomputable def hE (cs : List AV) (n : Nat) (es : Array MapEntry) (cl : Nat) (i : Int) (nx : Nat) : St := ⟨[.any, .any, .sl 2 0 n 2 true, .mp 1, .any, .any, .any, .any, .any, .any, .any, .any, .any, .any, .any, .any, .any, .any, .any, .any, .any, .any, .any, .any, .any, .any, .any, .any, .any, .any, .any, .any, .any, .any, .any, .any, .any, .any, .any, .any, .any, .any, .any, .any, .any, .sl 2 0 n 2 true, .int .i64 (Int.ofNat n), .int .i64 i, .any, .any, .any, .any, .any, .any, .any, .any, .any, .any, .any, .any, .any, .any, .any], [], ⟨[(2, ⟨cs, 47, true⟩)], nx, [(1, .obj (.map es cl))]⟩⟩
noncomputable def fndV (es : Array MapEntry) (k : Int) (x : IntKind → Int → Bool) (y : Bool) : Bool := match findI Tryd.prog 22 es .u64 k with
  | some (some (kv, v)) => x kv v
  | some none => y
  | none => false
noncomputable def stE (cs : List AV) (n : Nat) (es : Array MapEntry) (cl : Nat) (i : Int) (K : Ex → St → Bool) (kv : IntKind) (v : Int) : Bool :=
  ba (inside i n) (ba (Nat.ble (((0 + i.toNat * 2) + 1) + 1) cs.length) (K .normal (hE (cs.set ((0 + i.toNat * 2) + 1) (.int kv v)) n es cl (IntKind.wrap .i64 (i + 1)) 4)))
theorem t_e0 (cs : List AV) (n : Nat) (es : Array MapEntry) (cl : Nat) (i : Int) (K : Ex → St → Bool) : runM cR 300 bE [] (hE cs n es cl i 3) (fun e s => K e (keepSH [2, 3, 45, 46, 47] [2] s)) =
    br (decide (i < Int.ofNat n)) (ba (inside i n) (ba (Nat.ble ((0 + i.toNat * 2) + 2) cs.length) (ba (AV.isI .u64 (lget cs (0 + i.toNat * 2))) (ba (AV.isI .u64 (lget cs ((0 + i.toNat * 2) + 1)))
      (fndV es (lget cs (0 + i.toNat * 2)).toI (stE cs n es cl i K) (stE cs n es cl i K .u64 0)))))) (K (.exit 2) (hE cs n es cl i 3)) := by kernel_rfl
theorem lE : loopsOf bE = [] := by kernel_rfl
theorem fndV_is (L : RL) (k : Int) (x : IntKind → Int → Bool) (y : Bool) {j : Nat} {v : Int} (h : lkN L k 0 = some (j, v)) : fndV (mpA L) k x y = x .u64 v := by
  unfold fndV
  rw [find_is, h]
  rfl
/-- No key twice. -/
def ND (L : RL) : Prop := ∀ i j, i < j → j < L.length → rk L i ≠ rk L j
theorem lkN_none (k : Int) : ∀ (L : RL) (b : Nat), lkN L k b = none → ∀ i, i < L.length → rk L i ≠ k
  | [], b, h, i, hi => absurd hi (Nat.not_lt_zero _)
  | p :: l, b, h, i, hi => by
    unfold lkN at h
    split at h
    · cases h
    · rename_i hne
      cases i with
      | zero => exact fun e => hne e.symm
      | succ i => exact lkN_none k l (b + 1) h i (by simpa using hi)
theorem lkN_at : ∀ (L : RL) (b i : Nat), ND L → i < L.length → lkN L (rk L i) b = some (b + i, rv L i)
  | [], b, i, h, hi => absurd hi (Nat.not_lt_zero _)
  | p :: l, b, 0, h, hi => by
    unfold lkN
    exact if_pos rfl
  | p :: l, b, i + 1, h, hi => by
    unfold lkN
    rw [if_neg (fun e => h 0 (i + 1) (Nat.succ_pos _) hi e.symm)]
    have := lkN_at l (b + 1) i (fun x y h1 h2 => h (x + 1) (y + 1) (by omega) (by simpa using h2)) (by simpa using hi)
    rw [show b + (i + 1) = b + 1 + i by omega]
    exact this
theorem rk_app (L : RL) (p : Int × Int) (i : Nat) (h : i < L.length) : rk (L ++ [p]) i = rk L i := by
  unfold rk
  rw [List.getD_eq_getElem?_getD, List.getD_eq_getElem?_getD, List.getElem?_append_left h]
theorem rk_last (L : RL) (p : Int × Int) : rk (L ++ [p]) L.length = p.1 := by
  unfold rk
  simp
theorem nd_app {L : RL} {k v : Int} (h : ND L) (hk : lkN L k 0 = none) : ND (L ++ [(k, v)]) := fun i j h1 h2 => by
  have h2 : j < L.length + 1 := by simpa using h2
  by_cases hj : j = L.length
  · subst hj
    rw [rk_last, rk_app _ _ _ h1]
    exact lkN_none k L 0 hk i h1
  · rw [rk_app _ _ _ (by omega), rk_app _ _ _ (by omega)]
    exact h i j h1 (by omega)
theorem treP_nd (c : Conf) (us : List AV) : ∀ (i : Nat) (L : RL), treP c us i = some L → ND L
  | 0, L, h => by
    have h : some [] = some L := h
    cases h
    exact fun i j h1 h2 => absurd h2 (Nat.not_lt_zero _)
  | i + 1, L, h => by
    have h : (treP c us i).bind (trpS c us i) = some L := h
    cases hq : treP c us i with
    | none => rw [hq] at h; cases h
    | some M =>
      rw [hq] at h
      have hm := treP_nd c us i M hq
      have h : trpS c us i M = some L := h
      unfold trpS at h
      split at h
      · cases h; exact hm
      · cases hk : keyT c us i with
        | none => rw [hk] at h; cases h
        | some k =>
          rw [hk] at h
          have h : cond (lkN M k 0).isSome none (some (M ++ [(k, cC us i)])) = some L := h
          cases hs : lkN M k 0 with
          | some q => rw [hs] at h; cases h
          | none =>
            rw [hs] at h
            have h : some (M ++ [(k, cC us i)]) = some L := h
            cases h
            exact nd_app hm hs
/-- The first so many rows have their words. -/
def fil (L : RL) (i : Nat) : RL := L.take i ++ zer (L.drop i)
theorem fil_len (L : RL) (i : Nat) : (fil L i).length = L.length := by
  simp [fil, zer_len]
  omega
theorem fil_0 (L : RL) : fil L 0 = zer L := by simp [fil]
theorem fil_n (L : RL) : fil L L.length = L := by simp [fil, zer]
theorem fil_at (L : RL) (i : Nat) (h : i < L.length) : (fil L i)[i]? = some (rk L i, 0) := by
  unfold fil
  rw [List.getElem?_append_right (by simp; omega)]
  simp [zer, rk, Nat.min_eq_left (Nat.le_of_lt h), h]
theorem fil_s (L : RL) (i : Nat) (h : i < L.length) : (fil L i).set i (rk L i, rv L i) = fil L (i + 1) := by
  unfold fil
  have hd : L.drop i = (rk L i, rv L i) :: L.drop (i + 1) := drop_at L i h
  have ht : L.take (i + 1) = L.take i ++ [(rk L i, rv L i)] := by
    have eg : L[i] = (rk L i, rv L i) := by simp [rk, rv, h]
    rw [← List.take_append_getElem h, eg]
  rw [hd, ht, List.set_append_right _ _ (by simp; omega)]
  have e : i - (L.take i).length = 0 := by simp; omega
  rw [e]
  simp [zer]
theorem enc_set : ∀ (M : RL) (i : Nat) (k v : Int), i < M.length → rk M i = k → (enc M).set (i * 2 + 1) (.int .u64 v) = enc (M.set i (k, v))
  | [], i, k, v, h, _ => absurd h (Nat.not_lt_zero _)
  | p :: l, 0, k, v, h, hk => by
    have hk : p.1 = k := hk
    subst hk
    rfl
  | p :: l, i + 1, k, v, h, hk => by
    rw [show (i + 1) * 2 + 1 = i * 2 + 1 + 1 + 1 by omega]
    show AV.int .u64 p.1 :: AV.int .u64 p.2 :: (enc l).set (i * 2 + 1) (.int .u64 v) = _
    rw [enc_set l i k v (by simpa using h) hk]
    rfl
theorem ren_E (cs : List AV) (n : Nat) (es : Array MapEntry) (cl : Nat) (i : Int) : Less cR (hE cs n es cl i 4) (hE cs n es cl i 3) := by
  have h := Less.renL (C := cR) [(2, 2), (1, 1)] 3 (st := hE cs n es cl i 4) rfl (by kernel_rfl) (by kernel_rfl)
  have e : renSL [(2, 2), (1, 1)] 3 (hE cs n es cl i 4) = hE cs n es cl i 3 := by kernel_rfl
  rw [e] at h
  exact h
theorem ze0 {L : RL} (hl : L.length ≤ 1000) (hn : ND L) {KK : Ex → St → Prop} (h1 : KK (.exit 2) (hE (enc L) L.length (mpA L) L.length (L.length : Int) 3)) : AWq cR (.loop bE) (hE (enc (zer L)) L.length (mpA L) L.length 0 3) KK := by
  rw [← fil_0 L]
  refine awq_loopK hC (ι := { i : Nat // i ≤ L.length }) (fun i => hE (enc (fil L i.1)) L.length (mpA L) L.length (i.1 : Int) 3) (fun i => L.length - i.1) (n := 300) (l := fun _ => []) (g := keepSH [2, 3, 45, 46, 47] [2]) (fun _ => by rw [lE]; exact trivial) (fun s => LessS.keepSH _ _ s) ?_ ⟨0, Nat.zero_le _⟩
  rintro ⟨i, him⟩ K hk
  have e1 : IntKind.wrap .i64 ((i : Int) + 1) = ((i + 1 : Nat) : Int) := by
    rw [wI (by omega) (by omega)]
    omega
  refine (t_e0 (enc (fil L i)) L.length (mpA L) L.length (i : Int) K).trans (bdt (fun h => ?_) (fun h => hk _ _ ?_))
  · have h : ((i : Nat) : Int) < Int.ofNat L.length := of_decide_eq_true h
    have eo : (Int.ofNat L.length : Int) = (L.length : Int) := rfl
    have h' : i < L.length := by omega
    have hw : ((i : Nat) : Int).toNat = i := rfl
    have hfl := fil_len L i
    have hrk : rk (fil L i) i = rk L i := by
      have := fil_at L i h'
      unfold rk
      rw [List.getD_eq_getElem?_getD, this]
      rfl
    have ek : lget (enc (fil L i)) (i * 2) = .int .u64 (rk L i) := by rw [enc_k _ _ (by omega), hrk]
    have ev : lget (enc (fil L i)) (i * 2 + 1) = .int .u64 (rv (fil L i) i) := enc_v _ _ (by omega)
    have hin : inside (i : Int) L.length = true := by
      simp only [inside, Bool.and_eq_true, decide_eq_true_eq]
      omega
    unfold stE
    rw [hw, show 0 + i * 2 = i * 2 by omega, ek, ev]
    refine band hin (band (Nat.ble_eq_true_of_le (by rw [enc_len]; omega)) (band rfl (band rfl ?_)))
    rw [show (AV.int .u64 (rk L i)).toI = rk L i from rfl, fndV_is L _ _ _ (lkN_at L 0 i hn h')]
    refine band hin (band (Nat.ble_eq_true_of_le (by rw [enc_len]; omega)) (hk _ _ (.inl ⟨rfl, ⟨i + 1, h'⟩, by show L.length - (i + 1) < L.length - i; omega, ?_⟩)))
    rw [enc_set _ _ _ _ (by omega) hrk, fil_s L i h', e1]
    exact ren_E _ _ _ _ _
  · have h : ¬ ((i : Nat) : Int) < Int.ofNat L.length := of_decide_eq_false h
    have eo : (Int.ofNat L.length : Int) = (L.length : Int) := rfl
    have h' : i = L.length := by omega
    subst h'
    refine .inr ⟨fun hh => (by cases hh), ?_⟩
    show KK (.exit 2) (hE (enc (fil L L.length)) _ _ _ _ _)
    rw [fil_n]
    exact h1
end Go.Bas.BasAvC4
end
section
namespace Go.Bas.BasAvC5
open Go.RowKit Go.Proofs
open Go.Bas.BasZBase Go.Bas.BasAvR1 Go.Bas.BasAvR2 Go.Bas.BasAvR3 Go.Bas.BasAvL Go.Bas.BasAvF Go.Bas.BasAvW Go.Bas.BasAvP1 Go.Bas.BasAvP2 Go.Bas.BasAvP4 Go.Bas.BasAvA Go.Bas.BasAvB Go.Bas.BasAvT Go.Bas.BasAvT2 Go.Bas.BasAvS Go.Bas.BasAvS2 Go.Bas.BasAvS3 Go.Bas.BasAvS4 Go.Bas.BasAvC Go.Bas.BasAvC2 Go.Bas.BasAvC3 Go.Bas.BasAvC4
set_option maxRecDepth 100000
set_option maxHeartbeats 4000000
set_option linter.unusedVariables false
set_option linter.unusedSimpArgs false
noncomputable abbrev d0 : Code := sel [false] codeC
noncomputable abbrev d1 : Code := sel [true, false] codeC
noncomputable abbrev d2 : Code := sel [true, true, false, false] codeC
noncomputable abbrev d3 : Code := sel [true, true, false, true] codeC
noncomputable abbrev d4 : Code := sel [true, true, true, false] codeC
noncomputable abbrev d5 : Code := sel [true, true, true, true, false] codeC
theorem d_code : codeC = .seq d0 (.seq d1 (.seq (.seq d2 d3) (.seq d4 (.seq d5 .ret)))) := by kernel_rfl
theorem d5_is : d5 = .region 17 (opsOf d5) false := by kernel_rfl
noncomputable def A1 (c : Conf) (us : List AV) (m : Nat) : St := ⟨[.any, .ptr 0 0, .nils, .any, .any, .any, .any, .any, .any, .any, .any, .any, .any, .any, .any, .any, .any, .any, .any, .any, .any, .any, .any, .any, .any, .any, .any, .any, .any, .any, .any, .any, .any, .any, .any, .any, .any, .any, .any, .any, .any, .any, .any, .any, .any, .any, .any, .any, .any, .any, .any, .any, .any, .any, .any, .any, .any, .any, .any, .any, .any, .any, .any], [], ⟨hb0 c us m, 1, []⟩⟩
noncomputable def A2 (c : Conf) (us : List AV) (m : Nat) : St := ⟨[.any, .ptr 0 0, .nils, .mp 1, .any, .any, .any, .any, .any, .any, .any, .any, .any, .any, .any, .any, .any, .any, .any, .any, .any, .any, .any, .any, .any, .any, .any, .any, .any, .any, .any, .any, .any, .any, .any, .any, .any, .any, .any, .any, .any, .any, .any, .any, .any, .any, .any, .any, .any, .any, .any, .any, .any, .any, .any, .any, .any, .any, .any, .any, .any, .any, .any], [], ⟨hb0 c us m, 2, [(1, .obj (.map #[] 0))]⟩⟩
theorem t_d0 (c : Conf) (us : List AV) (m : Nat) (k : Ex → St → Bool) : run cR 300 none none d0 (st0 Tryd.prog 85 [agC c us m]) (fun e s => k e (keepSH [1, 2] [0] s)) false = k .normal (A1 c us m) := by kernel_rfl
theorem t_d1 (c : Conf) (us : List AV) (m : Nat) (k : Ex → St → Bool) : run cR 300 none none d1 (A1 c us m) (fun e s => k e (keepSH [1, 2, 3] [0] s)) false = k .normal (A2 c us m) := by kernel_rfl
theorem t_d2 (c : Conf) (us : List AV) (m : Nat) (k : Ex → St → Bool) : run cR 300 none none d2 (A2 c us m) (fun e s => k e (keepSH [1, 2, 3, 14, 15, 16] [0] s)) false = k .normal (hD c us m #[] 0 none 0 2 2) := by kernel_rfl
noncomputable def XC (es : Array MapEntry) (cl : Nat) (r : Option (List AV × Nat)) : St := ⟨[.any, .any, rwVb 2 r, .mp 1, .any, .any, .any, .any, .any, .any, .any, .any, .any, .any, .any, .any, .any, .any, .any, .any, .any, .any, .any, .any, .any, .any, .any, .any, .any, .any, .any, .any, .any, .any, .any, .any, .any, .any, .any, .any, .any, .any, .any, .any, .any, .any, .any, .any, .any, .any, .any, .any, .any, .any, .any, .any, .any, .any, .any, .any, .any, .any, .any], [], ⟨rwHb 2 r, 3, [(1, .obj (.map es cl))]⟩⟩
noncomputable def PX : St := ⟨[.any, .any, .any, .any, .any, .any, .any, .any, .any, .any, .any, .any, .any, .any, .any, .any, .any, .any, .any, .any, .any, .any, .any, .any, .any, .any, .any, .any, .any, .any, .any, .any, .any, .any, .any, .any, .any, .any, .any, .any, .any, .any, .any, .any, .any, .any, .any, .any, .any, .any, .any, .any, .any, .any, .any, .any, .any, .any, .any, .any, .any, .any, .any], [], ⟨[], 5, []⟩⟩
noncomputable def LFc (c : Conf) (us : List AV) (m : Nat) (es : Array MapEntry) (cl : Nat) (r : Option (List AV × Nat)) (ok : Bool) : LF := fun st K => cond (onP (keepSH [1, 2, 3, 14, 15, 16] [0] st = hD c us m #[] 0 none 0 2 2)) (br ok (K (.exit 0) (XC es cl r)) (K pan PX)) false
theorem t_d3 (c : Conf) (us : List AV) (m : Nat) (es : Array MapEntry) (cl : Nat) (r : Option (List AV × Nat)) (ok : Bool) (K : Ex → St → Bool) : runM cR 300 d3 [LFc c us m es cl r ok] (hD c us m #[] 0 none 0 2 2) (fun e s => K e (keepSH [2, 3] [2] s)) = ba (onP (hD c us m #[] 0 none 0 2 2 = hD c us m #[] 0 none 0 2 2)) (br ok (K .normal (XC es cl r)) (K pan PX)) := by
  cases r with
  | none => kernel_rfl
  | some p => obtain ⟨a, b⟩ := p; kernel_rfl
theorem l_d3 : loopsOf d3 = [.loop bC] := by kernel_rfl
theorem LFc_ok {c : Conf} {us : List AV} {m : Nat} (ho : TrOk c us m) {L : RL} {ok : Bool} (h1 : ok = true → treP c us m = some L) (h0 : ok = false → treP c us m = none) : ∀ (st : St) (K : Ex → St → Bool), LFc c us m (mpA L) L.length (rwo (zer L)) ok st K = true → AWq cR (.loop bC) st (fun e s => K e s = true) := fun st K hk => by
  obtain ⟨e1, e2⟩ := of_cond hk
  have e1 := of_onP e1
  refine AWq.less (fun w B oC oL ω a S => ⟨ω, (LessS.keepSH (C := cR) [1, 2, 3, 14, 15, 16] [0] st).2 w B oC oL ω a S⟩) ?_
  rw [e1]
  refine AWq.less (ren_c2 c us m #[] 0 0) ?_
  refine AWq.post (K := fun e s => (e = pan ∧ treP c us m = none ∧ ∃ es cl r i, s = hD c us m es cl r i 2 5) ∨ (e = .exit 0 ∧ ∃ M, treP c us m = some M ∧ s = hD c us m (mpA M) M.length (rwo (zer M)) (m : Int) 2 3)) (zc0 ho (fun M h => .inr ⟨rfl, M, h, rfl⟩) (fun h es cl r i => .inl ⟨rfl, h, es, cl, r, i, rfl⟩)) ?_
  rintro e s (⟨rfl, hn, es, cl, r, i, rfl⟩ | ⟨rfl, M, hM, rfl⟩)
  · cases ok with
    | true => rw [h1 rfl] at hn; cases hn
    | false =>
      refine ⟨PX, ?_, e2⟩
      have e : ∀ r, keepSN [] [] (hD c us m es cl r i 2 5) = PX := fun r => by cases r <;> kernel_rfl
      rw [← e r]
      exact LessS.keepSN _ _ _
  · cases ok with
    | false => rw [h0 rfl] at hM; cases hM
    | true =>
      rw [h1 rfl] at hM
      cases hM
      refine ⟨XC (mpA L) L.length (rwo (zer L)), ?_, e2⟩
      have e : ∀ es cl r, keepSH [2, 3] [2] (hD c us m es cl r (m : Int) 2 3) = XC es cl r := fun es cl r => by
        cases r with
        | none => kernel_rfl
        | some p => obtain ⟨a, b⟩ := p; kernel_rfl
      rw [← e]
      exact LessS.keepSH _ _ _
noncomputable def XD (r : Option (List AV × Nat)) : St := ⟨[.any, .any, rwV r, .any, .any, .any, .any, .any, .any, .any, .any, .any, .any, .any, .any, .any, .any, .any, .any, .any, .any, .any, .any, .any, .any, .any, .any, .any, .any, .any, .any, .any, .any, .any, .any, .any, .any, .any, .any, .any, .any, .any, .any, .any, .any, .any, .any, .any, .any, .any, .any, .any, .any, .any, .any, .any, .any, .any, .any, .any, .any, .any, .any], [], memR r 2⟩
noncomputable def XE (r : Option (List AV × Nat)) : St := ⟨[.any, .any, rwVb 2 r, .any, .any, .any, .any, .any, .any, .any, .any, .any, .any, .any, .any, .any, .any, .any, .any, .any, .any, .any, .any, .any, .any, .any, .any, .any, .any, .any, .any, .any, .any, .any, .any, .any, .any, .any, .any, .any, .any, .any, .any, .any, .any, .any, .any, .any, .any, .any, .any, .any, .any, .any, .any, .any, .any, .any, .any, .any, .any, .any, .any], [], ⟨rwHb 2 r, 3, []⟩⟩
theorem ren_X (r : Option (List AV × Nat)) : Less cR (XE r) (XD r) := by
  cases r with
  | none =>
    have h := Less.ren (C := cR) [(2, 1)] 2 (st := XE none) rfl rfl (by kernel_rfl)
    have e : renS [(2, 1)] 2 (XE none) = XD none := by kernel_rfl
    rw [e] at h
    exact h
  | some p =>
    obtain ⟨a, b⟩ := p
    have h := Less.ren (C := cR) [(2, 1)] 2 (st := XE (some (a, b))) rfl rfl (by kernel_rfl)
    have e : renS [(2, 1)] 2 (XE (some (a, b))) = XD (some (a, b)) := by kernel_rfl
    rw [e] at h
    exact h
theorem t_d4n (es : Array MapEntry) (cl : Nat) (k : Ex → St → Bool) : runM cR 300 d4 [] (XC es cl none) (fun e s => k e (keepSN [2] [] s)) = k .normal (XE none) := by kernel_rfl
noncomputable def LFe (cs cs' : List AV) (n : Nat) (es : Array MapEntry) (cl : Nat) : LF := fun st K => cond (onP (keepSH [2, 3, 45, 46, 47] [2] st = hE cs n es cl 0 3)) (K (.exit 2) (hE cs' n es cl (n : Int) 3)) false
theorem t_d4s (cs cs' : List AV) (n : Nat) (es : Array MapEntry) (cl : Nat) (K : Ex → St → Bool) : runM cR 300 d4 [LFe cs cs' n es cl] (XC es cl (some (cs, n))) (fun e s => K e (keepSN [2] [2] s)) = ba (onP (hE cs n es cl 0 3 = hE cs n es cl 0 3)) (K .normal (XE (some (cs', n)))) := by kernel_rfl
theorem l_d4 : loopsOf d4 = [.loop bE] := by kernel_rfl
theorem d4_ok {L : RL} (hl : L.length ≤ 1000) (hn : ND L) {K : Ex → St → Prop} (h : K .normal (XE (rwo L))) : AWq cR d4 (XC (mpA L) L.length (rwo (zer L))) (fun e s => ∃ s', LessS cR s s' ∧ K e s') := by
  by_cases h0 : L = []
  · subst h0
    have h4 : AWq cR d4 (XC (mpA []) 0 none) (fun e s => onP (e = .normal ∧ keepSN [2] [] s = XE none) = true) :=
      awq_gM hC (n := 300) (g := keepSN [2] []) (l := []) (K := fun e s => onP (e = .normal ∧ s = XE none)) (by rw [l_d4]; exact trivial) ((t_d4n (mpA []) 0 (fun e s => onP (e = .normal ∧ s = XE none))).trans (onP_true ⟨rfl, rfl⟩))
    refine AWq.mono (fun e s he => ?_) h4
    obtain ⟨rfl, hs⟩ := of_onP he
    exact ⟨keepSN [2] [] s, LessS.keepSN _ _ s, by rw [hs]; exact h⟩
  · have hz : zer L ≠ [] := fun hh => by
      have := zer_len L
      rw [hh] at this
      cases L with
      | nil => exact h0 rfl
      | cons p l => cases this
    rw [rwo_cons hz, zer_len]
    rw [rwo_cons h0] at h
    have h4 : AWq cR d4 (XC (mpA L) L.length (some (enc (zer L), L.length))) (fun e s => onP (e = .normal ∧ keepSN [2] [2] s = XE (some (enc L, L.length))) = true) :=
      awq_gM hC (n := 300) (g := keepSN [2] [2]) (l := [LFe (enc (zer L)) (enc L) L.length (mpA L) L.length]) (K := fun e s => onP (e = .normal ∧ s = XE (some (enc L, L.length))))
        (by rw [l_d4]; exact ⟨lf_ok (g := keepSH [2, 3, 45, 46, 47] [2]) (fun s => LessS.keepSH _ _ s) (fun KK h => ze0 hl hn h), trivial⟩) ((t_d4s (enc (zer L)) (enc L) L.length (mpA L) L.length (fun e s => onP (e = .normal ∧ s = XE (some (enc L, L.length))))).trans (band (onP_true rfl) (onP_true ⟨rfl, rfl⟩)))
    refine AWq.mono (fun e s he => ?_) h4
    obtain ⟨rfl, hs⟩ := of_onP he
    exact ⟨keepSN [2] [2] s, LessS.keepSN _ _ s, by rw [hs]; exact h⟩
theorem t_d5a (r r' : Option (List AV × Nat)) (k : Ex → St → Bool) : opsK cR (callX cR (run cR 300) 61 [rwV r] (memR r 2) false (rwV r') (memR r' 2)) (opsOf d5) (opsOf d5).toList (XD r) (fun s => k .normal (keepSH [2] [1] s)) (fun v s => k (.panic v) (keepSH [2] [1] s)) false = ba (onP ([rwV r] = [rwV r] ∧ memR r 2 = memR r 2)) (k .normal (XD r')) := by
  cases r with
  | none => cases r' with
    | none => kernel_rfl
    | some q => obtain ⟨c, d⟩ := q; kernel_rfl
  | some p =>
    obtain ⟨a, b⟩ := p
    cases r' with
    | none => kernel_rfl
    | some q => obtain ⟨c, d⟩ := q; kernel_rfl
theorem t_rD (r : Option (List AV × Nat)) (K : AV → Bool) : resF cR 85 (XD r) K false = BasAvW.frz r K := by
  cases r with
  | none => kernel_rfl
  | some p => obtain ⟨a, b⟩ := p; kernel_rfl
theorem t_ret (r : Option (List AV × Nat)) (k : Ex → St → Bool) : run cR 300 none none .ret (XD r) (fun e s => k e (keepSH [2] [1] s)) false = k .ret (XD r) := by
  cases r with
  | none => kernel_rfl
  | some p => obtain ⟨a, b⟩ := p; kernel_rfl
/-- The way up to the first loop's end. -/
theorem d_to {c : Conf} {us : List AV} {m : Nat} (ho : TrOk c us m) {L : RL} {ok : Bool} (h1 : ok = true → treP c us m = some L) (h0 : ok = false → treP c us m = none) {K : Ex → St → Prop} (hp : ok = false → K pan PX) (hn : ok = true → AWq cR (.seq d4 (.seq d5 .ret)) (XC (mpA L) L.length (rwo (zer L))) K) : AWq cR codeC (st0 Tryd.prog 85 [agC c us m]) K := by
  rw [d_code]
  refine AWq.seq (AWq.mono (fun e s hh => ?_) (awp_run hC (t_d0 c us m)).q)
  obtain ⟨rfl, hh⟩ := hh
  refine AWq.less (fun w B oC oL ω a S => ⟨ω, hh.2 w B oC oL ω a S⟩) (AWq.seq (AWq.mono (fun e s hh => ?_) (awp_run hC (t_d1 c us m)).q))
  obtain ⟨rfl, hh⟩ := hh
  refine AWq.less (fun w B oC oL ω a S => ⟨ω, hh.2 w B oC oL ω a S⟩) (AWq.seq (AWq.seq (AWq.mono (fun e s hh => ?_) (awp_run hC (t_d2 c us m)).q)))
  obtain ⟨rfl, hh⟩ := hh
  refine AWq.less (fun w B oC oL ω a S => ⟨ω, hh.2 w B oC oL ω a S⟩) ?_
  have h4 : AWq cR d3 (hD c us m #[] 0 none 0 2 2) (fun e s => onP ((ok = true ∧ e = .normal ∧ keepSH [2, 3] [2] s = XC (mpA L) L.length (rwo (zer L))) ∨ (ok = false ∧ e = pan ∧ keepSH [2, 3] [2] s = PX)) = true) :=
    awq_gM hC (n := 300) (g := keepSH [2, 3] [2]) (l := [LFc c us m (mpA L) L.length (rwo (zer L)) ok]) (K := fun e s => onP ((ok = true ∧ e = .normal ∧ s = XC (mpA L) L.length (rwo (zer L))) ∨ (ok = false ∧ e = pan ∧ s = PX)))
      (by rw [l_d3]; exact ⟨LFc_ok ho h1 h0, trivial⟩) ((t_d3 c us m (mpA L) L.length (rwo (zer L)) ok (fun e s => onP ((ok = true ∧ e = .normal ∧ s = XC (mpA L) L.length (rwo (zer L))) ∨ (ok = false ∧ e = pan ∧ s = PX)))).trans (band (onP_true rfl) (bdt (fun ho => onP_true (.inl ⟨ho, rfl, rfl⟩)) (fun ho => onP_true (.inr ⟨ho, rfl, rfl⟩)))))
  refine AWq.post h4 fun e s he => ⟨keepSH [2, 3] [2] s, LessS.keepSH _ _ s, ?_⟩
  rcases of_onP he with ⟨ho, rfl, hs⟩ | ⟨ho, rfl, hs⟩
  · rw [hs]
    exact hn ho
  · rw [hs]
    exact hp ho
/-- Keys that are not twice there are not twice there when they are sorted. -/
theorem adj_of_nd {L : RL} (h : ND L) : Adj (srt L) := fun i hi => by
  have hn : (L.map Prod.fst).Nodup := by
    rw [List.nodup_iff_pairwise_ne, List.pairwise_iff_getElem]
    intro a b ha hb hab
    have ha : a < L.length := by simpa using ha
    have hb : b < L.length := by simpa using hb
    have := h a b hab hb
    simpa [rk, ha, hb] using this
  have hp : ((srt L).map Prod.fst).Nodup := ((srt_perm L).map Prod.fst).nodup_iff.2 hn
  rw [List.nodup_iff_pairwise_ne, List.pairwise_iff_getElem] at hp
  have := hp i (i + 1) (by simpa using (show i < (srt L).length by omega)) (by simpa using hi) (by omega)
  have h1 : i < (srt L).length := by omega
  intro e
  apply this
  simp [rk, hi, h1] at e
  simpa using e.symm
theorem q_trP {c : Conf} {us : List AV} {m : Nat} (ho : TrOk c us m) {L : RL} (hL : treP c us m = some L) : ACalls Tryd.prog (gmap gs) 85 [agC c us m] (fun v => v = rowsV (rwo (srt L))) := by
  have hll := treP_len c us m L hL
  have hnd := treP_nd c us m L hL
  have hm := ho.1.2.1
  refine ACalls.mono (fun v hv => of_onP hv) (acalls_of_awq (C := cR) (k := fun v => onP (v = rowsV (rwo (srt L)))) (by kernel_rfl) ?_)
  refine d_to ho (ok := true) (fun _ => hL) (fun h => by cases h) (fun h => by cases h) (fun _ => AWq.seq (AWq.mono (fun e s hh => ?_) (d4_ok (K := fun e s => e = .normal ∧ s = XE (rwo L)) (by omega) hnd ⟨rfl, rfl⟩)))
  obtain ⟨s', hs, rfl, rfl⟩ := hh
  refine AWq.less (fun w B oC oL ω a S => ⟨ω, hs.2 w B oC oL ω a S⟩) (AWq.less (ren_X (rwo L)) (AWq.seq ?_))
  have h3 : AWp cR none (.region 17 (opsOf d5) false) (XD (rwo L)) (fun e s => onP (e = .normal ∧ keepSH [2] [1] s = XD (rwo (srt L))) = true) :=
    AWp.regionC (callX_ok hC (run_sound hC 300).1 (by kernel_rfl) (sorted_ok (by omega) 2 (adj_of_nd hnd))) (k := fun e s => (fun e s => onP (e = .normal ∧ s = XD (rwo (srt L)))) e (keepSH [2] [1] s))
      ((t_d5a (rwo L) (rwo (srt L)) (fun e s => onP (e = .normal ∧ s = XD (rwo (srt L))))).trans (band (onP_true ⟨rfl, rfl⟩) (onP_true ⟨rfl, rfl⟩)))
  rw [← d5_is] at h3
  refine AWq.mono (fun e s he => ?_) h3.q
  obtain ⟨rfl, he2⟩ := of_onP he
  refine AWq.less (fun w B oC oL ω a S => ⟨ω, (LessS.keepSH (C := cR) [2] [1] s).2 w B oC oL ω a S⟩) ?_
  rw [he2]
  refine AWq.post (awp_run hC (t_ret (rwo (srt L)))).q fun e s hh => ?_
  obtain ⟨rfl, hh⟩ := hh
  refine ⟨_, hh, .inl rfl, ?_⟩
  rw [t_rD]
  exact frz_ok (onP_true rfl)
theorem p_trP {c : Conf} {us : List AV} {m : Nat} (ho : TrOk c us m) (hn : treP c us m = none) : PCalls Tryd.prog (gmap gs) 85 [agC c us m] 27 .i64 2 := by
  refine pcalls_of_awq (C := cR) (by kernel_rfl) ?_
  exact d_to ho (L := []) (ok := false) (fun h => by cases h) (fun _ => hn) (fun _ => ⟨rfl, rfl, rfl⟩) (fun h => by cases h)
end Go.Bas.BasAvC5
end
