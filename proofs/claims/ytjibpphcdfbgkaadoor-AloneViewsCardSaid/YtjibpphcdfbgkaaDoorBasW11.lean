/- The document's rows of an index's cells: its contract; The document's Rows; The document's Rows: its contract; The document's View: its contract; The size of an object: the program's; What alone.View does where it has deferred its closure: it answers what it comes to, or, where that; The program's rows of an index's cells: a round of its inner loop; The program's rows of an index's cells: its loops; The program's rows of an index's cells: what its loops come to. -/
import Derived.Test.YtjibpphcdfbgkaaDoorBasW8
import Derived.Test.YtjibpphcdfbgkaaDoorBasW9
import Derived.Test.YtjibpphcdfbgkaaDoorBasW10
section
namespace Go.Bas.BasAvI9
open Go.RowKit Go.Proofs
open Go.Bas.BasZBase Go.Bas.BasAvR1 Go.Bas.BasAvR2 Go.Bas.BasAvR3 Go.Bas.BasAvL Go.Bas.BasAvF Go.Bas.BasAvW Go.Bas.BasAvP1 Go.Bas.BasAvP2 Go.Bas.BasAvA Go.Bas.BasZRank Go.Bas.BasZRank3 Go.Bas.BasZLev Go.Bas.BasZItems Go.Bas.BasAvI0 Go.Bas.BasAvIE Go.Bas.BasAvIE2 Go.Bas.BasAvI1 Go.Bas.BasAvG Go.Bas.BasAvI2 Go.Bas.BasAvI3 Go.Bas.BasAvI4 Go.Bas.BasAvI5 Go.Bas.BasAvI6 Go.Bas.BasAvI8 Go.Bas.BasAvI7
set_option maxRecDepth 100000
set_option maxHeartbeats 4000000
set_option linter.unusedVariables false
set_option linter.unusedSimpArgs false
theorem of_onPf {P : Prop} (h : onP P = false) : ¬ P := fun hh => by rw [onP_true hh] at h; cases h
theorem onP_false {P : Prop} (h : ¬ P) : onP P = false := @decide_eq_false _ (Classical.propDecidable _) h
/-- Where an index's rows may be, but for their order. -/
def IxRows (c : Conf) (us : List AV) (m : Nat) : Prop := cA us 0 ≤ c.cap ∧ (∀ i, i < (cA us 0).toNat → ¬ RwBad us i) ∧ ∀ p, p < m → CelOk us (Lw c (rwX us (cA us 0).toNat) (lv c) 0) p
noncomputable def ixV (c : Conf) (us : List AV) (m : Nat) : AV := cond (onP (IxRows c us m)) (.tup [rowsV (rwo (rwX us (cA us 0).toNat)), .bool (onP (Ris (rwX us (cA us 0).toNat)))]) no
theorem LX0_ok {c : Conf} {us : List AV} {m n : Nat} (hc : CL us m) (hn : cA us 0 = (n : Int)) (hnm : n < m) : ∀ (st : St) (K : Ex → St → Bool), LX0 c us m (rwo (rwX us n)) (onP (∃ i, i < n ∧ RwBad us i)) st K = true → AWq cX (.loop x0) st (fun e s => K e s = true) := fun st K hk => by
  obtain ⟨e1, e2⟩ := of_cond hk
  have e1 := of_onP e1
  refine AWq.less (fun w B oC oL ω a S => ⟨ω, (LessS.keepSH (C := cX) [1, 2, 6, 7] [0] st).2 w B oC oL ω a S⟩) ?_
  rw [e1]
  refine AWq.less (ren_X1 c us m 0) ?_
  refine AWq.post (K := fun e s => (e = .ret ∧ (∃ i, i < n ∧ RwBad us i) ∧ ∃ r i, s = hXr c us m r i) ∨ (e = .exit 0 ∧ (¬ ∃ i, i < n ∧ RwBad us i) ∧ s = hX0 c us m (rwo (rwX us n)) (n : Int) 2)) (zx0 hc hn hnm (fun h => .inr ⟨rfl, fun ⟨i, h1, h2⟩ => h i h1 h2, rfl⟩) (fun h r i => .inl ⟨rfl, h, r, i, rfl⟩)) ?_
  rintro e s (⟨rfl, h, r, i, rfl⟩ | ⟨rfl, h, rfl⟩)
  · rw [onP_true h] at e2
    refine ⟨YR 3, ?_, e2⟩
    have e : ∀ r, keepSH [4, 5] [] (hXr c us m r i) = YR 3 := fun r => by cases r <;> kernel_rfl
    rw [← e r]
    exact LessS.keepSH _ _ _
  · rw [onP_false h] at e2
    refine ⟨XX c us m (rwo (rwX us n)), ?_, e2⟩
    have e : ∀ r, keepSH [1, 2, 6] [0, 1] (hX0 c us m r (n : Int) 2) = XX c us m r := fun r => by
      cases r with
      | none => kernel_rfl
      | some p => obtain ⟨a, b⟩ := p; kernel_rfl
    rw [← e]
    exact LessS.keepSH _ _ _
theorem LX2_ok {us : List AV} {m : Nat} (hc : CL us m) (r : Option (List AV × Nat)) (f : Nat → Nat → Int) : ∀ (st : St) (K : Ex → St → Bool), LX2 us m r (celF f m) m (onP (∃ p, p < m ∧ ¬ CelOk us f p)) st K = true → AWq cX (.loop x2) st (fun e s => K e s = true) := fun st K hk => by
  obtain ⟨e1, e2⟩ := of_cond hk
  have e1 := of_onP e1
  refine AWq.less (fun w B oC oL ω a S => ⟨ω, (LessS.keepSH (C := cX) [1, 6, 9, 10] [1] st).2 w B oC oL ω a S⟩) ?_
  rw [e1]
  refine AWq.post (K := fun e s => (e = .ret ∧ (∃ p, p < m ∧ ¬ CelOk us f p) ∧ ∃ i, s = hX2r us m r (celF f m) m i) ∨ (e = .exit 2 ∧ (¬ ∃ p, p < m ∧ ¬ CelOk us f p) ∧ s = hX2 us m r (celF f m) m (m : Int))) (zx2 hc r f (fun h => .inr ⟨rfl, fun ⟨p, h1, h2⟩ => h2 (h p h1), rfl⟩) (fun h i => .inl ⟨rfl, h, i, rfl⟩)) ?_
  rintro e s (⟨rfl, h, i, rfl⟩ | ⟨rfl, h, rfl⟩)
  · rw [onP_true h] at e2
    refine ⟨YR 2, ?_, e2⟩
    have e : ∀ r vs, keepSH [4, 5] [] (hX2r us m r vs m i) = YR 2 := fun r vs => by cases r <;> kernel_rfl
    rw [← e r (celF f m)]
    exact LessS.keepSH _ _ _
  · rw [onP_false h] at e2
    refine ⟨YY r, ?_, e2⟩
    have e : ∀ r vs, keepSH [6] [1] (hX2 us m r vs m (m : Int)) = YY r := fun r vs => by
      cases r with
      | none => kernel_rfl
      | some p => obtain ⟨a, b⟩ := p; kernel_rfl
    rw [← e r (celF f m)]
    exact LessS.keepSH _ _ _
theorem frzK_ok {L : RL} {K : AV → Bool} (h : K (rowsV (rwo L)) = true) : BasAvW.frz (rwo L) K = true := frz_ok h
theorem nrC (c : Conf) : AV.noRef 6 c.av = true := by kernel_rfl
/-- Own rows, and a config, asv memory that nobody writes. -/
theorem hv_L (c : Conf) (L : RL) : ∀ (w : World) (B oC oL : Nat → Prop) (ω : Nat → Option Nat) (us : Array Value), MemSim cX w B oC oL ω (mX c (rwo L)) → RepL w (Or2 B oL) oC ω (mX c (rwo L)).nx (aL c (rwo L)) us → RepL w (fun _ => False) (fun _ => False) (fun _ => none) 0 [c.av, rowsV (rwo L)] us := fun w B oC oL ω us M hr => by
  obtain ⟨hn, hr⟩ := hr
  have hn : 2 = us.size := hn
  refine ⟨hn, fun i hi => ?_⟩
  have hi2 : i < 2 := hi
  rcases i with _ | _ | i
  · have h := hr 0 (Nat.zero_lt_succ _)
    have h : Rep w (Or2 B oL) oC ω 2 c.av (us.getD 0 undef) := h
    exact (h.down (nrC c) 0).mono (Nat.le_refl _) (fun _ _ _ _ => ⟨rfl, fun h => h, fun h => h⟩) (fun id b hi => absurd hi (Nat.not_lt_zero _)) (fun _ _ h => h)
  · have h := hr 1 (Nat.lt_succ_self _)
    have h : Rep w (Or2 B oL) oC ω 2 (rwV (rwo L)) (us.getD 1 undef) := h
    show Rep w _ _ _ 0 (rowsV (rwo L)) (us.getD 1 undef)
    generalize us.getD 1 undef = z at h
    cases L with
    | nil =>
      have h : Rep w (Or2 B oL) oC ω 2 .nils z := h
      cases h
      exact .nils _
    | cons p l =>
      have h : Rep w (Or2 B oL) oC ω 2 (.sl 1 0 (p :: l).length 2 true) z := h
      obtain ⟨_, b, arr, p2, p3, p4, p5, p6⟩ := M.hp.rel 1 ⟨enc (p :: l), 47, true⟩ rfl
      cases h with
      | sla _ _ _ _ cap b' q1 q2 q3 q4 q5 =>
        have e := Option.some.inj (q2.symm.trans p2)
        subst e
        refine .lst 0 (enc (p :: l)) (p :: l).length cap b' 0 (fun i => arr.getD i undef) (fun _ => ⟨M.hp.ob b' p3, fun h => h, fun h => h⟩) q3 (fun i hi' => ?_) (fun i hi' => ?_)
        · have hia : i < arr.size := Nat.lt_of_lt_of_le hi' p5
          simp [World.cell?, p4, hia]
        · have h6 := p6 i hi'
          have h6 : Rep w (Or2 B oL) oC ω 0 (enc (p :: l))[i] (arr.getD i undef) := h6
          exact h6.mono (Nat.le_refl _) (fun _ _ _ _ => ⟨rfl, fun h => h, fun h => h⟩) (fun id b hi => absurd hi (Nat.not_lt_zero _)) (fun _ _ h => h)
  · omega
theorem fin_no {e : Ex} {c : Conf} {us : List AV} {m : Nat} {s : St} (hn : ¬ IxRows c us m) (hs : ∀ K : AV → Bool, resF cX 19 s K false = K no) (he : e = .ret) : (e = .ret ∨ e = .normal) ∧ resF cX 19 s (fun v => onP (v = ixV c us m)) false = true := by
  refine ⟨.inl he, ?_⟩
  rw [hs]
  refine onP_true ?_
  unfold ixV
  rw [onP_false hn]
  rfl
theorem q_ix {c : Conf} {us : List AV} (hx : IxOk c) (ho : c.ob = 2) (hc : CL us (GG c)) : ACalls Tryd.prog (gmap gs) 19 [c.av, .lst us (GG c)] (fun v => v = ixV c us (GG c)) := by
  have hG := GG_bd hx
  have hC : CC c ≤ 32 := by have := hx.2.1; show c.cap.toNat ≤ 32; omega
  have hcap := hx.1
  have hcap2 := hx.2.1
  have n0 : 0 ≤ cA us 0 := (hc.2.2 _ (by rw [hc.1]; omega)).2
  obtain ⟨n, hn⟩ := Int.eq_ofNat_of_zero_le n0
  have hnn : (cA us 0).toNat = n := by rw [hn]; rfl
  have ew : IntKind.wrap .u64 c.cap = c.cap := wU (by omega) (by omega)
  have hll := rwX_len us n
  refine ACalls.mono (fun v hv => of_onP hv) (acalls_of_awq (C := cX) (k := fun v => onP (v = ixV c us (GG c))) (by kernel_rfl) ?_)
  show AWq cX codeX _ _
  rw [y_code]
  refine AWq.seq (AWq.mono (fun e s hh => ?_) (awp_run hCX (t_y0 c us (GG c))).q)
  obtain ⟨rfl, hh⟩ := hh
  refine AWq.less (fun w B oC oL ω a S => ⟨ω, hh.2 w B oC oL ω a S⟩) (AWq.seq (AWq.mono (fun e s hh => ?_) (awp_run hCX (t_y1 c us (GG c))).q))
  obtain ⟨rfl, hh⟩ := hh
  refine AWq.less (fun w B oC oL ω a S => ⟨ω, hh.2 w B oC oL ω a S⟩) (AWq.seq ?_)
  have hy2 : AWq cX y2 (A2 c us (GG c)) (fun e s => onP ((e = .ret ∧ ¬ cA us 0 ≤ c.cap ∧ keepSH [1, 2, 4, 5, 6] [0] s = ⟨[.any, .lst us (GG c), .ptr 0 0, .any, .nils, .bool false, .nils, .any, .any, .any, .any, .any, .any, .any, .any, .any, .any, .any, .any, .any, .any, .any, .any, .any, .any, .any, .any, .any, .any, .any, .any, .any, .any, .any, .any, .any, .any, .any, .any, .any, .any, .any, .any, .any, .any, .any, .any, .any, .any, .any, .any, .any, .any, .any, .any, .any, .any, .any, .any, .any, .any, .any, .any, .any, .any, .any, .any, .any, .any, .any, .any, .any, .any, .any, .any, .any, .any, .any, .any, .any, .any, .any, .any, .any, .any, .any, .any, .any, .any, .any, .any, .any, .any], [], ⟨[(0, ⟨c.cells, 24, true⟩)], 1, []⟩⟩) ∨ (e = .normal ∧ cA us 0 ≤ c.cap ∧ keepSH [1, 2, 4, 5, 6] [0] s = A2 c us (GG c))) = true) :=
    awq_gM hCX (n := 300) (g := keepSH [1, 2, 4, 5, 6] [0]) (l := []) (K := fun e s => onP ((e = .ret ∧ ¬ cA us 0 ≤ c.cap ∧ s = ⟨[.any, .lst us (GG c), .ptr 0 0, .any, .nils, .bool false, .nils, .any, .any, .any, .any, .any, .any, .any, .any, .any, .any, .any, .any, .any, .any, .any, .any, .any, .any, .any, .any, .any, .any, .any, .any, .any, .any, .any, .any, .any, .any, .any, .any, .any, .any, .any, .any, .any, .any, .any, .any, .any, .any, .any, .any, .any, .any, .any, .any, .any, .any, .any, .any, .any, .any, .any, .any, .any, .any, .any, .any, .any, .any, .any, .any, .any, .any, .any, .any, .any, .any, .any, .any, .any, .any, .any, .any, .any, .any, .any, .any, .any, .any, .any, .any, .any, .any], [], ⟨[(0, ⟨c.cells, 24, true⟩)], 1, []⟩⟩) ∨ (e = .normal ∧ cA us 0 ≤ c.cap ∧ s = A2 c us (GG c)))) (by rw [l_y2]; exact trivial)
      ((t_y2 c us (GG c) (fun e s => onP ((e = .ret ∧ ¬ cA us 0 ≤ c.cap ∧ s = ⟨[.any, .lst us (GG c), .ptr 0 0, .any, .nils, .bool false, .nils, .any, .any, .any, .any, .any, .any, .any, .any, .any, .any, .any, .any, .any, .any, .any, .any, .any, .any, .any, .any, .any, .any, .any, .any, .any, .any, .any, .any, .any, .any, .any, .any, .any, .any, .any, .any, .any, .any, .any, .any, .any, .any, .any, .any, .any, .any, .any, .any, .any, .any, .any, .any, .any, .any, .any, .any, .any, .any, .any, .any, .any, .any, .any, .any, .any, .any, .any, .any, .any, .any, .any, .any, .any, .any, .any, .any, .any, .any, .any, .any, .any, .any, .any, .any, .any, .any], [], ⟨[(0, ⟨c.cells, 24, true⟩)], 1, []⟩⟩) ∨ (e = .normal ∧ cA us 0 ≤ c.cap ∧ s = A2 c us (GG c))))).trans (ldC_ok (i := 0) hc (by omega) (by omega) (by
        rw [ew]
        refine bdt (fun h => onP_true (.inl ⟨rfl, ?_, rfl⟩)) (fun h => onP_true (.inr ⟨rfl, ?_, rfl⟩))
        · have h : cA us 0 > c.cap := of_decide_eq_true h
          omega
        · have h : ¬ cA us 0 > c.cap := of_decide_eq_false h
          omega)))
  refine AWq.post hy2 fun e s he => ⟨keepSH [1, 2, 4, 5, 6] [0] s, LessS.keepSH _ _ s, ?_⟩
  rcases of_onP he with ⟨rfl, hA, hs⟩ | ⟨rfl, hA, hs⟩
  · rw [hs]
    exact fin_no (fun hh => hA hh.1) (fun K => t_rA c us (GG c) K) rfl
  rw [hs]
  have hnC : n ≤ CC c := by show n ≤ c.cap.toNat; omega
  refine AWq.seq ?_
  have hy3 : AWq cX y3 (A2 c us (GG c)) (fun e s => onP ((e = .ret ∧ (∃ i, i < n ∧ RwBad us i) ∧ keepSH [1, 2, 4, 5, 6] [0, 1] s = YR 3) ∨ (e = .normal ∧ (¬ ∃ i, i < n ∧ RwBad us i) ∧ keepSH [1, 2, 4, 5, 6] [0, 1] s = XX c us (GG c) (rwo (rwX us n)))) = true) :=
    awq_gM hCX (n := 300) (g := keepSH [1, 2, 4, 5, 6] [0, 1]) (l := [LX0 c us (GG c) (rwo (rwX us n)) (onP (∃ i, i < n ∧ RwBad us i))]) (K := fun e s => onP ((e = .ret ∧ (∃ i, i < n ∧ RwBad us i) ∧ s = YR 3) ∨ (e = .normal ∧ (¬ ∃ i, i < n ∧ RwBad us i) ∧ s = XX c us (GG c) (rwo (rwX us n))))) (by rw [l_y3]; exact ⟨LX0_ok hc hn (by omega), trivial⟩)
      ((t_y3 c us (GG c) (rwo (rwX us n)) (onP (∃ i, i < n ∧ RwBad us i)) (fun e s => onP ((e = .ret ∧ (∃ i, i < n ∧ RwBad us i) ∧ s = YR 3) ∨ (e = .normal ∧ (¬ ∃ i, i < n ∧ RwBad us i) ∧ s = XX c us (GG c) (rwo (rwX us n)))))).trans (band (onP_true rfl) (bdt (fun h => onP_true (.inl ⟨rfl, of_onP h, rfl⟩)) (fun h => onP_true (.inr ⟨rfl, of_onPf h, rfl⟩)))))
  refine AWq.post hy3 fun e s he => ⟨keepSH [1, 2, 4, 5, 6] [0, 1] s, LessS.keepSH _ _ s, ?_⟩
  rcases of_onP he with ⟨rfl, hB, hs⟩ | ⟨rfl, hB, hs⟩
  · rw [hs]
    refine fin_no (fun hh => ?_) (fun K => t_rY 3 K) rfl
    obtain ⟨i, i1, i2⟩ := hB
    exact hh.2.1 i (by omega) i2
  rw [hs]
  refine AWq.seq ?_
  have hxl := xcalls_of_new (C := cX) (args0 := aL c (rwo (rwX us n))) (m := mX c (rwo (rwX us n))) (q_laidN hx ho (L := rwX us n) (by omega)) (hv_L c (rwX us n))
  have hy4 : AWp cX none (.region 11 (opsOf y4) false) (XX c us (GG c) (rwo (rwX us n))) (fun e s => onP (e = .normal ∧ keepSH [1, 6, 9] [1] s = X11 us (GG c) (rwo (rwX us n)) (wantC c (rwX us n)) (GG c)) = true) :=
    AWp.regionC (callX_ok hCX (run_sound hCX 300).1 (by kernel_rfl) hxl) (k := fun e s => (fun e s => onP (e = .normal ∧ s = X11 us (GG c) (rwo (rwX us n)) (wantC c (rwX us n)) (GG c))) e (keepSH [1, 6, 9] [1] s))
      ((t_y4 c us (GG c) (rwo (rwX us n)) (wantC c (rwX us n)) (GG c) (fun e s => onP (e = .normal ∧ s = X11 us (GG c) (rwo (rwX us n)) (wantC c (rwX us n)) (GG c)))).trans (band (onP_true ⟨rfl, rfl⟩) (onP_true ⟨rfl, rfl⟩)))
  rw [← y4_is] at hy4
  refine AWq.post hy4.q fun e s he => ⟨keepSH [1, 6, 9] [1] s, LessS.keepSH _ _ s, ?_⟩
  obtain ⟨rfl, hs⟩ := of_onP he
  rw [hs]
  refine AWq.seq ?_
  have hy5 : AWq cX y5 (X11 us (GG c) (rwo (rwX us n)) (wantC c (rwX us n)) (GG c)) (fun e s => onP ((e = .ret ∧ (∃ p, p < GG c ∧ ¬ CelOk us (Lw c (rwX us n) (lv c) 0) p) ∧ keepSH [4, 5, 6] [1] s = YR 2) ∨ (e = .normal ∧ (¬ ∃ p, p < GG c ∧ ¬ CelOk us (Lw c (rwX us n) (lv c) 0) p) ∧ keepSH [4, 5, 6] [1] s = YY (rwo (rwX us n)))) = true) :=
    awq_gM hCX (n := 300) (g := keepSH [4, 5, 6] [1]) (l := [LX2 us (GG c) (rwo (rwX us n)) (wantC c (rwX us n)) (GG c) (onP (∃ p, p < GG c ∧ ¬ CelOk us (Lw c (rwX us n) (lv c) 0) p))]) (K := fun e s => onP ((e = .ret ∧ (∃ p, p < GG c ∧ ¬ CelOk us (Lw c (rwX us n) (lv c) 0) p) ∧ s = YR 2) ∨ (e = .normal ∧ (¬ ∃ p, p < GG c ∧ ¬ CelOk us (Lw c (rwX us n) (lv c) 0) p) ∧ s = YY (rwo (rwX us n))))) (by rw [l_y5]; exact ⟨LX2_ok hc _ _, trivial⟩)
      ((t_y5 us (GG c) (rwo (rwX us n)) (wantC c (rwX us n)) (GG c) (onP (∃ p, p < GG c ∧ ¬ CelOk us (Lw c (rwX us n) (lv c) 0) p)) (fun e s => onP ((e = .ret ∧ (∃ p, p < GG c ∧ ¬ CelOk us (Lw c (rwX us n) (lv c) 0) p) ∧ s = YR 2) ∨ (e = .normal ∧ (¬ ∃ p, p < GG c ∧ ¬ CelOk us (Lw c (rwX us n) (lv c) 0) p) ∧ s = YY (rwo (rwX us n)))))).trans (band (onP_true rfl) (bdt (fun h => onP_true (.inl ⟨rfl, of_onP h, rfl⟩)) (fun h => onP_true (.inr ⟨rfl, of_onPf h, rfl⟩)))))
  refine AWq.post hy5 fun e s he => ⟨keepSH [4, 5, 6] [1] s, LessS.keepSH _ _ s, ?_⟩
  rcases of_onP he with ⟨rfl, hD, hs⟩ | ⟨rfl, hD, hs⟩
  · rw [hs]
    refine fin_no (fun hh => ?_) (fun K => t_rY 2 K) rfl
    obtain ⟨p, p1, p2⟩ := hD
    have := hh.2.2 p p1
    rw [hnn] at this
    exact p2 this
  rw [hs]
  have hy6 : AWq cX y6 (YY (rwo (rwX us n))) (fun e s => onP (e = .ret ∧ keepSH [4, 5] [1] s = ZZ (rwo (rwX us n)) (onP (Ris (rwX us n)))) = true) :=
    awq_gM hCX (n := 300) (g := keepSH [4, 5] [1]) (l := []) (K := fun e s => onP (e = .ret ∧ s = ZZ (rwo (rwX us n)) (onP (Ris (rwX us n))))) (by rw [l_y6]; exact trivial)
      ((t_y6 (rwo (rwX us n)) (fun e s => onP (e = .ret ∧ s = ZZ (rwo (rwX us n)) (onP (Ris (rwX us n)))))).trans (vw_ok (by
        rw [rT_is, dec_rwo]
        exact band (rwOk_rwo (by omega)) (onP_true ⟨rfl, rfl⟩))))
  refine AWq.post hy6 fun e s he => ⟨keepSH [4, 5] [1] s, LessS.keepSH _ _ s, ?_⟩
  obtain ⟨rfl, hs⟩ := of_onP he
  rw [hs]
  refine ⟨.inl rfl, ?_⟩
  rw [t_rZ]
  refine frzK_ok (onP_true ?_)
  unfold ixV
  rw [hnn, onP_true (show IxRows c us (GG c) from ⟨hA, fun i hi hh => hB ⟨i, by omega, hh⟩, fun p hp => Classical.byContradiction fun hh => hD ⟨p, hp, by rw [hnn] at hh; exact hh⟩⟩)]
  rfl
end Go.Bas.BasAvI9
end
section
namespace Go.Bas.BasAvV
open Go.RowKit Go.Proofs
open Go.Bas.BasZBase Go.Bas.BasAvR1 Go.Bas.BasAvR2 Go.Bas.BasAvR3 Go.Bas.BasAvL Go.Bas.BasAvF Go.Bas.BasAvW Go.Bas.BasAvA Go.Bas.BasAvT Go.Bas.BasAvT2 Go.Bas.BasZRank Go.Bas.BasAvI0 Go.Bas.BasAvI1 Go.Bas.BasAvG Go.Bas.BasAvI2 Go.Bas.BasAvI3 Go.Bas.BasAvI4 Go.Bas.BasAvI5 Go.Bas.BasAvI6 Go.Bas.BasAvI7 Go.Bas.BasAvI9
set_option maxRecDepth 100000
set_option maxHeartbeats 4000000
set_option linter.unusedVariables false
set_option linter.unusedSimpArgs false
/-- A call known at these arguments: it answers rows, and whether they may be. -/
noncomputable def S_x (f : FuncId) (a : List AV) (r : Option (List AV × Nat)) (ok : Bool) : Sum := (f, fun args => some (onP (args = a), .tup [rowsV r, .bool ok]))
theorem s_x {f : FuncId} {a : List AV} {r : Option (List AV × Nat)} {ok : Bool} (h : ACalls Tryd.prog (gmap gs) f a (fun v => v = .tup [rowsV r, .bool ok])) : SumOk Tryd.prog (gmap gs) (S_x f a r ok) := fun args r' hr => by
  have hr : some (onP (args = a), AV.tup [rowsV r, .bool ok]) = some (true, r') := hr
  simp only [Option.some.injEq, Prod.mk.injEq] at hr
  obtain ⟨h1, rfl⟩ := hr
  rw [of_onP h1]
  exact h
noncomputable def tRow (c : Conf) (m : Nat) (a : List AV) (r : Option (List AV × Nat)) (ok : Bool) (K : AV → Bool) : Bool :=
  ba (onP (GrOk c)) (br (!decide (Int.ofNat m = grI c)) (K no) (ba (onP (a = a)) (K (.tup [rowsV r, .bool ok]))))
theorem t_row1 (c : Conf) (us : List AV) (m : Nat) (r : Option (List AV × Nat)) (ok : Bool) (K : AV → Bool) : runFM (cfg [S_gr, S_x 18 [(BasAvG.setO c 1 c.bits).av, .lst us m] r ok]) 300 12 [] [(BasAvG.setO c 1 c.bits).av, .lst us m] K = tRow (BasAvG.setO c 1 c.bits) m [(BasAvG.setO c 1 c.bits).av, .lst us m] r ok K := by
  cases r with
  | none => kernel_rfl
  | some p => obtain ⟨a, b⟩ := p; kernel_rfl
theorem t_row2 (c : Conf) (us : List AV) (m : Nat) (r : Option (List AV × Nat)) (ok : Bool) (K : AV → Bool) : runFM (cfg [S_gr, S_x 19 [(BasAvG.setO c 2 c.bits).av, .lst us m] r ok]) 300 12 [] [(BasAvG.setO c 2 c.bits).av, .lst us m] K = tRow (BasAvG.setO c 2 c.bits) m [(BasAvG.setO c 2 c.bits).av, .lst us m] r ok K := by
  cases r with
  | none => kernel_rfl
  | some p => obtain ⟨a, b⟩ := p; kernel_rfl
theorem t_row3 (c : Conf) (us : List AV) (m : Nat) (r : Option (List AV × Nat)) (ok : Bool) (K : AV → Bool) : runFM (cfg [S_gr, S_x 20 [.lst us m] r ok]) 300 12 [] [(BasAvG.setO c 3 c.bits).av, .lst us m] K = tRow (BasAvG.setO c 3 c.bits) m [.lst us m] r ok K := by
  cases r with
  | none => kernel_rfl
  | some p => obtain ⟨a, b⟩ := p; kernel_rfl
theorem t_row4 (c : Conf) (us : List AV) (m : Nat) (r : Option (List AV × Nat)) (ok : Bool) (K : AV → Bool) : runFM (cfg [S_gr, S_x 21 [(BasAvG.setO c 4 c.bits).av, .lst us m] r ok]) 300 12 [] [(BasAvG.setO c 4 c.bits).av, .lst us m] K = tRow (BasAvG.setO c 4 c.bits) m [(BasAvG.setO c 4 c.bits).av, .lst us m] r ok K := by
  cases r with
  | none => kernel_rfl
  | some p => obtain ⟨a, b⟩ := p; kernel_rfl
end Go.Bas.BasAvV
end
section
namespace Go.Bas.BasAvV2
open Go.RowKit Go.Proofs
open Go.Bas.BasZBase Go.Bas.BasAvR1 Go.Bas.BasAvR2 Go.Bas.BasAvR3 Go.Bas.BasAvL Go.Bas.BasAvF Go.Bas.BasAvW Go.Bas.BasAvA Go.Bas.BasAvT Go.Bas.BasAvT2 Go.Bas.BasZRank Go.Bas.BasAvI0 Go.Bas.BasAvI1 Go.Bas.BasAvG Go.Bas.BasAvI2 Go.Bas.BasAvI3 Go.Bas.BasAvI4 Go.Bas.BasAvI5 Go.Bas.BasAvI6 Go.Bas.BasAvI7 Go.Bas.BasAvI9 Go.Bas.BasAvV
set_option maxRecDepth 100000
set_option maxHeartbeats 4000000
set_option linter.unusedVariables false
set_option linter.unusedSimpArgs false
open Classical in
/-- The rows, and whether they may be. -/
noncomputable def rwsP (c : Conf) (us : List AV) (m : Nat) : Option (Option (List AV × Nat) × Bool) :=
  if (m : Int) ≠ grI c then none else
  if c.ob = 1 then (if RouteOk c us m then some (rws us m, true) else none) else
  if c.ob = 2 then (if IxRows c us m then some (rwo (rwX us (cA us 0).toNat), onP (Ris (rwX us (cA us 0).toNat))) else none) else
  if c.ob = 3 then (accR us m).map fun L => (rwo L, true)
  else (treR c us m).map fun L => (rwo L, true)
noncomputable def rwsV (o : Option (Option (List AV × Nat) × Bool)) : AV := match o with
  | none => no
  | some p => .tup [rowsV p.1, .bool p.2]
theorem okp_gr {c : Conf} (hk : c.OkP) : GrOk c := by
  unfold Conf.OkP at hk
  unfold GrOk IxOk
  omega
theorem tRow_ok {c : Conf} (hk : c.OkP) {m : Nat} (hm : (m : Int) = grI c) {a : List AV} {r : Option (List AV × Nat)} {ok : Bool} {K : AV → Bool} (h : K (.tup [rowsV r, .bool ok]) = true) : tRow c m a r ok K = true :=
  band (onP_true (okp_gr hk)) (btf (by rw [decide_eq_true (show Int.ofNat m = grI c from hm)]; rfl) (band (onP_true rfl) h))
theorem gr_two {c : Conf} (hk : c.OkP) (h1 : c.ob = 1) : 2 ≤ grI c := by
  unfold grI
  rw [if_pos h1]
  have : 2 ^ (c.bits.toNat + 1) = 2 ^ c.bits.toNat * 2 := Nat.pow_succ ..
  have h2 : 1 ≤ 2 ^ c.bits.toNat := Nat.one_le_two_pow
  omega
theorem run_rows {c : Conf} {us : List AV} {m : Nat} (hk : c.OkP) {o : Int} (ho : c.ob = o) {f : FuncId} {a : List AV}
    (ht : ∀ (r : Option (List AV × Nat)) (ok : Bool) (K : AV → Bool), runFM (cfg [S_gr, S_x f a r ok]) 300 12 [] [c.av, .lst us m] K = tRow c m a r ok K)
    {q : Option (Option (List AV × Nat) × Bool)} (hq : ACalls Tryd.prog (gmap gs) f a (fun v => v = rwsV q)) (hm : (m : Int) = grI c) : ACalls Tryd.prog (gmap gs) 12 [c.av, .lst us m] (fun v => v = rwsV q) := by
  cases q with
  | none =>
    refine acalls_eqM (q := fun _ => false) base (sums_cons s_gr (sums_cons (s_x (r := none) (ok := false) hq) sums_nil)) (n := 300) (fs := []) (by kernel_rfl) trivial fun K hK => ?_
    exact (ht none false K).trans (tRow_ok hk hm hK)
  | some p =>
    obtain ⟨r, ok⟩ := p
    refine acalls_eqM (q := fun _ => false) base (sums_cons s_gr (sums_cons (s_x (r := r) (ok := ok) hq) sums_nil)) (n := 300) (fs := []) (by kernel_rfl) trivial fun K hK => ?_
    exact (ht r ok K).trans (tRow_ok hk hm hK)
theorem rwsV_map (o : Option RL) : accV o = rwsV (o.map fun L => (rwo L, true)) := by cases o <;> rfl
/-- Rows, where there are asv many cells asv there are to be. -/
theorem q_rows {c : Conf} {us : List AV} {m : Nat} (hk : c.OkP) (hc : CL us m) (hm : (m : Int) = grI c) : ACalls Tryd.prog (gmap gs) 12 [c.av, .lst us m] (fun v => v = rwsV (rwsP c us m)) := by
  have hob : c.ob = 1 ∨ c.ob = 2 ∨ c.ob = 3 ∨ c.ob = 4 := by unfold Conf.OkP at hk; omega
  have hcap : 1 ≤ c.cap ∧ c.cap ≤ 32 := by unfold Conf.OkP at hk; omega
  unfold rwsP
  rw [if_neg (fun h => h hm)]
  rcases hob with h | h | h | h
  · rw [if_pos h]
    refine run_rows hk h (f := 18) (a := [c.av, .lst us m]) (fun r ok K => ?_) ?_ hm
    · have := t_row1 c us m r ok K
      rwa [← BasAvG.setO_is h rfl] at this
    · have h2 : 2 ≤ m := by have := gr_two hk h; omega
      refine (q_rt c us m hc h2 hk).mono fun v hv => ?_
      rw [hv]
      unfold rtV
      by_cases hr : RouteOk c us m
      · rw [onP_true hr, if_pos hr]; rfl
      · rw [onP_false hr, if_neg hr]; rfl
  · rw [if_neg (by omega), if_pos h]
    have hx : IxOk c := by
      unfold Conf.OkP at hk
      unfold IxOk
      omega
    have hG : m = GG c := by have := gr_is hx h; omega
    subst hG
    refine run_rows hk h (f := 19) (a := [c.av, .lst us (GG c)]) (fun r ok K => ?_) ?_ hm
    · have := t_row2 c us (GG c) r ok K
      rwa [← BasAvG.setO_is h rfl] at this
    · refine (q_ix hx h hc).mono fun v hv => ?_
      rw [hv]
      unfold ixV
      by_cases hr : IxRows c us (GG c)
      · rw [onP_true hr, if_pos hr]; rfl
      · rw [onP_false hr, if_neg hr]; rfl
  · rw [if_neg (by omega), if_neg (by omega), if_pos h]
    refine run_rows hk h (f := 20) (a := [.lst us m]) (fun r ok K => ?_) ?_ hm
    · have := t_row3 c us m r ok K
      rwa [← BasAvG.setO_is h rfl] at this
    · refine (q_acc hc).mono fun v hv => ?_
      rw [hv]
      exact rwsV_map _
  · rw [if_neg (by omega), if_neg (by omega), if_neg (by omega)]
    refine run_rows hk h (f := 21) (a := [c.av, .lst us m]) (fun r ok K => ?_) ?_ hm
    · have := t_row4 c us m r ok K
      rwa [← BasAvG.setO_is h rfl] at this
    · have hg : grI c = c.cap := by
        unfold grI
        rw [if_neg (by omega), if_neg (by omega)]
      refine (q_tre ⟨hc, by omega, hcap⟩).mono fun v hv => ?_
      rw [hv]
      exact rwsV_map _
end Go.Bas.BasAvV2
end
section
namespace Go.Bas.BasAvV3
open Go.RowKit Go.Proofs
open Go.Bas.BasZBase Go.Bas.BasAvR1 Go.Bas.BasAvR2 Go.Bas.BasAvR3 Go.Bas.BasAvL Go.Bas.BasAvF Go.Bas.BasAvW Go.Bas.BasAvA Go.Bas.BasAvT Go.Bas.BasAvT2 Go.Bas.BasZRank Go.Bas.BasAvI0 Go.Bas.BasAvI1 Go.Bas.BasAvG Go.Bas.BasAvI2 Go.Bas.BasAvI3 Go.Bas.BasAvI4 Go.Bas.BasAvI5 Go.Bas.BasAvI6 Go.Bas.BasAvI7 Go.Bas.BasAvI9 Go.Bas.BasAvV Go.Bas.BasAvV2
set_option maxRecDepth 100000
set_option maxHeartbeats 4000000
set_option linter.unusedVariables false
set_option linter.unusedSimpArgs false
/-- A call of which nothing is known. -/
noncomputable def S_n (f : FuncId) : Sum := (f, fun _ => some (false, .tup [.nils, .bool false]))
theorem s_n (f : FuncId) : SumOk Tryd.prog (gmap gs) (S_n f) := fun args r hr => by
  have hr : some (false, AV.tup [.nils, .bool false]) = some (true, r) := hr
  simp at hr
theorem t_rowN (c : Conf) (us : List AV) (m : Nat) (K : AV → Bool) : runFM (cfg [S_gr, S_n 18, S_n 19, S_n 20, S_n 21]) 300 12 [] [c.av, .lst us m] K =
    ba (onP (GrOk c)) (br (!decide (Int.ofNat m = grI c)) (K no) (br (decide (c.ob = 1)) false (br (decide (c.ob = 2)) false (br (decide (c.ob = 3)) false false)))) := by kernel_rfl
theorem q_rowsN {c : Conf} {us : List AV} {m : Nat} (hk : c.OkP) (hm : (m : Int) ≠ grI c) : ACalls Tryd.prog (gmap gs) 12 [c.av, .lst us m] (fun v => v = rwsV (rwsP c us m)) := by
  refine acalls_eqM (q := fun _ => false) base (sums_cons s_gr (sums_cons (s_n 18) (sums_cons (s_n 19) (sums_cons (s_n 20) (sums_cons (s_n 21) sums_nil))))) (n := 300) (fs := []) (by kernel_rfl) trivial fun K hK => ?_
  unfold rwsP at hK
  rw [if_pos hm] at hK
  exact (t_rowN c us m K).trans (band (onP_true (okp_gr hk)) (btb (by rw [decide_eq_false (show ¬ Int.ofNat m = grI c from hm)]; rfl) hK))
theorem q_rowsA {c : Conf} {us : List AV} {m : Nat} (hk : c.OkP) (hc : CL us m) : ACalls Tryd.prog (gmap gs) 12 [c.av, .lst us m] (fun v => v = rwsV (rwsP c us m)) := by
  by_cases h : (m : Int) = grI c
  · exact q_rows hk hc h
  · exact q_rowsN hk h
noncomputable def vwV (o : Option (Option (List AV × Nat) × Bool)) : AV := match o with
  | none => .tup [.nils, .int .i64 2]
  | some (r, true) => .tup [rowsV r, .int .i64 0]
  | some (_, false) => .tup [.nils, .int .i64 2]
theorem t_view (c : Conf) (us : List AV) (m : Nat) (r : Option (List AV × Nat)) (ok : Bool) (K : AV → Bool) : runFM (cfg [S_mayBe, S_x 12 [c.av, .lst us m] r ok]) 300 5 [] [c.av, .lst us m] K =
    br (!c.ok) (K (.tup [.nils, .int .i64 40])) (ba (onP ([c.av, AV.lst us m] = [c.av, .lst us m])) (br (!ok) (K (.tup [.nils, .int .i64 2])) (K (.tup [rowsV r, .int .i64 0])))) := by
  cases r with
  | none => kernel_rfl
  | some p => obtain ⟨a, b⟩ := p; kernel_rfl
theorem t_viewN (c : Conf) (us : List AV) (m : Nat) (K : AV → Bool) : runFM (cfg [S_mayBe, S_n 12]) 300 5 [] [c.av, .lst us m] K = br (!c.ok) (K (.tup [.nils, .int .i64 40])) false := by kernel_rfl
theorem q_view {c : Conf} {us : List AV} {m : Nat} (hk : c.OkP) (hc : CL us m) : ACalls Tryd.prog (gmap gs) 5 [c.av, .lst us m] (fun v => v = vwV (rwsP c us m)) := by
  have hq := q_rowsA hk hc
  have hok : (!c.ok) = false := by rw [ok_true.2 hk]; rfl
  cases hr : rwsP c us m with
  | none =>
    rw [hr] at hq
    refine acalls_eqM (q := fun _ => false) base (sums_cons s_mayBe (sums_cons (s_x (r := none) (ok := false) hq) sums_nil)) (n := 300) (fs := []) (by kernel_rfl) trivial fun K hK => ?_
    exact (t_view c us m none false K).trans (btf hok (band (onP_true rfl) (btb rfl hK)))
  | some p =>
    obtain ⟨r, ok⟩ := p
    rw [hr] at hq
    refine acalls_eqM (q := fun _ => false) base (sums_cons s_mayBe (sums_cons (s_x (r := r) (ok := ok) hq) sums_nil)) (n := 300) (fs := []) (by kernel_rfl) trivial fun K hK => ?_
    refine (t_view c us m r ok K).trans (btf hok (band (onP_true rfl) ?_))
    cases ok with
    | true => exact btf rfl hK
    | false => exact btb rfl hK
theorem q_viewN {c : Conf} {us : List AV} {m : Nat} (hk : ¬ c.OkP) : ACalls Tryd.prog (gmap gs) 5 [c.av, .lst us m] (fun v => v = .tup [.nils, .int .i64 40]) := by
  refine acalls_eqM (q := fun _ => false) base (sums_cons s_mayBe (sums_cons (s_n 12) sums_nil)) (n := 300) (fs := []) (by kernel_rfl) trivial fun K hK => ?_
  exact (t_viewN c us m K).trans (btb (by rw [ok_false.2 hk]; rfl) hK)
end Go.Bas.BasAvV3
end
section
namespace Go.Bas.BasAvK1
open Go.RowKit Go.Proofs
open Go.Bas.BasZBase Go.Bas.BasAvR1 Go.Bas.BasAvR2 Go.Bas.BasAvR3 Go.Bas.BasZRank Go.Bas.BasZRank3 Go.Bas.BasZLev Go.Bas.BasAvI0 Go.Bas.BasAvI1 Go.Bas.BasAvG Go.Bas.BasAvI3 Go.Bas.BasAvI4 Go.Bas.BasAvV2
set_option maxRecDepth 100000
set_option maxHeartbeats 4000000
set_option linter.unusedVariables false
set_option linter.unusedSimpArgs false
noncomputable def szT (c : Conf) (k : Int → Bool) : Bool :=
  br (decide (c.ob = 1)) (br (decide (c.bits < 0)) false (k (ishl .i64 2 c.bits))) (br (decide (c.ob = 2)) (br (!f_width_0 c.cap 1 c.node) (k 1)
    (ba (ok_up c.cap c.node 0) (br (decide (f_up_0 c.cap c.node 0 ≤ c.node)) (k (IntKind.wrap .i64 (1 + f_up_0 c.cap c.node 0)))
    (ba (ok_up c.cap c.node 1) (br (decide (f_up_0 c.cap c.node 1 ≤ c.node)) (k (IntKind.wrap .i64 (IntKind.wrap .i64 (1 + f_up_0 c.cap c.node 0) + f_up_0 c.cap c.node 1)))
    (ba (ok_up c.cap c.node 2) (br (decide (f_up_0 c.cap c.node 2 ≤ c.node)) (k (IntKind.wrap .i64 (IntKind.wrap .i64 (IntKind.wrap .i64 (1 + f_up_0 c.cap c.node 0) + f_up_0 c.cap c.node 1) + f_up_0 c.cap c.node 2)))
    (ba (ok_up c.cap c.node 3) (br (decide (f_up_0 c.cap c.node 3 ≤ c.node)) (k (IntKind.wrap .i64 (IntKind.wrap .i64 (IntKind.wrap .i64 (IntKind.wrap .i64 (1 + f_up_0 c.cap c.node 0) + f_up_0 c.cap c.node 1) + f_up_0 c.cap c.node 2) + f_up_0 c.cap c.node 3)))
    (ba (ok_up c.cap c.node 4) (br (decide (f_up_0 c.cap c.node 4 ≤ c.node)) (k (IntKind.wrap .i64 (IntKind.wrap .i64 (IntKind.wrap .i64 (IntKind.wrap .i64 (IntKind.wrap .i64 (1 + f_up_0 c.cap c.node 0) + f_up_0 c.cap c.node 1) + f_up_0 c.cap c.node 2) + f_up_0 c.cap c.node 3) + f_up_0 c.cap c.node 4)))
    (k (IntKind.wrap .i64 (IntKind.wrap .i64 (IntKind.wrap .i64 (IntKind.wrap .i64 (IntKind.wrap .i64 (1 + f_up_0 c.cap c.node 0) + f_up_0 c.cap c.node 1) + f_up_0 c.cap c.node 2) + f_up_0 c.cap c.node 3) + f_up_0 c.cap c.node 4)))))))))))))) (k c.cap))
theorem t_szT (c : Conf) (K : AV → Bool) : runFM (cfg [S_width, S_up]) 300 15 [] [c.av] K = szT c (fun x => K (.int .i64 x)) := by kernel_rfl
theorem szT_ok {c : Conf} (hk : c.OkP) {k : Int → Bool} (h : k (grI c) = true) : szT c k = true := by
  have hob : c.ob = 1 ∨ c.ob = 2 ∨ c.ob = 3 ∨ c.ob = 4 := by unfold Conf.OkP at hk; omega
  unfold szT
  unfold grI at h
  rcases hob with ho | ho | ho
  · rw [if_pos ho] at h
    have hb : 1 ≤ c.bits ∧ c.bits ≤ 6 := by unfold Conf.OkP at hk; omega
    refine btb (decide_eq_true ho) (btf (decide_eq_false (by omega)) ?_)
    rcases (show c.bits = 1 ∨ c.bits = 2 ∨ c.bits = 3 ∨ c.bits = 4 ∨ c.bits = 5 ∨ c.bits = 6 by omega) with e | e | e | e | e | e <;> rw [e] at h ⊢ <;> exact h
  · rw [if_neg (by omega), if_pos ho] at h
    have hx : IxOk c := by
      unfold Conf.OkP at hk
      unfold IxOk
      omega
    have hw := ix_w hx
    have hL := (lvN_is hw).1
    have ou := fun (q : Int) (h0 : 0 ≤ q) (h4 : q ≤ 4) => ok_up_all (n := c.cap) (w := c.node) (h := q) ⟨hx.2.2.1, hx.2.2.2⟩ ⟨h0, h4⟩
    have st : ∀ q : Nat, q < 5 → IntKind.wrap .i64 (offN c.cap c.node q + f_up_0 c.cap c.node (q : Int)) = offN c.cap c.node (q + 1) := fun q hq => by
      have h1 := (off_bd hw q (by omega)).1
      have h2 := (off_bd hw q (by omega)).2.1
      have h3 := (up_bd hw hq).2
      rw [wI (by omega) (by omega)]
      rfl
    refine btf (decide_eq_false (by omega)) (btb (decide_eq_true ho) (btf (by rw [hw]; rfl) ?_))
    have s1 : IntKind.wrap .i64 (1 + f_up_0 c.cap c.node 0) = offN c.cap c.node 1 := st 0 (by omega)
    have s2 : IntKind.wrap .i64 (offN c.cap c.node 1 + f_up_0 c.cap c.node 1) = offN c.cap c.node 2 := st 1 (by omega)
    have s3 : IntKind.wrap .i64 (offN c.cap c.node 2 + f_up_0 c.cap c.node 2) = offN c.cap c.node 3 := st 2 (by omega)
    have s4 : IntKind.wrap .i64 (offN c.cap c.node 3 + f_up_0 c.cap c.node 3) = offN c.cap c.node 4 := st 3 (by omega)
    have s5 : IntKind.wrap .i64 (offN c.cap c.node 4 + f_up_0 c.cap c.node 4) = offN c.cap c.node 5 := st 4 (by omega)
    rw [s1, s2, s3, s4, s5]
    generalize lvN c.cap c.node = L at h hL
    unfold levIs at hL
    rw [hw, ou 0 (by omega) (by omega), ou 1 (by omega) (by omega), ou 2 (by omega) (by omega), ou 3 (by omega) (by omega), ou 4 (by omega) (by omega)] at hL
    refine band (ou 0 (by omega) (by omega)) (bdt (fun a => ?_) (fun a => band (ou 1 (by omega) (by omega)) (bdt (fun a1 => ?_) (fun a1 => band (ou 2 (by omega) (by omega)) (bdt (fun a2 => ?_) (fun a2 => band (ou 3 (by omega) (by omega)) (bdt (fun a3 => ?_) (fun a3 => band (ou 4 (by omega) (by omega)) (bdt (fun a4 => ?_) (fun a4 => ?_))))))))))
    · rw [a] at hL
      rw [Nat.eq_of_beq_eq_true (show Nat.beq L 1 = true from hL)] at h
      exact h
    · rw [a, a1] at hL
      rw [Nat.eq_of_beq_eq_true (show Nat.beq L 2 = true from hL)] at h
      exact h
    · rw [a, a1, a2] at hL
      rw [Nat.eq_of_beq_eq_true (show Nat.beq L 3 = true from hL)] at h
      exact h
    · rw [a, a1, a2, a3] at hL
      rw [Nat.eq_of_beq_eq_true (show Nat.beq L 4 = true from hL)] at h
      exact h
    · rw [a, a1, a2, a3, a4] at hL
      rw [Nat.eq_of_beq_eq_true (show Nat.beq L 5 = true from hL)] at h
      exact h
    · rw [a, a1, a2, a3, a4] at hL
      rw [Nat.eq_of_beq_eq_true (show Nat.beq L 5 = true from hL)] at h
      exact h
  · rw [if_neg (by omega), if_neg (by omega)] at h
    exact btf (decide_eq_false (by omega)) (btf (decide_eq_false (by omega)) h)
noncomputable def S_grP : Sum := (15, on1 rConf (fun c => onP c.OkP) (fun c => .int .i64 (grI c)))
theorem s_grP : SumOk Tryd.prog (gmap gs) S_grP := on1_sum fun c hp => acalls_eqM (q := fun _ => false) base (sums_cons s_width (sums_cons s_up sums_nil)) (n := 300) (fs := []) (by kernel_rfl) trivial fun K hK => (t_szT c K).trans (szT_ok (of_onP hp) hK)
open Classical in
noncomputable def szG (c : Conf) : Int := if c.OkP then grI c else 0
theorem t_siz (c : Conf) (K : AV → Bool) : runFM (cfg [S_check, S_grP]) 300 8 [] [c.av] K = br (!decide (errC c = 0)) (K (.tup [.int .i64 0, .int .i64 (errC c)])) (ba (onP c.OkP) (K (.tup [.int .i64 (grI c), .int .i64 0]))) := by kernel_rfl
noncomputable def S_sz : Sum := (8, on1 rConf (fun c => true) (fun c => .tup [.int .i64 (szG c), .int .i64 (errC c)]))
theorem errC_ok {c : Conf} (hk : c.OkP) : errC c = 0 := by unfold errC; rw [ok_true.2 hk]; rfl
theorem errC_no {c : Conf} (hk : ¬ c.OkP) : errC c = 40 := by unfold errC; rw [ok_false.2 hk]; rfl
theorem s_sz : SumOk Tryd.prog (gmap gs) S_sz := on1_sum fun c hp => acalls_eqM (q := fun _ => false) base (sums_cons s_check (sums_cons s_grP sums_nil)) (n := 300) (fs := []) (by kernel_rfl) trivial fun K hK => by
  refine (t_siz c K).trans ?_
  by_cases hk : c.OkP
  · rw [show szG c = grI c from if_pos hk, errC_ok hk] at hK
    exact btf (by rw [errC_ok hk]; rfl) (band (onP_true hk) hK)
  · rw [show szG c = 0 from if_neg hk] at hK
    exact btb (by rw [errC_no hk]; rfl) hK
end Go.Bas.BasAvK1
end
section
namespace Go.Bas.BasAvK2
open Go.ChangeShapes Go.WideShapes Go.ChangeAt Go.RowKit Go.Proofs Go.Bas Go.Bas.BasZBase
set_option linter.unusedVariables false
set_option linter.unusedSimpArgs false
set_option maxRecDepth 100000
set_option maxHeartbeats 4000000
noncomputable abbrev PP : Program := Tryd.prog
noncomputable abbrev vps : List Code := [sel [false] (fcode PP 4), sel [true, false] (fcode PP 4), sel [true, true, false] (fcode PP 4), sel [true, true, true, false] (fcode PP 4)]
noncomputable abbrev vD : Code := sel [true, true, true, true, false] (fcode PP 4)
noncomputable abbrev vL : Code := sel [true, true, true, true, true, false] (fcode PP 4)
def opsOf : Code → Array Oper
  | .region _ ops _ => ops
  | _ => #[]
theorem v_code : fcode PP 4 = seqs vps (.seq vD (.seq vL .ret)) := by kernel_rfl
theorem vD_is : vD = .region 6 (opsOf vD) false := by kernel_rfl
theorem vL_is : vL = .region 7 (opsOf vL) false := by kernel_rfl
theorem vD_ops : (opsOf vD).toList.map (fun o => (o.dst, o.op, o.guard)) = [(some 19, .makeFunc (.func 9) #[] #[.tmp 4, .tmp 5], none), (none, .defer ⟨.value (.tmp 19), #[], #[]⟩, none)] := by kernel_rfl
noncomputable abbrev kR : Code := sel [false] (fcode PP 9)
noncomputable abbrev kY : Code := sel [true, false] (fcode PP 9)
theorem k_code : fcode PP 9 = .seq kR (.cond (.tmp 3) kY .skip) := by kernel_rfl
theorem kR_is : kR = .region 0 (opsOf kR) false := by kernel_rfl
theorem kR_ops : (opsOf kR).toList.map (fun o => (o.dst, o.op, o.guard)) = [(some 2, .call ⟨.builtin .recover, #[], #[]⟩, none), (some 3, .binOp .neq 20 (.tmp 2) (.const .nilIface) 20, none)] := by kernel_rfl
theorem two_ops {ops : Array Oper} {d0 d1 : Option Tmp} {p0 p1 : Op} (h : ops.toList.map (fun o => (o.dst, o.op, o.guard)) = [(d0, p0, none), (d1, p1, none)]) :
    ∃ o0 o1, ops = #[o0, o1] ∧ o0.dst = d0 ∧ o0.op = p0 ∧ o0.guard = none ∧ o1.dst = d1 ∧ o1.op = p1 ∧ o1.guard = none := by
  obtain ⟨l⟩ := ops
  cases l with
  | nil => cases h
  | cons a l =>
    cases l with
    | nil => simp at h
    | cons b l =>
      cases l with
      | nil =>
        simp only [List.map_cons, List.map_nil, List.cons.injEq, Prod.mk.injEq, and_true] at h
        obtain ⟨⟨h1, h2, h3⟩, h4, h5, h6⟩ := h
        exact ⟨a, b, rfl, h1, h2, h3, h4, h5, h6⟩
      | cons c l => simp at h
section
variable {w : World} {B oC oL : Nat → Prop} {ω : Nat → Option Nat} {l : List Sum}
/-- What is deferred. -/
def dfr (b4 b5 : Nat) : Deferred := { target := .fn (.func 9) #[.pointer (some ⟨b4, 0, none⟩), .pointer (some ⟨b5, 0, none⟩)], args := #[] }
theorem sim_nodefer {C : Cfg} {st : St} {a : Act} (S : Sim C w B oC oL ω st a) (hd : st.ds = []) : a.defers = [] := by
  have := S.dn
  rw [hd] at this
  cases hx : a.defers with
  | nil => rfl
  | cons x xs => rw [hx] at this; exact this.elim
/-- The closure is deferred. -/
theorem defer_ok {SD : St} {a : Act} {i4 i5 : Nat} {Q : Exit → Act → World → Prop} (S : Sim (cfg l) w B oC oL ω SD a) (hd : SD.ds = []) (h4 : lget SD.tmps 4 = .ptr i4 0) (h5 : lget SD.tmps 5 = .ptr i5 0)
    (h19 : setT SD.tmps (some 19) .any = SD.tmps) (hlen : SD.tmps.length = 25)
    (hQ : ∀ b4 b5 a', ω i4 = some b4 → ω i5 = some b5 → i4 < SD.m.nx → i5 < SD.m.nx → Sim (cfg l) w B oC oL ω SD a' → Q .normal (withD a' [dfr b4 b5]) w) :
    vD.wpIn (Fr none) 0 PP Q a w := by
  rw [vD_is]
  refine wpIn_region ?_
  obtain ⟨o0, o1, ho, d0, p0, g0, d1, p1, g1⟩ := two_ops vD_ops
  rw [ho]
  have e4 := S.ev (.tmp 4)
  have e5 := S.ev (.tmp 5)
  simp only [evO] at e4 e5
  rw [h4] at e4
  rw [h5] at e5
  generalize hv4 : a.eval (.tmp 4) = v4 at e4
  generalize hv5 : a.eval (.tmp 5) = v5 at e5
  cases e4 with
  | ptr _ _ _ b4 l4 w4 =>
  cases e5 with
  | ptr _ _ _ b5 l5 w5 =>
  have hdf : a.defers = [] := sim_nodefer S hd
  have S1 : Sim (cfg l) w B oC oL ω SD (a.put (some 19) (.func (.func 9) #[] #[.pointer (some ⟨b4, 0, none⟩), .pointer (some ⟨b5, 0, none⟩)])) := by
    have := S.put (m' := SD.m) (dst := some 19) (v := .any) (u := .func (.func 9) #[] #[.pointer (some ⟨b4, 0, none⟩), .pointer (some ⟨b5, 0, none⟩)]) ExtR.refl S.ms (.any _ _)
    rw [h19] at this
    exact this
  have hsz : a.tmps.size = 25 := S.tm.1.symm.trans hlen
  have ev19 : ∀ u, (a.put (some 19) u).eval (.tmp 19) = u := fun u => by
    simp [Act.eval, Act.put, hsz]
  show wpOpsIn (Fr none) 0 PP #[o0, o1] Q [0, 1] a w
  rw [wpOpsIn_cons]
  unfold wpOpIn
  simp only [show (#[o0, o1] : Array Oper)[0]? = some o0 from rfl]
  rw [if_pos (by simp [Region.wanted, g0])]
  refine ⟨about_fr _ _ _ _ _, ?_⟩
  show o0.uponIn (Fr none) 0 PP a _ Q ((execOp a.eval o0).run PP w)
  have r0 : (execOp a.eval o0).run PP w = .ok (.value (.func (.func 9) #[] #[.pointer (some ⟨b4, 0, none⟩), .pointer (some ⟨b5, 0, none⟩)])) w := by
    simp [execOp, p0, Instr.makeFunc, hv4, hv5, Sem.run, Result.andThen]
  rw [r0, Oper.uponIn_value, d0, wpOpsIn_cons]
  unfold wpOpIn
  simp only [show (#[o0, o1] : Array Oper)[1]? = some o1 from rfl]
  rw [if_pos (by simp [Region.wanted, g1])]
  refine ⟨about_fr _ _ _ _ _, ?_⟩
  show o1.uponIn (Fr none) 0 PP _ _ Q ((execOp (a.put (some 19) _).eval o1).run PP w)
  have r1 : ∀ u, (execOp (a.put (some 19) (.func (.func 9) #[] u)).eval o1).run PP w = .ok (.defer { target := .fn (.func 9) u, args := #[] }) w := fun u => by
    simp [execOp, p1, resolve, ev19, Deferred.ofValue, Sem.run, Result.andThen]
  rw [r1, Oper.uponIn_defer, d1, put_defers, hdf]
  exact hQ b4 b5 _ w4 w5 l4 l5 S1
theorem k_res {fn : Func} (h : fn.results.toList.length = 0) (tmps : Array Value) (w : World) : (results fn tmps).run PP w = .ok (.tuple #[]) w := by
  have : fn.results = #[] := Array.eq_empty_of_size_eq_zero (by simpa using h)
  rw [results_eq, this]
  simp [Sem.run, Result.andThen]
/-- The closure, where nothing gave up. -/
theorem k_idle (p : Array Value) (hp : p.size = 2) (w : World) : CallsDIn (Fr none) 0 PP 9 p .returning w fun e u' w' => e = .returned (.tuple #[]) ∧ u' = .returning ∧ w' = w := by
  obtain ⟨fn, hfn, hbd, hnt, hrs⟩ := fn_is (P := PP) (f := 9) (n := 4) (r := 0) (by kernel_rfl)
  refine callsDIn_of_wpSIn hfn hbd trivial fun c₀ cs hu => ?_
  rw [k_code, hnt, hp]
  apply wpSIn_seq
  rw [kR_is]
  apply wpSIn_region
  obtain ⟨o0, o1, ho, d0, p0, g0, d1, p1, g1⟩ := two_ops kR_ops
  rw [ho]
  show wpOpsSIn (Fr none) 0 PP #[o0, o1] _ [0, 1] _ _ _
  have e0 : (#[o0, o1] : Array Oper)[0]? = some o0 := rfl
  have e1 : (#[o0, o1] : Array Oper)[1]? = some o1 := rfl
  have hrec : recoverD (c₀ :: cs) = none := by simp [recoverD, hu]
  have hw0 : ∀ y, Region.wanted o0 y = true := fun y => by simp [Region.wanted, g0]
  have hw1 : ∀ y, Region.wanted o1 y = true := fun y => by simp [Region.wanted, g1]
  have r0 : ∀ ev : Operand → Value, (execOp ev o0).run PP w = .ok .recover w := fun ev => by
    simp [execOp, p0, go_sem]
  have r1 : ∀ ev : Operand → Value, ev (.tmp 2) = .nilIface → ev (.const .nilIface) = .nilIface → (execOp ev o1).run PP w = .ok (.value (.bool false)) w := fun ev h2 hc => by
    simp [execOp, p1, h2, hc, go_sem]
  simp only [wpOpsSIn, e0, e1, hw0, hw1, if_true, r0, hrec, d0, d1]
  refine ⟨about_fr _ _ _ _ _, about_fr _ _ _ _ _, ?_⟩
  rw [r1 _ (by simp [Act.eval, Act.put, hp]) rfl]
  simp only
  show (Code.cond (.tmp 3) kY .skip).wpSIn (Fr none) 0 PP _ _ _ _
  refine wpSIn_cond (t := false) (by simp [Act.eval, Act.put, hp]) ?_
  simp only [Bool.false_eq_true, if_false]
  refine wpSIn_of_wpIn rfl (wpIn_skip ?_)
  refine ⟨rfl, .returning, ?_, .tuple #[], k_res hrs _ _, rfl, rfl, rfl⟩
  rw [← hu]
/-- The closure, where something gave up. -/
theorem k_pan (hl : (cfg l).Ok) {N i4 i5 b4 b5 : Nat} {pv : Value} {t : TypeId} {x : Value} {ids : List Nat} {m m' : Mem} (hx : pv = .iface t x) (M : MemSim (cfg l) w B oC oL ω m) (l4 : i4 < m.nx) (l5 : i5 < m.nx) (w4 : ω i4 = some b4) (w5 : ω i5 = some b5)
    (h3 : ∀ k : Ex → St → Bool, run (cfg l) N none none kY ⟨[.ptr i4 0, .ptr i5 0, .any, .any], [], m⟩ (fun e s => k e (keepSN [] ids s)) false = k .normal ⟨[.any, .any, .any, .any], [], m'⟩) :
    CallsDIn (Fr none) 0 PP 9 #[.pointer (some ⟨b4, 0, none⟩), .pointer (some ⟨b5, 0, none⟩)] (.panicking [{ v := pv, recovered := false }]) w fun e u' w' => e = .returned (.tuple #[]) ∧ u' = .panicking [{ v := pv, recovered := true }] ∧
      ∃ oC' oL' ω', ExtR w oC oL ω m.nx w' oC' oL' ω' m'.nx ∧ MemSim (cfg l) w' B oC' oL' ω' m' := by
  obtain ⟨fn, hfn, hbd, hnt, hrs⟩ := fn_is (P := PP) (f := 9) (n := 4) (r := 0) (by kernel_rfl)
  refine callsDIn_of_wpSIn hfn hbd trivial fun c₀ cs hu => ?_
  rw [k_code, hnt]
  apply wpSIn_seq
  rw [kR_is]
  apply wpSIn_region
  obtain ⟨o0, o1, ho, d0, p0, g0, d1, p1, g1⟩ := two_ops kR_ops
  rw [ho]
  show wpOpsSIn (Fr none) 0 PP #[o0, o1] _ [0, 1] _ _ _
  have e0 : (#[o0, o1] : Array Oper)[0]? = some o0 := rfl
  have e1 : (#[o0, o1] : Array Oper)[1]? = some o1 := rfl
  have hrec : recoverD (c₀ :: cs) = some (pv, { c₀ with mode := .panicking [{ v := pv, recovered := true }] } :: cs) := by simp [recoverD, hu]
  have hw0 : ∀ y, Region.wanted o0 y = true := fun y => by simp [Region.wanted, g0]
  have hw1 : ∀ y, Region.wanted o1 y = true := fun y => by simp [Region.wanted, g1]
  have r0 : ∀ ev : Operand → Value, (execOp ev o0).run PP w = .ok .recover w := fun ev => by
    simp [execOp, p0, go_sem]
  have r1 : ∀ ev : Operand → Value, ev (.tmp 2) = .iface t x → ev (.const .nilIface) = .nilIface → (execOp ev o1).run PP w = .ok (.value (.bool true)) w := fun ev h2 hc => by
    simp [execOp, p1, h2, hc, go_sem]
  simp only [wpOpsSIn, e0, e1, hw0, hw1, if_true, r0, hrec, d0, d1]
  refine ⟨about_fr _ _ _ _ _, about_fr _ _ _ _ _, ?_⟩
  rw [r1 _ (by simp [Act.eval, Act.put, hx]) rfl]
  simp only
  show (Code.cond (.tmp 3) kY .skip).wpSIn (Fr none) 0 PP _ _ _ _
  refine wpSIn_cond (t := true) (by simp [Act.eval, Act.put]) ?_
  simp only [if_true]
  refine wpSIn_of_wpIn rfl ?_
  generalize hA : ((Act.mk _ _).put _ _ : Act) = A
  have S : Sim (cfg l) w B oC oL ω ⟨[.ptr i4 0, .ptr i5 0, .any, .any], [], m⟩ A := by
    subst hA
    refine ⟨⟨rfl, fun i hi => ?_⟩, trivial, M⟩
    match i, hi with
    | 0, _ => exact .ptr _ _ _ _ l4 w4
    | 1, _ => exact .ptr _ _ _ _ l5 w5
    | 2, _ => exact .any _ _
    | 3, _ => exact .any _ _
  classical
  have ht := (h3 (fun e s => decide (e = .normal ∧ s = ⟨[.any, .any, .any, .any], [], m'⟩))).trans (decide_eq_true ⟨rfl, rfl⟩)
  refine (run_sound hl N).1 none kY _ _ w B oC oL ω A _ none ht S trivial (fun e s a' w' oC' oL' ω' out S' E' hk' ho' => ?_)
  obtain ⟨rfl, hs⟩ := of_decide_eq_true hk'
  have ho' : out = .normal := ho'
  subst ho'
  have hl := LessS.keepSN (C := (cfg l)) [] ids s
  have S2 := hl.2 _ _ _ _ _ _ S'
  rw [hs] at S2
  have hnx : m'.nx = s.m.nx := by have := hl.1; rw [hs] at this; exact this
  exact ⟨sim_nodefer S2 rfl, _, rfl, .tuple #[], k_res hrs _ _, rfl, rfl, oC', oL', ω', hnx ▸ E', S2.ms⟩
theorem v_res {fn : Func} (hfn : PP.funcs[4]? = some fn) : fn.results.toList = [.cell 4 26, .cell 5 27] := by
  have : ((PP.funcs[4]?).map fun fn => fn.results.toList) = some [.cell 4 26, .cell 5 27] := by kernel_rfl
  rw [hfn] at this
  exact Option.some.inj this
theorem inv_ok (hl : (cfg l).Ok) (b4 b5 : Nat) (w : World) : (invoke (.fn (.func 9) #[.pointer (some ⟨b4, 0, none⟩), .pointer (some ⟨b5, 0, none⟩)]) #[]).run PP w = .ok (.enter 9 #[.pointer (some ⟨b4, 0, none⟩), .pointer (some ⟨b5, 0, none⟩)]) w := by
  obtain ⟨fn, hfn, hbd, hnt, hrs⟩ := fn_is (P := PP) (f := 9) (n := 4) (r := 0) (by kernel_rfl)
  exact call_in hl hfn hbd _ _

theorem region_wpDC {C : Cfg} {B : Nat → Prop} {Q : Exit → Act → World → Prop} {call : CallF Bool} (hcall : CallOk C call) {id : Nat} {ops : Array Oper} {st : St} {a : Act} {w : World} {oC oL : Nat → Prop} {ω : Nat → Option Nat} {k : St → Bool} {kp : AV → St → Bool} {ds : List Deferred}
    (hk : opsK C call ops ops.toList st k kp false = true) (S : Sim C w B oC oL ω st a)
    (hQ : ∀ st' a' w' oC' oL' ω', Sim C w' B oC' oL' ω' st' a' → ExtR w oC oL ω st.m.nx w' oC' oL' ω' st'.m.nx → k st' = true → Q .normal (withD a' ds) w')
    (hP : ∀ v u st' a' w' oC' oL' ω', Sim C w' B oC' oL' ω' st' a' → ExtR w oC oL ω st.m.nx w' oC' oL' ω' st'.m.nx → kp v st' = true → Rep w' (Or2 B oL') oC' ω' st'.m.nx v u → Q (.panic [{ v := u, recovered := false }]) (withD a' ds) w') :
    (Code.region id ops false).wpIn (Fr none) 0 C.P Q (withD a ds) w := by
  refine wpIn_region ?_
  have := ops_soundD (ro := none) (Q := Q) (ops := ops) (ds := ds) hcall (mapOk C) ops.toList 0 rfl st a w oC oL ω hk S hQ hP
  rw [List.range_eq_range']
  simpa using this
/-- What is answered at the end. -/
theorem fin_ok {C : Cfg} {fn : Func} {w w3 : World} {bad oC oL : Nat → Prop} {ω : Nat → Option Nat} {st : St} {a : Act} {rs : List ResultVar} {k : AV → Bool} (hr : fn.results.toList = rs) (bl : ∀ b, bad b → b < w.heap.size) (S : Sim C w3 bad oC oL ω st a)
    (E : ExtR w (fun _ => False) (fun _ => False) (fun _ => none) 0 w3 oC oL ω st.m.nx) (T4 : resKs C st rs (fun vs => freezeK st.m.heap 6 (tupOf vs) k false) false = true) :
    ∃ u, (results fn a.tmps).run C.P w3 = .ok u w3 ∧ ∃ v', k v' = true ∧ Still w w3 ∧ Rep w3 bad (fun _ => False) (fun _ => none) 0 v' u := by
  obtain ⟨V', u, g1, g2, g3⟩ := resK_sound (fn := fn) S (k := fun v => freezeK st.m.heap 6 v k false) (by unfold resK; rw [hr]; exact T4)
  have hown : ∀ b, oC b → ¬ Or2 bad oL b := fun b ho hbad => by
    rcases hbad with hbad | hbad
    · rcases E.owns b (.inl ho) with h | h
      · exact h.elim (fun h => h) (fun h => h)
      · have := bl b hbad; omega
    · exact (S.ms.lp.dis b hbad).2 ho
  obtain ⟨v', h3, h4⟩ := freezeK_sound S.ms.hp hown 6 V' k g3
  refine ⟨u, g1, v', h3, ⟨E.os, E.tape, E.output, E.size, fun b hb _ => E.old b hb (fun h => h.elim (fun h => h) (fun h => h)), fun _ h => .inl h, Nat.le_refl _, fun _ _ => rfl, E.row⟩, ?_⟩
  exact (h4 u g2).other fun b _ h2 => ⟨fun h => h, fun h => h2 (.inl h)⟩
theorem start {w : World} {bad : Nat → Prop} {us : Array Value} {args : List AV} {n : Nat} (hg : GOk (gmap gs) w) (gb : ∀ g cells, gmap gs g = some cells → ¬ bad g) (bl : ∀ b, bad b → b < w.heap.size) (hr : RepL w bad (fun _ => False) (fun _ => none) 0 args us) :
    Sim (cfg l) w bad (fun _ => False) (fun _ => False) (fun _ => none) ⟨padL args n, [], ⟨[], 0, []⟩⟩ { tmps := us ++ Array.replicate (n - us.size) undef, defers := [] } :=
  ⟨(pad_rep hr n).other fun b h1 h2 => ⟨h1, fun h => h.elim h2 (fun h => h)⟩, trivial, ⟨⟨fun id hb h => (by cases h), fun i j b h => (by cases h), fun b (h : False) => h.elim⟩, ⟨fun id e h => (by cases h), fun i j l h => (by cases h), fun l (h : False) => h.elim⟩, hg, fun g cells h => ⟨fun h => h, fun h => h, gb g cells h⟩, bl⟩⟩
/-- A view that is one. -/
theorem view_norm (hl : (cfg l).Ok) {N : Nat} {A : List AV} {SD SE : St} {k : AV → Bool} {ids ids2 : List Nat} {i4 i5 : Nat} {call : CallF Bool} (hcall : CallOk (cfg l) call) (T1 : runs (cfg l) N vps ⟨padL A 25, [], ⟨[], 0, []⟩⟩ (fun s => onP (keepSN [1, 2, 4, 5] ids s = SD)) false = true) (hd : SD.ds = []) (h4 : lget SD.tmps 4 = .ptr i4 0) (h5 : lget SD.tmps 5 = .ptr i5 0)
    (h19 : setT SD.tmps (some 19) .any = SD.tmps) (hlen : SD.tmps.length = 25)
    (T2 : opsK (cfg l) call (opsOf vL) (opsOf vL).toList SD (fun s => onP (keepSN [4, 5] ids2 s = SE)) (fun _ _ => false) false = true)
    (T4 : resKs (cfg l) SE [.cell 4 26, .cell 5 27] (fun vs => freezeK SE.m.heap 6 (tupOf vs) k false) false = true) : ACalls PP (gmap gs) 4 A (fun v => k v = true) := by
  obtain ⟨fn, hfn, hbd, hnt, hrs⟩ := fn_is (P := PP) (f := 4) (n := 25) (r := 2) (by kernel_rfl)
  have hr := v_res hfn
  intro w us bad hg gb bl hra
  refine (callsIn_calls (ro := none) (n := 0)).1 (callsIn_of_wp_defers hfn hbd trivial ?_ rfl)
  rw [v_code, hnt]
  refine runs_wp hl vps _ _ w _ _ _ T1 (start (l := l) hg gb bl hra) (fun s a1 w1 oC1 oL1 ω1 hs S1 E1 => ?_)
  have hs := of_onP hs
  have l1 := LessS.keepSN (C := cfg l) [1, 2, 4, 5] ids s
  have S1' := l1.2 _ _ _ _ _ _ S1
  have n1 := l1.1
  rw [hs] at S1' n1
  refine wpIn_seq ?_
  refine defer_ok S1' hd h4 h5 h19 hlen (fun b4 b5 a2 w4 w5 l4 l5 S2 => ?_)
  show (Code.seq vL .ret).wpIn (Fr none) 0 PP _ (withD a2 [dfr b4 b5]) w1
  refine wpIn_seq ?_
  rw [vL_is]
  refine region_wpDC hcall T2 S2 (fun s3 a3 w3 oC3 oL3 ω3 S3 E3 h3 => ?_) (fun v u s3 a3 w3 oC3 oL3 ω3 S3 E3 h3 _ => by cases h3)
  have hs3 := of_onP h3
  have l3 := LessS.keepSN (C := cfg l) [4, 5] ids2 s3
  have S3' := l3.2 _ _ _ _ _ _ S3
  have n3 := l3.1
  rw [hs3] at S3' n3
  show Code.ret.wpIn (Fr none) 0 PP _ (withD a3 [dfr b4 b5]) w3
  refine wpIn_ret ?_
  show LeavesIn (Fr none) 0 PP fn a3.tmps _ [dfr b4 b5] .returning w3
  refine leavesIn_cons (by simp) (fun h => by cases h) (inv_ok hl b4 b5 w3) (fun _ _ => trivial) ?_
  refine (k_idle _ rfl w3).mono ?_
  rintro e u' w' ⟨rfl, rfl, rfl⟩
  show LeavesIn (Fr none) 0 PP fn a3.tmps _ [] .returning _
  obtain ⟨u, g1, v', h5', h6, h7⟩ := fin_ok (fn := fn) hr bl S3' ((n1 ▸ E1).trans (n3 ▸ E3)) T4
  exact ⟨u, g1, v', u, rfl, h5', h6, h7⟩
/-- A view that gives up. -/
theorem view_pan (hl : (cfg l).Ok) {N : Nat} {A : List AV} {SD SE : St} {k : AV → Bool} {ids ids2 ids3 : List Nat} {i4 i5 : Nat} {t : TypeId} {x : AV} {M' : Mem} {call : CallF Bool} (hcall : CallOk (cfg l) call) (T1 : runs (cfg l) N vps ⟨padL A 25, [], ⟨[], 0, []⟩⟩ (fun s => onP (keepSN [1, 2, 4, 5] ids s = SD)) false = true) (hd : SD.ds = []) (h4 : lget SD.tmps 4 = .ptr i4 0) (h5 : lget SD.tmps 5 = .ptr i5 0)
    (h19 : setT SD.tmps (some 19) .any = SD.tmps) (hlen : SD.tmps.length = 25)
    (T2 : opsK (cfg l) call (opsOf vL) (opsOf vL).toList SD (fun _ => false) (fun v s => onP (v = .iface t x ∧ keepSN [4, 5] ids2 s = SE)) false = true) (hds : SE.ds = [])
    (t3 : ∀ k : Ex → St → Bool, run (cfg l) N none none kY ⟨[.ptr i4 0, .ptr i5 0, .any, .any], [], SE.m⟩ (fun e s => k e (keepSN [] ids3 s)) false = k .normal ⟨[.any, .any, .any, .any], [], M'⟩)
    (T4 : resKs (cfg l) ⟨SE.tmps, [], M'⟩ [.cell 4 26, .cell 5 27] (fun vs => freezeK M'.heap 6 (tupOf vs) k false) false = true) : ACalls PP (gmap gs) 4 A (fun v => k v = true) := by
  obtain ⟨fn, hfn, hbd, hnt, hrs⟩ := fn_is (P := PP) (f := 4) (n := 25) (r := 2) (by kernel_rfl)
  have hr := v_res hfn
  intro w us bad hg gb bl hra
  refine (callsIn_calls (ro := none) (n := 0)).1 (callsIn_of_wp_defers hfn hbd trivial ?_ rfl)
  rw [v_code, hnt]
  refine runs_wp hl vps _ _ w _ _ _ T1 (start (l := l) hg gb bl hra) (fun s a1 w1 oC1 oL1 ω1 hs S1 E1 => ?_)
  have hs := of_onP hs
  have l1 := LessS.keepSN (C := cfg l) [1, 2, 4, 5] ids s
  have S1' := l1.2 _ _ _ _ _ _ S1
  have n1 := l1.1
  rw [hs] at S1' n1
  refine wpIn_seq ?_
  refine defer_ok S1' hd h4 h5 h19 hlen (fun b4 b5 a2 w4 w5 l4 l5 S2 => ?_)
  show (Code.seq vL .ret).wpIn (Fr none) 0 PP _ (withD a2 [dfr b4 b5]) w1
  refine wpIn_seq ?_
  rw [vL_is]
  refine region_wpDC hcall T2 S2 (fun s3 a3 w3 oC3 oL3 ω3 S3 E3 h3 => by cases h3) (fun v u s3 a3 w3 oC3 oL3 ω3 S3 E3 h3 hv => ?_)
  obtain ⟨hv0, hs3⟩ := of_onP h3
  have l3 := LessS.keepSN (C := cfg l) [4, 5] ids2 s3
  have S3' := l3.2 _ _ _ _ _ _ S3
  have n3 := l3.1
  rw [hs3] at S3' n3
  rw [hv0] at hv
  obtain ⟨u0, hu0⟩ : ∃ u0, u = .iface t u0 := by
    cases hv with
    | iface _ _ _ u0 _ => exact ⟨u0, rfl⟩
  show LeavesIn (Fr none) 0 PP fn a3.tmps _ [dfr b4 b5] (.panicking [{ v := u, recovered := false }]) w3
  have om : ∀ i b, i < SD.m.nx → ω1 i = some b → i < SE.m.nx ∧ ω3 i = some b := fun i b hi hb => ⟨by have := E3.nxle; omega, (E3.om i hi).trans hb⟩
  refine leavesIn_cons (by simp) (fun h => by cases h) (inv_ok hl b4 b5 w3) (fun _ _ => trivial) ?_
  refine (k_pan hl hu0 S3'.ms (om i4 b4 l4 w4).1 (om i5 b5 l5 w5).1 (om i4 b4 l4 w4).2 (om i5 b5 l5 w5).2 t3).mono ?_
  rintro e u' w' ⟨rfl, rfl, oC4, oL4, ω4, E4, M4⟩
  show LeavesIn (Fr none) 0 PP fn a3.tmps _ [] .returning _
  have S4 : Sim (cfg l) w' bad oC4 oL4 ω4 ⟨SE.tmps, [], M'⟩ { tmps := a3.tmps, defers := [] } := ⟨S3'.tm.extR E4, trivial, M4⟩
  obtain ⟨u, g1, v', h5', h6, h7⟩ := fin_ok (fn := fn) hr bl S4 (((n1 ▸ E1).trans (n3 ▸ E3)).trans E4) T4
  exact ⟨u, g1, v', u, rfl, h5', h6, h7⟩
end
end Go.Bas.BasAvK2
end
section
namespace Go.Bas.BasAvJ1
open Go.RowKit Go.Proofs
open Go.Bas.BasZBase Go.Bas.BasAvR1 Go.Bas.BasAvR2 Go.Bas.BasAvR3 Go.Bas.BasAvL Go.Bas.BasAvP1 Go.Bas.BasAvP2 Go.Bas.BasAvP4 Go.Bas.BasAvA Go.Bas.BasZRank Go.Bas.BasZLev Go.Bas.BasAvI0 Go.Bas.BasAvI6
set_option maxRecDepth 100000
set_option maxHeartbeats 4000000
set_option linter.unusedVariables false
set_option linter.unusedSimpArgs false
noncomputable def levL (n w : Int) : List AV := (List.range (BasAvI0.lvN n w)).map fun (i : Nat) => AV.int .i64 (f_up_0 n w (i : Int))
/-- An index's levels, asv many asv there are. -/
noncomputable def S_lv : Sum := (23, on2 (rI .i64) (rI .i64) (fun n w => levIs n w (BasAvI0.lvN n w)) (fun n w => .tup [.lst (levL n w) (BasAvI0.lvN n w), .int .i64 0]))
theorem s_lv : SumOk Tryd.prog (gmap gs) S_lv := on2_sum fun n w hp => acalls_lev hp
theorem sumsJ : ∀ s ∈ [S_last, S_count, S_lv], SumOk Tryd.prog (gmap gs) s := sums_cons s_last (sums_cons s_count (sums_cons s_lv sums_nil))
noncomputable abbrev cJ : Cfg := cfg [S_last, S_count, S_lv]
theorem hCJ : cJ.Ok := cfg_ok base sumsJ
noncomputable abbrev codeJ : Code := fcode Tryd.prog 57
noncomputable abbrev j4 : Code := loopAt codeJ [1, 0]
/-- What stands still in the loop over a level. -/
structure JL where
  n : Int
  below : Int
  at_ : Int
  h : Int
  many : Int
  size : Int
  vs : List AV
  lv : Nat
noncomputable def hJ4 (c : Conf) (us : List AV) (m : Nat) (r : Option (List AV × Nat)) (j : JL) (i : Int) (nx : Nat) : St := ⟨[.any, .ptr 0 0, rwV r, .any, .int .i64 j.n, .any, .any, .any, .any, .int .i64 j.below, .int .i64 j.at_, .int .i64 j.h, .int .i64 j.size, .int .i64 j.many, .any, .any, .any, .any, .any, .any, .any, .any, .any, .any, .any, .any, .any, .any, .any, .any, .any, .any, .any, .any, .any, .any, .any, .any, .any, .any, .any, .any, .any, .any, .any, .any, .any, .any, .any, .any, .any, .any, .any, .any, .any, .any, .any, .any, .any, .any, .any, .any, .any, .any, .any, .any, .any, .any, .any, .any, .any, .any, .any, .any, .any, .any, .any, .any, .any, .any, .any, .any, .any, .any, .any, .any, .any, .any, .any, .any, .any, .any, .any, .any, .any, .any, .any, .any, .any, .any, .any, .any, .any, .any, .any, .any, .any, .any, .lst j.vs j.lv, .int .i64 (Int.ofNat j.lv), .int .i64 j.h, .any, .any, .any, .any, .any, .any, .any, .any, .any, .any, .any, .any, .any, .any, .int .i64 j.size, .int .i64 i, .any, .any, .any, .any, .any, .any, .any, .any, .any, .any, .any, .any, .any, .any, .any, .any, .any, .any, .any, .any, .any, .any, .any, .any, .any, .any, .any, .any, .any, .any, .any, .any, .any, .any, .any, .any, .any, .any, .any, .any, .any, .any, .any, .any, .any, .any, .any, .any, .any, .any, .any, .any, .any, .any, .any, .any, .any, .any, .any, .any, .any], [], ⟨rwH r ++ [(0, ⟨c.cells ++ [.lst us m], 55, true⟩)], nx, []⟩⟩
theorem t_j4 (c : Conf) (us : List AV) (m : Nat) (r : Option (List AV × Nat)) (j : JL) (i : Int) (K : Ex → St → Bool) : runM cJ 300 j4 [] (hJ4 c us m r j i 2) (fun e s => K e (keepSH [1, 2, 4, 9, 10, 11, 12, 13, 108, 109, 110, 125, 126] [0, 1] s)) =
    br (decide (i < j.size)) (ld4 us m (IntKind.wrap .i64 (j.at_ + i)) (br (decide (i ≥ j.many))
      (br (decide (gA us (IntKind.wrap .i64 (j.at_ + i)) = 0)) (br (decide (gB us (IntKind.wrap .i64 (j.at_ + i)) = 0)) (br (!decide (gC us (IntKind.wrap .i64 (j.at_ + i)) = 0)) (K pan (hJ4 c us m r j i 4)) (K .normal (hJ4 c us m r j (IntKind.wrap .i64 (i + 1)) 4))) (K pan (hJ4 c us m r j i 4))) (K pan (hJ4 c us m r j i 4)))
      (br (decide (j.h > 0)) (ba (ok_last j.n c.node j.h i) (ldD us m (IntKind.wrap .i64 (j.below + f_last_0 j.n c.node j.h i)) 1 fun a =>
        br (decide (gA us (IntKind.wrap .i64 (j.at_ + i)) = a)) (br (decide (gB us (IntKind.wrap .i64 (j.at_ + i)) = 0)) (br (!decide (gC us (IntKind.wrap .i64 (j.at_ + i)) = 0)) (K pan (hJ4 c us m r j i 3)) (K .normal (hJ4 c us m r j (IntKind.wrap .i64 (i + 1)) 3))) (K pan (hJ4 c us m r j i 3))) (K pan (hJ4 c us m r j i 3))))
        (K .normal (hJ4 c us m r j (IntKind.wrap .i64 (i + 1)) 3))))) (K (.exit 4) (hJ4 c us m r j i 2)) := by
  cases r with
  | none => kernel_rfl
  | some p => obtain ⟨a, b⟩ := p; kernel_rfl
end Go.Bas.BasAvJ1
end
section
namespace Go.Bas.BasAvJ2
open Go.RowKit Go.Proofs
open Go.Bas.BasZBase Go.Bas.BasAvR1 Go.Bas.BasAvR2 Go.Bas.BasAvR3 Go.Bas.BasAvL Go.Bas.BasAvF Go.Bas.BasAvW Go.Bas.BasAvP1 Go.Bas.BasAvP2 Go.Bas.BasAvP4 Go.Bas.BasAvA Go.Bas.BasZRank Go.Bas.BasZRank3 Go.Bas.BasZLev Go.Bas.BasZItems Go.Bas.BasAvI0 Go.Bas.BasAvIE Go.Bas.BasAvIE2 Go.Bas.BasAvI1 Go.Bas.BasAvG Go.Bas.BasAvI2 Go.Bas.BasAvI3 Go.Bas.BasAvI4 Go.Bas.BasAvI5 Go.Bas.BasAvI6 Go.Bas.BasAvJ1
set_option maxRecDepth 100000
set_option maxHeartbeats 4000000
set_option linter.unusedVariables false
set_option linter.unusedSimpArgs false
noncomputable abbrev j0 : Code := loopAt codeJ [0]
noncomputable abbrev j2 : Code := loopAt codeJ [1]
theorem lj4 : loopsOf j4 = [] := by kernel_rfl
theorem lj0 : loopsOf j0 = [] := by kernel_rfl
theorem lj2 : loopsOf j2 = [.loop j4] := by kernel_rfl
/-! The rows. -/
noncomputable def hJ0 (c : Conf) (us : List AV) (m : Nat) (n : Int) (vs : List AV) (q : Nat) (r : Option (List AV × Nat)) (i : Int) (nx : Nat) : St := ⟨[.any, .ptr 0 0, rwV r, .any, .int .i64 n, .any, .any, .any, .any, .any, .any, .any, .any, .any, .any, .any, .any, .any, .any, .any, .any, .any, .any, .any, .any, .any, .any, .any, .any, .any, .any, .any, .any, .any, .any, .any, .any, .any, .any, .any, .any, .any, .any, .any, .any, .any, .any, .any, .any, .any, .any, .lst vs q, .int .i64 (Int.ofNat q), .int .i64 i, .any, .any, .any, .any, .any, .any, .any, .any, .any, .any, .any, .any, .any, .any, .any, .any, .any, .any, .any, .any, .any, .any, .any, .any, .any, .any, .any, .any, .any, .any, .any, .any, .any, .any, .any, .any, .any, .any, .any, .any, .any, .any, .any, .any, .any, .any, .any, .any, .any, .any, .any, .any, .any, .any, .any, .any, .any, .any, .any, .any, .any, .any, .any, .any, .any, .any, .any, .any, .any, .any, .any, .any, .any, .any, .any, .any, .any, .any, .any, .any, .any, .any, .any, .any, .any, .any, .any, .any, .any, .any, .any, .any, .any, .any, .any, .any, .any, .any, .any, .any, .any, .any, .any, .any, .any, .any, .any, .any, .any, .any, .any, .any, .any, .any, .any, .any, .any, .any, .any, .any, .any, .any, .any, .any, .any, .any, .any, .any, .any, .any, .any, .any, .any, .any], [], ⟨rwH r ++ [(0, ⟨c.cells ++ [.lst us m], 55, true⟩)], nx, []⟩⟩
noncomputable def hJ0a (c : Conf) (us : List AV) (m : Nat) (n : Int) (vs : List AV) (q : Nat) (cs : List AV) (b : Nat) (i : Int) : St := ⟨[.any, .ptr 0 0, .sl 4 0 b 2 true, .any, .int .i64 n, .any, .any, .any, .any, .any, .any, .any, .any, .any, .any, .any, .any, .any, .any, .any, .any, .any, .any, .any, .any, .any, .any, .any, .any, .any, .any, .any, .any, .any, .any, .any, .any, .any, .any, .any, .any, .any, .any, .any, .any, .any, .any, .any, .any, .any, .any, .lst vs q, .int .i64 (Int.ofNat q), .int .i64 i, .any, .any, .any, .any, .any, .any, .any, .any, .any, .any, .any, .any, .any, .any, .any, .any, .any, .any, .any, .any, .any, .any, .any, .any, .any, .any, .any, .any, .any, .any, .any, .any, .any, .any, .any, .any, .any, .any, .any, .any, .any, .any, .any, .any, .any, .any, .any, .any, .any, .any, .any, .any, .any, .any, .any, .any, .any, .any, .any, .any, .any, .any, .any, .any, .any, .any, .any, .any, .any, .any, .any, .any, .any, .any, .any, .any, .any, .any, .any, .any, .any, .any, .any, .any, .any, .any, .any, .any, .any, .any, .any, .any, .any, .any, .any, .any, .any, .any, .any, .any, .any, .any, .any, .any, .any, .any, .any, .any, .any, .any, .any, .any, .any, .any, .any, .any, .any, .any, .any, .any, .any, .any, .any, .any, .any, .any, .any, .any, .any, .any, .any, .any, .any, .any], [], ⟨[(4, ⟨cs, 47, true⟩), (0, ⟨c.cells ++ [.lst us m], 55, true⟩)], 5, []⟩⟩
noncomputable def rdK (a : List AV) (b : Nat) (i : Int) (x : Int → Bool) : Bool := ba (inside i b) (ba (Nat.ble (((0 + i.toNat * 2) + 0) + 1) a.length) (ba (AV.isI .u64 (lget a ((0 + i.toNat * 2) + 0))) (x (lget a ((0 + i.toNat * 2) + 0)).toI)))
/-- The first row, or the key of the one ahead. -/
noncomputable def fstR (r : Option (List AV × Nat)) (i : Int) (x : Bool) (y : Int → Bool) : Bool :=
  match r with
  | none => ba (decide (i = 0)) x
  | some p => br (decide (i = 0)) x (rdK p.1 p.2 (IntKind.wrap .i64 (i - 1)) y)
theorem t_j0 (c : Conf) (us : List AV) (m : Nat) (n : Int) (vs : List AV) (q : Nat) (r : Option (List AV × Nat)) (i : Int) (K : Ex → St → Bool) : runM cJ 300 j0 [] (hJ0 c us m n vs q r i 2) (fun e s => K e (keepSH [1, 2, 4, 51, 52, 53] [0, 1, 4] s)) =
    br (decide (i < Int.ofNat q)) (ld4 vs q i (br (decide (gA vs i ≤ 2147483647)) (br (decide (gB vs i ≤ 2147483647)) (br (decide (gC vs i = 0))
      (fstR r i (apC r (K .normal (hJ0a c us m n vs q (apCs r [.int .u64 (gA vs i), .int .u64 (gB vs i)]) (apQ r) (IntKind.wrap .i64 (i + 1))))) fun k =>
        br (!decide (gA vs i > k)) (K pan (hJ0 c us m n vs q r i 3)) (apC r (K .normal (hJ0a c us m n vs q (apCs r [.int .u64 (gA vs i), .int .u64 (gB vs i)]) (apQ r) (IntKind.wrap .i64 (i + 1))))))
      (K pan (hJ0 c us m n vs q r i 3))) (K pan (hJ0 c us m n vs q r i 3))) (K pan (hJ0 c us m n vs q r i 3)))) (K (.exit 0) (hJ0 c us m n vs q r i 2)) := by
  cases r with
  | none => kernel_rfl
  | some p => obtain ⟨a, b⟩ := p; kernel_rfl
/-! The levels. -/
noncomputable def hJ2 (c : Conf) (us : List AV) (m : Nat) (r : Option (List AV × Nat)) (n : Int) (vs : List AV) (lv : Nat) (below at_ h : Int) : St := ⟨[.any, .ptr 0 0, rwV r, .any, .int .i64 n, .any, .any, .any, .any, .int .i64 below, .int .i64 at_, .any, .any, .any, .any, .any, .any, .any, .any, .any, .any, .any, .any, .any, .any, .any, .any, .any, .any, .any, .any, .any, .any, .any, .any, .any, .any, .any, .any, .any, .any, .any, .any, .any, .any, .any, .any, .any, .any, .any, .any, .any, .any, .any, .any, .any, .any, .any, .any, .any, .any, .any, .any, .any, .any, .any, .any, .any, .any, .any, .any, .any, .any, .any, .any, .any, .any, .any, .any, .any, .any, .any, .any, .any, .any, .any, .any, .any, .any, .any, .any, .any, .any, .any, .any, .any, .any, .any, .any, .any, .any, .any, .any, .any, .any, .any, .any, .any, .lst vs lv, .int .i64 (Int.ofNat lv), .int .i64 h, .any, .any, .any, .any, .any, .any, .any, .any, .any, .any, .any, .any, .any, .any, .any, .any, .any, .any, .any, .any, .any, .any, .any, .any, .any, .any, .any, .any, .any, .any, .any, .any, .any, .any, .any, .any, .any, .any, .any, .any, .any, .any, .any, .any, .any, .any, .any, .any, .any, .any, .any, .any, .any, .any, .any, .any, .any, .any, .any, .any, .any, .any, .any, .any, .any, .any, .any, .any, .any, .any, .any, .any, .any, .any, .any, .any, .any], [], ⟨rwH r ++ [(0, ⟨c.cells ++ [.lst us m], 55, true⟩)], 2, []⟩⟩
noncomputable def pJ (nx : Nat) : St := ⟨[.any, .any, .any, .any, .any, .any, .any, .any, .any, .any, .any, .any, .any, .any, .any, .any, .any, .any, .any, .any, .any, .any, .any, .any, .any, .any, .any, .any, .any, .any, .any, .any, .any, .any, .any, .any, .any, .any, .any, .any, .any, .any, .any, .any, .any, .any, .any, .any, .any, .any, .any, .any, .any, .any, .any, .any, .any, .any, .any, .any, .any, .any, .any, .any, .any, .any, .any, .any, .any, .any, .any, .any, .any, .any, .any, .any, .any, .any, .any, .any, .any, .any, .any, .any, .any, .any, .any, .any, .any, .any, .any, .any, .any, .any, .any, .any, .any, .any, .any, .any, .any, .any, .any, .any, .any, .any, .any, .any, .any, .any, .any, .any, .any, .any, .any, .any, .any, .any, .any, .any, .any, .any, .any, .any, .any, .any, .any, .any, .any, .any, .any, .any, .any, .any, .any, .any, .any, .any, .any, .any, .any, .any, .any, .any, .any, .any, .any, .any, .any, .any, .any, .any, .any, .any, .any, .any, .any, .any, .any, .any, .any, .any, .any, .any, .any, .any, .any, .any, .any, .any, .any, .any, .any, .any, .any, .any, .any, .any, .any, .any, .any, .any, .any, .any, .any, .any, .any, .any], [], ⟨[], nx, []⟩⟩
noncomputable def LF4J (c : Conf) (us : List AV) (m : Nat) (r : Option (List AV × Nat)) (j : JL) (ok : Bool) : LF := fun st K => cond (onP (keepSH [1, 2, 4, 9, 10, 11, 12, 13, 108, 109, 110, 125, 126] [0, 1] st = hJ4 c us m r j 0 2)) (br ok (K (.exit 4) (hJ4 c us m r j j.size 2)) (ba (K pan (pJ 3)) (K pan (pJ 4)))) false
noncomputable def ldI (vs : List AV) (q : Nat) (i : Int) (x : Int → Bool) : Bool := ba (inside i q && Nat.beq vs.length (q * 1)) (ba (Nat.ble (i.toNat * 1 + 1) vs.length) (ba (AV.isI .i64 (lget vs (i.toNat * 1))) (x (lget vs (i.toNat * 1)).toI)))
noncomputable def jlI (c : Conf) (n : Int) (vs : List AV) (lv : Nat) (below at_ h size : Int) : JL := ⟨n, below, at_, h, f_count_0 n c.node h, size, vs, lv⟩
theorem t_j2 (c : Conf) (us : List AV) (m : Nat) (r : Option (List AV × Nat)) (n : Int) (vs : List AV) (lv : Nat) (below at_ h s0 : Int) (ok : Bool) (K : Ex → St → Bool) : runM cJ 300 j2 [LF4J c us m r (jlI c n vs lv below at_ h s0) ok] (hJ2 c us m r n vs lv below at_ h) (fun e s => K e (keepSH [1, 2, 4, 9, 10, 108, 109, 110] [0, 1] s)) =
    br (decide (h < Int.ofNat lv)) (ldI vs lv h fun size => ba (ok_count n c.node h) (ba (onP (hJ4 c us m r (jlI c n vs lv below at_ h size) 0 2 = hJ4 c us m r (jlI c n vs lv below at_ h s0) 0 2)) (br ok (K .normal (hJ2 c us m r n vs lv at_ (IntKind.wrap .i64 (at_ + s0)) (IntKind.wrap .i64 (h + 1)))) (ba (K pan (pJ 3)) (K pan (pJ 4))))))
      (K (.exit 2) (hJ2 c us m r n vs lv below at_ h)) := by
  cases r with
  | none => kernel_rfl
  | some p => obtain ⟨a, b⟩ := p; kernel_rfl
theorem t_j2x (c : Conf) (us : List AV) (m : Nat) (r : Option (List AV × Nat)) (n : Int) (vs : List AV) (lv : Nat) (below at_ h : Int) (K : Ex → St → Bool) : runM cJ 300 j2 [fun _ _ => false] (hJ2 c us m r n vs lv below at_ h) (fun e s => K e (keepSH [1, 2, 4, 9, 10, 108, 109, 110] [0, 1] s)) =
    br (decide (h < Int.ofNat lv)) (ldI vs lv h fun size => ba (ok_count n c.node h) false) (K (.exit 2) (hJ2 c us m r n vs lv below at_ h)) := by
  cases r with
  | none => kernel_rfl
  | some p => obtain ⟨a, b⟩ := p; kernel_rfl
end Go.Bas.BasAvJ2
end
section
namespace Go.Bas.BasAvJ3
open Go.RowKit Go.Proofs
open Go.Bas.BasZBase Go.Bas.BasAvR1 Go.Bas.BasAvR2 Go.Bas.BasAvR3 Go.Bas.BasAvL Go.Bas.BasAvF Go.Bas.BasAvW Go.Bas.BasAvP1 Go.Bas.BasAvP2 Go.Bas.BasAvP4 Go.Bas.BasAvA Go.Bas.BasZRank Go.Bas.BasZRank3 Go.Bas.BasZLev Go.Bas.BasZItems Go.Bas.BasAvI0 Go.Bas.BasAvIE Go.Bas.BasAvIE2 Go.Bas.BasAvI1 Go.Bas.BasAvG Go.Bas.BasAvI2 Go.Bas.BasAvI3 Go.Bas.BasAvI4 Go.Bas.BasAvI5 Go.Bas.BasAvI6 Go.Bas.BasAvJ1 Go.Bas.BasAvJ2
set_option maxRecDepth 100000
set_option maxHeartbeats 4000000
set_option linter.unusedVariables false
set_option linter.unusedSimpArgs false
theorem ren_J4 (c : Conf) (us : List AV) (m : Nat) (r : Option (List AV × Nat)) (j : JL) (i : Int) {nx : Nat} (h : nx = 3 ∨ nx = 4) : Less cJ (hJ4 c us m r j i nx) (hJ4 c us m r j i 2) := by
  cases r with
  | none =>
    rcases h with rfl | rfl
    · have h := Less.ren (C := cJ) [(0, 0)] 2 (st := hJ4 c us m none j i 3) rfl rfl (by kernel_rfl)
      have e : renS [(0, 0)] 2 (hJ4 c us m none j i 3) = hJ4 c us m none j i 2 := by kernel_rfl
      rw [e] at h
      exact h
    · have h := Less.ren (C := cJ) [(0, 0)] 2 (st := hJ4 c us m none j i 4) rfl rfl (by kernel_rfl)
      have e : renS [(0, 0)] 2 (hJ4 c us m none j i 4) = hJ4 c us m none j i 2 := by kernel_rfl
      rw [e] at h
      exact h
  | some p =>
    obtain ⟨a, b⟩ := p
    rcases h with rfl | rfl
    · have h := Less.ren (C := cJ) [(1, 1), (0, 0)] 2 (st := hJ4 c us m (some (a, b)) j i 3) rfl rfl (by kernel_rfl)
      have e : renS [(1, 1), (0, 0)] 2 (hJ4 c us m (some (a, b)) j i 3) = hJ4 c us m (some (a, b)) j i 2 := by kernel_rfl
      rw [e] at h
      exact h
    · have h := Less.ren (C := cJ) [(1, 1), (0, 0)] 2 (st := hJ4 c us m (some (a, b)) j i 4) rfl rfl (by kernel_rfl)
      have e : renS [(1, 1), (0, 0)] 2 (hJ4 c us m (some (a, b)) j i 4) = hJ4 c us m (some (a, b)) j i 2 := by kernel_rfl
      rw [e] at h
      exact h
theorem ren_J0a (c : Conf) (us : List AV) (m : Nat) (n : Int) (vs : List AV) (q : Nat) (cs : List AV) (b : Nat) (i : Int) : Less cJ (hJ0a c us m n vs q cs b i) (hJ0 c us m n vs q (some (cs, b)) i 2) := by
  have h := Less.ren (C := cJ) [(4, 1), (0, 0)] 2 (st := hJ0a c us m n vs q cs b i) rfl rfl (by kernel_rfl)
  have e : renS [(4, 1), (0, 0)] 2 (hJ0a c us m n vs q cs b i) = hJ0 c us m n vs q (some (cs, b)) i 2 := by kernel_rfl
  rw [e] at h
  exact h
/-! A level. -/
theorem cnt_n {c : Conf} (h : IxOk c) {n q : Nat} (hn : n ≤ 32) (hq : q ≤ 4) : f_count_0 (n : Int) c.node (q : Int) = ((itm n (W c) q : Nat) : Int) := by
  rw [← (up_n h hn hq).1]
  have e : f_count_0 (n : Int) c.node (q : Int) = (bif !(f_width_0 (n : Int) 0 c.node) then 0 else bif decide ((q : Int) < 0) then 0 else bif decide ((q : Int) > 4) then 0 else bif ok_up (n : Int) c.node (q : Int) then f_up_0 (n : Int) c.node (q : Int) else 0) := by kernel_rfl
  obtain ⟨a, b, d, f⟩ := h
  have hw : f_width_0 (n : Int) 0 c.node = true := by
    rw [width_is]
    simp only [Bool.and_eq_true, decide_eq_true_eq]
    omega
  rw [e, hw, ok_up_all ⟨d, f⟩ (by omega), decide_eq_false (by omega), decide_eq_false (by omega)]
  rfl
/-- A cell of a level that may not be: a place behind the items that is not bare, or an item above another whose key is not that of the last below it. -/
def LvBad (c : Conf) (us : List AV) (n h i : Nat) : Prop :=
  (itm n (W c) h ≤ i ∧ ¬ Bare us (offM (CC c) (W c) h + i)) ∨ (i < itm n (W c) h ∧ 1 ≤ h ∧ ¬ (cA us (offM (CC c) (W c) h + i) = cA us (offM (CC c) (W c) (h - 1) + lst (W c) i (itm n (W c) (h - 1))) ∧ cB us (offM (CC c) (W c) h + i) = 0 ∧ cC us (offM (CC c) (W c) h + i) = 0))
noncomputable def jl (c : Conf) (n h : Nat) (vs : List AV) (lv : Nat) : JL := ⟨(n : Int), ((offM (CC c) (W c) (h - 1) : Nat) : Int), ((offM (CC c) (W c) h : Nat) : Int), (h : Int), ((itm n (W c) h : Nat) : Int), ((itm (CC c) (W c) h : Nat) : Int), vs, lv⟩
theorem zj4 {c : Conf} (hx : IxOk c) {us : List AV} (hc : CL us (GG c)) {n : Nat} (hn : n ≤ CC c) {h : Nat} (hh : h < lv c) (r : Option (List AV × Nat)) (vs : List AV) (l : Nat) {KK : Ex → St → Prop} (h1 : (∀ i, i < itm (CC c) (W c) h → ¬ LvBad c us n h i) → KK (.exit 4) (hJ4 c us (GG c) r (jl c n h vs l) ((itm (CC c) (W c) h : Nat) : Int) 2)) (h0 : (∃ i, i < itm (CC c) (W c) h ∧ LvBad c us n h i) → ∀ i nx, nx = 3 ∨ nx = 4 → KK pan (hJ4 c us (GG c) r (jl c n h vs l) i nx)) : AWq cJ (.loop j4) (hJ4 c us (GG c) r (jl c n h vs l) 0 2) KK := by
  have hG := GG_bd hx
  have hv := lv_bd hx
  have hm := hc.2.1
  have hC : CC c ≤ 32 := by have := hx.2.1; show c.cap.toNat ≤ 32; omega
  have hS := itm_le32 hx (n := CC c) hC h
  have hmo := itm_mono (m := n) (m' := CC c) (w := W c) hn
  have o2 : offM (CC c) (W c) (h + 1) = offM (CC c) (W c) h + itm (CC c) (W c) h := rfl
  have o3 : offM (CC c) (W c) (h + 1) ≤ GG c := off_mono _ _ (by omega)
  refine awq_loopK hCJ (ι := { i : Nat // i ≤ itm (CC c) (W c) h ∧ ∀ j, j < i → ¬ LvBad c us n h j }) (fun i => hJ4 c us (GG c) r (jl c n h vs l) (i.1 : Int) 2) (fun i => itm (CC c) (W c) h - i.1) (n := 300) (l := fun _ => []) (g := keepSH [1, 2, 4, 9, 10, 11, 12, 13, 108, 109, 110, 125, 126] [0, 1]) (fun _ => by rw [lj4]; exact trivial) (fun s => LessS.keepSH _ _ s) ?_ ⟨0, Nat.zero_le _, fun j h => absurd h (Nat.not_lt_zero _)⟩
  rintro ⟨i, him, hi⟩ K hk
  have him : i ≤ itm (CC c) (W c) h := him
  refine (t_j4 c us (GG c) r (jl c n h vs l) (i : Int) K).trans (bdt (fun a => ?_) (fun a => hk _ _ ?_))
  · have a : (i : Int) < ((itm (CC c) (W c) h : Nat) : Int) := of_decide_eq_true a
    have h' : i < itm (CC c) (W c) h := by omega
    have e1 : IntKind.wrap .i64 ((i : Int) + 1) = ((i + 1 : Nat) : Int) := by rw [wI (by omega) (by omega)]; omega
    have e2 : IntKind.wrap .i64 ((jl c n h vs l).at_ + (i : Int)) = ((offM (CC c) (W c) h + i : Nat) : Int) := by
      show IntKind.wrap .i64 (((offM (CC c) (W c) h : Nat) : Int) + (i : Int)) = _
      rw [wI (by omega) (by omega)]
      omega
    have bad : LvBad c us n h i → ∀ nx, nx = 3 ∨ nx = 4 → K pan (hJ4 c us (GG c) r (jl c n h vs l) (i : Int) nx) = true := fun hb nx hnx => hk _ _ (.inr ⟨fun hh => (by cases hh), h0 ⟨i, h', hb⟩ _ _ hnx⟩)
    have good : ¬ LvBad c us n h i → ∀ nx, nx = 3 ∨ nx = 4 → K .normal (hJ4 c us (GG c) r (jl c n h vs l) (IntKind.wrap .i64 ((i : Int) + 1)) nx) = true := fun hb nx hnx => hk _ _ (by
      rw [e1]
      refine .inl ⟨rfl, ⟨i + 1, h', fun j hj => ?_⟩, by show itm (CC c) (W c) h - (i + 1) < itm (CC c) (W c) h - i; omega, ren_J4 _ _ _ _ _ _ hnx⟩
      by_cases e : j = i
      · subst e; exact hb
      · exact hi j (by omega))
    rw [e2]
    refine ld4_ok hc (by omega) ?_
    generalize hP : offM (CC c) (W c) h + i = p at *
    rw [show gA us (p : Int) = cA us p from rfl, show gB us (p : Int) = cB us p from rfl, show gC us (p : Int) = cC us p from rfl]
    refine bdt (fun b => ?_) (fun b => ?_)
    · have b : (i : Int) ≥ ((itm n (W c) h : Nat) : Int) := of_decide_eq_true b
      have nb : ¬ Bare us p → LvBad c us n h i := fun hq => .inl ⟨by omega, by rw [hP]; exact hq⟩
      refine bdt (fun d1 => bdt (fun d2 => bdt (fun d3 => bad (nb fun hh => ?_) _ (.inr rfl)) (fun d3 => good (fun hh => ?_) _ (.inr rfl))) (fun d2 => bad (nb fun hh => of_decide_eq_false d2 hh.2.1) _ (.inr rfl))) (fun d1 => bad (nb fun hh => of_decide_eq_false d1 hh.1) _ (.inr rfl))
      · rw [decide_eq_true (show cC us p = 0 from hh.2.2)] at d3
        cases d3
      · rcases hh with ⟨y1, y2⟩ | ⟨y1, y2⟩
        · rw [hP] at y2
          exact y2 ⟨of_decide_eq_true d1, of_decide_eq_true d2, by simpa using d3⟩
        · omega
    · have b : ¬ (i : Int) ≥ ((itm n (W c) h : Nat) : Int) := of_decide_eq_false b
      have hin : i < itm n (W c) h := by omega
      refine bdt (fun b2 => ?_) (fun b2 => good (fun hh => ?_) _ (.inl rfl))
      · have b2 : ((h : Nat) : Int) > 0 := of_decide_eq_true b2
        obtain ⟨k, rfl⟩ : ∃ k, h = k + 1 := ⟨h - 1, by omega⟩
        have hn1 : 1 ≤ n := by
          have := itm_le (m := n) (w := W c) (by have := hx.2.2.1; show 0 < c.node.toNat; omega) (k + 1)
          omega
        obtain ⟨x1, x2, x3⟩ := last_n hx (n := n) (q := k) (i := i) hn1 (by omega) (by omega) hin
        have m0 := hmo k
        have o1 : offM (CC c) (W c) (k + 1) = offM (CC c) (W c) k + itm (CC c) (W c) k := rfl
        have e3 : IntKind.wrap .i64 ((jl c n (k + 1) vs l).below + f_last_0 (jl c n (k + 1) vs l).n c.node (jl c n (k + 1) vs l).h (i : Int)) = ((offM (CC c) (W c) k + lst (W c) i (itm n (W c) k) : Nat) : Int) := by
          show IntKind.wrap .i64 (((offM (CC c) (W c) k : Nat) : Int) + f_last_0 (n : Int) c.node ((k + 1 : Nat) : Int) (i : Int)) = _
          rw [x2, wI (by omega) (by omega)]
          omega
        rw [e3]
        refine band (ok_last_all _ _ _ _) (ldD_ok hc (by omega) (by omega) ?_)
        have nb : ¬ (cA us p = cA us (offM (CC c) (W c) k + lst (W c) i (itm n (W c) k)) ∧ cB us p = 0 ∧ cC us p = 0) → LvBad c us n (k + 1) i := fun hq => .inr ⟨hin, by omega, by rw [hP]; exact hq⟩
        refine bdt (fun d1 => bdt (fun d2 => bdt (fun d3 => bad (nb fun hh => ?_) _ (.inl rfl)) (fun d3 => good (fun hh => ?_) _ (.inl rfl))) (fun d2 => bad (nb fun hh => of_decide_eq_false d2 hh.2.1) _ (.inl rfl))) (fun d1 => bad (nb fun hh => of_decide_eq_false d1 hh.1) _ (.inl rfl))
        · rw [decide_eq_true (show cC us p = 0 from hh.2.2)] at d3
          cases d3
        · rcases hh with ⟨y1, y2⟩ | ⟨y1, y3, y2⟩
          · omega
          · rw [hP] at y2
            exact y2 ⟨of_decide_eq_true d1, of_decide_eq_true d2, by simpa using d3⟩
      · have b2 : ¬ ((h : Nat) : Int) > 0 := of_decide_eq_false b2
        rcases hh with ⟨y1, y2⟩ | ⟨y1, y3, y2⟩
        · omega
        · omega
  · have a : ¬ (i : Int) < ((itm (CC c) (W c) h : Nat) : Int) := of_decide_eq_false a
    have h' : i = itm (CC c) (W c) h := by omega
    subst h'
    exact .inr ⟨fun hh => (by cases hh), h1 hi⟩
/-! The levels. -/
theorem up_at {c : Conf} (hx : IxOk c) {h : Nat} (hh : h < lv c) {x : Int → Bool} (hk : x ((itm (CC c) (W c) h : Nat) : Int) = true) : ldI (levL c.cap c.node) (lv c) (h : Int) x = true := by
  have hv := lv_bd hx
  have hl : (levL c.cap c.node).length = lv c := by simp [levL]
  have e : ((h : Nat) : Int).toNat * 1 = h := by rw [Int.toNat_natCast]; omega
  have hg : lget (levL c.cap c.node) h = .int .i64 ((itm (CC c) (W c) h : Nat) : Int) := by
    rw [lget_eq, List.getD_eq_getElem?_getD]
    have : (levL c.cap c.node)[h]? = some (.int .i64 (f_up_0 c.cap c.node (h : Int))) := by
      unfold levL
      rw [List.getElem?_map, List.getElem?_range hh]
      rfl
    rw [this, up_c hx (by omega)]
    rfl
  unfold ldI
  rw [e, hg, hl]
  refine band ?_ (band (Nat.ble_eq_true_of_le (by omega)) (band rfl hk))
  simp only [inside, Bool.and_eq_true, decide_eq_true_eq, Nat.mul_one]
  exact ⟨⟨Int.natCast_nonneg _, by omega⟩, Nat.beq_refl _⟩
theorem pJ_is (c : Conf) (us : List AV) (m : Nat) (r : Option (List AV × Nat)) (j : JL) (i : Int) (nx : Nat) : keepSH [] [] (hJ4 c us m r j i nx) = pJ nx := by
  cases r with
  | none => kernel_rfl
  | some p => obtain ⟨a, b⟩ := p; kernel_rfl
theorem of_ba {b x : Bool} (h : ba b x = true) : b = true ∧ x = true := by
  cases b with
  | false => cases h
  | true => exact ⟨rfl, h⟩
theorem of_onPf {P : Prop} (h : onP P = false) : ¬ P := fun hh => by rw [onP_true hh] at h; cases h
theorem onP_false {P : Prop} (h : ¬ P) : onP P = false := @decide_eq_false _ (Classical.propDecidable _) h
/-- All cells of a level may be. -/
def LvOk (c : Conf) (us : List AV) (n h : Nat) : Prop := ∀ i, i < itm (CC c) (W c) h → ¬ LvBad c us n h i
theorem LF4J_ok {c : Conf} (hx : IxOk c) {us : List AV} (hc : CL us (GG c)) {n : Nat} (hn : n ≤ CC c) {h : Nat} (hh : h < lv c) (r : Option (List AV × Nat)) : ∀ (st : St) (K : Ex → St → Bool), LF4J c us (GG c) r (jlI c (n : Int) (levL c.cap c.node) (lv c) ((offM (CC c) (W c) (h - 1) : Nat) : Int) ((offM (CC c) (W c) h : Nat) : Int) (h : Int) ((itm (CC c) (W c) h : Nat) : Int)) (onP (LvOk c us n h)) st K = true → AWq cJ (.loop j4) st (fun e s => K e s = true) := fun st K hk => by
  have hv := lv_bd hx
  have hC : CC c ≤ 32 := by have := hx.2.1; show c.cap.toNat ≤ 32; omega
  have ej : jlI c (n : Int) (levL c.cap c.node) (lv c) ((offM (CC c) (W c) (h - 1) : Nat) : Int) ((offM (CC c) (W c) h : Nat) : Int) (h : Int) ((itm (CC c) (W c) h : Nat) : Int) = jl c n h (levL c.cap c.node) (lv c) := by
    unfold jlI jl
    rw [cnt_n hx (by omega) (by omega)]
  rw [ej] at hk
  obtain ⟨e1, e2⟩ := of_cond hk
  have e1 := of_onP e1
  refine AWq.less (LessS.keepSH (C := cJ) [1, 2, 4, 9, 10, 11, 12, 13, 108, 109, 110, 125, 126] [0, 1] st).less ?_
  rw [e1]
  refine AWq.post (K := fun e s => (e = pan ∧ ¬ LvOk c us n h ∧ ∃ i nx, (nx = 3 ∨ nx = 4) ∧ s = hJ4 c us (GG c) r (jl c n h (levL c.cap c.node) (lv c)) i nx) ∨ (e = .exit 4 ∧ LvOk c us n h ∧ s = hJ4 c us (GG c) r (jl c n h (levL c.cap c.node) (lv c)) ((itm (CC c) (W c) h : Nat) : Int) 2)) (zj4 hx hc hn hh r _ _ (fun h => .inr ⟨rfl, h, rfl⟩) (fun ⟨i, h1, h2⟩ i' nx hnx => .inl ⟨rfl, fun ha => ha i h1 h2, i', nx, hnx, rfl⟩)) ?_
  rintro e s (⟨rfl, hb, i, nx, hnx, rfl⟩ | ⟨rfl, ho, rfl⟩)
  · rw [onP_false hb] at e2
    refine ⟨pJ nx, ?_, ?_⟩
    · rw [← pJ_is c us (GG c) r (jl c n h (levL c.cap c.node) (lv c)) i nx]
      exact LessS.keepSH _ _ _
    · have e2 : ba (K pan (pJ 3)) (K pan (pJ 4)) = true := e2
      have e2 := of_ba e2
      rcases hnx with rfl | rfl
      · exact e2.1
      · exact e2.2
  · rw [onP_true ho] at e2
    exact ⟨_, LessS.refl _, e2⟩
theorem zj2 {c : Conf} (hx : IxOk c) {us : List AV} (hc : CL us (GG c)) {n : Nat} (hn : n ≤ CC c) (r : Option (List AV × Nat)) {KK : Ex → St → Prop} (h1 : (∀ h, h < lv c → LvOk c us n h) → ∀ below at_, KK (.exit 2) (hJ2 c us (GG c) r (n : Int) (levL c.cap c.node) (lv c) below at_ ((lv c : Nat) : Int))) (h0 : (∃ h, h < lv c ∧ ¬ LvOk c us n h) → ∀ nx, nx = 3 ∨ nx = 4 → KK pan (pJ nx)) : AWq cJ (.loop j2) (hJ2 c us (GG c) r (n : Int) (levL c.cap c.node) (lv c) 1 1 0) KK := by
  have hv := lv_bd hx
  have hG := GG_bd hx
  have hC : CC c ≤ 32 := by have := hx.2.1; show c.cap.toNat ≤ 32; omega
  refine awq_loopK hCJ (ι := { h : Nat // h ≤ lv c ∧ ∀ q, q < h → LvOk c us n q }) (fun h => hJ2 c us (GG c) r (n : Int) (levL c.cap c.node) (lv c) ((offM (CC c) (W c) (h.1 - 1) : Nat) : Int) ((offM (CC c) (W c) h.1 : Nat) : Int) (h.1 : Int)) (fun h => lv c - h.1) (n := 300) (l := fun h => [cond (decide (h.1 < lv c)) (LF4J c us (GG c) r (jlI c (n : Int) (levL c.cap c.node) (lv c) ((offM (CC c) (W c) (h.1 - 1) : Nat) : Int) ((offM (CC c) (W c) h.1 : Nat) : Int) (h.1 : Int) ((itm (CC c) (W c) h.1 : Nat) : Int)) (onP (LvOk c us n h.1))) (fun _ _ => false)]) (g := keepSH [1, 2, 4, 9, 10, 108, 109, 110] [0, 1]) (fun h => ?_) (fun s => LessS.keepSH _ _ s) ?_ ⟨0, Nat.zero_le _, fun j h => absurd h (Nat.not_lt_zero _)⟩
  · rw [lj2]
    refine ⟨?_, trivial⟩
    by_cases hh : h.1 < lv c
    · rw [decide_eq_true hh]
      exact LF4J_ok hx hc hn hh r
    · rw [decide_eq_false hh]
      exact fun st k hk => by cases hk
  rintro ⟨h, h1', h2⟩ K hk
  have h1' : h ≤ lv c := h1'
  by_cases hh : h < lv c
  · show runM cJ 300 j2 [cond (decide (h < lv c)) _ _] _ _ = true
    rw [decide_eq_true hh, cond_true]
    refine (t_j2 c us (GG c) r (n : Int) (levL c.cap c.node) (lv c) _ _ (h : Int) _ _ K).trans (btb (decide_eq_true (by show (h : Int) < ((lv c : Nat) : Int); omega)) (up_at hx hh (band (ok_count_all _ _ _) (band (onP_true rfl) (bdt (fun a => hk _ _ ?_) (fun a => ?_))))))
    · have hS := itm_le32 hx (n := CC c) hC h
      have hO := off_le hx h
      have e1 : IntKind.wrap .i64 ((h : Int) + 1) = ((h + 1 : Nat) : Int) := by rw [wI (by omega) (by omega)]; omega
      have e2 : IntKind.wrap .i64 (((offM (CC c) (W c) h : Nat) : Int) + ((itm (CC c) (W c) h : Nat) : Int)) = ((offM (CC c) (W c) (h + 1) : Nat) : Int) := by
        have o2 : offM (CC c) (W c) (h + 1) = offM (CC c) (W c) h + itm (CC c) (W c) h := rfl
        rw [wI (by omega) (by omega)]
        omega
      rw [e1, e2]
      refine .inl ⟨rfl, ⟨h + 1, hh, fun q hq => ?_⟩, by show lv c - (h + 1) < lv c - h; omega, Less.refl _⟩
      by_cases e : q = h
      · subst e; exact of_onP a
      · exact h2 q (by omega)
    · have hb : ∃ h, h < lv c ∧ ¬ LvOk c us n h := ⟨h, hh, of_onPf a⟩
      exact band (hk _ _ (.inr ⟨fun hh => (by cases hh), h0 hb 3 (.inl rfl)⟩)) (hk _ _ (.inr ⟨fun hh => (by cases hh), h0 hb 4 (.inr rfl)⟩))
  · have h' : h = lv c := by omega
    subst h'
    show runM cJ 300 j2 [cond (decide (lv c < lv c)) _ _] _ _ = true
    rw [decide_eq_false hh, cond_false]
    exact (t_j2x c us (GG c) r (n : Int) (levL c.cap c.node) (lv c) _ _ ((lv c : Nat) : Int) K).trans (btf (decide_eq_false (by show ¬ ((lv c : Nat) : Int) < ((lv c : Nat) : Int); omega)) (hk _ _ (.inr ⟨fun hh => (by cases hh), h1 h2 _ _⟩)))
/-! The rows. -/
noncomputable def vsJ (us : List AV) (n : Nat) : List AV := (us.drop 4).take (n * 4)
theorem vsJ_at (us : List AV) {n j : Nat} (h : j < n * 4) : lget (vsJ us n) j = lget us (4 + j) := by
  rw [lget_eq, lget_eq, List.getD_eq_getElem?_getD, List.getD_eq_getElem?_getD]
  unfold vsJ
  rw [List.getElem?_take, if_pos h, List.getElem?_drop]
theorem vsJ_CL {us : List AV} {m n : Nat} (hc : CL us m) (h : 1 + n ≤ m) : CL (vsJ us n) n := by
  have hl := hc.1
  have hm := hc.2.1
  have e : (vsJ us n).length = n * 4 := by
    unfold vsJ
    rw [List.length_take, List.length_drop]
    omega
  refine ⟨e, by omega, fun j hj => ?_⟩
  rw [e] at hj
  rw [vsJ_at us hj]
  exact hc.2.2 _ (by omega)
/-- A row that may not be. -/
def RwBadP (us : List AV) (i : Nat) : Prop := RwBad us i ∨ cC us (1 + i) ≠ 0 ∨ (1 ≤ i ∧ ¬ cA us (1 + i) > cA us i)
theorem rdK_ok {L : RL} {i : Nat} (h : i < L.length) {x : Int → Bool} (hx : x (rk L i) = true) : rdK (enc L) L.length (i : Int) x = true := by
  have e : (0 + ((i : Nat) : Int).toNat * 2) + 0 = i * 2 := by rw [Int.toNat_natCast]; omega
  unfold rdK
  rw [e, enc_k L i h]
  refine band ?_ (band (Nat.ble_eq_true_of_le (by rw [enc_len]; omega)) (band rfl hx))
  simp only [inside, Bool.and_eq_true, decide_eq_true_eq]
  omega
theorem fstR_ok {L : RL} {i : Nat} (hl : L.length = i) (hi : i ≤ 1000) {x : Bool} {y : Int → Bool} (h0 : i = 0 → x = true) (h1 : ∀ k, i = k + 1 → y (rk L k) = true) : fstR (rwo L) (i : Int) x y = true := by
  cases L with
  | nil => exact band (decide_eq_true (by rw [← hl]; rfl)) (h0 hl.symm)
  | cons p l =>
    obtain ⟨k, e⟩ : ∃ k, i = k + 1 := ⟨l.length, hl.symm⟩
    show (br (decide ((i : Int) = 0)) x (rdK (enc (p :: l)) (p :: l).length (IntKind.wrap .i64 ((i : Int) - 1)) y)) = true
    refine btf (decide_eq_false (by omega)) ?_
    rw [show IntKind.wrap .i64 ((i : Int) - 1) = (k : Int) by rw [wI (by omega) (by omega)]; omega]
    exact rdK_ok (by omega) (h1 k e)
theorem zj0 {c : Conf} {us : List AV} {m n : Nat} (hc : CL us m) (hnm : 1 + n ≤ m) {KK : Ex → St → Prop} (h1 : (∀ i, i < n → ¬ RwBadP us i) → KK (.exit 0) (hJ0 c us m (n : Int) (vsJ us n) n (rwo (rwX us n)) (n : Int) 2)) (h0 : (∃ i, i < n ∧ RwBadP us i) → ∀ r i, KK pan (hJ0 c us m (n : Int) (vsJ us n) n r i 3)) : AWq cJ (.loop j0) (hJ0 c us m (n : Int) (vsJ us n) n none 0 2) KK := by
  have hm := hc.2.1
  have hv := vsJ_CL hc hnm
  refine awq_loopK hCJ (ι := { i : Nat // i ≤ n ∧ ∀ j, j < i → ¬ RwBadP us j }) (fun i => hJ0 c us m (n : Int) (vsJ us n) n (rwo (rwX us i.1)) (i.1 : Int) 2) (fun i => n - i.1) (n := 300) (l := fun _ => []) (g := keepSH [1, 2, 4, 51, 52, 53] [0, 1, 4]) (fun _ => by rw [lj0]; exact trivial) (fun s => LessS.keepSH _ _ s) ?_ ⟨0, Nat.zero_le _, fun j h => absurd h (Nat.not_lt_zero _)⟩
  rintro ⟨i, him, hi⟩ K hk
  have him : i ≤ n := him
  have hll := rwX_len us i
  refine (t_j0 c us m (n : Int) (vsJ us n) n (rwo (rwX us i)) (i : Int) K).trans (bdt (fun a => ?_) (fun a => hk _ _ ?_))
  · have a : (i : Int) < Int.ofNat n := of_decide_eq_true a
    have eo : (Int.ofNat n : Int) = (n : Int) := rfl
    have h' : i < n := by omega
    have e1 : IntKind.wrap .i64 ((i : Int) + 1) = ((i + 1 : Nat) : Int) := by rw [wI (by omega) (by omega)]; omega
    have ga : gA (vsJ us n) (i : Int) = cA us (1 + i) := by
      show (lget (vsJ us n) (i * 4 + 1)).toI = (lget us ((1 + i) * 4 + 1)).toI
      rw [vsJ_at us (by omega), show 4 + (i * 4 + 1) = (1 + i) * 4 + 1 by omega]
    have gb : gB (vsJ us n) (i : Int) = cB us (1 + i) := by
      show (lget (vsJ us n) (i * 4 + 1 + 1)).toI = (lget us ((1 + i) * 4 + 2)).toI
      rw [vsJ_at us (by omega), show 4 + (i * 4 + 1 + 1) = (1 + i) * 4 + 2 by omega]
    have gc : gC (vsJ us n) (i : Int) = cC us (1 + i) := by
      show (lget (vsJ us n) (i * 4 + 1 + 1 + 1)).toI = (lget us ((1 + i) * 4 + 3)).toI
      rw [vsJ_at us (by omega), show 4 + (i * 4 + 1 + 1 + 1) = (1 + i) * 4 + 3 by omega]
    have bad : RwBadP us i → ∀ r j, K pan (hJ0 c us m (n : Int) (vsJ us n) n r j 3) = true := fun hb r j => hk _ _ (.inr ⟨fun hh => (by cases hh), h0 ⟨i, h', hb⟩ r j⟩)
    have good : ¬ RwBadP us i → apC (rwo (rwX us i)) (K .normal (hJ0a c us m (n : Int) (vsJ us n) n (apCs (rwo (rwX us i)) [.int .u64 (cA us (1 + i)), .int .u64 (cB us (1 + i))]) (apQ (rwo (rwX us i))) (IntKind.wrap .i64 ((i : Int) + 1)))) = true := fun hb => apx_ok (by omega) (hk _ _ (by
      refine .inl ⟨rfl, ⟨i + 1, h', fun j hj => ?_⟩, by show n - (i + 1) < n - i; omega, ?_⟩
      · by_cases e : j = i
        · subst e; exact hb
        · exact hi j (by omega)
      · show Less cJ _ (hJ0 c us m (n : Int) (vsJ us n) n (rwo (rwX us i ++ [(cA us (1 + i), cB us (1 + i))])) ((i + 1 : Nat) : Int) 2)
        rw [e1, ← apx]
        exact ren_J0a _ _ _ _ _ _ _ _ _))
    refine ld4_ok hv h' ?_
    rw [ga, gb, gc]
    refine bdt (fun b1 => bdt (fun b2 => bdt (fun b3 => ?_) (fun b3 => bad (.inr (.inl (of_decide_eq_false b3))) _ _)) (fun b2 => bad (.inl (.inr ?_)) _ _)) (fun b1 => bad (.inl (.inl ?_)) _ _)
    · have b1 := of_decide_eq_true b1
      have b2 := of_decide_eq_true b2
      have b3 := of_decide_eq_true b3
      have nb : (¬ 1 ≤ i ∨ cA us (1 + i) > cA us i) → ¬ RwBadP us i := by
        rintro hq (hh | hh | ⟨y1, y2⟩)
        · rcases hh with hh | hh
          · omega
          · omega
        · exact hh b3
        · rcases hq with hq | hq
          · exact hq y1
          · exact y2 hq
      refine fstR_ok hll (by omega) (fun e => good (nb (.inl (by omega)))) (fun k ek => ?_)
      subst ek
      rw [(rwX_at us (k + 1) k (by omega)).1, show 1 + k = k + 1 by omega]
      refine bdt (fun d => bad (.inr (.inr ⟨by omega, fun hh => ?_⟩)) _ _) (fun d => good (nb (.inr ?_)))
      · rw [decide_eq_true hh] at d
        cases d
      · simpa using d
    · have := of_decide_eq_false b2
      omega
    · have := of_decide_eq_false b1
      omega
  · have a : ¬ (i : Int) < Int.ofNat n := of_decide_eq_false a
    have eo : (Int.ofNat n : Int) = (n : Int) := rfl
    have h' : i = n := by omega
    subst h'
    exact .inr ⟨fun hh => (by cases hh), h1 hi⟩
end Go.Bas.BasAvJ3
end
