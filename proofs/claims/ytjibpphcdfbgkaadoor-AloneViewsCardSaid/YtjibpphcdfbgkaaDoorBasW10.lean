/- Plain law: rows put in one by one are the rows sorted; The document's Rise, Off; The document's Great: how many cells an object has; The document's cells of an index that has rows (Laid): its loops, a round; Plain: where the items of an index lie, and what its cells are; The document's cells of an index that has rows (Laid): its loops; The document's cells of an index that has rows (Laid): its contract; The document's rows of an index's cells: its loops; The engine, part Mu: calls whose result leads into new memory alone; they may be handed the caller's; The document's cells of an index that has rows (Laid): they are new; The document's rows of an index's cells: its contract. -/
import Derived.Test.YtjibpphcdfbgkaaDoorBasW7
import Derived.Test.YtjibpphcdfbgkaaDoorBasW8
import Derived.Test.YtjibpphcdfbgkaaDoorBasW9
section
namespace Go.Bas.BasAvQ
open Go.RowKit Go.Proofs
open Go.Bas.BasZBase Go.Bas.BasAvR1 Go.Bas.BasAvR2 Go.Bas.BasAvR3 Go.Bas.BasAvL Go.Bas.BasAvF Go.Bas.BasAvW Go.Bas.BasAvA Go.Bas.BasAvB Go.Bas.BasAvT Go.Bas.BasAvT2 Go.Bas.BasAvS Go.Bas.BasAvS3 Go.Bas.BasAvC3 Go.Bas.BasAvC4 Go.Bas.BasAvC5
set_option maxRecDepth 100000
set_option linter.unusedVariables false
set_option linter.unusedSimpArgs false
/-- The keys rise. -/
def SS (L : RL) : Prop := L.Pairwise fun x y => x.1 < y.1
theorem uniq : ∀ (A B : RL), A.Perm B → SS A → SS B → A = B
  | [], B, h, _, _ => (List.nil_perm.1 h).symm
  | a :: A, [], h, _, _ => by cases List.perm_nil.1 h
  | a :: A, b :: B, h, hA, hB => by
    have hA' := List.pairwise_cons.1 hA
    have hB' := List.pairwise_cons.1 hB
    have e : a = b := by
      have h1 : a ∈ b :: B := h.mem_iff.1 (List.mem_cons_self ..)
      have h2 : b ∈ a :: A := h.mem_iff.2 (List.mem_cons_self ..)
      rcases List.mem_cons.1 h1 with h1 | h1
      · exact h1
      · rcases List.mem_cons.1 h2 with h2 | h2
        · exact h2.symm
        · have := hA'.1 b h2
          have := hB'.1 a h1
          omega
    subst e
    rw [uniq A B ((List.perm_cons a).1 h) hA'.2 hB'.2]
def insK (k v : Int) : RL → RL
  | [] => [(k, v)]
  | p :: l => if p.1 ≥ k then (k, v) :: p :: l else p :: insK k v l
theorem wst_t (k v : Int) : ∀ (l w : RL), (∀ p ∈ l, p.1 ≠ k) → wst k v l (w, true) = (w ++ l, true)
  | [], w, _ => by simp [wst]
  | p :: l, w, h => by
    unfold wst
    have hp : decide (p.1 = k) = false := decide_eq_false (h p (List.mem_cons_self ..))
    rw [hp]
    show wst k v l (w ++ [p], true) = _
    rw [wst_t k v l _ (fun q hq => h q (List.mem_cons_of_mem _ hq))]
    simp
theorem wst_f (k v : Int) : ∀ (l w : RL), (∀ p ∈ l, p.1 ≠ k) → cond (wst k v l (w, false)).2 (wst k v l (w, false)).1 ((wst k v l (w, false)).1 ++ [(k, v)]) = w ++ insK k v l
  | [], w, _ => rfl
  | p :: l, w, h => by
    have hp : decide (p.1 = k) = false := decide_eq_false (h p (List.mem_cons_self ..))
    have hl : ∀ q ∈ l, q.1 ≠ k := fun q hq => h q (List.mem_cons_of_mem _ hq)
    unfold wst insK
    rw [hp]
    by_cases hg : p.1 ≥ k
    · rw [if_pos hg, decide_eq_true hg]
      show cond (wst k v l (w ++ [(k, v)] ++ [p], true)).2 (wst k v l (w ++ [(k, v)] ++ [p], true)).1 _ = _
      rw [wst_t k v l _ hl]
      simp
    · rw [if_neg hg, decide_eq_false hg]
      show cond (wst k v l (w ++ [p], false)).2 (wst k v l (w ++ [p], false)).1 ((wst k v l (w ++ [p], false)).1 ++ [(k, v)]) = _
      rw [wst_f k v l _ hl]
      simp
theorem withL_ins {L : RL} {k v : Int} (h : ∀ p ∈ L, p.1 ≠ k) : withL L k v = insK k v L := wst_f k v L [] h
theorem insK_perm (k v : Int) : ∀ L : RL, (insK k v L).Perm ((k, v) :: L)
  | [] => List.Perm.refl _
  | p :: l => by
    unfold insK
    split
    · exact List.Perm.refl _
    · exact ((List.perm_cons p).2 (insK_perm k v l)).trans (List.Perm.swap ..)
theorem insK_ss (k v : Int) : ∀ L : RL, SS L → (∀ p ∈ L, p.1 ≠ k) → SS (insK k v L)
  | [], _, _ => List.pairwise_singleton ..
  | p :: l, h, hn => by
    have h' := List.pairwise_cons.1 h
    unfold insK
    split
    · rename_i hg
      have hp := hn p (List.mem_cons_self ..)
      refine List.pairwise_cons.2 ⟨fun q hq => ?_, h⟩
      show k < q.1
      rcases List.mem_cons.1 hq with rfl | hq
      · omega
      · have := h'.1 q hq
        omega
    · rename_i hg
      refine List.pairwise_cons.2 ⟨fun q hq => ?_, insK_ss k v l h'.2 (fun q hq => hn q (List.mem_cons_of_mem _ hq))⟩
      rcases List.mem_cons.1 ((insK_perm k v l).mem_iff.1 hq) with rfl | hq
      · show p.1 < k
        omega
      · exact h'.1 q hq
/-- Find. -/
theorem fI_is (L : RL) (k : Int) : ∀ (n i : Nat), i + n = L.length → (fI L k n i ≥ 0 ↔ ∃ j, i ≤ j ∧ j < L.length ∧ rk L j = k)
  | 0, i, h => by
    unfold fI
    exact ⟨fun hh => absurd hh (by decide), fun ⟨j, h1, h2, _⟩ => by omega⟩
  | n + 1, i, h => by
    unfold fI
    split
    · rename_i he
      exact ⟨fun _ => ⟨i, Nat.le_refl _, by omega, he⟩, fun _ => by omega⟩
    · rename_i he
      rw [fI_is L k n (i + 1) (by omega)]
      constructor
      · rintro ⟨j, h1, h2, h3⟩
        exact ⟨j, by omega, h2, h3⟩
      · rintro ⟨j, h1, h2, h3⟩
        by_cases hj : j = i
        · subst hj; exact absurd h3 he
        · exact ⟨j, by omega, h2, h3⟩
theorem mem_rk (L : RL) (k : Int) : (∃ j, 0 ≤ j ∧ j < L.length ∧ rk L j = k) ↔ ∃ p ∈ L, p.1 = k := by
  constructor
  · rintro ⟨j, _, h2, h3⟩
    refine ⟨L[j], List.getElem_mem h2, ?_⟩
    simpa [rk, h2] using h3
  · rintro ⟨p, hp, h⟩
    obtain ⟨j, hj, e⟩ := List.getElem_of_mem hp
    refine ⟨j, Nat.zero_le _, hj, ?_⟩
    simp [rk, hj, e, h]
theorem fnd_is (L : RL) (k : Int) : fI L k L.length 0 ≥ 0 ↔ ∃ p ∈ L, p.1 = k := (fI_is L k L.length 0 (by omega)).trans (mem_rk L k)
theorem nd_iff (L : RL) : ND L ↔ (L.map Prod.fst).Nodup := by
  rw [List.nodup_iff_pairwise_ne, List.pairwise_iff_getElem]
  constructor
  · intro h a b ha hb hab
    have ha : a < L.length := by simpa using ha
    have hb : b < L.length := by simpa using hb
    have := h a b hab hb
    simpa [rk, ha, hb] using this
  · intro h i j h1 h2
    have h0 : i < L.length := by omega
    have := h i j (by simpa using h0) (by simpa using h2) h1
    simpa [rk, h0, h2] using this
theorem srt_ss {L : RL} (h : ND L) : SS (srt L) := by
  have hl := srt_len L
  unfold SS
  rw [List.pairwise_iff_getElem]
  intro a b ha hb hab
  have h1 := srt_sorted L a b hab (by omega)
  have hn := ((nd_iff (srt L)).2 (((srt_perm L).map Prod.fst).nodup_iff.2 ((nd_iff L).1 h))) a b hab hb
  simp [rk, ha, hb] at h1 hn
  omega
theorem ss_of_adj {M : RL} (h : Adj M) (hs : ∀ i j, i < j → j < M.length → rk M i ≤ rk M j) : ND M := fun i j h1 h2 => by
  have a1 := h i (by omega)
  have a2 := hs i (i + 1) (by omega) (by omega)
  by_cases e : i + 1 = j
  · subst e; exact fun hh => a1 hh.symm
  · have a3 := hs (i + 1) j (by omega) h2
    omega
theorem nd_of_adj {L : RL} (h : Adj (srt L)) : ND L := by
  have := ss_of_adj h (fun i j h1 h2 => srt_sorted L i j h1 (by have := srt_len L; omega))
  exact (nd_iff L).2 (((srt_perm L).map Prod.fst).nodup_iff.1 ((nd_iff _).1 this))
/-- One row more. -/
theorem add_is {L : RL} {k v : Int} (h : ND L) (hk : ¬ ∃ p ∈ L, p.1 = k) : ND (L ++ [(k, v)]) ∧ withL (srt L) k v = srt (L ++ [(k, v)]) := by
  have hn : ND (L ++ [(k, v)]) := by
    rw [nd_iff, List.map_append, List.nodup_append]
    refine ⟨(nd_iff L).1 h, by simp, ?_⟩
    intro a ha b hb
    obtain ⟨p, hp, rfl⟩ := List.mem_map.1 ha
    have : b = k := by simpa using hb
    exact fun e => hk ⟨p, hp, e.trans this⟩
  have hm : ∀ p ∈ srt L, p.1 ≠ k := fun p hp e => hk ⟨p, (srt_perm L).mem_iff.1 hp, e⟩
  refine ⟨hn, ?_⟩
  rw [withL_ins hm]
  refine uniq _ _ ?_ (insK_ss k v _ (srt_ss h) hm) (srt_ss hn)
  exact (insK_perm k v (srt L)).trans (((List.perm_cons (k, v)).2 (srt_perm L)).trans ((List.perm_append_singleton (k, v) L).symm.trans (srt_perm _).symm))
theorem mem_srt (L : RL) (k : Int) : (∃ p ∈ srt L, p.1 = k) ↔ ∃ p ∈ L, p.1 = k :=
  ⟨fun ⟨p, h1, h2⟩ => ⟨p, (srt_perm L).mem_iff.1 h1, h2⟩, fun ⟨p, h1, h2⟩ => ⟨p, (srt_perm L).mem_iff.2 h1, h2⟩⟩
theorem nd_add {L : RL} {x : Int × Int} (h : ND (L ++ [x])) : ND L := by
  rw [nd_iff, List.map_append, List.nodup_append] at h
  exact (nd_iff L).2 h.1
/-- The two ways with rules' cells. -/
theorem acc_is (us : List AV) : ∀ i : Nat, (∀ L, accP us i = some L → ND L → accR us i = some (srt L)) ∧ ((∀ L, accP us i = some L → ¬ ND L) → accR us i = none)
  | 0 => ⟨fun L h _ => by
      have h : some [] = some L := h
      cases h
      rw [BasAvS4.srt_nil]
      rfl, fun h => absurd (fun i j h1 h2 => absurd h2 (Nat.not_lt_zero _)) (h [] rfl)⟩
  | i + 1 => by
    obtain ⟨h1, h2⟩ := acc_is us i
    have eR : accR us (i + 1) = (accR us i).bind (accS us i) := rfl
    have eP : accP us (i + 1) = (accP us i).bind (accT us i) := rfl
    have key : ∀ M, accP us i = some M → (∀ L, accT us i M = some L → ND L → accR us (i + 1) = some (srt L)) ∧ ((∀ L, accT us i M = some L → ¬ ND L) → accR us (i + 1) = none) := fun M hM => by
      by_cases hn : ND M
      · have hr : accR us (i + 1) = accS us i (srt M) := by
          rw [eR, h1 M hM hn]
          rfl
        rw [hr]
        by_cases hb : Bare us i
        · rw [show accS us i (srt M) = some (srt M) by unfold accS; rw [if_pos hb], show accT us i M = some M by unfold accT; rw [if_pos hb]]
          exact ⟨fun L hL _ => (by cases hL; rfl), fun hh => absurd hn (hh M rfl)⟩
        · by_cases hB : AcBad us i
          · rw [show accS us i (srt M) = none by unfold accS; rw [if_neg hb, if_pos hB], show accT us i M = none by unfold accT; rw [if_neg hb, if_pos hB]]
            exact ⟨fun L hL _ => (by cases hL), fun _ => rfl⟩
          · rw [show accT us i M = some (M ++ [(acK us i, cA us i)]) by unfold accT; rw [if_neg hb, if_neg hB]]
            by_cases hk : ∃ p ∈ M, p.1 = acK us i
            · have hf : fI (srt M) (acK us i) (srt M).length 0 ≥ 0 := (fnd_is _ _).2 ((mem_srt _ _).2 hk)
              rw [show accS us i (srt M) = none by unfold accS; rw [if_neg hb, if_neg hB, if_pos hf]]
              refine ⟨fun L hL hN => ?_, fun _ => rfl⟩
              cases hL
              exfalso
              obtain ⟨p, hp, he⟩ := hk
              rw [nd_iff, List.map_append, List.nodup_append] at hN
              exact hN.2.2 p.1 (List.mem_map.2 ⟨p, hp, rfl⟩) (acK us i) (by simp) he
            · have hf : ¬ fI (srt M) (acK us i) (srt M).length 0 ≥ 0 := fun hh => hk ((mem_srt _ _).1 ((fnd_is _ _).1 hh))
              obtain ⟨a1, a2⟩ := add_is (v := cA us i) hn hk
              rw [show accS us i (srt M) = some (withL (srt M) (acK us i) (cA us i)) by unfold accS; rw [if_neg hb, if_neg hB, if_neg hf]]
              refine ⟨fun L hL _ => ?_, fun hh => absurd a1 (hh _ rfl)⟩
              cases hL
              rw [a2]
      · have hr : accR us i = none := h2 (fun L hL => by rw [hM] at hL; cases hL; exact hn)
        have hr1 := accR_none hr (j := i + 1) (by omega)
        refine ⟨fun L hL hN => ?_, fun _ => hr1⟩
        exfalso
        unfold accT at hL
        split at hL
        · cases hL; exact hn hN
        · split at hL
          · cases hL
          · cases hL; exact hn (nd_add hN)
    cases hq : accP us i with
    | none =>
      have hr : accR us i = none := h2 (fun L hL => by rw [hq] at hL; cases hL)
      have hr1 := accR_none hr (j := i + 1) (by omega)
      rw [eP, hq]
      exact ⟨fun L hL => (by cases hL), fun _ => hr1⟩
    | some M =>
      rw [eP, hq]
      exact key M hq
theorem lkN_iff (k : Int) : ∀ (L : RL) (b : Nat), (lkN L k b).isSome = true ↔ ∃ p ∈ L, p.1 = k
  | [], b => ⟨fun h => (by cases h), fun ⟨p, hp, _⟩ => (by cases hp)⟩
  | p :: l, b => by
    unfold lkN
    split
    · rename_i h
      exact ⟨fun _ => ⟨p, List.mem_cons_self .., h.symm⟩, fun _ => rfl⟩
    · rename_i h
      rw [lkN_iff k l (b + 1)]
      constructor
      · rintro ⟨q, hq, he⟩
        exact ⟨q, List.mem_cons_of_mem _ hq, he⟩
      · rintro ⟨q, hq, he⟩
        rcases List.mem_cons.1 hq with rfl | hq
        · exact absurd he.symm h
        · exact ⟨q, hq, he⟩
/-- The two ways with settings' cells. -/
theorem tre_is (c : Conf) (us : List AV) : ∀ i : Nat, treR c us i = (treP c us i).map srt
  | 0 => by
    show some [] = some (srt [])
    rw [BasAvS4.srt_nil]
  | i + 1 => by
    have ih := tre_is c us i
    have eR : treR c us (i + 1) = (treR c us i).bind (treS c us i) := rfl
    have eP : treP c us (i + 1) = (treP c us i).bind (trpS c us i) := rfl
    rw [eR, eP, ih]
    cases hq : treP c us i with
    | none => rfl
    | some M =>
      have hn := treP_nd c us i M hq
      show treS c us i (srt M) = (trpS c us i M).map srt
      by_cases hb : Bare us i
      · rw [show treS c us i (srt M) = some (srt M) by unfold treS; rw [if_pos hb], show trpS c us i M = some M by unfold trpS; rw [if_pos hb]]
        rfl
      · rw [show treS c us i (srt M) = (keyT c us i).bind fun k => treN (srt M) k (cC us i) by unfold treS; rw [if_neg hb], show trpS c us i M = (keyT c us i).bind fun k => cond (lkN M k 0).isSome none (some (M ++ [(k, cC us i)])) by unfold trpS; rw [if_neg hb]]
        cases hk : keyT c us i with
        | none => rfl
        | some k =>
          show treN (srt M) k (cC us i) = (cond (lkN M k 0).isSome none (some (M ++ [(k, cC us i)]))).map srt
          unfold treN
          by_cases hh : ∃ p ∈ M, p.1 = k
          · have hf : fI (srt M) k (srt M).length 0 ≥ 0 := (fnd_is _ _).2 ((mem_srt _ _).2 hh)
            rw [if_pos hf, (lkN_iff k M 0).2 hh]
            rfl
          · have hf : ¬ fI (srt M) k (srt M).length 0 ≥ 0 := fun h => hh ((mem_srt _ _).1 ((fnd_is _ _).1 h))
            have hs : (lkN M k 0).isSome = false := by
              cases h : (lkN M k 0).isSome with
              | false => rfl
              | true => exact absurd ((lkN_iff k M 0).1 h) hh
            obtain ⟨a1, a2⟩ := add_is (v := cC us i) hn hh
            rw [if_neg hf, hs, a2]
            rfl
end Go.Bas.BasAvQ
end
section
namespace Go.Bas.BasAvI1
open Go.RowKit Go.Proofs
open Go.Bas.BasZBase Go.Bas.BasAvR1 Go.Bas.BasAvR2 Go.Bas.BasAvR3 Go.Bas.BasAvL Go.Bas.BasAvF Go.Bas.BasAvW Go.Bas.BasAvA Go.Bas.BasZRank Go.Bas.BasZRank3 Go.Bas.BasZLev Go.Bas.BasAvI0 Go.Bas.BasAvIE Go.Bas.BasAvIE2
set_option maxRecDepth 100000
set_option maxHeartbeats 4000000
set_option linter.unusedVariables false
set_option linter.unusedSimpArgs false
noncomputable abbrev codeR : Code := fcode Tryd.prog 28
noncomputable abbrev bR : Code := loopAt codeR [0]
noncomputable def hr (r : Option (List AV × Nat)) (i : Int) : St := ⟨[rowsV r, .any, .any, .int .i64 i, .any, .any, .any, .any, .any, .any, .any, .any, .any, .any, .any, .any, .any, .any, .any, .any, .any, .any], [], ⟨[], 0, []⟩⟩
noncomputable def hrF (r : Option (List AV × Nat)) (i : Int) : St := ⟨[rowsV r, .any, .bool false, .int .i64 i, .any, .any, .any, .any, .any, .any, .any, .any, .any, .any, .any, .any, .any, .any, .any, .any, .any, .any], [], ⟨[], 0, []⟩⟩
theorem t_r0 (r : Option (List AV × Nat)) (i : Int) (K : Ex → St → Bool) : runM cR 300 bR [] (hr r i) (fun e s => K e (keepSH [0, 2, 3] [] s)) =
    br (decide (i < rn r)) (ldK r i fun a => ldK r (IntKind.wrap .i64 (i - 1)) fun b => br (decide (a ≤ b)) (K .ret (hrF r i)) (K .normal (hr r (IntKind.wrap .i64 (i + 1))))) (K (.exit 0) (hr r i)) := by
  cases r with
  | none => kernel_rfl
  | some p => obtain ⟨a, b⟩ := p; kernel_rfl
theorem lR : loopsOf bR = [] := by kernel_rfl
/-- The keys rise. -/
def Ris (L : RL) : Prop := ∀ i, i + 1 < L.length → rk L i < rk L (i + 1)
theorem zr0 {L : RL} (hl : L.length ≤ 1000) {KK : Ex → St → Prop} (h1 : Ris L → ∀ i, KK (.exit 0) (hr (rwo L) i)) (h0 : ¬ Ris L → ∀ i, KK .ret (hrF (rwo L) i)) : AWq cR (.loop bR) (hr (rwo L) 1) KK := by
  refine awq_loopK hC (ι := { i : Nat // 1 ≤ i ∧ ∀ j, j + 1 < i → j + 1 < L.length → rk L j < rk L (j + 1) }) (fun i => hr (rwo L) (i.1 : Int)) (fun i => L.length + 1 - i.1) (n := 300) (l := fun _ => []) (g := keepSH [0, 2, 3] []) (fun _ => by rw [lR]; exact trivial) (fun s => LessS.keepSH _ _ s) ?_ ⟨1, Nat.le_refl _, fun j h => by omega⟩
  rintro ⟨i, i1, hi⟩ K hk
  refine (t_r0 (rwo L) (i : Int) K).trans (bdt (fun h => ?_) (fun h => hk _ _ ?_))
  · have h := of_decide_eq_true h
    rw [rn_is] at h
    have h' : i < L.length := by omega
    have e1 : IntKind.wrap .i64 ((i : Int) + 1) = ((i + 1 : Nat) : Int) := by
      rw [wI (by omega) (by omega)]
      omega
    have e2 : IntKind.wrap .i64 ((i : Int) - 1) = ((i - 1 : Nat) : Int) := by
      rw [wI (by omega) (by omega)]
      omega
    rw [e2]
    refine ldK_ok h' (ldK_ok (by omega) (bdt (fun a => hk _ _ (.inr ⟨fun hh => (by cases hh), h0 (fun hR => ?_) _⟩)) (fun a => hk _ _ ?_)))
    · have := hR (i - 1) (by omega)
      rw [show i - 1 + 1 = i by omega] at this
      have := of_decide_eq_true a
      omega
    · have a := of_decide_eq_false a
      rw [e1]
      refine .inl ⟨rfl, ⟨i + 1, by omega, fun j hj1 hj2 => ?_⟩, by show L.length + 1 - (i + 1) < L.length + 1 - i; omega, Less.refl _⟩
      by_cases e : j + 1 = i
      · subst e
        rw [show j + 1 - 1 = j by omega] at a
        omega
      · exact hi j (by omega) hj2
  · have h := of_decide_eq_false h
    rw [rn_is] at h
    exact .inr ⟨fun hh => (by cases hh), h1 (fun j hj => hi j (by omega) hj) _⟩
noncomputable def LFr (r : Option (List AV × Nat)) (ok : Bool) : LF := fun st K => cond (onP (keepSH [0, 3] [] st = hr r 1)) (br ok (K (.exit 0) ⟨[.any, .any, .any, .any, .any, .any, .any, .any, .any, .any, .any, .any, .any, .any, .any, .any, .any, .any, .any, .any, .any, .any], [], ⟨[], 0, []⟩⟩) (K .ret ⟨[.any, .any, .bool false, .any, .any, .any, .any, .any, .any, .any, .any, .any, .any, .any, .any, .any, .any, .any, .any, .any, .any, .any], [], ⟨[], 0, []⟩⟩)) false
theorem lcR : loopsOf codeR = [.loop bR] := by kernel_rfl
theorem t_fr (r : Option (List AV × Nat)) (ok : Bool) (K : AV → Bool) : runFM cR 300 28 [LFr r ok] [rowsV r] K = ba (onP (hr r 1 = hr r 1)) (br ok (K (.bool true)) (K (.bool false))) := by
  cases r with
  | none => kernel_rfl
  | some p => obtain ⟨a, b⟩ := p; kernel_rfl
theorem q_ris {L : RL} (hl : L.length ≤ 1000) : ACalls Tryd.prog (gmap gs) 28 [rowsV (rwo L)] (fun v => v = .bool (onP (Ris L))) := by
  refine acalls_eqM (q := fun _ => false) base sums_nil (n := 300) (fs := [LFr (rwo L) (onP (Ris L))]) (by kernel_rfl) ?_ fun K hK => ?_
  · show LoopsOk cR (loopsOf codeR) _
    rw [lcR]
    refine ⟨fun st K hk => ?_, trivial⟩
    obtain ⟨e1, e2⟩ := of_cond hk
    have e1 := of_onP e1
    refine AWq.less (fun w B oC oL ω a S => ⟨ω, (LessS.keepSH (C := cR) [0, 3] [] st).2 w B oC oL ω a S⟩) ?_
    rw [e1]
    refine AWq.post (K := fun e s => (e = .exit 0 ∧ Ris L ∧ ∃ i, s = hr (rwo L) i) ∨ (e = .ret ∧ ¬ Ris L ∧ ∃ i, s = hrF (rwo L) i)) (zr0 hl (fun h i => .inl ⟨rfl, h, i, rfl⟩) (fun h i => .inr ⟨rfl, h, i, rfl⟩)) ?_
    rintro e s (⟨rfl, h, i, rfl⟩ | ⟨rfl, h, i, rfl⟩)
    · rw [onP_true h] at e2
      refine ⟨⟨[.any, .any, .any, .any, .any, .any, .any, .any, .any, .any, .any, .any, .any, .any, .any, .any, .any, .any, .any, .any, .any, .any], [], ⟨[], 0, []⟩⟩, ?_, e2⟩
      have e : ∀ r, keepSH [] [] (hr r i) = ⟨[.any, .any, .any, .any, .any, .any, .any, .any, .any, .any, .any, .any, .any, .any, .any, .any, .any, .any, .any, .any, .any, .any], [], ⟨[], 0, []⟩⟩ := fun r => by cases r <;> kernel_rfl
      rw [← e (rwo L)]
      exact LessS.keepSH _ _ _
    · rw [show onP (Ris L) = false from @decide_eq_false _ (Classical.propDecidable _) h] at e2
      refine ⟨⟨[.any, .any, .bool false, .any, .any, .any, .any, .any, .any, .any, .any, .any, .any, .any, .any, .any, .any, .any, .any, .any, .any, .any], [], ⟨[], 0, []⟩⟩, ?_, e2⟩
      have e : ∀ r, keepSH [2] [] (hrF r i) = ⟨[.any, .any, .bool false, .any, .any, .any, .any, .any, .any, .any, .any, .any, .any, .any, .any, .any, .any, .any, .any, .any, .any, .any], [], ⟨[], 0, []⟩⟩ := fun r => by cases r <;> kernel_rfl
      rw [← e (rwo L)]
      exact LessS.keepSH _ _ _
  refine (t_fr _ _ K).trans (band (onP_true rfl) (bdt (fun h => ?_) (fun h => ?_)))
  · rw [h] at hK; exact hK
  · rw [h] at hK; exact hK
noncomputable def S_ris : Sum := (28, on1 rRw rwOk (fun r => .bool (onP (Ris (decR r)))))
theorem s_ris : SumOk Tryd.prog (gmap gs) S_ris := on1_sum fun r hp => by
  obtain ⟨h1, h2⟩ := of_onP hp
  have := q_ris (L := decR r) h2
  rw [← h1] at this
  exact this
/-! Off. -/
theorem sumsO : ∀ s ∈ [S_itU, S_topR], SumOk Tryd.prog (gmap gs) s := sums_cons s_itU (sums_cons s_topR sums_nil)
noncomputable abbrev cO : Cfg := cfg [S_itU, S_topR]
/-- Where a level begins. -/
noncomputable def offN (n w : Int) : Nat → Int
  | 0 => 1
  | q + 1 => offN n w q + f_up_0 n w (q : Int)
noncomputable def offW (n w : Int) : Nat → Int
  | 0 => 1
  | q + 1 => IntKind.wrap .i64 (offW n w q + f_up_0 n w (q : Int))
noncomputable def itsO (n w : Int) : Nat → Bool → Bool
  | 0, x => x
  | q + 1, x => itsO n w q (ba (itR n w (q : Int)) x)
noncomputable def tOff (c : Conf) (q : Nat) (i : Int) (K : AV → Bool) : Bool :=
  ba (f_width_0 c.cap 1 c.node) (br (decide ((q : Int) > Int.ofNat (lvN c.cap c.node) - 1)) (K (.int .i64 (-1))) (br (decide (i < 0)) (K (.int .i64 (-1))) (ba (itR c.cap c.node (q : Int)) (br (decide (i ≥ f_up_0 c.cap c.node (q : Int))) (K (.int .i64 (-1)))
    (itsO c.cap c.node q (K (.int .i64 (IntKind.wrap .i64 (offW c.cap c.node q + i)))))))))
theorem t_off (c : Conf) (q : Nat) (hq : q < 5) (i : Int) (K : AV → Bool) : runFM cO 300 36 [] [c.av, .int .i64 (q : Int), .int .i64 i] K = tOff c q i K := by
  rcases q with _ | _ | _ | _ | _ | q
  · kernel_rfl
  · kernel_rfl
  · kernel_rfl
  · kernel_rfl
  · kernel_rfl
  · omega
theorem up_bd {n w : Int} {q : Nat} (hn : f_width_0 n 1 w = true) (hq : q < 5) : itR n w (q : Int) = true ∧ 0 ≤ f_up_0 n w (q : Int) ∧ f_up_0 n w (q : Int) ≤ 32 := by
  obtain ⟨a0, a1, b0, b1⟩ := of_width hn
  have hr : itR n w (q : Int) = true := itR_true.2 ⟨by omega, by omega, by omega⟩
  have := up_it hr
  exact ⟨hr, this.2.1, by omega⟩
theorem off_bd {n w : Int} (hn : f_width_0 n 1 w = true) : ∀ q : Nat, q ≤ 5 → 1 ≤ offN n w q ∧ offN n w q ≤ 1 + 32 * (q : Int) ∧ offW n w q = offN n w q
  | 0, _ => ⟨Int.le_refl _, Int.le_refl _, rfl⟩
  | q + 1, h => by
    obtain ⟨h1, h2, h3⟩ := off_bd hn q (by omega)
    obtain ⟨_, u1, u2⟩ := up_bd hn (q := q) (by omega)
    refine ⟨?_, ?_, ?_⟩
    · show 1 ≤ offN n w q + _
      omega
    · show offN n w q + _ ≤ _
      omega
    · show IntKind.wrap .i64 (offW n w q + _) = offN n w q + _
      rw [h3]
      exact wI (by omega) (by omega)
theorem itsO_ok {n w : Int} (hn : f_width_0 n 1 w = true) : ∀ (q : Nat), q ≤ 5 → ∀ {x : Bool}, x = true → itsO n w q x = true
  | 0, _, x, hx => hx
  | q + 1, h, x, hx => itsO_ok hn q (by omega) (band (up_bd hn (by omega)).1 hx)
theorem q_off {c : Conf} (hw : f_width_0 c.cap 1 c.node = true) {q : Nat} (hq : q < lvN c.cap c.node) {i : Int} (h0 : 0 ≤ i) (h1 : i < f_up_0 c.cap c.node (q : Int)) : ACalls Tryd.prog (gmap gs) 36 [c.av, .int .i64 (q : Int), .int .i64 i] (fun v => v = .int .i64 (offN c.cap c.node q + i)) := by
  have hl := (lvN_is hw).2.2
  refine acalls_eqM (q := fun _ => false) base sumsO (n := 300) (fs := []) (by kernel_rfl) trivial fun K hK => ?_
  obtain ⟨a1, a2, a3⟩ := off_bd hw q (by omega)
  obtain ⟨b1, b2, b3⟩ := up_bd hw (q := q) (by omega)
  refine (t_off c q (by omega) i K).trans (band hw (btf (decide_eq_false (by show ¬ (q : Int) > (lvN c.cap c.node : Int) - 1; omega)) (btf (decide_eq_false (by omega)) (band b1 (btf (decide_eq_false (by omega)) (itsO_ok hw q (by omega) ?_))))))
  rw [a3, wI (by omega) (by omega)]
  exact hK
end Go.Bas.BasAvI1
end
section
namespace Go.Bas.BasAvG
open Go.RowKit Go.Proofs
open Go.Bas.BasZBase Go.Bas.BasAvR1 Go.Bas.BasAvR2 Go.Bas.BasAvR3 Go.Bas.BasAvL Go.Bas.BasAvF Go.Bas.BasAvW Go.Bas.BasAvA Go.Bas.BasZRank Go.Bas.BasZRank3 Go.Bas.BasZLev Go.Bas.BasZItems Go.Bas.BasAvI0 Go.Bas.BasAvIE Go.Bas.BasAvIE2 Go.Bas.BasAvI1
set_option maxRecDepth 100000
set_option maxHeartbeats 4000000
set_option linter.unusedVariables false
set_option linter.unusedSimpArgs false
/-- A config of an index that may be. -/
def IxOk (c : Conf) : Prop := 1 ≤ c.cap ∧ c.cap ≤ 32 ∧ 2 ≤ c.node ∧ c.node ≤ 4
theorem ix_w {c : Conf} (h : IxOk c) : f_width_0 c.cap 1 c.node = true := by
  obtain ⟨a, b, d, e⟩ := h
  rw [width_is, decide_eq_true a, decide_eq_true b, decide_eq_true d, decide_eq_true e]
  rfl
def setO (c : Conf) (o b : Int) : Conf := ⟨o, c.ins, c.thr, c.kind, c.str, b, c.cap, c.node, c.batch, c.chunk, c.limit, c.most⟩
theorem setO_is {c : Conf} {o b : Int} (ho : c.ob = o) (hb : c.bits = b) : c = setO c o b := by subst ho hb; rfl
theorem t_gr1 (c : Conf) (b : Nat) (h : b < 7) (K : AV → Bool) : runFM cR 300 17 [] [(setO c 1 (b : Int)).av] K = K (.int .i64 ((2 ^ (b + 1) : Nat) : Int)) := by
  rcases b with _ | _ | _ | _ | _ | _ | _ | b
  · kernel_rfl
  · kernel_rfl
  · kernel_rfl
  · kernel_rfl
  · kernel_rfl
  · kernel_rfl
  · kernel_rfl
  · omega
theorem t_gr3 (c : Conf) (K : AV → Bool) : runFM cR 300 17 [] [(setO c 3 c.bits).av] K = K (.int .i64 c.cap) := by kernel_rfl
theorem t_gr4 (c : Conf) (K : AV → Bool) : runFM cR 300 17 [] [(setO c 4 c.bits).av] K = K (.int .i64 c.cap) := by kernel_rfl
noncomputable def S_tl (l : Nat) : Sum := (24, on2 (rI .i64) (rI .i64) (fun n w => onP (f_width_0 n 1 w = true ∧ lvN n w = l)) (fun _ _ => .int .i64 ((l : Int) - 1)))
theorem s_tl (l : Nat) : SumOk Tryd.prog (gmap gs) (S_tl l) := on2_sum fun n w hp => by
  obtain ⟨h1, h2⟩ := of_onP hp
  have := s_topR [.int .i64 n, .int .i64 w] (.int .i64 ((lvN n w : Int) - 1)) (by
    show some (f_width_0 n 1 w, AV.int .i64 ((lvN n w : Int) - 1)) = _
    rw [h1])
  rw [h2] at this
  exact this
noncomputable def grT (n w : Int) (l : Nat) (K : AV → Bool) : Nat → Nat → Bool
  | 0, q => ba (onP (f_width_0 n 1 w = true ∧ lvN n w = l)) (K (.int .i64 (offW n w q)))
  | k + 1, q => ba (onP (f_width_0 n 1 w = true ∧ lvN n w = l)) (ba (itR n w (q : Int)) (grT n w l K k (q + 1)))
theorem t_gr2 (c : Conf) (l : Nat) (h0 : 1 ≤ l) (h : l ≤ 5) (K : AV → Bool) : runFM (cfg [S_itU, S_tl l]) 300 17 [] [(setO c 2 c.bits).av] K = grT c.cap c.node l K l 0 := by
  rcases l with _ | _ | _ | _ | _ | _ | l
  · omega
  · kernel_rfl
  · kernel_rfl
  · kernel_rfl
  · kernel_rfl
  · kernel_rfl
  · omega
theorem grT_ok {n w : Int} (hw : f_width_0 n 1 w = true) {K : AV → Bool} (hK : K (.int .i64 (offW n w (lvN n w))) = true) : ∀ k q : Nat, k + q = lvN n w → grT n w (lvN n w) K k q = true
  | 0, q, h => band (onP_true ⟨hw, rfl⟩) (by rw [show q = lvN n w by omega]; exact hK)
  | k + 1, q, h => band (onP_true ⟨hw, rfl⟩) (band (up_bd hw (by have := (lvN_is hw).2.2; omega)).1 (grT_ok hw hK k (q + 1) (by omega)))
/-- How many cells there are. -/
noncomputable def grI (c : Conf) : Int := if c.ob = 1 then ((2 ^ (c.bits.toNat + 1) : Nat) : Int) else if c.ob = 2 then offN c.cap c.node (lvN c.cap c.node) else c.cap
/-- A config whose object has a size. -/
def GrOk (c : Conf) : Prop := (c.ob = 1 ∧ 1 ≤ c.bits ∧ c.bits ≤ 6) ∨ (c.ob = 2 ∧ IxOk c) ∨ c.ob = 3 ∨ c.ob = 4
theorem q_gr {c : Conf} (h : GrOk c) : ACalls Tryd.prog (gmap gs) 17 [c.av] (fun v => v = .int .i64 (grI c)) := by
  rcases h with ⟨h1, h2, h3⟩ | ⟨h1, h2⟩ | h1 | h1
  · obtain ⟨b, hb⟩ : ∃ b : Nat, c.bits = (b : Int) := ⟨c.bits.toNat, by omega⟩
    refine acalls_eqM (q := fun _ => false) base sums_nil (n := 300) (fs := []) (by kernel_rfl) trivial fun K hK => ?_
    have e := setO_is h1 hb
    have hg : grI c = ((2 ^ (b + 1) : Nat) : Int) := by
      unfold grI
      rw [if_pos h1, hb]
      rfl
    rw [hg] at hK
    rw [e]
    exact (t_gr1 c b (by omega) K).trans hK
  · have hw := ix_w h2
    have hl := lvN_is hw
    refine acalls_eqM (q := fun _ => false) base (sums_cons s_itU (sums_cons (s_tl (lvN c.cap c.node)) sums_nil)) (n := 300) (fs := []) (by kernel_rfl) trivial fun K hK => ?_
    have hg : grI c = offN c.cap c.node (lvN c.cap c.node) := by
      unfold grI
      rw [if_neg (by omega), if_pos h1]
    rw [hg] at hK
    have e := setO_is h1 (rfl : c.bits = c.bits)
    have := t_gr2 c (lvN c.cap c.node) hl.2.1 hl.2.2 K
    rw [← e] at this
    exact this.trans (grT_ok hw (by rw [(off_bd hw _ hl.2.2).2.2]; exact hK) _ 0 rfl)
  · refine acalls_eqM (q := fun _ => false) base sums_nil (n := 300) (fs := []) (by kernel_rfl) trivial fun K hK => ?_
    have hg : grI c = c.cap := by
      unfold grI
      rw [if_neg (by omega), if_neg (by omega)]
    rw [hg] at hK
    have := t_gr3 c K
    rw [← setO_is h1 rfl] at this
    exact this.trans hK
  · refine acalls_eqM (q := fun _ => false) base sums_nil (n := 300) (fs := []) (by kernel_rfl) trivial fun K hK => ?_
    have hg : grI c = c.cap := by
      unfold grI
      rw [if_neg (by omega), if_neg (by omega)]
    rw [hg] at hK
    have := t_gr4 c K
    rw [← setO_is h1 rfl] at this
    exact this.trans hK
noncomputable def S_gr : Sum := (17, on1 rConf (fun c => onP (GrOk c)) (fun c => .int .i64 (grI c)))
theorem s_gr : SumOk Tryd.prog (gmap gs) S_gr := on1_sum fun c hp => q_gr (of_onP hp)
end Go.Bas.BasAvG
end
section
namespace Go.Bas.BasAvI2
open Go.RowKit Go.Proofs
open Go.Bas.BasZBase Go.Bas.BasAvR1 Go.Bas.BasAvR2 Go.Bas.BasAvR3 Go.Bas.BasAvL Go.Bas.BasAvF Go.Bas.BasAvW Go.Bas.BasAvA Go.Bas.BasZRank Go.Bas.BasZRank3 Go.Bas.BasZLev Go.Bas.BasAvI0 Go.Bas.BasAvIE Go.Bas.BasAvIE2 Go.Bas.BasAvI1 Go.Bas.BasAvG
set_option maxRecDepth 100000
set_option maxHeartbeats 4000000
set_option linter.unusedVariables false
set_option linter.unusedSimpArgs false
def offP (c : Conf) (q i : Int) : Prop := f_width_0 c.cap 1 c.node = true ∧ 0 ≤ q ∧ q < (lvN c.cap c.node : Int) ∧ 0 ≤ i ∧ i < f_up_0 c.cap c.node q
noncomputable def offI (c : Conf) (q : Int) : Int := offN c.cap c.node q.toNat
noncomputable def S_off : Sum := (36, on3 rConf (rI .i64) (rI .i64) (fun c q i => onP (offP c q i)) (fun c q i => .int .i64 (offI c q + i)))
theorem s_off : SumOk Tryd.prog (gmap gs) S_off := on3_sum fun c q i hp => by
  obtain ⟨h1, h2, h3, h4, h5⟩ := of_onP hp
  obtain ⟨Q, rfl⟩ := Int.eq_ofNat_of_zero_le h2
  exact q_off h1 (by omega) h4 h5
theorem t_t13 (c : Conf) (K : AV → Bool) : runFM cO 300 34 [] [c.av] K = ba (f_width_0 c.cap 1 c.node) (K (.int .i64 (Int.ofNat (lvN c.cap c.node) - 1))) := by kernel_rfl
noncomputable def S_t13 : Sum := (34, on1 rConf (fun c => f_width_0 c.cap 1 c.node) (fun c => .int .i64 (Int.ofNat (lvN c.cap c.node) - 1)))
theorem s_t13 : SumOk Tryd.prog (gmap gs) S_t13 := on1_sum fun c hp => acalls_eqM (q := fun _ => false) base sumsO (n := 300) (fs := []) (by kernel_rfl) trivial fun K hK => (t_t13 c K).trans (band hp hK)
theorem sumsL : ∀ s ∈ [S_itU, S_topR, S_endR, S_off, S_t13, S_gr], SumOk Tryd.prog (gmap gs) s := sums_cons s_itU (sums_cons s_topR (sums_cons s_endR (sums_cons s_off (sums_cons s_t13 (sums_cons s_gr sums_nil)))))
noncomputable abbrev cL : Cfg := cfg [S_itU, S_topR, S_endR, S_off, S_t13, S_gr]
theorem hCL : cL.Ok := cfg_ok base sumsL
noncomputable abbrev codeL : Code := fcode Tryd.prog 27
noncomputable abbrev l0 : Code := loopAt codeL [0]
noncomputable abbrev l2 : Code := loopAt codeL [1]
noncomputable abbrev l4 : Code := loopAt codeL [1, 0]
noncomputable def mL (c : Conf) (cs : List AV) : Mem := ⟨[(1, ⟨cs, 50, true⟩), (0, ⟨c.cells, 24, true⟩)], 2, []⟩
noncomputable def hL4 (c : Conf) (r : Option (List AV × Nat)) (cs : List AV) (g : Nat) (h i : Int) : St := ⟨[.any, rowsV r, .ptr 0 0, .any, .any, .sl 1 0 g 4 true, .any, .int .i64 h, .int .i64 i, .any, .any, .any, .any, .any, .any, .any, .any, .any, .any, .any, .any, .any, .any, .any, .any, .any, .any, .any, .any, .any, .any, .any, .any, .any, .any, .any, .any, .any, .any, .any, .any, .any, .any, .any, .any, .any, .any, .any, .any, .any, .any, .any, .any, .any, .any, .any, .any, .any, .any, .any, .any, .any, .any, .any, .any, .any, .any, .any, .any, .any, .any, .any, .any, .any, .any, .any, .any, .any, .any, .any, .any, .any, .any, .any, .any], [], mL c cs⟩
noncomputable def hL2 (c : Conf) (r : Option (List AV × Nat)) (cs : List AV) (g : Nat) (h : Int) : St := ⟨[.any, rowsV r, .ptr 0 0, .any, .any, .sl 1 0 g 4 true, .any, .int .i64 h, .any, .any, .any, .any, .any, .any, .any, .any, .any, .any, .any, .any, .any, .any, .any, .any, .any, .any, .any, .any, .any, .any, .any, .any, .any, .any, .any, .any, .any, .any, .any, .any, .any, .any, .any, .any, .any, .any, .any, .any, .any, .any, .any, .any, .any, .any, .any, .any, .any, .any, .any, .any, .any, .any, .any, .any, .any, .any, .any, .any, .any, .any, .any, .any, .any, .any, .any, .any, .any, .any, .any, .any, .any, .any, .any, .any, .any], [], mL c cs⟩
noncomputable def hL0 (c : Conf) (r : Option (List AV × Nat)) (cs : List AV) (g : Nat) (i : Int) : St := ⟨[.any, rowsV r, .ptr 0 0, .any, .any, .sl 1 0 g 4 true, .int .i64 i, .any, .any, .any, .any, .any, .any, .any, .any, .any, .any, .any, .any, .any, .any, .any, .any, .any, .any, .any, .any, .any, .any, .any, .any, .any, .any, .any, .any, .any, .any, .any, .any, .any, .any, .any, .any, .any, .any, .any, .any, .any, .any, .any, .any, .any, .any, .any, .any, .any, .any, .any, .any, .any, .any, .any, .any, .any, .any, .any, .any, .any, .any, .any, .any, .any, .any, .any, .any, .any, .any, .any, .any, .any, .any, .any, .any, .any, .any], [], mL c cs⟩
noncomputable def pos1 (c : Conf) (h i : Int) : Int := offI c h + i
noncomputable def pos2 (c : Conf) (r : Option (List AV × Nat)) (h i : Int) : Int := offI c (IntKind.wrap .i64 (h - 1)) + f_last_0 (rn r) c.node h i
noncomputable def wd (cs : List AV) (p : Int) (w : Nat) : Int := (lget cs ((0 + p.toNat * 4) + w)).toI
/-- A word of an own cell is read; is written. -/
noncomputable def rdW (cs : List AV) (g : Nat) (p : Int) (w : Nat) (x : Int → Bool) : Bool := ba (inside p g) (ba (Nat.ble (((0 + p.toNat * 4) + w) + 1) cs.length) (ba (AV.isI .u64 (lget cs ((0 + p.toNat * 4) + w))) (x (wd cs p w))))
noncomputable def wrW (cs : List AV) (g : Nat) (p : Int) (w : Nat) (v : Int) (x : List AV → Bool) : Bool := ba (inside p g) (ba (Nat.ble (((0 + p.toNat * 4) + w) + 1) cs.length) (x (cs.set ((0 + p.toNat * 4) + w) (.int .u64 v))))
theorem t_l4 (c : Conf) (r : Option (List AV × Nat)) (cs : List AV) (g : Nat) (h i : Int) (K : Ex → St → Bool) : runM cL 300 l4 [] (hL4 c r cs g h i) (fun e s => K e (keepSH [1, 2, 5, 7, 8] [0, 1] s)) =
    ba (itR (rn r) c.node h) (br (decide (i < f_up_0 (rn r) c.node h)) (ba (endOk (rn r) c.node h i) (ba (onP (offP c h i)) (ba (onP (offP c (IntKind.wrap .i64 (h - 1)) (f_last_0 (rn r) c.node h i)))
      (rdW cs g (pos2 c r h i) 1 fun v => wrW cs g (pos1 c h i) 1 v fun cs' => K .normal (hL4 c r cs' g h (IntKind.wrap .i64 (i + 1))))))) (K (.exit 4) (hL4 c r cs g h i))) := by
  cases r with
  | none => kernel_rfl
  | some p => obtain ⟨a, b⟩ := p; kernel_rfl
theorem t_l0 (c : Conf) (r : Option (List AV × Nat)) (cs : List AV) (g : Nat) (i : Int) (K : Ex → St → Bool) : runM cL 300 l0 [] (hL0 c r cs g i) (fun e s => K e (keepSH [1, 2, 5, 6] [0, 1] s)) =
    br (decide (i < rn r)) (ldK r i fun k => wrW cs g (IntKind.wrap .i64 (1 + i)) 1 k fun cs1 => ldR r i fun rs => ba (Nat.ble (i.toNat * 2 + 1 + 1) rs.length) (ba (AV.isI .u64 (lget rs (i.toNat * 2 + 1))) (wrW cs1 g (IntKind.wrap .i64 (1 + i)) 2 (lget rs (i.toNat * 2 + 1)).toI fun cs2 => K .normal (hL0 c r cs2 g (IntKind.wrap .i64 (i + 1)))))) (K (.exit 0) (hL0 c r cs g i)) := by
  cases r with
  | none => kernel_rfl
  | some p => obtain ⟨a, b⟩ := p; kernel_rfl
noncomputable def LF4 (c : Conf) (r : Option (List AV × Nat)) (cs cs' : List AV) (g : Nat) (h n : Int) : LF := fun st K => cond (onP (keepSH [1, 2, 5, 7, 8] [0, 1] st = hL4 c r cs g h 0)) (K (.exit 4) (hL4 c r cs' g h n)) false
theorem t_l2 (c : Conf) (r : Option (List AV × Nat)) (cs cs' : List AV) (g : Nat) (h n : Int) (K : Ex → St → Bool) : runM cL 300 l2 [LF4 c r cs cs' g h n] (hL2 c r cs g h) (fun e s => K e (keepSH [1, 2, 5, 7] [0, 1] s)) =
    ba (f_width_0 c.cap 1 c.node) (br (decide (h ≤ Int.ofNat (lvN c.cap c.node) - 1)) (ba (onP (hL4 c r cs g h 0 = hL4 c r cs g h 0)) (K .normal (hL2 c r cs' g (IntKind.wrap .i64 (h + 1))))) (K (.exit 2) (hL2 c r cs g h))) := by
  cases r with
  | none => kernel_rfl
  | some p => obtain ⟨a, b⟩ := p; kernel_rfl
theorem t_l2x (c : Conf) (r : Option (List AV × Nat)) (cs : List AV) (g : Nat) (h : Int) (K : Ex → St → Bool) : runM cL 300 l2 [fun _ _ => false] (hL2 c r cs g h) (fun e s => K e (keepSH [1, 2, 5, 7] [0, 1] s)) =
    ba (f_width_0 c.cap 1 c.node) (br (decide (h ≤ Int.ofNat (lvN c.cap c.node) - 1)) false (K (.exit 2) (hL2 c r cs g h))) := by
  cases r with
  | none => kernel_rfl
  | some p => obtain ⟨a, b⟩ := p; kernel_rfl
theorem ll4 : loopsOf l4 = [] := by kernel_rfl
theorem ll0 : loopsOf l0 = [] := by kernel_rfl
theorem ll2 : loopsOf l2 = [.loop l4] := by kernel_rfl
end Go.Bas.BasAvI2
end
section
namespace Go.Bas.BasAvI3
open Go.RowKit Go.Proofs
open Go.Bas.BasZBase Go.Bas.BasAvR1 Go.Bas.BasAvR2 Go.Bas.BasAvR3 Go.Bas.BasAvL Go.Bas.BasAvF Go.Bas.BasAvW Go.Bas.BasAvA Go.Bas.BasZRank Go.Bas.BasZRank3 Go.Bas.BasZLev Go.Bas.BasZItems Go.Bas.BasAvI0 Go.Bas.BasAvIE Go.Bas.BasAvIE2 Go.Bas.BasAvI1 Go.Bas.BasAvG Go.Bas.BasAvI2
set_option maxRecDepth 100000
set_option maxHeartbeats 4000000
set_option linter.unusedVariables false
set_option linter.unusedSimpArgs false
abbrev W (c : Conf) : Nat := c.node.toNat
abbrev CC (c : Conf) : Nat := c.cap.toNat
noncomputable abbrev lv (c : Conf) : Nat := lvN c.cap c.node
noncomputable def offM (C w : Nat) : Nat → Nat
  | 0 => 1
  | q + 1 => offM C w q + itm C w q
theorem cdiv_mono {m m' w : Nat} (h : m ≤ m') : cdiv m w ≤ cdiv m' w := Nat.div_le_div_right (by omega)
theorem itm_mono {m m' w : Nat} (h : m ≤ m') : ∀ q, itm m w q ≤ itm m' w q
  | 0 => h
  | q + 1 => cdiv_mono (itm_mono h q)
theorem up_n {c : Conf} (h : IxOk c) {n q : Nat} (hn : n ≤ 32) (hq : q ≤ 4) : f_up_0 (n : Int) c.node (q : Int) = ((itm n (W c) q : Nat) : Int) ∧ itR (n : Int) c.node (q : Int) = true := by
  obtain ⟨a, b, d, e⟩ := h
  have hr : itR (n : Int) c.node (q : Int) = true := itR_true.2 ⟨by omega, by omega, by omega⟩
  exact ⟨(up_it hr).1, hr⟩
theorem up_c {c : Conf} (h : IxOk c) {q : Nat} (hq : q ≤ 4) : f_up_0 c.cap c.node (q : Int) = ((itm (CC c) (W c) q : Nat) : Int) := by
  obtain ⟨a, b, d, e⟩ := h
  have := (up_n ⟨a, b, d, e⟩ (n := CC c) (q := q) (by show c.cap.toNat ≤ 32; omega) hq).1
  rwa [show ((CC c : Nat) : Int) = c.cap by show ((c.cap.toNat : Nat) : Int) = _; omega] at this
theorem off_n {c : Conf} (h : IxOk c) : ∀ q : Nat, q ≤ 5 → offN c.cap c.node q = ((offM (CC c) (W c) q : Nat) : Int)
  | 0, _ => rfl
  | q + 1, hq => by
    show offN c.cap c.node q + f_up_0 c.cap c.node (q : Int) = ((offM (CC c) (W c) q + itm (CC c) (W c) q : Nat) : Int)
    rw [off_n h q (by omega), up_c h (by omega)]
    omega
theorem itm_le32 {c : Conf} (h : IxOk c) {n : Nat} (hn : n ≤ 32) (q : Nat) : itm n (W c) q ≤ 32 := Nat.le_trans (itm_le (by have := h.2.2.1; show 0 < c.node.toNat; omega) q) hn
theorem off_le {c : Conf} (h : IxOk c) : ∀ q : Nat, offM (CC c) (W c) q ≤ 1 + 32 * q ∧ 1 ≤ offM (CC c) (W c) q
  | 0 => ⟨Nat.le_refl _, Nat.le_refl _⟩
  | q + 1 => by
    have := off_le h q
    have h2 := itm_le32 h (n := CC c) (by have := h.2.1; show c.cap.toNat ≤ 32; omega) q
    exact ⟨by show offM _ _ q + itm _ _ q ≤ _; omega, by show 1 ≤ offM _ _ q + itm _ _ q; omega⟩
theorem off_mono (C w : Nat) {q : Nat} : ∀ {q' : Nat}, q ≤ q' → offM C w q ≤ offM C w q'
  | 0, h => by rw [show q = 0 by omega]; exact Nat.le_refl _
  | q' + 1, h => by
    by_cases e : q = q' + 1
    · rw [e]; exact Nat.le_refl _
    · exact Nat.le_trans (off_mono C w (by omega)) (Nat.le_add_right _ _)
/-- The last item below one. -/
theorem last_n {c : Conf} (h : IxOk c) {n q i : Nat} (hn1 : 1 ≤ n) (hn : n ≤ 32) (hq : q + 1 ≤ 4) (hi : i < itm n (W c) (q + 1)) : endOk (n : Int) c.node ((q + 1 : Nat) : Int) (i : Int) = true ∧ f_last_0 (n : Int) c.node ((q + 1 : Nat) : Int) (i : Int) = ((lst (W c) i (itm n (W c) q) : Nat) : Int) ∧ lst (W c) i (itm n (W c) q) < itm n (W c) q := by
  have hi' := h
  obtain ⟨a, b, d, e⟩ := h
  obtain ⟨u1, u2⟩ := up_n hi' hn hq
  have he : endOk (n : Int) c.node ((q + 1 : Nat) : Int) (i : Int) = true := by
    unfold endOk
    rw [u1, u2, decide_eq_true (by omega), decide_eq_true (by omega), decide_eq_true (by omega), decide_eq_true (by omega)]
    rfl
  refine ⟨he, ?_, ?_⟩
  · have := (last_is he).1
    rw [show IntKind.wrap .i64 (((q + 1 : Nat) : Int) - 1) = (q : Int) by rw [wI (by omega) (by omega)]; omega] at this
    rw [(up_n hi' hn (by omega)).1] at this
    rw [← this]
    rfl
  · have hw : 0 < W c := by show 0 < c.node.toNat; omega
    have : i * W c < itm n (W c) q := (cdiv_lt hw).1 hi
    unfold lst
    rw [if_neg (by omega)]
    split
    · omega
    · omega
/-- The key of an item. -/
noncomputable def aT (L : RL) (w : Nat) : Nat → Nat → Int
  | 0, i => rk L i
  | q + 1, i => aT L w q (lst w i (itm L.length w q))
/-- What lies at a place from a level on. -/
noncomputable def wv (C w : Nat) (F : Nat → Nat → Int) : Nat → Nat → Nat → Int
  | 0, _, _ => 0
  | k + 1, q, p => if p < offM C w q + itm C w q then F q (p - offM C w q) else wv C w F k (q + 1) p
theorem wv_at (C w : Nat) (F : Nat → Nat → Int) {q i : Nat} (hi : i < itm C w q) : ∀ (k q' : Nat), q' ≤ q → q < q' + k → wv C w F k q' (offM C w q + i) = F q i
  | 0, q', h1, h2 => by omega
  | k + 1, q', h1, h2 => by
    unfold wv
    by_cases e : q' = q
    · subst e
      rw [if_pos (by omega), Nat.add_sub_cancel_left]
    · have := off_mono C w (q := q' + 1) (q' := q) (by omega)
      have hh : offM C w (q' + 1) = offM C w q' + itm C w q' := rfl
      rw [if_neg (by omega)]
      exact wv_at C w F hi k (q' + 1) (by omega) (by omega)
/-- Every place has its level. -/
theorem wv_ex (C w : Nat) : ∀ (Q p : Nat), 1 ≤ p → p < offM C w Q → ∃ q i, q < Q ∧ i < itm C w q ∧ p = offM C w q + i
  | 0, p, h1, h2 => by
    have h2 : p < 1 := h2
    omega
  | Q + 1, p, h1, h2 => by
    by_cases h : p < offM C w Q
    · obtain ⟨q, i, h3, h4, h5⟩ := wv_ex C w Q p h1 h
      exact ⟨q, i, by omega, h4, h5⟩
    · have h2 : p < offM C w Q + itm C w Q := h2
      exact ⟨Q, p - offM C w Q, by omega, by omega, by omega⟩
open Classical in
/-- An item's key, asv far asv they are laid. -/
noncomputable def fL (L : RL) (w H I q i : Nat) : Int := if i < itm L.length w q ∧ (q < H ∨ (q = H ∧ i < I)) then aT L w q i else 0
noncomputable def Lw (c : Conf) (L : RL) (H I p : Nat) : Nat → Int
  | 1 => if p = 0 then (L.length : Int) else wv (CC c) (W c) (fL L (W c) H I) 5 0 p
  | 2 => if 1 ≤ p ∧ p ≤ L.length then rv L (p - 1) else 0
  | _ => 0
/-- Cells by their words. -/
def celF (f : Nat → Nat → Int) (G : Nat) : List AV := (List.range (G * 4)).map fun j => .int .u64 (f (j / 4) (j % 4))
theorem celF_len (f : Nat → Nat → Int) (G : Nat) : (celF f G).length = G * 4 := by simp [celF]
theorem celF_at (f : Nat → Nat → Int) {G p w : Nat} (hp : p < G) (hw : w < 4) : lget (celF f G) (p * 4 + w) = .int .u64 (f p w) := by
  rw [lget_eq]
  have h : p * 4 + w < G * 4 := by omega
  simp [celF, h, show (p * 4 + w) / 4 = p by omega, show (p * 4 + w) % 4 = w by omega]
theorem celF_ext {f f' : Nat → Nat → Int} {G : Nat} (h : ∀ p w, p < G → w < 4 → f p w = f' p w) : celF f G = celF f' G := by
  unfold celF
  apply List.map_congr_left
  intro j hj
  have hj := List.mem_range.1 hj
  rw [h (j / 4) (j % 4) (by omega) (by omega)]
theorem celF_set {f f' : Nat → Nat → Int} {G p w : Nat} {v : Int} (hp : p < G) (hw : w < 4) (h1 : f' p w = v) (h : ∀ p' w', p' < G → w' < 4 → (p' ≠ p ∨ w' ≠ w) → f p' w' = f' p' w') : (celF f G).set (p * 4 + w) (.int .u64 v) = celF f' G := by
  apply List.ext_getElem
  · simp [celF]
  · intro j h2 h3
    have hj : j < G * 4 := by simpa [celF] using h3
    rw [List.getElem_set]
    by_cases e : p * 4 + w = j
    · rw [if_pos e]
      subst e
      simp [celF, show (p * 4 + w) / 4 = p by omega, show (p * 4 + w) % 4 = w by omega, h1]
    · rw [if_neg e]
      have := h (j / 4) (j % 4) (by omega) (by omega) (by omega)
      simp [celF, this]
end Go.Bas.BasAvI3
end
section
namespace Go.Bas.BasAvI4
open Go.RowKit Go.Proofs
open Go.Bas.BasZBase Go.Bas.BasAvR1 Go.Bas.BasAvR2 Go.Bas.BasAvR3 Go.Bas.BasAvL Go.Bas.BasAvF Go.Bas.BasAvW Go.Bas.BasAvA Go.Bas.BasZRank Go.Bas.BasZRank3 Go.Bas.BasZLev Go.Bas.BasZItems Go.Bas.BasAvI0 Go.Bas.BasAvIE Go.Bas.BasAvIE2 Go.Bas.BasAvI1 Go.Bas.BasAvG Go.Bas.BasAvI2 Go.Bas.BasAvI3
set_option maxRecDepth 100000
set_option maxHeartbeats 4000000
set_option linter.unusedVariables false
set_option linter.unusedSimpArgs false
noncomputable abbrev GG (c : Conf) : Nat := offM (CC c) (W c) (lv c)
theorem lv_bd {c : Conf} (h : IxOk c) : 1 ≤ lv c ∧ lv c ≤ 5 := (lvN_is (ix_w h)).2
theorem GG_bd {c : Conf} (h : IxOk c) : 1 + CC c ≤ GG c ∧ GG c ≤ 161 := by
  have h1 := off_mono (CC c) (W c) (q := 1) (q' := lv c) (lv_bd h).1
  have h2 := (off_le h (lv c)).1
  have h3 := (lv_bd h).2
  have e : offM (CC c) (W c) 1 = 1 + CC c := rfl
  exact ⟨by show 1 + CC c ≤ offM (CC c) (W c) (lv c); omega, by show offM (CC c) (W c) (lv c) ≤ 161; omega⟩
theorem rdW_ok {f : Nat → Nat → Int} {G p w : Nat} (hp : p < G) (hw : w < 4) {x : Int → Bool} (hx : x (f p w) = true) : rdW (celF f G) G (p : Int) w x = true := by
  have e : ((p : Nat) : Int).toNat = p := rfl
  unfold rdW wd
  rw [e, show (0 + p * 4) + w = p * 4 + w by omega, celF_at f hp hw]
  refine band ?_ (band (Nat.ble_eq_true_of_le (by rw [celF_len]; omega)) (band rfl hx))
  simp only [inside, Bool.and_eq_true, decide_eq_true_eq]
  omega
theorem wrW_ok {f f' : Nat → Nat → Int} {G p w : Nat} {v : Int} (hp : p < G) (hw : w < 4) (h1 : f' p w = v) (h : ∀ p' w', p' < G → w' < 4 → (p' ≠ p ∨ w' ≠ w) → f p' w' = f' p' w') {x : List AV → Bool} (hx : x (celF f' G) = true) : wrW (celF f G) G (p : Int) w v x = true := by
  have e : ((p : Nat) : Int).toNat = p := rfl
  unfold wrW
  rw [e, show (0 + p * 4) + w = p * 4 + w by omega, celF_set hp hw h1 h]
  refine band ?_ (band (Nat.ble_eq_true_of_le (by rw [celF_len]; omega)) hx)
  simp only [inside, Bool.and_eq_true, decide_eq_true_eq]
  omega
/-! The rows. -/
def f0 (L : RL) (i p : Nat) : Nat → Int
  | 1 => if p = 0 then (L.length : Int) else if p ≤ i then rk L (p - 1) else 0
  | 2 => if 1 ≤ p ∧ p ≤ i then rv L (p - 1) else 0
  | _ => 0
def f01 (L : RL) (i p : Nat) : Nat → Int
  | 1 => f0 L (i + 1) p 1
  | w => f0 L i p w
theorem f0_a (L : RL) (i : Nat) : ∀ p' w', (p' ≠ i + 1 ∨ w' ≠ 1) → f0 L i p' w' = f01 L i p' w'
  | p', 0, _ => rfl
  | p', 1, h => by
    show (if p' = 0 then (L.length : Int) else if p' ≤ i then rk L (p' - 1) else 0) = (if p' = 0 then (L.length : Int) else if p' ≤ i + 1 then rk L (p' - 1) else 0)
    have h : p' ≠ i + 1 := by omega
    by_cases e : p' = 0
    · rw [if_pos e, if_pos e]
    · rw [if_neg e, if_neg e]
      by_cases e2 : p' ≤ i
      · rw [if_pos e2, if_pos (show p' ≤ i + 1 by omega)]
      · rw [if_neg e2, if_neg (show ¬ p' ≤ i + 1 by omega)]
  | p', 2, _ => rfl
  | p', w + 3, _ => rfl
theorem f0_b (L : RL) (i : Nat) : ∀ p' w', (p' ≠ i + 1 ∨ w' ≠ 2) → f01 L i p' w' = f0 L (i + 1) p' w'
  | p', 0, _ => rfl
  | p', 1, _ => rfl
  | p', 2, h => by
    show (if 1 ≤ p' ∧ p' ≤ i then rv L (p' - 1) else 0) = (if 1 ≤ p' ∧ p' ≤ i + 1 then rv L (p' - 1) else 0)
    have h : p' ≠ i + 1 := by omega
    by_cases e2 : 1 ≤ p' ∧ p' ≤ i
    · rw [if_pos e2, if_pos (show 1 ≤ p' ∧ p' ≤ i + 1 by omega)]
    · rw [if_neg e2, if_neg (show ¬ (1 ≤ p' ∧ p' ≤ i + 1) by omega)]
  | p', w + 3, _ => rfl
theorem zl0 {c : Conf} (h : IxOk c) {L : RL} (hl : L.length ≤ CC c) {KK : Ex → St → Prop} (h1 : KK (.exit 0) (hL0 c (rwo L) (celF (f0 L L.length) (GG c)) (GG c) (L.length : Int))) : AWq cL (.loop l0) (hL0 c (rwo L) (celF (f0 L 0) (GG c)) (GG c) 0) KK := by
  have hG := GG_bd h
  refine awq_loopK hCL (ι := { i : Nat // i ≤ L.length }) (fun i => hL0 c (rwo L) (celF (f0 L i.1) (GG c)) (GG c) (i.1 : Int)) (fun i => L.length - i.1) (n := 300) (l := fun _ => []) (g := keepSH [1, 2, 5, 6] [0, 1]) (fun _ => by rw [ll0]; exact trivial) (fun s => LessS.keepSH _ _ s) ?_ ⟨0, Nat.zero_le _⟩
  rintro ⟨i, him⟩ K hk
  have hw : ((i : Nat) : Int).toNat = i := rfl
  refine (t_l0 c (rwo L) _ (GG c) (i : Int) K).trans (bdt (fun a => ?_) (fun a => hk _ _ ?_))
  · have a := of_decide_eq_true a
    rw [rn_is] at a
    have h' : i < L.length := by omega
    have e1 : IntKind.wrap .i64 ((i : Int) + 1) = ((i + 1 : Nat) : Int) := by rw [wI (by omega) (by omega)]; omega
    have e2 : IntKind.wrap .i64 (1 + (i : Int)) = ((i + 1 : Nat) : Int) := by rw [wI (by omega) (by omega)]; omega
    rw [e2, hw]
    refine ldK_ok h' (wrW_ok (f' := f01 L i) (by omega) (by omega) ?_ (fun p' w' _ _ hne => f0_a L i p' w' hne) (ldR_ok h' (band (Nat.ble_eq_true_of_le (by rw [enc_len]; omega)) ?_)))
    · show (if i + 1 = 0 then (L.length : Int) else if i + 1 ≤ i + 1 then rk L (i + 1 - 1) else 0) = rk L i
      rw [if_neg (show ¬ i + 1 = 0 by omega), if_pos (Nat.le_refl _), Nat.add_sub_cancel]
    · rw [enc_v L i h']
      refine band rfl (wrW_ok (f' := f0 L (i + 1)) (by omega) (by omega) ?_ (fun p' w' _ _ hne => f0_b L i p' w' hne) (hk _ _ ?_))
      · show (if 1 ≤ i + 1 ∧ i + 1 ≤ i + 1 then rv L (i + 1 - 1) else 0) = rv L i
        rw [if_pos (show 1 ≤ i + 1 ∧ i + 1 ≤ i + 1 by omega), Nat.add_sub_cancel]
      · rw [e1]
        exact .inl ⟨rfl, ⟨i + 1, h'⟩, by show L.length - (i + 1) < L.length - i; omega, Less.refl _⟩
  · have a := of_decide_eq_false a
    rw [rn_is] at a
    have h' : i = L.length := by omega
    subst h'
    exact .inr ⟨fun hh => (by cases hh), h1⟩
/-! A level. -/
theorem rn_n (L : RL) : rn (rwo L) = ((L.length : Nat) : Int) := rn_is L
theorem Lw_at (c : Conf) (L : RL) {H I q i : Nat} (hq : q < 5) (hi : i < itm (CC c) (W c) q) : Lw c L H I (offM (CC c) (W c) q + i) 1 = fL L (W c) H I q i := by
  have : 1 ≤ offM (CC c) (W c) q := Nat.le_trans (Nat.le_refl 1) (off_mono (CC c) (W c) (q := 0) (Nat.zero_le q))
  show (if offM (CC c) (W c) q + i = 0 then _ else _) = _
  rw [if_neg (by omega)]
  exact wv_at _ _ _ hi 5 0 (Nat.zero_le _) (by omega)
/-- Two ways that agree on all items agree on all places. -/
theorem Lw_eq {c : Conf} (h : IxOk c) (L : RL) {H I H' I' : Nat} (hf : ∀ q i, q < lv c → i < itm (CC c) (W c) q → fL L (W c) H I q i = fL L (W c) H' I' q i) {p : Nat} (hp : p < GG c) : ∀ w, Lw c L H I p w = Lw c L H' I' p w
  | 0 => rfl
  | 1 => by
    by_cases e : p = 0
    · subst e; rfl
    · obtain ⟨q, i, h1, h2, h3⟩ := wv_ex (CC c) (W c) (lv c) p (by omega) hp
      have := (lv_bd h).2
      subst h3
      rw [Lw_at c L (by omega) h2, Lw_at c L (by omega) h2]
      exact hf q i h1 h2
  | 2 => rfl
  | w + 3 => rfl
theorem zl4 {c : Conf} (hx : IxOk c) {L : RL} (hl : L.length ≤ CC c) {h : Nat} (h1 : 1 ≤ h) (h2 : h < lv c) {KK : Ex → St → Prop} (hK : KK (.exit 4) (hL4 c (rwo L) (celF (Lw c L h (itm L.length (W c) h)) (GG c)) (GG c) (h : Int) ((itm L.length (W c) h : Nat) : Int))) : AWq cL (.loop l4) (hL4 c (rwo L) (celF (Lw c L h 0) (GG c)) (GG c) (h : Int) 0) KK := by
  have hG := GG_bd hx
  have hv := lv_bd hx
  have hC : CC c ≤ 32 := by have := hx.2.1; show c.cap.toNat ≤ 32; omega
  refine awq_loopK hCL (ι := { i : Nat // i ≤ itm L.length (W c) h }) (fun i => hL4 c (rwo L) (celF (Lw c L h i.1) (GG c)) (GG c) (h : Int) (i.1 : Int)) (fun i => itm L.length (W c) h - i.1) (n := 300) (l := fun _ => []) (g := keepSH [1, 2, 5, 7, 8] [0, 1]) (fun _ => by rw [ll4]; exact trivial) (fun s => LessS.keepSH _ _ s) ?_ ⟨0, Nat.zero_le _⟩
  rintro ⟨i, him⟩ K hk
  obtain ⟨u1, u2⟩ := up_n hx (n := L.length) (q := h) (by omega) (by omega)
  refine (t_l4 c (rwo L) _ (GG c) (h : Int) (i : Int) K).trans ?_
  unfold pos1 pos2
  rw [rn_n, u1, u2]
  refine band rfl (bdt (fun a => ?_) (fun a => hk _ _ ?_))
  · have a := of_decide_eq_true a
    have hi : i < itm L.length (W c) h := by omega
    have hn1 : 1 ≤ L.length := by
      have := itm_le (m := L.length) (w := W c) (by have := hx.2.2.1; show 0 < c.node.toNat; omega) h
      omega
    have hC4 := itm_le32 hx (n := CC c) hC h
    have hmo := itm_mono (m := L.length) (m' := CC c) (w := W c) hl
    obtain ⟨k, rfl⟩ : ∃ k, h = k + 1 := ⟨h - 1, by omega⟩
    obtain ⟨x1, x2, x3⟩ := last_n hx (n := L.length) (q := k) (i := i) hn1 (by omega) (by omega) hi
    have e3 : IntKind.wrap .i64 (((k + 1 : Nat) : Int) - 1) = ((k : Nat) : Int) := by rw [wI (by omega) (by omega)]; omega
    have m1 := hmo (k + 1)
    have e1 : IntKind.wrap .i64 ((i : Int) + 1) = ((i + 1 : Nat) : Int) := by rw [wI (by omega) (by omega)]; omega
    have m0 := hmo k
    have o1 : offM (CC c) (W c) (k + 1) = offM (CC c) (W c) k + itm (CC c) (W c) k := rfl
    have o2 : offM (CC c) (W c) (k + 2) = offM (CC c) (W c) (k + 1) + itm (CC c) (W c) (k + 1) := rfl
    have o3 : offM (CC c) (W c) (k + 2) ≤ GG c := off_mono _ _ (by omega)
    rw [x1, x2, e3]
    have p1 : offI c ((k + 1 : Nat) : Int) + (i : Int) = ((offM (CC c) (W c) (k + 1) + i : Nat) : Int) := by
      show offN c.cap c.node (k + 1) + _ = _
      rw [off_n hx (k + 1) (by omega)]
      omega
    have p2 : offI c ((k : Nat) : Int) + ((lst (W c) i (itm L.length (W c) k) : Nat) : Int) = ((offM (CC c) (W c) k + lst (W c) i (itm L.length (W c) k) : Nat) : Int) := by
      show offN c.cap c.node k + _ = _
      rw [off_n hx k (by omega)]
      omega
    refine band rfl (band (onP_true ⟨ix_w hx, by omega, by show ((k + 1 : Nat) : Int) < ((lv c : Nat) : Int); omega, by omega, ?_⟩) (band (onP_true ⟨ix_w hx, by omega, by show ((k : Nat) : Int) < ((lv c : Nat) : Int); omega, by omega, ?_⟩) ?_))
    · rw [up_c hx (by omega)]
      omega
    · rw [up_c hx (by omega)]
      omega
    rw [p1, p2]
    have hv2 : Lw c L (k + 1) i (offM (CC c) (W c) k + lst (W c) i (itm L.length (W c) k)) 1 = aT L (W c) (k + 1) i := by
      rw [Lw_at c L (by omega) (by omega)]
      unfold fL
      rw [if_pos ⟨x3, .inl (by omega)⟩]
      rfl
    refine rdW_ok (by omega) (by omega) ?_
    rw [hv2]
    refine wrW_ok (f' := Lw c L (k + 1) (i + 1)) (by omega) (by omega) ?_ (fun p' w' hp' hw' hne => ?_) (hk _ _ ?_)
    · rw [Lw_at c L (by omega) (by omega)]
      unfold fL
      rw [if_pos ⟨hi, .inr ⟨rfl, by omega⟩⟩]
    · by_cases ew : w' = 1
      · subst ew
        by_cases e : p' = 0
        · subst e; rfl
        · obtain ⟨q, j, h3, h4, h5⟩ := wv_ex (CC c) (W c) (lv c) p' (by omega) hp'
          subst h5
          rw [Lw_at c L (by omega) h4, Lw_at c L (by omega) h4]
          unfold fL
          have hh : (j < itm L.length (W c) q ∧ (q < k + 1 ∨ (q = k + 1 ∧ j < i))) ↔ (j < itm L.length (W c) q ∧ (q < k + 1 ∨ (q = k + 1 ∧ j < i + 1))) := by
            constructor
            · rintro ⟨y1, y2 | ⟨y2, y3⟩⟩
              · exact ⟨y1, .inl y2⟩
              · exact ⟨y1, .inr ⟨y2, by omega⟩⟩
            · rintro ⟨y1, y2 | ⟨y2, y3⟩⟩
              · exact ⟨y1, .inl y2⟩
              · refine ⟨y1, .inr ⟨y2, ?_⟩⟩
                subst y2
                have : j ≠ i := fun ee => by subst ee; omega
                omega
          by_cases hd : j < itm L.length (W c) q ∧ (q < k + 1 ∨ (q = k + 1 ∧ j < i))
          · rw [if_pos hd, if_pos (hh.1 hd)]
          · rw [if_neg hd, if_neg (fun h => hd (hh.2 h))]
      · rcases w' with _ | _ | _ | w'
        · rfl
        · exact absurd rfl ew
        · rfl
        · rfl
    · rw [e1]
      exact .inl ⟨rfl, ⟨i + 1, hi⟩, by show itm L.length (W c) (k + 1) - (i + 1) < itm L.length (W c) (k + 1) - i; omega, Less.refl _⟩
  · have a := of_decide_eq_false a
    have h' : i = itm L.length (W c) h := by omega
    subst h'
    exact .inr ⟨fun hh => (by cases hh), hK⟩
theorem zl2 {c : Conf} (hx : IxOk c) {L : RL} (hl : L.length ≤ CC c) {KK : Ex → St → Prop} (hK : KK (.exit 2) (hL2 c (rwo L) (celF (Lw c L (lv c) 0) (GG c)) (GG c) ((lv c : Nat) : Int))) : AWq cL (.loop l2) (hL2 c (rwo L) (celF (Lw c L 1 0) (GG c)) (GG c) 1) KK := by
  have hv := lv_bd hx
  refine awq_loopK hCL (ι := { h : Nat // 1 ≤ h ∧ h ≤ lv c }) (fun h => hL2 c (rwo L) (celF (Lw c L h.1 0) (GG c)) (GG c) (h.1 : Int)) (fun h => lv c - h.1) (n := 300) (l := fun h => [cond (decide (h.1 < lv c)) (LF4 c (rwo L) (celF (Lw c L h.1 0) (GG c)) (celF (Lw c L h.1 (itm L.length (W c) h.1)) (GG c)) (GG c) (h.1 : Int) ((itm L.length (W c) h.1 : Nat) : Int)) (fun _ _ => false)]) (g := keepSH [1, 2, 5, 7] [0, 1]) (fun h => ?_) (fun s => LessS.keepSH _ _ s) ?_ ⟨1, Nat.le_refl _, hv.1⟩
  · rw [ll2]
    refine ⟨?_, trivial⟩
    by_cases hh : h.1 < lv c
    · rw [decide_eq_true hh]
      exact lf_ok (g := keepSH [1, 2, 5, 7, 8] [0, 1]) (fun s => LessS.keepSH _ _ s) (fun KK hk => zl4 hx hl h.2.1 hh hk)
    · rw [decide_eq_false hh]
      exact fun st k hk => by cases hk
  rintro ⟨h, h1, h2⟩ K hk
  by_cases hh : h < lv c
  · show runM cL 300 l2 [cond (decide (h < lv c)) _ _] _ _ = true
    rw [decide_eq_true hh, cond_true]
    refine (t_l2 c (rwo L) _ _ (GG c) (h : Int) _ K).trans (band (ix_w hx) (btb (decide_eq_true (by show (h : Int) ≤ ((lv c : Nat) : Int) - 1; omega)) (band (onP_true rfl) (hk _ _ ?_))))
    have e1 : IntKind.wrap .i64 ((h : Int) + 1) = ((h + 1 : Nat) : Int) := by rw [wI (by omega) (by omega)]; omega
    have e2 : celF (Lw c L h (itm L.length (W c) h)) (GG c) = celF (Lw c L (h + 1) 0) (GG c) := celF_ext fun p w hp _ => Lw_eq hx L (fun q i hq hi => by
      unfold fL
      have hhh : (i < itm L.length (W c) q ∧ (q < h ∨ (q = h ∧ i < itm L.length (W c) h))) ↔ (i < itm L.length (W c) q ∧ (q < h + 1 ∨ (q = h + 1 ∧ i < 0))) := by
        constructor
        · rintro ⟨y1, y2 | ⟨y2, y3⟩⟩
          · exact ⟨y1, .inl (by omega)⟩
          · exact ⟨y1, .inl (by omega)⟩
        · rintro ⟨y1, y2 | ⟨y2, y3⟩⟩
          · refine ⟨y1, ?_⟩
            by_cases e : q = h
            · subst e; exact .inr ⟨rfl, y1⟩
            · exact .inl (by omega)
          · omega
      by_cases hd : i < itm L.length (W c) q ∧ (q < h ∨ (q = h ∧ i < itm L.length (W c) h))
      · rw [if_pos hd, if_pos (hhh.1 hd)]
      · rw [if_neg hd, if_neg (fun h => hd (hhh.2 h))]) hp w
    rw [e1, e2]
    exact .inl ⟨rfl, ⟨h + 1, by omega, hh⟩, by show lv c - (h + 1) < lv c - h; omega, Less.refl _⟩
  · have h' : h = lv c := by omega
    subst h'
    show runM cL 300 l2 [cond (decide (lv c < lv c)) _ _] _ _ = true
    rw [decide_eq_false hh, cond_false]
    exact (t_l2x c (rwo L) _ (GG c) _ K).trans (band (ix_w hx) (btf (decide_eq_false (by show ¬ ((lv c : Nat) : Int) ≤ ((lv c : Nat) : Int) - 1; omega)) (hk _ _ (.inr ⟨fun hh => (by cases hh), hK⟩))))
end Go.Bas.BasAvI4
end
section
namespace Go.Bas.BasAvI5
open Go.RowKit Go.Proofs
open Go.Bas.BasZBase Go.Bas.BasAvR1 Go.Bas.BasAvR2 Go.Bas.BasAvR3 Go.Bas.BasAvL Go.Bas.BasAvF Go.Bas.BasAvW Go.Bas.BasAvA Go.Bas.BasZRank Go.Bas.BasZRank3 Go.Bas.BasZLev Go.Bas.BasZItems Go.Bas.BasAvI0 Go.Bas.BasAvIE Go.Bas.BasAvIE2 Go.Bas.BasAvI1 Go.Bas.BasAvG Go.Bas.BasAvI2 Go.Bas.BasAvI3 Go.Bas.BasAvI4
set_option maxRecDepth 100000
set_option maxHeartbeats 4000000
set_option linter.unusedVariables false
set_option linter.unusedSimpArgs false
noncomputable def zer4 (g : Nat) : List AV := List.flatten (List.replicate g [.int .u64 0, .int .u64 0, .int .u64 0, .int .u64 0])
noncomputable def mkg (c : Conf) (x : Bool) : Bool := ba (decide (0 ≤ grI c) && (decide (grI c ≤ grI c) && (Nat.ble (grI c).toNat 9223372036854775807 && Nat.ble ((grI c).toNat * 32) 140737488355328))) x
noncomputable def LF0 (c : Conf) (r : Option (List AV × Nat)) (cs cs' : List AV) (g : Nat) (n : Int) : LF := fun st K => cond (onP (keepSH [1, 2, 5, 6] [0, 1] st = hL0 c r cs g 0)) (K (.exit 0) (hL0 c r cs' g n)) false
noncomputable def LF2 (c : Conf) (r : Option (List AV × Nat)) (cs cs' : List AV) (g : Nat) (n : Int) : LF := fun st K => cond (onP (keepSH [1, 2, 5, 7] [0, 1] st = hL2 c r cs g 1)) (K (.exit 2) (hL2 c r cs' g n)) false
noncomputable def frzC (cs : List AV) (g : Nat) (K : AV → Bool) : Bool := br (Nat.beq g 0) (K .ns) (ba (Nat.ble (0 + g * 4) cs.length) (K (.lst (cs.take (g * 4)) g)))
theorem t_laid (c : Conf) (r : Option (List AV × Nat)) (c1 c2 c3 : List AV) (n1 n2 : Int) (K : AV → Bool) : runFM cL 300 27 [LF0 c r ((zer4 (grI c).toNat).set 1 (.int .u64 (IntKind.wrap .u64 (rn r)))) c1 (grI c).toNat n1, LF2 c r c1 c2 (grI c).toNat n2] [c.av, rowsV r] K =
    ba (onP (GrOk c)) (mkg c (ba (inside 0 (grI c).toNat) (ba (Nat.ble 2 (zer4 (grI c).toNat).length) (ba (onP (hL0 c r ((zer4 (grI c).toNat).set 1 (.int .u64 (IntKind.wrap .u64 (rn r)))) (grI c).toNat 0 = hL0 c r ((zer4 (grI c).toNat).set 1 (.int .u64 (IntKind.wrap .u64 (rn r)))) (grI c).toNat 0))
      (ba (onP (hL2 c r c1 (grI c).toNat 1 = hL2 c r c1 (grI c).toNat 1)) (frzC c2 (grI c).toNat K)))))) := by
  cases r with
  | none => kernel_rfl
  | some p => obtain ⟨a, b⟩ := p; kernel_rfl
theorem gr_is {c : Conf} (h : IxOk c) (ho : c.ob = 2) : grI c = ((GG c : Nat) : Int) := by
  unfold grI
  rw [if_neg (by omega), if_pos ho]
  exact off_n h (lv c) (lv_bd h).2
theorem zer4_is (g : Nat) : zer4 g = List.replicate (g * 4) (AV.int .u64 0) := by
  unfold zer4
  induction g with
  | zero => rfl
  | succ n ih =>
    rw [List.replicate_succ, List.flatten_cons, ih, show (n + 1) * 4 = n * 4 + 1 + 1 + 1 + 1 by omega, List.replicate_succ, List.replicate_succ, List.replicate_succ, List.replicate_succ]
    rfl
theorem zer4_c (g : Nat) : zer4 g = celF (fun _ _ => 0) g := by
  rw [zer4_is]
  unfold celF
  apply List.ext_getElem
  · simp
  · intro j h1 h2
    simp
theorem zer4_n (L : RL) {g : Nat} (h : 1 ≤ g) : (zer4 g).set 1 (.int .u64 (L.length : Int)) = celF (f0 L 0) g := by
  rw [zer4_c]
  refine celF_set (f := fun _ _ => 0) (f' := f0 L 0) (p := 0) (w := 1) (by omega) (by omega) rfl (fun p w _ _ hne => ?_)
  rcases w with _ | _ | _ | w
  · rfl
  · have hp : p ≠ 0 := by omega
    show (0 : Int) = (if p = 0 then (L.length : Int) else if p ≤ 0 then rk L (p - 1) else 0)
    rw [if_neg hp, if_neg (by omega)]
  · show (0 : Int) = (if 1 ≤ p ∧ p ≤ 0 then rv L (p - 1) else 0)
    rw [if_neg (by omega)]
  · rfl
theorem f0_Lw {c : Conf} (h : IxOk c) {L : RL} (hl : L.length ≤ CC c) : celF (f0 L L.length) (GG c) = celF (Lw c L 1 0) (GG c) := celF_ext fun p w hp hw => by
  have hv := lv_bd h
  rcases w with _ | _ | _ | w
  · rfl
  · by_cases e : p = 0
    · subst e; rfl
    · obtain ⟨q, i, h1, h2, h3⟩ := wv_ex (CC c) (W c) (lv c) p (by omega) hp
      subst h3
      rw [Lw_at c L (by omega) h2]
      show (if offM (CC c) (W c) q + i = 0 then (L.length : Int) else if offM (CC c) (W c) q + i ≤ L.length then rk L (offM (CC c) (W c) q + i - 1) else 0) = _
      rw [if_neg e]
      unfold fL
      have o1 : offM (CC c) (W c) 1 = 1 + CC c := rfl
      by_cases hq : q = 0
      · subst hq
        have o0 : offM (CC c) (W c) 0 = 1 := rfl
        rw [o0]
        by_cases hi : i < L.length
        · rw [if_pos (by omega), if_pos ⟨hi, .inl (by omega)⟩, show 1 + i - 1 = i by omega]
          rfl
        · rw [if_neg (by omega), if_neg (fun hh => hi hh.1)]
      · have := off_mono (CC c) (W c) (q := 1) (q' := q) (by omega)
        rw [if_neg (by omega), if_neg (by omega)]
  · rfl
  · rfl
theorem frzC_ok {f : Nat → Nat → Int} {G : Nat} (h : 1 ≤ G) {K : AV → Bool} (hK : K (.lst (celF f G) G) = true) : frzC (celF f G) G K = true := by
  have hl := celF_len f G
  refine btf (by cases G with | zero => omega | succ n => rfl) (band (Nat.ble_eq_true_of_le (by omega)) ?_)
  rw [List.take_of_length_le (by omega)]
  exact hK
theorem l_cL : loopsOf codeL = [.loop l0, .loop l2] := by kernel_rfl
/-- The cells of rows. -/
noncomputable def wantC (c : Conf) (L : RL) : List AV := celF (Lw c L (lv c) 0) (GG c)
theorem wU32 {n : Nat} (h : n ≤ 32) : IntKind.wrap .u64 (n : Int) = (n : Int) := wU (by omega) (by omega)
theorem q_laid {c : Conf} (h : IxOk c) (ho : c.ob = 2) {L : RL} (hl : L.length ≤ CC c) : ACalls Tryd.prog (gmap gs) 27 [c.av, rowsV (rwo L)] (fun v => v = .lst (wantC c L) (GG c)) := by
  have hG := GG_bd h
  have hC : CC c ≤ 32 := by have := h.2.1; show c.cap.toNat ≤ 32; omega
  have eg := gr_is h ho
  have egn : (grI c).toNat = GG c := by rw [eg]; rfl
  refine acalls_eqM (q := fun _ => false) base sumsL (n := 300) (fs := [LF0 c (rwo L) ((zer4 (grI c).toNat).set 1 (.int .u64 (IntKind.wrap .u64 (rn (rwo L))))) (celF (f0 L L.length) (GG c)) (grI c).toNat (L.length : Int), LF2 c (rwo L) (celF (f0 L L.length) (GG c)) (wantC c L) (grI c).toNat ((lv c : Nat) : Int)]) (by kernel_rfl) ?_ fun K hK => ?_
  · show LoopsOk cL (loopsOf codeL) _
    rw [l_cL, egn, rn_n, wU32 (by omega), zer4_n L (by omega)]
    refine ⟨lf_ok (g := keepSH [1, 2, 5, 6] [0, 1]) (fun s => LessS.keepSH _ _ s) (fun KK hk => zl0 h hl hk), ?_, trivial⟩
    rw [f0_Lw h hl]
    exact lf_ok (g := keepSH [1, 2, 5, 7] [0, 1]) (fun s => LessS.keepSH _ _ s) (fun KK hk => zl2 h hl hk)
  refine (t_laid c (rwo L) (celF (f0 L L.length) (GG c)) (wantC c L) [] _ _ K).trans (band (onP_true (.inr (.inl ⟨ho, h⟩))) ?_)
  unfold mkg
  rw [egn, eg]
  refine band ?_ (band ?_ (band (Nat.ble_eq_true_of_le ?_) (band (onP_true rfl) (band (onP_true rfl) (frzC_ok (by omega) hK)))))
  · simp only [Bool.and_eq_true, decide_eq_true_eq, Nat.ble_eq]
    omega
  · simp only [inside, Bool.and_eq_true, decide_eq_true_eq]
    omega
  · rw [zer4_is, List.length_replicate]
    omega
noncomputable def S_laid : Sum := (27, on2 rConf rRw (fun c r => onP (IxOk c ∧ c.ob = 2 ∧ r = rwo (decR r) ∧ (decR r).length ≤ CC c)) (fun c r => .lst (wantC c (decR r)) (GG c)))
theorem s_laid : SumOk Tryd.prog (gmap gs) S_laid := on2_sum fun c r hp => by
  obtain ⟨h1, h2, h3, h4⟩ := of_onP hp
  have := q_laid h1 h2 h4
  rw [← h3] at this
  exact this
end Go.Bas.BasAvI5
end
section
namespace Go.Bas.BasAvI6
open Go.RowKit Go.Proofs
open Go.Bas.BasZBase Go.Bas.BasAvR1 Go.Bas.BasAvR2 Go.Bas.BasAvR3 Go.Bas.BasAvL Go.Bas.BasAvF Go.Bas.BasAvW Go.Bas.BasAvP1 Go.Bas.BasAvP2 Go.Bas.BasAvA Go.Bas.BasZRank Go.Bas.BasZRank3 Go.Bas.BasZLev Go.Bas.BasZItems Go.Bas.BasAvI0 Go.Bas.BasAvIE Go.Bas.BasAvIE2 Go.Bas.BasAvI1 Go.Bas.BasAvG Go.Bas.BasAvI2 Go.Bas.BasAvI3 Go.Bas.BasAvI4 Go.Bas.BasAvI5
set_option maxRecDepth 100000
set_option maxHeartbeats 4000000
set_option linter.unusedVariables false
set_option linter.unusedSimpArgs false
theorem sumsX : ∀ s ∈ [S_laid, S_ris], SumOk Tryd.prog (gmap gs) s := sums_cons s_laid (sums_cons s_ris sums_nil)
noncomputable abbrev cX : Cfg := cfg [S_laid, S_ris]
theorem hCX : cX.Ok := cfg_ok base sumsX
noncomputable abbrev codeX : Code := fcode Tryd.prog 19
noncomputable abbrev x0 : Code := loopAt codeX [0]
noncomputable abbrev x2 : Code := loopAt codeX [1]
noncomputable def hX0 (c : Conf) (us : List AV) (m : Nat) (r : Option (List AV × Nat)) (i : Int) (nx : Nat) : St := ⟨[.any, .lst us m, .ptr 0 0, .any, .any, .any, rwV r, .int .i64 i, .any, .any, .any, .any, .any, .any, .any, .any, .any, .any, .any, .any, .any, .any, .any, .any, .any, .any, .any, .any, .any, .any, .any, .any, .any, .any, .any, .any, .any, .any, .any, .any, .any, .any, .any, .any, .any, .any, .any, .any, .any, .any, .any, .any, .any, .any, .any, .any, .any, .any, .any, .any, .any, .any, .any, .any, .any, .any, .any, .any, .any, .any, .any, .any, .any, .any, .any, .any, .any, .any, .any, .any, .any, .any, .any, .any, .any, .any, .any, .any, .any, .any, .any, .any, .any], [], ⟨rwH r ++ [(0, ⟨c.cells, 24, true⟩)], nx, []⟩⟩
noncomputable def hX4 (c : Conf) (us : List AV) (m : Nat) (cs : List AV) (q : Nat) (i : Int) : St := ⟨[.any, .lst us m, .ptr 0 0, .any, .any, .any, .sl 4 0 q 2 true, .int .i64 i, .any, .any, .any, .any, .any, .any, .any, .any, .any, .any, .any, .any, .any, .any, .any, .any, .any, .any, .any, .any, .any, .any, .any, .any, .any, .any, .any, .any, .any, .any, .any, .any, .any, .any, .any, .any, .any, .any, .any, .any, .any, .any, .any, .any, .any, .any, .any, .any, .any, .any, .any, .any, .any, .any, .any, .any, .any, .any, .any, .any, .any, .any, .any, .any, .any, .any, .any, .any, .any, .any, .any, .any, .any, .any, .any, .any, .any, .any, .any, .any, .any, .any, .any, .any, .any], [], ⟨[(4, ⟨cs, 47, true⟩), (0, ⟨c.cells, 24, true⟩)], 5, []⟩⟩
noncomputable def hXr (c : Conf) (us : List AV) (m : Nat) (r : Option (List AV × Nat)) (i : Int) : St := ⟨[.any, .lst us m, .ptr 0 0, .any, .nils, .bool false, rwV r, .int .i64 i, .any, .any, .any, .any, .any, .any, .any, .any, .any, .any, .any, .any, .any, .any, .any, .any, .any, .any, .any, .any, .any, .any, .any, .any, .any, .any, .any, .any, .any, .any, .any, .any, .any, .any, .any, .any, .any, .any, .any, .any, .any, .any, .any, .any, .any, .any, .any, .any, .any, .any, .any, .any, .any, .any, .any, .any, .any, .any, .any, .any, .any, .any, .any, .any, .any, .any, .any, .any, .any, .any, .any, .any, .any, .any, .any, .any, .any, .any, .any, .any, .any, .any, .any, .any, .any], [], ⟨rwH r ++ [(0, ⟨c.cells, 24, true⟩)], 3, []⟩⟩
noncomputable def hX2 (us : List AV) (m : Nat) (r : Option (List AV × Nat)) (vs : List AV) (g : Nat) (i : Int) : St := ⟨[.any, .lst us m, .any, .any, .any, .any, rwV r, .any, .any, .lst vs g, .int .i64 i, .any, .any, .any, .any, .any, .any, .any, .any, .any, .any, .any, .any, .any, .any, .any, .any, .any, .any, .any, .any, .any, .any, .any, .any, .any, .any, .any, .any, .any, .any, .any, .any, .any, .any, .any, .any, .any, .any, .any, .any, .any, .any, .any, .any, .any, .any, .any, .any, .any, .any, .any, .any, .any, .any, .any, .any, .any, .any, .any, .any, .any, .any, .any, .any, .any, .any, .any, .any, .any, .any, .any, .any, .any, .any, .any, .any, .any, .any, .any, .any, .any, .any], [], ⟨rwH r, 2, []⟩⟩
noncomputable def hX2r (us : List AV) (m : Nat) (r : Option (List AV × Nat)) (vs : List AV) (g : Nat) (i : Int) : St := ⟨[.any, .lst us m, .any, .any, .nils, .bool false, rwV r, .any, .any, .lst vs g, .int .i64 i, .any, .any, .any, .any, .any, .any, .any, .any, .any, .any, .any, .any, .any, .any, .any, .any, .any, .any, .any, .any, .any, .any, .any, .any, .any, .any, .any, .any, .any, .any, .any, .any, .any, .any, .any, .any, .any, .any, .any, .any, .any, .any, .any, .any, .any, .any, .any, .any, .any, .any, .any, .any, .any, .any, .any, .any, .any, .any, .any, .any, .any, .any, .any, .any, .any, .any, .any, .any, .any, .any, .any, .any, .any, .any, .any, .any, .any, .any, .any, .any, .any, .any], [], ⟨rwH r, 2, []⟩⟩
theorem t_x0 (c : Conf) (us : List AV) (m : Nat) (r : Option (List AV × Nat)) (i : Int) (K : Ex → St → Bool) : runM cX 300 x0 [] (hX0 c us m r i 2) (fun e s => K e (keepSH [1, 2, 4, 5, 6, 7] [0, 1, 4] s)) =
    ldC us m 0 1 (br (decide (i < IntKind.wrap .i64 (gA us 0))) (ld4 us m (IntKind.wrap .i64 (1 + i)) (br (decide (gA us (IntKind.wrap .i64 (1 + i)) > 2147483647)) (K .ret (hXr c us m r i)) (br (decide (gB us (IntKind.wrap .i64 (1 + i)) > 2147483647)) (K .ret (hXr c us m r i))
      (apC r (K .normal (hX4 c us m (apCs r [.int .u64 (gA us (IntKind.wrap .i64 (1 + i))), .int .u64 (gB us (IntKind.wrap .i64 (1 + i)))]) (apQ r) (IntKind.wrap .i64 (i + 1)))))))) (K (.exit 0) (hX0 c us m r i 2))) := by
  cases r with
  | none => kernel_rfl
  | some p => obtain ⟨a, b⟩ := p; kernel_rfl
/-- A word of a list of cells. -/
noncomputable def ldD (us : List AV) (m : Nat) (i : Int) (w : Nat) (x : Int → Bool) : Bool := ldC us m i w (x (lget us (i.toNat * 4 + w)).toI)
theorem t_x2 (us : List AV) (m : Nat) (r : Option (List AV × Nat)) (vs : List AV) (g : Nat) (i : Int) (K : Ex → St → Bool) : runM cX 300 x2 [] (hX2 us m r vs g i) (fun e s => K e (keepSH [1, 4, 5, 6, 9, 10] [1] s)) =
    br (decide (i < Int.ofNat m)) (ldD us m i 1 fun a => ldD vs g i 1 fun a' => br (!decide (a = a')) (K .ret (hX2r us m r vs g i)) (ldD us m i 2 fun b => ldD vs g i 2 fun b' => br (!decide (b = b')) (K .ret (hX2r us m r vs g i)) (ldD us m i 3 fun d => br (!decide (d = 0)) (K .ret (hX2r us m r vs g i))
      (K .normal (hX2 us m r vs g (IntKind.wrap .i64 (i + 1))))))) (K (.exit 2) (hX2 us m r vs g i)) := by
  cases r with
  | none => kernel_rfl
  | some p => obtain ⟨a, b⟩ := p; kernel_rfl
theorem lx0 : loopsOf x0 = [] := by kernel_rfl
theorem lx2 : loopsOf x2 = [] := by kernel_rfl
theorem ren_X4 (c : Conf) (us : List AV) (m : Nat) (cs : List AV) (q : Nat) (i : Int) : Less cX (hX4 c us m cs q i) (hX0 c us m (some (cs, q)) i 2) := by
  have h := Less.ren (C := cX) [(4, 1), (0, 0)] 2 (st := hX4 c us m cs q i) rfl rfl (by kernel_rfl)
  have e : renS [(4, 1), (0, 0)] 2 (hX4 c us m cs q i) = hX0 c us m (some (cs, q)) i 2 := by kernel_rfl
  rw [e] at h
  exact h
theorem ren_X1 (c : Conf) (us : List AV) (m : Nat) (i : Int) : Less cX (hX0 c us m none i 1) (hX0 c us m none i 2) := by
  have h := Less.ren (C := cX) [(0, 0)] 2 (st := hX0 c us m none i 1) rfl rfl (by kernel_rfl)
  have e : renS [(0, 0)] 2 (hX0 c us m none i 1) = hX0 c us m none i 2 := by kernel_rfl
  rw [e] at h
  exact h
/-- The rows asv they stand in the cells. -/
noncomputable def rwX (us : List AV) : Nat → RL
  | 0 => []
  | i + 1 => rwX us i ++ [(cA us (1 + i), cB us (1 + i))]
theorem rwX_len (us : List AV) : ∀ i, (rwX us i).length = i
  | 0 => rfl
  | i + 1 => by
    show (rwX us i ++ _).length = _
    rw [List.length_append, rwX_len us i]
    rfl
theorem rwX_at (us : List AV) : ∀ (n i : Nat), i < n → rk (rwX us n) i = cA us (1 + i) ∧ rv (rwX us n) i = cB us (1 + i)
  | 0, i, h => absurd h (Nat.not_lt_zero _)
  | n + 1, i, h => by
    have hl := rwX_len us n
    unfold rk rv
    show (((rwX us n) ++ [(cA us (1 + n), cB us (1 + n))]).getD i (0, 0)).1 = _ ∧ (((rwX us n) ++ [(cA us (1 + n), cB us (1 + n))]).getD i (0, 0)).2 = _
    by_cases e : i = n
    · subst e
      rw [List.getD_eq_getElem?_getD, List.getElem?_append_right (by omega), hl, Nat.sub_self]
      exact ⟨rfl, rfl⟩
    · rw [List.getD_eq_getElem?_getD, List.getElem?_append_left (by omega)]
      have := rwX_at us n i (by omega)
      unfold rk rv at this
      rw [List.getD_eq_getElem?_getD] at this
      exact this
def RwBad (us : List AV) (i : Nat) : Prop := cA us (1 + i) > 2147483647 ∨ cB us (1 + i) > 2147483647
theorem zx0 {c : Conf} {us : List AV} {m n : Nat} (hc : CL us m) (hn : cA us 0 = (n : Int)) (hnm : n < m) {KK : Ex → St → Prop} (h1 : (∀ i, i < n → ¬ RwBad us i) → KK (.exit 0) (hX0 c us m (rwo (rwX us n)) (n : Int) 2)) (h0 : (∃ i, i < n ∧ RwBad us i) → ∀ r i, KK .ret (hXr c us m r i)) : AWq cX (.loop x0) (hX0 c us m none 0 2) KK := by
  have hm := hc.2.1
  refine awq_loopK hCX (ι := { i : Nat // i ≤ n ∧ ∀ j, j < i → ¬ RwBad us j }) (fun i => hX0 c us m (rwo (rwX us i.1)) (i.1 : Int) 2) (fun i => n - i.1) (n := 300) (l := fun _ => []) (g := keepSH [1, 2, 4, 5, 6, 7] [0, 1, 4]) (fun _ => by rw [lx0]; exact trivial) (fun s => LessS.keepSH _ _ s) ?_ ⟨0, Nat.zero_le _, fun j h => absurd h (Nat.not_lt_zero _)⟩
  rintro ⟨i, him, hi⟩ K hk
  refine (t_x0 c us m (rwo (rwX us i)) (i : Int) K).trans (ldC_ok (i := 0) hc (by omega) (by omega) ?_)
  have e0 : IntKind.wrap .i64 (gA us 0) = (n : Int) := by
    show IntKind.wrap .i64 (cA us 0) = _
    rw [hn, wI (by omega) (by omega)]
  rw [e0]
  have hll := rwX_len us i
  refine bdt (fun a => ?_) (fun a => hk _ _ ?_)
  · have a := of_decide_eq_true a
    have h' : i < n := by omega
    have e1 : IntKind.wrap .i64 ((i : Int) + 1) = ((i + 1 : Nat) : Int) := by rw [wI (by omega) (by omega)]; omega
    have e2 : IntKind.wrap .i64 (1 + (i : Int)) = ((1 + i : Nat) : Int) := by rw [wI (by omega) (by omega)]; omega
    rw [e2]
    refine ld4_ok hc (by omega) ?_
    rw [show gA us ((1 + i : Nat) : Int) = cA us (1 + i) from rfl, show gB us ((1 + i : Nat) : Int) = cB us (1 + i) from rfl]
    have bad : RwBad us i → ∀ r j, K .ret (hXr c us m r j) = true := fun hb r j => hk _ _ (.inr ⟨fun hh => (by cases hh), h0 ⟨i, h', hb⟩ r j⟩)
    refine bdt (fun b1 => bad (.inl (of_decide_eq_true b1)) _ _) (fun b1 => bdt (fun b2 => bad (.inr (of_decide_eq_true b2)) _ _) (fun b2 => apx_ok (by omega) (hk _ _ ?_)))
    have b1 := of_decide_eq_false b1
    have b2 := of_decide_eq_false b2
    refine .inl ⟨rfl, ⟨i + 1, h', fun j hj => ?_⟩, by show n - (i + 1) < n - i; omega, ?_⟩
    · by_cases e : j = i
      · subst e
        rintro (hh | hh)
        · exact b1 hh
        · exact b2 hh
      · exact hi j (by omega)
    · show Less cX _ (hX0 c us m (rwo (rwX us i ++ [(cA us (1 + i), cB us (1 + i))])) ((i + 1 : Nat) : Int) 2)
      rw [e1, ← apx]
      exact ren_X4 _ _ _ _ _ _
  · have a := of_decide_eq_false a
    have h' : i = n := by omega
    subst h'
    exact .inr ⟨fun hh => (by cases hh), h1 hi⟩
/-! The cells are asv they are to be. -/
theorem ldD_ok {us : List AV} {m : Nat} (hc : CL us m) {i : Nat} (hi : i < m) {w : Nat} (hw : w < 4) {x : Int → Bool} (hx : x (lget us (i * 4 + w)).toI = true) : ldD us m (i : Int) w x = true := ldC_ok hc hi hw hx
theorem ldD_c {f : Nat → Nat → Int} {G p w : Nat} (hp : p < G) (hw : w < 4) {x : Int → Bool} (hx : x (f p w) = true) : ldD (celF f G) G (p : Int) w x = true := by
  have e : ((p : Nat) : Int).toNat = p := rfl
  unfold ldD ldC
  rw [e, celF_at f hp hw]
  refine band ?_ (band (Nat.ble_eq_true_of_le (by rw [celF_len]; omega)) (band rfl hx))
  rw [celF_len]
  simp only [inside, Bool.and_eq_true, decide_eq_true_eq]
  exact ⟨⟨Int.natCast_nonneg _, by omega⟩, Nat.beq_refl _⟩
/-- A cell is asv it is to be. -/
def CelOk (us : List AV) (f : Nat → Nat → Int) (p : Nat) : Prop := cA us p = f p 1 ∧ cB us p = f p 2 ∧ cC us p = 0
theorem zx2 {us : List AV} {m : Nat} (hc : CL us m) (r : Option (List AV × Nat)) (f : Nat → Nat → Int) {KK : Ex → St → Prop} (h1 : (∀ p, p < m → CelOk us f p) → KK (.exit 2) (hX2 us m r (celF f m) m (m : Int))) (h0 : (∃ p, p < m ∧ ¬ CelOk us f p) → ∀ i, KK .ret (hX2r us m r (celF f m) m i)) : AWq cX (.loop x2) (hX2 us m r (celF f m) m 0) KK := by
  have hm := hc.2.1
  refine awq_loopK hCX (ι := { i : Nat // i ≤ m ∧ ∀ j, j < i → CelOk us f j }) (fun i => hX2 us m r (celF f m) m (i.1 : Int)) (fun i => m - i.1) (n := 300) (l := fun _ => []) (g := keepSH [1, 4, 5, 6, 9, 10] [1]) (fun _ => by rw [lx2]; exact trivial) (fun s => LessS.keepSH _ _ s) ?_ ⟨0, Nat.zero_le _, fun j h => absurd h (Nat.not_lt_zero _)⟩
  rintro ⟨i, him, hi⟩ K hk
  refine (t_x2 us m r (celF f m) m (i : Int) K).trans (bdt (fun a => ?_) (fun a => hk _ _ ?_))
  · have a : (i : Int) < Int.ofNat m := of_decide_eq_true a
    have eo : (Int.ofNat m : Int) = (m : Int) := rfl
    have h' : i < m := by omega
    have e1 : IntKind.wrap .i64 ((i : Int) + 1) = ((i + 1 : Nat) : Int) := by rw [wI (by omega) (by omega)]; omega
    have bad : ¬ CelOk us f i → K .ret (hX2r us m r (celF f m) m (i : Int)) = true := fun hb => hk _ _ (.inr ⟨fun hh => (by cases hh), h0 ⟨i, h', hb⟩ _⟩)
    refine ldD_ok hc h' (by omega) (ldD_c h' (by omega) (bdt (fun b => bad fun hh => ?_) (fun b => ldD_ok hc h' (by omega) (ldD_c h' (by omega) (bdt (fun d => bad fun hh => ?_) (fun d => ldD_ok hc h' (by omega) (bdt (fun x => bad fun hh => ?_) (fun x => hk _ _ ?_))))))))
    · rw [show (lget us (i * 4 + 1)).toI = f i 1 from hh.1] at b
      simp at b
    · rw [show (lget us (i * 4 + 2)).toI = f i 2 from hh.2.1] at d
      simp at d
    · rw [show (lget us (i * 4 + 3)).toI = 0 from hh.2.2] at x
      simp at x
    · rw [e1]
      refine .inl ⟨rfl, ⟨i + 1, h', fun j hj => ?_⟩, by show m - (i + 1) < m - i; omega, Less.refl _⟩
      by_cases e : j = i
      · subst e
        exact ⟨show (lget us (j * 4 + 1)).toI = f j 1 by simpa using b, show (lget us (j * 4 + 2)).toI = f j 2 by simpa using d, show (lget us (j * 4 + 3)).toI = 0 by simpa using x⟩
      · exact hi j (by omega)
  · have a : ¬ (i : Int) < Int.ofNat m := of_decide_eq_false a
    have eo : (Int.ofNat m : Int) = (m : Int) := rfl
    have h' : i = m := by omega
    subst h'
    exact .inr ⟨fun hh => (by cases hh), h1 hi⟩
end Go.Bas.BasAvI6
end
section
namespace Go.Bas
open Go.RowKit
set_option linter.unusedSimpArgs false
set_option linter.unusedVariables false
/-- A call that finds its arguments in memory that nobody writes, and leaves a result in new memory. -/
def ACallsN (P : Program) (G : Nat → Option (List AV)) (f : FuncId) (args : List AV) (r : AV) : Prop :=
  ∀ (w : World) (us : Array Value), GOk G w → RepL w (fun _ => False) (fun _ => False) (fun _ => none) 0 args us → Calls P f us w fun e w' =>
    ∃ u, e = .returned u ∧ Still w w' ∧ Rep w' (fun b => b < w.heap.size) (fun _ => False) (fun _ => none) 0 r u
section
variable {C : Cfg}
theorem acallsN_of_awq {f : FuncId} {args : List AV} {n : Nat} {cs : List AV} (hf : ((C.P.funcs[f]?).bind (·.body)).isSome = true) (hi : ∀ i, i < cs.length → ∃ k x, lget cs i = .int k x)
    (h : AWq C (fcode C.P f) (st0 C.P f args) (fun e s => (e = .ret ∨ e = .normal) ∧ resM C f s (fun v _ => onP (∃ id sz app el, v = .sl id 0 n sz app ∧ hget s.m.heap id = some ⟨cs, el, true⟩)) = true)) : ACallsN C.P C.G f args (.lst cs n) := by
  obtain ⟨fn, hfn⟩ : ∃ fn, C.P.funcs[f]? = some fn := by
    cases hq : C.P.funcs[f]? with
    | none => rw [hq] at hf; cases hf
    | some fn => exact ⟨fn, rfl⟩
  obtain ⟨c, hb⟩ : ∃ c, fn.body = some c := by
    rw [hfn] at hf
    exact Option.isSome_iff_exists.1 hf
  have ec : fcode C.P f = c := by simp [fcode, hfn, hb]
  rw [ec] at h
  simp only [st0, hfn, Option.map_some, Option.getD_some, resM] at h
  intro w us hg hr
  refine (callsIn_calls (ro := none) (n := 0)).1 (callsIn_of_wp_marks hfn hb trivial ?_ rfl)
  have H0 : Hp w (Or2 (fun _ => False) (fun _ => False)) (fun _ => False) (fun _ => none) 0 [] := ⟨fun id hb h => (by cases h), fun i j b h => (by cases h), fun b (h : False) => h.elim⟩
  have M0 : MemSim C w (fun _ => False) (fun _ => False) (fun _ => False) (fun _ => none) ⟨[], 0, []⟩ := ⟨H0, ⟨fun id e h => (by cases h), fun i j l h => (by cases h), fun l (h : False) => h.elim⟩, hg, fun g cells h => ⟨fun h => h, fun h => h, fun h => h⟩, fun b (h : False) => h.elim⟩
  have hl : RepL w (Or2 (fun _ => False) (fun _ => False)) (fun _ => False) (fun _ => none) 0 (padL args fn.ntmps) (us ++ Array.replicate (fn.ntmps - us.size) undef) :=
    (pad_rep hr fn.ntmps).other fun b h1 h2 => ⟨h1, fun h => h.elim h2 (fun h => h)⟩
  refine h w (fun _ => False) (fun _ => False) (fun _ => False) (fun _ => none) _ _ ⟨hl, trivial, M0⟩ (fun e st' a' w' oC' oL' ω' out S' E hk' ho => ?_)
  obtain ⟨he, hk'⟩ := hk'
  have fin : LeavesInM (Fr none) 0 C.P fn a'.tmps (fun e w' => ∃ u, e = .returned u ∧ Still w w' ∧ Rep w' (fun b => b < w.heap.size) (fun _ => False) (fun _ => none) 0 (.lst cs n) u) a'.defers .returning w' := by
    refine leave_ret (k := fun v _ => onP (∃ id sz app el, v = .sl id 0 n sz app ∧ hget st'.m.heap id = some ⟨cs, el, true⟩)) S' hk' (fun v u lp' w2 h1 M E2 hr2 => ?_)
    have hE := E.then E2.low
    obtain ⟨id, sz, app, el, rfl, hh⟩ := of_onP h1
    refine ⟨u, rfl, ⟨hE.os, hE.tape, hE.output, hE.size, fun b hb _ => hE.old b hb (fun h => h.elim (fun h => h) (fun h => h)), fun _ h => .inl h, Nat.le_refl _, fun _ _ => rfl, hE.row⟩, ?_⟩
    obtain ⟨_, b, arr, p2, p3, p4, p5, p6⟩ := M.hp.rel id _ hh
    have hnew : ¬ b < w.heap.size := fun hlt => by
      rcases hE.owns b (.inl p3) with h | h
      · exact h.elim (fun h => h) (fun h => h)
      · omega
    have hval : ∀ cap, n ≤ cap → Rep w2 (fun b => b < w.heap.size) (fun _ => False) (fun _ => none) 0 (.lst cs n) (.slice (some ⟨b, 0, none⟩) n cap) := fun cap hcap => by
      refine .lst 0 cs n cap b 0 (fun i => arr.getD i undef) (fun _ => ⟨M.hp.ob b p3, fun h => h, hnew⟩) hcap (fun i hi' => ?_) (fun i hi' => ?_)
      · have hia : i < arr.size := Nat.lt_of_lt_of_le hi' p5
        simp [World.cell?, p4, hia]
      · obtain ⟨k, x, hx⟩ := hi i hi'
        have h6 := p6 i hi'
        have eq : cs[i] = .int k x := by rw [← hx, lget_eq]; simp [hi']
        have h6 : Rep w2 _ oC' ω' 0 cs[i] (arr.getD i undef) := h6
        rw [eq] at h6 ⊢
        generalize arr.getD i undef = z at h6
        cases h6
        exact .int _ _ _
    cases hr2 with
    | sl _ _ _ _ _ cap b' q1 q2 q3 =>
      have e := Option.some.inj (q2.symm.trans p2)
      subst e
      exact hval cap q3
    | sla _ _ _ _ cap b' q1 q2 q3 q4 q5 =>
      have e := Option.some.inj (q2.symm.trans p2)
      subst e
      exact hval cap q3
  rcases he with rfl | rfl
  · subst ho; exact fin
  · subst ho; exact fin
/-- Such a call where it stands: its arguments are seen asv memory that nobody writes while it runs. -/
theorem xcalls_of_new {f : FuncId} {args args0 : List AV} {r : AV} {m : Mem} (h : ACallsN C.P C.G f args r)
    (hv : ∀ (w : World) (B oC oL : Nat → Prop) (ω : Nat → Option Nat) (us : Array Value), MemSim C w B oC oL ω m → RepL w (Or2 B oL) oC ω m.nx args0 us → RepL w (fun _ => False) (fun _ => False) (fun _ => none) 0 args us) : XCalls C f args0 m false r m := fun w B oC oL ω us M hr => by
  refine callsIn_calls.2 ((h w us M.gl (hv w B oC oL ω us M hr)).mono fun e w' hh => ?_)
  obtain ⟨u, rfl, E, hu⟩ := hh
  exact .inl ⟨_, u, m, oC, oL, ω, rfl, onP_true ⟨rfl, rfl⟩, Still.ext E, M.still E, hu.mono (Nat.le_refl _) (fun b hb _ hB => ⟨rfl, fun ho => hB (M.hp.ob b ho), fun hb => hb.elim (fun hb => hB (M.bl b hb)) (fun hb => hB (M.lp.dis b hb).1)⟩) (fun id b hi => absurd hi (Nat.not_lt_zero _)) (fun _ _ h => h)⟩
end
end Go.Bas
end
section
namespace Go.Bas.BasAvI8
open Go.RowKit Go.Proofs
open Go.Bas.BasZBase Go.Bas.BasAvR1 Go.Bas.BasAvR2 Go.Bas.BasAvR3 Go.Bas.BasAvL Go.Bas.BasAvF Go.Bas.BasAvW Go.Bas.BasAvA Go.Bas.BasZRank Go.Bas.BasZRank3 Go.Bas.BasZLev Go.Bas.BasZItems Go.Bas.BasAvI0 Go.Bas.BasAvIE Go.Bas.BasAvIE2 Go.Bas.BasAvI1 Go.Bas.BasAvG Go.Bas.BasAvI2 Go.Bas.BasAvI3 Go.Bas.BasAvI4 Go.Bas.BasAvI5
set_option maxRecDepth 100000
set_option maxHeartbeats 4000000
set_option linter.unusedVariables false
set_option linter.unusedSimpArgs false
noncomputable def ZL (g : Nat) (cs : List AV) : St := ⟨[.any, .any, .any, .any, .sl 1 0 g 4 true, .any, .any, .any, .any, .any, .any, .any, .any, .any, .any, .any, .any, .any, .any, .any, .any, .any, .any, .any, .any, .any, .any, .any, .any, .any, .any, .any, .any, .any, .any, .any, .any, .any, .any, .any, .any, .any, .any, .any, .any, .any, .any, .any, .any, .any, .any, .any, .any, .any, .any, .any, .any, .any, .any, .any, .any, .any, .any, .any, .any, .any, .any, .any, .any, .any, .any, .any, .any, .any, .any, .any, .any, .any, .any, .any, .any, .any, .any, .any, .any], [], ⟨[(1, ⟨cs, 50, true⟩)], 2, []⟩⟩
theorem t_laidS (c : Conf) (r : Option (List AV × Nat)) (c1 c2 : List AV) (n1 n2 : Int) (K : Ex → St → Bool) : runM cL 300 codeL [LF0 c r ((zer4 (grI c).toNat).set 1 (.int .u64 (IntKind.wrap .u64 (rn r)))) c1 (grI c).toNat n1, LF2 c r c1 c2 (grI c).toNat n2] (st0 Tryd.prog 27 [c.av, rowsV r]) (fun e s => K e (keepSH [4] [1] s)) =
    ba (onP (GrOk c)) (mkg c (ba (inside 0 (grI c).toNat) (ba (Nat.ble 2 (zer4 (grI c).toNat).length) (ba (onP (hL0 c r ((zer4 (grI c).toNat).set 1 (.int .u64 (IntKind.wrap .u64 (rn r)))) (grI c).toNat 0 = hL0 c r ((zer4 (grI c).toNat).set 1 (.int .u64 (IntKind.wrap .u64 (rn r)))) (grI c).toNat 0))
      (ba (onP (hL2 c r c1 (grI c).toNat 1 = hL2 c r c1 (grI c).toNat 1)) (K .ret (ZL (grI c).toNat c2))))))) := by
  cases r with
  | none => kernel_rfl
  | some p => obtain ⟨a, b⟩ := p; kernel_rfl
theorem t_rL (g : Nat) (cs : List AV) (k : AV → Loops → Bool) : resM cL 27 (ZL g cs) k = k (.sl 1 0 g 4 true) [] := by kernel_rfl
theorem q_laidN {c : Conf} (h : IxOk c) (ho : c.ob = 2) {L : RL} (hl : L.length ≤ CC c) : ACallsN Tryd.prog (gmap gs) 27 [c.av, rowsV (rwo L)] (.lst (wantC c L) (GG c)) := by
  have hG := GG_bd h
  have hC : CC c ≤ 32 := by have := h.2.1; show c.cap.toNat ≤ 32; omega
  have eg := gr_is h ho
  have egn : (grI c).toNat = GG c := by rw [eg]; rfl
  refine acallsN_of_awq (C := cL) (by kernel_rfl) (fun i hi => ?_) ?_
  · have hi : i < (celF (Lw c L (lv c) 0) (GG c)).length := hi
    rw [celF_len] at hi
    have := celF_at (Lw c L (lv c) 0) (p := i / 4) (w := i % 4) (G := GG c) (by omega) (by omega)
    rw [show i / 4 * 4 + i % 4 = i by omega] at this
    exact ⟨_, _, this⟩
  have hlp : LoopsOk cL (loopsOf codeL) [LF0 c (rwo L) ((zer4 (grI c).toNat).set 1 (.int .u64 (IntKind.wrap .u64 (rn (rwo L))))) (celF (f0 L L.length) (GG c)) (grI c).toNat (L.length : Int), LF2 c (rwo L) (celF (f0 L L.length) (GG c)) (wantC c L) (grI c).toNat ((lv c : Nat) : Int)] := by
    rw [l_cL, egn, rn_n, wU32 (by omega), zer4_n L (by omega)]
    refine ⟨lf_ok (g := keepSH [1, 2, 5, 6] [0, 1]) (fun s => LessS.keepSH _ _ s) (fun KK hk => zl0 h hl hk), ?_, trivial⟩
    rw [f0_Lw h hl]
    exact lf_ok (g := keepSH [1, 2, 5, 7] [0, 1]) (fun s => LessS.keepSH _ _ s) (fun KK hk => zl2 h hl hk)
  have h4 : AWq cL codeL (st0 Tryd.prog 27 [c.av, rowsV (rwo L)]) (fun e s => onP (e = .ret ∧ keepSH [4] [1] s = ZL (GG c) (wantC c L)) = true) := by
    refine awq_gM hCL (n := 300) (g := keepSH [4] [1]) (K := fun e s => onP (e = .ret ∧ s = ZL (GG c) (wantC c L))) hlp ((t_laidS c (rwo L) (celF (f0 L L.length) (GG c)) (wantC c L) (L.length : Int) ((lv c : Nat) : Int) (fun e s => onP (e = .ret ∧ s = ZL (GG c) (wantC c L)))).trans (band (onP_true (.inr (.inl ⟨ho, h⟩))) ?_))
    unfold mkg
    rw [egn, eg]
    refine band ?_ (band ?_ (band (Nat.ble_eq_true_of_le ?_) (band (onP_true rfl) (band (onP_true rfl) (onP_true ⟨rfl, rfl⟩)))))
    · simp only [Bool.and_eq_true, decide_eq_true_eq, Nat.ble_eq]
      omega
    · simp only [inside, Bool.and_eq_true, decide_eq_true_eq]
      omega
    · rw [zer4_is, List.length_replicate]
      omega
  refine AWq.post h4 fun e s he => ⟨keepSH [4] [1] s, LessS.keepSH _ _ s, ?_⟩
  obtain ⟨rfl, hs⟩ := of_onP he
  refine ⟨.inl rfl, ?_⟩
  rw [hs, t_rL]
  exact onP_true ⟨1, 4, true, _, rfl, rfl⟩
end Go.Bas.BasAvI8
end
section
namespace Go.Bas.BasAvI7
open Go.RowKit Go.Proofs
open Go.Bas.BasZBase Go.Bas.BasAvR1 Go.Bas.BasAvR2 Go.Bas.BasAvR3 Go.Bas.BasAvL Go.Bas.BasAvF Go.Bas.BasAvW Go.Bas.BasAvP1 Go.Bas.BasAvP2 Go.Bas.BasAvA Go.Bas.BasZRank Go.Bas.BasZRank3 Go.Bas.BasZLev Go.Bas.BasZItems Go.Bas.BasAvI0 Go.Bas.BasAvIE Go.Bas.BasAvIE2 Go.Bas.BasAvI1 Go.Bas.BasAvG Go.Bas.BasAvI2 Go.Bas.BasAvI3 Go.Bas.BasAvI4 Go.Bas.BasAvI5 Go.Bas.BasAvI6 Go.Bas.BasAvI8
set_option maxRecDepth 100000
set_option maxHeartbeats 4000000
set_option linter.unusedVariables false
set_option linter.unusedSimpArgs false
noncomputable def XX (c : Conf) (us : List AV) (m : Nat) (r : Option (List AV × Nat)) : St := ⟨[.any, .lst us m, .ptr 0 0, .any, .any, .any, rwV r, .any, .any, .any, .any, .any, .any, .any, .any, .any, .any, .any, .any, .any, .any, .any, .any, .any, .any, .any, .any, .any, .any, .any, .any, .any, .any, .any, .any, .any, .any, .any, .any, .any, .any, .any, .any, .any, .any, .any, .any, .any, .any, .any, .any, .any, .any, .any, .any, .any, .any, .any, .any, .any, .any, .any, .any, .any, .any, .any, .any, .any, .any, .any, .any, .any, .any, .any, .any, .any, .any, .any, .any, .any, .any, .any, .any, .any, .any, .any, .any, .any, .any, .any, .any, .any, .any], [], ⟨rwH r ++ [(0, ⟨c.cells, 24, true⟩)], 2, []⟩⟩
noncomputable def YY (r : Option (List AV × Nat)) : St := ⟨[.any, .any, .any, .any, .any, .any, rwV r, .any, .any, .any, .any, .any, .any, .any, .any, .any, .any, .any, .any, .any, .any, .any, .any, .any, .any, .any, .any, .any, .any, .any, .any, .any, .any, .any, .any, .any, .any, .any, .any, .any, .any, .any, .any, .any, .any, .any, .any, .any, .any, .any, .any, .any, .any, .any, .any, .any, .any, .any, .any, .any, .any, .any, .any, .any, .any, .any, .any, .any, .any, .any, .any, .any, .any, .any, .any, .any, .any, .any, .any, .any, .any, .any, .any, .any, .any, .any, .any, .any, .any, .any, .any, .any, .any], [], ⟨rwH r, 2, []⟩⟩
noncomputable def YR (nx : Nat) : St := ⟨[.any, .any, .any, .any, .nils, .bool false, .any, .any, .any, .any, .any, .any, .any, .any, .any, .any, .any, .any, .any, .any, .any, .any, .any, .any, .any, .any, .any, .any, .any, .any, .any, .any, .any, .any, .any, .any, .any, .any, .any, .any, .any, .any, .any, .any, .any, .any, .any, .any, .any, .any, .any, .any, .any, .any, .any, .any, .any, .any, .any, .any, .any, .any, .any, .any, .any, .any, .any, .any, .any, .any, .any, .any, .any, .any, .any, .any, .any, .any, .any, .any, .any, .any, .any, .any, .any, .any, .any, .any, .any, .any, .any, .any, .any], [], ⟨[], nx, []⟩⟩
noncomputable def LX0 (c : Conf) (us : List AV) (m : Nat) (r : Option (List AV × Nat)) (bad : Bool) : LF := fun st K => cond (onP (keepSH [1, 2, 6, 7] [0] st = hX0 c us m none 0 1)) (br bad (K .ret (YR 3)) (K (.exit 0) (XX c us m r))) false
noncomputable def LX2 (us : List AV) (m : Nat) (r : Option (List AV × Nat)) (vs : List AV) (g : Nat) (bad : Bool) : LF := fun st K => cond (onP (keepSH [1, 6, 9, 10] [1] st = hX2 us m r vs g 0)) (br bad (K .ret (YR 2)) (K (.exit 2) (YY r))) false
/-- Own rows asv others see them. -/
def rT : Option (List AV × Nat) → Option (List AV × Nat)
  | none => none
  | some p => some ((p.1.drop 0).take (p.2 * 2), p.2)
noncomputable def vw : Option (List AV × Nat) → Bool → Bool
  | none, x => x
  | some p, x => ba (Nat.ble (0 + p.2 * 2) p.1.length) x
theorem rT_is (L : RL) : rT (rwo L) = rwo L := by
  cases L with
  | nil => rfl
  | cons p l =>
    show some (((enc (p :: l)).drop 0).take ((p :: l).length * 2), (p :: l).length) = some (enc (p :: l), (p :: l).length)
    rw [List.drop_zero, List.take_of_length_le (by rw [enc_len]; exact Nat.le_refl _)]
theorem vw_ok {L : RL} {x : Bool} (h : x = true) : vw (rwo L) x = true := by
  cases L with
  | nil => exact h
  | cons p l => exact band (Nat.ble_eq_true_of_le (by show 0 + (p :: l).length * 2 ≤ (enc (p :: l)).length; rw [enc_len]; omega)) h
noncomputable def no : AV := .tup [.nils, .bool false]
noncomputable abbrev y0 : Code := sel [false] codeX
noncomputable abbrev y1 : Code := sel [true, false] codeX
noncomputable abbrev y2 : Code := sel [true, true, false] codeX
noncomputable abbrev y3 : Code := sel [true, true, true, false] codeX
noncomputable abbrev y4 : Code := sel [true, true, true, true, false] codeX
noncomputable abbrev y5 : Code := sel [true, true, true, true, true, false] codeX
noncomputable abbrev y6 : Code := sel [true, true, true, true, true, true] codeX
theorem y_code : codeX = .seq y0 (.seq y1 (.seq y2 (.seq y3 (.seq y4 (.seq y5 y6))))) := by kernel_rfl
def opsOf : Code → Array Oper
  | .region _ ops _ => ops
  | _ => #[]
theorem y4_is : y4 = .region 11 (opsOf y4) false := by kernel_rfl
noncomputable def A1 (c : Conf) (us : List AV) (m : Nat) : St := ⟨[.any, .lst us m, .ptr 0 0, .any, .any, .any, .any, .any, .any, .any, .any, .any, .any, .any, .any, .any, .any, .any, .any, .any, .any, .any, .any, .any, .any, .any, .any, .any, .any, .any, .any, .any, .any, .any, .any, .any, .any, .any, .any, .any, .any, .any, .any, .any, .any, .any, .any, .any, .any, .any, .any, .any, .any, .any, .any, .any, .any, .any, .any, .any, .any, .any, .any, .any, .any, .any, .any, .any, .any, .any, .any, .any, .any, .any, .any, .any, .any, .any, .any, .any, .any, .any, .any, .any, .any, .any, .any, .any, .any, .any, .any, .any, .any], [], ⟨[(0, ⟨c.cells, 24, true⟩)], 1, []⟩⟩
noncomputable def A2 (c : Conf) (us : List AV) (m : Nat) : St := ⟨[.any, .lst us m, .ptr 0 0, .any, .any, .any, .nils, .any, .any, .any, .any, .any, .any, .any, .any, .any, .any, .any, .any, .any, .any, .any, .any, .any, .any, .any, .any, .any, .any, .any, .any, .any, .any, .any, .any, .any, .any, .any, .any, .any, .any, .any, .any, .any, .any, .any, .any, .any, .any, .any, .any, .any, .any, .any, .any, .any, .any, .any, .any, .any, .any, .any, .any, .any, .any, .any, .any, .any, .any, .any, .any, .any, .any, .any, .any, .any, .any, .any, .any, .any, .any, .any, .any, .any, .any, .any, .any, .any, .any, .any, .any, .any, .any], [], ⟨[(0, ⟨c.cells, 24, true⟩)], 1, []⟩⟩
theorem t_y0 (c : Conf) (us : List AV) (m : Nat) (k : Ex → St → Bool) : run cX 300 none none y0 (st0 Tryd.prog 19 [c.av, .lst us m]) (fun e s => k e (keepSH [1, 2] [0] s)) false = k .normal (A1 c us m) := by kernel_rfl
theorem t_y1 (c : Conf) (us : List AV) (m : Nat) (k : Ex → St → Bool) : run cX 300 none none y1 (A1 c us m) (fun e s => k e (keepSH [1, 2, 6] [0] s)) false = k .normal (A2 c us m) := by kernel_rfl
theorem t_y2 (c : Conf) (us : List AV) (m : Nat) (K : Ex → St → Bool) : runM cX 300 y2 [] (A2 c us m) (fun e s => K e (keepSH [1, 2, 4, 5, 6] [0] s)) =
    ldC us m 0 1 (br (decide (gA us 0 > IntKind.wrap .u64 c.cap)) (K .ret ⟨[.any, .lst us m, .ptr 0 0, .any, .nils, .bool false, .nils, .any, .any, .any, .any, .any, .any, .any, .any, .any, .any, .any, .any, .any, .any, .any, .any, .any, .any, .any, .any, .any, .any, .any, .any, .any, .any, .any, .any, .any, .any, .any, .any, .any, .any, .any, .any, .any, .any, .any, .any, .any, .any, .any, .any, .any, .any, .any, .any, .any, .any, .any, .any, .any, .any, .any, .any, .any, .any, .any, .any, .any, .any, .any, .any, .any, .any, .any, .any, .any, .any, .any, .any, .any, .any, .any, .any, .any, .any, .any, .any, .any, .any, .any, .any, .any, .any], [], ⟨[(0, ⟨c.cells, 24, true⟩)], 1, []⟩⟩) (K .normal (A2 c us m))) := by kernel_rfl
theorem t_y3 (c : Conf) (us : List AV) (m : Nat) (r : Option (List AV × Nat)) (bad : Bool) (K : Ex → St → Bool) : runM cX 300 y3 [LX0 c us m r bad] (A2 c us m) (fun e s => K e (keepSH [1, 2, 4, 5, 6] [0, 1] s)) =
    ba (onP (hX0 c us m none 0 1 = hX0 c us m none 0 1)) (br bad (K .ret (YR 3)) (K .normal (XX c us m r))) := by
  cases r with
  | none => kernel_rfl
  | some p => obtain ⟨a, b⟩ := p; kernel_rfl
noncomputable def aL (c : Conf) (r : Option (List AV × Nat)) : List AV := [c.av, rwV r]
noncomputable def mX (c : Conf) (r : Option (List AV × Nat)) : Mem := ⟨rwH r ++ [(0, ⟨c.cells, 24, true⟩)], 2, []⟩
noncomputable def X11 (us : List AV) (m : Nat) (r : Option (List AV × Nat)) (vs : List AV) (g : Nat) : St := ⟨[.any, .lst us m, .any, .any, .any, .any, rwV r, .any, .any, .lst vs g, .any, .any, .any, .any, .any, .any, .any, .any, .any, .any, .any, .any, .any, .any, .any, .any, .any, .any, .any, .any, .any, .any, .any, .any, .any, .any, .any, .any, .any, .any, .any, .any, .any, .any, .any, .any, .any, .any, .any, .any, .any, .any, .any, .any, .any, .any, .any, .any, .any, .any, .any, .any, .any, .any, .any, .any, .any, .any, .any, .any, .any, .any, .any, .any, .any, .any, .any, .any, .any, .any, .any, .any, .any, .any, .any, .any, .any, .any, .any, .any, .any, .any, .any], [], ⟨rwH r, 2, []⟩⟩
theorem t_y4 (c : Conf) (us : List AV) (m : Nat) (r : Option (List AV × Nat)) (vs : List AV) (g : Nat) (K : Ex → St → Bool) : opsK cX (callX cX (run cX 300) 27 (aL c r) (mX c r) false (.lst vs g) (mX c r)) (opsOf y4) (opsOf y4).toList (XX c us m r) (fun s => K .normal (keepSH [1, 6, 9] [1] s)) (fun v s => K (.panic v) (keepSH [1, 6, 9] [1] s)) false =
    ba (onP (aL c r = aL c r ∧ mX c r = mX c r)) (K .normal (X11 us m r vs g)) := by
  cases r with
  | none => kernel_rfl
  | some p => obtain ⟨a, b⟩ := p; kernel_rfl
theorem t_y5 (us : List AV) (m : Nat) (r : Option (List AV × Nat)) (vs : List AV) (g : Nat) (bad : Bool) (K : Ex → St → Bool) : runM cX 300 y5 [LX2 us m r vs g bad] (X11 us m r vs g) (fun e s => K e (keepSH [4, 5, 6] [1] s)) =
    ba (onP (hX2 us m r vs g 0 = hX2 us m r vs g 0)) (br bad (K .ret (YR 2)) (K .normal (YY r))) := by
  cases r with
  | none => kernel_rfl
  | some p => obtain ⟨a, b⟩ := p; kernel_rfl
noncomputable def ZZ (r : Option (List AV × Nat)) (x : Bool) : St := ⟨[.any, .any, .any, .any, rwV r, .bool x, .any, .any, .any, .any, .any, .any, .any, .any, .any, .any, .any, .any, .any, .any, .any, .any, .any, .any, .any, .any, .any, .any, .any, .any, .any, .any, .any, .any, .any, .any, .any, .any, .any, .any, .any, .any, .any, .any, .any, .any, .any, .any, .any, .any, .any, .any, .any, .any, .any, .any, .any, .any, .any, .any, .any, .any, .any, .any, .any, .any, .any, .any, .any, .any, .any, .any, .any, .any, .any, .any, .any, .any, .any, .any, .any, .any, .any, .any, .any, .any, .any, .any, .any, .any, .any, .any, .any], [], ⟨rwH r, 2, []⟩⟩
theorem t_y6 (r : Option (List AV × Nat)) (K : Ex → St → Bool) : runM cX 300 y6 [] (YY r) (fun e s => K e (keepSH [4, 5] [1] s)) = vw r (ba (rwOk (rT r)) (K .ret (ZZ r (onP (Ris (decR (rT r))))))) := by
  cases r with
  | none => kernel_rfl
  | some p => obtain ⟨a, b⟩ := p; kernel_rfl
theorem t_rY (nx : Nat) (K : AV → Bool) : resF cX 19 (YR nx) K false = K no := by kernel_rfl
theorem t_rA (c : Conf) (us : List AV) (m : Nat) (K : AV → Bool) : resF cX 19 ⟨[.any, .lst us m, .ptr 0 0, .any, .nils, .bool false, .nils, .any, .any, .any, .any, .any, .any, .any, .any, .any, .any, .any, .any, .any, .any, .any, .any, .any, .any, .any, .any, .any, .any, .any, .any, .any, .any, .any, .any, .any, .any, .any, .any, .any, .any, .any, .any, .any, .any, .any, .any, .any, .any, .any, .any, .any, .any, .any, .any, .any, .any, .any, .any, .any, .any, .any, .any, .any, .any, .any, .any, .any, .any, .any, .any, .any, .any, .any, .any, .any, .any, .any, .any, .any, .any, .any, .any, .any, .any, .any, .any, .any, .any, .any, .any, .any, .any], [], ⟨[(0, ⟨c.cells, 24, true⟩)], 1, []⟩⟩ K false = K no := by kernel_rfl
theorem t_rZ (r : Option (List AV × Nat)) (x : Bool) (K : AV → Bool) : resF cX 19 (ZZ r x) K false = BasAvW.frz r fun v => K (.tup [v, .bool x]) := by
  cases r with
  | none => kernel_rfl
  | some p => obtain ⟨a, b⟩ := p; kernel_rfl
theorem l_y2 : loopsOf y2 = [] := by kernel_rfl
theorem l_y3 : loopsOf y3 = [.loop x0] := by kernel_rfl
theorem l_y5 : loopsOf y5 = [.loop x2] := by kernel_rfl
theorem l_y6 : loopsOf y6 = [] := by kernel_rfl
end Go.Bas.BasAvI7
end
