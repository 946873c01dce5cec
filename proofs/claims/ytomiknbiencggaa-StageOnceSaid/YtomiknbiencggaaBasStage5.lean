/- Contracts: what a stage asks, the next one, and the next batch's first one. -/
import Derived.Test.YtomiknbiencggaaBasStage4
import Derived.Test.YtomiknbiencggaaBasBackP
namespace Go.Bas.BasStage5
open Go.RowKit Go.Proofs Go.Bas.BasStage Go.Bas.BasStage2 Go.Bas.BasStage4 Go.Bas.BasBack
set_option maxRecDepth 100000
set_option linter.unusedVariables false
set_option linter.unusedSimpArgs false

theorem pow_pos2 (n : Nat) : (0 : Int) < 2 ^ n := Int.pow_pos (by decide)

theorem shr_zero {x n : Int} (h0 : 0 ≤ x) (hn : 0 ≤ n) (h64 : n ≤ 64) : ishr .u64 x n = 0 ↔ x < pow2 n := by
  unfold ishr pow2
  have h1 : min n.toNat IntKind.u64.bits = n.toNat := Nat.min_eq_left (by simp [IntKind.bits]; omega)
  rw [h1, Int.fdiv_eq_ediv_of_nonneg _ (Int.le_of_lt (pow_pos2 _))]
  have hp := pow_pos2 n.toNat
  constructor
  · intro h
    by_cases hx : x < 2 ^ n.toNat
    · exact hx
    · have : 1 ≤ x / 2 ^ n.toNat := by
        rw [Int.le_ediv_iff_mul_le hp]
        omega
      omega
  · intro h
    exact Int.ediv_eq_zero_of_lt h0 h

theorem wf64' {n : Int} (h : 0 ≤ n) (h' : n ≤ 18446744073709551615) : (Lit.int .u64 n).wf = true := by simp [Lit.wf, IntKind.min, IntKind.max, IntKind.signed, IntKind.bits]; omega
theorem batches_eq' {c : Conf} (h : c.OkP) : batches c = c.limit / 65536 ∧ lastS c = c.limit / 65536 - 1 := by
  simp only [Conf.OkP] at h
  have h1 : c.limit.tdiv 65536 = c.limit / 65536 := Int.tdiv_eq_ediv_of_nonneg (by omega)
  unfold batches lastS
  rw [h1, wrap_eq (wf64' (by omega) (by omega)), wrap_eq (wf64' (by omega) (by omega))]
  exact ⟨rfl, rfl⟩

theorem may_eq {c : Conf} {s : Stg} (h : c.OkP) (hm : 0 ≤ s.mask) : mayP c s = mayR c s := by
  obtain ⟨h1, h2⟩ := batches_eq' h
  simp only [Conf.OkP] at h
  have h3 := @shr_zero s.mask c.thr hm (by omega) (by omega)
  rw [Bool.eq_iff_iff, mayP_true, mayR_true, h1, h2]
  constructor
  · rintro ⟨a, b, d, e, f, g, i⟩
    exact ⟨a, b, by omega, f, g, h3.1 e, i⟩
  · rintro ⟨a, b, d, e, f, g, i⟩
    exact ⟨a, b, by omega, h3.2 g, e, f, i⟩

theorem chk_eq {c : Conf} {s : Stg} (hm : 0 ≤ s.mask) : chk mayP c s = chk mayR c s := by
  unfold chk
  cases ho : c.ok with
  | false => rfl
  | true => rw [may_eq (ok_true.1 ho) hm]

/-- What a stage asks. -/
def jobK (c : Conf) (s : Stg) : Int := cond (decide (s.number - c.ins = 0)) 2 (cond (decide (s.number - c.ins = 1 ∨ s.number - c.ins = 3)) 3 (cond (decide (s.number - c.ins = 2)) 4 (cond (decide (s.number - c.ins = 5)) 5 1)))
def jobN (c : Conf) (s : Stg) : Int := cond (decide (s.number - c.ins = 0)) (s.batch % c.ins) (cond (decide (s.number - c.ins = 1 ∨ s.number - c.ins = 2)) (s.batch % 2) (cond (decide (s.number - c.ins = 3)) ((s.batch + 1) % 2)
  (cond (decide (s.number - c.ins = 4)) ((s.batch - 1) % c.ins) (cond (decide (s.number - c.ins = 5)) 0 ((s.batch + s.number - 1) % c.ins)))))
def whatAV (e : Int) (c : Conf) (s : Stg) : AV := .tup [.agg [.int .u8 (zif e (jobK c s)), .int .i64 (zif e (jobN c s))], .int .i64 e]
def nxErr (e : Int) (c : Conf) (s : Stg) : Int := cond (decide (e = 0)) (cond (decide (s.number = c.ins + 5)) 2 0) e
def nxAV (e : Int) (s : Stg) : AV := .tup [.agg [.int .u64 (zif e s.batch), .int .i64 (zif e (s.number + 1)), .int .u64 (zif e s.mask), .int .i64 (zif e s.frm)], .int .i64 e]
theorem zif_no {e x : Int} (h : ¬ e = 0) : zif e x = 0 := by simp [zif, h]
theorem tmod_pos {a b : Int} (h : 0 ≤ a) : Int.tmod a b = a % b := Int.tmod_eq_emod_of_nonneg h
theorem mod_small {a b : Int} (hb : 0 < b) (hb' : b ≤ 100) : IntKind.wrap .i64 (a % b) = a % b := by
  have h1 := Int.emod_nonneg a (show b ≠ 0 by omega)
  have h2 := Int.emod_lt_of_pos a hb
  exact wi64 (by omega) (by omega)
theorem restS_eq {c : Conf} (h : c.OkP) : restS c = c.ins + 5 := by
  simp only [Conf.OkP] at h
  unfold restS
  rw [wi64 (by omega) (by omega)]

/-- The numbers of a stage that may be, without wrapping. -/
structure Nums (c : Conf) (s : Stg) : Prop where
  a1 : IntKind.wrap .u64 c.ins = c.ins
  a2 : IntKind.wrap .i64 (s.number - c.ins) = s.number - c.ins
  a3 : IntKind.wrap .u64 (s.batch + 1) = s.batch + 1
  a4 : IntKind.wrap .u64 s.number = s.number
  a5 : IntKind.wrap .u64 (IntKind.wrap .u64 (s.batch + s.number) - 1) = s.batch + s.number - 1
  a6 : ¬ s.batch = 0 → IntKind.wrap .u64 (s.batch - 1) = s.batch - 1
  a7 : ¬ s.batch = 0 → IntKind.wrap .u64 (s.batch - 1 + s.number) = s.batch + s.number - 1
  a8 : IntKind.wrap .i64 (s.number + 1) = s.number + 1
theorem nums {c : Conf} {s : Stg} (h : SOk c s) (hb : 0 ≤ s.batch) : Nums c s := by
  have h1 := h.ok; have h2 := h.n1; have h3 := h.n2; have h4 := h.b
  simp only [Conf.OkP] at h1
  refine ⟨w64 (by omega) (by omega), wi64 (by omega) (by omega), w64 (by omega) (by omega), w64 (by omega) (by omega), ?_, fun hz => w64 (by omega) (by omega), fun hz => ?_, wi64 (by omega) (by omega)⟩
  · rw [w64 (n := s.batch + s.number) (by omega) (by omega), w64 (by omega) (by omega)]
  · rw [w64 (by omega) (by omega)]; omega

section
variable {c : Conf} {s : Stg} {k : AV → Bool}
/-- The leaves of 'What'. -/
theorem what_leaf (hc : chk mayP c s = 0) (hk : k (whatAV (chk mayP c s) c s) = true) : ∀ K N : Int, jobK c s = K → jobN c s = N → k (.tup [.agg [.int .u8 K, .int .i64 N], .int .i64 0]) = true := by
  rintro _ _ rfl rfl
  have e : whatAV (chk mayP c s) c s = .tup [.agg [.int .u8 (jobK c s), .int .i64 (jobN c s)], .int .i64 0] := by
    unfold whatAV
    rw [hc, zif_ok rfl, zif_ok rfl]
  rwa [e] at hk
theorem what_bad (hc : ¬ chk mayP c s = 0) (hk : k (whatAV (chk mayP c s) c s) = true) : k (.tup [.agg [.int .u8 0, .int .i64 0], .int .i64 (chk mayP c s)]) = true := by
  unfold whatAV at hk
  rwa [zif_no hc, zif_no hc] at hk
theorem s_what' (hb : 0 ≤ s.batch) : ACalls Try.prog (fun _ => none) 7 [c.av, s.av] (fun v => v = whatAV (chk mayP c s) c s) :=
  acalls_eq base (sums_cons s_chk sums_nil) (n := 300) fun k hk => by
    rw [t_what]
    by_cases hc : chk mayP c s = 0
    case neg =>
      have := what_bad hc hk
      simpa [hc] using this
    have L := what_leaf hc hk
    have S := sok hc
    have N := nums S hb
    have ho := S.ok
    simp only [Conf.OkP] at ho
    have hz := S.z
    have hn2 := S.n2
    have hn1 := S.n1
    have i1 : ¬ c.ins = 0 := by omega
    rw [hc, N.a1, N.a2, N.a3, N.a4, N.a5]
    simp only [decide_true, Bool.not_true, cond_false]
    refine condI (fun h => absurd (of_decide_eq_true h) i1) (fun _ => ?_)
    refine condI (fun h => condI (fun h => absurd (of_decide_eq_true h) i1) (fun _ => ?_)) (fun h0 => ?_)
    · have h := of_decide_eq_true h
      refine L _ _ (by simp [jobK, h]) ?_
      rw [tmod_pos hb, mod_small (by omega) (by omega)]
      simp [jobN, h]
    have h0 := of_decide_eq_false h0
    refine condI (fun h => ?_) (fun h3 => ?_)
    · have h := of_decide_eq_true h
      refine L _ _ (by simp [jobK, h]) ?_
      rw [tmod_pos (by omega), mod_small (by omega) (by omega)]
      simp [jobN, h]
    have h3 := of_decide_eq_false h3
    refine condI (fun h => ?_) (fun h1 => ?_)
    · have h := of_decide_eq_true h
      refine L _ _ (by simp [jobK, h]) ?_
      rw [tmod_pos hb, mod_small (by omega) (by omega)]
      simp [jobN, h]
    have h1 := of_decide_eq_false h1
    refine condI (fun h => ?_) (fun h2 => ?_)
    · have h := of_decide_eq_true h
      refine L _ _ (by simp [jobK, h]) ?_
      rw [tmod_pos hb, mod_small (by omega) (by omega)]
      simp [jobN, h]
    have h2 := of_decide_eq_false h2
    refine condI (fun h => condI (fun h => absurd (of_decide_eq_true h) i1) (fun _ => ?_)) (fun h4 => ?_)
    · have h := of_decide_eq_true h
      have hb0 : ¬ s.batch = 0 := fun e => by have := hz e; omega
      rw [N.a6 hb0]
      refine L _ _ (by simp [jobK, h]) ?_
      rw [tmod_pos (by omega), mod_small (by omega) (by omega)]
      simp [jobN, h]
    have h4 := of_decide_eq_false h4
    refine condI (fun h => ?_) (fun h5 => ?_)
    · have h := of_decide_eq_true h
      refine L _ _ (by simp [jobK, h]) (by simp [jobN, h])
    have h5 := of_decide_eq_false h5
    refine L _ _ (by simp [jobK, h0, h1, h2, h3, h5]) ?_
    rw [tmod_pos (by omega), mod_small (by omega) (by omega)]
    simp [jobN, h0, h1, h2, h3, h4, h5]
theorem next_leaf (hb : 0 ≤ s.batch) (hk : k (nxAV (nxErr (chk mayP c s) c s) s) = true) : (bif !decide (chk mayP c s = 0) then k (AV.tup [AV.agg [AV.int IntKind.u64 0, AV.int IntKind.i64 0, AV.int IntKind.u64 0, AV.int IntKind.i64 0], AV.int IntKind.i64 (chk mayP c s)]) else bif decide (s.2 = restS c) then k (AV.tup [AV.agg [AV.int IntKind.u64 0, AV.int IntKind.i64 0, AV.int IntKind.u64 0, AV.int IntKind.i64 0], AV.int IntKind.i64 2]) else k (AV.tup [AV.agg [AV.int IntKind.u64 s.1, AV.int IntKind.i64 (IntKind.wrap IntKind.i64 (s.2 + 1)), AV.int IntKind.u64 s.3, AV.int IntKind.i64 s.4], AV.int IntKind.i64 0])) = true := by
  by_cases hc : chk mayP c s = 0
  · have S := sok hc
    have N := nums S hb
    rw [restS_eq S.ok, N.a8]
    by_cases hn : s.number = c.ins + 5
    · have e : nxErr (chk mayP c s) c s = 2 := by simp [nxErr, hc, hn]
      rw [e] at hk
      have hn' : s.2 = c.ins + 5 := hn
      simpa [hc, hn', nxAV, zif] using hk
    · have e : nxErr (chk mayP c s) c s = 0 := by simp [nxErr, hc, hn]
      rw [e] at hk
      have hn' : ¬ s.2 = c.ins + 5 := hn
      simpa [hc, hn', nxAV, zif] using hk
  · have e : nxErr (chk mayP c s) c s = chk mayP c s := by simp [nxErr, hc]
    rw [e] at hk
    simpa [hc, nxAV, zif] using hk
theorem s_next' (hb : 0 ≤ s.batch) : ACalls Try.prog (fun _ => none) 8 [c.av, s.av] (fun v => v = nxAV (nxErr (chk mayP c s) c s) s) :=
  acalls_eq base (sums_cons s_chk (sums_cons s_rest sums_nil)) (n := 300) fun k hk => by
    rw [t_next]
    exact next_leaf hb hk
end

/-! ### As summaries -/
def pS (s : Stg) : Bool := decide (0 ≤ s.batch) && decide (0 ≤ s.mask)
theorem pS_true {s : Stg} : pS s = true ↔ 0 ≤ s.batch ∧ 0 ≤ s.mask := by simp [pS]
def S_what : Sum := (7, onConf2 stgOf (fun _ s => pS s) fun c s => whatAV (chk mayP c s) c s)
def S_next : Sum := (8, onConf2 stgOf (fun _ s => pS s) fun c s => nxAV (nxErr (chk mayP c s) c s) s)
theorem s_what : SumOk Try.prog (fun _ => none) S_what := onConf2_sum (fun _ _ => stgOf_some) fun c s hp => s_what' (pS_true.1 hp).1
theorem s_next : SumOk Try.prog (fun _ => none) S_next := onConf2_sum (fun _ _ => stgOf_some) fun c s hp => s_next' (pS_true.1 hp).1
end Go.Bas.BasStage5
