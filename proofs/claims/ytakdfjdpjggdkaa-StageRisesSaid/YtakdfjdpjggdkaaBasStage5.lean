/- Contracts: what a stage asks, the next one, and the next batch's first one. -/
import Derived.Test.YtakdfjdpjggdkaaBasStage4
import Derived.Test.YtakdfjdpjggdkaaBasBack
namespace Go.Bas.BasStage5
open Go.RowKit Go.Proofs Go.Bas.BasStage Go.Bas.BasStage2 Go.Bas.BasChoose Go.Bas.BasChoose2 Go.Bas.BasStage4 Go.Bas.BasBack
set_option maxRecDepth 100000
set_option linter.unusedVariables false
set_option linter.unusedSimpArgs false

theorem pow_pos2 (n : Nat) : (0 : Int) < 2 ^ n := Int.pow_pos (by decide)

theorem shr_zero {x n : Int} (h0 : 0 ≤ x) (hn : 0 ≤ n) (h64 : n ≤ 64) : ishr .u64 x n = 0 ↔ x < pow2 n := by
  unfold ishr pow2
  have h1 : min n.toNat IntKind.u64.bits = n.toNat := Nat.min_eq_left (by simp [IntKind.bits]; omega)
  rw [h1, Int.fdiv_eq_ediv_of_nonneg _ (Int.le_of_lt (pow_pos2 _))]
  have hp := pow_pos2 n.toNat
  constructor
  · intro h
    by_cases hx : x < 2 ^ n.toNat
    · exact hx
    · have : 1 ≤ x / 2 ^ n.toNat := by
        rw [Int.le_ediv_iff_mul_le hp]
        omega
      omega
  · intro h
    exact Int.ediv_eq_zero_of_lt h0 h

theorem wf64' {n : Int} (h : 0 ≤ n) (h' : n ≤ 18446744073709551615) : (Lit.int .u64 n).wf = true := by simp [Lit.wf, IntKind.min, IntKind.max, IntKind.signed, IntKind.bits]; omega
theorem batches_eq' {c : Conf} (h : c.OkP) : batches c = c.limit / 65536 ∧ lastS c = c.limit / 65536 - 1 := by
  simp only [Conf.OkP] at h
  have h1 : c.limit.tdiv 65536 = c.limit / 65536 := Int.tdiv_eq_ediv_of_nonneg (by omega)
  unfold batches lastS
  rw [h1, wrap_eq (wf64' (by omega) (by omega)), wrap_eq (wf64' (by omega) (by omega))]
  exact ⟨rfl, rfl⟩

theorem may_eq {c : Conf} {s : Stg} (h : c.OkP) (hm : 0 ≤ s.mask) : mayP c s = mayR c s := by
  obtain ⟨h1, h2⟩ := batches_eq' h
  simp only [Conf.OkP] at h
  have h3 := @shr_zero s.mask c.thr hm (by omega) (by omega)
  rw [Bool.eq_iff_iff, mayP_true, mayR_true, h1, h2]
  constructor
  · rintro ⟨a, b, d, e, f, g, i⟩
    exact ⟨a, b, by omega, f, g, h3.1 e, i⟩
  · rintro ⟨a, b, d, e, f, g, i⟩
    exact ⟨a, b, by omega, h3.2 g, e, f, i⟩

theorem chk_eq {c : Conf} {s : Stg} (hm : 0 ≤ s.mask) : chk mayP c s = chk mayR c s := by
  unfold chk
  cases ho : c.ok with
  | false => rfl
  | true => rw [may_eq (ok_true.1 ho) hm]

/-- What a stage asks. -/
def jobK (c : Conf) (s : Stg) : Int := cond (decide (s.number - c.ins = 0)) 2 (cond (decide (s.number - c.ins = 1 ∨ s.number - c.ins = 3)) 3 (cond (decide (s.number - c.ins = 2)) 4 (cond (decide (s.number - c.ins = 5)) 5 1)))
def jobN (c : Conf) (s : Stg) : Int := cond (decide (s.number - c.ins = 0)) (s.batch % c.ins) (cond (decide (s.number - c.ins = 1 ∨ s.number - c.ins = 2)) (s.batch % 2) (cond (decide (s.number - c.ins = 3)) ((s.batch + 1) % 2)
  (cond (decide (s.number - c.ins = 4)) ((s.batch - 1) % c.ins) (cond (decide (s.number - c.ins = 5)) 0 ((s.batch + s.number - 1) % c.ins)))))
def whatAV (e : Int) (c : Conf) (s : Stg) : AV := .tup [.agg [.int .u8 (zif e (jobK c s)), .int .i64 (zif e (jobN c s))], .int .i64 e]
def nxErr (e : Int) (c : Conf) (s : Stg) : Int := cond (decide (e = 0)) (cond (decide (s.number = c.ins + 5)) 2 0) e
def nxAV (e : Int) (s : Stg) : AV := .tup [.agg [.int .u64 (zif e s.batch), .int .i64 (zif e (s.number + 1)), .int .u64 (zif e s.mask), .int .i64 (zif e s.frm)], .int .i64 e]
noncomputable def bgErr (e : Int) (c : Conf) (s : Stg) (cells : List AV) (n : Nat) : Int := cond (decide (e = 0)) (cond (decide ((n : Int) = c.thr ∧ s.number = c.ins + 5)) (cond (decide (s.batch + 1 ≥ c.limit / 65536)) 230 (cond (decide (chMask c cells s.frm c.thr.toNat = 0)) 2 0)) 2) e
noncomputable def bgAV (e : Int) (c : Conf) (s : Stg) (cells : List AV) : AV := .tup [.agg [.int .u64 (zif e (s.batch + 1)), .int .i64 (zif e 1), .int .u64 (zif e (chMask c cells s.frm c.thr.toNat)), .int .i64 (zif e (chNext c cells s.frm c.thr.toNat))], .int .i64 e]
theorem zif_no {e x : Int} (h : ¬ e = 0) : zif e x = 0 := by simp [zif, h]
theorem tmod_pos {a b : Int} (h : 0 ≤ a) : Int.tmod a b = a % b := Int.tmod_eq_emod_of_nonneg h
theorem mod_small {a b : Int} (hb : 0 < b) (hb' : b ≤ 100) : IntKind.wrap .i64 (a % b) = a % b := by
  have h1 := Int.emod_nonneg a (show b ≠ 0 by omega)
  have h2 := Int.emod_lt_of_pos a hb
  exact wi64 (by omega) (by omega)
theorem restS_eq {c : Conf} (h : c.OkP) : restS c = c.ins + 5 := by
  simp only [Conf.OkP] at h
  unfold restS
  rw [wi64 (by omega) (by omega)]

/-- The numbers of a stage that may be, without wrapping. -/
structure Nums (c : Conf) (s : Stg) : Prop where
  a1 : IntKind.wrap .u64 c.ins = c.ins
  a2 : IntKind.wrap .i64 (s.number - c.ins) = s.number - c.ins
  a3 : IntKind.wrap .u64 (s.batch + 1) = s.batch + 1
  a4 : IntKind.wrap .u64 s.number = s.number
  a5 : IntKind.wrap .u64 (IntKind.wrap .u64 (s.batch + s.number) - 1) = s.batch + s.number - 1
  a6 : ¬ s.batch = 0 → IntKind.wrap .u64 (s.batch - 1) = s.batch - 1
  a7 : ¬ s.batch = 0 → IntKind.wrap .u64 (s.batch - 1 + s.number) = s.batch + s.number - 1
  a8 : IntKind.wrap .i64 (s.number + 1) = s.number + 1
theorem nums {c : Conf} {s : Stg} (h : SOk c s) (hb : 0 ≤ s.batch) : Nums c s := by
  have h1 := h.ok; have h2 := h.n1; have h3 := h.n2; have h4 := h.b
  simp only [Conf.OkP] at h1
  refine ⟨w64 (by omega) (by omega), wi64 (by omega) (by omega), w64 (by omega) (by omega), w64 (by omega) (by omega), ?_, fun hz => w64 (by omega) (by omega), fun hz => ?_, wi64 (by omega) (by omega)⟩
  · rw [w64 (n := s.batch + s.number) (by omega) (by omega), w64 (by omega) (by omega)]
  · rw [w64 (by omega) (by omega)]; omega

section
variable {c : Conf} {s : Stg} {k : AV → Bool}
/-- The leaves of 'What'. -/
theorem what_leaf (hc : chk mayP c s = 0) (hk : k (whatAV (chk mayP c s) c s) = true) : ∀ K N : Int, jobK c s = K → jobN c s = N → k (.tup [.agg [.int .u8 K, .int .i64 N], .int .i64 0]) = true := by
  rintro _ _ rfl rfl
  have e : whatAV (chk mayP c s) c s = .tup [.agg [.int .u8 (jobK c s), .int .i64 (jobN c s)], .int .i64 0] := by
    unfold whatAV
    rw [hc, zif_ok rfl, zif_ok rfl]
  rwa [e] at hk
theorem what_bad (hc : ¬ chk mayP c s = 0) (hk : k (whatAV (chk mayP c s) c s) = true) : k (.tup [.agg [.int .u8 0, .int .i64 0], .int .i64 (chk mayP c s)]) = true := by
  unfold whatAV at hk
  rwa [zif_no hc, zif_no hc] at hk
theorem s_what' (hb : 0 ≤ s.batch) : ACalls Try.prog (fun _ => none) 16 [c.av, s.av] (fun v => v = whatAV (chk mayP c s) c s) :=
  acalls_eq base (sums_cons s_chk sums_nil) (n := 300) fun k hk => by
    rw [t_what]
    by_cases hc : chk mayP c s = 0
    case neg =>
      have := what_bad hc hk
      simpa [hc] using this
    have L := what_leaf hc hk
    have S := sok hc
    have N := nums S hb
    have ho := S.ok
    simp only [Conf.OkP] at ho
    have hz := S.z
    have hn2 := S.n2
    have hn1 := S.n1
    have i1 : ¬ c.ins = 0 := by omega
    rw [hc, N.a1, N.a2, N.a3, N.a4, N.a5]
    simp only [decide_true, Bool.not_true, cond_false]
    refine condI (fun h => absurd (of_decide_eq_true h) i1) (fun _ => ?_)
    refine condI (fun h => condI (fun h => absurd (of_decide_eq_true h) i1) (fun _ => ?_)) (fun h0 => ?_)
    · have h := of_decide_eq_true h
      refine L _ _ (by simp [jobK, h]) ?_
      rw [tmod_pos hb, mod_small (by omega) (by omega)]
      simp [jobN, h]
    have h0 := of_decide_eq_false h0
    refine condI (fun h => ?_) (fun h3 => ?_)
    · have h := of_decide_eq_true h
      refine L _ _ (by simp [jobK, h]) ?_
      rw [tmod_pos (by omega), mod_small (by omega) (by omega)]
      simp [jobN, h]
    have h3 := of_decide_eq_false h3
    refine condI (fun h => ?_) (fun h1 => ?_)
    · have h := of_decide_eq_true h
      refine L _ _ (by simp [jobK, h]) ?_
      rw [tmod_pos hb, mod_small (by omega) (by omega)]
      simp [jobN, h]
    have h1 := of_decide_eq_false h1
    refine condI (fun h => ?_) (fun h2 => ?_)
    · have h := of_decide_eq_true h
      refine L _ _ (by simp [jobK, h]) ?_
      rw [tmod_pos hb, mod_small (by omega) (by omega)]
      simp [jobN, h]
    have h2 := of_decide_eq_false h2
    refine condI (fun h => condI (fun h => absurd (of_decide_eq_true h) i1) (fun _ => ?_)) (fun h4 => ?_)
    · have h := of_decide_eq_true h
      have hb0 : ¬ s.batch = 0 := fun e => by have := hz e; omega
      rw [N.a6 hb0]
      refine L _ _ (by simp [jobK, h]) ?_
      rw [tmod_pos (by omega), mod_small (by omega) (by omega)]
      simp [jobN, h]
    have h4 := of_decide_eq_false h4
    refine condI (fun h => ?_) (fun h5 => ?_)
    · have h := of_decide_eq_true h
      refine L _ _ (by simp [jobK, h]) (by simp [jobN, h])
    have h5 := of_decide_eq_false h5
    refine L _ _ (by simp [jobK, h0, h1, h2, h3, h5]) ?_
    rw [tmod_pos (by omega), mod_small (by omega) (by omega)]
    simp [jobN, h0, h1, h2, h3, h4, h5]
theorem s_whatR' (hb : 0 ≤ s.batch) (hm : 0 ≤ s.mask) : ACalls Try.prog (fun _ => none) 17 [c.av, s.av] (fun v => v = whatAV (chk mayP c s) c s) :=
  acalls_eq base (sums_cons s_chkR sums_nil) (n := 300) fun k hk => by
    rw [t_whatR, ← chk_eq hm]
    by_cases hc : chk mayP c s = 0
    case neg =>
      have := what_bad hc hk
      simpa [hc] using this
    have L := what_leaf hc hk
    have S := sok hc
    have N := nums S hb
    have ho := S.ok
    simp only [Conf.OkP] at ho
    have hz := S.z
    have hn2 := S.n2
    have hn1 := S.n1
    have i1 : ¬ c.ins = 0 := by omega
    rw [hc, N.a1, N.a2, N.a3, N.a4]
    simp only [decide_true, Bool.not_true, cond_false]
    refine condI (fun h => condI (fun h => absurd (of_decide_eq_true h) i1) (fun _ => ?_)) (fun hlt => ?_)
    · have h := of_decide_eq_true h
      have h : s.number < c.ins := h
      have hb0 : ¬ s.batch = 0 := fun e => by have := hz e; omega
      rw [N.a6 hb0, N.a7 hb0]
      have d0 : ¬ s.number - c.ins = 0 := by omega
      have d1 : ¬ s.number - c.ins = 1 := by omega
      have d2 : ¬ s.number - c.ins = 2 := by omega
      have d3 : ¬ s.number - c.ins = 3 := by omega
      have d4 : ¬ s.number - c.ins = 4 := by omega
      have d5 : ¬ s.number - c.ins = 5 := by omega
      refine L _ _ (by simp [jobK, d0, d1, d2, d3, d5]) ?_
      rw [tmod_pos (by omega), mod_small (by omega) (by omega)]
      simp [jobN, d0, d1, d2, d3, d4, d5]
    have hlt : ¬ s.number < c.ins := of_decide_eq_false hlt
    refine condI (fun h => condI (fun h => absurd (of_decide_eq_true h) i1) (fun _ => ?_)) (fun h0 => ?_)
    · have h := of_decide_eq_true h
      refine L _ _ (by simp [jobK, h]) ?_
      rw [tmod_pos hb, mod_small (by omega) (by omega)]
      simp [jobN, h]
    have h0 := of_decide_eq_false h0
    refine condI (fun h => ?_) (fun h1 => ?_)
    · have h := of_decide_eq_true h
      refine L _ _ (by simp [jobK, h]) ?_
      rw [tmod_pos hb, mod_small (by omega) (by omega)]
      simp [jobN, h]
    have h1 := of_decide_eq_false h1
    refine condI (fun h => ?_) (fun h2 => ?_)
    · have h := of_decide_eq_true h
      refine L _ _ (by simp [jobK, h]) ?_
      rw [tmod_pos hb, mod_small (by omega) (by omega)]
      simp [jobN, h]
    have h2 := of_decide_eq_false h2
    refine condI (fun h => ?_) (fun h3 => ?_)
    · have h := of_decide_eq_true h
      refine L _ _ (by simp [jobK, h]) ?_
      rw [tmod_pos (by omega), mod_small (by omega) (by omega)]
      simp [jobN, h]
    have h3 := of_decide_eq_false h3
    refine condI (fun h => condI (fun h => absurd (of_decide_eq_true h) i1) (fun _ => ?_)) (fun h4 => ?_)
    · have h := of_decide_eq_true h
      have hb0 : ¬ s.batch = 0 := fun e => by have := hz e; omega
      rw [N.a6 hb0]
      refine L _ _ (by simp [jobK, h]) ?_
      rw [tmod_pos (by omega), mod_small (by omega) (by omega)]
      simp [jobN, h]
    have h4 := of_decide_eq_false h4
    have h5 : s.number - c.ins = 5 := by
      have h1' : ¬ s.number - c.ins = 1 := h1
      have h2' : ¬ s.number - c.ins = 2 := h2
      omega
    refine L _ _ (by simp [jobK, h5]) (by simp [jobN, h5])
theorem next_leaf (hb : 0 ≤ s.batch) (hk : k (nxAV (nxErr (chk mayP c s) c s) s) = true) : (bif !decide (chk mayP c s = 0) then k (AV.tup [AV.agg [AV.int IntKind.u64 0, AV.int IntKind.i64 0, AV.int IntKind.u64 0, AV.int IntKind.i64 0], AV.int IntKind.i64 (chk mayP c s)]) else bif decide (s.2 = restS c) then k (AV.tup [AV.agg [AV.int IntKind.u64 0, AV.int IntKind.i64 0, AV.int IntKind.u64 0, AV.int IntKind.i64 0], AV.int IntKind.i64 2]) else k (AV.tup [AV.agg [AV.int IntKind.u64 s.1, AV.int IntKind.i64 (IntKind.wrap IntKind.i64 (s.2 + 1)), AV.int IntKind.u64 s.3, AV.int IntKind.i64 s.4], AV.int IntKind.i64 0])) = true := by
  by_cases hc : chk mayP c s = 0
  · have S := sok hc
    have N := nums S hb
    rw [restS_eq S.ok, N.a8]
    by_cases hn : s.number = c.ins + 5
    · have e : nxErr (chk mayP c s) c s = 2 := by simp [nxErr, hc, hn]
      rw [e] at hk
      have hn' : s.2 = c.ins + 5 := hn
      simpa [hc, hn', nxAV, zif] using hk
    · have e : nxErr (chk mayP c s) c s = 0 := by simp [nxErr, hc, hn]
      rw [e] at hk
      have hn' : ¬ s.2 = c.ins + 5 := hn
      simpa [hc, hn', nxAV, zif] using hk
  · have e : nxErr (chk mayP c s) c s = chk mayP c s := by simp [nxErr, hc]
    rw [e] at hk
    simpa [hc, nxAV, zif] using hk
theorem s_next' (hb : 0 ≤ s.batch) : ACalls Try.prog (fun _ => none) 18 [c.av, s.av] (fun v => v = nxAV (nxErr (chk mayP c s) c s) s) :=
  acalls_eq base (sums_cons s_chk (sums_cons s_rest sums_nil)) (n := 300) fun k hk => by
    rw [t_next]
    exact next_leaf hb hk
theorem s_nextR' (hb : 0 ≤ s.batch) (hm : 0 ≤ s.mask) : ACalls Try.prog (fun _ => none) 19 [c.av, s.av] (fun v => v = nxAV (nxErr (chk mayP c s) c s) s) :=
  acalls_eq base (sums_cons s_chkR (sums_cons s_restR sums_nil)) (n := 300) fun k hk => by
    rw [t_nextR, ← chk_eq hm]
    exact next_leaf hb hk
theorem tdiv_lim (h : c.OkP) : IntKind.wrap .u64 (Int.tdiv c.limit 65536) = c.limit / 65536 := (batches_eq' h).1
theorem s_begin' {cells : List AV} {n : Nat} (hb : 0 ≤ s.batch) (hl : cells.length = n) (hi : cells.all AV.isB = true) : ACalls Try.prog (fun _ => none) 20 [c.av, s.av, .lst cells n] (fun v => v = bgAV (bgErr (chk mayP c s) c s cells n) c s cells) :=
  acalls_eq base (sums_cons s_chk (sums_cons s_rest (sums_cons s_ch sums_nil))) (n := 300) fun k hk => by
    rw [t_begin]
    by_cases hc : chk mayP c s = 0
    case neg =>
      have e : bgErr (chk mayP c s) c s cells n = chk mayP c s := by simp [bgErr, hc]
      rw [e] at hk
      simpa [hc, bgAV, zif] using hk
    have S := sok hc
    have N := nums S hb
    have b1 : Nat.beq cells.length n = true := (beq_iff _ _).2 hl
    rw [restS_eq S.ok, N.a3, tdiv_lim S.ok, b1, hi, hc]
    rw [hc] at hk
    simp only [decide_true, Bool.not_true, cond_false, Bool.true_and]
    have hf1 := S.f1; have hf2 := S.f2
    refine condI (fun h => ?_) (fun h => ?_)
    · have hn : ¬ (n : Int) = c.thr := fun hh => by
        rw [chErr0 (ok_true.2 S.ok) ⟨hh, hf1, hf2⟩] at h
        simp at h
      have e : bgErr 0 c s cells n = 2 := by simp [bgErr, hn]
      rw [e] at hk
      simpa [bgAV, zif] using hk
    have he : chErr c n s.frm = 0 := by simpa using h
    have hn : (n : Int) = c.thr := by
      rcases Decidable.em ((n : Int) = c.thr) with hh | hh
      · exact hh
      · rw [chErr2 (ok_true.2 S.ok) (fun h => hh h.1)] at he
        cases he
    have he' : chErr c n s.4 = 0 := he
    rw [he', zif_ok rfl, zif_ok rfl]
    refine condI (fun h => ?_) (fun h => ?_)
    · have h : ¬ s.number = c.ins + 5 := by simpa using h
      have e : bgErr 0 c s cells n = 2 := by simp [bgErr, h]
      rw [e] at hk
      simpa [bgAV, zif] using hk
    have hnum : s.number = c.ins + 5 := by simpa using h
    refine condI (fun h => ?_) (fun h => ?_)
    · have h : s.batch + 1 ≥ c.limit / 65536 := of_decide_eq_true h
      have e : bgErr 0 c s cells n = 230 := by simp [bgErr, hn, hnum, h]
      rw [e] at hk
      simpa [bgAV, zif] using hk
    have hlt : ¬ s.batch + 1 ≥ c.limit / 65536 := of_decide_eq_false h
    refine condI (fun h => ?_) (fun h => ?_)
    · have h : chMask c cells s.frm c.thr.toNat = 0 := of_decide_eq_true h
      have e : bgErr 0 c s cells n = 2 := by simp [bgErr, hn, hnum, hlt, h]
      rw [e] at hk
      simpa [bgAV, zif] using hk
    · have h : ¬ chMask c cells s.frm c.thr.toNat = 0 := of_decide_eq_false h
      have e : bgErr 0 c s cells n = 0 := by simp [bgErr, hn, hnum, hlt, h]
      rw [e] at hk
      simpa [bgAV, zif] using hk
theorem s_beginR' {cells : List AV} {n : Nat} (hb : 0 ≤ s.batch) (hm : 0 ≤ s.mask) (hl : cells.length = n) (hi : cells.all AV.isB = true) : ACalls Try.prog (fun _ => none) 21 [c.av, s.av, .lst cells n] (fun v => v = bgAV (bgErr (chk mayP c s) c s cells n) c s cells) :=
  acalls_eq base (sums_cons s_chkR (sums_cons s_restR (sums_cons s_last (sums_cons s_cr sums_nil)))) (n := 300) fun k hk => by
    rw [t_beginR, ← chk_eq hm]
    by_cases hc : chk mayP c s = 0
    case neg =>
      have e : bgErr (chk mayP c s) c s cells n = chk mayP c s := by simp [bgErr, hc]
      rw [e] at hk
      simpa [hc, bgAV, zif] using hk
    have S := sok hc
    have N := nums S hb
    have b1 : Nat.beq cells.length n = true := (beq_iff _ _).2 hl
    rw [restS_eq S.ok, N.a3, (batches_eq' S.ok).2, b1, hi, hc]
    rw [hc] at hk
    simp only [decide_true, Bool.not_true, cond_false, Bool.true_and]
    have hf1 := S.f1; have hf2 := S.f2
    refine condI (fun h => ?_) (fun h => ?_)
    · have h : ¬ s.number = c.ins + 5 := by simpa using h
      have e : bgErr 0 c s cells n = 2 := by simp [bgErr, h]
      rw [e] at hk
      simpa [bgAV, zif] using hk
    have hnum : s.number = c.ins + 5 := by simpa using h
    refine condI (fun h => ?_) (fun h => ?_)
    · have hn : ¬ (n : Int) = c.thr := by simpa using h
      have e : bgErr 0 c s cells n = 2 := by simp [bgErr, hn]
      rw [e] at hk
      simpa [bgAV, zif] using hk
    have hn : (n : Int) = c.thr := by simpa using h
    have he' : chErr c n s.4 = 0 := chErr0 (ok_true.2 S.ok) ⟨hn, hf1, hf2⟩
    rw [he', zif_ok rfl, zif_ok rfl]
    have hlim := S.b
    refine condI (fun h => ?_) (fun h => ?_)
    · have h : s.batch = c.limit / 65536 - 1 := of_decide_eq_true h
      have h : s.batch + 1 ≥ c.limit / 65536 := by omega
      have e : bgErr 0 c s cells n = 230 := by simp [bgErr, hn, hnum, h]
      rw [e] at hk
      simpa [bgAV, zif] using hk
    have hlt : ¬ s.batch = c.limit / 65536 - 1 := of_decide_eq_false h
    have hlt : ¬ s.batch + 1 ≥ c.limit / 65536 := by omega
    refine condI (fun h => ?_) (fun h => ?_)
    · have h : chMask c cells s.frm c.thr.toNat = 0 := of_decide_eq_true h
      have e : bgErr 0 c s cells n = 2 := by simp [bgErr, hn, hnum, hlt, h]
      rw [e] at hk
      simpa [bgAV, zif] using hk
    · have h : ¬ chMask c cells s.frm c.thr.toNat = 0 := of_decide_eq_false h
      have e : bgErr 0 c s cells n = 0 := by simp [bgErr, hn, hnum, hlt, h]
      rw [e] at hk
      simpa [bgAV, zif] using hk
end

/-! ### As summaries -/
def pS (s : Stg) : Bool := decide (0 ≤ s.batch) && decide (0 ≤ s.mask)
theorem pS_true {s : Stg} : pS s = true ↔ 0 ≤ s.batch ∧ 0 ≤ s.mask := by simp [pS]
noncomputable def onBegin (g : Conf → Stg → List AV → Nat → AV) : List AV → Option (Bool × AV)
  | [a, b, .lst cells n] => match confOf a, stgOf b with
    | some c, some s => some (pS s && (Nat.beq cells.length n && cells.all AV.isB), g c s cells n)
    | _, _ => none
  | _ => none
theorem onBegin_sum {P : Program} {f : FuncId} {g : Conf → Stg → List AV → Nat → AV} (h : ∀ (c : Conf) (s : Stg) (cells : List AV) (n : Nat), 0 ≤ s.batch → 0 ≤ s.mask → cells.length = n → cells.all AV.isB = true → ACalls P (fun _ => none) f [c.av, s.av, .lst cells n] (fun v => v = g c s cells n)) : SumOk P (fun _ => none) (f, onBegin g) := fun args r hr => by
  simp only at hr
  unfold onBegin at hr
  split at hr
  · split at hr
    · rename_i c s hc hs
      cases confOf_some hc
      cases stgOf_some hs
      simp only [Option.some.injEq, Prod.mk.injEq, Bool.and_eq_true, beq_iff, pS_true] at hr
      obtain ⟨⟨⟨h1, h2⟩, h3, h4⟩, rfl⟩ := hr
      exact h c s _ _ h1 h2 h3 h4
    · cases hr
  · cases hr
def S_what : Sum := (16, onConf2 stgOf (fun _ s => pS s) fun c s => whatAV (chk mayP c s) c s)
def S_whatR : Sum := (17, onConf2 stgOf (fun _ s => pS s) fun c s => whatAV (chk mayP c s) c s)
def S_next : Sum := (18, onConf2 stgOf (fun _ s => pS s) fun c s => nxAV (nxErr (chk mayP c s) c s) s)
def S_nextR : Sum := (19, onConf2 stgOf (fun _ s => pS s) fun c s => nxAV (nxErr (chk mayP c s) c s) s)
noncomputable def S_begin : Sum := (20, onBegin fun c s cells n => bgAV (bgErr (chk mayP c s) c s cells n) c s cells)
noncomputable def S_beginR : Sum := (21, onBegin fun c s cells n => bgAV (bgErr (chk mayP c s) c s cells n) c s cells)
theorem s_what : SumOk Try.prog (fun _ => none) S_what := onConf2_sum (fun _ _ => stgOf_some) fun c s hp => s_what' (pS_true.1 hp).1
theorem s_whatR : SumOk Try.prog (fun _ => none) S_whatR := onConf2_sum (fun _ _ => stgOf_some) fun c s hp => s_whatR' (pS_true.1 hp).1 (pS_true.1 hp).2
theorem s_next : SumOk Try.prog (fun _ => none) S_next := onConf2_sum (fun _ _ => stgOf_some) fun c s hp => s_next' (pS_true.1 hp).1
theorem s_nextR : SumOk Try.prog (fun _ => none) S_nextR := onConf2_sum (fun _ _ => stgOf_some) fun c s hp => s_nextR' (pS_true.1 hp).1 (pS_true.1 hp).2
theorem s_begin : SumOk Try.prog (fun _ => none) S_begin := onBegin_sum fun c s cells n h1 h2 h3 h4 => s_begin' h1 h3 h4
theorem s_beginR : SumOk Try.prog (fun _ => none) S_beginR := onBegin_sum fun c s cells n h1 h2 h3 h4 => s_beginR' h1 h2 h3 h4
end Go.Bas.BasStage5
