/- The law StageLays returns true, whatever config, stage and cell it is given. No conditions. -/
import Derived.Test.YtakdfjdpjggdkaaRows
import Derived.Test.YtakdfjdpjggdkaaBasStage2
namespace Go.Proofs.Ytakdfjdpjggdkaa
open Go.ChangeShapes Go.WideShapes Go.ChangeAt Go.RowKit Go.Bas Go.Bas.BasStage Go.Bas.BasStage2
set_option linter.unusedVariables false
set_option linter.unusedSimpArgs false

/-! ### The plain law -/
theorem pow_pos2 (n : Nat) : (0 : Int) < 2 ^ n := Int.pow_pos (by decide)

theorem shr_zero {x n : Int} (h0 : 0 ≤ x) (hn : 0 ≤ n) (h64 : n ≤ 64) : ishr .u64 x n = 0 ↔ x < pow2 n := by
  unfold ishr pow2
  have h1 : min n.toNat IntKind.u64.bits = n.toNat := Nat.min_eq_left (by simp [IntKind.bits]; omega)
  rw [h1, Int.fdiv_eq_ediv_of_nonneg _ (Int.le_of_lt (pow_pos2 _))]
  have hp := pow_pos2 n.toNat
  constructor
  · intro h
    by_cases hx : x < 2 ^ n.toNat
    · exact hx
    · have : 1 ≤ x / 2 ^ n.toNat := by
        rw [Int.le_ediv_iff_mul_le hp]
        omega
      omega
  · intro h
    exact Int.ediv_eq_zero_of_lt h0 h

theorem wf64 {n : Int} (h : 0 ≤ n) (h' : n ≤ 18446744073709551615) : (Lit.int .u64 n).wf = true := by simp [Lit.wf, IntKind.min, IntKind.max, IntKind.signed, IntKind.bits]; omega
theorem batches_eq {c : Conf} (h : c.OkP) : batches c = c.limit / 65536 ∧ lastS c = c.limit / 65536 - 1 := by
  simp only [Conf.OkP] at h
  have h1 : c.limit.tdiv 65536 = c.limit / 65536 := Int.tdiv_eq_ediv_of_nonneg (by omega)
  unfold batches lastS
  rw [h1, wrap_eq (wf64 (by omega) (by omega)), wrap_eq (wf64 (by omega) (by omega))]
  exact ⟨rfl, rfl⟩

theorem may_eq {c : Conf} {s : Stg} (h : c.OkP) (hm : 0 ≤ s.mask) : mayP c s = mayR c s := by
  obtain ⟨h1, h2⟩ := batches_eq h
  simp only [Conf.OkP] at h
  have h3 := @shr_zero s.mask c.thr hm (by omega) (by omega)
  rw [Bool.eq_iff_iff, mayP_true, mayR_true, h1, h2]
  constructor
  · rintro ⟨a, b, d, e, f, g, i⟩
    exact ⟨a, b, by omega, f, g, h3.1 e, i⟩
  · rintro ⟨a, b, d, e, f, g, i⟩
    exact ⟨a, b, by omega, h3.2 g, e, f, i⟩

theorem chk_eq {c : Conf} {s : Stg} (hm : 0 ≤ s.mask) : chk mayP c s = chk mayR c s := by
  unfold chk
  cases ho : c.ok with
  | false => rfl
  | true => rw [may_eq (ok_true.1 ho) hm]

theorem of_eq {c : Conf} {l : Cel} (ha : 0 ≤ l.a) (hb : 0 ≤ l.b) : ofP c l = ofR c l := by
  unfold ofP ofR
  cases ho : c.ok with
  | false => rfl
  | true =>
    have h := ok_true.1 ho
    have hm := @may_eq c (celStg l) h ha
    simp only [Conf.OkP] at h
    rw [hm, wrap_eq (wf64 (by omega) (by omega))]
    simp only [cond_true]
    by_cases h1 : l.b ≥ c.thr
    · by_cases h2 : l.b > 16
      · simp [h1, h2]
      · have hf : (celStg l).frm = l.b := wrap_eq (by simp [Lit.wf, IntKind.min, IntKind.max, IntKind.signed, IntKind.bits]; omega)
        have : mayR c (celStg l) = false := by
          cases hq : mayR c (celStg l) with
          | false => rfl
          | true =>
            have := mayR_true.1 hq
            rw [hf] at this
            omega
        simp [h1, h2, this]
    · have h2 : ¬ l.b > 16 := by omega
      simp [h1, h2]

theorem law (c : Conf) (s : Stg) (l : Cel) (hm : 0 ≤ s.mask) (ha : 0 ≤ l.a) (hb : 0 ≤ l.b) : ACalls Try.prog (fun _ => none) 3 [c.av, s.av, l.av] (fun v => v = .bool true) :=
  acalls_eq base (sums_cons s_laid (sums_cons s_laidR (sums_cons s_of (sums_cons s_ofR sums_nil)))) (n := 300) fun k hk => by
    rw [t_law, chk_eq hm, of_eq ha hb]
    simpa using hk

/-! ### The row -/
theorem own : ownKnob Try.prog.godebug = none := by kernel_rfl
theorem laidOut : laidOutB Try.prog = true := by kernel_rfl
theorem flat24 : flatT Try.prog 8 24 = some [.i .u8, .i .i64, .i .i64, .i .u8, .i .i64, .i .i64, .i .i64, .i .i64, .i .i64, .i .i64, .i .u64, .i .u64] := by kernel_rfl
theorem flat26 : flatT Try.prog 8 26 = some [.i .u64, .i .i64, .i .u64, .i .i64] := by kernel_rfl
theorem flat28 : flatT Try.prog 8 28 = some [.i .u64, .i .u64, .i .u64, .i .u64] := by kernel_rfl

set_option maxRecDepth 100000 in
theorem lifted (os : Os) (started : os.Started) (H : Type) (enc : TypeId × Value → H) :
    ReturnsInHanded {} Try.checked os 3 .any (Rows.stageLaysSpec.pre6 enc Try.prog Try.f3 Rows.stageLaysRow.domain false) (Rows.stageLaysSpec.post enc Try.prog Try.f3 false true false false) := by
  refine returnsInHanded_of_change (C := Try.checked) own started (by kernel_rfl) Try.func3
    (ChangeSpec.witness6 (enc := enc) (C := Try.checked) false ⟨#[], #[.agg #[.int .u8 0, .int .i64 0, .int .i64 0, .int .u8 0, .int .i64 0, .int .i64 0, .int .i64 0, .int .i64 0, .int .i64 0, .int .i64 0, .int .u64 0, .int .u64 0],
      .agg #[.int .u64 0, .int .i64 0, .int .u64 0, .int .i64 0], .agg #[.int .u64 0, .int .u64 0, .int .u64 0, .int .u64 0]], []⟩ 8 (by kernel_rfl) (by kernel_rfl) (by kernel_rfl) (by kernel_rfl)) ?_
  intro W base args ds gs before hval0 hW hcnd _
  have hval : ∀ (j : Nat) t v, Try.f3.params[j]? = some t → args[j]? = some v → Value.okWide Try.prog W .any base t v := hval0
  have hW' := hW
  obtain ⟨p, q, hA0, hV, rfl, hfz, hnd⟩ := hW
  have hA : DataW.TrodAll enc Try.prog W 0 (fun _ => true) true Try.f3.params.toList args.toList ds p := hA0
  rw [Try.params3] at hA hval
  obtain ⟨v0, v1, v2, d0, d1, d2, p0, p1, p2, rfl, rfl, rfl, h0, h1, h2⟩ := trodAll_three hA
  obtain ⟨rfl, rfl⟩ := trodVars_none hV
  obtain ⟨l0, rfl, c0⟩ := open_flat Try.underlying24 flat24 (by kernel_rfl) (hval 0 24 v0 rfl rfl) h0
  obtain ⟨l1, rfl, c1⟩ := open_flat Try.underlying26 flat26 (by kernel_rfl) (hval 1 26 v1 rfl rfl) h1
  obtain ⟨l2, rfl, c2⟩ := open_flat Try.underlying28 flat28 (by kernel_rfl) (hval 2 28 v2 rfl rfl) h2
  obtain ⟨x0, _, rfl, w0, x1, _, rfl, w1, x2, _, rfl, w2, x3, _, rfl, w3, x4, _, rfl, w4, x5, _, rfl, w5, x6, _, rfl, w6, x7, _, rfl, w7, x8, _, rfl, w8, x9, _, rfl, w9, x10, _, rfl, w10, x11, _, rfl, w11, rfl⟩ := c0
  obtain ⟨y0, _, rfl, u0, y1, _, rfl, u1, y2, _, rfl, u2, y3, _, rfl, u3, rfl⟩ := c1
  obtain ⟨z0, _, rfl, t0, z1, _, rfl, t1, z2, _, rfl, t2, z3, _, rfl, t3, rfl⟩ := c2
  have m1 : 0 ≤ y2 := (wf_iff.1 u2).1
  have m2 : 0 ≤ z1 := (wf_iff.1 t1).1
  have m3 : 0 ≤ z2 := (wf_iff.1 t2).1
  have hrep : RepL W (fun _ => False) (fun _ => False) (fun _ => none) 0 [Conf.av ⟨x0, x1, x2, x3, x4, x5, x6, x7, x8, x9, x10, x11⟩, Stg.av ⟨y0, y1, y2, y3⟩, Cel.av ⟨z0, z1, z2, z3⟩] _ := repL_cons (rep_cells [.int .u8 x0, .int .i64 x1, .int .i64 x2, .int .u8 x3, .int .i64 x4, .int .i64 x5, .int .i64 x6, .int .i64 x7, .int .i64 x8, .int .i64 x9, .int .u64 x10, .int .u64 x11])
    (repL_cons (rep_cells [.int .u64 y0, .int .i64 y1, .int .u64 y2, .int .i64 y3]) (repL_cons (rep_cells [.int .u64 z0, .int .u64 z1, .int .u64 z2, .int .u64 z3]) repL_nil))
  refine (law ⟨x0, x1, x2, x3, x4, x5, x6, x7, x8, x9, x10, x11⟩ ⟨y0, y1, y2, y3⟩ ⟨z0, z1, z2, z3⟩ m1 m2 m3 W _ (fun _ => False) (fun g cells h => (by cases h)) (fun g cells h => (by cases h)) (fun _ h => h.elim) hrep).mono fun e W' hh => ?_
  obtain ⟨v, u, rfl, rfl, E, R⟩ := hh
  cases R
  exact ⟨_, rfl, post_true laidOut (by kernel_rfl) rfl hW' (Still.below E) (by kernel_rfl) Try.underlying4 rfl rfl rfl⟩

theorem over : Rows.stageLaysRow.holds Try.pinned (OpenSpec.ofChange Rows.stageLaysSpec) :=
  OpenClaim.holds_of_wide 3 Try.f3 rfl rfl rfl rfl rfl rfl rfl ⟨rfl, rfl, rfl, rfl, rfl⟩ rfl rfl rfl rfl rfl (by kernel_rfl) Try.func3 (by kernel_rfl)
    (of_decide_eq_true (by kernel_rfl)) (by unfold Func.isWrapper; first | (rw [if_pos (by decide +kernel)]; kernel_rfl) | (rw [if_neg (by decide +kernel)]; exact ⟨rfl, rfl⟩))
    (fun os started H enc _ => lifted os started H enc)

theorem stageLays : Rows.StageLaysSaid := over
#print axioms stageLays
end Go.Proofs.Ytakdfjdpjggdkaa
