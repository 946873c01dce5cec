/- The law CostFits, walked. -/
import Derived.Test.YtakdfjdpjggdkaaDoorBasCost11
import Derived.Test.YtakdfjdpjggdkaaDoorBasCost9
namespace Go.Bas.BasCost12
open Go.RowKit Go.Proofs Go.Bas.BasCBase Go.Bas.BasCItems Go.Bas.BasCItems2 Go.Bas.BasCost0 Go.Bas.BasCost Go.Bas.BasCost2 Go.Bas.BasCost4 Go.Bas.BasCost5 Go.Bas.BasCost6 Go.Bas.BasCost8 Go.Bas.BasCost9 Go.Bas.BasCost10 Go.Bas.BasCost11
set_option maxRecDepth 100000
set_option linter.unusedVariables false
set_option linter.unusedSimpArgs false
theorem mono {a b c : Int} (h : b ≤ c) (ha : 0 ≤ a) : a * b ≤ a * c := Int.mul_le_mul_of_nonneg_left h ha
theorem lk_mono {c : Conf} (h : c.OkP) {f g : Int} (hfg : f ≤ g) : lk c f ≤ lk c g := by
  have hg := gP_b h
  simp only [Conf.OkP] at h
  have e1 : f * gP c ≤ g * gP c := Int.mul_le_mul_of_nonneg_right hfg hg.1
  have e2 : c.thr * (f * gP c) ≤ c.thr * (g * gP c) := mono e1 (by omega)
  have e3 : c.thr * (f * gP c + 2) ≤ c.thr * (g * gP c + 2) := mono (by omega) (by omega)
  have e4 : 2 * c.str * (c.thr * (f * gP c + 2) + 1) ≤ 2 * c.str * (c.thr * (g * gP c + 2) + 1) := mono (by omega) (by omega)
  unfold lk
  cases decide (c.kind = 1)
  · exact e4
  · show c.thr + c.thr * (f * gP c) ≤ c.thr + c.thr * (g * gP c)
    omega
theorem bd_mono {c : Conf} (h : c.OkP) {f g : Int} (h0 : 0 ≤ f) (h1 : g ≤ 65536) (hfg : f ≤ g) : bd c f ≤ bd c g := by
  have N := bn h h0 (by omega)
  have hl := lk_mono h hfg
  have t1 := N.t1
  have q0 := N.q0
  have e1 : (2 + (c.thr - 1) / c.batch) * (mv c + 2 * lk c f) ≤ (2 + (c.thr - 1) / c.batch) * (mv c + 2 * lk c g) := mono (by omega) (by omega)
  have e2 : turn c * ((2 + (c.thr - 1) / c.batch) * (mv c + 2 * lk c f) + 2) ≤ turn c * ((2 + (c.thr - 1) / c.batch) * (mv c + 2 * lk c g) + 2) := mono (by omega) (by omega)
  unfold bd
  omega
theorem bd_ge {c : Conf} (h : c.OkP) {f : Int} (h0 : 0 ≤ f) (h1 : f ≤ 65536) : 2 * mv c ≤ bd c f := by
  have N := bn h h0 h1
  have hl := (ln h h0 h1).lb
  obtain ⟨_, m1, _⟩ := mv_b h
  have t1 := N.t1
  have q0 := N.q0
  have e1 : 2 * (mv c + 2 * lk c f) ≤ (2 + (c.thr - 1) / c.batch) * (mv c + 2 * lk c f) := Int.mul_le_mul_of_nonneg_right (by omega) (by omega)
  have e2 : 1 * ((2 + (c.thr - 1) / c.batch) * (mv c + 2 * lk c f) + 2) ≤ turn c * ((2 + (c.thr - 1) / c.batch) * (mv c + 2 * lk c f) + 2) := Int.mul_le_mul_of_nonneg_right (by omega) (by omega)
  unfold bd
  omega
theorem lawFits (c : Conf) (f g : Int) (c0 : (Lit.int .u8 c.ob).wf = true) (c1 : (Lit.int .i64 c.ins).wf = true) (c2 : (Lit.int .i64 c.thr).wf = true) (c3 : (Lit.int .u8 c.kind).wf = true) (c4 : (Lit.int .i64 c.str).wf = true) (c5 : (Lit.int .i64 c.bits).wf = true) (c6 : (Lit.int .i64 c.cap).wf = true) (c7 : (Lit.int .i64 c.node).wf = true) (c8 : (Lit.int .i64 c.batch).wf = true) (c9 : (Lit.int .i64 c.chunk).wf = true) (c10 : (Lit.int .u64 c.limit).wf = true) (c11 : (Lit.int .u64 c.most).wf = true) (wf : (Lit.int .i64 f).wf = true) (wg : (Lit.int .i64 g).wf = true) : ACalls Tryd.prog (gmap gs) 12 [c.av, .int .i64 f, .int .i64 g] (fun v => v = .bool true) := by
  refine acalls_eq base (sums_cons s_aliveS (sums_cons s_Steps (sums_cons s_Moves (sums_cons s_Bound sums_nil)))) (n := 300) fun k hk => ?_
  refine (t_fits c f g k).trans ?_
  have tt : decide (errC c = errC c) = true := decide_eq_true rfl
  rw [tt]
  refine condI (fun _ => hk) (fun h1 => condI (fun _ => hk) (fun h2 => condI (fun _ => hk) (fun h3 => ?_)))
  have h1 : errC c = 0 := by simpa using h1
  have h2 : lErr c f = 0 := by simpa using h2
  have h3 : lErr c g = 0 := by simpa using h3
  obtain ⟨ho, f0, f1⟩ := lErr0 h2
  obtain ⟨_, g0, g1⟩ := lErr0 h3
  have hO := ok_true.1 ho
  have hg := gS_b hO
  obtain ⟨_, m1, m2⟩ := mv_b hO
  have hO' := hO
  simp only [Conf.OkP] at hO'
  have q1 := mul_b (a := c.batch) (b := gS c) (A := 16) (B := 203) (by omega) hg
  have w1 : IntKind.wrap .i64 (c.9 * gS c) = c.batch * gS c := wBig q1.1 (by have : c.9 * gS c = c.batch * gS c := rfl; omega)
  have w2 : IntKind.wrap .i64 (c.batch * gS c + 1) = c.batch * gS c + 1 := wBig (by omega) (by omega)
  have w3 : IntKind.wrap .i64 (2 * mv c) = 2 * mv c := wBig (by omega) (by omega)
  have lt : c.batch * gS c + 1 < 65536 := by omega
  have ge : bd c f ≥ 2 * mv c := bd_ge hO f0 f1
  rw [h1, h2, h3, show ∀ x, zif 0 x = x from fun x => rfl, show ∀ x, zif 0 x = x from fun x => rfl, show ∀ x, zif 0 x = x from fun x => rfl, show ∀ x, zif 0 x = x from fun x => rfl, w1, w2, w3, decide_eq_true lt, decide_eq_true ge]
  by_cases hfg : f > g
  · rw [decide_eq_true hfg]; exact hk
  · rw [decide_eq_false hfg, decide_eq_true (bd_mono hO f0 g1 (by omega))]; exact hk
end Go.Bas.BasCost12
