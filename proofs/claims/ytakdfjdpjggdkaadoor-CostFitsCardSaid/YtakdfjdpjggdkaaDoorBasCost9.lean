/- The law CostAlone, walked. -/
import Derived.Test.YtakdfjdpjggdkaaDoorBasCost8
import Derived.Test.YtakdfjdpjggdkaaDoorBasCAlive
namespace Go.Bas.BasCost9
open Go.RowKit Go.Proofs Go.Bas.BasCBase Go.Bas.BasCItems Go.Bas.BasCItems2 Go.Bas.BasCost0 Go.Bas.BasCost Go.Bas.BasCost2 Go.Bas.BasCost5 Go.Bas.BasCost6 Go.Bas.BasCost8
set_option maxRecDepth 100000
set_option linter.unusedVariables false
set_option linter.unusedSimpArgs false
theorem s_aliveS : SumOk Tryd.prog (gmap gs) S_aliveC := fun args r hr => by
  cases args with
  | nil =>
    obtain rfl : AV.bool true = r := by simpa [S_aliveC] using hr
    exact BasCAlive.s_alive
  | cons a b => simp [S_aliveC] at hr
/-- The one's object and sizes, the other's rest. -/
def mixd (c d : Conf) : Conf := ⟨c.ob, d.ins, d.thr, d.kind, d.str, c.bits, c.cap, c.node, d.batch, c.chunk, d.limit, d.most⟩
theorem mix_R (c d : Conf) (kd : Int) : cR (mixd c d) kd = cR c kd := rfl
theorem mix_W (c d : Conf) (kd : Int) : cW (mixd c d) kd = cW c kd := rfl
theorem mix_G (c d : Conf) (kd : Int) : cG (mixd c d) kd = cG c kd := rfl
theorem mix_S (c d : Conf) : gS (mixd c d) = gS c := rfl
theorem errC0 {c : Conf} (h : errC c = 0) : c.ok = true := by
  cases ho : c.ok with
  | true => rfl
  | false => rw [errC_no ho] at h; cases h
theorem lawAlone (c d : Conf) (kd : Int) (c0 : (Lit.int .u8 c.ob).wf = true) (c1 : (Lit.int .i64 c.ins).wf = true) (c2 : (Lit.int .i64 c.thr).wf = true) (c3 : (Lit.int .u8 c.kind).wf = true) (c4 : (Lit.int .i64 c.str).wf = true) (c5 : (Lit.int .i64 c.bits).wf = true) (c6 : (Lit.int .i64 c.cap).wf = true) (c7 : (Lit.int .i64 c.node).wf = true) (c8 : (Lit.int .i64 c.batch).wf = true) (c9 : (Lit.int .i64 c.chunk).wf = true) (c10 : (Lit.int .u64 c.limit).wf = true) (c11 : (Lit.int .u64 c.most).wf = true) (d0 : (Lit.int .u8 d.ob).wf = true) (d1 : (Lit.int .i64 d.ins).wf = true) (d2 : (Lit.int .i64 d.thr).wf = true) (d3 : (Lit.int .u8 d.kind).wf = true) (d4 : (Lit.int .i64 d.str).wf = true) (d5 : (Lit.int .i64 d.bits).wf = true) (d6 : (Lit.int .i64 d.cap).wf = true) (d7 : (Lit.int .i64 d.node).wf = true) (d8 : (Lit.int .i64 d.batch).wf = true) (d9 : (Lit.int .i64 d.chunk).wf = true) (d10 : (Lit.int .u64 d.limit).wf = true) (d11 : (Lit.int .u64 d.most).wf = true) (wk : (Lit.int .u8 kd).wf = true) : ACalls Tryd.prog (gmap gs) 11 [c.av, d.av, .int .u8 kd] (fun v => v = .bool true) := by
  have hp : pK kd = true := pK_true.2 (wf_iff.1 wk)
  refine acalls_eq base (sums_cons s_aliveS (sums_cons s_Of (sums_cons s_Steps sums_nil))) (n := 300) fun k hk => ?_
  refine (t_alone c d kd k).trans ?_
  rw [hp]
  refine condI (fun _ => hk) (fun h1 => condI (fun _ => hk) (fun h2 => ?_))
  have h1 : errC c = 0 := by simpa using h1
  have h2 : errC (mixd c d) = 0 := by
    have : errC (Conf.mk c.1 d.2 d.3 d.4 d.5 c.6 c.7 c.8 d.9 c.10 d.11 d.12) = 0 := by simpa using h2
    exact this
  have he : cErr (mixd c d) kd = cErr c kd := by
    unfold cErr
    rw [errC0 h1, errC0 h2]
    rfl
  have hm : Conf.mk c.1 d.2 d.3 d.4 d.5 c.6 c.7 c.8 d.9 c.10 d.11 d.12 = mixd c d := rfl
  rw [hm, he, mix_R, mix_W, mix_G, mix_S, h1, h2]
  simp only [decide_true, Bool.true_and, Bool.and_true, cond_true]
  exact hk
end Go.Bas.BasCost9
