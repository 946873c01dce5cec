/- Of stages, plainly: a stage's cell tells it, and Tags rise. -/
import Derived.Test.YtomiknbiencggaaBasStage2
namespace Go.Bas.BasBack
open Go.RowKit Go.Proofs Go.Bas.BasStage Go.Bas.BasStage2
set_option linter.unusedVariables false
set_option linter.unusedSimpArgs false

theorem wf64 {n : Int} (h : 0 ≤ n) (h' : n ≤ 18446744073709551615) : (Lit.int .u64 n).wf = true := by simp [Lit.wf, IntKind.min, IntKind.max, IntKind.signed, IntKind.bits]; omega
theorem wfi64 {n : Int} (h : -9223372036854775808 ≤ n) (h' : n ≤ 9223372036854775807) : (Lit.int .i64 n).wf = true := by simp [Lit.wf, IntKind.min, IntKind.max, IntKind.signed, IntKind.bits]; omega
theorem w64 {n : Int} (h : 0 ≤ n) (h' : n ≤ 18446744073709551615) : IntKind.wrap .u64 n = n := wrap_eq (wf64 h h')
theorem wi64 {n : Int} (h : -9223372036854775808 ≤ n) (h' : n ≤ 9223372036854775807) : IntKind.wrap .i64 n = n := wrap_eq (wfi64 h h')
theorem chk0 {m : Conf → Stg → Bool} {c : Conf} {s : Stg} : chk m c s = 0 ↔ c.ok = true ∧ m c s = true := by
  unfold chk
  cases c.ok <;> cases m c s <;> simp
theorem batches_eq {c : Conf} (h : c.OkP) : batches c = c.limit / 65536 := by
  simp only [Conf.OkP] at h
  have h1 : c.limit.tdiv 65536 = c.limit / 65536 := Int.tdiv_eq_ediv_of_nonneg (by omega)
  unfold batches
  rw [h1, w64 (by omega) (by omega)]
/-- What holds of a stage that may be. -/
structure SOk (c : Conf) (s : Stg) : Prop where
  ok : c.OkP
  n1 : 1 ≤ s.number
  n2 : s.number ≤ c.ins + 5
  b : s.batch < c.limit / 65536
  f1 : 0 ≤ s.frm
  f2 : s.frm < c.thr
  z : s.batch = 0 → s.number = c.ins + 5
theorem sok {c : Conf} {s : Stg} (h : chk mayP c s = 0) : SOk c s := by
  obtain ⟨h1, h2⟩ := chk0.1 h
  have h1 := ok_true.1 h1
  rw [mayP_true, batches_eq h1] at h2
  have hr : restS c = c.ins + 5 := by
    simp only [Conf.OkP] at h1
    unfold restS
    rw [wi64 (by omega) (by omega)]
  rw [hr] at h2
  exact ⟨h1, h2.1, h2.2.1, h2.2.2.1, h2.2.2.2.2.1, h2.2.2.2.2.2.1, fun hz => by omega⟩
theorem tag_eq {c : Conf} {s : Stg} (h : SOk c s) (hb : 0 ≤ s.batch) : tagS s = 65536 * s.batch + s.number := by
  have h1 := h.ok; have h2 := h.n1; have h3 := h.n2; have h4 := h.b
  simp only [Conf.OkP] at h1
  unfold tagS
  have e1 : IntKind.wrap .u64 (s.batch * 65536) = s.batch * 65536 := w64 (by omega) (by omega)
  have e2 : IntKind.wrap .u64 s.number = s.number := w64 (by omega) (by omega)
  rw [e1, e2, w64 (by omega) (by omega)]
  omega
/-- The cell of a stage. -/
def celS (s : Stg) : Cel := ⟨tagS s, s.mask, IntKind.wrap .u64 s.frm, 0⟩
theorem cel_stg {c : Conf} {s : Stg} (h : SOk c s) (hb : 0 ≤ s.batch) : celStg (celS s) = s := by
  have ht := tag_eq h hb
  have h1 := h.ok; have h2 := h.n1; have h3 := h.n2; have h4 := h.b; have h5 := h.f1; have h6 := h.f2
  simp only [Conf.OkP] at h1
  unfold celStg celS
  simp only
  rw [ht]
  have e1 : (65536 * s.batch + s.number).tdiv 65536 = s.batch := by rw [Int.tdiv_eq_ediv_of_nonneg (by omega)]; omega
  have e2 : (65536 * s.batch + s.number).tmod 65536 = s.number := by rw [Int.tmod_eq_emod_of_nonneg (by omega)]; omega
  have e3 : IntKind.wrap .u64 s.frm = s.frm := w64 (by omega) (by omega)
  rw [e1, e2, e3, w64 (by omega) (by omega), wi64 (by omega) (by omega), wi64 (by omega) (by omega)]
theorem of_ok {c : Conf} {s : Stg} (h : chk mayP c s = 0) (hb : 0 ≤ s.batch) : ofP c (celS s) = 0 := by
  have hs := sok h
  obtain ⟨h1, h2⟩ := chk0.1 h
  have h5 := hs.f1; have h6 := hs.f2
  have ho := hs.ok
  simp only [Conf.OkP] at ho
  unfold ofP
  rw [h1, cel_stg hs hb, h2]
  have e3 : (celS s).b = s.frm := w64 (by omega) (by omega)
  have e4 : IntKind.wrap .u64 c.thr = c.thr := w64 (by omega) (by omega)
  rw [e3, e4]
  have : ¬ s.frm ≥ c.thr := by omega
  simp [this, celS]
theorem zif_ok {e x : Int} (h : e = 0) : zif e x = x := by simp [zif, h]
theorem tag_le {c : Conf} {s : Stg} (h : SOk c s) (hb : 0 ≤ s.batch) : tagS s ≤ c.limit := by
  rw [tag_eq h hb]
  have h1 := h.ok; have h3 := h.n2; have h4 := h.b
  simp only [Conf.OkP] at h1
  omega
theorem tag_lt {c : Conf} {s t : Stg} (hs : SOk c s) (ht : SOk c t) (h1 : 0 ≤ s.batch) (h2 : 0 ≤ t.batch) : tagS s < tagS t ↔ (s.batch < t.batch ∨ s.batch = t.batch ∧ s.number < t.number) := by
  rw [tag_eq hs h1, tag_eq ht h2]
  have a := hs.n1; have b := hs.n2; have d := ht.n1; have e := ht.n2
  have h := hs.ok
  simp only [Conf.OkP] at h
  omega

end Go.Bas.BasBack
