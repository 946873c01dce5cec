/- The programs of routes, gates and settings answer always, where frames' numbers are such asv their t; The program of routes answers always, where frames' numbers are such asv their types have; The program of settings answers always, where frames' numbers are such asv their types have; The program of settings goes on always, where frames' numbers are such asv their types have; Contracts of the four objects' programs, over frames whose numbers are such asv their types have. -/
import Derived.Test.YtjepofcbkojibaaGreatDoorBasW10
import Derived.Test.YtjepofcbkojibaaGreatDoorBasW11
import Derived.Test.YtjepofcbkojibaaGreatDoorBasW12
import Derived.Test.YtjepofcbkojibaaGreatDoorBasW14
set_option maxRecDepth 100000
set_option maxHeartbeats 4000000
set_option linter.unusedVariables false
set_option linter.unusedSimpArgs false
section
namespace Go.Bas.BasZOk2
open Go.RowKit Go.Proofs BasZBase BasZOp BasZOk BasZGate BasZTrie BasZBranch
theorem opc_f {c : Conf} {f : Frm} (h : posF f = true) (x : Int) : ok_opc c ⟨f.kind, f.a, f.b, x⟩ = true := by
 have q := posF_true.1 h
 exact ok_opc_pos q.1 q.2.1 q.2.2.1
theorem ok_gmay_pos {c : Conf} {f : Frm} (h : posF f = true) : ok_gmay c f = true := by
 unfold ok_gmay T_gmay
 try simp only [zci0, zci1, zci2, zci3, zci4, zci5, zci6, zci7]
 rw [opc_f h, opc_f h]
 repeat' (first | exact okleaf | refine okbr (fun h => ?_) (fun h => ?_))
 all_goals (first | (cases ‹true = false›) | skip)
theorem ok_gchk_pos {c : Conf} {f : Frm} (h : posF f = true) : ok_gchk c f = true := by
 unfold ok_gchk T_gchk
 try simp only [zci0, zci1, zci2, zci3, zci4, zci5, zci6, zci7]
 rw [ok_gmay_pos h]
 repeat' (first | exact okleaf | refine okbr (fun h => ?_) (fun h => ?_))
 all_goals (first | (cases ‹true = false›) | skip)
theorem ok_gateN_pos {c : Conf} {f : Frm} (h : posF f = true) : ok_gateN c f = true := by
 unfold ok_gateN T_gateN
 try simp only [zci0, zci1, zci2, zci3, zci4, zci5, zci6, zci7]
 rw [ok_gchk_pos h]
 repeat' (first | exact okleaf | refine okbr (fun h => ?_) (fun h => ?_))
 all_goals (first | (cases ‹true = false›) | skip)
theorem ok_gateA_pos {c : Conf} {f : Frm} {l : Cel} (h : posF f = true) : ok_gateA c f l = true := by
 unfold ok_gateA T_gateA
 try simp only [zci0, zci1, zci2, zci3, zci4, zci5, zci6, zci7]
 rw [ok_gchk_pos h]
 repeat' (first | exact okleaf | refine okbr (fun h => ?_) (fun h => ?_))
 all_goals (first | (cases ‹true = false›) | skip)
theorem ok_tmay_pos {c : Conf} {f : Frm} (h : posF f = true) : ok_tmay ⟨f, c⟩ = true := by
 unfold ok_tmay T_tmay
 try simp only [zcj0, zcj1, zcj2, zcj3, zcj4, zcj5, zcj6, zcj7, zcj8, zcj9, zcj10, zcj11, zcj12, zcj13, zcj14, zcj15, zcj16, zcj17, zcj18, zcj19, zcj20, zcj21]
 simp only [opc_f h]
 repeat' (first | exact okleaf | refine okbr (fun h => ?_) (fun h => ?_))
 all_goals (first | (cases ‹true = false›) | skip)
end Go.Bas.BasZOk2
end
section
namespace Go.Bas.BasZOk3
open Go.RowKit Go.Proofs BasZBase BasZOp BasZOk BasZOk2 BasZTreB BasZTrie
theorem prb' {b : Bool} {x y : Tr} {P : Prop} (hx : b = true -> x.bool 0 = true -> P) (hy : b = false -> y.bool 0 = true -> P) (h : (Tr.br b x y).bool 0 = true) : P := by
  cases b
  · exact hy rfl h
  · exact hx rfl h
def trieOk (kind pc hh b bits : Int) : Prop := (kind = 3 -> hh <= bits /\ (pc = 0 \/ pc = 6 \/ pc = 8)) /\ (kind ≠ 3 -> hh <= b /\ (kind = 1 /\ (pc = 1 \/ pc = 5 \/ pc = 7) \/ kind ≠ 1 /\ pc = 8 \/ pc = 6 \/ pc = 0 \/ pc = 2 \/ pc = 3))
theorem tmay_prop {c : Conf} {f : Frm} (h : f_tmay_0 ⟨f, c⟩ = true) : trieOk f.kind f.pc (IntKind.wrap .u32 f.h) f.b (IntKind.wrap .u32 c.bits) := by
  unfold f_tmay_0 T_tmay at h
  try simp only [zcj0, zcj1, zcj2, zcj3, zcj4, zcj5, zcj6, zcj7, zcj8, zcj9, zcj10, zcj11, zcj12, zcj13, zcj14, zcj15, zcj16, zcj17, zcj18, zcj19, zcj20, zcj21] at h
  revert h
  unfold trieOk
  repeat' (first | (intro h; cases h; done) | refine prb' (fun h => ?_) (fun h => ?_))
  all_goals
    intro _; simp only [decide_eq_true_eq, decide_eq_false_iff_not, Bool.not_eq_true', Bool.not_eq_false'] at *; omega
theorem u32_small {n : Int} (h0 : 0 <= n) (h1 : n <= 4294967295) : IntKind.wrap .u32 n = n := wrap_eq (by simp [Lit.wf, IntKind.min, IntKind.max, IntKind.signed, IntKind.bits]; omega)
theorem i64_mid {n : Int} (h0 : -10000000000 <= n) (h1 : n <= 10000000000) : IntKind.wrap .i64 n = n := wrap_eq (by simp [Lit.wf, IntKind.min, IntKind.max, IntKind.signed, IntKind.bits]; omega)
theorem bits_of {c : Conf} (he : errC c = 0) (ho : c.ob = 1) : 1 <= c.bits /\ c.bits <= 6 := by
  have h := ok_true.1 (of_errC he)
  simp only [Conf.OkP] at h
  omega
theorem ok_tnode_pos {g : Frm} {c : Conf} (hb : 0 <= g.b) : ok_tnode ⟨g, c⟩ = true := by
  unfold ok_tnode T_tnode
  try simp only [zcj0, zcj1, zcj2, zcj3, zcj4, zcj5, zcj6, zcj7, zcj8, zcj9, zcj10, zcj11, zcj12, zcj13, zcj14, zcj15, zcj16, zcj17, zcj18, zcj19, zcj20, zcj21]
  exact okbr (fun h => absurd (of_decide_eq_true h) (by show ¬ g.b < 0; omega)) (fun _ => okleaf)
theorem ok_tat_pos {f : Frm} {c : Conf} {b : Int} (h0 : 0 <= f.h) (h1 : f.h <= 255) (hb : 0 <= b) (hb2 : b <= 4294967295) (hh : f.h <= b) : ok_tat ⟨f, c⟩ b = true := by
  unfold ok_tat T_tat
  try simp only [zcj0, zcj1, zcj2, zcj3, zcj4, zcj5, zcj6, zcj7, zcj8, zcj9, zcj10, zcj11, zcj12, zcj13, zcj14, zcj15, zcj16, zcj17, zcj18, zcj19, zcj20, zcj21]
  refine okbr (fun h => absurd (of_decide_eq_true h) (by omega)) (fun _ => okbr (fun h => ?_) (fun _ => okleaf))
  have h := of_decide_eq_true h
  have h : IntKind.wrap .i64 (b - IntKind.wrap .i64 f.h) < 0 := h
  rw [i64_mid (n := f.h) (by omega) (by omega), i64_mid (by omega) (by omega)] at h
  omega
theorem ok_trieN_pos {c : Conf} {f : Frm} (h : posF f = true) : ok_trieN c f = true := by
  have q := posF_true.1 h
  have e1 := i64_mid (n := f.b) (by omega) (by omega)
  have e2 := i64_mid (n := f.h) (by omega) (by omega)
  have e3 := u32_small (n := f.h) (by omega) (by omega)
  have e4 := i64_mid (n := f.b - f.h) (by omega) (by omega)
  unfold ok_trieN T_trieN
  try simp only [zcj0, zcj1, zcj2, zcj3, zcj4, zcj5, zcj6, zcj7, zcj8, zcj9, zcj10, zcj11, zcj12, zcj13, zcj14, zcj15, zcj16, zcj17, zcj18, zcj19, zcj20, zcj21]
  refine okbr (fun h => okleaf) (fun he => okbr (fun h => okleaf) (fun ho => ?_))
  have he : errC c = 0 := by simpa using he
  have ho : c.ob = 1 := by simpa using ho
  have hb := bits_of he ho
  have e5 := u32_small (n := c.bits) (by omega) (by omega)
  have e6 := i64_mid (n := c.bits - f.h) (by omega) (by omega)
  rw [ok_tmay_pos h]
  simp only [e1, e2, e4, e6, ok_tnode_pos (g := f) q.2.2.1, ok_tnode_pos (g := ⟨f.kind, f.a, f.b, 6, f.i, f.j, f.n, f.p, f.h, f.x, f.y⟩) q.2.2.1]
  refine okbr (fun _ => okbr (fun h => okleaf) (fun hm => ?_)) (fun h => by cases h)
  have hm := tmay_prop (c := c) (f := f) (by simpa using hm)
  rw [e3, e5] at hm
  unfold trieOk at hm
  clear h
  repeat' (first | exact okleaf | refine okbr (fun h => ?_) (fun h => ?_))
  all_goals
    exfalso
    first
    | (exact Bool.noConfusion (show true = false by assumption))
    | (simp only [decide_eq_true_eq, decide_eq_false_iff_not, Bool.not_eq_true', Bool.not_eq_false'] at *
       first
       | omega
       | (have hx := ok_tat_pos (f := f) (c := c) (b := f.b) (by omega) (by omega) (by omega) (by omega) (by omega)
          have hy : ok_tat ⟨f, c⟩ f.b = false := by assumption
          rw [hx] at hy; cases hy)
       | (have hx := ok_tat_pos (f := f) (c := c) (b := c.bits) (by omega) (by omega) (by omega) (by omega) (by omega)
          have hy : ok_tat ⟨f, c⟩ c.bits = false := by assumption
          rw [hx] at hy; cases hy))
theorem ok_trieA_pos {c : Conf} {f : Frm} {l : Cel} (h : posF f = true) : ok_trieA c f l = true := by
  have q := posF_true.1 h
  have e1 := i64_mid (n := f.b) (by omega) (by omega)
  have e2 := i64_mid (n := f.h) (by omega) (by omega)
  have e3 := u32_small (n := f.h) (by omega) (by omega)
  have e4 := i64_mid (n := f.b - f.h) (by omega) (by omega)
  unfold ok_trieA T_trieA
  try simp only [zcj0, zcj1, zcj2, zcj3, zcj4, zcj5, zcj6, zcj7, zcj8, zcj9, zcj10, zcj11, zcj12, zcj13, zcj14, zcj15, zcj16, zcj17, zcj18, zcj19, zcj20, zcj21]
  refine okbr (fun h => okleaf) (fun he => okbr (fun h => okleaf) (fun ho => ?_))
  have he : errC c = 0 := by simpa using he
  have ho : c.ob = 1 := by simpa using ho
  have hb := bits_of he ho
  have e5 := u32_small (n := c.bits) (by omega) (by omega)
  have e6 := i64_mid (n := c.bits - f.h) (by omega) (by omega)
  rw [ok_tmay_pos h]
  simp only [e1, e2, e4, e6, ok_tnode_pos (g := f) q.2.2.1, ok_tnode_pos (g := ⟨f.kind, f.a, f.b, 6, f.i, f.j, f.n, f.p, f.h, f.x, f.y⟩) q.2.2.1]
  refine okbr (fun _ => okbr (fun h => okleaf) (fun hm => ?_)) (fun h => by cases h)
  have hm := tmay_prop (c := c) (f := f) (by simpa using hm)
  rw [e3, e5] at hm
  unfold trieOk at hm
  clear h
  repeat' (first | exact okleaf | refine okbr (fun h => ?_) (fun h => ?_))
  all_goals
    exfalso
    first
    | (exact Bool.noConfusion (show true = false by assumption))
    | (simp only [decide_eq_true_eq, decide_eq_false_iff_not, Bool.not_eq_true', Bool.not_eq_false'] at *
       first
       | omega
       | (have hx := ok_tat_pos (f := f) (c := c) (b := f.b) (by omega) (by omega) (by omega) (by omega) (by omega)
          have hy : ok_tat ⟨f, c⟩ f.b = false := by assumption
          rw [hx] at hy; cases hy)
       | (have hx := ok_tat_pos (f := f) (c := c) (b := c.bits) (by omega) (by omega) (by omega) (by omega) (by omega)
          have hy : ok_tat ⟨f, c⟩ c.bits = false := by assumption
          rw [hx] at hy; cases hy))
end Go.Bas.BasZOk3
end
section
namespace Go.Bas
theorem prb {b : Bool} {x y : Tr} {P : Prop} (hx : b = true -> x.bool 0 = true -> P) (hy : b = false -> y.bool 0 = true -> P) (h : (Tr.br b x y).bool 0 = true) : P := by
  cases b
  · exact hy rfl h
  · exact hx rfl h
end Go.Bas
namespace Go.Bas.BasZOk4
open Go.RowKit Go.Proofs BasZBase BasZOp BasZOk BasZOk2 BasZTreB BasZBranch
theorem lf {b : Bool} (h : (Tr.leaf [.bool b]).bool 0 = true) : b = true := h
theorem fits_path {c : Conf} {o : Opr} (h : f_fits_0 c o = true) : o.kind = 12 \/ o.kind = 13 \/ o.kind = 14 -> f_path_0 o.a o.b = true := by
  unfold f_fits_0 T_fits at h
  try simp only [zcb0, zcb1, zcb2, zcb3, zcb4, zcb5, zcb6, zcb7] at h
  revert h
  repeat' (first | (intro h; cases h; done) | refine prb (fun h => ?_) (fun h => ?_))
  all_goals
    intro hv hk; have hv := lf hv
    first
    | exact hv
    | (exfalso
       simp only [decide_eq_true_eq, decide_eq_false_iff_not] at *; omega)
theorem path_1 {a b : Int} (h : f_path_0 a b = true) : ¬ iand .u32 a 65535 = 0 := by
  unfold f_path_0 T_path at h
  try simp only [zcb0, zcb1, zcb2, zcb3, zcb4, zcb5, zcb6, zcb7] at h
  revert h
  repeat' (first | (intro h; cases h; done) | refine prb (fun h => ?_) (fun h => ?_))
  all_goals
    intro hv; simp only [decide_eq_true_eq, decide_eq_false_iff_not, Bool.not_eq_true', Bool.not_eq_false'] at *
    assumption
theorem obj_4 {n : Int} (h0 : 0 <= n) (h1 : n <= 255) (h : f_obj_0 n = 4) : n = 12 \/ n = 13 \/ n = 14 := by
  by_cases hn : n < 15
  · have t0 : f_obj_0 0 = 0 := by kernel_rfl
    have t1 : f_obj_0 1 = 1 := by kernel_rfl
    have t2 : f_obj_0 2 = 1 := by kernel_rfl
    have t3 : f_obj_0 3 = 1 := by kernel_rfl
    have t4 : f_obj_0 4 = 2 := by kernel_rfl
    have t5 : f_obj_0 5 = 2 := by kernel_rfl
    have t6 : f_obj_0 6 = 2 := by kernel_rfl
    have t7 : f_obj_0 7 = 2 := by kernel_rfl
    have t8 : f_obj_0 8 = 2 := by kernel_rfl
    have t9 : f_obj_0 9 = 3 := by kernel_rfl
    have t10 : f_obj_0 10 = 3 := by kernel_rfl
    have t11 : f_obj_0 11 = 3 := by kernel_rfl
    rcases lt15 h0 hn with rfl | rfl | rfl | rfl | rfl | rfl | rfl | rfl | rfl | rfl | rfl | rfl | rfl | rfl | rfl <;> omega
  · have e : decide (IntKind.wrap .i64 n >= 15) = true := by rw [i64_small h0 h1]; exact decide_eq_true (by omega)
    have : f_obj_0 n = 0 := by
      unfold f_obj_0 T_obj; rw [e]; rfl
    omega
theorem opc_path {c : Conf} {o : Opr} (h0 : 0 <= o.kind) (h1 : o.kind <= 255) (hb : 0 <= o.b) (ho : c.ob = 4) (h : f_opc_0 c o = 0) : ¬ iand .u32 o.a 65535 = 0 := by
  have hf : f_obj_0 o.kind = c.ob /\ f_fits_0 c o = true := by
    have e : f_opc_0 c o = (bif !decide (errC c = 0) then errC c else bif ok_obj o.kind then bif !decide (f_obj_0 o.kind = c.ob) then 50 else bif ok_fits c o then bif !(f_fits_0 c o) then 10 else 0 else 0 else 0) := by
      unfold f_opc_0 T_opc; show cond _ _ _ = _; cases (!decide (errC c = 0)) with
      | true => rfl
      | false =>
        cases ok_obj o.kind with
        | false => rfl
        | true =>
          cases (!decide (f_obj_0 o.kind = c.ob)) with
          | true => rfl
          | false =>
            cases ok_fits c o with
            | false => rfl
            | true => cases (!(f_fits_0 c o)) <;> rfl
    by_cases he : errC c = 0
    · have hO := ok_true.1 (of_errC he)
      simp only [Conf.OkP] at hO; rw [h, decide_eq_true he, ok_obj_pos h0 h1] at e
      by_cases hk : f_obj_0 o.kind = c.ob
      · rw [decide_eq_true hk, ok_fits_pos hb (fun h3 => by rw [h3, obj_3] at hk; omega)] at e
        refine ⟨hk, ?_⟩; cases hf : f_fits_0 c o with
        | true => rfl
        | false =>
          rw [hf] at e; have e : (0 : Int) = 10 := e; omega
      · rw [decide_eq_false hk] at e
        have e : (0 : Int) = 50 := e; omega
    · rw [h, decide_eq_false he] at e
      exact absurd e.symm he
  exact path_1 (fits_path hf.2 (obj_4 h0 h1 (hf.1.trans ho)))
theorem wmay_prop {w : Walk} {c : Conf} (h : f_wmay_0 w c = true) : IntKind.wrap .i64 w.f.h <= w.many /\ (w.f.pc = 0 \/ w.f.pc = 2 -> IntKind.wrap .i64 w.f.h ≠ w.many) /\ (f_opc_0 c ⟨w.f.kind, w.f.a, w.f.b, w.f.y⟩ = 0 \/ f_opc_0 c ⟨w.f.kind, w.f.a, w.f.b, 0⟩ = 0) := by
  unfold f_wmay_0 T_wmay at h
  try simp only [zcl0, zcl1, zcl2, zcl3, zcl4, zcl5, zcl6, zcl7, zcl8, zcl9, zcl10, zcl11, zcl12, zcl13, zcl14, zcl15, zcl16, zcl17, zcl18, zcl19, zcl20, zcl21, zcl22, zcl23, zcl24, zcl25, zcl26] at h
  revert h
  repeat' (first | (intro h; cases h; done) | refine prb (fun h => ?_) (fun h => ?_))
  all_goals
    intro hv; clear hv; simp only [decide_eq_true_eq, decide_eq_false_iff_not, Bool.not_eq_true', Bool.not_eq_false'] at *; omega
theorem ok_wmay_pos {w : Walk} {c : Conf} (h : posF w.f = true) : ok_wmay w c = true := by
  unfold ok_wmay T_wmay
  try simp only [zcl0, zcl1, zcl2, zcl3, zcl4, zcl5, zcl6, zcl7, zcl8, zcl9, zcl10, zcl11, zcl12, zcl13, zcl14, zcl15, zcl16, zcl17, zcl18, zcl19, zcl20, zcl21, zcl22, zcl23, zcl24, zcl25, zcl26]
  simp only [opc_f h]
  repeat' (first | exact okleaf | refine okbr (fun h => ?_) (fun h => ?_))
  all_goals (first | (cases ‹true = false›) | skip)
theorem ok_wact_pos {f : Frm} {size n0 n1 n2 many : Int} (h2 : f.pc = 2 -> 0 <= f.h /\ f.h <= 2) (h4 : 1 <= many /\ many <= 3) : ok_wact ⟨f, size, n0, n1, n2, many⟩ = true := by
  obtain ⟨kind, a, b, pc, i, j, n, p, h, x, y⟩ := f
  by_cases hp : pc = 2
  · subst hp
    have hh := h2 rfl; have hh : 0 <= h /\ h <= 2 := hh
    rcases (show h = 0 \/ h = 1 \/ h = 2 by omega) with rfl | rfl | rfl
    all_goals
      unfold ok_wact T_wact
      try simp only [zcl0, zcl1, zcl2, zcl3, zcl4, zcl5, zcl6, zcl7, zcl8, zcl9, zcl10, zcl11, zcl12, zcl13, zcl14, zcl15, zcl16, zcl17, zcl18, zcl19, zcl20, zcl21, zcl22, zcl23, zcl24, zcl25, zcl26]
      repeat' (first | exact okleaf | refine okbr (fun h => ?_) (fun h => ?_))
      all_goals (first | (exact absurd ‹_ = false› (by decide)) | (exact Bool.noConfusion (show true = false from ‹_ = false›)) | (exfalso; simp only [decide_eq_true_eq, decide_eq_false_iff_not] at *; omega))
  · rcases (show many = 1 \/ many = 2 \/ many = 3 by omega) with rfl | rfl | rfl
    all_goals
      unfold ok_wact T_wact
      try simp only [zcl0, zcl1, zcl2, zcl3, zcl4, zcl5, zcl6, zcl7, zcl8, zcl9, zcl10, zcl11, zcl12, zcl13, zcl14, zcl15, zcl16, zcl17, zcl18, zcl19, zcl20, zcl21, zcl22, zcl23, zcl24, zcl25, zcl26]
      repeat' (first | exact okleaf | refine okbr (fun h => ?_) (fun h => ?_))
      all_goals (first | (exfalso; simp only [decide_eq_true_eq, decide_eq_false_iff_not] at *; omega) | (exact Bool.noConfusion (show true = false from ‹_ = false›)))
theorem may_h {f : Frm} {c : Conf} {size n0 n1 n2 many : Int} (hp : posF f = true) (hm : many <= 3) (h : f_wmay_0 ⟨f, size, n0, n1, n2, many⟩ c = true) : f.pc = 2 -> 0 <= f.h /\ f.h <= 2 := fun h2 => by
  obtain ⟨q1, q2, _⟩ := wmay_prop h
  have q1 : IntKind.wrap .i64 f.h <= many := q1
  have q2 : IntKind.wrap .i64 f.h ≠ many := q2 (.inr h2)
  have p := posF_true.1 hp
  have e : IntKind.wrap .i64 f.h = f.h := i64_small (by omega) (by omega)
  rw [e] at q1 q2
  omega
theorem may_n {f : Frm} {c : Conf} {size n0 n1 n2 many : Int} (hp : posF f = true) (ho : c.ob = 4) (h : f_wmay_0 ⟨f, size, n0, n1, n2, many⟩ c = true) : ¬ iand .u32 f.a 65535 = 0 := by
  have p := posF_true.1 hp
  rcases (wmay_prop h).2.2 with h1 | h1
  · exact opc_path (o := ⟨f.kind, f.a, f.b, f.y⟩) p.1 p.2.1 p.2.2.1 ho h1
  · exact opc_path (o := ⟨f.kind, f.a, f.b, 0⟩) p.1 p.2.1 p.2.2.1 ho h1
theorem ok_branN_pos {c : Conf} {f : Frm} (hpos : posF f = true) : ok_branN c f = true := by
  unfold ok_branN T_branN
  try simp only [zcl0, zcl1, zcl2, zcl3, zcl4, zcl5, zcl6, zcl7, zcl8, zcl9, zcl10, zcl11, zcl12, zcl13, zcl14, zcl15, zcl16, zcl17, zcl18, zcl19, zcl20, zcl21, zcl22, zcl23, zcl24, zcl25, zcl26]
  refine okbr (fun h => okleaf) (fun he => okbr (fun h => okleaf) (fun ho => ?_))
  have ho : c.ob = 4 := by simpa using ho
  simp only [ok_wmay_pos (w := ⟨f, _, _, _, _, _⟩) hpos]
  repeat' (first | exact okleaf | (exact Bool.noConfusion (show true = false from ‹_ = false›)) | refine okbr (fun h => ?_) (fun h => ?_))
  all_goals
    exfalso
    first
    | (have hm := nf (show (!(f_wmay_0 ⟨f, c.cap, iand .u32 f.a 65535, ishr .u32 f.a 16, f.b, 0⟩ c)) = false by assumption)
       have := may_n hpos ho hm; simp only [decide_eq_true_eq, decide_eq_false_iff_not, Bool.not_eq_true', Bool.not_eq_false'] at *; omega)
    | (have hm := nf (show (!(f_wmay_0 ⟨f, c.cap, iand .u32 f.a 65535, ishr .u32 f.a 16, f.b, 1⟩ c)) = false by assumption)
       have hx := ok_wact_pos (size := c.cap) (n0 := iand .u32 f.a 65535) (n1 := ishr .u32 f.a 16) (n2 := f.b) (many := 1) (may_h hpos (by decide) hm) (by decide)
       have hy : ok_wact ⟨f, c.cap, iand .u32 f.a 65535, ishr .u32 f.a 16, f.b, 1⟩ = false := by assumption
       rw [hx] at hy; cases hy)
    | (have hm := nf (show (!(f_wmay_0 ⟨f, c.cap, iand .u32 f.a 65535, ishr .u32 f.a 16, f.b, 2⟩ c)) = false by assumption)
       have hx := ok_wact_pos (size := c.cap) (n0 := iand .u32 f.a 65535) (n1 := ishr .u32 f.a 16) (n2 := f.b) (many := 2) (may_h hpos (by decide) hm) (by decide)
       have hy : ok_wact ⟨f, c.cap, iand .u32 f.a 65535, ishr .u32 f.a 16, f.b, 2⟩ = false := by assumption
       rw [hx] at hy; cases hy)
    | (have hm := nf (show (!(f_wmay_0 ⟨f, c.cap, iand .u32 f.a 65535, ishr .u32 f.a 16, f.b, 3⟩ c)) = false by assumption)
       have hx := ok_wact_pos (size := c.cap) (n0 := iand .u32 f.a 65535) (n1 := ishr .u32 f.a 16) (n2 := f.b) (many := 3) (may_h hpos (by decide) hm) (by decide)
       have hy : ok_wact ⟨f, c.cap, iand .u32 f.a 65535, ishr .u32 f.a 16, f.b, 3⟩ = false := by assumption
       rw [hx] at hy; cases hy)
end Go.Bas.BasZOk4
end
section
namespace Go.Bas.BasZOk5
open Go.RowKit Go.Proofs BasZBase BasZOp BasZOk BasZOk2 BasZOk4 BasZTreB BasZBranch
set_option maxHeartbeats 8000000
theorem may_h3 {f : Frm} {c : Conf} {size n0 n1 n2 many : Int} (hp : posF f = true) (hm : many <= 3) (h : f_wmay_0 ⟨f, size, n0, n1, n2, many⟩ c = true) (h2 : f.pc = 0 \/ f.pc = 2) : f.h = 0 \/ f.h = 1 \/ f.h = 2 := by
  obtain ⟨q1, q2, _⟩ := wmay_prop h
  have q1 : IntKind.wrap .i64 f.h <= many := q1
  have q2 : IntKind.wrap .i64 f.h ≠ many := q2 h2
  have p := posF_true.1 hp
  have e : IntKind.wrap .i64 f.h = f.h := i64_small (by omega) (by omega)
  rw [e] at q1 q2
  omega
theorem ok_branA_pos {c : Conf} {f : Frm} {l : Cel} (hpos : posF f = true) : ok_branA c f l = true := by
  unfold ok_branA T_branA
  try simp only [zcl0, zcl1, zcl2, zcl3, zcl4, zcl5, zcl6, zcl7, zcl8, zcl9, zcl10, zcl11, zcl12, zcl13, zcl14, zcl15, zcl16, zcl17, zcl18, zcl19, zcl20, zcl21, zcl22, zcl23, zcl24, zcl25, zcl26]
  refine okbr (fun h => okleaf) (fun he => okbr (fun h => okleaf) (fun ho => ?_))
  have ho : c.ob = 4 := by simpa using ho
  simp only [ok_wmay_pos (w := ⟨f, _, _, _, _, _⟩) hpos]
  repeat' (first | exact okleaf | (exact Bool.noConfusion (show true = false from ‹_ = false›)) | refine okbr (fun h => ?_) (fun h => ?_))
  all_goals
    exfalso
    first
    | (have hm := nf (show (!(f_wmay_0 ⟨f, c.cap, iand .u32 f.a 65535, ishr .u32 f.a 16, f.b, 0⟩ c)) = false by assumption)
       have := may_n hpos ho hm; simp only [decide_eq_true_eq, decide_eq_false_iff_not, Bool.not_eq_true', Bool.not_eq_false'] at *; omega)
    | (have hm := nf (show (!(f_wmay_0 ⟨f, c.cap, iand .u32 f.a 65535, ishr .u32 f.a 16, f.b, 1⟩ c)) = false by assumption)
       have hpc : f.pc = 0 \/ f.pc = 2 := by
         clear hm; simp only [decide_eq_true_eq, decide_eq_false_iff_not, Bool.not_eq_true', Bool.not_eq_false'] at *; omega
       rcases may_h3 hpos (by decide) hm hpc with e | e | e <;> (rw [e] at h; exact Bool.noConfusion (show true = false from h)))
    | (have hm := nf (show (!(f_wmay_0 ⟨f, c.cap, iand .u32 f.a 65535, ishr .u32 f.a 16, f.b, 2⟩ c)) = false by assumption)
       have hpc : f.pc = 0 \/ f.pc = 2 := by
         clear hm; simp only [decide_eq_true_eq, decide_eq_false_iff_not, Bool.not_eq_true', Bool.not_eq_false'] at *; omega
       rcases may_h3 hpos (by decide) hm hpc with e | e | e <;> (rw [e] at h; exact Bool.noConfusion (show true = false from h)))
    | (have hm := nf (show (!(f_wmay_0 ⟨f, c.cap, iand .u32 f.a 65535, ishr .u32 f.a 16, f.b, 3⟩ c)) = false by assumption)
       have hpc : f.pc = 0 \/ f.pc = 2 := by
         clear hm; simp only [decide_eq_true_eq, decide_eq_false_iff_not, Bool.not_eq_true', Bool.not_eq_false'] at *; omega
       rcases may_h3 hpos (by decide) hm hpc with e | e | e <;> (rw [e] at h; exact Bool.noConfusion (show true = false from h)))
end Go.Bas.BasZOk5
end
section
namespace Go.Bas.BasZOk6
noncomputable section
open Go.RowKit Go.Proofs BasZBase BasZOk BasZOk2 BasZOk3 BasZOk4 BasZOk5 BasZTreB BasZGate BasZTrie BasZBranch
def S_gNp : Sum := (202, on2 rConf rFrm (fun _ f => posF f) (fun c f => o_gateN c f))
theorem s_gNp : SumOk Tryz.prog (gmap gs) S_gNp := on2_imp (fun c f h => ⟨ok_gateN_pos h, rfl⟩) s_gateN
def S_gAp : Sum := (203, on3 rConf rFrm rCel (fun _ f _ => posF f) (fun c f l => o_gateA c f l))
theorem s_gAp : SumOk Tryz.prog (gmap gs) S_gAp := on3_imp (fun c f l h => ⟨ok_gateA_pos h, rfl⟩) s_gateA
def S_rNp : Sum := (200, on2 rConf rFrm (fun _ f => posF f) (fun c f => o_trieN c f))
theorem s_rNp : SumOk Tryz.prog (gmap gs) S_rNp := on2_imp (fun c f h => ⟨ok_trieN_pos h, rfl⟩) s_trieN
def S_rAp : Sum := (201, on3 rConf rFrm rCel (fun _ f _ => posF f) (fun c f l => o_trieA c f l))
theorem s_rAp : SumOk Tryz.prog (gmap gs) S_rAp := on3_imp (fun c f l h => ⟨ok_trieA_pos h, rfl⟩) s_trieA
def S_bNp : Sum := (204, on2 rConf rFrm (fun _ f => posF f) (fun c f => o_branN c f))
theorem s_bNp : SumOk Tryz.prog (gmap gs) S_bNp := on2_imp (fun c f h => ⟨ok_branN_pos h, rfl⟩) s_branN
def S_bAp : Sum := (205, on3 rConf rFrm rCel (fun _ f _ => posF f) (fun c f l => o_branA c f l))
theorem s_bAp : SumOk Tryz.prog (gmap gs) S_bAp := on3_imp (fun c f l h => ⟨ok_branA_pos h, rfl⟩) s_branA
end
end Go.Bas.BasZOk6
end
