/- What law25's alive answers: a closed run; WorkRises: a desc's tag rises by each exchange. -/
import Derived.Test.YtckjogkjfhajcaaGreatDoorBasW30
section
namespace Go.Bas.BasWorkAlive
open Go.RowKit Go.Proofs Go.Bas.BasZBase
set_option linter.unusedVariables false
noncomputable abbrev cfg0 : Cfg := ⟨Tryz.prog, gmap gs, lookS [(8, memoH M8), (17, memoH M17)], fun _ => false, fun _ => none⟩
theorem t_run : runF cfg0 2000 6 [] (fun v => match v with | .bool b => b | _ => false) false = true := by kernel_rfl
theorem law : ACalls Tryz.prog (gmap gs) 6 [] (fun v => v = .bool true) :=
  (runF_sound (cfg_ok base (sums_cons s8 (sums_cons s17 sums_nil))) t_run).mono fun v h => by
    cases v <;> first | exact (by subst h; rfl) | cases h
noncomputable def S_alive : Sum := (6, fun args => match args with
  | [] => some (true, .bool true)
  | _ => none)
theorem s_alive : SumOk Tryz.prog (gmap gs) S_alive := fun args r hr => by
  simp only [S_alive] at hr
  split at hr
  · cases hr
    exact law
  · cases hr
end Go.Bas.BasWorkAlive
end
section
namespace Go.Bas.BasZRises
open Go.RowKit Go.Proofs
open Go.Bas.BasZBase Go.Bas.BasZWork Go.Bas.BasWorkAlive Go.Bas.BasZCounts Go.Bas.BasZStage5 Go.Bas.BasZReg2 Go.Bas.BasZPop Go.Bas.BasZOk Go.Bas.BasZStage
set_option maxRecDepth 100000
set_option maxHeartbeats 4000000
set_option linter.unusedVariables false
set_option linter.unusedSimpArgs false
theorem p_put {c : Conf} {s : Stg} {d x : Cel} (hp : pW s d = true) : ((bif okE (f_put_11 c s d x) c s d then true else false) && (bif (f_put_10 c s d x) then (bif okX (f_put_0 c s d x) (f_put_2 c s d x) (f_put_3 c s d x) (f_put_4 c s d x) (f_put_5 c s d x) (f_put_6 c s d x) x then true else false) else true)) = true := and_right (run_out (t_put c s d x (and_left hp) (and_left (and_right hp)) (and_right (and_right hp)) (prS_64 (and_left (and_right hp))) (posF_D d) (posW_D d))).1
theorem p_mov {c : Conf} {s : Stg} {d x : Cel} (hp : pW s d = true) : (bif okM (f_mov_10 c s d x) (f_mov_0 c s d x) (f_mov_2 c s d x) (f_mov_3 c s d x) (f_mov_4 c s d x) (f_mov_5 c s d x) (f_mov_6 c s d x) c s d then true else false) = true := and_right (run_out (t_mov c s d x (and_left hp) (and_left (and_right hp)) (and_right (and_right hp)) (prS_64 (and_left (and_right hp))) (posF_D d) (posW_D d))).1
theorem bif_t {b : Bool} (h : (bif b then true else false) = true) : b = true := by
  cases b
  · cases h
  · rfl
theorem bif_i {b x : Bool} (h : (bif b then x else true) = true) (hb : b = true) : x = true := by
  rw [hb] at h
  exact h
theorem putE {c : Conf} {s : Stg} {d x : Cel} (hp : pW s d = true) : f_put_11 c s d x = EO c s d := of_decide_eq_true (bif_t (and_left (p_put hp)))
theorem putX {c : Conf} {s : Stg} {d x : Cel} (hp : pW s d = true) (hi : f_put_10 c s d x = true) : f_put_0 c s d x = 3 ∧ f_put_2 c s d x = x.tag ∧ f_put_3 c s d x = x.a ∧ f_put_4 c s d x = x.b ∧ f_put_5 c s d x = x.c ∧ x.tag < f_put_6 c s d x := of_decide_eq_true (bif_t (bif_i (and_right (p_put hp)) hi))
theorem movP {c : Conf} {s : Stg} {d x : Cel} (hp : pW s d = true) : MvP (f_mov_10 c s d x) (f_mov_0 c s d x) (f_mov_2 c s d x) (f_mov_3 c s d x) (f_mov_4 c s d x) (f_mov_5 c s d x) (f_mov_6 c s d x) c s d := okM_true.1 (bif_t (p_mov hp))
theorem nq {p : Prop} [Decidable p] (h : p) : (!decide p) = false := by simp [h]
theorem nd4 {a b c d : Prop} [Decidable a] [Decidable b] [Decidable c] [Decidable d] (ha : a) (hb : b) (hc : c) (hd : d) : (!(decide a && (decide b && (decide c && (decide d && true))))) = false := by simp [ha, hb, hc, hd]
theorem d4 {a b c d : Prop} [Decidable a] [Decidable b] [Decidable c] [Decidable d] (ha : a) (hb : b) (hc : c) (hd : d) : (decide a && (decide b && (decide c && (decide d && true)))) = true := by simp [ha, hb, hc, hd]
theorem eeq {c : Conf} {s : Stg} {d x : Cel} (hp : pW s d = true) (h : (!decide (f_put_11 c s d x = 0)) = true) : f_mov_10 c s d x = f_put_11 c s d x := by
  have e := putE (c := c) (x := x) hp
  have h : ¬ f_put_11 c s d x = 0 := by simpa using h
  rw [e] at h ⊢
  exact (movP hp).1 h
def sp_law : Sp := sB
theorem t_law (c : Conf) (s : Stg) (d : Cel) (x : Cel) (hp : pW s d = true) : runF (cfg [S_alive, S_put, S_mov]) 400 3 [c.av, s.av, d.av, x.av] (fun v => sp_law.has v && (bif AV.toB v then true else false)) false = true := Eq.trans (b := (ba ((BasZWork.pW s d)) ((ba ((BasZWork.pW s d)) ((br ((!decide ((f_put_11 c s d x) = 0))) ((ba (decide ((f_mov_10 c s d x) = (f_put_11 c s d x))) (true))) ((br ((f_put_10 c s d x)) ((br ((!decide ((f_put_0 c s d x) = 3))) (false) ((br ((!(decide ((f_put_2 c s d x) = x.1) && (decide ((f_put_3 c s d x) = x.2) && (decide ((f_put_4 c s d x) = x.3) && (decide ((f_put_5 c s d x) = x.4) && Bool.true)))))) (false) ((br (decide ((f_put_6 c s d x) ≤ x.1)) (false) ((br ((!decide ((f_mov_10 c s d x) = 0))) (true) ((ba (decide ((f_mov_0 c s d x) = 3)) ((ba ((decide ((f_mov_2 c s d x) = d.1) && (decide ((f_mov_3 c s d x) = d.2) && (decide ((f_mov_4 c s d x) = d.3) && (decide ((f_mov_5 c s d x) = d.4) && Bool.true))))) ((ba (decide ((f_mov_6 c s d x) > d.1)) ((ba (decide ((f_mov_6 c s d x) ≥ (IntKind.wrap .u64 (s.1 * 65536)))) (true))))))))))))))))) ((br ((!decide ((f_mov_10 c s d x) = 0))) (true) ((ba (decide ((f_mov_0 c s d x) = 3)) ((ba ((decide ((f_mov_2 c s d x) = d.1) && (decide ((f_mov_3 c s d x) = d.2) && (decide ((f_mov_4 c s d x) = d.3) && (decide ((f_mov_5 c s d x) = d.4) && Bool.true))))) ((ba (decide ((f_mov_6 c s d x) > d.1)) ((ba (decide ((f_mov_6 c s d x) ≥ (IntKind.wrap .u64 (s.1 * 65536)))) (true))))))))))))))))))) (by kernel_rfl) (band hp (band hp (bdt (fun h1 => (band (decide_eq_true (eeq hp h1)) rfl)) (fun h1 => (bdt (fun h2 => (btf (nq (putX hp h2).1) (btf (nd4 (putX hp h2).2.1 (putX hp h2).2.2.1 (putX hp h2).2.2.2.1 (putX hp h2).2.2.2.2.1) (btf (decide_eq_false (Int.not_le.2 (putX hp h2).2.2.2.2.2)) (bdt (fun h3 => rfl) (fun h3 => (band (decide_eq_true ((movP hp).2 (nlt h3)).1) (band (d4 ((movP hp).2 (nlt h3)).2.1 ((movP hp).2 (nlt h3)).2.2.1 ((movP hp).2 (nlt h3)).2.2.2.1 ((movP hp).2 (nlt h3)).2.2.2.2.1) (band (decide_eq_true ((movP hp).2 (nlt h3)).2.2.2.2.2.1) (band (decide_eq_true ((movP hp).2 (nlt h3)).2.2.2.2.2.2) rfl)))))))))) (fun h2 => (bdt (fun h3 => rfl) (fun h3 => (band (decide_eq_true ((movP hp).2 (nlt h3)).1) (band (d4 ((movP hp).2 (nlt h3)).2.1 ((movP hp).2 (nlt h3)).2.2.1 ((movP hp).2 (nlt h3)).2.2.2.1 ((movP hp).2 (nlt h3)).2.2.2.2.1) (band (decide_eq_true ((movP hp).2 (nlt h3)).2.2.2.2.2.1) (band (decide_eq_true ((movP hp).2 (nlt h3)).2.2.2.2.2.2) rfl))))))))))))
theorem law (c : Conf) (s : Stg) (d x : Cel) (c0 : (Lit.int .u8 c.ob).wf = true) (c1 : (Lit.int .i64 c.ins).wf = true) (c2 : (Lit.int .i64 c.thr).wf = true) (c3 : (Lit.int .u8 c.kind).wf = true) (c4 : (Lit.int .i64 c.str).wf = true) (c5 : (Lit.int .i64 c.bits).wf = true) (c6 : (Lit.int .i64 c.cap).wf = true) (c7 : (Lit.int .i64 c.node).wf = true) (c8 : (Lit.int .i64 c.batch).wf = true) (c9 : (Lit.int .i64 c.chunk).wf = true) (c10 : (Lit.int .u64 c.limit).wf = true) (c11 : (Lit.int .u64 c.most).wf = true) (s0 : (Lit.int .u64 s.batch).wf = true) (s1 : (Lit.int .i64 s.number).wf = true) (s2 : (Lit.int .u64 s.mask).wf = true) (s3 : (Lit.int .i64 s.frm).wf = true) (d0 : (Lit.int .u64 d.tag).wf = true) (d1 : (Lit.int .u64 d.a).wf = true) (d2 : (Lit.int .u64 d.b).wf = true) (d3 : (Lit.int .u64 d.c).wf = true) (x0 : (Lit.int .u64 x.tag).wf = true) (x1 : (Lit.int .u64 x.a).wf = true) (x2 : (Lit.int .u64 x.b).wf = true) (x3 : (Lit.int .u64 x.c).wf = true) : ACalls Tryz.prog (gmap gs) 3 [c.av, s.av, d.av, x.av] (fun v => v = .bool true) := by
  have hp : pW s d = true := by
    have a := (wf_iff.1 s0)
    have b := (wf_iff.1 s2)
    have e := (wf_iff.1 d0)
    simp only [IntKind.min, IntKind.max, IntKind.signed, IntKind.bits] at a b e
    unfold pW pS lt64
    simp only [Bool.and_eq_true, decide_eq_true_eq]
    simp at a b e ⊢
    omega
  have h := run_out (t_law c s d x hp)
  refine acalls_eq base (sums_cons s_alive (sums_cons s_put (sums_cons s_mov sums_nil))) (n := 400) fun k hk => (h.2 k).trans ?_
  have e := sp_law.ok _ (and_left h.1)
  rw [e]
  have hb := bif_t (and_right h.1)
  show k (.bool _) = true
  rw [hb]
  exact hk
end Go.Bas.BasZRises
end
