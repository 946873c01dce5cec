/- Contracts: what a reading's program does next; Contracts by a run's outcome: whether an indicator is full; The engine, part Tx: the shapes of chapters 26 to 28: looks, readers, writers; The engine, part Ty: the shape of a writer, with its lists; The engine, part Wk: what says less of a value; summaries that take more arguments, or say less of t; The engine, part Tz: the shape of a thread; The engine, part Thx: the shape of a thread whose lists are left asv they are; The engine, part Sw: shapes that say less: what a run comes to, its lists by their elements; A reader that reads: where it may be, how many picks are left; Plain law: a reader behind an access, by its Pc. -/
import Derived.Test.YteniehfknbiakaaGreatDoorBasW6
import Derived.Test.YteniehfknbiakaaGreatDoorBasW7
import Derived.Test.YteniehfknbiakaaGreatDoorBasW10
import Derived.Test.YteniehfknbiakaaGreatDoorBasW11
section
namespace Go.Bas.BasZRq
open Go.RowKit Go.Proofs
open Go.Bas.BasZBase Go.Bas.BasZOp Go.Bas.BasZRank Go.Bas.BasZLev Go.Bas.BasZRank3 Go.Bas.BasZOk Go.Bas.BasZTreB Go.Bas.BasZTre Go.Bas.BasZBranch Go.Bas.BasEnds Go.Bas.BasZRdA Go.Bas.BasZRdL Go.Bas.BasZRdM Go.Bas.BasZRdN Go.Bas.BasZRdP Go.Bas.BasZRm Go.Bas.BasZRb Go.Bas.BasZRn
set_option maxRecDepth 100000
set_option maxHeartbeats 4000000
set_option linter.unusedVariables false
set_option linter.unusedSimpArgs false
noncomputable abbrev postN (f : Frm) : AV → Bool := fun v => sp_rpn.has v && (bif okN (AV.toI (AV.ix v 1)) (AV.toI (AV.ix (AV.ix v 0) 0)) (AV.toI (AV.ix (AV.ix v 0) 5)) f.pc then true else false)
theorem run_rpn0 (c : Conf) (f : Frm) (hR : RdOk c f) : runF (cfg [S_check, S_opc, S_wat, S_levA, S_mayT, S_act]) 800 35 [c.av, f.av] (postN f) false = true := by
  obtain ⟨he, hc, hp, hI⟩ := hR
  obtain ⟨k, a, b, pc, i, j, n, p, h, x, y⟩ := f
  have hk := ok_true.1 (of_errC he)
  have hc : f_opc_0 c ⟨k, a, b, 0⟩ = 0 := hc
  have hI : INV c k a b pc i j n p h := hI
  have hP := posF_true.1 hp
  have hb : 0 ≤ b := hP.2.2.1
  have hI0 := hI
  rcases hI with q | q | q | q
  · have hq := q.1
    subst hq
    have e := cO_is q.2.1
    rcases q.2.2.1 with r | r | r
    · subst r
      have t := t_pn3_0 c a b i j n p h x y
      rw [e] at t
      exact t (decide_eq_true he) hk (opc_ok (by decide) hb) (decide_eq_true hc) hI0
    · subst r
      have t := t_pn3_6 c a b i j n p h x y
      rw [e] at t
      exact t (decide_eq_true he) hk (opc_ok (by decide) hb) (decide_eq_true hc) hI0
    · subst r
      have t := t_pn3_8 c a b i j n p h x y
      rw [e] at t
      exact t (decide_eq_true he) hk (opc_ok (by decide) hb) (decide_eq_true hc) hI0
  · have hq := q.1
    subst hq
    have e := cO_is q.2.1
    rcases q.2.2.1 with r | r
    · subst r
      have t := t_pn11_0 c a b i j n p h x y
      rw [e] at t
      exact t (decide_eq_true he) hk (opc_ok (by decide) hb) (decide_eq_true hc) hI0
    · subst r
      have t := t_pn11_20 c a b i j n p h x y
      rw [e] at t
      exact t (decide_eq_true he) hk (opc_ok (by decide) hb) (decide_eq_true hc) hI0
  · have hq := q.1
    subst hq
    have e := cO_is q.2.1
    have hpc : pc = 0 ∨ pc = 20 ∨ pc = 21 := by
      rcases q.2.2.1 with r | r
      · exact .inl r.1
      · exact .inr r.1
    obtain ⟨hA, hB⟩ := path14 hb hc
    rcases hB with ⟨hB, hC⟩ | ⟨hB, hC⟩ | ⟨hB, hC⟩
    · rcases hpc with r | r | r
      · subst r
        have t := t_pn14_1_0 c a b i j n p h x y
        rw [e] at t
        exact t (decide_eq_true he) hk (opc_ok (by decide) hb) (decide_eq_true hc) hA hB hC hI0
      · subst r
        have t := t_pn14_1_20 c a b i j n p h x y
        rw [e] at t
        exact t (decide_eq_true he) hk (opc_ok (by decide) hb) (decide_eq_true hc) hA hB hC hI0
      · subst r
        have t := t_pn14_1_21 c a b i j n p h x y
        rw [e] at t
        exact t (decide_eq_true he) hk (opc_ok (by decide) hb) (decide_eq_true hc) hA hB hC hI0
    · rcases hpc with r | r | r
      · subst r
        have t := t_pn14_2_0 c a b i j n p h x y
        rw [e] at t
        exact t (decide_eq_true he) hk (opc_ok (by decide) hb) (decide_eq_true hc) hA hB hC hI0
      · subst r
        have t := t_pn14_2_20 c a b i j n p h x y
        rw [e] at t
        exact t (decide_eq_true he) hk (opc_ok (by decide) hb) (decide_eq_true hc) hA hB hC hI0
      · subst r
        have t := t_pn14_2_21 c a b i j n p h x y
        rw [e] at t
        exact t (decide_eq_true he) hk (opc_ok (by decide) hb) (decide_eq_true hc) hA hB hC hI0
    · rcases hpc with r | r | r
      · subst r
        have t := t_pn14_3_0 c a b i j n p h x y
        rw [e] at t
        exact t (decide_eq_true he) hk (opc_ok (by decide) hb) (decide_eq_true hc) hA hB hC hI0
      · subst r
        have t := t_pn14_3_20 c a b i j n p h x y
        rw [e] at t
        exact t (decide_eq_true he) hk (opc_ok (by decide) hb) (decide_eq_true hc) hA hB hC hI0
      · subst r
        have t := t_pn14_3_21 c a b i j n p h x y
        rw [e] at t
        exact t (decide_eq_true he) hk (opc_ok (by decide) hb) (decide_eq_true hc) hA hB hC hI0
  · obtain ⟨hK, ho, hx⟩ := q
    have hv := lvk hk ho
    have hm := may_at x y hk hb hK hv.2 (decide_eq_true hc) hI0
    have e := cO_is ho
    have hM : ((posF ⟨k, a, b, pc, i, j, n, p, h, x, y⟩ && lvOk (lvL c.cap c.node) (lvN c.cap c.node)) && f_may_0 (mkr c ⟨k, a, b, pc, i, j, n, p, h, x, y⟩)) = true := by rw [hp, hv.2, hm.1]; rfl
    have t := t_pnI c ⟨k, a, b, pc, i, j, n, p, h, x, y⟩
    rw [e] at t
    exact t (decide_eq_true he) hk hv.1 hv.2 hM (m_l hk hK hv.2 hI0) hm.2
open Classical in
noncomputable def okR (c : Conf) (f : Frm) : Bool := decide (RdOk c f)
theorem okR_of {c : Conf} {f : Frm} (h : okR c f = true) : RdOk c f := @of_decide_eq_true _ (Classical.propDecidable _) h
theorem okR_is {c : Conf} {f : Frm} (h : RdOk c f) : okR c f = true := @decide_eq_true _ (Classical.propDecidable _) h
noncomputable def S_rpn0 : Sum := (35, on2 rConf rFrm (fun c f => okR c f) (fun c f => o_rpn c f))
theorem run_rpn1 (c : Conf) (f : Frm) (h : okR c f = true) : runF (cfg [S_check, S_opc, S_wat, S_levA, S_mayT, S_act]) 800 35 [c.av, f.av] sp_rpn.has false = true := ((run_out (run_rpn0 c f (okR_of h))).2 sp_rpn.has).trans (and_left (run_out (run_rpn0 c f (okR_of h))).1)
theorem s_rpn0 : SumOk Tryz.prog (gmap gs) S_rpn0 := on2_sum fun c f hp => (acalls_out base (sums_cons s_check (sums_cons s_opc (sums_cons s_wat (sums_cons s_levA (sums_cons s_mayT (sums_cons s_act sums_nil)))))) (n := 800) sp_rpn (run_rpn1 c f hp)).mono fun v_ hv_ => hv_.trans (oe_rpn c f)
theorem rpn_is {c : Conf} {f : Frm} (h : okR c f = true) : f_rpn_7 c f = 0 ∧ f_rpn_0 c f = aK f.pc ∧ f_rpn_5 c f = aE f.pc := of_decide_eq_true (p := f_rpn_7 c f = 0 ∧ f_rpn_0 c f = aK f.pc ∧ f_rpn_5 c f = aE f.pc) (of_cond (and_right (run_out (run_rpn0 c f (okR_of h))).1)).1
noncomputable def a_rpn (c : Conf) (f : Frm) : AV := .tup [.agg [.int .u8 (aK f.pc), .int .i64 (f_rpn_1 c f), .int .u64 (f_rpn_2 c f), .int .u64 (f_rpn_3 c f), .int .u64 (f_rpn_4 c f), .int .i64 (aE f.pc), .int .u32 (f_rpn_6 c f)], .int .i64 0]
/-- What a reading's program does next: where the act stands, and what it says else, is left open. -/
noncomputable def S_rpnr : Sum := (35, on2 rConf rFrm (fun c f => okR c f) (fun c f => a_rpn c f))
theorem s_rpnr : SumOk Tryz.prog (gmap gs) S_rpnr := on2_imp (fun c f h => ⟨h, by
  have q := rpn_is h
  unfold a_rpn o_rpn
  rw [q.1, q.2.1, q.2.2]⟩) s_rpn0
end Go.Bas.BasZRq
end
section
namespace Go.Bas.BasZFull
open Go.RowKit Go.Proofs
open Go.Bas.BasZBase Go.Bas.BasZOp
set_option maxRecDepth 100000
set_option maxHeartbeats 4000000
set_option linter.unusedVariables false
set_option linter.unusedSimpArgs false
def sp_full : Sp := sT [sB, sI .i64]
noncomputable def out_full (c : Conf) (l : Cel) : AV := outV (cfg [S_check]) 400 24 [c.av, l.av]
noncomputable def f_full_0 (c : Conf) (l : Cel) : Bool := AV.toB (AV.ix (out_full c l) 0)
noncomputable def f_full_1 (c : Conf) (l : Cel) : Int := AV.toI (AV.ix (out_full c l) 1)
noncomputable def o_full (c : Conf) (l : Cel) : AV := .tup [.bool (f_full_0 c l), .int .i64 (f_full_1 c l)]
noncomputable def S_full : Sum := (24, on2 rConf rCel (fun c l => true) (fun c l => o_full c l))
theorem bd_full (v : AV) : sp_full.bd v = .tup [.bool (AV.toB (AV.ix v 0)), .int .i64 (AV.toI (AV.ix v 1))] := rfl
theorem oe_full (c : Conf) (l : Cel) : sp_full.bd (out_full c l) = o_full c l := (bd_full _).trans (by unfold o_full f_full_0 f_full_1; rfl)
theorem t_full (c : Conf) (l : Cel) : runF (cfg [S_check]) 400 24 [c.av, l.av] sp_full.has false = true := Eq.trans (b := (br ((!decide ((errC c) = 0))) ((ba ((!decide ((errC c) = 0))) (true))) ((br (decide (c.4 = 1)) (true) ((br (decide ((errC c) = 0)) ((br ((!decide (c.4 = 2))) (true) (true))) (true))))))) (by kernel_rfl) (bdt (fun h_1 => (band h_1 rfl)) (fun h_1 => (bdt (fun h_2 => rfl) (fun h_2 => (bdt (fun h_3 => (bdt (fun h_4 => rfl) (fun h_4 => rfl))) (fun h_3 => rfl))))))
theorem run_full (c : Conf) (l : Cel) (h : true = true) : runF (cfg [S_check]) 400 24 [c.av, l.av] sp_full.has false = true := t_full c l
theorem s_full : SumOk Tryz.prog (gmap gs) S_full := on2_sum fun c l hp => (acalls_out base (sums_cons s_check sums_nil) (n := 400) sp_full (run_full c l hp)).mono fun v_ hv_ => hv_.trans (oe_full c l)
end Go.Bas.BasZFull
end
section
namespace Go.Bas
open Go.RowKit
set_option linter.unusedVariables false
structure Lok where
  (tag : Int) (at' : Int) (sum : Int)
def Lok.av (l : Lok) : AV := .agg [.int .u64 l.tag, .int .i64 l.at', .int .u64 l.sum]
/-- A reader, with its rows. -/
structure Rdr where
  (pc ver inst batch : Int) (f : Frm) (code v : Int) (us : List AV) (m : Nat) (given : Int)
def Rdr.av (r : Rdr) : AV := .agg ([.int .u8 r.pc, .int .i64 r.ver, .int .i64 r.inst, .int .u64 r.batch] ++ r.f.cells ++ [.int .i64 r.code, .int .u32 r.v, .lst r.us r.m, .int .i64 r.given])
def rdrOf : AV → Option Rdr
  | .agg [.int .u8 pc0, .int .i64 ver, .int .i64 inst, .int .u64 batch, .int .u8 kind, .int .u32 a, .int .u32 b, .int .u8 pc, .int .u8 i, .int .u8 j, .int .u8 n, .int .u8 p, .int .u8 h, .int .u32 x, .int .u32 y, .int .i64 code, .int .u32 v, .lst us m, .int .i64 given] =>
    some ⟨pc0, ver, inst, batch, ⟨kind, a, b, pc, i, j, n, p, h, x, y⟩, code, v, us, m, given⟩
  | _ => none
theorem rdrOf_some {a : AV} {c : Rdr} (h : rdrOf a = some c) : a = c.av := by
  unfold rdrOf at h
  split at h
  · simp only [Option.some.injEq] at h
    subst h
    rfl
  · cases h
def rRdr : Rd Rdr := ⟨rdrOf, Rdr.av, fun _ _ => rdrOf_some⟩
end Go.Bas
end
section
namespace Go.Bas
open Go.RowKit
set_option linter.unusedVariables false
structure Wtr where
  (pc seq : Int) (o : Opr) (told : Bool) (code v : Int) (us : List AV) (m : Nat) (batch : Int) (ctl dsc see : Cel) (ps : List AV) (q : Nat) (look : Lok)
def Wtr.cells (w : Wtr) : List AV := [.int .u8 w.pc, .int .u64 w.seq, .int .u8 w.o.kind, .int .u32 w.o.a, .int .u32 w.o.b, .int .u32 w.o.c, .bool w.told, .int .i64 w.code, .int .u32 w.v, .lst w.us w.m, .int .u64 w.batch,
  .int .u64 w.ctl.tag, .int .u64 w.ctl.a, .int .u64 w.ctl.b, .int .u64 w.ctl.c, .int .u64 w.dsc.tag, .int .u64 w.dsc.a, .int .u64 w.dsc.b, .int .u64 w.dsc.c, .int .u64 w.see.tag, .int .u64 w.see.a, .int .u64 w.see.b, .int .u64 w.see.c, .lst w.ps w.q, .int .u64 w.look.tag, .int .i64 w.look.at', .int .u64 w.look.sum]
def Wtr.av (w : Wtr) : AV := .agg w.cells
/-- A writer's run, behind a pointer: the writer, the config, the thread, the stage that it saw, and its job. -/
structure WRn where
  (w : Wtr) (c : Conf) (t : Int) (s : Stg) (jk jn : Int)
def WRn.av (r : WRn) : AV := .iptr (r.w.cells ++ r.c.cells ++ [.int .i64 r.t, .int .u64 r.s.batch, .int .i64 r.s.number, .int .u64 r.s.mask, .int .i64 r.s.frm, .int .u8 r.jk, .int .i64 r.jn]) 0
end Go.Bas
end
section
namespace Go.Bas
open Go.RowKit
set_option linter.unusedVariables false
/-- What has the one has the other. -/
inductive Wk : AV → AV → Prop
  | refl (v : AV) : Wk v v
  | any (v : AV) : Wk v .any
  | nils : Wk .nils (.lst [] 0)
  | ns : Wk .ns (.lst [] 0)
  | es : Wk .es (.lst [] 0)
  | agg (cs ds : List AV) : cs.length = ds.length → (∀ i (h : i < cs.length) (h' : i < ds.length), Wk cs[i] ds[i]) → Wk (.agg cs) (.agg ds)
  | tup (cs ds : List AV) : cs.length = ds.length → (∀ i (h : i < cs.length) (h' : i < ds.length), Wk cs[i] ds[i]) → Wk (.tup cs) (.tup ds)
def WkL (cs ds : List AV) : Prop := cs.length = ds.length ∧ ∀ i (h : i < cs.length) (h' : i < ds.length), Wk cs[i] ds[i]
theorem WkL.nil : WkL [] [] := ⟨rfl, fun i h => absurd h (Nat.not_lt_zero _)⟩
theorem WkL.cons {a b : AV} {cs ds : List AV} (h : Wk a b) (hs : WkL cs ds) : WkL (a :: cs) (b :: ds) := by
  refine ⟨by simp [hs.1], fun i hi hi' => ?_⟩
  cases i with
  | zero => exact h
  | succ i => exact hs.2 i (by simpa using hi) (by simpa using hi')
theorem WkL.refl (cs : List AV) : WkL cs cs := ⟨rfl, fun i h h' => Wk.refl _⟩
theorem WkL.append {a b c d : List AV} (h : WkL a b) (h2 : WkL c d) : WkL (a ++ c) (b ++ d) := by
  refine ⟨by simp [h.1, h2.1], fun i hi hi' => ?_⟩
  by_cases hl : i < a.length
  · have hl' : i < b.length := by rw [← h.1]; exact hl
    rw [List.getElem_append_left hl, List.getElem_append_left hl']
    exact h.2 i hl hl'
  · have hl' : b.length ≤ i := by rw [← h.1]; omega
    rw [List.getElem_append_right (by omega), List.getElem_append_right hl']
    have e : i - a.length = i - b.length := by rw [h.1]
    have hc : i - a.length < c.length := by simp at hi; omega
    have hd : i - b.length < d.length := by rw [← e, ← h2.1]; exact hc
    have := h2.2 (i - a.length) hc (by rw [e]; exact hd)
    simpa only [e] using this
theorem Wk.ofAgg {cs ds : List AV} (h : WkL cs ds) : Wk (.agg cs) (.agg ds) := .agg _ _ h.1 h.2
theorem Wk.ofTup {cs ds : List AV} (h : WkL cs ds) : Wk (.tup cs) (.tup ds) := .tup _ _ h.1 h.2
theorem Rep.wk {w : World} {B own : Nat → Prop} {ω : Nat → Option Nat} {nx : Nat} {v v' : AV} (h : Wk v v') : ∀ {u : Value}, Rep w B own ω nx v u → Rep w B own ω nx v' u := by
  induction h with
  | refl v => exact fun h => h
  | any v => exact fun _ => .any _ _
  | nils => intro u h; cases h; exact .lstn _ _ _
  | ns => intro u h; cases h; exact .lstn _ _ _
  | es => intro u h; cases h; exact .lstn _ _ _
  | agg cs ds hl hw ih =>
    intro u h
    cases h with
    | agg _ _ vs hs hr => exact .agg _ _ _ (by rw [← hl]; exact hs) (fun i hi => ih i (by rw [hl]; exact hi) hi (hr i (by rw [hl]; exact hi)))
  | tup cs ds hl hw ih =>
    intro u h
    cases h with
    | tup _ _ vs hs hr => exact .tup _ _ _ (by rw [← hl]; exact hs) (fun i hi => ih i (by rw [hl]; exact hi) hi (hr i (by rw [hl]; exact hi)))
theorem RepL.wkW {w : World} {B own : Nat → Prop} {ω : Nat → Option Nat} {nx : Nat} {cs ds : List AV} {us : Array Value} (h : WkL cs ds) (hr : RepL w B own ω nx cs us) : RepL w B own ω nx ds us :=
  ⟨by rw [← h.1]; exact hr.1, fun i hi => (hr.2 i (by rw [h.1]; exact hi)).wk (h.2 i (by rw [h.1]; exact hi) hi)⟩
theorem ACalls.wk {P : Program} {G : Nat → Option (List AV)} {f : FuncId} {args args' : List AV} {r r' : AV} (h : ACalls P G f args' (fun v => v = r)) (ha : WkL args args') (hr : Wk r r') : ACalls P G f args (fun v => v = r') :=
  fun w us bad hg hb hl hu => (h w us bad hg hb hl (hu.wkW ha)).mono fun e w' hh => by
    obtain ⟨v, u, he, rfl, hs, hp⟩ := hh
    exact ⟨r', u, he, rfl, hs, hp.wk hr⟩
/-- A list of unknown length: nil; not nil, but with nothing in it; or with something. -/
inductive Sd where
  | nil
  | ns
  | cons (a : AV) (r : List AV) (m : Nat)
def Sd.av : Sd → AV
  | .nil => .nils
  | .ns => .ns
  | .cons a r m => .lst (a :: r) m
def Sd.list : Sd → List AV
  | .nil => []
  | .ns => []
  | .cons a r _ => a :: r
def Sd.len : Sd → Nat
  | .nil => 0
  | .ns => 0
  | .cons _ _ m => m
theorem Sd.wk (s : Sd) : Wk s.av (.lst s.list s.len) := by
  cases s
  · exact .nils
  · exact .ns
  · exact .refl _
/-- Readers' and writers' cells, with other lists. -/
def Rdr.cellsW (r : Rdr) (s : AV) : List AV := [.int .u8 r.pc, .int .i64 r.ver, .int .i64 r.inst, .int .u64 r.batch] ++ r.f.cells ++ [.int .i64 r.code, .int .u32 r.v, s, .int .i64 r.given]
def Wtr.cellsW (w : Wtr) (s t : AV) : List AV := [.int .u8 w.pc, .int .u64 w.seq, .int .u8 w.o.kind, .int .u32 w.o.a, .int .u32 w.o.b, .int .u32 w.o.c, .bool w.told, .int .i64 w.code, .int .u32 w.v, s, .int .u64 w.batch,
  .int .u64 w.ctl.tag, .int .u64 w.ctl.a, .int .u64 w.ctl.b, .int .u64 w.ctl.c, .int .u64 w.dsc.tag, .int .u64 w.dsc.a, .int .u64 w.dsc.b, .int .u64 w.dsc.c, .int .u64 w.see.tag, .int .u64 w.see.a, .int .u64 w.see.b, .int .u64 w.see.c, t, .int .u64 w.look.tag, .int .i64 w.look.at', .int .u64 w.look.sum]
/-- A thread: its lists apart. -/
structure Thr where
  (nx run : Int) (r : Rdr) (w : Wtr) (seq : Int) (out : Bool) (s1 s2 s3 : Sd)
def Thr.cellsW (t : Thr) (a b c : AV) : List AV := [.int .i64 t.nx, .int .u8 t.run] ++ (t.r.cellsW a ++ (t.w.cellsW b c ++ [.int .u64 t.seq, .bool t.out]))
def Thr.av (t : Thr) : AV := .agg (t.cellsW t.s1.av t.s2.av t.s3.av)
def Thr.avL (t : Thr) : AV := .agg (t.cellsW (.lst t.s1.list t.s1.len) (.lst t.s2.list t.s2.len) (.lst t.s3.list t.s3.len))
theorem Thr.wk (t : Thr) : Wk t.av t.avL := by
  refine Wk.ofAgg ?_
  unfold Thr.cellsW Rdr.cellsW Wtr.cellsW
  refine .append (.refl _) (.append (.append (.refl _) (.cons (.refl _) (.cons (.refl _) (.cons t.s1.wk (.refl _))))) (.append ?_ (.refl _)))
  iterate 9 refine .cons (.refl _) ?_
  refine .cons t.s2.wk ?_
  iterate 13 refine .cons (.refl _) ?_
  exact .cons t.s3.wk (.refl _)
end Go.Bas
end
section
namespace Go.Bas
open Go.RowKit
set_option linter.unusedVariables false
/-- A thread whose lists are known by their elements. -/
structure ThL where
  (nx run : Int) (r : Rdr) (w : Wtr) (seq : Int) (out : Bool)
def ThL.av (t : ThL) : AV := .agg ([.int .i64 t.nx, .int .u8 t.run] ++ (t.r.cellsW (.lst t.r.us t.r.m) ++ (t.w.cells ++ [.int .u64 t.seq, .bool t.out])))
end Go.Bas
end
section
namespace Go.Bas
open Go.RowKit
set_option linter.unusedVariables false
/-- A list: nil, not nil but with nothing in it, or with something. -/
def AV.isSd : AV → Bool
  | .nils => true
  | .ns => true
  | .lst (_ :: _) _ => true
  | _ => false
def AV.sdL : AV → List AV
  | .lst (a :: r) _ => a :: r
  | _ => []
def AV.sdN : AV → Nat
  | .lst (_ :: _) m => m
  | _ => 0
theorem isSd_wk {v : AV} (h : v.isSd = true) : Wk v (.lst v.sdL v.sdN) := by
  unfold AV.isSd at h
  split at h
  · exact .nils
  · exact .ns
  · exact .refl _
  · cases h
/-- A thread: its lists apart, whatever they are. -/
structure Thx where
  (nx run : Int) (r : Rdr) (w : Wtr) (seq : Int) (out : Bool) (x y z : AV)
def Thx.cellsW (t : Thx) (a b c : AV) : List AV := [.int .i64 t.nx, .int .u8 t.run] ++ (t.r.cellsW a ++ (t.w.cellsW b c ++ [.int .u64 t.seq, .bool t.out]))
def Thx.av (t : Thx) : AV := .agg (t.cellsW t.x t.y t.z)
def Thx.toL (t : Thx) : ThL := ⟨t.nx, t.run, { t.r with us := t.x.sdL, m := t.x.sdN }, { t.w with us := t.y.sdL, m := t.y.sdN, ps := t.z.sdL, q := t.z.sdN }, t.seq, t.out⟩
theorem Thx.wk {t : Thx} (h : (t.x.isSd && (t.y.isSd && t.z.isSd)) = true) : Wk t.av t.toL.av := by
  simp only [Bool.and_eq_true] at h
  refine Wk.ofAgg ?_
  unfold Thx.cellsW Rdr.cellsW Wtr.cellsW
  refine .append (.refl _) (.append (.append (.refl _) (.cons (.refl _) (.cons (.refl _) (.cons (isSd_wk h.1) (.refl _))))) (.append ?_ (.refl _)))
  iterate 9 refine .cons (.refl _) ?_
  refine .cons (isSd_wk h.2.1) ?_
  iterate 13 refine .cons (.refl _) ?_
  exact .cons (isSd_wk h.2.2) (.refl _)
/-- A list of known elements. -/
structure Lst where
  (us : List AV) (m : Nat)
def Lst.av (l : Lst) : AV := .lst l.us l.m
end Go.Bas
end
section
namespace Go.Bas
open Go.RowKit
set_option linter.unusedVariables false
/-- A list's elements, and how many, whatever it is. -/
def AV.lcX : AV → List AV
  | .lst c _ => c
  | _ => []
def AV.lnX : AV → Nat
  | .lst _ n => n
  | _ => 0
/-- A shape: who has it, and what is said of it, by its parts. -/
structure Sw where
  has : AV → Bool
  bd : AV → AV
  ok : ∀ v, has v = true → Wk v (bd v)
theorem wk_eq {a b : AV} (h : a = b) : Wk a b := h ▸ .refl a
def wI (k : IntKind) : Sw := ⟨(sI k).has, (sI k).bd, fun v h => wk_eq ((sI k).ok v h)⟩
def wB : Sw := ⟨sB.has, sB.bd, fun v h => wk_eq (sB.ok v h)⟩
def wL : Sw := ⟨fun v => match v with
  | .nils => true
  | .ns => true
  | .es => true
  | .lst _ _ => true
  | _ => false, fun v => .lst v.lcX v.lnX, fun v h => by
    cases v <;> first | exact .nils | exact .ns | exact .es | exact .refl _ | cases h⟩
def hasW : List Sw → List AV → Bool
  | [], [] => true
  | s :: r, v :: vs => s.has v && hasW r vs
  | _, _ => false
def bdW : List Sw → List AV → List AV
  | [], _ => []
  | s :: r, vs => s.bd (vs.headD .any) :: bdW r vs.tail
theorem hasW_ok : ∀ {l : List Sw} {vs : List AV}, hasW l vs = true → WkL vs (bdW l vs)
  | [], [], _ => .nil
  | [], _ :: _, h => by cases h
  | _ :: _, [], h => by cases h
  | s :: r, v :: vs, h => by
    have h : (s.has v && hasW r vs) = true := h
    simp only [Bool.and_eq_true] at h
    exact .cons (s.ok v h.1) (hasW_ok h.2)
def wT (l : List Sw) : Sw := ⟨fun v => match v with
  | .tup vs => hasW l vs
  | _ => false, fun v => .tup (bdW l v.elems), fun v h => by
    cases v <;> try (cases h)
    rename_i vs
    exact Wk.ofTup (hasW_ok (show hasW l vs = true from h))⟩
def wG (l : List Sw) : Sw := ⟨fun v => match v with
  | .agg vs => hasW l vs
  | _ => false, fun v => .agg (bdW l v.elems), fun v h => by
    cases v <;> try (cases h)
    rename_i vs
    exact Wk.ofAgg (hasW_ok (show hasW l vs = true from h))⟩
theorem acalls_outW {P : Program} {G : Nat → Option (List AV)} (h : Base P) {l : List Sum} (hl : ∀ s ∈ l, SumOk P G s) {f : FuncId} {args : List AV} {n : Nat} (s : Sw)
    (hr : runF ⟨P, G, lookS l, fun _ => false, fun _ => none⟩ n f args s.has false = true) : ACalls P G f args (fun v => v = s.bd (outV ⟨P, G, lookS l, fun _ => false, fun _ => none⟩ n f args)) :=
  ACalls.wk (acalls_eq h hl (n := n) (r := outV ⟨P, G, lookS l, fun _ => false, fun _ => none⟩ n f args) fun k hk => ((run_out hr).2 k).trans hk) (WkL.refl _) (s.ok _ (run_out hr).1)
end Go.Bas
end
section
namespace Go.Bas.BasZRdR
open Go.RowKit Go.Proofs
open Go.Bas.BasZBase Go.Bas.BasZOp Go.Bas.BasZOk Go.Bas.BasZTreB Go.Bas.BasEnds Go.Bas.BasZRdA Go.Bas.BasZRdL Go.Bas.BasZRdM Go.Bas.BasZRdN Go.Bas.BasZRdP Go.Bas.BasZRa Go.Bas.BasZRb Go.Bas.BasZRn Go.Bas.BasZRq
set_option maxRecDepth 100000
set_option maxHeartbeats 4000000
set_option linter.unusedVariables false
set_option linter.unusedSimpArgs false
/-- Where a reader is fits its frame. -/
def atR (pc fp : Int) : Prop := pc = 1 ∨ pc = 2 ∨ pc = 3 ∨ pc = 4 ∧ aK fp = 1 ∨ pc = 5 ∧ aK fp = 3 ∨ pc = 6 ∧ aK fp = 4 ∨ pc = 7
/-- A reader that reads: it has room for all the rows that it may be told yet. -/
def RI (c : Conf) (t : Int) (r : Rdr) : Prop := RdOk c r.f ∧ (0 ≤ t ∧ t < c.thr) ∧ (0 ≤ r.ver ∧ r.ver ≤ 1) ∧ (0 ≤ r.inst ∧ r.inst < c.ins) ∧
  (r.us.length = r.m * 2 ∧ r.us.all AV.one = true ∧ (r.m : Int) + rhoF c r.f ≤ c.cap) ∧ (0 ≤ r.given ∧ r.given ≤ (r.m : Int)) ∧ atR r.pc r.f.pc ∧ (r.pc = 6 → r.code ≠ 230)
/-- How many picks are left, at most. -/
noncomputable def LEFT (c : Conf) (r : Rdr) : Int := cond (decide (r.pc = 1)) (4 + muF c r.f) (cond (decide (r.pc = 2)) (3 + muF c r.f) (cond (decide (r.pc = 3)) (2 + muF c r.f) (cond (decide (r.pc = 4) || decide (r.pc = 5)) (1 + muF c r.f) 1)))
/-- What comes next. -/
def PHS (p q : Int) : Prop := (p = 1 → q = 2) ∧ (p = 2 → q = 3 ∨ q = 7) ∧ (¬ p = 1 → ¬ p = 2 → q = 4 ∨ q = 5 ∨ q = 6)
/-- A reader behind an access. -/
def RSTEP (c : Conf) (t : Int) (r : Rdr) (e : Int) (over : Bool) (r1 : Rdr) : Prop := e = 0 ∧ (over = true → r.pc = 6 ∧ r1.code ≠ 230 ∨ r.pc = 7) ∧ (over = false → RI c t r1 ∧ LEFT c r1 + 1 ≤ LEFT c r ∧ PHS r.pc r1.pc)
open Classical in
noncomputable def okZ (c : Conf) (t : Int) (r : Rdr) (e : Int) (over : Bool) (r1 : Rdr) : Bool := decide (RSTEP c t r e over r1)
theorem okZ_is {c : Conf} {t : Int} {r : Rdr} {e : Int} {over : Bool} {r1 : Rdr} (h : RSTEP c t r e over r1) : okZ c t r e over r1 = true := @decide_eq_true _ (Classical.propDecidable _) h
theorem wr_no {k : Int} (h : k = 3 ∨ k = 6 ∨ k = 7 ∨ k = 8 ∨ k = 11 ∨ k = 14) : f_wr_0 k = false ∧ ok_wr k = true := by
  rcases h with rfl | rfl | rfl | rfl | rfl | rfl <;> exact ⟨by kernel_rfl, by kernel_rfl⟩
theorem kindP {c : Conf} {f : Frm} (h : RdOk c f) : f.kind = 3 ∨ f.kind = 6 ∨ f.kind = 7 ∨ f.kind = 8 ∨ f.kind = 11 ∨ f.kind = 14 := by
  rcases h.2.2.2 with q | q | q | q <;> omega
/-- No such kind writes. -/
noncomputable def S_wrn : Sum := (15, on1 (rI .u8) (fun k => decide (k = 3) || (decide (k = 6) || (decide (k = 7) || (decide (k = 8) || (decide (k = 11) || decide (k = 14)))))) (fun _ => .bool false))
theorem s_wrn : SumOk Tryz.prog (gmap gs) S_wrn := on1_imp (fun k hp => by
  simp only [Bool.or_eq_true, decide_eq_true_eq] at hp
  have q := wr_no (k := k) hp
  refine ⟨q.2, ?_⟩
  unfold o_wr
  rw [q.1]) s_wr
end Go.Bas.BasZRdR
end
section
namespace Go.Bas.BasZRdS
open Go.RowKit Go.Proofs
open Go.Bas.BasZBase Go.Bas.BasZOp Go.Bas.BasZOk Go.Bas.BasZTreB Go.Bas.BasEnds Go.Bas.BasZRdA Go.Bas.BasZRdL Go.Bas.BasZRdM Go.Bas.BasZRdN Go.Bas.BasZRdP Go.Bas.BasZRa Go.Bas.BasZRb Go.Bas.BasZRn Go.Bas.BasZRq Go.Bas.BasZRdR
set_option maxRecDepth 100000
set_option maxHeartbeats 4000000
set_option linter.unusedVariables false
set_option linter.unusedSimpArgs false
theorem aK_or (pc : Int) : aK pc = 1 ∨ aK pc = 3 ∨ aK pc = 4 := by
  unfold aK
  cases (decide (pc = 0) || (decide (pc = 1) || (decide (pc = 3) || decide (pc = 17)))) with
  | true => exact .inl rfl
  | false => cases decide (pc = 16) with
    | true => exact .inr (.inl rfl)
    | false => exact .inr (.inr rfl)
theorem aE_ne (pc : Int) : aE pc ≠ 230 := by
  unfold aE
  cases (decide (pc = 8) || decide (pc = 21)) <;> decide
theorem hkR {c : Conf} {f : Frm} (h : RdOk c f) : c.OkP := ok_true.1 (of_errC h.1)
theorem rho_0 {c : Conf} {f : Frm} (h : RdOk c f) : 0 ≤ rhoF c f := by
  have hc := capP (hkR h)
  obtain ⟨_, _, _, hI⟩ := h
  unfold rhoF
  rcases hI with q | q | q | q
  · rw [q.1]; exact Int.le_refl 0
  · rw [q.1]; exact Int.le_refl 0
  · rw [q.1]; exact Int.le_refl 0
  · obtain ⟨hK, ho, hx⟩ := q
    have hb := hx.1
    rcases hx.2 with q | q | q | q | q | q | q | q
    · rw [q.1, ← rho_01 (n1 := f.n) (p1 := f.p)]
      exact (rho_nn hK hc.1).1
    · rw [q.1]
      exact (rho_nn hK hc.1).1
    · rw [q.1, q.2.1]
      show (0 : Int) ≤ 1
      decide
    · rw [q.1, q.2.1]
      show (0 : Int) ≤ f.n - f.p - 1
      omega
    · rw [q.1, q.2.1]
      show (0 : Int) ≤ f.n - f.p
      omega
    · rw [rho_e hK (.inl q.1)]; exact Int.le_refl 0
    · rw [rho_e hK (.inr (.inl q.1))]; exact Int.le_refl 0
    · rw [rho_e hK (.inr (.inr q.1))]; exact Int.le_refl 0
theorem mu_nn {c : Conf} {f : Frm} (h : RdOk c f) : 0 ≤ muF c f := by
  have hk := hkR h
  have hc := capP hk
  obtain ⟨_, _, _, hI⟩ := h
  unfold muF
  rcases hI with q | q | q | q
  · rw [q.1]
    rcases q.2.2.1 with r | r | r
    · rw [r]
      show 0 ≤ c.bits - f.h + 1
      omega
    · rw [mu3_e (by omega)]; exact Int.le_refl 0
    · rw [mu3_e (by omega)]; exact Int.le_refl 0
  · rw [q.1]
    rcases q.2.2.1 with r | r
    · rw [r]
      show 0 ≤ c.cap - f.i
      omega
    · rw [r]
      exact Int.le_refl 0
  · rw [q.1]
    rcases q.2.2.1 with r | r
    · rw [r.1, mu14_0]
      have h2 := Int.mul_le_mul_of_nonneg_right (show 1 ≤ many f.a f.b - f.h by omega) (show 0 ≤ c.cap by omega)
      omega
    · rw [mu14_e r.1]; exact Int.le_refl 0
  · obtain ⟨hK, ho, hx⟩ := q
    have hxp := ixP hk ho
    have h2 := x_nn (c := c) (k := f.kind)
    rcases hx.2 with q | q | q | q | q | q | q | q
    · rw [q.1, mu_0 hK]
      have h1 : 0 ≤ c.node * (lvN c.cap c.node : Int) := Int.mul_nonneg (by omega) (Int.natCast_nonneg _)
      omega
    · rw [q.1, mu_1 hK]
      have h1 : 0 ≤ muI c.node f.h f.i := Int.natCast_nonneg _
      omega
    · rw [q.1, q.2.1, mu_3]; decide
    · rw [q.1, q.2.1, mu_16]
      have h1 : 0 ≤ nuI c.chunk 0 (f.n - f.p - 1) := nI_nn
      omega
    · rw [q.1, q.2.1, mu_17]; exact nI_nn
    · rw [mu_e hK (.inl q.1)]; exact Int.le_refl 0
    · rw [mu_e hK (.inr (.inl q.1))]; exact Int.le_refl 0
    · rw [mu_e hK (.inr (.inr q.1))]; exact Int.le_refl 0
/-! Rows: made anew, and one more. -/
abbrev zsR (m : Nat) : List AV := List.flatten (List.replicate (Int.toNat (IntKind.wrap .i64 ((Int.ofNat m) + 1))) [(AV.int .u64 0), (AV.int .u64 0)])
abbrev csR (us : List AV) (m : Nat) : List AV := List.append (List.append (List.take 0 (zsR m)) (List.take ((Nat.min m (Int.toNat (Int.ofNat m))) * 2) us)) (List.drop (0 + ((Nat.min m (Int.toNat (Int.ofNat m))) * 2)) (zsR m))
theorem w1 {m : Nat} (h : m ≤ 100) : IntKind.wrap .i64 (Int.ofNat m + 1) = ((m + 1 : Nat) : Int) := by
  show IntKind.wrap .i64 ((m : Int) + 1) = _
  simp only [IntKind.wrap, IntKind.signed, IntKind.bits]
  (try simp) <;> omega
theorem flat_len (n : Nat) (a b : AV) : (List.replicate n [a, b]).flatten.length = n * 2 := by
  induction n with
  | zero => rfl
  | succ n ih => rw [List.replicate_succ, List.flatten_cons, List.length_append, ih, Nat.succ_mul]; simp; omega
theorem zs_len {m : Nat} (h : m ≤ 100) : (zsR m).length = (m + 1) * 2 := by
  unfold zsR
  rw [flat_len, w1 h]
  rfl
theorem cs_is {us : List AV} {m : Nat} (hl : us.length = m * 2) : csR us m = us ++ (zsR m).drop (m * 2) := by
  have emin : Nat.min m (Int.toNat (Int.ofNat m)) = m := Nat.min_self _
  have eu : us.take (m * 2) = us := List.take_of_length_le (by omega)
  show ((zsR m).take 0 ++ us.take (Nat.min m (Int.toNat (Int.ofNat m)) * 2)) ++ (zsR m).drop (0 + Nat.min m (Int.toNat (Int.ofNat m)) * 2) = _
  rw [emin, eu, Nat.zero_add]
  rfl
theorem take_cs {us : List AV} {m : Nat} (hl : us.length = m * 2) : List.take (m * 2) (csR us m) = us := by rw [cs_is hl, ← hl, List.take_left]
section
variable {c : Conf} {t ver inst batch : Int} {f : Frm} {code v : Int} {us : List AV} {m : Nat} {given pc : Int}
theorem m_le (hR : RI c t ⟨pc, ver, inst, batch, f, code, v, us, m, given⟩) : m ≤ 32 := by
  have hc := capP (hkR hR.1)
  have h1 := rho_0 hR.1
  have h5 : (m : Int) + rhoF c f ≤ c.cap := hR.2.2.2.2.1.2.2
  have h1 : 0 ≤ rhoF c f := h1
  omega
theorem us_len (hR : RI c t ⟨pc, ver, inst, batch, f, code, v, us, m, given⟩) : us.length = m * 2 := hR.2.2.2.2.1.1
theorem us_one (hR : RI c t ⟨pc, ver, inst, batch, f, code, v, us, m, given⟩) : List.all us AV.one = true := hR.2.2.2.2.1.2.1
theorem own_a (m : Nat) : decide (0 ≤ (Int.ofNat m)) = true := decide_eq_true (Int.natCast_nonneg m)
theorem own_b (hR : RI c t ⟨pc, ver, inst, batch, f, code, v, us, m, given⟩) : decide ((Int.ofNat m) ≤ (IntKind.wrap .i64 ((Int.ofNat m) + 1))) = true := by
  have h := m_le hR
  rw [w1 (by omega)]
  exact decide_eq_true (by show (m : Int) ≤ ((m + 1 : Nat) : Int); omega)
theorem own_c (hR : RI c t ⟨pc, ver, inst, batch, f, code, v, us, m, given⟩) : Nat.ble (Int.toNat (IntKind.wrap .i64 ((Int.ofNat m) + 1))) 9223372036854775807 = true := by
  have h := m_le hR
  rw [w1 (by omega), Int.toNat_natCast]
  exact Nat.ble_eq_true_of_le (by omega)
theorem own_d (hR : RI c t ⟨pc, ver, inst, batch, f, code, v, us, m, given⟩) : Nat.ble ((Int.toNat (IntKind.wrap .i64 ((Int.ofNat m) + 1))) * 16) 140737488355328 = true := by
  have h := m_le hR
  rw [w1 (by omega), Int.toNat_natCast]
  exact Nat.ble_eq_true_of_le (by omega)
theorem own_e (hR : RI c t ⟨pc, ver, inst, batch, f, code, v, us, m, given⟩) : Nat.ble (0 + ((Int.toNat (Int.ofNat m)) * 2)) (List.length (zsR m)) = true := by
  have h := m_le hR
  rw [zs_len (by omega)]
  exact Nat.ble_eq_true_of_le (by show 0 + m * 2 ≤ _; omega)
theorem own_f (hR : RI c t ⟨pc, ver, inst, batch, f, code, v, us, m, given⟩) : Nat.beq (List.length us) (m * 2) = true := by
  rw [us_len hR]
  exact Nat.beq_refl _
theorem cs_len (hR : RI c t ⟨pc, ver, inst, batch, f, code, v, us, m, given⟩) : m * 2 ≤ (csR us m).length := by
  rw [cs_is (us_len hR), List.length_append, us_len hR]
  omega
theorem own_g (hR : RI c t ⟨pc, ver, inst, batch, f, code, v, us, m, given⟩) : Nat.ble (0 + ((Int.toNat (Int.ofNat m)) * 2)) (List.length (csR us m)) = true := Nat.ble_eq_true_of_le (by have := cs_len hR; show 0 + m * 2 ≤ _; omega)
theorem own_h (hR : RI c t ⟨pc, ver, inst, batch, f, code, v, us, m, given⟩) : Nat.ble ((Int.toNat (Int.ofNat m)) * 2) (List.length (csR us m)) = true := Nat.ble_eq_true_of_le (by have := cs_len hR; show m * 2 ≤ _; omega)
theorem own_i (hR : RI c t ⟨pc, ver, inst, batch, f, code, v, us, m, given⟩) : Nat.ble (((Int.toNat (Int.ofNat m)) + 1) * 16) 140737488355328 = true := Nat.ble_eq_true_of_le (by have := m_le hR; show (m + 1) * 16 ≤ _; omega)
theorem own_j (hR : RI c t ⟨pc, ver, inst, batch, f, code, v, us, m, given⟩) : Nat.ble ((Int.toNat (Int.ofNat m)) + 1) 9223372036854775807 = true := Nat.ble_eq_true_of_le (by have := m_le hR; show m + 1 ≤ _; omega)
abbrev apR (us : List AV) (m : Nat) (x y : Int) : List AV := List.append (List.take ((Int.toNat (Int.ofNat m)) * 2) (csR us m)) (List.take 2 (List.drop 0 [(AV.int .u64 x), (AV.int .u64 y)]))
theorem ap_is (hR : RI c t ⟨pc, ver, inst, batch, f, code, v, us, m, given⟩) (x y : Int) : apR us m x y = us ++ [AV.int .u64 x, AV.int .u64 y] := by
  show List.take (m * 2) (csR us m) ++ [AV.int .u64 x, AV.int .u64 y] = _
  rw [take_cs (us_len hR)]
theorem own_k (hR : RI c t ⟨pc, ver, inst, batch, f, code, v, us, m, given⟩) (x y : Int) : Nat.ble (0 + (((Int.toNat (Int.ofNat m)) + 1) * 2)) (List.length (apR us m x y)) = true := by
  rw [ap_is hR, List.length_append, us_len hR]
  exact Nat.ble_eq_true_of_le (by show 0 + (m + 1) * 2 ≤ m * 2 + 2; omega)
/-- The rows of the copy. -/
theorem rows_o (hR : RI c t ⟨pc, ver, inst, batch, f, code, v, us, m, given⟩) : (List.take ((Int.toNat (Int.ofNat m)) * 2) (List.drop 0 (csR us m))).length = m * 2 ∧ List.all (List.take ((Int.toNat (Int.ofNat m)) * 2) (List.drop 0 (csR us m))) AV.one = true := by
  have e : List.take ((Int.toNat (Int.ofNat m)) * 2) (List.drop 0 (csR us m)) = us := take_cs (us_len hR)
  rw [e]
  exact ⟨us_len hR, us_one hR⟩
theorem rows_a (hR : RI c t ⟨pc, ver, inst, batch, f, code, v, us, m, given⟩) (x y : Int) : (List.take (((Int.toNat (Int.ofNat m)) + 1) * 2) (List.drop 0 (apR us m x y))).length = (m + 1) * 2 ∧ List.all (List.take (((Int.toNat (Int.ofNat m)) + 1) * 2) (List.drop 0 (apR us m x y))) AV.one = true := by
  have e : List.take (((Int.toNat (Int.ofNat m)) + 1) * 2) (List.drop 0 (apR us m x y)) = us ++ [AV.int .u64 x, AV.int .u64 y] := by
    rw [List.drop_zero, ap_is hR]
    exact List.take_of_length_le (by rw [List.length_append, us_len hR]; show m * 2 + 2 ≤ (m + 1) * 2; omega)
  rw [e]
  refine ⟨by rw [List.length_append, us_len hR]; show m * 2 + 2 = (m + 1) * 2; omega, ?_⟩
  rw [List.all_append, us_one hR]
  rfl
theorem rows_0 : ([] : List AV).length = 0 * 2 ∧ List.all ([] : List AV) AV.one = true := ⟨rfl, rfl⟩
theorem m0 (h : Nat.beq (Int.toNat (Int.ofNat m)) 0 = true) : 0 = m := (Nat.eq_of_beq_eq_true h).symm
/-! Conditions that are known. -/
theorem k_e (hR : RI c t ⟨pc, ver, inst, batch, f, code, v, us, m, given⟩) : (!decide (errC c = 0)) = false := nfd (decide_eq_true hR.1.1)
theorem k_all (hR : RI c t ⟨pc, ver, inst, batch, f, code, v, us, m, given⟩) : decide (t < 0) = false ∧ decide (t ≥ c.thr) = false ∧ decide (ver < 0) = false ∧ decide (ver > 1) = false ∧ decide (inst < 0) = false ∧ decide (inst ≥ c.ins) = false ∧ decide ((Int.ofNat m) > c.cap) = false ∧ decide (given < 0) = false ∧ decide (given > (Int.ofNat m)) = false := by
  have h0 := rho_0 hR.1
  obtain ⟨h1, h2, h3, h4, h5, h6, h7, h8⟩ := hR
  simp only at h0 h1 h2 h3 h4 h5 h6
  have e : (Int.ofNat m : Int) = (m : Int) := rfl
  rw [e]
  exact ⟨decide_eq_false (by omega), decide_eq_false (by omega), decide_eq_false (by omega), decide_eq_false (by omega), decide_eq_false (by omega), decide_eq_false (by omega), decide_eq_false (by omega), decide_eq_false (by omega), decide_eq_false (by omega)⟩
theorem insP {c : Conf} (hk : c.OkP) : 2 ≤ c.ins ∧ c.ins ≤ 4 := by unfold Conf.OkP at hk; omega
theorem k_ins (hR : RI c t ⟨pc, ver, inst, batch, f, code, v, us, m, given⟩) : decide (IntKind.wrap .u64 c.ins = 0) = false := by
  have h := insP (hkR hR.1)
  rw [w64i (by omega) (by omega)]
  exact decide_eq_false (by omega)
theorem k_wr (hR : RI c t ⟨pc, ver, inst, batch, f, code, v, us, m, given⟩) : (bif decide (f.kind = 3) then Bool.true else (bif decide (f.kind = 6) then Bool.true else (bif decide (f.kind = 7) then Bool.true else (bif decide (f.kind = 8) then Bool.true else (bif decide (f.kind = 11) then Bool.true else decide (f.kind = 14)))))) = true := by
  have h : f.kind = 3 ∨ f.kind = 6 ∨ f.kind = 7 ∨ f.kind = 8 ∨ f.kind = 11 ∨ f.kind = 14 := kindP hR.1
  rcases h with h | h | h | h | h | h <;> rw [h] <;> rfl
theorem k_at4 (hR : RI c t ⟨4, ver, inst, batch, f, code, v, us, m, given⟩) : aK f.pc = 1 := by
  have h : atR 4 f.pc := hR.2.2.2.2.2.2.1
  unfold atR at h
  omega
theorem k_at5 (hR : RI c t ⟨5, ver, inst, batch, f, code, v, us, m, given⟩) : aK f.pc = 3 := by
  have h : atR 5 f.pc := hR.2.2.2.2.2.2.1
  unfold atR at h
  omega
theorem k_at6 (hR : RI c t ⟨6, ver, inst, batch, f, code, v, us, m, given⟩) : aK f.pc = 4 := by
  have h : atR 6 f.pc := hR.2.2.2.2.2.2.1
  unfold atR at h
  omega
theorem k_okR (hR : RI c t ⟨pc, ver, inst, batch, f, code, v, us, m, given⟩) : okR c f = true := okR_is hR.1
theorem k_okW4 {l : Cel} (hR : RI c t ⟨4, ver, inst, batch, f, code, v, us, m, given⟩) (hl : 0 ≤ l.a) : okW c f l = true := okW_is ⟨hR.1, by have := k_at4 hR; omega, hl⟩
theorem k_okW5 (hR : RI c t ⟨5, ver, inst, batch, f, code, v, us, m, given⟩) : okW c f (Cel.mk 0 0 0 0) = true := okW_is ⟨hR.1, by have := k_at5 hR; omega, Int.le_refl 0⟩
theorem k_okN {l : Cel} (h : okW c f l = true) : okR c (nxF c f l) = true := okR_is (nxt_ok h).2.1
/-! The leaves. -/
variable {X : List AV} {M : Nat} {l : Cel}
theorem z_1 (hR : RI c t ⟨1, ver, inst, batch, f, code, v, us, m, given⟩) (hl : 0 ≤ l.a) (hX : X.length = M * 2 ∧ List.all X AV.one = true) (hM : M = m) : okZ c t ⟨1, ver, inst, batch, f, code, v, us, m, given⟩ 0 false ⟨2, IntKind.wrap .i64 (Int.tmod l.a 2), inst, batch, f, code, v, X, M, given⟩ = true := by
  subst hM
  obtain ⟨h1, h2, h3, h4, h5, h6, h7, h8⟩ := hR
  have hv0 : 0 ≤ Int.tmod l.a 2 := Int.tmod_nonneg _ hl
  have hv1 : Int.tmod l.a 2 < 2 := Int.tmod_lt_of_pos _ (by decide)
  refine okZ_is ⟨rfl, fun h => (by cases h), fun _ => ⟨⟨h1, h2, ?_, h4, ⟨hX.1, hX.2, h5.2.2⟩, h6, .inr (.inl rfl), fun h => absurd (show (2 : Int) = 6 from h) (by decide)⟩, ?_, ⟨fun _ => rfl, fun h => absurd (show (1 : Int) = 2 from h) (by decide), fun h => absurd rfl h⟩⟩⟩
  · show 0 ≤ IntKind.wrap .i64 (Int.tmod l.a 2) ∧ IntKind.wrap .i64 (Int.tmod l.a 2) ≤ 1
    rw [wi hv0 (by omega)]
    omega
  · show 3 + muF c f + 1 ≤ 4 + muF c f
    omega
theorem z_2 {q : Int} (hR : RI c t ⟨2, ver, inst, batch, f, code, v, us, m, given⟩) (hq : q = 3 ∨ q = 7) (hX : X.length = M * 2 ∧ List.all X AV.one = true) (hM : M = m) : okZ c t ⟨2, ver, inst, batch, f, code, v, us, m, given⟩ 0 false ⟨q, ver, inst, batch, f, code, v, X, M, given⟩ = true := by
  subst hM
  have hm := mu_nn hR.1
  obtain ⟨h1, h2, h3, h4, h5, h6, h7, h8⟩ := hR
  have hm : 0 ≤ muF c f := hm
  refine okZ_is ⟨rfl, fun h => (by cases h), fun _ => ⟨⟨h1, h2, h3, h4, ⟨hX.1, hX.2, h5.2.2⟩, h6, ?_, fun h => absurd (show q = 6 from h) (by omega)⟩, ?_, ⟨fun h => absurd (show (2 : Int) = 1 from h) (by decide), fun _ => hq, fun _ h => absurd rfl h⟩⟩⟩
  · show atR q f.pc
    unfold atR
    omega
  · rcases hq with rfl | rfl
    · show 2 + muF c f + 1 ≤ 3 + muF c f
      omega
    · show (1 : Int) + 1 ≤ 3 + muF c f
      omega
theorem q_4 {p : Int} (h : decide (aK p = 1) = true) : (4 : Int) = 4 ∧ aK p = 1 ∨ (4 : Int) = 5 ∧ aK p = 3 ∨ (4 : Int) = 6 ∧ aK p = 4 := .inl ⟨rfl, of_decide_eq_true h⟩
theorem q_5 {p : Int} (h : decide (aK p = 3) = true) : (5 : Int) = 4 ∧ aK p = 1 ∨ (5 : Int) = 5 ∧ aK p = 3 ∨ (5 : Int) = 6 ∧ aK p = 4 := .inr (.inl ⟨rfl, of_decide_eq_true h⟩)
theorem q_6 {p : Int} (h : decide (aK p = 1) = false) (h2 : decide (aK p = 3) = false) : (6 : Int) = 4 ∧ aK p = 1 ∨ (6 : Int) = 5 ∧ aK p = 3 ∨ (6 : Int) = 6 ∧ aK p = 4 := by
  have := of_decide_eq_false h
  have := of_decide_eq_false h2
  have := aK_or p
  omega
theorem z_3 {q code1 v1 b1 : Int} (hR : RI c t ⟨3, ver, inst, batch, f, code, v, us, m, given⟩) (hl : 0 ≤ l.a) (hq : q = 4 ∧ aK f.pc = 1 ∨ q = 5 ∧ aK f.pc = 3 ∨ q = 6 ∧ aK f.pc = 4) (hc : q = 6 → code1 ≠ 230) (hX : X.length = M * 2 ∧ List.all X AV.one = true) (hM : M = m) : okZ c t ⟨3, ver, inst, batch, f, code, v, us, m, given⟩ 0 false ⟨q, ver, IntKind.wrap .i64 (Int.tmod l.a (IntKind.wrap .u64 c.ins)), b1, f, code1, v1, X, M, given⟩ = true := by
  subst hM
  have hm := mu_nn hR.1
  have hin := insP (hkR hR.1)
  obtain ⟨h1, h2, h3, h4, h5, h6, h7, h8⟩ := hR
  have hm : 0 ≤ muF c f := hm
  have e : IntKind.wrap .u64 c.ins = c.ins := w64i (by omega) (by omega)
  have hv0 : 0 ≤ Int.tmod l.a c.ins := Int.tmod_nonneg _ hl
  have hv1 : Int.tmod l.a c.ins < c.ins := Int.tmod_lt_of_pos _ (by omega)
  rw [e, wi hv0 (by omega)]
  refine okZ_is ⟨rfl, fun h => (by cases h), fun _ => ⟨⟨h1, h2, h3, ⟨hv0, hv1⟩, ⟨hX.1, hX.2, h5.2.2⟩, h6, ?_, hc⟩, ?_, ⟨fun h => absurd (show (3 : Int) = 1 from h) (by decide), fun h => absurd (show (3 : Int) = 2 from h) (by decide), fun _ _ => show q = 4 ∨ q = 5 ∨ q = 6 by omega⟩⟩⟩
  · show atR q f.pc
    unfold atR
    omega
  · rcases hq with ⟨rfl, _⟩ | ⟨rfl, _⟩ | ⟨rfl, _⟩
    · show 1 + muF c f + 1 ≤ 2 + muF c f
      omega
    · show 1 + muF c f + 1 ≤ 2 + muF c f
      omega
    · show (1 : Int) + 1 ≤ 2 + muF c f
      omega
theorem t_1 (h : f_rpa_13 c f l = true) : ((m + 1 : Nat) : Int) = (m : Int) + cond (f_rpa_13 c f l) 1 0 := by
  rw [h]
  exact Int.natCast_add m 1
theorem t_0 (h : f_rpa_13 c f l = false) (hM : M = m) : (M : Int) = (m : Int) + cond (f_rpa_13 c f l) 1 0 := by
  rw [h, hM]
  exact (Int.add_zero _).symm
theorem z_45 {p q code1 v1 given1 : Int} (hp : p = 4 ∨ p = 5) (hR : RI c t ⟨p, ver, inst, batch, f, code, v, us, m, given⟩) (hW : okW c f l = true) (hq : q = 4 ∧ aK (f_rpa_3 c f l) = 1 ∨ q = 5 ∧ aK (f_rpa_3 c f l) = 3 ∨ q = 6 ∧ aK (f_rpa_3 c f l) = 4) (hc : q = 6 → code1 ≠ 230) (hX : X.length = M * 2 ∧ List.all X AV.one = true) (hM : (M : Int) = (m : Int) + cond (f_rpa_13 c f l) 1 0) (hg : 0 ≤ given1 ∧ given1 ≤ (m : Int)) : okZ c t ⟨p, ver, inst, batch, f, code, v, us, m, given⟩ 0 false ⟨q, ver, inst, batch, nxF c f l, code1, v1, X, M, given1⟩ = true := by
  obtain ⟨n1, n2, n3, n4, n5⟩ := nxt_ok hW
  have hm := mu_nn n2
  obtain ⟨h1, h2, h3, h4, h5, h6, h7, h8⟩ := hR
  have h5 : (m : Int) + rhoF c f ≤ c.cap := h5.2.2
  have ht := tl (t := f_rpa_13 c f l)
  refine okZ_is ⟨rfl, fun h => (by cases h), fun _ => ⟨⟨n2, h2, h3, h4, ⟨hX.1, hX.2, ?_⟩, ⟨hg.1, ?_⟩, ?_, hc⟩, ?_, ⟨fun h => absurd (show p = 1 from h) (by omega), fun h => absurd (show p = 2 from h) (by omega), fun _ _ => show q = 4 ∨ q = 5 ∨ q = 6 by omega⟩⟩⟩
  · show (M : Int) + rhoF c (nxF c f l) ≤ c.cap
    omega
  · show given1 ≤ (M : Int)
    omega
  · show atR q (f_rpa_3 c f l)
    unfold atR
    omega
  · have e : LEFT c ⟨p, ver, inst, batch, f, code, v, us, m, given⟩ = 1 + muF c f := by
      rcases hp with rfl | rfl <;> rfl
    rw [e]
    rcases hq with ⟨rfl, _⟩ | ⟨rfl, _⟩ | ⟨rfl, _⟩
    · show 1 + muF c (nxF c f l) + 1 ≤ 1 + muF c f
      omega
    · show 1 + muF c (nxF c f l) + 1 ≤ 1 + muF c f
      omega
    · show (1 : Int) + 1 ≤ 1 + muF c f
      omega
theorem g_4 (hR : RI c t ⟨pc, ver, inst, batch, f, code, v, us, m, given⟩) : 0 ≤ given ∧ given ≤ (m : Int) := hR.2.2.2.2.2.1
theorem g_5 (m : Nat) : 0 ≤ Int.ofNat (Int.toNat (Int.ofNat m)) ∧ Int.ofNat (Int.toNat (Int.ofNat m)) ≤ (m : Int) := ⟨Int.natCast_nonneg m, Int.le_refl (m : Int)⟩
theorem z_6 {r1 : Rdr} (hR : RI c t ⟨6, ver, inst, batch, f, code, v, us, m, given⟩) (h : r1.code = code) : okZ c t ⟨6, ver, inst, batch, f, code, v, us, m, given⟩ 0 true r1 = true := by
  have h8 : (6 : Int) = 6 → code ≠ 230 := hR.2.2.2.2.2.2.2
  exact okZ_is ⟨rfl, fun _ => .inl ⟨rfl, by rw [h]; exact h8 rfl⟩, fun h => by cases h⟩
theorem z_7 {r1 : Rdr} : okZ c t ⟨7, ver, inst, batch, f, code, v, us, m, given⟩ 0 true r1 = true := okZ_is ⟨rfl, fun _ => .inr rfl, fun h => by cases h⟩
end
end Go.Bas.BasZRdS
end
