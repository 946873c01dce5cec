/- What alone.View does where it has deferred its closure: it answers what it comes to, or, where that gives up, an error. No conditions. -/
import Derived.Test.YtehfcbppcfpjoaaGreatDoorBasAloneNamesM1
import Derived.Test.YtehfcbppcfpjoaaGreatDoorBasDf
namespace Go.Proofs.YtehfcbppcfpjoaaGreatDoor.aloneNames
open Go.ChangeShapes Go.WideShapes Go.ChangeAt Go.RowKit Go.Bas
set_option linter.unusedVariables false
set_option linter.unusedSimpArgs false
set_option maxRecDepth 100000
noncomputable abbrev lS : List Sum := []
noncomputable abbrev cR : Cfg := ⟨Tryz.prog, gmap gs, lookS lS, fun _ => false, fun _ => none⟩
theorem sumsR : ∀ s ∈ lS, SumOk Tryz.prog (gmap gs) s := sums_nil
theorem hR : cR.Ok := cfg_ok base sumsR
noncomputable abbrev vps : List Code := [sel [false] (fcode Tryz.prog 5), sel [true, false] (fcode Tryz.prog 5), sel [true, true, false] (fcode Tryz.prog 5), sel [true, true, true, false] (fcode Tryz.prog 5)]
noncomputable abbrev vD : Code := sel [true, true, true, true, false] (fcode Tryz.prog 5)
noncomputable abbrev vL : Code := sel [true, true, true, true, true, false] (fcode Tryz.prog 5)
def opsOf : Code → Array Oper
  | .region _ ops _ => ops
  | _ => #[]
theorem v_code : fcode Tryz.prog 5 = seqs vps (.seq vD (.seq vL .ret)) := by kernel_rfl
theorem vD_is : vD = .region 6 (opsOf vD) false := by kernel_rfl
theorem vL_is : vL = .region 7 (opsOf vL) false := by kernel_rfl
theorem vD_ops : (opsOf vD).toList.map (fun o => (o.dst, o.op, o.guard)) = [(some 19, .makeFunc (.func 9) #[] #[.tmp 4, .tmp 5], none), (none, .defer ⟨.value (.tmp 19), #[], #[]⟩, none)] := by kernel_rfl
noncomputable abbrev kR : Code := sel [false] (fcode Tryz.prog 9)
noncomputable abbrev kY : Code := sel [true, false] (fcode Tryz.prog 9)
theorem k_code : fcode Tryz.prog 9 = .seq kR (.cond (.tmp 3) kY .skip) := by kernel_rfl
theorem kR_is : kR = .region 0 (opsOf kR) false := by kernel_rfl
theorem kR_ops : (opsOf kR).toList.map (fun o => (o.dst, o.op, o.guard)) = [(some 2, .call ⟨.builtin .recover, #[], #[]⟩, none), (some 3, .binOp .neq 20 (.tmp 2) (.const .nilIface) 20, none)] := by kernel_rfl
theorem two_ops {ops : Array Oper} {d0 d1 : Option Tmp} {p0 p1 : Op} (h : ops.toList.map (fun o => (o.dst, o.op, o.guard)) = [(d0, p0, none), (d1, p1, none)]) :
    ∃ o0 o1, ops = #[o0, o1] ∧ o0.dst = d0 ∧ o0.op = p0 ∧ o0.guard = none ∧ o1.dst = d1 ∧ o1.op = p1 ∧ o1.guard = none := by
  obtain ⟨l⟩ := ops
  cases l with
  | nil => cases h
  | cons a l =>
    cases l with
    | nil => simp at h
    | cons b l =>
      cases l with
      | nil =>
        simp only [List.map_cons, List.map_nil, List.cons.injEq, Prod.mk.injEq, and_true] at h
        obtain ⟨⟨h1, h2, h3⟩, h4, h5, h6⟩ := h
        exact ⟨a, b, rfl, h1, h2, h3, h4, h5, h6⟩
      | cons c l => simp at h
section
variable {w : World} {B oC oL : Nat → Prop} {ω : Nat → Option Nat}
/-- What is deferred. -/
def dfr (b4 b5 : Nat) : Deferred := { target := .fn (.func 9) #[.pointer (some ⟨b4, 0, none⟩), .pointer (some ⟨b5, 0, none⟩)], args := #[] }
theorem sim_nodefer {C : Cfg} {st : St} {a : Act} (S : Sim C w B oC oL ω st a) (hd : st.ds = []) : a.defers = [] := by
  have := S.dn
  rw [hd] at this
  cases hx : a.defers with
  | nil => rfl
  | cons x xs => rw [hx] at this; exact this.elim
/-- The closure is deferred. -/
theorem defer_ok {SD : St} {a : Act} {i4 i5 : Nat} {Q : Exit → Act → World → Prop} (S : Sim cR w B oC oL ω SD a) (hd : SD.ds = []) (h4 : lget SD.tmps 4 = .ptr i4 0) (h5 : lget SD.tmps 5 = .ptr i5 0)
    (h19 : setT SD.tmps (some 19) .any = SD.tmps) (hlen : SD.tmps.length = 25)
    (hQ : ∀ b4 b5 a', ω i4 = some b4 → ω i5 = some b5 → i4 < SD.m.nx → i5 < SD.m.nx → Sim cR w B oC oL ω SD a' → Q .normal (withD a' [dfr b4 b5]) w) :
    vD.wpIn (Fr none) 0 Tryz.prog Q a w := by
  rw [vD_is]
  refine wpIn_region ?_
  obtain ⟨o0, o1, ho, d0, p0, g0, d1, p1, g1⟩ := two_ops vD_ops
  rw [ho]
  have e4 := S.ev (.tmp 4)
  have e5 := S.ev (.tmp 5)
  simp only [evO] at e4 e5
  rw [h4] at e4
  rw [h5] at e5
  generalize hv4 : a.eval (.tmp 4) = v4 at e4
  generalize hv5 : a.eval (.tmp 5) = v5 at e5
  cases e4 with
  | ptr _ _ _ b4 l4 w4 =>
  cases e5 with
  | ptr _ _ _ b5 l5 w5 =>
  have hdf : a.defers = [] := sim_nodefer S hd
  have S1 : Sim cR w B oC oL ω SD (a.put (some 19) (.func (.func 9) #[] #[.pointer (some ⟨b4, 0, none⟩), .pointer (some ⟨b5, 0, none⟩)])) := by
    have := S.put (m' := SD.m) (dst := some 19) (v := .any) (u := .func (.func 9) #[] #[.pointer (some ⟨b4, 0, none⟩), .pointer (some ⟨b5, 0, none⟩)]) ExtR.refl S.ms (.any _ _)
    rw [h19] at this
    exact this
  have hsz : a.tmps.size = 25 := S.tm.1.symm.trans hlen
  have ev19 : ∀ u, (a.put (some 19) u).eval (.tmp 19) = u := fun u => by
    simp [Act.eval, Act.put, hsz]
  show wpOpsIn (Fr none) 0 Tryz.prog #[o0, o1] Q [0, 1] a w
  rw [wpOpsIn_cons]
  unfold wpOpIn
  simp only [show (#[o0, o1] : Array Oper)[0]? = some o0 from rfl]
  rw [if_pos (by simp [Region.wanted, g0])]
  refine ⟨about_fr _ _ _ _ _, ?_⟩
  show o0.uponIn (Fr none) 0 Tryz.prog a _ Q ((execOp a.eval o0).run Tryz.prog w)
  have r0 : (execOp a.eval o0).run Tryz.prog w = .ok (.value (.func (.func 9) #[] #[.pointer (some ⟨b4, 0, none⟩), .pointer (some ⟨b5, 0, none⟩)])) w := by
    simp [execOp, p0, Instr.makeFunc, hv4, hv5, Sem.run, Result.andThen]
  rw [r0, Oper.uponIn_value, d0, wpOpsIn_cons]
  unfold wpOpIn
  simp only [show (#[o0, o1] : Array Oper)[1]? = some o1 from rfl]
  rw [if_pos (by simp [Region.wanted, g1])]
  refine ⟨about_fr _ _ _ _ _, ?_⟩
  show o1.uponIn (Fr none) 0 Tryz.prog _ _ Q ((execOp (a.put (some 19) _).eval o1).run Tryz.prog w)
  have r1 : ∀ u, (execOp (a.put (some 19) (.func (.func 9) #[] u)).eval o1).run Tryz.prog w = .ok (.defer { target := .fn (.func 9) u, args := #[] }) w := fun u => by
    simp [execOp, p1, resolve, ev19, Deferred.ofValue, Sem.run, Result.andThen]
  rw [r1, Oper.uponIn_defer, d1, put_defers, hdf]
  exact hQ b4 b5 _ w4 w5 l4 l5 S1
theorem k_res {fn : Func} (h : fn.results.toList.length = 0) (tmps : Array Value) (w : World) : (results fn tmps).run Tryz.prog w = .ok (.tuple #[]) w := by
  have : fn.results = #[] := Array.eq_empty_of_size_eq_zero (by simpa using h)
  rw [results_eq, this]
  simp [Sem.run, Result.andThen]
/-- The closure, where nothing gave up. -/
theorem k_idle (p : Array Value) (hp : p.size = 2) (w : World) : CallsDIn (Fr none) 0 Tryz.prog 9 p .returning w fun e u' w' => e = .returned (.tuple #[]) ∧ u' = .returning ∧ w' = w := by
  obtain ⟨fn, hfn, hbd, hnt, hrs⟩ := fn_is (P := Tryz.prog) (f := 9) (n := 4) (r := 0) (by kernel_rfl)
  refine callsDIn_of_wpSIn hfn hbd trivial fun c₀ cs hu => ?_
  rw [k_code, hnt, hp]
  apply wpSIn_seq
  rw [kR_is]
  apply wpSIn_region
  obtain ⟨o0, o1, ho, d0, p0, g0, d1, p1, g1⟩ := two_ops kR_ops
  rw [ho]
  show wpOpsSIn (Fr none) 0 Tryz.prog #[o0, o1] _ [0, 1] _ _ _
  have e0 : (#[o0, o1] : Array Oper)[0]? = some o0 := rfl
  have e1 : (#[o0, o1] : Array Oper)[1]? = some o1 := rfl
  have hrec : recoverD (c₀ :: cs) = none := by simp [recoverD, hu]
  have hw0 : ∀ y, Region.wanted o0 y = true := fun y => by simp [Region.wanted, g0]
  have hw1 : ∀ y, Region.wanted o1 y = true := fun y => by simp [Region.wanted, g1]
  have r0 : ∀ ev : Operand → Value, (execOp ev o0).run Tryz.prog w = .ok .recover w := fun ev => by
    simp [execOp, p0, go_sem]
  have r1 : ∀ ev : Operand → Value, ev (.tmp 2) = .nilIface → ev (.const .nilIface) = .nilIface → (execOp ev o1).run Tryz.prog w = .ok (.value (.bool false)) w := fun ev h2 hc => by
    simp [execOp, p1, h2, hc, go_sem]
  simp only [wpOpsSIn, e0, e1, hw0, hw1, if_true, r0, hrec, d0, d1]
  refine ⟨about_fr _ _ _ _ _, about_fr _ _ _ _ _, ?_⟩
  rw [r1 _ (by simp [Act.eval, Act.put, hp]) rfl]
  simp only
  show (Code.cond (.tmp 3) kY .skip).wpSIn (Fr none) 0 Tryz.prog _ _ _ _
  refine wpSIn_cond (t := false) (by simp [Act.eval, Act.put, hp]) ?_
  simp only [Bool.false_eq_true, if_false]
  refine wpSIn_of_wpIn rfl (wpIn_skip ?_)
  refine ⟨rfl, .returning, ?_, .tuple #[], k_res hrs _ _, rfl, rfl, rfl⟩
  rw [← hu]
/-- The closure, where something gave up. -/
theorem k_pan {N i4 i5 b4 b5 : Nat} {pv : Value} {t : TypeId} {x : Value} {ids : List Nat} {m m' : Mem} (hx : pv = .iface t x) (M : MemSim cR w B oC oL ω m) (l4 : i4 < m.nx) (l5 : i5 < m.nx) (w4 : ω i4 = some b4) (w5 : ω i5 = some b5)
    (h3 : ∀ k : Ex → St → Bool, run cR N none none kY ⟨[.ptr i4 0, .ptr i5 0, .any, .any], [], m⟩ (fun e s => k e (keepSN [] ids s)) false = k .normal ⟨[.any, .any, .any, .any], [], m'⟩) :
    CallsDIn (Fr none) 0 Tryz.prog 9 #[.pointer (some ⟨b4, 0, none⟩), .pointer (some ⟨b5, 0, none⟩)] (.panicking [{ v := pv, recovered := false }]) w fun e u' w' => e = .returned (.tuple #[]) ∧ u' = .panicking [{ v := pv, recovered := true }] ∧
      ∃ oC' oL' ω', ExtR w oC oL ω m.nx w' oC' oL' ω' m'.nx ∧ MemSim cR w' B oC' oL' ω' m' := by
  obtain ⟨fn, hfn, hbd, hnt, hrs⟩ := fn_is (P := Tryz.prog) (f := 9) (n := 4) (r := 0) (by kernel_rfl)
  refine callsDIn_of_wpSIn hfn hbd trivial fun c₀ cs hu => ?_
  rw [k_code, hnt]
  apply wpSIn_seq
  rw [kR_is]
  apply wpSIn_region
  obtain ⟨o0, o1, ho, d0, p0, g0, d1, p1, g1⟩ := two_ops kR_ops
  rw [ho]
  show wpOpsSIn (Fr none) 0 Tryz.prog #[o0, o1] _ [0, 1] _ _ _
  have e0 : (#[o0, o1] : Array Oper)[0]? = some o0 := rfl
  have e1 : (#[o0, o1] : Array Oper)[1]? = some o1 := rfl
  have hrec : recoverD (c₀ :: cs) = some (pv, { c₀ with mode := .panicking [{ v := pv, recovered := true }] } :: cs) := by simp [recoverD, hu]
  have hw0 : ∀ y, Region.wanted o0 y = true := fun y => by simp [Region.wanted, g0]
  have hw1 : ∀ y, Region.wanted o1 y = true := fun y => by simp [Region.wanted, g1]
  have r0 : ∀ ev : Operand → Value, (execOp ev o0).run Tryz.prog w = .ok .recover w := fun ev => by
    simp [execOp, p0, go_sem]
  have r1 : ∀ ev : Operand → Value, ev (.tmp 2) = .iface t x → ev (.const .nilIface) = .nilIface → (execOp ev o1).run Tryz.prog w = .ok (.value (.bool true)) w := fun ev h2 hc => by
    simp [execOp, p1, h2, hc, go_sem]
  simp only [wpOpsSIn, e0, e1, hw0, hw1, if_true, r0, hrec, d0, d1]
  refine ⟨about_fr _ _ _ _ _, about_fr _ _ _ _ _, ?_⟩
  rw [r1 _ (by simp [Act.eval, Act.put, hx]) rfl]
  simp only
  show (Code.cond (.tmp 3) kY .skip).wpSIn (Fr none) 0 Tryz.prog _ _ _ _
  refine wpSIn_cond (t := true) (by simp [Act.eval, Act.put]) ?_
  simp only [if_true]
  refine wpSIn_of_wpIn rfl ?_
  generalize hA : ((Act.mk _ _).put _ _ : Act) = A
  have S : Sim cR w B oC oL ω ⟨[.ptr i4 0, .ptr i5 0, .any, .any], [], m⟩ A := by
    subst hA
    refine ⟨⟨rfl, fun i hi => ?_⟩, trivial, M⟩
    match i, hi with
    | 0, _ => exact .ptr _ _ _ _ l4 w4
    | 1, _ => exact .ptr _ _ _ _ l5 w5
    | 2, _ => exact .any _ _
    | 3, _ => exact .any _ _
  classical
  have ht := (h3 (fun e s => decide (e = .normal ∧ s = ⟨[.any, .any, .any, .any], [], m'⟩))).trans (decide_eq_true ⟨rfl, rfl⟩)
  refine (run_sound hR N).1 none kY _ _ w B oC oL ω A _ none ht S trivial (fun e s a' w' oC' oL' ω' out S' E' hk' ho' => ?_)
  obtain ⟨rfl, hs⟩ := of_decide_eq_true hk'
  have ho' : out = .normal := ho'
  subst ho'
  have hl := LessS.keepSN (C := cR) [] ids s
  have S2 := hl.2 _ _ _ _ _ _ S'
  rw [hs] at S2
  have hnx : m'.nx = s.m.nx := by have := hl.1; rw [hs] at this; exact this
  exact ⟨sim_nodefer S2 rfl, _, rfl, .tuple #[], k_res hrs _ _, rfl, rfl, oC', oL', ω', hnx ▸ E', S2.ms⟩
theorem v_res {fn : Func} (hfn : Tryz.prog.funcs[5]? = some fn) : fn.results.toList = [.cell 4 26, .cell 5 27] := by
  have : ((Tryz.prog.funcs[5]?).map fun fn => fn.results.toList) = some [.cell 4 26, .cell 5 27] := by kernel_rfl
  rw [hfn] at this
  exact Option.some.inj this
theorem inv_ok (b4 b5 : Nat) (w : World) : (invoke (.fn (.func 9) #[.pointer (some ⟨b4, 0, none⟩), .pointer (some ⟨b5, 0, none⟩)]) #[]).run Tryz.prog w = .ok (.enter 9 #[.pointer (some ⟨b4, 0, none⟩), .pointer (some ⟨b5, 0, none⟩)]) w := by
  obtain ⟨fn, hfn, hbd, hnt, hrs⟩ := fn_is (P := Tryz.prog) (f := 9) (n := 4) (r := 0) (by kernel_rfl)
  exact call_in hR hfn hbd _ _
/-- A view that is one. -/
theorem view_norm {N : Nat} {A : List AV} {M : Mem} {SD SE : St} {V : AV} {ids ids2 : List Nat} {i4 i5 : Nat} (t1 : ∀ k : St → Bool, runs cR N vps ⟨padL A 25, [], M⟩ (fun s => k (keepSN [1, 2, 4, 5] ids s)) false = k SD) (hd : SD.ds = []) (h4 : lget SD.tmps 4 = .ptr i4 0) (h5 : lget SD.tmps 5 = .ptr i5 0)
    (h19 : setT SD.tmps (some 19) .any = SD.tmps) (hlen : SD.tmps.length = 25)
    (t2 : ∀ (k : St → Bool) (kp : AV → St → Bool), opsK cR (callR cR (run cR N) false) (opsOf vL) (opsOf vL).toList SD (fun s => k (keepSN [4, 5] ids2 s)) (fun v s => kp v (keepSN [4, 5] ids2 s)) false = k SE)
    (t4 : ∀ kk : AV → Mem → Bool, resKs cR SE [.cell 4 26, .cell 5 27] (fun vs => kk (tupOf vs) SE.m) false = kk V SE.m) (kk : AV → Mem → Bool) (us : Array Value) (hk : kk V SE.m = true) (hM : MemSim cR w B oC oL ω M) (hA : RepL w (Or2 B oL) oC ω M.nx A us) :
    CallsIn (Fr none) 0 Tryz.prog 5 us w (CallEnd cR w B oC oL ω M.nx kk (fun _ _ => false)) := by
  classical
  obtain ⟨fn, hfn, hbd, hnt, hrs⟩ := fn_is (P := Tryz.prog) (f := 5) (n := 25) (r := 2) (by kernel_rfl)
  have hr := v_res hfn
  refine callsIn_of_wp_defers hfn hbd trivial ?_ rfl
  rw [v_code, hnt]
  have T1 := (t1 (fun s => decide (s = SD))).trans (decide_eq_true rfl)
  refine runs_wp hR vps _ _ w oC oL ω T1 ⟨pad_rep hA 25, trivial, hM⟩ (fun s a1 w1 oC1 oL1 ω1 hs S1 E1 => ?_)
  have hs := of_decide_eq_true hs
  have l1 := LessS.keepSN (C := cR) [1, 2, 4, 5] ids s
  have S1' := l1.2 _ _ _ _ _ _ S1
  have n1 := l1.1
  rw [hs] at S1' n1
  refine wpIn_seq ?_
  refine defer_ok S1' hd h4 h5 h19 hlen (fun b4 b5 a2 w4 w5 l4 l5 S2 => ?_)
  show (Code.seq vL .ret).wpIn (Fr none) 0 Tryz.prog _ (withD a2 [dfr b4 b5]) w1
  refine wpIn_seq ?_
  rw [vL_is]
  have T2 := (t2 (fun s => decide (s = SE)) (fun _ _ => false)).trans (decide_eq_true rfl)
  refine region_wpD hR T2 S2 (fun s3 a3 w3 oC3 oL3 ω3 S3 E3 h3 => ?_) (fun v u s3 a3 w3 oC3 oL3 ω3 S3 E3 h3 _ => by cases h3)
  have hs3 := of_decide_eq_true h3
  have l3 := LessS.keepSN (C := cR) [4, 5] ids2 s3
  have S3' := l3.2 _ _ _ _ _ _ S3
  have n3 := l3.1
  rw [hs3] at S3' n3
  show Code.ret.wpIn (Fr none) 0 Tryz.prog _ (withD a3 [dfr b4 b5]) w3
  refine wpIn_ret ?_
  show LeavesIn (Fr none) 0 Tryz.prog fn a3.tmps _ [dfr b4 b5] .returning w3
  refine leavesIn_cons (by simp) (fun h => by cases h) (inv_ok b4 b5 w3) (fun _ _ => trivial) ?_
  refine (k_idle _ rfl w3).mono ?_
  rintro e u' w' ⟨rfl, rfl, rfl⟩
  show LeavesIn (Fr none) 0 Tryz.prog fn a3.tmps _ [] .returning _
  obtain ⟨V', u, g1, g2, g3⟩ := resK_sound (fn := fn) S3' (k := fun v => kk v SE.m) (by unfold resK; rw [hr]; exact (t4 kk).trans hk)
  exact ⟨u, g1, .inl ⟨V', u, SE.m, oC3, oL3, ω3, rfl, g3, (n1 ▸ E1).trans (n3 ▸ E3), S3'.ms, g2⟩⟩
/-- A view that gives up. -/
theorem view_pan {N : Nat} {A : List AV} {M : Mem} {SD SE : St} {V : AV} {ids ids2 ids3 : List Nat} {i4 i5 : Nat} {t : TypeId} {x : AV} {M' : Mem} (t1 : ∀ k : St → Bool, runs cR N vps ⟨padL A 25, [], M⟩ (fun s => k (keepSN [1, 2, 4, 5] ids s)) false = k SD) (hd : SD.ds = []) (h4 : lget SD.tmps 4 = .ptr i4 0) (h5 : lget SD.tmps 5 = .ptr i5 0)
    (h19 : setT SD.tmps (some 19) .any = SD.tmps) (hlen : SD.tmps.length = 25)
    (t2 : ∀ (k : St → Bool) (kp : AV → St → Bool), opsK cR (callR cR (run cR N) false) (opsOf vL) (opsOf vL).toList SD (fun s => k (keepSN [4, 5] ids2 s)) (fun v s => kp v (keepSN [4, 5] ids2 s)) false = kp (.iface t x) SE) (hds : SE.ds = [])
    (t3 : ∀ k : Ex → St → Bool, run cR N none none kY ⟨[.ptr i4 0, .ptr i5 0, .any, .any], [], SE.m⟩ (fun e s => k e (keepSN [] ids3 s)) false = k .normal ⟨[.any, .any, .any, .any], [], M'⟩)
    (t4 : ∀ kk : AV → Mem → Bool, resKs cR ⟨SE.tmps, [], M'⟩ [.cell 4 26, .cell 5 27] (fun vs => kk (tupOf vs) M') false = kk V M') (kk : AV → Mem → Bool) (us : Array Value) (hk : kk V M' = true) (hM : MemSim cR w B oC oL ω M) (hA : RepL w (Or2 B oL) oC ω M.nx A us) :
    CallsIn (Fr none) 0 Tryz.prog 5 us w (CallEnd cR w B oC oL ω M.nx kk (fun _ _ => false)) := by
  classical
  obtain ⟨fn, hfn, hbd, hnt, hrs⟩ := fn_is (P := Tryz.prog) (f := 5) (n := 25) (r := 2) (by kernel_rfl)
  have hr := v_res hfn
  refine callsIn_of_wp_defers hfn hbd trivial ?_ rfl
  rw [v_code, hnt]
  have T1 := (t1 (fun s => decide (s = SD))).trans (decide_eq_true rfl)
  refine runs_wp hR vps _ _ w oC oL ω T1 ⟨pad_rep hA 25, trivial, hM⟩ (fun s a1 w1 oC1 oL1 ω1 hs S1 E1 => ?_)
  have hs := of_decide_eq_true hs
  have l1 := LessS.keepSN (C := cR) [1, 2, 4, 5] ids s
  have S1' := l1.2 _ _ _ _ _ _ S1
  have n1 := l1.1
  rw [hs] at S1' n1
  refine wpIn_seq ?_
  refine defer_ok S1' hd h4 h5 h19 hlen (fun b4 b5 a2 w4 w5 l4 l5 S2 => ?_)
  show (Code.seq vL .ret).wpIn (Fr none) 0 Tryz.prog _ (withD a2 [dfr b4 b5]) w1
  refine wpIn_seq ?_
  rw [vL_is]
  have T2 := (t2 (fun _ => false) (fun v s => decide (v = .iface t x ∧ s = SE))).trans (decide_eq_true ⟨rfl, rfl⟩)
  refine region_wpD hR T2 S2 (fun s3 a3 w3 oC3 oL3 ω3 S3 E3 h3 => by cases h3) (fun v u s3 a3 w3 oC3 oL3 ω3 S3 E3 h3 hv => ?_)
  obtain ⟨hv0, hs3⟩ := of_decide_eq_true h3
  have l3 := LessS.keepSN (C := cR) [4, 5] ids2 s3
  have S3' := l3.2 _ _ _ _ _ _ S3
  have n3 := l3.1
  rw [hs3] at S3' n3
  rw [hv0] at hv
  obtain ⟨u0, hu0⟩ : ∃ u0, u = .iface t u0 := by
    cases hv with
    | iface _ _ _ u0 _ => exact ⟨u0, rfl⟩
  show LeavesIn (Fr none) 0 Tryz.prog fn a3.tmps _ [dfr b4 b5] (.panicking [{ v := u, recovered := false }]) w3
  have om : ∀ i b, i < SD.m.nx → ω1 i = some b → i < SE.m.nx ∧ ω3 i = some b := fun i b hi hb => ⟨by have := E3.nxle; omega, (E3.om i hi).trans hb⟩
  refine leavesIn_cons (by simp) (fun h => by cases h) (inv_ok b4 b5 w3) (fun _ _ => trivial) ?_
  refine (k_pan hu0 S3'.ms (om i4 b4 l4 w4).1 (om i5 b5 l5 w5).1 (om i4 b4 l4 w4).2 (om i5 b5 l5 w5).2 t3).mono ?_
  rintro e u' w' ⟨rfl, rfl, oC4, oL4, ω4, E4, M4⟩
  show LeavesIn (Fr none) 0 Tryz.prog fn a3.tmps _ [] .returning _
  have S4 : Sim cR w' B oC4 oL4 ω4 ⟨SE.tmps, [], M'⟩ { tmps := a3.tmps, defers := [] } := ⟨S3'.tm.extR E4, trivial, M4⟩
  obtain ⟨V', u, g1, g2, g3⟩ := resK_sound (fn := fn) S4 (k := fun v => kk v M') (by unfold resK; rw [hr]; exact (t4 kk).trans hk)
  exact ⟨u, g1, .inl ⟨V', u, M', oC4, oL4, ω4, rfl, g3, ((n1 ▸ E1).trans (n3 ▸ E3)).trans E4, M4, g2⟩⟩
/-- A view that is over before it defers. -/
theorem view_dir {N : Nat} {A : List AV} {M : Mem} {SE : St} {V : AV} {ls ids : List Nat} (h : ∀ k : Ex → St → Bool, run cR N none none (fcode Tryz.prog 5) ⟨padL A 25, [], M⟩ (fun e s => k e (keepSH ls ids s)) false = k .ret SE) (hd : SE.ds = [])
    (t4 : ∀ kk : AV → Mem → Bool, resKs cR SE [.cell 4 26, .cell 5 27] (fun vs => kk (tupOf vs) SE.m) false = kk V SE.m) (kk : AV → Mem → Bool) (us : Array Value) (hk : kk V SE.m = true) (hM : MemSim cR w B oC oL ω M) (hA : RepL w (Or2 B oL) oC ω M.nx A us) :
    CallsIn (Fr none) 0 Tryz.prog 5 us w (CallEnd cR w B oC oL ω M.nx kk (fun _ _ => false)) := by
  obtain ⟨fn, hfn, hbd, hnt, hrs⟩ := fn_is (P := Tryz.prog) (f := 5) (n := 25) (r := 2) (by kernel_rfl)
  have hr := v_res hfn
  have I : InpOk cR 5 (fun args m => .br (onP (args = A ∧ m = M)) (.leaf V SE.m) .bad) := by
    refine inp_of_awp hR hfn hbd rfl rfl rfl fun args m kk h1 => ?_
    rw [TrM.ev_br] at h1
    rcases of_cond2 h1 with ⟨hc, h9⟩ | ⟨_, h9⟩
    · obtain ⟨rfl, rfl⟩ := of_onP hc
      rw [hnt]
      exact AWp.inp (awp_run hR h) (.inl rfl) hr hd ((t4 kk).trans h9)
    · cases h9
  refine (I A M kk w B oC oL ω us ?_ hM hA).2
  rw [TrM.ev_br, onP_true ⟨rfl, rfl⟩]
  exact hk
end
end Go.Proofs.YtehfcbppcfpjoaaGreatDoor.aloneNames
