/- The engine, part Ex: what a function answers where nothing of it is printed: its run's one outcome,; The engine, part Ex2: small laws for trees whose paths are proved one by one; The engine, part Ex3: one function's run inside another's: two that answer the same; The engine, part Sw: shapes that say less: what a run comes to, its lists by their elements; Contracts: configs and stages; the variables; Contracts with no law of their own: levels of an index, and how great an object is; Where a place stands: the loops' bodies; Where a place stands: the places of a part, in order, asv they are looked through; Where a place stands: the function, for each number of instances. -/
import Derived.Test.YtjepofcbkojibaaGreatDoorBasW5
import Derived.Test.YtjepofcbkojibaaGreatDoorBasW6
import Derived.Test.YtjepofcbkojibaaGreatDoorProg
import Derived.KernelRfl
set_option maxRecDepth 100000
set_option maxHeartbeats 4000000
set_option linter.unusedVariables false
set_option linter.unusedSimpArgs false
section
namespace Go.Bas
noncomputable section
open Go.RowKit
def AV.elems : AV -> List AV
 | .tup l => l
 | .agg l => l
 | _ => []
def AV.nth : Nat -> List AV -> AV
 | 0, l => l.headD .any
 | j + 1, l => AV.nth j l.tail
def AV.ix (v : AV) (j : Nat) : AV := AV.nth j v.elems
structure Sp where
 has : AV -> Bool
 bd : AV -> AV
 ok : ∀ v, has v = true -> v = bd v
def sI (k : IntKind) : Sp := ⟨fun v => match v with
 | .int k' _ => kindEq k' k
 | _ => false, fun v => .int k v.toI, fun v h => by
  cases v <;> try (cases h)
  rename_i k' n; cases kindEq_eq (show kindEq k' k = true from h)
  rfl⟩
def sB : Sp := ⟨fun v => match v with
 | .bool _ => true
 | _ => false, fun v => .bool v.toB, fun v h => by
  cases v <;> try (cases h)
  rfl⟩
def sN : Sp := ⟨fun v => match v with
 | .nils => true
 | _ => false, fun _ => .nils, fun v h => by
  cases v <;> try (cases h)
  rfl⟩
def hasL : List Sp -> List AV -> Bool
 | [], [] => true
 | s :: r, v :: vs => s.has v && hasL r vs
 | _, _ => false
def bdL : List Sp -> List AV -> List AV
 | [], _ => []
 | s :: r, vs => s.bd (vs.headD .any) :: bdL r vs.tail
theorem hasL_ok : ∀ {l : List Sp} {vs : List AV}, hasL l vs = true -> vs = bdL l vs
 | [], [], _ => rfl
 | [], _ :: _, h => by cases h
 | _ :: _, [], h => by cases h
 | s :: r, v :: vs, h => by
  have h : (s.has v && hasL r vs) = true := h; simp only [Bool.and_eq_true] at h; show v :: vs = s.bd v :: bdL r vs; rw [<- s.ok v h.1, <- hasL_ok h.2]
def sT (l : List Sp) : Sp := ⟨fun v => match v with
 | .tup vs => hasL l vs
 | _ => false, fun v => .tup (bdL l v.elems), fun v h => by
  cases v <;> try (cases h)
  rename_i vs; exact congrArg AV.tup (hasL_ok (show hasL l vs = true from h))⟩
def sG (l : List Sp) : Sp := ⟨fun v => match v with
 | .agg vs => hasL l vs
 | _ => false, fun v => .agg (bdL l v.elems), fun v h => by
  cases v <;> try (cases h)
  rename_i vs; exact congrArg AV.agg (hasL_ok (show hasL l vs = true from h))⟩
theorem runF_nat {Ω Ω' : Type} (g : Ω -> Ω') (C : Cfg) (n : Nat) (f : FuncId) (args : List AV) (k : AV -> Ω) (z : Ω) :
  g (runF C n f args k z) = runF C n f args (fun v => g (k v)) (g z) := by
 unfold runF
 split
 ·split
  ·exact standK_nat (f := g) (run_nat C n) C z _ _ args k
  ·rfl
 ·rfl
def outV (C : Cfg) (n : Nat) (f : FuncId) (args : List AV) : AV := runF C n f args (fun v => v) .any
theorem run_out {C : Cfg} {n : Nat} {f : FuncId} {args : List AV} {P : AV -> Bool} (h : runF C n f args P false = true) :
  P (outV C n f args) = true /\ ∀ k : AV -> Bool, runF C n f args k false = k (outV C n f args) := by
 have key : ∀ {Ω : Type} (k : AV -> Ω) (z : Ω), runF C n f args k z = (match runF C n f args some none with
  | some v => k v
  | none => z) := fun k z => (runF_nat (fun o : Option AV => match o with
  | some v => k v
  | none => z) C n f args some none).symm
 have h1 := key P false
 have h2 := key (fun v => v) AV.any
 cases ho : runF C n f args some none with
 | none => rw [ho] at h1; rw [h] at h1; cases h1
 | some v =>
  rw [ho] at h1 h2; have e : outV C n f args = v := h2; refine ⟨by rw [e, <- h]; exact h1.symm, fun k => ?_⟩
  have h3 := key k false; rw [ho] at h3; rw [e]; exact h3
theorem acalls_out {P : Program} {G : Nat -> Option (List AV)} (h : Base P) {l : List Sum} (hl : ∀ s ∈ l, SumOk P G s) {f : FuncId} {args : List AV} {n : Nat} (s : Sp)
  (hr : runF ⟨P, G, lookS l, fun _ => false, fun _ => none⟩ n f args s.has false = true) : ACalls P G f args (fun v => v = s.bd (outV ⟨P, G, lookS l, fun _ => false, fun _ => none⟩ n f args)) :=
 acalls_eq h hl (n := n) fun k hk => ((run_out hr).2 k).trans (by rw [s.ok _ (run_out hr).1]; exact hk)
def br (b x y : Bool) : Bool := Bool.rec y x b
theorem btt {b x y : Bool} (hx : x = true) (hy : y = true) : br b x y = true := by
 cases b
 ·exact hy
 ·exact hx
theorem btb {b x y : Bool} (hb : b = true) (hx : x = true) : br b x y = true := by
 cases hb
 exact hx
theorem bdt {b x y : Bool} (hx : b = true -> x = true) (hy : b = false -> y = true) : br b x y = true := by
 cases b
 ·exact hy rfl
 ·exact hx rfl
theorem btf {b x y : Bool} (hb : b = false) (hy : y = true) : br b x y = true := by
 cases hb
 exact hy
def ba (b x : Bool) : Bool := Bool.rec false x b
theorem band {b x : Bool} (hb : b = true) (hx : x = true) : ba b x = true := by
 cases hb
 exact hx
end
end Go.Bas
end
section
namespace Go.Bas
open Go.RowKit
theorem andT {b : Bool} (hb : b = true) : (b && true) = true := by
 cases hb
 rfl
theorem cT {α : Type} {b : Bool} {x y z : α} (h : b = true) (k : x = z) : cond b x y = z := by
 cases h
 exact k
theorem cF {α : Type} {b : Bool} {x y z : α} (h : b = false) (k : y = z) : cond b x y = z := by
 cases h
 exact k
end Go.Bas
end
section
namespace Go.Bas
open Go.RowKit
theorem and_left {a b : Bool} (h : (a && b) = true) : a = true := by
 cases a
 ·cases h
 ·rfl
theorem and_right {a b : Bool} (h : (a && b) = true) : b = true := by
 cases a
 ·cases h
 ·exact h
structure Se where
 eq : AV -> AV -> Bool
 ok : ∀ a b, eq a b = true -> b = a
theorem bif_when {b x : Bool} (h : (bif b then x else true) = true) (hb : b = true) : x = true := by
 rw [hb] at h
 exact h
theorem not_t {b : Bool} (h : b = true) : (!b) = false := by rw [h]; rfl
theorem not_f {b : Bool} (h : b = false) : (!b) = true := by rw [h]; rfl
theorem of_not_t {b : Bool} (h : (!b) = true) : b = false := by cases b <;> first | rfl | cases h
theorem of_not_f {b : Bool} (h : (!b) = false) : b = true := by cases b <;> first | rfl | cases h
end Go.Bas
end
section
namespace Go.Bas
open Go.RowKit
def AV.lcX : AV -> List AV
 | .lst c _ => c
 | _ => []
def AV.lnX : AV -> Nat
 | .lst _ n => n
 | _ => 0
structure Sw where
 has : AV -> Bool
 bd : AV -> AV
 ok : ∀ v, has v = true -> Wk v (bd v)
theorem wk_eq {a b : AV} (h : a = b) : Wk a b := h ▸ .refl a
def wI (k : IntKind) : Sw := ⟨(sI k).has, (sI k).bd, fun v h => wk_eq ((sI k).ok v h)⟩
def wB : Sw := ⟨sB.has, sB.bd, fun v h => wk_eq (sB.ok v h)⟩
def wN : Sw := ⟨sN.has, sN.bd, fun v h => wk_eq (sN.ok v h)⟩
def wL : Sw := ⟨fun v => match v with
 | .nils => true
 | .ns => true
 | .es => true
 | .lst _ _ => true
 | _ => false, fun v => .lst v.lcX v.lnX, fun v h => by
  cases v <;> first | exact .nils | exact .ns | exact .es | exact .refl _ | cases h⟩
def hasW : List Sw -> List AV -> Bool
 | [], [] => true
 | s :: r, v :: vs => s.has v && hasW r vs
 | _, _ => false
def bdW : List Sw -> List AV -> List AV
 | [], _ => []
 | s :: r, vs => s.bd (vs.headD .any) :: bdW r vs.tail
theorem hasW_ok : ∀ {l : List Sw} {vs : List AV}, hasW l vs = true -> WkL vs (bdW l vs)
 | [], [], _ => .nil
 | [], _ :: _, h => by cases h
 | _ :: _, [], h => by cases h
 | s :: r, v :: vs, h => by
  have h : (s.has v && hasW r vs) = true := h; simp only [Bool.and_eq_true] at h; exact .cons (s.ok v h.1) (hasW_ok h.2)
def wT (l : List Sw) : Sw := ⟨fun v => match v with
 | .tup vs => hasW l vs
 | _ => false, fun v => .tup (bdW l v.elems), fun v h => by
  cases v <;> try (cases h)
  rename_i vs; exact Wk.ofTup (hasW_ok (show hasW l vs = true from h))⟩
def wG (l : List Sw) : Sw := ⟨fun v => match v with
 | .agg vs => hasW l vs
 | _ => false, fun v => .agg (bdW l v.elems), fun v h => by
  cases v <;> try (cases h)
  rename_i vs; exact Wk.ofAgg (hasW_ok (show hasW l vs = true from h))⟩
theorem acalls_outW {P : Program} {G : Nat -> Option (List AV)} (h : Base P) {l : List Sum} (hl : ∀ s ∈ l, SumOk P G s) {f : FuncId} {args : List AV} {n : Nat} (s : Sw)
  (hr : runF ⟨P, G, lookS l, fun _ => false, fun _ => none⟩ n f args s.has false = true) : ACalls P G f args (fun v => v = s.bd (outV ⟨P, G, lookS l, fun _ => false, fun _ => none⟩ n f args)) :=
 ACalls.wk (acalls_eq h hl (n := n) (r := outV ⟨P, G, lookS l, fun _ => false, fun _ => none⟩ n f args) fun k hk => ((run_out hr).2 k).trans hk) (WkL.refl _) (s.ok _ (run_out hr).1)
end Go.Bas
end
section
namespace Go.Bas.BasZBase
noncomputable section
open Go.RowKit Go.Proofs
def cells0 : List AV := [.bool false, .bool true, .bool true, .bool false, .bool true, .bool true, .bool false, .bool false, .bool false, .bool true, .bool true, .bool false, .bool true, .bool true, .bool false]
def cells1 : List AV := [.int .u8 0, .int .u8 1, .int .u8 1, .int .u8 1, .int .u8 2, .int .u8 2, .int .u8 2, .int .u8 2, .int .u8 2, .int .u8 3, .int .u8 3, .int .u8 3, .int .u8 4, .int .u8 4, .int .u8 4]
def cells2 : List AV := [.int .u8 0, .int .u8 1, .int .u8 56, .int .u8 2, .int .u8 57, .int .u8 49, .int .u8 28, .int .u8 3, .int .u8 61, .int .u8 58, .int .u8 42, .int .u8 50, .int .u8 38, .int .u8 29, .int .u8 17, .int .u8 4, .int .u8 62, .int .u8 47, .int .u8 59, .int .u8 36, .int .u8 45, .int .u8 43, .int .u8 51, .int .u8 22, .int .u8 53, .int .u8 39, .int .u8 33, .int .u8 30, .int .u8 24, .int .u8 18, .int .u8 12, .int .u8 5, .int .u8 63, .int .u8 55, .int .u8 48, .int .u8 27, .int .u8 60, .int .u8 41, .int .u8 37, .int .u8 16, .int .u8 46, .int .u8 35, .int .u8 44, .int .u8 21, .int .u8 52, .int .u8 32, .int .u8 23, .int .u8 11, .int .u8 54, .int .u8 26, .int .u8 40, .int .u8 15, .int .u8 34, .int .u8 20, .int .u8 31, .int .u8 10, .int .u8 25, .int .u8 14, .int .u8 19, .int .u8 9, .int .u8 13, .int .u8 8, .int .u8 7, .int .u8 6]
def cells3 : List AV := [.int .i64 1, .int .i64 2, .int .i64 4, .int .i64 8, .int .i64 16, .int .i64 1, .int .i64 3, .int .i64 9, .int .i64 27, .int .i64 81, .int .i64 1, .int .i64 4, .int .i64 16, .int .i64 64, .int .i64 256]
def gs : List (Nat × List AV) := [(0, cells0), (1, cells1), (2, cells2), (3, cells3)]
abbrev cfg (l : List Sum) : Cfg := ⟨Tryz.prog, gmap gs, lookS l, fun _ => false, fun _ => none⟩
theorem base : Base Tryz.prog := ⟨by kernel_rfl, by kernel_rfl⟩
def S_within : Sum := (135, Fwithin)
theorem t_within (b : Bool) (n l m : Int) (k : AV -> Bool) : runF (cfg []) 300 135 [.bool b, .int .i64 n, .int .i64 l, .int .i64 m] k false = (bif (!b) then (k (AV.bool (decide (n = 0)))) else (bif decide (n >= l) then (k (AV.bool (decide (n <= m)))) else (k (AV.bool Bool.false)))) := by kernel_rfl
theorem s_within : SumOk Tryz.prog (gmap gs) S_within := fun args r hr => by
    simp only [S_within] at hr; unfold Fwithin at hr; split at hr
    · rename_i b n l m
      simp only [Option.some.injEq, Prod.mk.injEq, true_and] at hr; subst hr; refine acalls_eq base sums_nil (n := 300) fun k hk => ?_
      refine (t_within _ _ _ _ _).trans ?_; cases b
      · exact hk
      · cases h : decide (n >= l) <;> simp_all [within]
    · cases hr
def S_check : Sum := (73, onConf fun c => .int .i64 (errC c))
abbrev zbu0 (c : Conf) (k : AV -> Bool) := bif (!decide (c.4 = 2)) then (bif (!decide (c.12 = 0)) then (k (AV.int .i64 40)) else (k (AV.int .i64 0))) else (k (AV.int .i64 0))
abbrev zbu1 (c : Conf) (k : AV -> Bool) := bif (!(within Bool.true c.2 2 4)) then (k (AV.int .i64 40)) else (bif (!(within Bool.true c.3 1 16)) then (k (AV.int .i64 40)) else (bif (!(within (decide (c.4 = 2)) c.5 1 4)) then (k (AV.int .i64 40)) else (bif (!(within (decide (c.1 = 1)) c.6 1 6)) then (k (AV.int .i64 40)) else (bif (!(within Bool.true c.7 1 32)) then (k (AV.int .i64 40)) else (bif (!(within (decide (c.1 = 2)) c.8 2 4)) then (k (AV.int .i64 40)) else (bif (!(within (decide (c.1 = 2)) c.10 1 8)) then (k (AV.int .i64 40)) else (bif (!(within Bool.true c.9 1 16)) then (k (AV.int .i64 40)) else (bif decide (c.11 < 131072) then (k (AV.int .i64 40)) else (bif decide (c.11 > 4611686018427387904) then (k (AV.int .i64 40)) else (bif decide (c.4 = 2) then (bif decide (c.12 < 1) then (k (AV.int .i64 40)) else (bif decide (c.12 > 4611686018427387904) then (k (AV.int .i64 40)) else (zbu0 c k))) else (zbu0 c k)))))))))))
theorem t_check (c : Conf) (k : AV -> Bool) : runF (cfg [S_within]) 300 73 [c.av] k false = (bif decide (c.1 < 1) then (k (AV.int .i64 40)) else (bif decide (c.1 > 4) then (k (AV.int .i64 40)) else (bif (!decide (c.4 = 1)) then (bif (!decide (c.4 = 2)) then (k (AV.int .i64 40)) else (zbu1 c k)) else (zbu1 c k)))) := by kernel_rfl
theorem s_check : SumOk Tryz.prog (gmap gs) S_check := onConf_sum fun c => acalls_eq base (sums_cons s_within sums_nil) (n := 300) fun k hk => by
    rw [t_check]; have h1 : c.ok = true -> k (.int .i64 0) = true := fun h => by rw [errC, h] at hk; exact hk
    have h2 : c.ok = false -> k (.int .i64 40) = true := fun h => by rw [errC, h] at hk; exact hk
    clear hk
    repeat' (first | refine condI (fun h => ?_) (fun h => ?_) | refine andI ?_ ?_)
    all_goals first
      | (refine h1 (decide_eq_true ?_)
         clear h1 h2; simp only [within_true, within_false, decide_eq_true_eq, decide_eq_false_iff_not, Bool.not_eq_true', Bool.not_eq_false', true_and, false_and, or_false, false_or, and_true, and_false, reduceCtorEq, ge_iff_le, gt_iff_lt] at *; unfold Conf.OkP; omega)
      | (refine h2 (decide_eq_false ?_)
         clear h1 h2; simp only [within_true, within_false, decide_eq_true_eq, decide_eq_false_iff_not, Bool.not_eq_true', Bool.not_eq_false', true_and, false_and, or_false, false_or, and_true, and_false, reduceCtorEq, ge_iff_le, gt_iff_lt] at *; unfold Conf.OkP; omega)
def S_rest : Sum := (184, onConf fun c => .int .i64 (restS c))
theorem t_rest (c : Conf) (k : AV -> Bool) : runF (cfg []) 300 184 [c.av] k false = (k (AV.int .i64 (IntKind.wrap .i64 (c.2 + 5)))) := by kernel_rfl
theorem s_rest : SumOk Tryz.prog (gmap gs) S_rest := onConf_sum fun c => acalls_eq base sums_nil (n := 300) fun k hk => by
    rw [t_rest]; exact hk
def S_last : Sum := (168, onConf fun c => .int .u64 (lastS c))
theorem t_last (c : Conf) (k : AV -> Bool) : runF (cfg []) 300 168 [c.av] k false = (k (AV.int .u64 (IntKind.wrap .u64 ((IntKind.wrap .u64 (Int.tdiv c.11 65536)) - 1)))) := by kernel_rfl
theorem s_last : SumOk Tryz.prog (gmap gs) S_last := onConf_sum fun c => acalls_eq base sums_nil (n := 300) fun k hk => by
    rw [t_last]; exact hk
def S_may : Sum := (224, onConf2 stgOf (fun c _ => decide (0 <= c.thr)) fun c s => .bool (mayP c s))
theorem t_may (c : Conf) (s : Stg) (k : AV -> Bool) : runF (cfg [S_rest]) 300 224 [c.av, s.av] k false = (bif decide (s.2 < 1) then (k (AV.bool Bool.false)) else (bif decide (s.2 > (restS c)) then (k (AV.bool Bool.false)) else (bif decide (s.1 >= (IntKind.wrap .u64 (Int.tdiv c.11 65536))) then (k (AV.bool Bool.false)) else (bif decide (c.3 < 0) then Bool.false else (bif (!decide ((ishr .u64 s.3 c.3) = 0)) then (k (AV.bool Bool.false)) else (bif decide (s.4 < 0) then (k (AV.bool Bool.false)) else (bif decide (s.4 >= c.3) then (k (AV.bool Bool.false)) else (bif decide (s.1 = 0) then (k (AV.bool (decide (s.2 = (restS c))))) else (k (AV.bool (!decide (s.3 = 0)))))))))))) := by kernel_rfl
theorem s_may : SumOk Tryz.prog (gmap gs) S_may := onConf2_sum (fun _ _ => stgOf_some) fun c s hp => acalls_eq base (sums_cons s_rest sums_nil) (n := 300) fun k hk => by
    rw [t_may]
    repeat' (first | refine condI (fun h => ?_) (fun h => ?_) | refine andI ?_ ?_)
    all_goals first
      | (refine (congrArg k (congrArg AV.bool ?_)).trans hk
         clear hk; rw [Bool.eq_iff_iff]; simp only [mayP_true, batches, decide_eq_true_eq, decide_eq_false_iff_not, Bool.not_eq_true', Bool.not_eq_false', Bool.false_eq_true, false_iff, iff_false, true_and, false_and, or_false, false_or, and_true, and_false, reduceCtorEq, ge_iff_le, gt_iff_lt] at *
         try unfold Conf.OkP
         omega)
      | (clear hk
         simp only [mayP_true, batches, decide_eq_true_eq, decide_eq_false_iff_not, Bool.not_eq_true', Bool.not_eq_false'] at *; omega)
def S_chk : Sum := (156, onConf2 stgOf (fun _ _ => true) fun c s => .int .i64 (chk mayP c s))
theorem t_chk (c : Conf) (s : Stg) (k : AV -> Bool) : runF (cfg [S_check, S_may]) 300 156 [c.av, s.av] k false = (bif (!decide ((errC c) = 0)) then (k (AV.int .i64 (errC c))) else (decide (0 <= c.3) && (bif (!(mayP c s)) then (k (AV.int .i64 2)) else (k (AV.int .i64 0))))) := by kernel_rfl
theorem s_chk : SumOk Tryz.prog (gmap gs) S_chk := onConf2_sum (fun _ _ => stgOf_some) fun c s hp => acalls_eq base (sums_cons s_check (sums_cons s_may sums_nil)) (n := 300) fun k hk => by
    rw [t_chk]; unfold chk at hk; unfold errC; cases ho : c.ok with
    | false => rw [ho] at hk; exact hk
    | true =>
      rw [ho] at hk; have : 0 <= c.thr := by have := of_decide_eq_true ho; simp only [Conf.OkP] at this; omega
      cases hm : mayP c s <;> rw [hm] at hk <;> simpa [this] using hk
end
end Go.Bas.BasZBase
end
section
namespace Go.Bas.BasZRank
noncomputable section
open Go.RowKit Go.Proofs
open BasZBase
def T_width (n : Int) (l : Int) (w : Int) : Tr := (.br (decide (n >= l)) (.br (decide (n <= 32)) (.br (decide (w >= 2)) (.leaf [.bool (decide (w <= 4))]) (.leaf [.bool Bool.false])) (.leaf [.bool Bool.false])) (.leaf [.bool Bool.false]))
def ks_width : List CK := [.b]
def sh_width (l : List AV) : AV := lget l 0
def f_width_0 (n : Int) (l : Int) (w : Int) : Bool := (T_width n l w).bool 0
def o_width (n : Int) (l : Int) (w : Int) : AV := .bool (f_width_0 n l w)
def S_width : Sum := (278, on3 (rI .i64) (rI .i64) (rI .i64) (fun n l w => true) (fun n l w => o_width n l w))
theorem t_width (n : Int) (l : Int) (w : Int) (k : AV -> Bool) : runF (cfg []) 300 278 [.int .i64 n, .int .i64 l, .int .i64 w] k false = (T_width n l w).ev (fun l => k (sh_width l)) false := by kernel_rfl
theorem fits_width (n : Int) (l : Int) (w : Int) : (T_width n l w).fits ks_width = true := by kernel_rfl
theorem s_width : SumOk Tryz.prog (gmap gs) S_width := on3_sum fun n l w hp => acalls_eq base sums_nil (n := 300) fun k hk => (t_width n l w k).trans ((Tr.merge (fits_width n l w) (Tr.ok_of_total (by kernel_rfl))).trans hk)
def T_up (n : Int) (w : Int) (h : Int) : Tr := (.br (inside (IntKind.wrap .i64 (w - 2)) 3) (.br (inside h 5) (.br (Nat.ble (((0 + ((Int.toNat (IntKind.wrap .i64 (w - 2))) * 5)) + ((Int.toNat h) * 1)) + 1) 15) (.br (AV.isI .i64 (lget [.int .i64 1, .int .i64 2, .int .i64 4, .int .i64 8, .int .i64 16, .int .i64 1, .int .i64 3, .int .i64 9, .int .i64 27, .int .i64 81, .int .i64 1, .int .i64 4, .int .i64 16, .int .i64 64, .int .i64 256] ((0 + ((Int.toNat (IntKind.wrap .i64 (w - 2))) * 5)) + ((Int.toNat h) * 1)))) (.br (decide ((AV.toI (lget [.int .i64 1, .int .i64 2, .int .i64 4, .int .i64 8, .int .i64 16, .int .i64 1, .int .i64 3, .int .i64 9, .int .i64 27, .int .i64 81, .int .i64 1, .int .i64 4, .int .i64 16, .int .i64 64, .int .i64 256] ((0 + ((Int.toNat (IntKind.wrap .i64 (w - 2))) * 5)) + ((Int.toNat h) * 1)))) = 0)) .bad (.leaf [.int .i64 (IntKind.wrap .i64 (Int.tdiv (IntKind.wrap .i64 ((IntKind.wrap .i64 (n + (AV.toI (lget [.int .i64 1, .int .i64 2, .int .i64 4, .int .i64 8, .int .i64 16, .int .i64 1, .int .i64 3, .int .i64 9, .int .i64 27, .int .i64 81, .int .i64 1, .int .i64 4, .int .i64 16, .int .i64 64, .int .i64 256] ((0 + ((Int.toNat (IntKind.wrap .i64 (w - 2))) * 5)) + ((Int.toNat h) * 1)))))) - 1)) (AV.toI (lget [.int .i64 1, .int .i64 2, .int .i64 4, .int .i64 8, .int .i64 16, .int .i64 1, .int .i64 3, .int .i64 9, .int .i64 27, .int .i64 81, .int .i64 1, .int .i64 4, .int .i64 16, .int .i64 64, .int .i64 256] ((0 + ((Int.toNat (IntKind.wrap .i64 (w - 2))) * 5)) + ((Int.toNat h) * 1))))))])) .bad) .bad) .bad) .bad)
def ks_up : List CK := [.i .i64]
def sh_up (l : List AV) : AV := lget l 0
def f_up_0 (n : Int) (w : Int) (h : Int) : Int := (T_up n w h).int 0
def o_up (n : Int) (w : Int) (h : Int) : AV := .int .i64 (f_up_0 n w h)
def ok_up (n : Int) (w : Int) (h : Int) : Bool := (T_up n w h).ok
def S_up : Sum := (279, on3 (rI .i64) (rI .i64) (rI .i64) (fun n w h => ok_up n w h) (fun n w h => o_up n w h))
theorem t_up (n : Int) (w : Int) (h : Int) (k : AV -> Bool) : runF (cfg []) 300 279 [.int .i64 n, .int .i64 w, .int .i64 h] k false = (T_up n w h).ev (fun l => k (sh_up l)) false := by kernel_rfl
theorem fits_up (n : Int) (w : Int) (h : Int) : (T_up n w h).fits ks_up = true := by kernel_rfl
theorem s_up : SumOk Tryz.prog (gmap gs) S_up := on3_sum fun n w h hp => acalls_eq base sums_nil (n := 300) fun k hk => (t_up n w h k).trans ((Tr.merge (fits_up n w h) hp).trans hk)
abbrev zbv0 : Tr := .leaf [.int .i64 0, .int .i64 2]
def T_count (n : Int) (w : Int) (h : Int) : Tr := (.br (!(f_width_0 n 0 w)) zbv0 (.br (decide (h < 0)) zbv0 (.br (decide (h > 4)) zbv0 (.br (ok_up n w h) (.leaf [.int .i64 (f_up_0 n w h), .int .i64 0]) .bad))))
def ks_count : List CK := [.i .i64, .i .i64]
def sh_count (l : List AV) : AV := .tup [lget l 0, lget l 1]
section
variable (n : Int) (w : Int)
def f_count_0 (h : Int) : Int := (T_count n w h).int 0
def f_count_1 (h : Int) : Int := (T_count n w h).int 1
def o_count (h : Int) : AV := .tup [.int .i64 (f_count_0 n w h), .int .i64 (f_count_1 n w h)]
def ok_count (h : Int) : Bool := (T_count n w h).ok
end
def S_count : Sum := (331, on3 (rI .i64) (rI .i64) (rI .i64) (fun n w h => ok_count n w h) (fun n w h => o_count n w h))
theorem t_count (n : Int) (w : Int) (h : Int) (k : AV -> Bool) : runF (cfg [S_width, S_up]) 300 331 [.int .i64 n, .int .i64 w, .int .i64 h] k false = (T_count n w h).ev (fun l => k (sh_count l)) false := by kernel_rfl
theorem fits_count (n : Int) (w : Int) (h : Int) : (T_count n w h).fits ks_count = true := by kernel_rfl
theorem s_count : SumOk Tryz.prog (gmap gs) S_count := on3_sum fun n w h hp => acalls_eq base (sums_cons s_width (sums_cons s_up sums_nil)) (n := 300) fun k hk => (t_count n w h k).trans ((Tr.merge (fits_count n w h) hp).trans hk)
def T_last (n : Int) (w : Int) (h : Int) (i : Int) : Tr := (.br (!(f_width_0 n 1 w)) zbv0 (.br (decide (h < 1)) zbv0 (.br (decide (h > 4)) zbv0 (.br (decide (i < 0)) zbv0 (.br (ok_up n w h) (.br (decide (i >= (f_up_0 n w h))) zbv0 (.br (ok_up n w (IntKind.wrap .i64 (h - 1))) (.leaf [.int .i64 (IntKind.wrap .i64 ((imin (IntKind.wrap .i64 ((IntKind.wrap .i64 (i + 1)) * w)) (f_up_0 n w (IntKind.wrap .i64 (h - 1)))) - 1)), .int .i64 0]) .bad)) .bad)))))
def ks_last : List CK := [.i .i64, .i .i64]
def sh_last (l : List AV) : AV := .tup [lget l 0, lget l 1]
section
variable (n : Int) (w : Int)
def f_last_0 (h : Int) (i : Int) : Int := (T_last n w h i).int 0
def f_last_1 (h : Int) (i : Int) : Int := (T_last n w h i).int 1
def o_last (h : Int) (i : Int) : AV := .tup [.int .i64 (f_last_0 n w h i), .int .i64 (f_last_1 n w h i)]
def ok_last (h : Int) (i : Int) : Bool := (T_last n w h i).ok
end
def S_last : Sum := (313, on4 (rI .i64) (rI .i64) (rI .i64) (rI .i64) (fun n w h i => ok_last n w h i) (fun n w h i => o_last n w h i))
theorem t_last (n : Int) (w : Int) (h : Int) (i : Int) (k : AV -> Bool) : runF (cfg [S_width, S_up]) 300 313 [.int .i64 n, .int .i64 w, .int .i64 h, .int .i64 i] k false = (T_last n w h i).ev (fun l => k (sh_last l)) false := by kernel_rfl
theorem fits_last (n : Int) (w : Int) (h : Int) (i : Int) : (T_last n w h i).fits ks_last = true := by kernel_rfl
theorem s_last : SumOk Tryz.prog (gmap gs) S_last := on4_sum fun n w h i hp => acalls_eq base (sums_cons s_width (sums_cons s_up sums_nil)) (n := 300) fun k hk => (t_last n w h i k).trans ((Tr.merge (fits_last n w h i) hp).trans hk)
abbrev zbv1 (c : Conf) := IntKind.wrap .i64 ((IntKind.wrap .i64 (1 + (f_up_0 c.7 c.8 0))) + (f_up_0 c.7 c.8 1))
abbrev zbv2 (c : Conf) := IntKind.wrap .i64 ((IntKind.wrap .i64 ((zbv1 c) + (f_up_0 c.7 c.8 2))) + (f_up_0 c.7 c.8 3))
def T_size (c : Conf) : Tr := (.br (decide (c.1 = 1)) (.br (decide (c.6 < 0)) .bad (.leaf [.int .i64 (ishl .i64 2 c.6)])) (.br (decide (c.1 = 2)) (.br (!(f_width_0 c.7 1 c.8)) (.leaf [.int .i64 1]) (.br (ok_up c.7 c.8 0) (.br (decide ((f_up_0 c.7 c.8 0) <= c.8)) (.leaf [.int .i64 (IntKind.wrap .i64 (1 + (f_up_0 c.7 c.8 0)))]) (.br (ok_up c.7 c.8 1) (.br (decide ((f_up_0 c.7 c.8 1) <= c.8)) (.leaf [.int .i64 (zbv1 c)]) (.br (ok_up c.7 c.8 2) (.br (decide ((f_up_0 c.7 c.8 2) <= c.8)) (.leaf [.int .i64 (IntKind.wrap .i64 ((zbv1 c) + (f_up_0 c.7 c.8 2)))]) (.br (ok_up c.7 c.8 3) (.br (decide ((f_up_0 c.7 c.8 3) <= c.8)) (.leaf [.int .i64 (zbv2 c)]) (.br (ok_up c.7 c.8 4) (.br (decide ((f_up_0 c.7 c.8 4) <= c.8)) (.leaf [.int .i64 (IntKind.wrap .i64 ((zbv2 c) + (f_up_0 c.7 c.8 4)))]) (.leaf [.int .i64 (IntKind.wrap .i64 ((zbv2 c) + (f_up_0 c.7 c.8 4)))])) .bad)) .bad)) .bad)) .bad)) .bad)) (.leaf [.int .i64 c.7])))
def ks_size : List CK := [.i .i64]
def sh_size (l : List AV) : AV := lget l 0
def f_size_0 (c : Conf) : Int := (T_size c).int 0
def o_size (c : Conf) : AV := .int .i64 (f_size_0 c)
def ok_size (c : Conf) : Bool := (T_size c).ok
def S_size : Sum := (143, on1 rConf (fun c => ok_size c) (fun c => o_size c))
theorem t_size (c : Conf) (k : AV -> Bool) : runF (cfg [S_width, S_up]) 300 143 [c.av] k false = (T_size c).ev (fun l => k (sh_size l)) false := by kernel_rfl
theorem fits_size (c : Conf) : (T_size c).fits ks_size = true := by kernel_rfl
theorem s_size : SumOk Tryz.prog (gmap gs) S_size := on1_sum fun c hp => acalls_eq base (sums_cons s_width (sums_cons s_up sums_nil)) (n := 300) fun k hk => (t_size c k).trans ((Tr.merge (fits_size c) hp).trans hk)
end
end Go.Bas.BasZRank
end
section
namespace Go.Bas.BasZAt
noncomputable section
open Go.RowKit Go.Proofs
open BasZBase
def onB (P : Prop) : Bool := @decide P (Classical.propDecidable _)
theorem onB_true {P : Prop} : onB P = true ↔ P := by unfold onB; exact @decide_eq_true_iff P (Classical.propDecidable _)
def atA : Code := rfAssign (loopN (fcode Tryz.prog 40) 0)
def atB : Code := loopAt (fcode Tryz.prog 40) [0]
def T0 (c : Conf) (p : Plc) : List AV := [c.av, p.av, .ptr 0 0, .ptr 1 0, .ptr 2 0, .ptr 3 0, .int .i64 (errC c), .ptr 4 0, .tup [], c.av, .int .i64 (errC c), .int .i64 (errC c), .bool false, .tup [], c.av, .fn (.func 141) [] [.ptr 5 0], .tup [], .tup [], .tup [], .tup [], .tup [], .tup [], .tup []]
def I_in (kd : Int) (fr : Int) (as_ : Int) (bs : Int) (a : Int) (bs2 : Int) (b : Int) (n : Int) (r : Int) (pp : Int) (pa : Int) (pb : Int) (cc : List AV) (c5 : List AV) (T : List AV) (asg : Code) (bdy : Code) : St := ⟨fill 32 [(0, .int .u8 kd), (1, .int .i64 fr), (2, .int .i64 as_), (3, .int .i64 bs), (4, .ptr 8 0), (9, .bool false), (10, .int .i64 a), (20, .int .i64 bs2), (21, .int .i64 b)], [], ⟨[(8, ⟨[.yld 7], 259, false⟩), (5, ⟨c5, 24, true⟩), (4, ⟨[.int .i64 n], 3, true⟩), (3, ⟨[.int .i64 0], 30, true⟩), (2, ⟨[.int .i64 r], 3, true⟩), (1, ⟨[.int .u8 pp, .int .i64 pa, .int .i64 pb], 107, true⟩), (0, ⟨cc, 24, true⟩)], 9, [(7, .lop 0 none T [16] asg bdy 6), (6, .dfb)]⟩⟩
def P_in {Ω : Type} (st : St) (g : (Int) -> (Int) -> (Int) -> (Int) -> (Int) -> (Int) -> (Int) -> (Int) -> (Int) -> (Int) -> (Int) -> (Int) -> (List AV) -> (List AV) -> (List AV) -> (Code) -> (Code) -> Ω) (z : Ω) : Ω := match lget st.tmps 0, lget st.tmps 1, lget st.tmps 2, lget st.tmps 3, lget st.tmps 4, lget st.tmps 9, lget st.tmps 10, lget st.tmps 20, lget st.tmps 21, st.ds, st.m with
 | .int .u8 kd, .int .i64 fr, .int .i64 as_, .int .i64 bs, .ptr z1 z2, .bool false, .int .i64 a, .int .i64 bs2, .int .i64 b, [], ⟨[(z3, ⟨[.yld z4], z5, false⟩), (z6, ⟨c5, z7, true⟩), (z8, ⟨[.int .i64 n], z9, true⟩), (z10, ⟨[.int .i64 z11], z12, true⟩), (z13, ⟨[.int .i64 r], z14, true⟩), (z15, ⟨[.int .u8 pp, .int .i64 pa, .int .i64 pb], z16, true⟩), (z17, ⟨cc, z18, true⟩)], z19, [(z20, .lop z21 none T [z22] asg bdy z23), (z24, .dfb)]⟩ => cond (Nat.beq st.tmps.length 32 && (Nat.beq z1 8 && (Nat.beq z2 0 && (Nat.beq z3 8 && (Nat.beq z4 7 && (Nat.beq z5 259 && (Nat.beq z6 5 && (Nat.beq z7 24 && (Nat.beq z8 4 && (Nat.beq z9 3 && (Nat.beq z10 3 && (decide (z11 = 0) && (Nat.beq z12 30 && (Nat.beq z13 2 && (Nat.beq z14 3 && (Nat.beq z15 1 && (Nat.beq z16 107 && (Nat.beq z17 0 && (Nat.beq z18 24 && (Nat.beq z19 9 && (Nat.beq z20 7 && (Nat.beq z21 0 && (Nat.beq z22 16 && (Nat.beq z23 6 && (Nat.beq z24 6 && true))))))))))))))))))))))))) (g kd fr as_ bs a bs2 b n r pp pa pb cc c5 T asg bdy) z
 | _, _, _, _, _, _, _, _, _, _, _ => z
theorem P_in_okP {C : Cfg} {c : Code} {G : (Int) -> (Int) -> (Int) -> (Int) -> (Int) -> (Int) -> (Int) -> (Int) -> (Int) -> (Int) -> (Int) -> (Int) -> (List AV) -> (List AV) -> (List AV) -> (Code) -> (Code) -> (Ex -> St -> Bool) -> Bool} (hG : ∀ kd fr as_ bs a bs2 b n r pp pa pb cc c5 T asg bdy k, G kd fr as_ bs a bs2 b n r pp pa pb cc c5 T asg bdy k = true -> AWp C none c (I_in kd fr as_ bs a bs2 b n r pp pa pb cc c5 T asg bdy) (fun e s => k e s = true)) : ∀ st k, P_in st (fun kd fr as_ bs a bs2 b n r pp pa pb cc c5 T asg bdy => G kd fr as_ bs a bs2 b n r pp pa pb cc c5 T asg bdy k) false = true -> AWp C none c st (fun e s => k e s = true) := by
 intro st k h
 unfold P_in at h
 split at h
 ·rename_i q0 q1 q2 q3 q4 q5 q6 q7 q8 hd hm
  rcases of_cond2 h with ⟨hb, h2⟩ | ⟨_, h2⟩
  ·simp only [Bool.and_eq_true, and_true, decide_eq_true_eq, beq_iff] at hb
   obtain ⟨hb0, hb1, hb2, hb3, hb4, hb5, hb6, hb7, hb8, hb9, hb10, hb11, hb12, hb13, hb14, hb15, hb16, hb17, hb18, hb19, hb20, hb21, hb22, hb23, hb24⟩ := hb; subst hb1 hb2 hb3 hb4 hb5 hb6 hb7 hb8 hb9 hb10 hb11 hb12 hb13 hb14 hb15 hb16 hb17 hb18 hb19 hb20 hb21 hb22 hb23 hb24
   exact AWp.less (LessS.fill hb0 (AllL_cons q0 (AllL_cons q1 (AllL_cons q2 (AllL_cons q3 (AllL_cons q4 (AllL_cons q5 (AllL_cons q6 (AllL_cons q7 (AllL_cons q8 AllL_nil))))))))) hd hm) (hG _ _ _ _ _ _ _ _ _ _ _ _ _ _ _ _ _ _ h2)
  ·cases h2
 ·cases h
def I_out (kd : Int) (fr : Int) (as_ : Int) (bs : Int) (a : Int) (n : Int) (r : Int) (pp : Int) (pa : Int) (pb : Int) (cc : List AV) (c5 : List AV) (T : List AV) (asg : Code) (bdy : Code) : St := ⟨fill 32 [(0, .int .u8 kd), (1, .int .i64 fr), (2, .int .i64 as_), (3, .int .i64 bs), (4, .ptr 8 0), (9, .bool false), (10, .int .i64 a)], [], ⟨[(8, ⟨[.yld 7], 259, false⟩), (5, ⟨c5, 24, true⟩), (4, ⟨[.int .i64 n], 3, true⟩), (3, ⟨[.int .i64 0], 30, true⟩), (2, ⟨[.int .i64 r], 3, true⟩), (1, ⟨[.int .u8 pp, .int .i64 pa, .int .i64 pb], 107, true⟩), (0, ⟨cc, 24, true⟩)], 9, [(7, .lop 0 none T [16] asg bdy 6), (6, .dfb)]⟩⟩
def P_out {Ω : Type} (st : St) (g : (Int) -> (Int) -> (Int) -> (Int) -> (Int) -> (Int) -> (Int) -> (Int) -> (Int) -> (Int) -> (List AV) -> (List AV) -> (List AV) -> (Code) -> (Code) -> Ω) (z : Ω) : Ω := match lget st.tmps 0, lget st.tmps 1, lget st.tmps 2, lget st.tmps 3, lget st.tmps 4, lget st.tmps 9, lget st.tmps 10, st.ds, st.m with
 | .int .u8 kd, .int .i64 fr, .int .i64 as_, .int .i64 bs, .ptr z1 z2, .bool false, .int .i64 a, [], ⟨[(z3, ⟨[.yld z4], z5, false⟩), (z6, ⟨c5, z7, true⟩), (z8, ⟨[.int .i64 n], z9, true⟩), (z10, ⟨[.int .i64 z11], z12, true⟩), (z13, ⟨[.int .i64 r], z14, true⟩), (z15, ⟨[.int .u8 pp, .int .i64 pa, .int .i64 pb], z16, true⟩), (z17, ⟨cc, z18, true⟩)], z19, [(z20, .lop z21 none T [z22] asg bdy z23), (z24, .dfb)]⟩ => cond (Nat.beq st.tmps.length 32 && (Nat.beq z1 8 && (Nat.beq z2 0 && (Nat.beq z3 8 && (Nat.beq z4 7 && (Nat.beq z5 259 && (Nat.beq z6 5 && (Nat.beq z7 24 && (Nat.beq z8 4 && (Nat.beq z9 3 && (Nat.beq z10 3 && (decide (z11 = 0) && (Nat.beq z12 30 && (Nat.beq z13 2 && (Nat.beq z14 3 && (Nat.beq z15 1 && (Nat.beq z16 107 && (Nat.beq z17 0 && (Nat.beq z18 24 && (Nat.beq z19 9 && (Nat.beq z20 7 && (Nat.beq z21 0 && (Nat.beq z22 16 && (Nat.beq z23 6 && (Nat.beq z24 6 && true))))))))))))))))))))))))) (g kd fr as_ bs a n r pp pa pb cc c5 T asg bdy) z
 | _, _, _, _, _, _, _, _, _ => z
theorem P_out_okP {C : Cfg} {c : Code} {G : (Int) -> (Int) -> (Int) -> (Int) -> (Int) -> (Int) -> (Int) -> (Int) -> (Int) -> (Int) -> (List AV) -> (List AV) -> (List AV) -> (Code) -> (Code) -> (Ex -> St -> Bool) -> Bool} (hG : ∀ kd fr as_ bs a n r pp pa pb cc c5 T asg bdy k, G kd fr as_ bs a n r pp pa pb cc c5 T asg bdy k = true -> AWp C none c (I_out kd fr as_ bs a n r pp pa pb cc c5 T asg bdy) (fun e s => k e s = true)) : ∀ st k, P_out st (fun kd fr as_ bs a n r pp pa pb cc c5 T asg bdy => G kd fr as_ bs a n r pp pa pb cc c5 T asg bdy k) false = true -> AWp C none c st (fun e s => k e s = true) := by
 intro st k h
 unfold P_out at h
 split at h
 ·rename_i q0 q1 q2 q3 q4 q5 q6 hd hm
  rcases of_cond2 h with ⟨hb, h2⟩ | ⟨_, h2⟩
  ·simp only [Bool.and_eq_true, and_true, decide_eq_true_eq, beq_iff] at hb
   obtain ⟨hb0, hb1, hb2, hb3, hb4, hb5, hb6, hb7, hb8, hb9, hb10, hb11, hb12, hb13, hb14, hb15, hb16, hb17, hb18, hb19, hb20, hb21, hb22, hb23, hb24⟩ := hb; subst hb1 hb2 hb3 hb4 hb5 hb6 hb7 hb8 hb9 hb10 hb11 hb12 hb13 hb14 hb15 hb16 hb17 hb18 hb19 hb20 hb21 hb22 hb23 hb24
   exact AWp.less (LessS.fill hb0 (AllL_cons q0 (AllL_cons q1 (AllL_cons q2 (AllL_cons q3 (AllL_cons q4 (AllL_cons q5 (AllL_cons q6 AllL_nil))))))) hd hm) (hG _ _ _ _ _ _ _ _ _ _ _ _ _ _ _ _ h2)
  ·cases h2
 ·cases h
def atM (c : Conf) (p : Plc) (n r : Int) (s : Nat) (pend : Option Ex) : Mem := ⟨[(8, ⟨[.yld 7], 259, false⟩), (5, ⟨c.cells, 24, true⟩), (4, ⟨[.int .i64 n], 3, true⟩), (3, ⟨[.int .i64 0], 30, true⟩), (2, ⟨[.int .i64 r], 3, true⟩), (1, ⟨[.int .u8 p.part, .int .i64 p.a, .int .i64 p.b], 107, true⟩), (0, ⟨c.cells, 24, true⟩)], 9, [(7, .lop s pend (T0 c p) [16] atA atB 6), (6, .dfb)]⟩
def eSt (kd fr as_ bs a : Int) (t9 : Bool) (m : Mem) : St := ⟨fill 32 [(0, .int .u8 kd), (1, .int .i64 fr), (2, .int .i64 as_), (3, .int .i64 bs), (4, .ptr 8 0), (9, .bool t9), (10, .int .i64 a)], [], m⟩
def InOk (c : Conf) (p : Plc) (bs bs2 b n : Int) (c5 T : List AV) (asg bdy : Code) : Prop := bs2 = bs /\ b = 0 /\ 0 <= bs /\ bs <= 1000 /\ 0 <= n /\ n <= 1000000 /\ c5 = c.cells /\ T = T0 c p /\ asg = atA /\ bdy = atB
def OutOk (c : Conf) (p : Plc) (fr as_ bs a n : Int) (c5 T : List AV) (asg bdy : Code) : Prop := a = fr /\ 0 <= fr /\ fr <= 1000 /\ 0 <= as_ /\ as_ <= 1000 /\ 0 <= bs /\ bs <= 1000 /\ 0 <= n /\ n + as_ * bs <= 1000000 /\ c5 = c.cells /\ T = T0 c p /\ asg = atA /\ bdy = atB
def Found (kd fr as_ bs : Int) (p : Plc) : Prop := kd = p.part /\ fr <= p.a /\ p.a < fr + as_ /\ 0 <= p.b /\ p.b < bs
def G_in (kd : Int) (fr : Int) (as_ : Int) (bs : Int) (a : Int) (bs2 : Int) (b : Int) (n : Int) (r : Int) (pp : Int) (pa : Int) (pb : Int) (cc : List AV) (c5 : List AV) (T : List AV) (asg : Code) (bdy : Code) (k : Ex -> St -> Bool) : Bool := match confOf (.agg cc) with
 | some c => cond (onB (InOk c ⟨pp, pa, pb⟩ bs bs2 b n c5 T asg bdy)) (cond (onB (Found kd a 1 bs ⟨pp, pa, pb⟩)) (k .ret (eSt kd fr as_ bs a false (atM c ⟨pp, pa, pb⟩ (n + pb) (n + pb) 2 (some .ret)))) (k (.exit 2) (eSt kd fr as_ bs a false (atM c ⟨pp, pa, pb⟩ (n + bs) r 0 none)))) false
 | none => false
def F_in : LF := fun st k => P_in st (fun kd fr as_ bs a bs2 b n r pp pa pb cc c5 T asg bdy => G_in kd fr as_ bs a bs2 b n r pp pa pb cc c5 T asg bdy k) false
def eS0 (t9 : Bool) (m : Mem) : St := ⟨fill 32 [(9, .bool t9)], [], m⟩
def G_out (kd : Int) (fr : Int) (as_ : Int) (bs : Int) (a : Int) (n : Int) (r : Int) (pp : Int) (pa : Int) (pb : Int) (cc : List AV) (c5 : List AV) (T : List AV) (asg : Code) (bdy : Code) (k : Ex -> St -> Bool) : Bool := match confOf (.agg cc) with
 | some c => cond (onB (OutOk c ⟨pp, pa, pb⟩ fr as_ bs a n c5 T asg bdy)) (cond (onB (Found kd fr as_ bs ⟨pp, pa, pb⟩)) (k .ret (eS0 false (atM c ⟨pp, pa, pb⟩ (n + (pa - fr) * bs + pb) (n + (pa - fr) * bs + pb) 2 (some .ret)))) (k (.exit 0) (eS0 false (atM c ⟨pp, pa, pb⟩ (n + as_ * bs) r 0 none)))) false
 | none => false
def F_out : LF := fun st k => P_out st (fun kd fr as_ bs a n r pp pa pb cc c5 T asg bdy => G_out kd fr as_ bs a n r pp pa pb cc c5 T asg bdy k) false
abbrev zbw0 := AV.bool Bool.false
abbrev zbw1 (a : Int) (as_ : Int) (b : Int) (bs : Int) (bs2 : Int) (fr : Int) (kd : Int) : List AV := [.int .u8 kd, .int .i64 fr, .int .i64 as_, .int .i64 bs, .ptr 8 0, .any, .any, .any, .any, zbw0, .int .i64 a, .any, .any, .any, .any, .any, .any, .any, .any, .any, .int .i64 bs2, .int .i64 b, .any, .any, .any, .any, .any, .any, .any, .any, .any, .any]
abbrev zbw2 (c : Conf) : List AV := [.int .u8 c.1, .int .i64 c.2, .int .i64 c.3, .int .u8 c.4, .int .i64 c.5, .int .i64 c.6, .int .i64 c.7, .int .i64 c.8, .int .i64 c.9, .int .i64 c.10, .int .u64 c.11, .int .u64 c.12]
abbrev zbw3 (c : Conf) (p : Plc) : List AV := [.agg (zbw2 c), .agg [.int .u8 p.1, .int .i64 p.2, .int .i64 p.3], .ptr 0 0, .ptr 1 0, .ptr 2 0, .ptr 3 0, .int .i64 (errC c), .ptr 4 0, .tup [], .agg (zbw2 c), .int .i64 (errC c), .int .i64 (errC c), zbw0, .tup [], .agg (zbw2 c), .fn (Fn.func 141) [] [.ptr 5 0], .tup [], .tup [], .tup [], .tup [], .tup [], .tup [], .tup []]
abbrev zbw4 (c : Conf) (n : Int) (p : Plc) (r : Int) := Mem.mk [(8, (HB.mk [.yld 7] 259 Bool.false)), (5, (HB.mk (zbw2 c) 24 Bool.true)), (4, (HB.mk [.int .i64 n] 3 Bool.true)), (3, (HB.mk [.int .i64 0] 30 Bool.true)), (2, (HB.mk [.int .i64 r] 3 Bool.true)), (1, (HB.mk [.int .u8 p.1, .int .i64 p.2, .int .i64 p.3] 107 Bool.true)), (0, (HB.mk (zbw2 c) 24 Bool.true))] 9 [(7, (LB.lop 0 (Option.none) (zbw3 c p) [16] atA atB 6)), (6, LB.dfb)]
theorem t_in (c : Conf) (p : Plc) (kd : Int) (fr : Int) (as_ : Int) (bs : Int) (a : Int) (bs2 b n r : Int) (k : Ex -> St -> Bool) : run (cfg [S_check]) 100 none none (loopAt (fcode Tryz.prog 142) [0, 0]) (I_in kd fr as_ bs a bs2 b n r p.part p.a p.b c.cells c.cells (T0 c p) atA atB) (fun e s => k e (keepS [0, 1, 2, 3, 4, 9, 10, 20, 21] s)) false = (bif decide (b < bs2) then (bif (decide (kd = p.1) && (decide (a = p.2) && (decide (b = p.3) && Bool.true))) then (k Ex.ret (St.mk (zbw1 a as_ b bs bs2 fr kd) [] (Mem.mk [(9, (HB.mk [.int .u8 kd, .int .i64 a, .int .i64 b] 107 Bool.true)), (8, (HB.mk [.yld 7] 259 Bool.false)), (5, (HB.mk (zbw2 c) 24 Bool.true)), (4, (HB.mk [.int .i64 n] 3 Bool.true)), (3, (HB.mk [.int .i64 0] 30 Bool.true)), (2, (HB.mk [.int .i64 n] 3 Bool.true)), (1, (HB.mk [.int .u8 p.1, .int .i64 p.2, .int .i64 p.3] 107 Bool.true)), (0, (HB.mk (zbw2 c) 24 Bool.true))] 10 [(7, (LB.lop 2 (Option.some Ex.ret) (zbw3 c p) [16] atA atB 6)), (6, LB.dfb)]))) else (k Ex.normal (St.mk [.int .u8 kd, .int .i64 fr, .int .i64 as_, .int .i64 bs, .ptr 8 0, .any, .any, .any, .any, zbw0, .int .i64 a, .any, .any, .any, .any, .any, .any, .any, .any, .any, .int .i64 bs2, .int .i64 (IntKind.wrap .i64 (b + 1)), .any, .any, .any, .any, .any, .any, .any, .any, .any, .any] [] (Mem.mk [(9, (HB.mk [.int .u8 kd, .int .i64 a, .int .i64 b] 107 Bool.true)), (8, (HB.mk [.yld 7] 259 Bool.false)), (5, (HB.mk (zbw2 c) 24 Bool.true)), (4, (HB.mk [.int .i64 (IntKind.wrap .i64 (n + 1))] 3 Bool.true)), (3, (HB.mk [.int .i64 0] 30 Bool.true)), (2, (HB.mk [.int .i64 r] 3 Bool.true)), (1, (HB.mk [.int .u8 p.1, .int .i64 p.2, .int .i64 p.3] 107 Bool.true)), (0, (HB.mk (zbw2 c) 24 Bool.true))] 10 [(7, (LB.lop 0 (Option.none) (zbw3 c p) [16] atA atB 6)), (6, LB.dfb)])))) else (k (Ex.exit 2) (St.mk (zbw1 a as_ b bs bs2 fr kd) [] (zbw4 c n p r)))) := by kernel_rfl
abbrev zbw5 (a : Int) (as_ : Int) (bs : Int) (fr : Int) (kd : Int) : List AV := [.int .u8 kd, .int .i64 fr, .int .i64 as_, .int .i64 bs, .ptr 8 0, .any, .any, .any, .any, zbw0, .int .i64 a, .any, .any, .any, .any, .any, .any, .any, .any, .any, .any, .any, .any, .any, .any, .any, .any, .any, .any, .any, .any, .any]
theorem t_out (c : Conf) (p : Plc) (kd : Int) (fr : Int) (as_ : Int) (bs : Int) (a : Int) (n r : Int) (k : Ex -> St -> Bool) : runM (cfg [S_check]) 100 (loopAt (fcode Tryz.prog 142) [0]) [F_in] (I_out kd fr as_ bs a n r p.part p.a p.b c.cells c.cells (T0 c p) atA atB) (fun e s => k e (keepS [0, 1, 2, 3, 4, 9, 10] s)) = (bif decide (a < (IntKind.wrap .i64 (fr + as_))) then ((BasZAt.onB (BasZAt.InOk c p bs bs 0 n (zbw2 c) (zbw3 c p) atA atB)) && (bif (BasZAt.onB (BasZAt.Found kd a 1 bs p)) then (k Ex.ret (St.mk (zbw5 a as_ bs fr kd) [] (Mem.mk [(8, (HB.mk [.yld 7] 259 Bool.false)), (5, (HB.mk (zbw2 c) 24 Bool.true)), (4, (HB.mk [.int .i64 (n + p.3)] 3 Bool.true)), (3, (HB.mk [.int .i64 0] 30 Bool.true)), (2, (HB.mk [.int .i64 (n + p.3)] 3 Bool.true)), (1, (HB.mk [.int .u8 p.1, .int .i64 p.2, .int .i64 p.3] 107 Bool.true)), (0, (HB.mk (zbw2 c) 24 Bool.true))] 9 [(7, (LB.lop 2 (Option.some Ex.ret) (zbw3 c p) [16] atA atB 6)), (6, LB.dfb)]))) else (k Ex.normal (St.mk [.int .u8 kd, .int .i64 fr, .int .i64 as_, .int .i64 bs, .ptr 8 0, .any, .any, .any, .any, zbw0, .int .i64 (IntKind.wrap .i64 (a + 1)), .any, .any, .any, .any, .any, .any, .any, .any, .any, .any, .any, .any, .any, .any, .any, .any, .any, .any, .any, .any, .any] [] (Mem.mk [(8, (HB.mk [.yld 7] 259 Bool.false)), (5, (HB.mk (zbw2 c) 24 Bool.true)), (4, (HB.mk [.int .i64 (n + bs)] 3 Bool.true)), (3, (HB.mk [.int .i64 0] 30 Bool.true)), (2, (HB.mk [.int .i64 r] 3 Bool.true)), (1, (HB.mk [.int .u8 p.1, .int .i64 p.2, .int .i64 p.3] 107 Bool.true)), (0, (HB.mk (zbw2 c) 24 Bool.true))] 9 [(7, (LB.lop 0 (Option.none) (zbw3 c p) [16] atA atB 6)), (6, LB.dfb)]))))) else (k (Ex.exit 0) (St.mk (zbw5 a as_ bs fr kd) [] (zbw4 c n p r)))) := by kernel_rfl
theorem t_each (c : Conf) (p : Plc) (kd fr as_ bs n r : Int) (k : Ex -> St -> Bool) : runM (cfg [S_check]) 100 (fcode Tryz.prog 142) [F_out] ⟨padL [.int .u8 kd, .int .i64 fr, .int .i64 as_, .int .i64 bs, .ptr 8 0] 32, [], atM c p n r 0 none⟩ (fun e s => k e (keepS [9] s)) = ((BasZAt.onB (BasZAt.OutOk c p fr as_ bs fr n (zbw2 c) (zbw3 c p) atA atB)) && (bif (BasZAt.onB (BasZAt.Found kd fr as_ bs p)) then (k Ex.ret (St.mk [.any, .any, .any, .any, .any, .any, .any, .any, .any, zbw0, .any, .any, .any, .any, .any, .any, .any, .any, .any, .any, .any, .any, .any, .any, .any, .any, .any, .any, .any, .any, .any, .any] [] (Mem.mk [(8, (HB.mk [.yld 7] 259 Bool.false)), (5, (HB.mk (zbw2 c) 24 Bool.true)), (4, (HB.mk [.int .i64 ((n + ((p.2 - fr) * bs)) + p.3)] 3 Bool.true)), (3, (HB.mk [.int .i64 0] 30 Bool.true)), (2, (HB.mk [.int .i64 ((n + ((p.2 - fr) * bs)) + p.3)] 3 Bool.true)), (1, (HB.mk [.int .u8 p.1, .int .i64 p.2, .int .i64 p.3] 107 Bool.true)), (0, (HB.mk (zbw2 c) 24 Bool.true))] 9 [(7, (LB.lop 2 (Option.some Ex.ret) (zbw3 c p) [16] atA atB 6)), (6, LB.dfb)]))) else (k Ex.ret (St.mk [.any, .any, .any, .any, .any, .any, .any, .any, .any, .bool Bool.true, .any, .any, .any, .any, .any, .any, .any, .any, .any, .any, .any, .any, .any, .any, .any, .any, .any, .any, .any, .any, .any, .any] [] (Mem.mk [(8, (HB.mk [.yld 7] 259 Bool.false)), (5, (HB.mk (zbw2 c) 24 Bool.true)), (4, (HB.mk [.int .i64 (n + (as_ * bs))] 3 Bool.true)), (3, (HB.mk [.int .i64 0] 30 Bool.true)), (2, (HB.mk [.int .i64 r] 3 Bool.true)), (1, (HB.mk [.int .u8 p.1, .int .i64 p.2, .int .i64 p.3] 107 Bool.true)), (0, (HB.mk (zbw2 c) 24 Bool.true))] 9 [(7, (LB.lop 0 (Option.none) (zbw3 c p) [16] atA atB 6)), (6, LB.dfb)]))))) := by kernel_rfl
end
end Go.Bas.BasZAt
end
section
namespace Go.Bas.BasZAt2
noncomputable section
open Go.RowKit Go.Proofs BasZBase BasZAt
set_option maxHeartbeats 1000000
section
variable {C : Cfg} {K : Ex -> St -> Prop} {st : St}
theorem AWp.runMK (hC : C.Ok) (ls : List Nat) {n : Nat} {c : Code} {l : List LF} (hl : LoopsOkP C (loopsOf c) l) (h : ∀ k : Ex -> St -> Bool, (∀ e s, K e s -> k e s = true) -> Bas.runM C n c l st (fun e s => k e (keepS ls s)) = true) : AWp C none c st K := by
 classical
 have h1 := h (fun e s => decide (K e s)) (fun e s h => decide_eq_true h)
 have := runA_soundP hC (mkA c l) st _ (mkA_okP c l hl) h1
 rw [mkA_code] at this
 exact this.post fun e s hk => ⟨_, LessS.keep ls s, of_decide_eq_true hk⟩
theorem LessD.base {n n' : Nat} {st st' : St} (h : LessD C n st st') (hn : n' <= n) : LessD C n' st st' := ⟨Nat.le_trans hn h.1, h.2⟩
theorem LessD.eqN {n : Nat} {st st' : St} (h : st = st') (hn : st.m.nx = n) : LessD C n st st' := by subst h; subst hn; exact (LessS.refl st).d
theorem LessD.fill (st : St) (N : Nat) (live : List (Nat × AV)) (b : Nat) (hn : st.tmps.length = N) (hl : AllL st.tmps live) (hb : b <= st.m.nx) : LessD C b st ⟨Bas.fill N live, st.ds, st.m⟩ :=
 ⟨hb, Nat.le_refl _, (LessS.fill hn hl rfl rfl).2⟩
end
theorem hC : (cfg [S_check]).Ok := cfg_ok base (sums_cons s_check sums_nil)
theorem w64i {n : Int} (h : -1000000000 <= n) (h' : n <= 1000000000) : IntKind.wrap .i64 n = n := wrap_eq (by simp [Lit.wf, IntKind.min, IntKind.max, IntKind.signed, IntKind.bits]; omega)
theorem in_loops : loopsOf (loopAt (fcode Tryz.prog 142) [0]) = [.loop (loopAt (fcode Tryz.prog 142) [0, 0])] := by kernel_rfl
theorem out_loops : loopsOf (fcode Tryz.prog 142) = [.loop (loopAt (fcode Tryz.prog 142) [0])] := by kernel_rfl
theorem G_in_ok : ∀ (kd fr as_ bs a bs2 b n r pp pa pb : Int) (cc c5 T : List AV) (asg bdy : Code) (k : Ex -> St -> Bool), G_in kd fr as_ bs a bs2 b n r pp pa pb cc c5 T asg bdy k = true ->
  AWp (cfg [S_check]) none (.loop (loopAt (fcode Tryz.prog 142) [0, 0])) (I_in kd fr as_ bs a bs2 b n r pp pa pb cc c5 T asg bdy) (fun e s => k e s = true) := by
 intro kd fr as_ bs a bs2 b n r pp pa pb cc c5 T asg bdy k hG
 unfold G_in at hG
 split at hG
 case h_2 => cases hG
 rename_i c hc
 have hcc : cc = c.cells := AV.agg.inj (confOf_some hc)
 subst hcc
 rcases of_cond2 hG with ⟨hok, hG2⟩ | ⟨_, hG2⟩
 case inr => cases hG2
 clear hG
 obtain ⟨rfl, rfl, hb0, hb1, hn0, hn1, rfl, rfl, rfl, rfl⟩ := onB_true.1 hok
 suffices key : AWp (cfg [S_check]) none (.loop (loopAt (fcode Tryz.prog 142) [0, 0])) (I_in kd fr as_ bs2 a bs2 ((0 : Nat) : Int) (n + ((0 : Nat) : Int)) r pp pa pb c.cells c.cells (T0 c ⟨pp, pa, pb⟩) atA atB) (fun e s => k e s = true) by
  rw [show n + ((0 : Nat) : Int) = n by simp] at key
  exact key
 refine AWp.loopD (K := fun e s => k e s = true) (fun i : { i : Nat // (i : Int) <= bs2 /\ ∀ j : Nat, j < i -> ¬ (kd = pp /\ a = pa /\ (j : Int) = pb) } => I_in kd fr as_ bs2 a bs2 ((i.1 : Nat) : Int) (n + ((i.1 : Nat) : Int)) r pp pa pb c.cells c.cells (T0 c ⟨pp, pa, pb⟩) atA atB) 9 (fun _ => rfl) (fun i => bs2.toNat - i.1) ?_ ⟨0, hb0, fun j hj => absurd hj (Nat.not_lt_zero _)⟩
 rintro ⟨i, hi, hno⟩
 refine AWp.runK hC [0, 1, 2, 3, 4, 9, 10, 20, 21] (n := 100) fun k' hk => ?_
 refine (t_in c ⟨pp, pa, pb⟩ kd fr as_ bs2 a bs2 ((i : Nat) : Int) (n + ((i : Nat) : Int)) r k').trans ?_
 refine condI (fun h => ?_) (fun h => ?_)
 ·have hlt : ((i : Nat) : Int) < bs2 := of_decide_eq_true h
  refine condI (fun hf => ?_) (fun hf => ?_)
  ·simp only [Bool.and_true, Bool.and_eq_true, decide_eq_true_eq] at hf
   obtain ⟨f1, f2, f3⟩ := hf; have f1 : kd = pp := f1; have f2 : a = pa := f2; have f3 : ((i : Nat) : Int) = pb := f3; have hF : onB (BasZAt.Found kd a 1 bs2 ⟨pp, pa, pb⟩) = true := onB_true.2 ⟨f1, by show a <= pa; omega, by show pa < a + 1; omega, by show 0 <= pb; omega, by show pb < bs2; omega⟩
   rw [hF] at hG2; subst f3; refine hk .ret _ ?_; refine ⟨_, (LessD.fill _ 32 [(0, .int .u8 kd), (1, .int .i64 fr), (2, .int .i64 as_), (3, .int .i64 bs2), (4, .ptr 8 0), (9, .bool false), (10, .int .i64 a)] 9 rfl ⟨rfl, rfl, rfl, rfl, rfl, rfl, rfl, trivial⟩ (by show 9 <= 10; omega)).trans (LessD.drop 9 9 (Nat.le_refl _) (by show 9 <= 10; omega) (by kernel_rfl) (by kernel_rfl)), ?_⟩
   exact hG2
  ·have hw1 : IntKind.wrap .i64 (((i : Nat) : Int) + 1) = ((i + 1 : Nat) : Int) := by rw [w64i (by omega) (by omega)]; omega
   have hw2 : IntKind.wrap .i64 (n + ((i : Nat) : Int) + 1) = n + ((i + 1 : Nat) : Int) := by rw [w64i (by omega) (by omega)]; omega
   rw [hw1, hw2]; refine hk .normal _ ⟨⟨i + 1, by omega, fun j hj => ?_⟩, by show bs2.toNat - (i + 1) < bs2.toNat - i; omega, (LessD.drop 9 9 (Nat.le_refl _) (by show 9 <= 10; omega) (by kernel_rfl) (by kernel_rfl)).trans (LessD.eqN rfl rfl)⟩
   rcases Nat.lt_succ_iff_lt_or_eq.1 hj with hj | rfl
   ·exact hno j hj
   ·intro ⟨g1, g2, g3⟩
    have : (decide (kd = pp) && (decide (a = pa) && (decide (((j : Nat) : Int) = pb) && true))) = true := by simp [g1, g2, g3]
    have hf : (decide (kd = pp) && (decide (a = pa) && (decide (((j : Nat) : Int) = pb) && true))) = false := hf; rw [this] at hf; cases hf
 ·have hge : ¬ ((i : Nat) : Int) < bs2 := of_decide_eq_false h
  have hib : ((i : Nat) : Int) = bs2 := by omega
  have hF : onB (BasZAt.Found kd a 1 bs2 ⟨pp, pa, pb⟩) = false := by
   rw [Bool.eq_false_iff]; intro hh; obtain ⟨f1, f2, f3, f4, f5⟩ := onB_true.1 hh; have f2 : a <= pa := f2; have f3 : pa < a + 1 := f3; have f4 : 0 <= pb := f4; have f5 : pb < bs2 := f5; exact hno pb.toNat (by omega) ⟨f1, by omega, by omega⟩
  rw [hF] at hG2; refine hk (.exit 2) _ ?_; refine ⟨_, LessD.fill _ 32 [(0, .int .u8 kd), (1, .int .i64 fr), (2, .int .i64 as_), (3, .int .i64 bs2), (4, .ptr 8 0), (9, .bool false), (10, .int .i64 a)] 9 rfl ⟨rfl, rfl, rfl, rfl, rfl, rfl, rfl, trivial⟩ (Nat.le_refl _), ?_⟩; rw [hib]; exact hG2
theorem in_ok : LoopsOkP (cfg [S_check]) (loopsOf (loopAt (fcode Tryz.prog 142) [0])) [F_in] := by
 rw [in_loops]
 exact ⟨fun st k h => P_in_okP G_in_ok st k h, trivial⟩
theorem mul_step {x y z : Int} (h : 0 <= z) (hxy : x <= y) : x * z <= y * z := Int.mul_le_mul_of_nonneg_right hxy h
theorem G_out_ok : ∀ (kd fr as_ bs a n r pp pa pb : Int) (cc c5 T : List AV) (asg bdy : Code) (k : Ex -> St -> Bool), G_out kd fr as_ bs a n r pp pa pb cc c5 T asg bdy k = true ->
  AWp (cfg [S_check]) none (.loop (loopAt (fcode Tryz.prog 142) [0])) (I_out kd fr as_ bs a n r pp pa pb cc c5 T asg bdy) (fun e s => k e s = true) := by
 intro kd fr as_ bs a n r pp pa pb cc c5 T asg bdy k hG
 unfold G_out at hG
 split at hG
 case h_2 => cases hG
 rename_i c hc
 have hcc : cc = c.cells := AV.agg.inj (confOf_some hc)
 subst hcc
 rcases of_cond2 hG with ⟨hok, hG2⟩ | ⟨_, hG2⟩
 case inr => cases hG2
 clear hG
 obtain ⟨rfl, hf0, hf1, ha0, ha1, hb0, hb1, hn0, hn1, rfl, rfl, rfl, rfl⟩ := onB_true.1 hok
 suffices key : AWp (cfg [S_check]) none (.loop (loopAt (fcode Tryz.prog 142) [0])) (I_out kd a as_ bs (a + ((0 : Nat) : Int)) (n + ((0 : Nat) : Int) * bs) r pp pa pb c.cells c.cells (T0 c ⟨pp, pa, pb⟩) atA atB) (fun e s => k e s = true) by
  rw [show n + ((0 : Nat) : Int) * bs = n by simp, show a + ((0 : Nat) : Int) = a by simp] at key
  exact key
 refine AWp.loopD (K := fun e s => k e s = true) (fun i : { i : Nat // (i : Int) <= as_ /\ ∀ j : Nat, j < i -> ¬ (kd = pp /\ a + (j : Int) = pa /\ 0 <= pb /\ pb < bs) } => I_out kd a as_ bs (a + ((i.1 : Nat) : Int)) (n + ((i.1 : Nat) : Int) * bs) r pp pa pb c.cells c.cells (T0 c ⟨pp, pa, pb⟩) atA atB) 9 (fun _ => rfl) (fun i => as_.toNat - i.1) ?_ ⟨0, ha0, fun j hj => absurd hj (Nat.not_lt_zero _)⟩
 rintro ⟨i, hi, hno⟩
 have hm0 : 0 <= ((i : Nat) : Int) * bs := Int.mul_nonneg (by omega) hb0
 have hm1 := mul_step hb0 hi
 refine AWp.runMK hC [0, 1, 2, 3, 4, 9, 10] (n := 100) in_ok fun k' hk => ?_
 refine (t_out c ⟨pp, pa, pb⟩ kd a as_ bs (a + ((i : Nat) : Int)) (n + ((i : Nat) : Int) * bs) r k').trans ?_
 have hw0 : IntKind.wrap .i64 (a + as_) = a + as_ := w64i (by omega) (by omega)
 rw [hw0]
 refine condI (fun h => ?_) (fun h => ?_)
 ·have hlt : a + ((i : Nat) : Int) < a + as_ := of_decide_eq_true h
  have hm2 : (((i + 1 : Nat) : Nat) : Int) * bs <= as_ * bs := mul_step hb0 (by omega)
  have hm3 : (((i + 1 : Nat) : Nat) : Int) * bs = ((i : Nat) : Int) * bs + bs := by rw [Int.natCast_add, Int.add_mul]; simp
  refine andI (onB_true.2 ⟨rfl, rfl, hb0, hb1, by omega, by omega, rfl, rfl, rfl, rfl⟩) (condI (fun hf => ?_) (fun hf => ?_))
  ·obtain ⟨f1, f2, f3, f4, f5⟩ := onB_true.1 hf
   have f1 : kd = pp := f1; have f2 : a + ((i : Nat) : Int) <= pa := f2; have f3 : pa < a + ((i : Nat) : Int) + 1 := f3; have f4 : 0 <= pb := f4; have f5 : pb < bs := f5; have hF : onB (BasZAt.Found kd a as_ bs ⟨pp, pa, pb⟩) = true := onB_true.2 ⟨f1, by show a <= pa; omega, by show pa < a + as_; omega, f4, f5⟩
   rw [hF] at hG2; refine hk .ret _ ?_; refine ⟨_, LessD.fill _ 32 [(9, .bool false)] 9 rfl ⟨rfl, trivial⟩ (Nat.le_refl _), ?_⟩; have e1 : pa - a = ((i : Nat) : Int) := by omega
   rw [e1] at hG2; exact hG2
  ·have hw1 : IntKind.wrap .i64 (a + ((i : Nat) : Int) + 1) = a + ((i + 1 : Nat) : Int) := by rw [w64i (by omega) (by omega)]; omega
   have hw2 : n + ((i : Nat) : Int) * bs + bs = n + ((i + 1 : Nat) : Int) * bs := by omega
   rw [hw1, hw2]; refine hk .normal _ ⟨⟨i + 1, by omega, fun j hj => ?_⟩, by show as_.toNat - (i + 1) < as_.toNat - i; omega, LessD.eqN rfl rfl⟩
   rcases Nat.lt_succ_iff_lt_or_eq.1 hj with hj | rfl
   ·exact hno j hj
   ·intro ⟨g1, g2, g3, g4⟩
    have : onB (BasZAt.Found kd (a + ((j : Nat) : Int)) 1 bs ⟨pp, pa, pb⟩) = true := onB_true.2 ⟨g1, by show a + ((j : Nat) : Int) <= pa; omega, by show pa < a + ((j : Nat) : Int) + 1; omega, g3, g4⟩
    rw [this] at hf; cases hf
 ·have hge : ¬ a + ((i : Nat) : Int) < a + as_ := of_decide_eq_false h
  have hib : ((i : Nat) : Int) = as_ := by omega
  have hF : onB (BasZAt.Found kd a as_ bs ⟨pp, pa, pb⟩) = false := by
   rw [Bool.eq_false_iff]; intro hh; obtain ⟨f1, f2, f3, f4, f5⟩ := onB_true.1 hh; have f2 : a <= pa := f2; have f3 : pa < a + as_ := f3; exact hno (pa - a).toNat (by omega) ⟨f1, by omega, f4, f5⟩
  rw [hF] at hG2; refine hk (.exit 0) _ ?_; refine ⟨_, LessD.fill _ 32 [(9, .bool false)] 9 rfl ⟨rfl, trivial⟩ (Nat.le_refl _), ?_⟩; rw [hib]; exact hG2
theorem out_ok : LoopsOkP (cfg [S_check]) (loopsOf (fcode Tryz.prog 142)) [F_out] := by
 rw [out_loops]
 exact ⟨fun st k h => P_out_okP G_out_ok st k h, trivial⟩
def F_each (args : List AV) (m : Mem) : TrM := match args with
 | [.int .u8 kd, .int .i64 fr, .int .i64 as_, .int .i64 bs, .ptr 8 0] => match m with
  | ⟨[(8, ⟨[.yld 7], 259, false⟩), (5, ⟨c5, 24, true⟩), (4, ⟨[.int .i64 n], 3, true⟩), (3, ⟨[.int .i64 z], 30, true⟩), (2, ⟨[.int .i64 r], 3, true⟩), (1, ⟨[.int .u8 pp, .int .i64 pa, .int .i64 pb], 107, true⟩), (0, ⟨cc, 24, true⟩)], 9, [(7, .lop 0 none T [16] asg bdy 6), (6, .dfb)]⟩ => match confOf (.agg cc) with
   | some c => .br (decide (z = 0)) (.br (onB (OutOk c ⟨pp, pa, pb⟩ fr as_ bs fr n c5 T asg bdy)) (.br (onB (BasZAt.Found kd fr as_ bs ⟨pp, pa, pb⟩)) (.leaf (.bool false) (atM c ⟨pp, pa, pb⟩ (n + (pa - fr) * bs + pb) (n + (pa - fr) * bs + pb) 2 (some .ret))) (.leaf (.bool true) (atM c ⟨pp, pa, pb⟩ (n + as_ * bs) r 0 none))) .bad) .bad
   | none => .bad
  | _ => .bad
 | _ => .bad
theorem each_ok : InpOk (cfg [S_check]) 142 F_each := by
 obtain ⟨fn, hfn, hbd, hnt, hrs⟩ := fn_is (P := Tryz.prog) (f := 142) (n := 32) (r := 1) (by kernel_rfl)
 refine inp_of_awp hC hfn hbd rfl rfl rfl fun args m kk h => ?_
 unfold F_each at h
 split at h
 case h_2 => cases h
 rename_i kd fr as_ bs
 split at h
 case h_2 => cases h
 rename_i c5 n z r pp pa pb cc T asg bdy
 split at h
 case h_2 => cases h
 rename_i c hc
 have hcc : cc = c.cells := AV.agg.inj (confOf_some hc)
 subst hcc
 rw [TrM.ev_br] at h
 rcases of_cond2 h with ⟨hz, h1⟩ | ⟨_, h1⟩
 case inr => cases h1
 clear h
 obtain rfl : z = 0 := of_decide_eq_true hz
 rw [TrM.ev_br] at h1
 rcases of_cond2 h1 with ⟨hok, h⟩ | ⟨_, h2⟩
 case inr => cases h2
 clear h1
 have hok' := onB_true.1 hok
 obtain ⟨_, hf0, hf1, ha0, ha1, hb0, hb1, hn0, hn1, rfl, rfl, rfl, rfl⟩ := hok'
 rw [hnt]
 refine AWp.runMK hC [9] (n := 100) out_ok fun k hk => ?_
 refine (t_each c ⟨pp, pa, pb⟩ kd fr as_ bs n r k).trans ?_
 refine andI hok ?_
 rw [TrM.ev_br] at h
 have hres : ∀ (s : St) (kk : AV -> Mem -> Bool), s.ds = [] -> closeK s.ds s.m.lp (fun lp => resK (cfg [S_check]) fn s (fun v => kk v ⟨s.m.heap, s.m.nx, lp⟩) false) false = kk (lget s.tmps 9) s.m := fun s kk hd => by
  rw [hd]; show resK (cfg [S_check]) fn s (fun v => kk v ⟨s.m.heap, s.m.nx, s.m.lp⟩) false = _
  have : ((Tryz.prog.funcs[142]?).map fun fn => fn.results.toList) = some [.tmp 9] := by kernel_rfl
  rw [show Tryz.prog.funcs[142]? = some fn from hfn] at this
  have hr : fn.results.toList = [.tmp 9] := Option.some.inj this; unfold resK; rw [hr]; rfl
 refine condI (fun hf => ?_) (fun hf => ?_)
 ·rw [hf] at h
  refine hk .ret _ ⟨.inl rfl, ?_⟩; rw [hres _ _ rfl]; exact h
 ·rw [hf] at h
  refine hk .ret _ ⟨.inl rfl, ?_⟩; rw [hres _ _ rfl]; exact h
end
end Go.Bas.BasZAt2
end
section
namespace Go.Bas.BasZAt3
noncomputable section
open Go.RowKit Go.Proofs
open BasZBase BasZAt BasZAt2
abbrev cfgX (l : List Sum) (x : List Inp) : Cfg := ⟨Tryz.prog, gmap gs, lookS l, fun _ => false, lookX x⟩
def ci (i : Int) (c : Conf) : Conf := ⟨c.ob, i, c.thr, c.kind, c.str, c.bits, c.cap, c.node, c.batch, c.chunk, c.limit, c.most⟩
def F_dead : LF := fun _ _ => false
def SA_sz (sz : Conf -> Int) (pr : Conf -> Bool) : Sum := (143, on1 rConf pr (fun c => .int .i64 (sz c)))
abbrev zby0 (c : Conf) : List AV := [.int .u8 c.1, .int .i64 2, .int .i64 c.3, .int .u8 c.4, .int .i64 c.5, .int .i64 c.6, .int .i64 c.7, .int .i64 c.8, .int .i64 c.9, .int .i64 c.10, .int .u64 c.11, .int .u64 c.12]
abbrev zby1 (p : Plc) := AV.agg [.int .u8 p.1, .int .i64 p.2, .int .i64 p.3]
abbrev zby2 (c : Conf) := Conf.mk c.1 2 c.3 c.4 c.5 c.6 c.7 c.8 c.9 c.10 c.11 c.12
abbrev zby3 := AV.tup []
abbrev zby4 := AV.fn (Fn.func 141) [] [.ptr 5 0]
abbrev q0 (c : Conf) (p : Plc) := [.agg (zby0 c), (zby1 p), .ptr 0 0, .ptr 1 0, .ptr 2 0, .ptr 3 0, .int .i64 (errC (zby2 c)), .ptr 4 0, zby3, .agg (zby0 c), .int .i64 (errC (zby2 c)), .int .i64 (errC (zby2 c)), .bool Bool.false, zby3, .agg (zby0 c), zby4, zby3, zby3, zby3, zby3, zby3, zby3, zby3]
abbrev q1 (c : Conf) := (zby0 c)
abbrev zby5 := AV.int .i64 0
abbrev zby6 (p : Plc) := BasZAt.onB (BasZAt.Found 9 0 1 1 p)
abbrev zby7 (p : Plc) := BasZAt.onB (BasZAt.Found 9 1 1 1 p)
theorem t_at2 (c : Conf) (p : Plc) (sz : Conf -> Int) (pr : Conf -> Bool) (k : AV -> Bool) : runF (cfgX [S_check, (SA_sz sz pr)] [(142, F_each)]) 300 40 [(ci 2 c).av, p.av] k false = (bif (!decide ((errC (zby2 c)) = 0)) then (k (AV.tup [zby5, .int .i64 (errC (zby2 c))])) else ((BasZAt.onB (BasZAt.OutOk (zby2 c) p 0 1 1 0 0 (q1 c) (q0 c p) atA atB)) && (bif (BasZAt.onB (BasZAt.Found 1 0 1 1 p)) then (bif decide (c.4 = 1) then (k (AV.tup [.int .i64 ((0 + ((p.2 - 0) * 1)) + p.3), zby5])) else (k (AV.tup [.int .i64 ((0 + ((p.2 - 0) * 1)) + p.3), zby5]))) else ((BasZAt.onB (BasZAt.OutOk (zby2 c) p 0 1 1 0 1 (q1 c) (q0 c p) atA atB)) && (bif (BasZAt.onB (BasZAt.Found 2 0 1 1 p)) then (bif decide (c.4 = 1) then (k (AV.tup [.int .i64 ((1 + ((p.2 - 0) * 1)) + p.3), zby5])) else (k (AV.tup [.int .i64 ((1 + ((p.2 - 0) * 1)) + p.3), zby5]))) else ((BasZAt.onB (BasZAt.OutOk (zby2 c) p 0 1 1 0 2 (q1 c) (q0 c p) atA atB)) && (bif (BasZAt.onB (BasZAt.Found 3 0 1 1 p)) then (bif decide (c.4 = 1) then (k (AV.tup [.int .i64 ((2 + ((p.2 - 0) * 1)) + p.3), zby5])) else (k (AV.tup [.int .i64 ((2 + ((p.2 - 0) * 1)) + p.3), zby5]))) else ((BasZAt.onB (BasZAt.OutOk (zby2 c) p 0 c.3 1 0 3 (q1 c) (q0 c p) atA atB)) && (bif (BasZAt.onB (BasZAt.Found 4 0 c.3 1 p)) then (bif decide (c.4 = 1) then (k (AV.tup [.int .i64 ((3 + ((p.2 - 0) * 1)) + p.3), zby5])) else (k (AV.tup [.int .i64 ((3 + ((p.2 - 0) * 1)) + p.3), zby5]))) else ((BasZAt.onB (BasZAt.OutOk (zby2 c) p 0 c.3 1 0 (3 + (c.3 * 1)) (q1 c) (q0 c p) atA atB)) && (bif (BasZAt.onB (BasZAt.Found 5 0 c.3 1 p)) then (bif decide (c.4 = 1) then (k (AV.tup [.int .i64 (((3 + (c.3 * 1)) + ((p.2 - 0) * 1)) + p.3), zby5])) else (k (AV.tup [.int .i64 (((3 + (c.3 * 1)) + ((p.2 - 0) * 1)) + p.3), zby5]))) else (bif decide (c.4 = 1) then ((BasZAt.onB (BasZAt.OutOk (zby2 c) p 0 2 c.3 0 ((3 + (c.3 * 1)) + (c.3 * 1)) (q1 c) (q0 c p) atA atB)) && (bif (BasZAt.onB (BasZAt.Found 6 0 2 c.3 p)) then (k (AV.tup [.int .i64 ((((3 + (c.3 * 1)) + (c.3 * 1)) + ((p.2 - 0) * c.3)) + p.3), zby5])) else ((BasZAt.onB (BasZAt.OutOk (zby2 c) p 0 1 1 0 (((3 + (c.3 * 1)) + (c.3 * 1)) + (2 * c.3)) (q1 c) (q0 c p) atA atB)) && (bif (zby6 p) then (k (AV.tup [.int .i64 (((((3 + (c.3 * 1)) + (c.3 * 1)) + (2 * c.3)) + ((p.2 - 0) * 1)) + p.3), zby5])) else ((pr (zby2 c)) && ((BasZAt.onB (BasZAt.OutOk (zby2 c) p 0 1 (sz (zby2 c)) 0 ((((3 + (c.3 * 1)) + (c.3 * 1)) + (2 * c.3)) + 1) (q1 c) (q0 c p) atA atB)) && (bif (BasZAt.onB (BasZAt.Found 10 0 1 (sz (zby2 c)) p)) then (k (AV.tup [.int .i64 ((((((3 + (c.3 * 1)) + (c.3 * 1)) + (2 * c.3)) + 1) + ((p.2 - 0) * (sz (zby2 c)))) + p.3), zby5])) else ((BasZAt.onB (BasZAt.OutOk (zby2 c) p 1 1 1 1 (((((3 + (c.3 * 1)) + (c.3 * 1)) + (2 * c.3)) + 1) + (1 * (sz (zby2 c)))) (q1 c) (q0 c p) atA atB)) && (bif (zby7 p) then (k (AV.tup [.int .i64 (((((((3 + (c.3 * 1)) + (c.3 * 1)) + (2 * c.3)) + 1) + (1 * (sz (zby2 c)))) + ((p.2 - 1) * 1)) + p.3), zby5])) else ((pr (zby2 c)) && ((BasZAt.onB (BasZAt.OutOk (zby2 c) p 1 1 (sz (zby2 c)) 1 ((((((3 + (c.3 * 1)) + (c.3 * 1)) + (2 * c.3)) + 1) + (1 * (sz (zby2 c)))) + 1) (q1 c) (q0 c p) atA atB)) && (bif (BasZAt.onB (BasZAt.Found 10 1 1 (sz (zby2 c)) p)) then (k (AV.tup [.int .i64 ((((((((3 + (c.3 * 1)) + (c.3 * 1)) + (2 * c.3)) + 1) + (1 * (sz (zby2 c)))) + 1) + ((p.2 - 1) * (sz (zby2 c)))) + p.3), zby5])) else (k (AV.tup [zby5, .int .i64 2])))))))))))))) else ((BasZAt.onB (BasZAt.OutOk (zby2 c) p 0 2 c.5 0 ((3 + (c.3 * 1)) + (c.3 * 1)) (q1 c) (q0 c p) atA atB)) && (bif (BasZAt.onB (BasZAt.Found 7 0 2 c.5 p)) then (k (AV.tup [.int .i64 ((((3 + (c.3 * 1)) + (c.3 * 1)) + ((p.2 - 0) * c.5)) + p.3), zby5])) else ((BasZAt.onB (BasZAt.OutOk (zby2 c) p 0 2 c.5 0 (((3 + (c.3 * 1)) + (c.3 * 1)) + (2 * c.5)) (q1 c) (q0 c p) atA atB)) && (bif (BasZAt.onB (BasZAt.Found 8 0 2 c.5 p)) then (k (AV.tup [.int .i64 (((((3 + (c.3 * 1)) + (c.3 * 1)) + (2 * c.5)) + ((p.2 - 0) * c.5)) + p.3), zby5])) else ((BasZAt.onB (BasZAt.OutOk (zby2 c) p 0 1 1 0 ((((3 + (c.3 * 1)) + (c.3 * 1)) + (2 * c.5)) + (2 * c.5)) (q1 c) (q0 c p) atA atB)) && (bif (zby6 p) then (k (AV.tup [.int .i64 ((((((3 + (c.3 * 1)) + (c.3 * 1)) + (2 * c.5)) + (2 * c.5)) + ((p.2 - 0) * 1)) + p.3), zby5])) else ((pr (zby2 c)) && ((BasZAt.onB (BasZAt.OutOk (zby2 c) p 0 1 (sz (zby2 c)) 0 (((((3 + (c.3 * 1)) + (c.3 * 1)) + (2 * c.5)) + (2 * c.5)) + 1) (q1 c) (q0 c p) atA atB)) && (bif (BasZAt.onB (BasZAt.Found 10 0 1 (sz (zby2 c)) p)) then (k (AV.tup [.int .i64 (((((((3 + (c.3 * 1)) + (c.3 * 1)) + (2 * c.5)) + (2 * c.5)) + 1) + ((p.2 - 0) * (sz (zby2 c)))) + p.3), zby5])) else ((BasZAt.onB (BasZAt.OutOk (zby2 c) p 1 1 1 1 ((((((3 + (c.3 * 1)) + (c.3 * 1)) + (2 * c.5)) + (2 * c.5)) + 1) + (1 * (sz (zby2 c)))) (q1 c) (q0 c p) atA atB)) && (bif (zby7 p) then (k (AV.tup [.int .i64 ((((((((3 + (c.3 * 1)) + (c.3 * 1)) + (2 * c.5)) + (2 * c.5)) + 1) + (1 * (sz (zby2 c)))) + ((p.2 - 1) * 1)) + p.3), zby5])) else ((pr (zby2 c)) && ((BasZAt.onB (BasZAt.OutOk (zby2 c) p 1 1 (sz (zby2 c)) 1 (((((((3 + (c.3 * 1)) + (c.3 * 1)) + (2 * c.5)) + (2 * c.5)) + 1) + (1 * (sz (zby2 c)))) + 1) (q1 c) (q0 c p) atA atB)) && (bif (BasZAt.onB (BasZAt.Found 10 1 1 (sz (zby2 c)) p)) then (k (AV.tup [.int .i64 (((((((((3 + (c.3 * 1)) + (c.3 * 1)) + (2 * c.5)) + (2 * c.5)) + 1) + (1 * (sz (zby2 c)))) + 1) + ((p.2 - 1) * (sz (zby2 c)))) + p.3), zby5])) else (k (AV.tup [zby5, .int .i64 2])))))))))))))))))))))))))))) := by kernel_rfl
abbrev zby8 (c : Conf) : List AV := [.int .u8 c.1, .int .i64 3, .int .i64 c.3, .int .u8 c.4, .int .i64 c.5, .int .i64 c.6, .int .i64 c.7, .int .i64 c.8, .int .i64 c.9, .int .i64 c.10, .int .u64 c.11, .int .u64 c.12]
abbrev zby9 (c : Conf) := Conf.mk c.1 3 c.3 c.4 c.5 c.6 c.7 c.8 c.9 c.10 c.11 c.12
abbrev q2 (c : Conf) (p : Plc) := [.agg (zby8 c), (zby1 p), .ptr 0 0, .ptr 1 0, .ptr 2 0, .ptr 3 0, .int .i64 (errC (zby9 c)), .ptr 4 0, zby3, .agg (zby8 c), .int .i64 (errC (zby9 c)), .int .i64 (errC (zby9 c)), .bool Bool.false, zby3, .agg (zby8 c), zby4, zby3, zby3, zby3, zby3, zby3, zby3, zby3]
abbrev q3 (c : Conf) := (zby8 c)
abbrev zby10 (p : Plc) := BasZAt.onB (BasZAt.Found 9 2 1 1 p)
theorem t_at3 (c : Conf) (p : Plc) (sz : Conf -> Int) (pr : Conf -> Bool) (k : AV -> Bool) : runF (cfgX [S_check, (SA_sz sz pr)] [(142, F_each)]) 300 40 [(ci 3 c).av, p.av] k false = (bif (!decide ((errC (zby9 c)) = 0)) then (k (AV.tup [zby5, .int .i64 (errC (zby9 c))])) else ((BasZAt.onB (BasZAt.OutOk (zby9 c) p 0 1 1 0 0 (q3 c) (q2 c p) atA atB)) && (bif (BasZAt.onB (BasZAt.Found 1 0 1 1 p)) then (bif decide (c.4 = 1) then (k (AV.tup [.int .i64 ((0 + ((p.2 - 0) * 1)) + p.3), zby5])) else (k (AV.tup [.int .i64 ((0 + ((p.2 - 0) * 1)) + p.3), zby5]))) else ((BasZAt.onB (BasZAt.OutOk (zby9 c) p 0 1 1 0 1 (q3 c) (q2 c p) atA atB)) && (bif (BasZAt.onB (BasZAt.Found 2 0 1 1 p)) then (bif decide (c.4 = 1) then (k (AV.tup [.int .i64 ((1 + ((p.2 - 0) * 1)) + p.3), zby5])) else (k (AV.tup [.int .i64 ((1 + ((p.2 - 0) * 1)) + p.3), zby5]))) else ((BasZAt.onB (BasZAt.OutOk (zby9 c) p 0 1 1 0 2 (q3 c) (q2 c p) atA atB)) && (bif (BasZAt.onB (BasZAt.Found 3 0 1 1 p)) then (bif decide (c.4 = 1) then (k (AV.tup [.int .i64 ((2 + ((p.2 - 0) * 1)) + p.3), zby5])) else (k (AV.tup [.int .i64 ((2 + ((p.2 - 0) * 1)) + p.3), zby5]))) else ((BasZAt.onB (BasZAt.OutOk (zby9 c) p 0 c.3 1 0 3 (q3 c) (q2 c p) atA atB)) && (bif (BasZAt.onB (BasZAt.Found 4 0 c.3 1 p)) then (bif decide (c.4 = 1) then (k (AV.tup [.int .i64 ((3 + ((p.2 - 0) * 1)) + p.3), zby5])) else (k (AV.tup [.int .i64 ((3 + ((p.2 - 0) * 1)) + p.3), zby5]))) else ((BasZAt.onB (BasZAt.OutOk (zby9 c) p 0 c.3 1 0 (3 + (c.3 * 1)) (q3 c) (q2 c p) atA atB)) && (bif (BasZAt.onB (BasZAt.Found 5 0 c.3 1 p)) then (bif decide (c.4 = 1) then (k (AV.tup [.int .i64 (((3 + (c.3 * 1)) + ((p.2 - 0) * 1)) + p.3), zby5])) else (k (AV.tup [.int .i64 (((3 + (c.3 * 1)) + ((p.2 - 0) * 1)) + p.3), zby5]))) else (bif decide (c.4 = 1) then ((BasZAt.onB (BasZAt.OutOk (zby9 c) p 0 2 c.3 0 ((3 + (c.3 * 1)) + (c.3 * 1)) (q3 c) (q2 c p) atA atB)) && (bif (BasZAt.onB (BasZAt.Found 6 0 2 c.3 p)) then (k (AV.tup [.int .i64 ((((3 + (c.3 * 1)) + (c.3 * 1)) + ((p.2 - 0) * c.3)) + p.3), zby5])) else ((BasZAt.onB (BasZAt.OutOk (zby9 c) p 0 1 1 0 (((3 + (c.3 * 1)) + (c.3 * 1)) + (2 * c.3)) (q3 c) (q2 c p) atA atB)) && (bif (zby6 p) then (k (AV.tup [.int .i64 (((((3 + (c.3 * 1)) + (c.3 * 1)) + (2 * c.3)) + ((p.2 - 0) * 1)) + p.3), zby5])) else ((pr (zby9 c)) && ((BasZAt.onB (BasZAt.OutOk (zby9 c) p 0 1 (sz (zby9 c)) 0 ((((3 + (c.3 * 1)) + (c.3 * 1)) + (2 * c.3)) + 1) (q3 c) (q2 c p) atA atB)) && (bif (BasZAt.onB (BasZAt.Found 10 0 1 (sz (zby9 c)) p)) then (k (AV.tup [.int .i64 ((((((3 + (c.3 * 1)) + (c.3 * 1)) + (2 * c.3)) + 1) + ((p.2 - 0) * (sz (zby9 c)))) + p.3), zby5])) else ((BasZAt.onB (BasZAt.OutOk (zby9 c) p 1 1 1 1 (((((3 + (c.3 * 1)) + (c.3 * 1)) + (2 * c.3)) + 1) + (1 * (sz (zby9 c)))) (q3 c) (q2 c p) atA atB)) && (bif (zby7 p) then (k (AV.tup [.int .i64 (((((((3 + (c.3 * 1)) + (c.3 * 1)) + (2 * c.3)) + 1) + (1 * (sz (zby9 c)))) + ((p.2 - 1) * 1)) + p.3), zby5])) else ((pr (zby9 c)) && ((BasZAt.onB (BasZAt.OutOk (zby9 c) p 1 1 (sz (zby9 c)) 1 ((((((3 + (c.3 * 1)) + (c.3 * 1)) + (2 * c.3)) + 1) + (1 * (sz (zby9 c)))) + 1) (q3 c) (q2 c p) atA atB)) && (bif (BasZAt.onB (BasZAt.Found 10 1 1 (sz (zby9 c)) p)) then (k (AV.tup [.int .i64 ((((((((3 + (c.3 * 1)) + (c.3 * 1)) + (2 * c.3)) + 1) + (1 * (sz (zby9 c)))) + 1) + ((p.2 - 1) * (sz (zby9 c)))) + p.3), zby5])) else ((BasZAt.onB (BasZAt.OutOk (zby9 c) p 2 1 1 2 (((((((3 + (c.3 * 1)) + (c.3 * 1)) + (2 * c.3)) + 1) + (1 * (sz (zby9 c)))) + 1) + (1 * (sz (zby9 c)))) (q3 c) (q2 c p) atA atB)) && (bif (zby10 p) then (k (AV.tup [.int .i64 (((((((((3 + (c.3 * 1)) + (c.3 * 1)) + (2 * c.3)) + 1) + (1 * (sz (zby9 c)))) + 1) + (1 * (sz (zby9 c)))) + ((p.2 - 2) * 1)) + p.3), zby5])) else ((pr (zby9 c)) && ((BasZAt.onB (BasZAt.OutOk (zby9 c) p 2 1 (sz (zby9 c)) 2 ((((((((3 + (c.3 * 1)) + (c.3 * 1)) + (2 * c.3)) + 1) + (1 * (sz (zby9 c)))) + 1) + (1 * (sz (zby9 c)))) + 1) (q3 c) (q2 c p) atA atB)) && (bif (BasZAt.onB (BasZAt.Found 10 2 1 (sz (zby9 c)) p)) then (k (AV.tup [.int .i64 ((((((((((3 + (c.3 * 1)) + (c.3 * 1)) + (2 * c.3)) + 1) + (1 * (sz (zby9 c)))) + 1) + (1 * (sz (zby9 c)))) + 1) + ((p.2 - 2) * (sz (zby9 c)))) + p.3), zby5])) else (k (AV.tup [zby5, .int .i64 2]))))))))))))))))))) else ((BasZAt.onB (BasZAt.OutOk (zby9 c) p 0 2 c.5 0 ((3 + (c.3 * 1)) + (c.3 * 1)) (q3 c) (q2 c p) atA atB)) && (bif (BasZAt.onB (BasZAt.Found 7 0 2 c.5 p)) then (k (AV.tup [.int .i64 ((((3 + (c.3 * 1)) + (c.3 * 1)) + ((p.2 - 0) * c.5)) + p.3), zby5])) else ((BasZAt.onB (BasZAt.OutOk (zby9 c) p 0 2 c.5 0 (((3 + (c.3 * 1)) + (c.3 * 1)) + (2 * c.5)) (q3 c) (q2 c p) atA atB)) && (bif (BasZAt.onB (BasZAt.Found 8 0 2 c.5 p)) then (k (AV.tup [.int .i64 (((((3 + (c.3 * 1)) + (c.3 * 1)) + (2 * c.5)) + ((p.2 - 0) * c.5)) + p.3), zby5])) else ((BasZAt.onB (BasZAt.OutOk (zby9 c) p 0 1 1 0 ((((3 + (c.3 * 1)) + (c.3 * 1)) + (2 * c.5)) + (2 * c.5)) (q3 c) (q2 c p) atA atB)) && (bif (zby6 p) then (k (AV.tup [.int .i64 ((((((3 + (c.3 * 1)) + (c.3 * 1)) + (2 * c.5)) + (2 * c.5)) + ((p.2 - 0) * 1)) + p.3), zby5])) else ((pr (zby9 c)) && ((BasZAt.onB (BasZAt.OutOk (zby9 c) p 0 1 (sz (zby9 c)) 0 (((((3 + (c.3 * 1)) + (c.3 * 1)) + (2 * c.5)) + (2 * c.5)) + 1) (q3 c) (q2 c p) atA atB)) && (bif (BasZAt.onB (BasZAt.Found 10 0 1 (sz (zby9 c)) p)) then (k (AV.tup [.int .i64 (((((((3 + (c.3 * 1)) + (c.3 * 1)) + (2 * c.5)) + (2 * c.5)) + 1) + ((p.2 - 0) * (sz (zby9 c)))) + p.3), zby5])) else ((BasZAt.onB (BasZAt.OutOk (zby9 c) p 1 1 1 1 ((((((3 + (c.3 * 1)) + (c.3 * 1)) + (2 * c.5)) + (2 * c.5)) + 1) + (1 * (sz (zby9 c)))) (q3 c) (q2 c p) atA atB)) && (bif (zby7 p) then (k (AV.tup [.int .i64 ((((((((3 + (c.3 * 1)) + (c.3 * 1)) + (2 * c.5)) + (2 * c.5)) + 1) + (1 * (sz (zby9 c)))) + ((p.2 - 1) * 1)) + p.3), zby5])) else ((pr (zby9 c)) && ((BasZAt.onB (BasZAt.OutOk (zby9 c) p 1 1 (sz (zby9 c)) 1 (((((((3 + (c.3 * 1)) + (c.3 * 1)) + (2 * c.5)) + (2 * c.5)) + 1) + (1 * (sz (zby9 c)))) + 1) (q3 c) (q2 c p) atA atB)) && (bif (BasZAt.onB (BasZAt.Found 10 1 1 (sz (zby9 c)) p)) then (k (AV.tup [.int .i64 (((((((((3 + (c.3 * 1)) + (c.3 * 1)) + (2 * c.5)) + (2 * c.5)) + 1) + (1 * (sz (zby9 c)))) + 1) + ((p.2 - 1) * (sz (zby9 c)))) + p.3), zby5])) else ((BasZAt.onB (BasZAt.OutOk (zby9 c) p 2 1 1 2 ((((((((3 + (c.3 * 1)) + (c.3 * 1)) + (2 * c.5)) + (2 * c.5)) + 1) + (1 * (sz (zby9 c)))) + 1) + (1 * (sz (zby9 c)))) (q3 c) (q2 c p) atA atB)) && (bif (zby10 p) then (k (AV.tup [.int .i64 ((((((((((3 + (c.3 * 1)) + (c.3 * 1)) + (2 * c.5)) + (2 * c.5)) + 1) + (1 * (sz (zby9 c)))) + 1) + (1 * (sz (zby9 c)))) + ((p.2 - 2) * 1)) + p.3), zby5])) else ((pr (zby9 c)) && ((BasZAt.onB (BasZAt.OutOk (zby9 c) p 2 1 (sz (zby9 c)) 2 (((((((((3 + (c.3 * 1)) + (c.3 * 1)) + (2 * c.5)) + (2 * c.5)) + 1) + (1 * (sz (zby9 c)))) + 1) + (1 * (sz (zby9 c)))) + 1) (q3 c) (q2 c p) atA atB)) && (bif (BasZAt.onB (BasZAt.Found 10 2 1 (sz (zby9 c)) p)) then (k (AV.tup [.int .i64 (((((((((((3 + (c.3 * 1)) + (c.3 * 1)) + (2 * c.5)) + (2 * c.5)) + 1) + (1 * (sz (zby9 c)))) + 1) + (1 * (sz (zby9 c)))) + 1) + ((p.2 - 2) * (sz (zby9 c)))) + p.3), zby5])) else (k (AV.tup [zby5, .int .i64 2]))))))))))))))))))))))))))))))))) := by kernel_rfl
abbrev zby11 (c : Conf) : List AV := [.int .u8 c.1, .int .i64 4, .int .i64 c.3, .int .u8 c.4, .int .i64 c.5, .int .i64 c.6, .int .i64 c.7, .int .i64 c.8, .int .i64 c.9, .int .i64 c.10, .int .u64 c.11, .int .u64 c.12]
abbrev zby12 (c : Conf) := Conf.mk c.1 4 c.3 c.4 c.5 c.6 c.7 c.8 c.9 c.10 c.11 c.12
abbrev q4 (c : Conf) (p : Plc) := [.agg (zby11 c), (zby1 p), .ptr 0 0, .ptr 1 0, .ptr 2 0, .ptr 3 0, .int .i64 (errC (zby12 c)), .ptr 4 0, zby3, .agg (zby11 c), .int .i64 (errC (zby12 c)), .int .i64 (errC (zby12 c)), .bool Bool.false, zby3, .agg (zby11 c), zby4, zby3, zby3, zby3, zby3, zby3, zby3, zby3]
abbrev q5 (c : Conf) := (zby11 c)
theorem t_at4 (c : Conf) (p : Plc) (sz : Conf -> Int) (pr : Conf -> Bool) (k : AV -> Bool) : runF (cfgX [S_check, (SA_sz sz pr)] [(142, F_each)]) 300 40 [(ci 4 c).av, p.av] k false = (bif (!decide ((errC (zby12 c)) = 0)) then (k (AV.tup [zby5, .int .i64 (errC (zby12 c))])) else ((BasZAt.onB (BasZAt.OutOk (zby12 c) p 0 1 1 0 0 (q5 c) (q4 c p) atA atB)) && (bif (BasZAt.onB (BasZAt.Found 1 0 1 1 p)) then (bif decide (c.4 = 1) then (k (AV.tup [.int .i64 ((0 + ((p.2 - 0) * 1)) + p.3), zby5])) else (k (AV.tup [.int .i64 ((0 + ((p.2 - 0) * 1)) + p.3), zby5]))) else ((BasZAt.onB (BasZAt.OutOk (zby12 c) p 0 1 1 0 1 (q5 c) (q4 c p) atA atB)) && (bif (BasZAt.onB (BasZAt.Found 2 0 1 1 p)) then (bif decide (c.4 = 1) then (k (AV.tup [.int .i64 ((1 + ((p.2 - 0) * 1)) + p.3), zby5])) else (k (AV.tup [.int .i64 ((1 + ((p.2 - 0) * 1)) + p.3), zby5]))) else ((BasZAt.onB (BasZAt.OutOk (zby12 c) p 0 1 1 0 2 (q5 c) (q4 c p) atA atB)) && (bif (BasZAt.onB (BasZAt.Found 3 0 1 1 p)) then (bif decide (c.4 = 1) then (k (AV.tup [.int .i64 ((2 + ((p.2 - 0) * 1)) + p.3), zby5])) else (k (AV.tup [.int .i64 ((2 + ((p.2 - 0) * 1)) + p.3), zby5]))) else ((BasZAt.onB (BasZAt.OutOk (zby12 c) p 0 c.3 1 0 3 (q5 c) (q4 c p) atA atB)) && (bif (BasZAt.onB (BasZAt.Found 4 0 c.3 1 p)) then (bif decide (c.4 = 1) then (k (AV.tup [.int .i64 ((3 + ((p.2 - 0) * 1)) + p.3), zby5])) else (k (AV.tup [.int .i64 ((3 + ((p.2 - 0) * 1)) + p.3), zby5]))) else ((BasZAt.onB (BasZAt.OutOk (zby12 c) p 0 c.3 1 0 (3 + (c.3 * 1)) (q5 c) (q4 c p) atA atB)) && (bif (BasZAt.onB (BasZAt.Found 5 0 c.3 1 p)) then (bif decide (c.4 = 1) then (k (AV.tup [.int .i64 (((3 + (c.3 * 1)) + ((p.2 - 0) * 1)) + p.3), zby5])) else (k (AV.tup [.int .i64 (((3 + (c.3 * 1)) + ((p.2 - 0) * 1)) + p.3), zby5]))) else (bif decide (c.4 = 1) then ((BasZAt.onB (BasZAt.OutOk (zby12 c) p 0 2 c.3 0 ((3 + (c.3 * 1)) + (c.3 * 1)) (q5 c) (q4 c p) atA atB)) && (bif (BasZAt.onB (BasZAt.Found 6 0 2 c.3 p)) then (k (AV.tup [.int .i64 ((((3 + (c.3 * 1)) + (c.3 * 1)) + ((p.2 - 0) * c.3)) + p.3), zby5])) else ((BasZAt.onB (BasZAt.OutOk (zby12 c) p 0 1 1 0 (((3 + (c.3 * 1)) + (c.3 * 1)) + (2 * c.3)) (q5 c) (q4 c p) atA atB)) && (bif (zby6 p) then (k (AV.tup [.int .i64 (((((3 + (c.3 * 1)) + (c.3 * 1)) + (2 * c.3)) + ((p.2 - 0) * 1)) + p.3), zby5])) else ((pr (zby12 c)) && ((BasZAt.onB (BasZAt.OutOk (zby12 c) p 0 1 (sz (zby12 c)) 0 ((((3 + (c.3 * 1)) + (c.3 * 1)) + (2 * c.3)) + 1) (q5 c) (q4 c p) atA atB)) && (bif (BasZAt.onB (BasZAt.Found 10 0 1 (sz (zby12 c)) p)) then (k (AV.tup [.int .i64 ((((((3 + (c.3 * 1)) + (c.3 * 1)) + (2 * c.3)) + 1) + ((p.2 - 0) * (sz (zby12 c)))) + p.3), zby5])) else ((BasZAt.onB (BasZAt.OutOk (zby12 c) p 1 1 1 1 (((((3 + (c.3 * 1)) + (c.3 * 1)) + (2 * c.3)) + 1) + (1 * (sz (zby12 c)))) (q5 c) (q4 c p) atA atB)) && (bif (zby7 p) then (k (AV.tup [.int .i64 (((((((3 + (c.3 * 1)) + (c.3 * 1)) + (2 * c.3)) + 1) + (1 * (sz (zby12 c)))) + ((p.2 - 1) * 1)) + p.3), zby5])) else ((pr (zby12 c)) && ((BasZAt.onB (BasZAt.OutOk (zby12 c) p 1 1 (sz (zby12 c)) 1 ((((((3 + (c.3 * 1)) + (c.3 * 1)) + (2 * c.3)) + 1) + (1 * (sz (zby12 c)))) + 1) (q5 c) (q4 c p) atA atB)) && (bif (BasZAt.onB (BasZAt.Found 10 1 1 (sz (zby12 c)) p)) then (k (AV.tup [.int .i64 ((((((((3 + (c.3 * 1)) + (c.3 * 1)) + (2 * c.3)) + 1) + (1 * (sz (zby12 c)))) + 1) + ((p.2 - 1) * (sz (zby12 c)))) + p.3), zby5])) else ((BasZAt.onB (BasZAt.OutOk (zby12 c) p 2 1 1 2 (((((((3 + (c.3 * 1)) + (c.3 * 1)) + (2 * c.3)) + 1) + (1 * (sz (zby12 c)))) + 1) + (1 * (sz (zby12 c)))) (q5 c) (q4 c p) atA atB)) && (bif (zby10 p) then (k (AV.tup [.int .i64 (((((((((3 + (c.3 * 1)) + (c.3 * 1)) + (2 * c.3)) + 1) + (1 * (sz (zby12 c)))) + 1) + (1 * (sz (zby12 c)))) + ((p.2 - 2) * 1)) + p.3), zby5])) else ((pr (zby12 c)) && ((BasZAt.onB (BasZAt.OutOk (zby12 c) p 2 1 (sz (zby12 c)) 2 ((((((((3 + (c.3 * 1)) + (c.3 * 1)) + (2 * c.3)) + 1) + (1 * (sz (zby12 c)))) + 1) + (1 * (sz (zby12 c)))) + 1) (q5 c) (q4 c p) atA atB)) && (bif (BasZAt.onB (BasZAt.Found 10 2 1 (sz (zby12 c)) p)) then (k (AV.tup [.int .i64 ((((((((((3 + (c.3 * 1)) + (c.3 * 1)) + (2 * c.3)) + 1) + (1 * (sz (zby12 c)))) + 1) + (1 * (sz (zby12 c)))) + 1) + ((p.2 - 2) * (sz (zby12 c)))) + p.3), zby5])) else ((BasZAt.onB (BasZAt.OutOk (zby12 c) p 3 1 1 3 (((((((((3 + (c.3 * 1)) + (c.3 * 1)) + (2 * c.3)) + 1) + (1 * (sz (zby12 c)))) + 1) + (1 * (sz (zby12 c)))) + 1) + (1 * (sz (zby12 c)))) (q5 c) (q4 c p) atA atB)) && (bif (BasZAt.onB (BasZAt.Found 9 3 1 1 p)) then (k (AV.tup [.int .i64 (((((((((((3 + (c.3 * 1)) + (c.3 * 1)) + (2 * c.3)) + 1) + (1 * (sz (zby12 c)))) + 1) + (1 * (sz (zby12 c)))) + 1) + (1 * (sz (zby12 c)))) + ((p.2 - 3) * 1)) + p.3), zby5])) else ((pr (zby12 c)) && ((BasZAt.onB (BasZAt.OutOk (zby12 c) p 3 1 (sz (zby12 c)) 3 ((((((((((3 + (c.3 * 1)) + (c.3 * 1)) + (2 * c.3)) + 1) + (1 * (sz (zby12 c)))) + 1) + (1 * (sz (zby12 c)))) + 1) + (1 * (sz (zby12 c)))) + 1) (q5 c) (q4 c p) atA atB)) && (bif (BasZAt.onB (BasZAt.Found 10 3 1 (sz (zby12 c)) p)) then (k (AV.tup [.int .i64 ((((((((((((3 + (c.3 * 1)) + (c.3 * 1)) + (2 * c.3)) + 1) + (1 * (sz (zby12 c)))) + 1) + (1 * (sz (zby12 c)))) + 1) + (1 * (sz (zby12 c)))) + 1) + ((p.2 - 3) * (sz (zby12 c)))) + p.3), zby5])) else (k (AV.tup [zby5, .int .i64 2])))))))))))))))))))))))) else ((BasZAt.onB (BasZAt.OutOk (zby12 c) p 0 2 c.5 0 ((3 + (c.3 * 1)) + (c.3 * 1)) (q5 c) (q4 c p) atA atB)) && (bif (BasZAt.onB (BasZAt.Found 7 0 2 c.5 p)) then (k (AV.tup [.int .i64 ((((3 + (c.3 * 1)) + (c.3 * 1)) + ((p.2 - 0) * c.5)) + p.3), zby5])) else ((BasZAt.onB (BasZAt.OutOk (zby12 c) p 0 2 c.5 0 (((3 + (c.3 * 1)) + (c.3 * 1)) + (2 * c.5)) (q5 c) (q4 c p) atA atB)) && (bif (BasZAt.onB (BasZAt.Found 8 0 2 c.5 p)) then (k (AV.tup [.int .i64 (((((3 + (c.3 * 1)) + (c.3 * 1)) + (2 * c.5)) + ((p.2 - 0) * c.5)) + p.3), zby5])) else ((BasZAt.onB (BasZAt.OutOk (zby12 c) p 0 1 1 0 ((((3 + (c.3 * 1)) + (c.3 * 1)) + (2 * c.5)) + (2 * c.5)) (q5 c) (q4 c p) atA atB)) && (bif (zby6 p) then (k (AV.tup [.int .i64 ((((((3 + (c.3 * 1)) + (c.3 * 1)) + (2 * c.5)) + (2 * c.5)) + ((p.2 - 0) * 1)) + p.3), zby5])) else ((pr (zby12 c)) && ((BasZAt.onB (BasZAt.OutOk (zby12 c) p 0 1 (sz (zby12 c)) 0 (((((3 + (c.3 * 1)) + (c.3 * 1)) + (2 * c.5)) + (2 * c.5)) + 1) (q5 c) (q4 c p) atA atB)) && (bif (BasZAt.onB (BasZAt.Found 10 0 1 (sz (zby12 c)) p)) then (k (AV.tup [.int .i64 (((((((3 + (c.3 * 1)) + (c.3 * 1)) + (2 * c.5)) + (2 * c.5)) + 1) + ((p.2 - 0) * (sz (zby12 c)))) + p.3), zby5])) else ((BasZAt.onB (BasZAt.OutOk (zby12 c) p 1 1 1 1 ((((((3 + (c.3 * 1)) + (c.3 * 1)) + (2 * c.5)) + (2 * c.5)) + 1) + (1 * (sz (zby12 c)))) (q5 c) (q4 c p) atA atB)) && (bif (zby7 p) then (k (AV.tup [.int .i64 ((((((((3 + (c.3 * 1)) + (c.3 * 1)) + (2 * c.5)) + (2 * c.5)) + 1) + (1 * (sz (zby12 c)))) + ((p.2 - 1) * 1)) + p.3), zby5])) else ((pr (zby12 c)) && ((BasZAt.onB (BasZAt.OutOk (zby12 c) p 1 1 (sz (zby12 c)) 1 (((((((3 + (c.3 * 1)) + (c.3 * 1)) + (2 * c.5)) + (2 * c.5)) + 1) + (1 * (sz (zby12 c)))) + 1) (q5 c) (q4 c p) atA atB)) && (bif (BasZAt.onB (BasZAt.Found 10 1 1 (sz (zby12 c)) p)) then (k (AV.tup [.int .i64 (((((((((3 + (c.3 * 1)) + (c.3 * 1)) + (2 * c.5)) + (2 * c.5)) + 1) + (1 * (sz (zby12 c)))) + 1) + ((p.2 - 1) * (sz (zby12 c)))) + p.3), zby5])) else ((BasZAt.onB (BasZAt.OutOk (zby12 c) p 2 1 1 2 ((((((((3 + (c.3 * 1)) + (c.3 * 1)) + (2 * c.5)) + (2 * c.5)) + 1) + (1 * (sz (zby12 c)))) + 1) + (1 * (sz (zby12 c)))) (q5 c) (q4 c p) atA atB)) && (bif (zby10 p) then (k (AV.tup [.int .i64 ((((((((((3 + (c.3 * 1)) + (c.3 * 1)) + (2 * c.5)) + (2 * c.5)) + 1) + (1 * (sz (zby12 c)))) + 1) + (1 * (sz (zby12 c)))) + ((p.2 - 2) * 1)) + p.3), zby5])) else ((pr (zby12 c)) && ((BasZAt.onB (BasZAt.OutOk (zby12 c) p 2 1 (sz (zby12 c)) 2 (((((((((3 + (c.3 * 1)) + (c.3 * 1)) + (2 * c.5)) + (2 * c.5)) + 1) + (1 * (sz (zby12 c)))) + 1) + (1 * (sz (zby12 c)))) + 1) (q5 c) (q4 c p) atA atB)) && (bif (BasZAt.onB (BasZAt.Found 10 2 1 (sz (zby12 c)) p)) then (k (AV.tup [.int .i64 (((((((((((3 + (c.3 * 1)) + (c.3 * 1)) + (2 * c.5)) + (2 * c.5)) + 1) + (1 * (sz (zby12 c)))) + 1) + (1 * (sz (zby12 c)))) + 1) + ((p.2 - 2) * (sz (zby12 c)))) + p.3), zby5])) else ((BasZAt.onB (BasZAt.OutOk (zby12 c) p 3 1 1 3 ((((((((((3 + (c.3 * 1)) + (c.3 * 1)) + (2 * c.5)) + (2 * c.5)) + 1) + (1 * (sz (zby12 c)))) + 1) + (1 * (sz (zby12 c)))) + 1) + (1 * (sz (zby12 c)))) (q5 c) (q4 c p) atA atB)) && (bif (BasZAt.onB (BasZAt.Found 9 3 1 1 p)) then (k (AV.tup [.int .i64 ((((((((((((3 + (c.3 * 1)) + (c.3 * 1)) + (2 * c.5)) + (2 * c.5)) + 1) + (1 * (sz (zby12 c)))) + 1) + (1 * (sz (zby12 c)))) + 1) + (1 * (sz (zby12 c)))) + ((p.2 - 3) * 1)) + p.3), zby5])) else ((pr (zby12 c)) && ((BasZAt.onB (BasZAt.OutOk (zby12 c) p 3 1 (sz (zby12 c)) 3 (((((((((((3 + (c.3 * 1)) + (c.3 * 1)) + (2 * c.5)) + (2 * c.5)) + 1) + (1 * (sz (zby12 c)))) + 1) + (1 * (sz (zby12 c)))) + 1) + (1 * (sz (zby12 c)))) + 1) (q5 c) (q4 c p) atA atB)) && (bif (BasZAt.onB (BasZAt.Found 10 3 1 (sz (zby12 c)) p)) then (k (AV.tup [.int .i64 (((((((((((((3 + (c.3 * 1)) + (c.3 * 1)) + (2 * c.5)) + (2 * c.5)) + 1) + (1 * (sz (zby12 c)))) + 1) + (1 * (sz (zby12 c)))) + 1) + (1 * (sz (zby12 c)))) + 1) + ((p.2 - 3) * (sz (zby12 c)))) + p.3), zby5])) else (k (AV.tup [zby5, .int .i64 2])))))))))))))))))))))))))))))))))))))) := by kernel_rfl
theorem t_atbad (c : Conf) (p : Plc) (k : AV -> Bool) : runFM (cfg [S_check]) 300 40 [F_dead] [c.av, p.av] k = ((!decide ((errC c) = 0)) && (k (AV.tup [zby5, .int .i64 (errC c)]))) := by kernel_rfl
end
end Go.Bas.BasZAt3
end
