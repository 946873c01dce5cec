/- What the functions answer, as plain Lean: configs, stages, cells. -/
import Derived.Test.YtomiknbiencggaaBasNM
namespace Go.Bas
open Go.RowKit

theorem condI {b x y : Bool} (h1 : b = true → x = true) (h2 : b = false → y = true) : cond b x y = true := by cases b <;> simp_all
theorem andI {b x : Bool} (h1 : b = true) (h2 : x = true) : (b && x) = true := by simp_all

/-- A config. -/
structure Conf where
  (ob ins thr kind str bits cap node batch chunk limit most : Int)
def Conf.av (c : Conf) : AV := .agg [.int .u8 c.ob, .int .i64 c.ins, .int .i64 c.thr, .int .u8 c.kind, .int .i64 c.str, .int .i64 c.bits, .int .i64 c.cap, .int .i64 c.node, .int .i64 c.batch, .int .i64 c.chunk, .int .u64 c.limit, .int .u64 c.most]
def Conf.cells (c : Conf) : List AV := [.int .u8 c.ob, .int .i64 c.ins, .int .i64 c.thr, .int .u8 c.kind, .int .i64 c.str, .int .i64 c.bits, .int .i64 c.cap, .int .i64 c.node, .int .i64 c.batch, .int .i64 c.chunk, .int .u64 c.limit, .int .u64 c.most]
def confOf : AV → Option Conf
  | .agg [.int .u8 ob, .int .i64 ins, .int .i64 thr, .int .u8 kind, .int .i64 str, .int .i64 bits, .int .i64 cap, .int .i64 node, .int .i64 batch, .int .i64 chunk, .int .u64 limit, .int .u64 most] => some ⟨ob, ins, thr, kind, str, bits, cap, node, batch, chunk, limit, most⟩
  | _ => none
theorem confOf_some {a : AV} {c : Conf} (h : confOf a = some c) : a = c.av := by
  unfold confOf at h
  split at h
  · simp only [Option.some.injEq] at h
    subst h
    rfl
  · cases h

/-- A stage, and a cell. -/
structure Stg where
  (batch number mask frm : Int)
def Stg.av (s : Stg) : AV := .agg [.int .u64 s.batch, .int .i64 s.number, .int .u64 s.mask, .int .i64 s.frm]
def stgOf : AV → Option Stg
  | .agg [.int .u64 b, .int .i64 n, .int .u64 m, .int .i64 f] => some ⟨b, n, m, f⟩
  | _ => none
theorem stgOf_some {a : AV} {c : Stg} (h : stgOf a = some c) : a = c.av := by
  unfold stgOf at h
  split at h
  · simp only [Option.some.injEq] at h
    subst h
    rfl
  · cases h
structure Cel where
  (tag a b c : Int)
def Cel.av (l : Cel) : AV := .agg [.int .u64 l.tag, .int .u64 l.a, .int .u64 l.b, .int .u64 l.c]
def celOf : AV → Option Cel
  | .agg [.int .u64 t, .int .u64 a, .int .u64 b, .int .u64 c] => some ⟨t, a, b, c⟩
  | _ => none
theorem celOf_some {a : AV} {c : Cel} (h : celOf a = some c) : a = c.av := by
  unfold celOf at h
  split at h
  · simp only [Option.some.injEq] at h
    subst h
    rfl
  · cases h

/-- Functions of a config, and of more. -/
def onConf (g : Conf → AV) : List AV → Option (Bool × AV)
  | [a] => match confOf a with
    | some c => some (true, g c)
    | none => none
  | _ => none
def onConf2 {β : Type} (r : AV → Option β) (p : Conf → β → Bool) (g : Conf → β → AV) : List AV → Option (Bool × AV)
  | [a, b] => match confOf a, r b with
    | some c, some s => some (p c s, g c s)
    | _, _ => none
  | _ => none
section
variable {P : Program} {G : Nat → Option (List AV)} {f : FuncId}
theorem onConf_sum {g : Conf → AV} (h : ∀ c : Conf, ACalls P G f [c.av] (fun v => v = g c)) : SumOk P G (f, onConf g) := fun args r hr => by
  simp only at hr
  unfold onConf at hr
  split at hr
  · split at hr
    · rename_i c hc
      cases confOf_some hc
      simp only [Option.some.injEq, Prod.mk.injEq, true_and] at hr
      subst hr
      exact h c
    · cases hr
  · cases hr
theorem onConf2_sum {β : Type} {rd : AV → Option β} {av : β → AV} (hrd : ∀ a s, rd a = some s → a = av s) {p : Conf → β → Bool} {g : Conf → β → AV} (h : ∀ (c : Conf) (s : β), p c s = true → ACalls P G f [c.av, av s] (fun v => v = g c s)) : SumOk P G (f, onConf2 rd p g) := fun args r hr => by
  simp only at hr
  unfold onConf2 at hr
  split at hr
  · split at hr
    · rename_i c s hc hs
      cases confOf_some hc
      cases hrd _ _ hs
      simp only [Option.some.injEq, Prod.mk.injEq] at hr
      obtain ⟨hp, hr⟩ := hr
      subst hr
      exact h c s hp
    · cases hr
  · cases hr
end

def within (is : Bool) (n l m : Int) : Bool := cond is (decide (n ≥ l) && decide (n ≤ m)) (n == 0)
theorem within_true {b : Bool} {n l m : Int} : within b n l m = true ↔ (b = true ∧ l ≤ n ∧ n ≤ m) ∨ (b = false ∧ n = 0) := by cases b <;> simp [within]
theorem within_false {b : Bool} {n l m : Int} : within b n l m = false ↔ (b = true ∧ (n < l ∨ m < n)) ∨ (b = false ∧ ¬ n = 0) := by
  cases b
  · simp [within]
  · simp [within]; omega
def Fwithin : List AV → Option (Bool × AV)
  | [.bool b, .int .i64 n, .int .i64 l, .int .i64 m] => some (true, .bool (within b n l m))
  | _ => none
def wideB (n : Int) : Bool := decide (n ≥ 2) && decide (n ≤ 4)
theorem wideB_true {n : Int} : wideB n = true ↔ 2 ≤ n ∧ n ≤ 4 := by simp [wideB]
theorem wideB_false {n : Int} : wideB n = false ↔ n < 2 ∨ 4 < n := by simp [wideB]; omega
def Fwide : List AV → Option (Bool × AV)
  | [.int .i64 n] => some (true, .bool (wideB n))
  | _ => none
def pow2 (n : Int) : Int := 2 ^ n.toNat
def Ftwo : List AV → Option (Bool × AV)
  | [.int .i64 n] => some (decide (n ≤ 16), .int .u64 (pow2 n))
  | _ => none

/-- A config that may be. -/
def Conf.OkP (c : Conf) : Prop := 1 ≤ c.ob ∧ c.ob ≤ 4 ∧ (c.kind = 1 ∧ c.str = 0 ∧ c.most = 0 ∨ c.kind = 2 ∧ 1 ≤ c.str ∧ c.str ≤ 4 ∧ 1 ≤ c.most ∧ c.most ≤ 4611686018427387904) ∧ 2 ≤ c.ins ∧ c.ins ≤ 4 ∧ 1 ≤ c.thr ∧ c.thr ≤ 16 ∧
  (c.ob = 1 ∧ 1 ≤ c.bits ∧ c.bits ≤ 6 ∨ ¬ c.ob = 1 ∧ c.bits = 0) ∧ 1 ≤ c.cap ∧ c.cap ≤ 32 ∧ (c.ob = 2 ∧ 2 ≤ c.node ∧ c.node ≤ 4 ∧ 1 ≤ c.chunk ∧ c.chunk ≤ 8 ∨ ¬ c.ob = 2 ∧ c.node = 0 ∧ c.chunk = 0) ∧
  1 ≤ c.batch ∧ c.batch ≤ 16 ∧ 131072 ≤ c.limit ∧ c.limit ≤ 4611686018427387904
instance (c : Conf) : Decidable c.OkP := by unfold Conf.OkP; infer_instance
def Conf.ok (c : Conf) : Bool := decide c.OkP
theorem ok_true {c : Conf} : c.ok = true ↔ c.OkP := decide_eq_true_iff
theorem ok_false {c : Conf} : c.ok = false ↔ ¬ c.OkP := decide_eq_false_iff_not

def restS (c : Conf) : Int := IntKind.wrap .i64 (c.ins + 5)
def batches (c : Conf) : Int := IntKind.wrap .u64 (c.limit.tdiv 65536)
def lastS (c : Conf) : Int := IntKind.wrap .u64 (IntKind.wrap .u64 (c.limit.tdiv 65536) - 1)
/-- A stage that may be: as the program tells it, and as the document does. -/
def mayP (c : Conf) (s : Stg) : Bool := decide (1 ≤ s.number ∧ s.number ≤ restS c ∧ s.batch < batches c ∧ ishr .u64 s.mask c.thr = 0 ∧ 0 ≤ s.frm ∧ s.frm < c.thr ∧ (s.batch = 0 ∧ s.number = restS c ∨ ¬ s.batch = 0 ∧ ¬ s.mask = 0))
def mayR (c : Conf) (s : Stg) : Bool := decide (1 ≤ s.number ∧ s.number ≤ restS c ∧ s.batch ≤ lastS c ∧ 0 ≤ s.frm ∧ s.frm < c.thr ∧ s.mask < pow2 c.thr ∧ (s.batch = 0 ∧ s.number = restS c ∨ ¬ s.batch = 0 ∧ ¬ s.mask = 0))
theorem mayP_true {c : Conf} {s : Stg} : mayP c s = true ↔ (1 ≤ s.number ∧ s.number ≤ restS c ∧ s.batch < batches c ∧ ishr .u64 s.mask c.thr = 0 ∧ 0 ≤ s.frm ∧ s.frm < c.thr ∧ (s.batch = 0 ∧ s.number = restS c ∨ ¬ s.batch = 0 ∧ ¬ s.mask = 0)) := decide_eq_true_iff
theorem mayR_true {c : Conf} {s : Stg} : mayR c s = true ↔ (1 ≤ s.number ∧ s.number ≤ restS c ∧ s.batch ≤ lastS c ∧ 0 ≤ s.frm ∧ s.frm < c.thr ∧ s.mask < pow2 c.thr ∧ (s.batch = 0 ∧ s.number = restS c ∨ ¬ s.batch = 0 ∧ ¬ s.mask = 0)) := decide_eq_true_iff
/-- A config's error. -/
def errC (c : Conf) : Int := cond c.ok 0 40
def chk (may : Conf → Stg → Bool) (c : Conf) (s : Stg) : Int := cond c.ok (cond (may c s) 0 2) 40
def celOfS (e : Int) (s : Stg) : AV := .agg [.int .u64 (cond (decide (e = 0)) (IntKind.wrap .u64 (IntKind.wrap .u64 (s.batch * 65536) + IntKind.wrap .u64 s.number)) 0), .int .u64 (cond (decide (e = 0)) s.mask 0), .int .u64 (cond (decide (e = 0)) (IntKind.wrap .u64 s.frm) 0), .int .u64 0]
end Go.Bas
namespace Go.Bas
/-- A number, where there is no error. -/
def zif (e x : Int) : Int := cond (decide (e = 0)) x 0
def tagS (s : Stg) : Int := IntKind.wrap .u64 (IntKind.wrap .u64 (s.batch * 65536) + IntKind.wrap .u64 s.number)
def laidAV (e : Int) (s : Stg) : AV := .tup [.agg [.int .u64 (zif e (tagS s)), .int .u64 (zif e s.mask), .int .u64 (zif e (IntKind.wrap .u64 s.frm)), .int .u64 0], .int .i64 e]
def celStg (l : Cel) : Stg := ⟨IntKind.wrap .u64 (l.tag.tdiv 65536), IntKind.wrap .i64 (l.tag.tmod 65536), l.a, IntKind.wrap .i64 l.b⟩
def ofP (c : Conf) (l : Cel) : Int := cond c.ok (cond (decide (l.b ≥ IntKind.wrap .u64 c.thr)) 2 (cond (decide (l.c = 0)) (cond (mayP c (celStg l)) 0 2) 2)) 40
def ofR (c : Conf) (l : Cel) : Int := cond c.ok (cond (decide (l.b > 16)) 2 (cond (decide (l.c = 0)) (cond (mayR c (celStg l)) 0 2) 2)) 40
def ofAV (e : Int) (l : Cel) : AV := .tup [.agg [.int .u64 (zif e (celStg l).batch), .int .i64 (zif e (celStg l).number), .int .u64 (zif e l.a), .int .i64 (zif e (celStg l).frm)], .int .i64 e]
def Fcell : List AV → Option (Bool × AV)
  | [a] => match stgOf a with
    | some s => some (true, .agg [.int .u64 (tagS s), .int .u64 s.mask, .int .u64 (IntKind.wrap .u64 s.frm), .int .u64 0])
    | none => none
  | _ => none
end Go.Bas
