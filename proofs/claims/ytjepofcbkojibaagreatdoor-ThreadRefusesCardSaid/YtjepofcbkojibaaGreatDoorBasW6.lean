/- The engine, part Tr: trees of conditions asv values, and what a function answers by the parts of its; What the functions answer, asv plain Lean: configs, stages, cells; The engine, part Ts: summaries read off arguments of known shapes; the shapes of chapters 1 to 25; The engine, part Tx: the shapes of chapters 26 to 28: looks, readers, writers; The engine, part Ty: the shape of a writer, with its lists; The engine, part Wk: what says less of a value; summaries that take more arguments, or say less of t; The engine, part Tz: the shape of a thread; The engine, part Thx: the shape of a thread whose lists are left asv they are; The engine, part Opn: a row's argument that is a struct with slices in it, seen abstractly. -/
import Derived.Test.YtjepofcbkojibaaGreatDoorBasW5
import Derived.SizedLaws
set_option maxRecDepth 100000
set_option maxHeartbeats 4000000
set_option linter.unusedVariables false
set_option linter.unusedSimpArgs false
section
namespace Go.Bas
noncomputable section
open Go.RowKit
inductive Tr where
 | leaf (l : List AV)
 | bad
 | br (b : Bool) (x y : Tr)
section
variable {Ω : Type}
def Tr.ev (t : Tr) (k : List AV -> Ω) (z : Ω) : Ω := Tr.rec (motive := fun _ => Ω) k z (fun b _ _ x y => cond b x y) t
theorem Tr.ev_br (b : Bool) (x y : Tr) (k : List AV -> Ω) (z : Ω) : (Tr.br b x y).ev k z = cond b (x.ev k z) (y.ev k z) := rfl
def fitsL : List CK -> List AV -> Bool
 | [], [] => true
 | .b :: ks, .bool _ :: r => fitsL ks r
 | .i k :: ks, .int k' _ :: r => kindEq k k' && fitsL ks r
 | _, _ => false
def Tr.fits (ks : List CK) : Tr -> Bool
 | .leaf l => fitsL ks l
 | .bad => true
 | .br _ x y => x.fits ks && y.fits ks
def Tr.int (t : Tr) (j : Nat) : Int := t.ev (fun l => (lget l j).toI) 0
def Tr.bool (t : Tr) (j : Nat) : Bool := t.ev (fun l => (lget l j).toB) false
def Tr.ok (t : Tr) : Bool := t.ev (fun _ => true) false
def Tr.mgA (t : Tr) : List CK -> Nat -> List AV
 | [], _ => []
 | .b :: ks, j => .bool (t.bool j) :: t.mgA ks (j + 1)
 | .i k :: ks, j => .int k (t.int j) :: t.mgA ks (j + 1)
 | _ :: ks, j => .any :: t.mgA ks (j + 1)
def Tr.mg (t : Tr) (ks : List CK) : List AV := t.mgA ks 0
theorem lget_drop (l : List AV) : ∀ (i j : Nat), lget (l.drop i) j = lget l (i + j) := fun i j => by
 rw [lget_eq, lget_eq, List.getD_eq_getElem?_getD, List.getD_eq_getElem?_getD, List.getElem?_drop]
theorem mgA_leaf (l : List AV) : ∀ (ks : List CK) (j : Nat), fitsL ks (l.drop j) = true -> (Tr.leaf l).mgA ks j = l.drop j
 | [], j, h => by
  cases hd : l.drop j with
  | nil => rfl
  | cons a r => rw [hd] at h; cases h
 | c :: ks, j, h => by
  cases hd : l.drop j with
  | nil => rw [hd] at h; cases c <;> cases h
  | cons a r =>
   have e0 : lget l j = a := by
    have := lget_drop l j 0; rw [hd] at this; exact this.symm
   have er : l.drop (j + 1) = r := by
    have : (l.drop j).drop 1 = l.drop (j + 1) := by rw [List.drop_drop]
    rw [<- this, hd]; rfl
   rw [hd] at h; cases c with
   | b =>
    cases a <;> try (cases h)
    rename_i b; have ih := mgA_leaf l ks (j + 1) (by rw [er]; exact h)
    show AV.bool (lget l j).toB :: (Tr.leaf l).mgA ks (j + 1) = _; rw [ih, e0, er]; rfl
   | i k =>
    cases a <;> try (cases h)
    rename_i k' n; simp only [fitsL, Bool.and_eq_true] at h; have hk := kindEq_eq h.1; subst hk; have ih := mgA_leaf l ks (j + 1) (by rw [er]; exact h.2)
    show AV.int k (lget l j).toI :: (Tr.leaf l).mgA ks (j + 1) = _; rw [ih, e0, er]; rfl
   | s => cases h
   | o => cases h
theorem mgA_true (x y : Tr) : ∀ (ks : List CK) (j : Nat), (Tr.br true x y).mgA ks j = x.mgA ks j
 | [], _ => rfl
 | .b :: ks, j => by show _ :: (Tr.br true x y).mgA ks (j + 1) = _; rw [mgA_true x y ks]; rfl
 | .i k :: ks, j => by show _ :: (Tr.br true x y).mgA ks (j + 1) = _; rw [mgA_true x y ks]; rfl
 | .s :: ks, j => by show _ :: (Tr.br true x y).mgA ks (j + 1) = _; rw [mgA_true x y ks]; rfl
 | .o :: ks, j => by show _ :: (Tr.br true x y).mgA ks (j + 1) = _; rw [mgA_true x y ks]; rfl
theorem mgA_false (x y : Tr) : ∀ (ks : List CK) (j : Nat), (Tr.br false x y).mgA ks j = y.mgA ks j
 | [], _ => rfl
 | .b :: ks, j => by show _ :: (Tr.br false x y).mgA ks (j + 1) = _; rw [mgA_false x y ks]; rfl
 | .i k :: ks, j => by show _ :: (Tr.br false x y).mgA ks (j + 1) = _; rw [mgA_false x y ks]; rfl
 | .s :: ks, j => by show _ :: (Tr.br false x y).mgA ks (j + 1) = _; rw [mgA_false x y ks]; rfl
 | .o :: ks, j => by show _ :: (Tr.br false x y).mgA ks (j + 1) = _; rw [mgA_false x y ks]; rfl
theorem Tr.merge {ks : List CK} {k : List AV -> Ω} {z : Ω} : ∀ {t : Tr}, t.fits ks = true -> t.ok = true -> t.ev k z = k (t.mg ks)
 | .leaf l, hf, _ => by
  have h := mgA_leaf l ks 0 hf; show k l = k ((Tr.leaf l).mgA ks 0); rw [h]; rfl
 | .bad, _, h => by cases h
 | .br b x y, hf, h => by
  simp only [Tr.fits, Bool.and_eq_true] at hf; cases b with
  | true =>
   show x.ev k z = k ((Tr.br true x y).mgA ks 0); rw [mgA_true]; exact Tr.merge hf.1 h
  | false =>
   show y.ev k z = k ((Tr.br false x y).mgA ks 0); rw [mgA_false]; exact Tr.merge hf.2 h
def Tr.eqv (t u : Tr) : Prop := ∀ (Ω : Type) (k : List AV -> Ω) (z : Ω), t.ev k z = u.ev k z
theorem Tr.eqv.int {t u : Tr} (h : t.eqv u) (j : Nat) : t.int j = u.int j := h Int _ 0
theorem Tr.eqv.bool {t u : Tr} (h : t.eqv u) (j : Nat) : t.bool j = u.bool j := h Bool _ false
theorem Tr.eqv.ok {t u : Tr} (h : t.eqv u) : t.ok = u.ok := h Bool _ false
theorem Tr.eqv.mgA {t u : Tr} (h : t.eqv u) : ∀ (ks : List CK) (j : Nat), t.mgA ks j = u.mgA ks j
 | [], _ => rfl
 | .b :: ks, j => by show AV.bool _ :: _ = AV.bool _ :: _; rw [h.bool, h.mgA ks]
 | .i k :: ks, j => by show AV.int k _ :: _ = AV.int k _ :: _; rw [h.int, h.mgA ks]
 | .s :: ks, j => by show AV.any :: _ = AV.any :: _; rw [h.mgA ks]
 | .o :: ks, j => by show AV.any :: _ = AV.any :: _; rw [h.mgA ks]
theorem Tr.eqv.mg {t u : Tr} (h : t.eqv u) (ks : List CK) : t.mg ks = u.mg ks := h.mgA ks 0
end
end
end Go.Bas
end
section
namespace Go.Bas
open Go.RowKit
theorem condI {b x y : Bool} (h1 : b = true -> x = true) (h2 : b = false -> y = true) : cond b x y = true := by cases b <;> simp_all
theorem andI {b x : Bool} (h1 : b = true) (h2 : x = true) : (b && x) = true := by simp_all
structure Conf where
 (ob ins thr kind str bits cap node batch chunk limit most : Int)
def Conf.av (c : Conf) : AV := .agg [.int .u8 c.ob, .int .i64 c.ins, .int .i64 c.thr, .int .u8 c.kind, .int .i64 c.str, .int .i64 c.bits, .int .i64 c.cap, .int .i64 c.node, .int .i64 c.batch, .int .i64 c.chunk, .int .u64 c.limit, .int .u64 c.most]
def Conf.cells (c : Conf) : List AV := [.int .u8 c.ob, .int .i64 c.ins, .int .i64 c.thr, .int .u8 c.kind, .int .i64 c.str, .int .i64 c.bits, .int .i64 c.cap, .int .i64 c.node, .int .i64 c.batch, .int .i64 c.chunk, .int .u64 c.limit, .int .u64 c.most]
def confOf : AV -> Option Conf
 | .agg [.int .u8 ob, .int .i64 ins, .int .i64 thr, .int .u8 kind, .int .i64 str, .int .i64 bits, .int .i64 cap, .int .i64 node, .int .i64 batch, .int .i64 chunk, .int .u64 limit, .int .u64 most] => some ⟨ob, ins, thr, kind, str, bits, cap, node, batch, chunk, limit, most⟩
 | _ => none
theorem confOf_some {a : AV} {c : Conf} (h : confOf a = some c) : a = c.av := by
 unfold confOf at h
 split at h
 ·simp only [Option.some.injEq] at h
  subst h; rfl
 ·cases h
structure Stg where
 (batch number mask frm : Int)
def Stg.av (s : Stg) : AV := .agg [.int .u64 s.batch, .int .i64 s.number, .int .u64 s.mask, .int .i64 s.frm]
def stgOf : AV -> Option Stg
 | .agg [.int .u64 b, .int .i64 n, .int .u64 m, .int .i64 f] => some ⟨b, n, m, f⟩
 | _ => none
theorem stgOf_some {a : AV} {c : Stg} (h : stgOf a = some c) : a = c.av := by
 unfold stgOf at h
 split at h
 ·simp only [Option.some.injEq] at h
  subst h; rfl
 ·cases h
structure Cel where
 (tag a b c : Int)
def Cel.av (l : Cel) : AV := .agg [.int .u64 l.tag, .int .u64 l.a, .int .u64 l.b, .int .u64 l.c]
def celOf : AV -> Option Cel
 | .agg [.int .u64 t, .int .u64 a, .int .u64 b, .int .u64 c] => some ⟨t, a, b, c⟩
 | _ => none
theorem celOf_some {a : AV} {c : Cel} (h : celOf a = some c) : a = c.av := by
 unfold celOf at h
 split at h
 ·simp only [Option.some.injEq] at h
  subst h; rfl
 ·cases h
def onConf (g : Conf -> AV) : List AV -> Option (Bool × AV)
 | [a] => match confOf a with
  | some c => some (true, g c)
  | none => none
 | _ => none
def onConf2 {β : Type} (r : AV -> Option β) (p : Conf -> β -> Bool) (g : Conf -> β -> AV) : List AV -> Option (Bool × AV)
 | [a, b] => match confOf a, r b with
  | some c, some s => some (p c s, g c s)
  | _, _ => none
 | _ => none
section
variable {P : Program} {G : Nat -> Option (List AV)} {f : FuncId}
theorem onConf_sum {g : Conf -> AV} (h : ∀ c : Conf, ACalls P G f [c.av] (fun v => v = g c)) : SumOk P G (f, onConf g) := fun args r hr => by
 simp only at hr
 unfold onConf at hr
 split at hr
 ·split at hr
  ·rename_i c hc
   cases confOf_some hc; simp only [Option.some.injEq, Prod.mk.injEq, true_and] at hr; subst hr; exact h c
  ·cases hr
 ·cases hr
theorem onConf2_sum {β : Type} {rd : AV -> Option β} {av : β -> AV} (hrd : ∀ a s, rd a = some s -> a = av s) {p : Conf -> β -> Bool} {g : Conf -> β -> AV} (h : ∀ (c : Conf) (s : β), p c s = true -> ACalls P G f [c.av, av s] (fun v => v = g c s)) : SumOk P G (f, onConf2 rd p g) := fun args r hr => by
 simp only at hr
 unfold onConf2 at hr
 split at hr
 ·split at hr
  ·rename_i c s hc hs
   cases confOf_some hc; cases hrd _ _ hs; simp only [Option.some.injEq, Prod.mk.injEq] at hr; obtain ⟨hp, hr⟩ := hr; subst hr; exact h c s hp
  ·cases hr
 ·cases hr
end
def within (is : Bool) (n l m : Int) : Bool := cond is (decide (n >= l) && decide (n <= m)) (n == 0)
theorem within_true {b : Bool} {n l m : Int} : within b n l m = true ↔ (b = true /\ l <= n /\ n <= m) \/ (b = false /\ n = 0) := by cases b <;> simp [within]
theorem within_false {b : Bool} {n l m : Int} : within b n l m = false ↔ (b = true /\ (n < l \/ m < n)) \/ (b = false /\ ¬ n = 0) := by
 cases b
 ·simp [within]
 ·simp [within]; omega
def Fwithin : List AV -> Option (Bool × AV)
 | [.bool b, .int .i64 n, .int .i64 l, .int .i64 m] => some (true, .bool (within b n l m))
 | _ => none
def Conf.OkP (c : Conf) : Prop := 1 <= c.ob /\ c.ob <= 4 /\ (c.kind = 1 /\ c.str = 0 /\ c.most = 0 \/ c.kind = 2 /\ 1 <= c.str /\ c.str <= 4 /\ 1 <= c.most /\ c.most <= 4611686018427387904) /\ 2 <= c.ins /\ c.ins <= 4 /\ 1 <= c.thr /\ c.thr <= 16 /\
 (c.ob = 1 /\ 1 <= c.bits /\ c.bits <= 6 \/ ¬ c.ob = 1 /\ c.bits = 0) /\ 1 <= c.cap /\ c.cap <= 32 /\ (c.ob = 2 /\ 2 <= c.node /\ c.node <= 4 /\ 1 <= c.chunk /\ c.chunk <= 8 \/ ¬ c.ob = 2 /\ c.node = 0 /\ c.chunk = 0) /\
 1 <= c.batch /\ c.batch <= 16 /\ 131072 <= c.limit /\ c.limit <= 4611686018427387904
instance (c : Conf) : Decidable c.OkP := by unfold Conf.OkP; infer_instance
def Conf.ok (c : Conf) : Bool := decide c.OkP
theorem ok_true {c : Conf} : c.ok = true ↔ c.OkP := decide_eq_true_iff
def restS (c : Conf) : Int := IntKind.wrap .i64 (c.ins + 5)
def batches (c : Conf) : Int := IntKind.wrap .u64 (c.limit.tdiv 65536)
def lastS (c : Conf) : Int := IntKind.wrap .u64 (IntKind.wrap .u64 (c.limit.tdiv 65536) - 1)
def mayP (c : Conf) (s : Stg) : Bool := decide (1 <= s.number /\ s.number <= restS c /\ s.batch < batches c /\ ishr .u64 s.mask c.thr = 0 /\ 0 <= s.frm /\ s.frm < c.thr /\ (s.batch = 0 /\ s.number = restS c \/ ¬ s.batch = 0 /\ ¬ s.mask = 0))
theorem mayP_true {c : Conf} {s : Stg} : mayP c s = true ↔ (1 <= s.number /\ s.number <= restS c /\ s.batch < batches c /\ ishr .u64 s.mask c.thr = 0 /\ 0 <= s.frm /\ s.frm < c.thr /\ (s.batch = 0 /\ s.number = restS c \/ ¬ s.batch = 0 /\ ¬ s.mask = 0)) := decide_eq_true_iff
def errC (c : Conf) : Int := cond c.ok 0 40
def chk (may : Conf -> Stg -> Bool) (c : Conf) (s : Stg) : Int := cond c.ok (cond (may c s) 0 2) 40
end Go.Bas
namespace Go.Bas
def zif (e x : Int) : Int := cond (decide (e = 0)) x 0
end Go.Bas
end
section
namespace Go.Bas
open Go.RowKit
def Tr.total : Tr -> Bool
 | .leaf _ => true
 | .bad => false
 | .br _ x y => x.total && y.total
theorem Tr.ok_of_total : ∀ {t : Tr}, t.total = true -> t.ok = true
 | .leaf _, _ => rfl
 | .bad, h => by cases h
 | .br b x y, h => by
  simp only [Tr.total, Bool.and_eq_true] at h; cases b
  ·exact Tr.ok_of_total (t := y) h.2
  ·exact Tr.ok_of_total (t := x) h.1
structure Rd (α : Type) where
 rd : AV -> Option α
 av : α -> AV
 ok : ∀ a x, rd a = some x -> a = av x
def rI (k : IntKind) : Rd Int := ⟨fun a => match a with
 | .int k' n => cond (kindEq k' k) (some n) none
 | _ => none, fun n => .int k n, fun a x h => by
  split at h
  ·rename_i k' n
   cases hk : kindEq k' k with
   | true =>
    rw [hk] at h; cases kindEq_eq hk; cases h; rfl
   | false => rw [hk] at h; cases h
  ·cases h⟩
def rB : Rd Bool := ⟨fun a => match a with
 | .bool b => some b
 | _ => none, fun b => .bool b, fun a x h => by
  split at h
  ·cases h; rfl
  ·cases h⟩
def rConf : Rd Conf := ⟨confOf, Conf.av, fun _ _ => confOf_some⟩
def rStg : Rd Stg := ⟨stgOf, Stg.av, fun _ _ => stgOf_some⟩
def rCel : Rd Cel := ⟨celOf, Cel.av, fun _ _ => celOf_some⟩
section
variable {α β γ δ ε : Type}
def on1 (a : Rd α) (p : α -> Bool) (g : α -> AV) : List AV -> Option (Bool × AV)
 | [x] => match a.rd x with
  | some x => some (p x, g x)
  | _ => none
 | _ => none
def on2 (a : Rd α) (b : Rd β) (p : α -> β -> Bool) (g : α -> β -> AV) : List AV -> Option (Bool × AV)
 | [x, y] => match a.rd x, b.rd y with
  | some x, some y => some (p x y, g x y)
  | _, _ => none
 | _ => none
def on3 (a : Rd α) (b : Rd β) (c : Rd γ) (p : α -> β -> γ -> Bool) (g : α -> β -> γ -> AV) : List AV -> Option (Bool × AV)
 | [x, y, z] => match a.rd x, b.rd y, c.rd z with
  | some x, some y, some z => some (p x y z, g x y z)
  | _, _, _ => none
 | _ => none
def on4 (a : Rd α) (b : Rd β) (c : Rd γ) (d : Rd δ) (p : α -> β -> γ -> δ -> Bool) (g : α -> β -> γ -> δ -> AV) : List AV -> Option (Bool × AV)
 | [x, y, z, u] => match a.rd x, b.rd y, c.rd z, d.rd u with
  | some x, some y, some z, some u => some (p x y z u, g x y z u)
  | _, _, _, _ => none
 | _ => none
variable {P : Program} {G : Nat -> Option (List AV)} {f : FuncId}
theorem on1_sum {a : Rd α} {p : α -> Bool} {g : α -> AV} (h : ∀ x, p x = true -> ACalls P G f [a.av x] (fun v => v = g x)) : SumOk P G (f, on1 a p g) := fun args r hr => by
 simp only at hr
 unfold on1 at hr
 split at hr
 ·split at hr
  ·rename_i x hx
   cases a.ok _ _ hx; simp only [Option.some.injEq, Prod.mk.injEq] at hr; obtain ⟨hp, rfl⟩ := hr; exact h x hp
  ·cases hr
 ·cases hr
theorem on2_sum {a : Rd α} {b : Rd β} {p : α -> β -> Bool} {g : α -> β -> AV} (h : ∀ x y, p x y = true -> ACalls P G f [a.av x, b.av y] (fun v => v = g x y)) : SumOk P G (f, on2 a b p g) := fun args r hr => by
 simp only at hr
 unfold on2 at hr
 split at hr
 ·split at hr
  ·rename_i x y hx hy
   cases a.ok _ _ hx; cases b.ok _ _ hy; simp only [Option.some.injEq, Prod.mk.injEq] at hr; obtain ⟨hp, rfl⟩ := hr; exact h x y hp
  ·cases hr
 ·cases hr
theorem on3_sum {a : Rd α} {b : Rd β} {c : Rd γ} {p : α -> β -> γ -> Bool} {g : α -> β -> γ -> AV} (h : ∀ x y z, p x y z = true -> ACalls P G f [a.av x, b.av y, c.av z] (fun v => v = g x y z)) : SumOk P G (f, on3 a b c p g) := fun args r hr => by
 simp only at hr
 unfold on3 at hr
 split at hr
 ·split at hr
  ·rename_i x y z hx hy hz
   cases a.ok _ _ hx; cases b.ok _ _ hy; cases c.ok _ _ hz; simp only [Option.some.injEq, Prod.mk.injEq] at hr; obtain ⟨hp, rfl⟩ := hr; exact h x y z hp
  ·cases hr
 ·cases hr
theorem on4_sum {a : Rd α} {b : Rd β} {c : Rd γ} {d : Rd δ} {p : α -> β -> γ -> δ -> Bool} {g : α -> β -> γ -> δ -> AV} (h : ∀ x y z u, p x y z u = true -> ACalls P G f [a.av x, b.av y, c.av z, d.av u] (fun v => v = g x y z u)) : SumOk P G (f, on4 a b c d p g) := fun args r hr => by
 simp only at hr
 unfold on4 at hr
 split at hr
 ·split at hr
  ·rename_i x y z u hx hy hz hu
   cases a.ok _ _ hx; cases b.ok _ _ hy; cases c.ok _ _ hz; cases d.ok _ _ hu; simp only [Option.some.injEq, Prod.mk.injEq] at hr; obtain ⟨hp, rfl⟩ := hr; exact h x y z u hp
  ·cases hr
 ·cases hr
end
structure Opr where
 (kind a b c : Int)
def Opr.av (o : Opr) : AV := .agg [.int .u8 o.kind, .int .u32 o.a, .int .u32 o.b, .int .u32 o.c]
def oprOf : AV -> Option Opr
 | .agg [.int .u8 k, .int .u32 a, .int .u32 b, .int .u32 c] => some ⟨k, a, b, c⟩
 | _ => none
theorem oprOf_some {a : AV} {c : Opr} (h : oprOf a = some c) : a = c.av := by
 unfold oprOf at h
 split at h
 ·simp only [Option.some.injEq] at h
  subst h; rfl
 ·cases h
def rOpr : Rd Opr := ⟨oprOf, Opr.av, fun _ _ => oprOf_some⟩
structure Plc where
 (part a b : Int)
def Plc.av (o : Plc) : AV := .agg [.int .u8 o.part, .int .i64 o.a, .int .i64 o.b]
def plcOf : AV -> Option Plc
 | .agg [.int .u8 k, .int .i64 a, .int .i64 b] => some ⟨k, a, b⟩
 | _ => none
theorem plcOf_some {a : AV} {c : Plc} (h : plcOf a = some c) : a = c.av := by
 unfold plcOf at h
 split at h
 ·simp only [Option.some.injEq] at h
  subst h; rfl
 ·cases h
def rPlc : Rd Plc := ⟨plcOf, Plc.av, fun _ _ => plcOf_some⟩
structure Frm where
 (kind a b pc i j n p h x y : Int)
def Frm.cells (f : Frm) : List AV := [.int .u8 f.kind, .int .u32 f.a, .int .u32 f.b, .int .u8 f.pc, .int .u8 f.i, .int .u8 f.j, .int .u8 f.n, .int .u8 f.p, .int .u8 f.h, .int .u32 f.x, .int .u32 f.y]
def Frm.av (f : Frm) : AV := .agg f.cells
def frmOf : AV -> Option Frm
 | .agg [.int .u8 kind, .int .u32 a, .int .u32 b, .int .u8 pc, .int .u8 i, .int .u8 j, .int .u8 n, .int .u8 p, .int .u8 h, .int .u32 x, .int .u32 y] => some ⟨kind, a, b, pc, i, j, n, p, h, x, y⟩
 | _ => none
theorem frmOf_some {a : AV} {c : Frm} (h : frmOf a = some c) : a = c.av := by
 unfold frmOf at h
 split at h
 ·simp only [Option.some.injEq] at h
  subst h; rfl
 ·cases h
def rFrm : Rd Frm := ⟨frmOf, Frm.av, fun _ _ => frmOf_some⟩
structure TRun where
 (f : Frm) (c : Conf)
def TRun.av (r : TRun) : AV := .iptr (r.f.cells ++ r.c.cells) 0
def trunOf : AV -> Option TRun
 | .iptr [.int .u8 kind, .int .u32 a, .int .u32 b, .int .u8 pc, .int .u8 i, .int .u8 j, .int .u8 n, .int .u8 p, .int .u8 h, .int .u32 x, .int .u32 y,
  .int .u8 ob, .int .i64 ins, .int .i64 thr, .int .u8 ckind, .int .i64 str, .int .i64 bits, .int .i64 cap, .int .i64 node, .int .i64 batch, .int .i64 chunk, .int .u64 limit, .int .u64 most] 0 => some ⟨⟨kind, a, b, pc, i, j, n, p, h, x, y⟩, ⟨ob, ins, thr, ckind, str, bits, cap, node, batch, chunk, limit, most⟩⟩
 | _ => none
theorem trunOf_some {a : AV} {c : TRun} (h : trunOf a = some c) : a = c.av := by
 unfold trunOf at h
 split at h
 ·simp only [Option.some.injEq] at h
  subst h; rfl
 ·cases h
def rTRun : Rd TRun := ⟨trunOf, TRun.av, fun _ _ => trunOf_some⟩
structure Dsc where
 (tag k seq kind a b pc i j n p h x y : Int)
def Dsc.frm (d : Dsc) : Frm := ⟨d.kind, d.a, d.b, d.pc, d.i, d.j, d.n, d.p, d.h, d.x, d.y⟩
def Dsc.av (f : Dsc) : AV := .agg [.int .u64 f.tag, .int .u8 f.k, .int .u8 f.seq, .int .u8 f.kind, .int .u32 f.a, .int .u32 f.b, .int .u8 f.pc, .int .u8 f.i, .int .u8 f.j, .int .u8 f.n, .int .u8 f.p, .int .u8 f.h, .int .u32 f.x, .int .u32 f.y]
def dscOf : AV -> Option Dsc
 | .agg [.int .u64 tag, .int .u8 k, .int .u8 seq, .int .u8 kind, .int .u32 a, .int .u32 b, .int .u8 pc, .int .u8 i, .int .u8 j, .int .u8 n, .int .u8 p, .int .u8 h, .int .u32 x, .int .u32 y] => some ⟨tag, k, seq, kind, a, b, pc, i, j, n, p, h, x, y⟩
 | _ => none
theorem dscOf_some {a : AV} {c : Dsc} (h : dscOf a = some c) : a = c.av := by
 unfold dscOf at h
 split at h
 ·simp only [Option.some.injEq] at h
  subst h; rfl
 ·cases h
def rDsc : Rd Dsc := ⟨dscOf, Dsc.av, fun _ _ => dscOf_some⟩
end Go.Bas
end
section
namespace Go.Bas
open Go.RowKit
structure Lok where
 (tag : Int) (at' : Int) (sum : Int)
def Lok.av (l : Lok) : AV := .agg [.int .u64 l.tag, .int .i64 l.at', .int .u64 l.sum]
def lokOf : AV -> Option Lok
 | .agg [.int .u64 a, .int .i64 b, .int .u64 c] => some ⟨a, b, c⟩
 | _ => none
theorem lokOf_some {a : AV} {c : Lok} (h : lokOf a = some c) : a = c.av := by
 unfold lokOf at h
 split at h
 ·simp only [Option.some.injEq] at h
  subst h; rfl
 ·cases h
def rLok : Rd Lok := ⟨lokOf, Lok.av, fun _ _ => lokOf_some⟩
structure Rdr where
 (pc ver inst batch : Int) (f : Frm) (code v : Int) (us : List AV) (m : Nat) (given : Int)
def Rdr.av (r : Rdr) : AV := .agg ([.int .u8 r.pc, .int .i64 r.ver, .int .i64 r.inst, .int .u64 r.batch] ++ r.f.cells ++ [.int .i64 r.code, .int .u32 r.v, .lst r.us r.m, .int .i64 r.given])
def rdrOf : AV -> Option Rdr
 | .agg [.int .u8 pc0, .int .i64 ver, .int .i64 inst, .int .u64 batch, .int .u8 kind, .int .u32 a, .int .u32 b, .int .u8 pc, .int .u8 i, .int .u8 j, .int .u8 n, .int .u8 p, .int .u8 h, .int .u32 x, .int .u32 y, .int .i64 code, .int .u32 v, .lst us m, .int .i64 given] =>
  some ⟨pc0, ver, inst, batch, ⟨kind, a, b, pc, i, j, n, p, h, x, y⟩, code, v, us, m, given⟩
 | _ => none
theorem rdrOf_some {a : AV} {c : Rdr} (h : rdrOf a = some c) : a = c.av := by
 unfold rdrOf at h
 split at h
 ·simp only [Option.some.injEq] at h
  subst h; rfl
 ·cases h
def rRdr : Rd Rdr := ⟨rdrOf, Rdr.av, fun _ _ => rdrOf_some⟩
end Go.Bas
end
section
namespace Go.Bas
open Go.RowKit
structure Wtr where
 (pc seq : Int) (o : Opr) (told : Bool) (code v : Int) (us : List AV) (m : Nat) (batch : Int) (ctl dsc see : Cel) (ps : List AV) (q : Nat) (look : Lok)
def Wtr.cells (w : Wtr) : List AV := [.int .u8 w.pc, .int .u64 w.seq, .int .u8 w.o.kind, .int .u32 w.o.a, .int .u32 w.o.b, .int .u32 w.o.c, .bool w.told, .int .i64 w.code, .int .u32 w.v, .lst w.us w.m, .int .u64 w.batch,
 .int .u64 w.ctl.tag, .int .u64 w.ctl.a, .int .u64 w.ctl.b, .int .u64 w.ctl.c, .int .u64 w.dsc.tag, .int .u64 w.dsc.a, .int .u64 w.dsc.b, .int .u64 w.dsc.c, .int .u64 w.see.tag, .int .u64 w.see.a, .int .u64 w.see.b, .int .u64 w.see.c, .lst w.ps w.q, .int .u64 w.look.tag, .int .i64 w.look.at', .int .u64 w.look.sum]
def Wtr.av (w : Wtr) : AV := .agg w.cells
def wtrOf : AV -> Option Wtr
 | .agg [.int .u8 pc, .int .u64 seq, .int .u8 kind, .int .u32 a, .int .u32 b, .int .u32 c, .bool told, .int .i64 code, .int .u32 v, .lst us m, .int .u64 batch,
 .int .u64 c0, .int .u64 c1, .int .u64 c2, .int .u64 c3, .int .u64 d0, .int .u64 d1, .int .u64 d2, .int .u64 d3, .int .u64 s0, .int .u64 s1, .int .u64 s2, .int .u64 s3, .lst ps q, .int .u64 l0, .int .i64 l1, .int .u64 l2] =>
  some ⟨pc, seq, ⟨kind, a, b, c⟩, told, code, v, us, m, batch, ⟨c0, c1, c2, c3⟩, ⟨d0, d1, d2, d3⟩, ⟨s0, s1, s2, s3⟩, ps, q, ⟨l0, l1, l2⟩⟩
 | _ => none
theorem wtrOf_some {a : AV} {c : Wtr} (h : wtrOf a = some c) : a = c.av := by
 unfold wtrOf at h
 split at h
 ·simp only [Option.some.injEq] at h
  subst h; rfl
 ·cases h
def rWtr : Rd Wtr := ⟨wtrOf, Wtr.av, fun _ _ => wtrOf_some⟩
structure WRn where
 (w : Wtr) (c : Conf) (t : Int) (s : Stg) (jk jn : Int)
def WRn.av (r : WRn) : AV := .iptr (r.w.cells ++ r.c.cells ++ [.int .i64 r.t, .int .u64 r.s.batch, .int .i64 r.s.number, .int .u64 r.s.mask, .int .i64 r.s.frm, .int .u8 r.jk, .int .i64 r.jn]) 0
def runTail : List AV -> Option (Int × Stg × Int × Int)
 | [.int .i64 t, .int .u64 sb, .int .i64 sn, .int .u64 sm, .int .i64 sf, .int .u8 jk, .int .i64 jn] => some (t, ⟨sb, sn, sm, sf⟩, jk, jn)
 | _ => none
theorem runTail_some {l : List AV} {x : Int × Stg × Int × Int} (h : runTail l = some x) : l = [.int .i64 x.1, .int .u64 x.2.1.batch, .int .i64 x.2.1.number, .int .u64 x.2.1.mask, .int .i64 x.2.1.frm, .int .u8 x.2.2.1, .int .i64 x.2.2.2] := by
 unfold runTail at h
 split at h
 ·cases h; rfl
 ·cases h
def wrnOf : AV -> Option WRn
 | .iptr l 0 => match wtrOf (.agg (l.take 27)), confOf (.agg ((l.drop 27).take 12)), runTail ((l.drop 27).drop 12) with
  | some w, some c, some x => some ⟨w, c, x.1, x.2.1, x.2.2.1, x.2.2.2⟩
  | _, _, _ => none
 | _ => none
theorem wrnOf_some {a : AV} {r : WRn} (h : wrnOf a = some r) : a = r.av := by
 unfold wrnOf at h
 split at h
 ·rename_i l
  split at h
  ·rename_i w c x hw hc hx
   cases h; have e1 : l.take 27 = w.cells := by have := wtrOf_some hw; injection this
   have e2 : (l.drop 27).take 12 = c.cells := by have := confOf_some hc; injection this
   have e3 := runTail_some hx; show AV.iptr l 0 = AV.iptr _ 0
   have e : l = w.cells ++ (c.cells ++ (l.drop 27).drop 12) := by
    rw [<- e1, <- e2, List.take_append_drop, List.take_append_drop]
   rw [e3] at e; rw [List.append_assoc]; exact congrArg (fun y => AV.iptr y 0) e
  ·cases h
 ·cases h
def rWrn : Rd WRn := ⟨wrnOf, WRn.av, fun _ _ => wrnOf_some⟩
end Go.Bas
end
section
namespace Go.Bas
open Go.RowKit
inductive Wk : AV -> AV -> Prop
 | refl (v : AV) : Wk v v
 | any (v : AV) : Wk v .any
 | nils : Wk .nils (.lst [] 0)
 | ns : Wk .ns (.lst [] 0)
 | es : Wk .es (.lst [] 0)
 | agg (cs ds : List AV) : cs.length = ds.length -> (∀ i (h : i < cs.length) (h' : i < ds.length), Wk cs[i] ds[i]) -> Wk (.agg cs) (.agg ds)
 | tup (cs ds : List AV) : cs.length = ds.length -> (∀ i (h : i < cs.length) (h' : i < ds.length), Wk cs[i] ds[i]) -> Wk (.tup cs) (.tup ds)
def WkL (cs ds : List AV) : Prop := cs.length = ds.length /\ ∀ i (h : i < cs.length) (h' : i < ds.length), Wk cs[i] ds[i]
theorem WkL.nil : WkL [] [] := ⟨rfl, fun i h => absurd h (Nat.not_lt_zero _)⟩
theorem WkL.cons {a b : AV} {cs ds : List AV} (h : Wk a b) (hs : WkL cs ds) : WkL (a :: cs) (b :: ds) := by
 refine ⟨by simp [hs.1], fun i hi hi' => ?_⟩
 cases i with
 | zero => exact h
 | succ i => exact hs.2 i (by simpa using hi) (by simpa using hi')
theorem WkL.refl (cs : List AV) : WkL cs cs := ⟨rfl, fun i h h' => Wk.refl _⟩
theorem WkL.append {a b c d : List AV} (h : WkL a b) (h2 : WkL c d) : WkL (a ++ c) (b ++ d) := by
 refine ⟨by simp [h.1, h2.1], fun i hi hi' => ?_⟩
 by_cases hl : i < a.length
 ·have hl' : i < b.length := by rw [<- h.1]; exact hl
  rw [List.getElem_append_left hl, List.getElem_append_left hl']; exact h.2 i hl hl'
 ·have hl' : b.length <= i := by rw [<- h.1]; omega
  rw [List.getElem_append_right (by omega), List.getElem_append_right hl']
  have e : i - a.length = i - b.length := by rw [h.1]
  have hc : i - a.length < c.length := by simp at hi; omega
  have hd : i - b.length < d.length := by rw [<- e, <- h2.1]; exact hc
  have := h2.2 (i - a.length) hc (by rw [e]; exact hd)
  simpa only [e] using this
theorem Wk.ofAgg {cs ds : List AV} (h : WkL cs ds) : Wk (.agg cs) (.agg ds) := .agg _ _ h.1 h.2
theorem Wk.ofTup {cs ds : List AV} (h : WkL cs ds) : Wk (.tup cs) (.tup ds) := .tup _ _ h.1 h.2
theorem Rep.wk {w : World} {B own : Nat -> Prop} {ω : Nat -> Option Nat} {nx : Nat} {v v' : AV} (h : Wk v v') : ∀ {u : Value}, Rep w B own ω nx v u -> Rep w B own ω nx v' u := by
 induction h with
 | refl v => exact fun h => h
 | any v => exact fun _ => .any _ _
 | nils => intro u h; cases h; exact .lstn _ _ _
 | ns => intro u h; cases h; exact .lstn _ _ _
 | es => intro u h; cases h; exact .lstn _ _ _
 | agg cs ds hl hw ih =>
  intro u h; cases h with
  | agg _ _ vs hs hr => exact .agg _ _ _ (by rw [<- hl]; exact hs) (fun i hi => ih i (by rw [hl]; exact hi) hi (hr i (by rw [hl]; exact hi)))
 | tup cs ds hl hw ih =>
  intro u h; cases h with
  | tup _ _ vs hs hr => exact .tup _ _ _ (by rw [<- hl]; exact hs) (fun i hi => ih i (by rw [hl]; exact hi) hi (hr i (by rw [hl]; exact hi)))
theorem RepL.wkW {w : World} {B own : Nat -> Prop} {ω : Nat -> Option Nat} {nx : Nat} {cs ds : List AV} {us : Array Value} (h : WkL cs ds) (hr : RepL w B own ω nx cs us) : RepL w B own ω nx ds us :=
 ⟨by rw [<- h.1]; exact hr.1, fun i hi => (hr.2 i (by rw [h.1]; exact hi)).wk (h.2 i (by rw [h.1]; exact hi) hi)⟩
theorem ACalls.wk {P : Program} {G : Nat -> Option (List AV)} {f : FuncId} {args args' : List AV} {r r' : AV} (h : ACalls P G f args' (fun v => v = r)) (ha : WkL args args') (hr : Wk r r') : ACalls P G f args (fun v => v = r') :=
 fun w us bad hg hb hl hu => (h w us bad hg hb hl (hu.wkW ha)).mono fun e w' hh => by
  obtain ⟨v, u, he, rfl, hs, hp⟩ := hh; exact ⟨r', u, he, rfl, hs, hp.wk hr⟩
inductive Sd where
 | nil
 | ns
 | cons (a : AV) (r : List AV) (m : Nat)
def Sd.av : Sd -> AV
 | .nil => .nils
 | .ns => .ns
 | .cons a r m => .lst (a :: r) m
def Sd.list : Sd -> List AV
 | .nil => []
 | .ns => []
 | .cons a r _ => a :: r
def Sd.len : Sd -> Nat
 | .nil => 0
 | .ns => 0
 | .cons _ _ m => m
theorem Sd.wk (s : Sd) : Wk s.av (.lst s.list s.len) := by
 cases s
 ·exact .nils
 ·exact .ns
 ·exact .refl _
def Rdr.cellsW (r : Rdr) (s : AV) : List AV := [.int .u8 r.pc, .int .i64 r.ver, .int .i64 r.inst, .int .u64 r.batch] ++ r.f.cells ++ [.int .i64 r.code, .int .u32 r.v, s, .int .i64 r.given]
def Wtr.cellsW (w : Wtr) (s t : AV) : List AV := [.int .u8 w.pc, .int .u64 w.seq, .int .u8 w.o.kind, .int .u32 w.o.a, .int .u32 w.o.b, .int .u32 w.o.c, .bool w.told, .int .i64 w.code, .int .u32 w.v, s, .int .u64 w.batch,
 .int .u64 w.ctl.tag, .int .u64 w.ctl.a, .int .u64 w.ctl.b, .int .u64 w.ctl.c, .int .u64 w.dsc.tag, .int .u64 w.dsc.a, .int .u64 w.dsc.b, .int .u64 w.dsc.c, .int .u64 w.see.tag, .int .u64 w.see.a, .int .u64 w.see.b, .int .u64 w.see.c, t, .int .u64 w.look.tag, .int .i64 w.look.at', .int .u64 w.look.sum]
structure Thr where
 (nx run : Int) (r : Rdr) (w : Wtr) (seq : Int) (out : Bool) (s1 s2 s3 : Sd)
def Thr.cellsW (t : Thr) (a b c : AV) : List AV := [.int .i64 t.nx, .int .u8 t.run] ++ (t.r.cellsW a ++ (t.w.cellsW b c ++ [.int .u64 t.seq, .bool t.out]))
def Thr.av (t : Thr) : AV := .agg (t.cellsW t.s1.av t.s2.av t.s3.av)
def Thr.avL (t : Thr) : AV := .agg (t.cellsW (.lst t.s1.list t.s1.len) (.lst t.s2.list t.s2.len) (.lst t.s3.list t.s3.len))
theorem Thr.wk (t : Thr) : Wk t.av t.avL := by
 refine Wk.ofAgg ?_
 unfold Thr.cellsW Rdr.cellsW Wtr.cellsW
 refine .append (.refl _) (.append (.append (.refl _) (.cons (.refl _) (.cons (.refl _) (.cons t.s1.wk (.refl _))))) (.append ?_ (.refl _)))
 iterate 9 refine .cons (.refl _) ?_
 refine .cons t.s2.wk ?_
 iterate 13 refine .cons (.refl _) ?_
 exact .cons t.s3.wk (.refl _)
end Go.Bas
end
section
namespace Go.Bas
open Go.RowKit
structure ThL where
 (nx run : Int) (r : Rdr) (w : Wtr) (seq : Int) (out : Bool)
def ThL.av (t : ThL) : AV := .agg ([.int .i64 t.nx, .int .u8 t.run] ++ (t.r.cellsW (.lst t.r.us t.r.m) ++ (t.w.cells ++ [.int .u64 t.seq, .bool t.out])))
def headOf : List AV -> Option (Int × Int)
 | [.int .i64 a, .int .u8 b] => some (a, b)
 | _ => none
theorem headOf_some {l : List AV} {x : Int × Int} (h : headOf l = some x) : l = [.int .i64 x.1, .int .u8 x.2] := by
 unfold headOf at h
 split at h <;> first | (cases h; rfl) | cases h
def tailOf : List AV -> Option (Int × Bool)
 | [.int .u64 a, .bool b] => some (a, b)
 | _ => none
theorem tailOf_some {l : List AV} {x : Int × Bool} (h : tailOf l = some x) : l = [.int .u64 x.1, .bool x.2] := by
 unfold tailOf at h
 split at h <;> first | (cases h; rfl) | cases h
theorem four {l : List AV} (a b c : Nat) : l = l.take a ++ ((l.drop a).take b ++ (((l.drop a).drop b).take c ++ ((l.drop a).drop b).drop c)) := by
 rw [List.take_append_drop, List.take_append_drop, List.take_append_drop]
def thlOf : AV -> Option ThL
 | .agg l => match headOf (l.take 2), rdrOf (.agg ((l.drop 2).take 19)), wtrOf (.agg (((l.drop 2).drop 19).take 27)), tailOf (((l.drop 2).drop 19).drop 27) with
  | some x, some r, some w, some y => some ⟨x.1, x.2, r, w, y.1, y.2⟩
  | _, _, _, _ => none
 | _ => none
theorem thlOf_some {a : AV} {t : ThL} (h : thlOf a = some t) : a = t.av := by
 unfold thlOf at h
 split at h
 ·rename_i l
  split at h
  ·rename_i x r w y hx hr hw hy
   cases h; have e1 := headOf_some hx; have e2 : (l.drop 2).take 19 = r.cellsW (.lst r.us r.m) := by have := rdrOf_some hr; injection this
   have e3 : ((l.drop 2).drop 19).take 27 = w.cells := by have := wtrOf_some hw; injection this
   have e4 := tailOf_some hy; have e := four (l := l) 2 19 27; rw [e1, e2, e3, e4] at e; exact congrArg AV.agg e
  ·cases h
 ·cases h
def rThl : Rd ThL := ⟨thlOf, ThL.av, fun _ _ => thlOf_some⟩
end Go.Bas
end
section
namespace Go.Bas
open Go.RowKit
def AV.isSd : AV -> Bool
 | .nils => true
 | .ns => true
 | .lst (_ :: _) _ => true
 | _ => false
def AV.sdL : AV -> List AV
 | .lst (a :: r) _ => a :: r
 | _ => []
def AV.sdN : AV -> Nat
 | .lst (_ :: _) m => m
 | _ => 0
theorem isSd_wk {v : AV} (h : v.isSd = true) : Wk v (.lst v.sdL v.sdN) := by
 unfold AV.isSd at h
 split at h
 ·exact .nils
 ·exact .ns
 ·exact .refl _
 ·cases h
theorem isSd_of (s : Sd) : s.av.isSd = true := by cases s <;> rfl
structure Thx where
 (nx run : Int) (r : Rdr) (w : Wtr) (seq : Int) (out : Bool) (x y z : AV)
def Thx.cellsW (t : Thx) (a b c : AV) : List AV := [.int .i64 t.nx, .int .u8 t.run] ++ (t.r.cellsW a ++ (t.w.cellsW b c ++ [.int .u64 t.seq, .bool t.out]))
def Thx.av (t : Thx) : AV := .agg (t.cellsW t.x t.y t.z)
def Thx.nrm (t : Thx) : Thx := { t with r := { t.r with us := [], m := 0 }, w := { t.w with us := [], m := 0, ps := [], q := 0 } }
def Thx.toL (t : Thx) : ThL := ⟨t.nx, t.run, { t.r with us := t.x.sdL, m := t.x.sdN }, { t.w with us := t.y.sdL, m := t.y.sdN, ps := t.z.sdL, q := t.z.sdN }, t.seq, t.out⟩
theorem Thx.wk {t : Thx} (h : (t.x.isSd && (t.y.isSd && t.z.isSd)) = true) : Wk t.av t.toL.av := by
 simp only [Bool.and_eq_true] at h
 refine Wk.ofAgg ?_
 unfold Thx.cellsW Rdr.cellsW Wtr.cellsW
 refine .append (.refl _) (.append (.append (.refl _) (.cons (.refl _) (.cons (.refl _) (.cons (isSd_wk h.1) (.refl _))))) (.append ?_ (.refl _)))
 iterate 9 refine .cons (.refl _) ?_
 refine .cons (isSd_wk h.2.1) ?_
 iterate 13 refine .cons (.refl _) ?_
 exact .cons (isSd_wk h.2.2) (.refl _)
def rdrX : List AV -> Option (Rdr × AV)
 | [.int .u8 pc0, .int .i64 ver, .int .i64 inst, .int .u64 batch, .int .u8 kind, .int .u32 a, .int .u32 b, .int .u8 pc, .int .u8 i, .int .u8 j, .int .u8 n, .int .u8 p, .int .u8 h, .int .u32 x, .int .u32 y, .int .i64 code, .int .u32 v, s, .int .i64 given] =>
  some (⟨pc0, ver, inst, batch, ⟨kind, a, b, pc, i, j, n, p, h, x, y⟩, code, v, [], 0, given⟩, s)
 | _ => none
theorem rdrX_some {l : List AV} {x : Rdr × AV} (h : rdrX l = some x) : l = x.1.cellsW x.2 := by
 unfold rdrX at h
 split at h
 ·cases h; rfl
 ·cases h
def wtrX : List AV -> Option (Wtr × AV × AV)
 | [.int .u8 pc, .int .u64 seq, .int .u8 kind, .int .u32 a, .int .u32 b, .int .u32 c, .bool told, .int .i64 code, .int .u32 v, s, .int .u64 batch,
 .int .u64 c0, .int .u64 c1, .int .u64 c2, .int .u64 c3, .int .u64 d0, .int .u64 d1, .int .u64 d2, .int .u64 d3, .int .u64 s0, .int .u64 s1, .int .u64 s2, .int .u64 s3, t, .int .u64 l0, .int .i64 l1, .int .u64 l2] =>
  some (⟨pc, seq, ⟨kind, a, b, c⟩, told, code, v, [], 0, batch, ⟨c0, c1, c2, c3⟩, ⟨d0, d1, d2, d3⟩, ⟨s0, s1, s2, s3⟩, [], 0, ⟨l0, l1, l2⟩⟩, s, t)
 | _ => none
theorem wtrX_some {l : List AV} {x : Wtr × AV × AV} (h : wtrX l = some x) : l = x.1.cellsW x.2.1 x.2.2 := by
 unfold wtrX at h
 split at h
 ·cases h; rfl
 ·cases h
def thxOf : AV -> Option Thx
 | .agg l => match headOf (l.take 2), rdrX ((l.drop 2).take 19), wtrX (((l.drop 2).drop 19).take 27), tailOf (((l.drop 2).drop 19).drop 27) with
  | some x, some r, some w, some y => some ⟨x.1, x.2, r.1, w.1, y.1, y.2, r.2, w.2.1, w.2.2⟩
  | _, _, _, _ => none
 | _ => none
theorem thxOf_some {a : AV} {t : Thx} (h : thxOf a = some t) : a = t.av := by
 unfold thxOf at h
 split at h
 ·rename_i l
  split at h
  ·rename_i x r w y hx hr hw hy
   cases h; have e1 := headOf_some hx; have e2 := rdrX_some hr; have e3 := wtrX_some hw; have e4 := tailOf_some hy; have e := four (l := l) 2 19 27; rw [e1, e2, e3, e4] at e; exact congrArg AV.agg e
  ·cases h
 ·cases h
def rThx : Rd Thx := ⟨thxOf, Thx.av, fun _ _ h => thxOf_some h⟩
structure Lst where
 (us : List AV) (m : Nat)
def Lst.av (l : Lst) : AV := .lst l.us l.m
def lstOf : AV -> Option Lst
 | .lst us m => some ⟨us, m⟩
 | _ => none
theorem lstOf_some {a : AV} {l : Lst} (h : lstOf a = some l) : a = l.av := by
 unfold lstOf at h
 split at h
 ·cases h; rfl
 ·cases h
def rLst : Rd Lst := ⟨lstOf, Lst.av, fun _ _ => lstOf_some⟩
def Thx.avO (t : Thx) : AV := .agg (t.cellsW (.lst t.x.sdL t.x.sdN) (.lst t.y.sdL t.y.sdN) (.lst t.z.sdL t.z.sdN))
end Go.Bas
end
section
namespace Go.Bas
open Go.RowKit Go.ChangeShapes Go.WideShapes
inductive DK where
 | b
 | i (k : IntKind)
 | s (ks : List CK) (bt : Nat)
def deepFs (P : Program) (g : TypeId -> Option (List DK)) : List Field -> List DK -> Option (List DK)
 | [], ks => some ks
 | f :: r, ks => cond (Nat.beq f.offset ks.length && f.name != "_") (match g f.type, P.info? f.type with
  | some ms, some i => cond (Nat.beq i.size ms.length) (deepFs P g r (ks ++ ms)) none
  | _, _ => none) none
def deepT (P : Program) : Nat -> TypeId -> Option (List DK)
 | 0, _ => none
 | d + 1, t =>
  match P.underlying t with
  | some .bool => some [.b]
  | some (.int k) => some [.i k]
  | some (.slice e) => match flatT P 8 e with
   | some ks => cond (Nat.beq (P.cellsOf e) ks.length && Nat.blt 0 ks.length) (some [.s ks (P.bytesOf e)]) none
   | none => none
  | some (.struct fs) => cond (P.stoodInHeld t) none (deepFs P (deepT P d) fs.toList [])
  | _ => none
def SdOk (ks : List CK) (bt : Nat) : Sd -> Prop
 | .nil => True
 | .ns => True
 | .cons a r m => ∃ rows : List (List Value), (∀ x ∈ rows, CellsOk ks x) /\ rows.length = m /\ m * bt <= reachBytes /\ rows.flatten.map ofS = a :: r
def CellsD (w : World) : List DK -> List Value -> Prop
 | [], cs => cs = []
 | .b :: ks, cs => ∃ (b : Bool) (r : List Value), cs = .bool b :: r /\ CellsD w ks r
 | .i k :: ks, cs => ∃ (n : Int) (r : List Value), cs = .int k n :: r /\ (Lit.int k n).wf = true /\ CellsD w ks r
 | .s ms bt :: ks, cs => ∃ (v : Value) (s : Sd) (r : List Value), cs = v :: r /\ Rep w (fun _ => False) (fun _ => False) (fun _ => none) 0 s.av v /\ SdOk ms bt s /\ CellsD w ks r
section
variable {H : Type} {enc : TypeId × Value -> H} {P : Program} {w : World} {base : Nat} {spare : Nat -> Bool} {held : Bool}
theorem CellsD.append : ∀ {ks ms : List DK} {a b : List Value}, CellsD w ks a -> CellsD w ms b -> CellsD w (ks ++ ms) (a ++ b)
 | [], ms, a, b, h1, h2 => by
  obtain rfl : a = [] := h1; exact h2
 | .b :: ks, ms, a, b, ⟨x, r, e, h1⟩, h2 => ⟨x, r ++ b, by rw [e]; rfl, h1.append h2⟩
 | .i k :: ks, ms, a, b, ⟨x, r, e, hw, h1⟩, h2 => ⟨x, r ++ b, by rw [e]; rfl, hw, h1.append h2⟩
 | .s k bt :: ks, ms, a, b, ⟨v, s, r, e, hr, hs, h1⟩, h2 => ⟨v, s, r ++ b, by rw [e]; rfl, hr, hs, h1.append h2⟩
theorem open_sd {fuel : Nat} {x : DataW H × List MemPlace} {t e : TypeId} {cs : List Value} {ks : List CK} (ht : P.underlying t = some (.slice e)) (hf : flatT P 8 e = some ks) (hc : P.cellsOf e = ks.length) (hpos : 0 < ks.length)
  (hx : DataW.trod enc P w base spare held fuel t cs = some x) (hw : ∀ n ∈ x.1.weights P t, n <= reachBytes) :
  ∃ (v : Value) (s : Sd), cs = [v] /\ Rep w (fun _ => False) (fun _ => False) (fun _ => none) 0 s.av v /\ SdOk ks (P.bytesOf e) s := by
 rcases DataW.trod_slice ht hx with ⟨h0, _⟩ | ⟨a, sn, sc, elems, rest, n, _, h0, hxe, hb, hl, hm, hlen, hel, hsp, hns⟩
 ·exact ⟨_, .nil, h0, .nils _, trivial⟩
 ·by_cases hz : sn = 0
  ·subst hz
   exact ⟨_, .ns, h0, .ns _ _ _, trivial⟩
  have hwt : sn * P.bytesOf e <= reachBytes := by
   have h1 := hw ((elems.length + rest.length) * P.bytesOf e) (by rw [hxe]; simp [DataW.weights, ht])
   exact Nat.le_trans (Nat.mul_le_mul_right _ (by omega)) h1
  have each : ∀ i, i < sn -> ∃ cs, w.cells? base (a.add (i * ks.length)) ks.length = some cs /\ CellsOk ks cs := fun i hi => by
   have := hel i hi; rw [List.getElem?_eq_getElem (by omega), hc] at this
   obtain ⟨cs, h1, h2⟩ := Option.bind_eq_some_iff.1 this; exact ⟨cs, h1, flat_cells 8 e ks hf _ _ _ hc h2⟩
  let row : Nat -> List Value := fun i => (w.cells? base (a.add (i * ks.length)) ks.length).getD []
  have hrow : ∀ i, i < sn -> w.cells? base (a.add (i * ks.length)) ks.length = some (row i) /\ CellsOk ks (row i) := fun i hi => by
   obtain ⟨cs, h1, h2⟩ := each i hi; simp only [row, h1, Option.getD_some]; exact ⟨trivial, h2⟩
  have hmem : ∀ x ∈ (List.range sn).map row, CellsOk ks x := fun x hx => by
   obtain ⟨i, hi, rfl⟩ := List.mem_map.1 hx; exact (hrow i (by simpa using hi)).2
  have hlens : ∀ x ∈ (List.range sn).map row, x.length = ks.length := fun x hx => (hmem x hx).length
  have hspot : a.spot = none := by
   have h1 := (cells?_get (hrow 0 (by omega)).1)
   have h2 := h1.2 0 (by omega)
   simp only [Nat.zero_mul] at h2
   have h3 : ((a.add 0).add 0).spot = none := by
    cases hs : ((a.add 0).add 0).spot with
    | none => rfl
    | some s =>
     simp only [World.cell?, hs, Option.isSome_some, if_true] at h2; split at h2 <;> cases h2
   simpa [Addr.add] using h3
  obtain ⟨b, o, sp⟩ := a; simp only at hspot; subst hspot; have hfl := flatten_len _ hlens; simp only [List.length_map, List.length_range] at hfl
  have hcell : ∀ q (hq : q < ((List.range sn).map row).flatten.length), w.cell? ⟨b, o + q, none⟩ = some ((List.range sn).map row).flatten[q] := fun q hq => by
   have hi : q / ks.length < sn := (Nat.div_lt_iff_lt_mul hpos).2 (by omega)
   have hj : q % ks.length < ks.length := Nat.mod_lt _ hpos; have h1 := cells?_get (hrow _ hi).1; have h2 := h1.2 (q % ks.length) (by omega)
   rw [addr_add, addr_add, Nat.add_assoc, Nat.mul_comm, Nat.div_add_mod] at h2; rw [h2]; have h3 := flat_at _ hlens (q / ks.length) (q % ks.length) (by simpa using hi) hj
   rw [Nat.mul_comm, Nat.div_add_mod, List.getElem?_eq_getElem hq] at h3; rw [h3]; simp only [List.getD_eq_getElem?_getD, List.getElem?_map, List.getElem?_range hi, Option.map_some, Option.getD_some]; exact (List.getElem?_eq_getElem (by omega)).symm
  have h1 : 0 < ((List.range sn).map row).flatten.length := by rw [hfl]; exact Nat.mul_pos (by omega) hpos
  have hll : ((List.range sn).map row).length = sn := by simp
  clear hlens; generalize (List.range sn).map row = rows at hcell h1 hmem hll; cases hav : rows.flatten.map ofS with
  | nil =>
   have h2 := congrArg List.length hav; rw [List.length_map, List.length_nil] at h2; omega
  | cons y r =>
   refine ⟨_, .cons y r sn, h0, ?_, rows, hmem, hll, hwt, hav⟩; show Rep w _ _ _ 0 (.lst (y :: r) sn) _; rw [<- hav]; generalize rows.flatten = fl at hcell h1; refine Rep.lst (B := fun _ => False) (own := fun _ => False) _ _ _ sc b o (fun q => fl.getD q undef) (fun _ => ⟨?_, fun h => h, fun h => h⟩) hl (fun q hq => ?_) (fun q hq => ?_)
   ·have := hcell 0 h1
    rcases Nat.lt_or_ge b w.heap.size with h | h
    ·exact h
    ·simp [World.cell?, Array.getElem?_eq_none h] at this
   ·rw [List.length_map] at hq
    rw [hcell q hq, List.getD_eq_getElem?_getD, List.getElem?_eq_getElem hq, Option.getD_some]
   ·have hq' : q < fl.length := by rw [List.length_map] at hq; exact hq
    rw [List.getElem_map, List.getD_eq_getElem?_getD, List.getElem?_eq_getElem hq', Option.getD_some]; exact rep_ofS _ _ _ _ _ _
theorem deepFs_cells {g : TypeId -> Option (List DK)} (hg : ∀ t ks, g t = some ks -> ∀ fuel cs x, P.cellsOf t = ks.length -> DataW.trod enc P w base spare held fuel t cs = some x -> (∀ n ∈ x.1.weights P t, n <= reachBytes) -> CellsD w ks cs) {cs : List Value} {n : Nat} :
  ∀ (r : List Field) (ks all : List DK), deepFs P g r ks = some all -> cs.length = all.length -> (∀ f ∈ r, ∃ y, DataW.trod enc P w base spare held n f.type ((cs.drop f.offset).take (P.cellsOf f.type)) = some y /\ ∀ n ∈ y.1.weights P f.type, n <= reachBytes) ->
  ∃ rest, all = ks ++ rest /\ CellsD w rest (cs.drop ks.length)
 | [], ks, all, h, hl, _ => by
  obtain rfl := Option.some.inj h; exact ⟨[], by simp, List.drop_eq_nil_of_le (by omega)⟩
 | f :: r, ks, all, h, hl, hf => by
  simp only [deepFs] at h; cases hc : (Nat.beq f.offset ks.length && f.name != "_") with
  | false => rw [hc] at h; cases h
  | true =>
   rw [hc] at h; simp only [cond_true] at h; obtain ⟨c1, c2⟩ := of_and hc
   replace c1 := of_beq c1
   split at h
   ·rename_i ms i hms hi
    cases hb : Nat.beq i.size ms.length with
    | false => rw [hb] at h; cases h
    | true =>
     rw [hb] at h; simp only [cond_true] at h
     replace hb := of_beq hb
     have hco : P.cellsOf f.type = ms.length := by simp [Program.cellsOf, hi, hb]
     obtain ⟨rest, e, h2⟩ := deepFs_cells hg r (ks ++ ms) all h hl (fun f hf' => hf f (List.mem_cons_of_mem _ hf'))
     obtain ⟨y, hy, hyw⟩ := hf f (List.mem_cons_self ..); rw [c1, hco] at hy; have h1 := hg _ _ hms _ _ _ hco hy hyw; refine ⟨ms ++ rest, by rw [e, List.append_assoc], ?_⟩
     have := h1.append h2
     rwa [List.length_append, <- List.drop_drop, List.take_append_drop] at this
   ·cases h
theorem deep_cells : ∀ (d : Nat) (t : TypeId) (ks : List DK), deepT P d t = some ks -> ∀ fuel cs x, P.cellsOf t = ks.length -> DataW.trod enc P w base spare held fuel t cs = some x -> (∀ n ∈ x.1.weights P t, n <= reachBytes) -> CellsD w ks cs
 | 0, _, _, h => by cases h
 | d + 1, t, ks, h => fun fuel cs x hc hx hw => by
  simp only [deepT] at h; split at h
  ·rename_i hu
   obtain rfl := Option.some.inj h; obtain ⟨b, rfl, _⟩ := DataW.trod_bool hu hx; exact ⟨b, [], rfl, rfl⟩
  ·rename_i k hu
   obtain rfl := Option.some.inj h; obtain ⟨n, rfl, _, hw⟩ := DataW.trod_int hu hx; exact ⟨n, [], rfl, hw, rfl⟩
  ·rename_i e hu
   split at h
   ·rename_i ms hms
    cases hb : (Nat.beq (P.cellsOf e) ms.length && Nat.blt 0 ms.length) with
    | false => rw [hb] at h; cases h
    | true =>
     rw [hb] at h; obtain rfl := Option.some.inj h; obtain ⟨c1, c2⟩ := of_and hb; obtain ⟨v, s, rfl, h1, h2⟩ := open_sd hu hms (of_beq c1) (Nat.le_of_ble_eq_true c2) hx hw; exact ⟨v, s, [], rfl, h1, h2, rfl⟩
   ·cases h
  ·rename_i fs hu
   cases hst : P.stoodInHeld t with
   | true => rw [hst] at h; cases h
   | false =>
    rw [hst] at h; simp only [cond_false] at h; obtain ⟨xs, n, _, hxe, hl, hlen, hf⟩ := DataW.trod_struct hu hx
    obtain ⟨rest, e, h2⟩ := deepFs_cells (cs := cs) (n := n) (deep_cells d) fs.toList [] ks h (by omega) (fun f hf' => by
     obtain ⟨i, hi, e⟩ := List.mem_iff_getElem.1 hf'; have hi' : i < fs.size := by simpa using hi
     have := hf i f (by rw [<- e]; simp)
     rw [this]; have hx' : i < xs.length := by omega
     refine ⟨xs[i], List.getElem?_eq_getElem hx', fun n hn => hw n ?_⟩
     rw [hxe]; simp only [DataW.weights, hu]; exact DataW.weights_mem_each (j := i) (by rw [List.getElem?_map, List.getElem?_eq_getElem hi, e]; rfl) (by rw [List.getElem?_map, List.getElem?_eq_getElem hx']; rfl) n hn)
    simp only [List.nil_append] at e; subst e
    simpa using h2
  ·cases h
theorem open_deep {r : Reach} {b0 : Nat} {t : TypeId} {v : Value} {d : DataW H} {ps : List MemPlace} {fs : Array Field} {ks : List DK} (ht : P.underlying t = some (.struct fs)) (hf : deepT P 8 t = some ks) (hc : P.cellsOf t = ks.length)
  (hval : Value.okWide P w r b0 t v) (hd : DataW.Trod enc P w base spare held t v d ps) (hw : ∀ n ∈ d.weights P t, n <= reachBytes) : ∃ l, v = .agg (List.toArray l) /\ CellsD w ks l := by
 simp only [Value.okWide, ht] at hval
 obtain ⟨cs, rfl, _, _⟩ := hval
 obtain ⟨fuel, hx⟩ := hd
 exact ⟨cs.toList, by simp, deep_cells 8 t ks hf _ _ _ hc (by simpa [Value.cells] using hx) hw⟩
theorem open_sds {r : Reach} {b0 : Nat} {t e : TypeId} {v : Value} {d : DataW H} {ps : List MemPlace} {ks : List CK} (ht : P.underlying t = some (.slice e)) (hf : flatT P 8 e = some ks) (hc : P.cellsOf e = ks.length) (hpos : 0 < ks.length)
  (hval : Value.okWide P w r b0 t v) (hd : DataW.Trod enc P w base spare held t v d ps) (hw : ∀ n ∈ d.weights P t, n <= reachBytes) : ∃ s : Sd, Rep w (fun _ => False) (fun _ => False) (fun _ => none) 0 s.av v /\ SdOk ks (P.bytesOf e) s := by
 have hone : ∃ (sa : Option Addr) (sn sc : Nat), v = .slice sa sn sc := by
  simp only [Value.okWide, ht, Cell.okWide, Cell.ok] at hval; cases v <;> first | exact ⟨_, _, _, rfl⟩ | exact hval.elim | cases hval
 obtain ⟨sa, sn, sc, rfl⟩ := hone
 obtain ⟨fuel, hx⟩ := hd
 simp only [Value.cells] at hx
 obtain ⟨v, s, h1, h2, h3⟩ := open_sd ht hf hc hpos hx hw
 simp at h1
 subst h1
 exact ⟨s, h2, h3⟩
end
theorem rows_len {ks : List CK} {rows : List (List Value)} (h : ∀ x ∈ rows, CellsOk ks x) : (rows.flatten.map ofS).length = rows.length * ks.length := by
 rw [List.length_map, flatten_len rows fun r hr => (h r hr).length]
theorem CellsOk.one : ∀ {ks : List CK} {cs : List Value}, CellsOk ks cs -> ∀ v ∈ cs, (ofS v).one = true
 | [], cs, h, v, hv => by
  obtain rfl : cs = [] := h; cases hv
 | .b :: ks, cs, ⟨b, r, e, h⟩, v, hv => by
  subst e
  rcases List.mem_cons.1 hv with rfl | hv
  ·rfl
  ·exact h.one v hv
 | .i k :: ks, cs, ⟨n, r, e, hw, h⟩, v, hv => by
  subst e
  rcases List.mem_cons.1 hv with rfl | hv
  ·rfl
  ·exact h.one v hv
 | .s :: _, _, h, _, _ => h.elim
 | .o :: _, _, h, _, _ => h.elim
theorem CellsOk.isB : ∀ {ks : List CK} {cs : List Value}, CellsOk ks cs -> (∀ k ∈ ks, k = .b) -> ∀ v ∈ cs, (ofS v).isB = true
 | [], cs, h, _, v, hv => by
  obtain rfl : cs = [] := h; cases hv
 | .b :: ks, cs, ⟨b, r, e, h⟩, hk, v, hv => by
  subst e
  rcases List.mem_cons.1 hv with rfl | hv
  ·rfl
  ·exact h.isB (fun k hk' => hk k (List.mem_cons_of_mem _ hk')) v hv
 | .i k :: ks, cs, ⟨n, r, e, hw, h⟩, hk, v, hv => by cases hk _ (List.mem_cons_self ..)
 | .s :: _, _, h, _, _, _ => h.elim
 | .o :: _, _, h, _, _, _ => h.elim
theorem sd_len {ks : List CK} {bt : Nat} : ∀ {s : Sd}, SdOk ks bt s -> s.av.sdL.length = s.av.sdN * ks.length
 | .nil, _ => by simp [Sd.av, AV.sdL, AV.sdN]
 | .ns, _ => by simp [Sd.av, AV.sdL, AV.sdN]
 | .cons a r m, ⟨rows, h1, h2, h3, h4⟩ => by
  show (a :: r).length = m * ks.length; rw [<- h4, rows_len h1, h2]
theorem sd_one {ks : List CK} {bt : Nat} : ∀ {s : Sd}, SdOk ks bt s -> s.av.sdL.all AV.one = true
 | .nil, _ => rfl
 | .ns, _ => rfl
 | .cons a r m, ⟨rows, h1, h2, h3, h4⟩ => by
  show (a :: r).all AV.one = true; rw [<- h4, List.all_map, List.all_eq_true]; intro v hv; obtain ⟨x, hx, hv⟩ := List.mem_flatten.1 hv; exact (h1 x hx).one v hv
theorem sd_isB {ks : List CK} {bt : Nat} (hk : ∀ k ∈ ks, k = .b) : ∀ {s : Sd}, SdOk ks bt s -> s.av.sdL.all AV.isB = true
 | .nil, _ => rfl
 | .ns, _ => rfl
 | .cons a r m, ⟨rows, h1, h2, h3, h4⟩ => by
  show (a :: r).all AV.isB = true; rw [<- h4, List.all_map, List.all_eq_true]; intro v hv; obtain ⟨x, hx, hv⟩ := List.mem_flatten.1 hv; exact (h1 x hx).isB hk v hv
theorem sd_bytes {ks : List CK} {bt : Nat} (hb : 0 < bt) : ∀ {s : Sd}, SdOk ks bt s -> okBytes s.av.sdN bt = true
 | .nil, _ => by simp [Sd.av, AV.sdN, okBytes, maxLen]
 | .ns, _ => by simp [Sd.av, AV.sdN, okBytes, maxLen]
 | .cons a r m, ⟨rows, h1, h2, h3, h4⟩ => by
  show okBytes m bt = true; have h5 : m <= m * bt := Nat.le_mul_of_pos_right _ hb; unfold okBytes; rw [Nat.ble_eq_true_of_le (by simp only [reachBytes, maxLen] at h3 ⊢; omega), Nat.ble_eq_true_of_le (by simp only [reachBytes] at h3; omega)]
  rfl
theorem rep_agg {w : World} {B : Nat -> Prop} {own : Nat -> Prop} {ω : Nat -> Option Nat} {nx : Nat} {vs : List AV} {us : List Value} (h : RepL w B own ω nx vs us.toArray) : Rep w B own ω nx (.agg vs) (.agg us.toArray) := .agg _ _ _ h.1 h.2
theorem CellsOk.get : ∀ {ks : List CK} {cs : List Value}, CellsOk ks cs -> ∀ (j : Nat) (k : IntKind), ks[j]? = some (.i k) -> ∃ n, cs[j]? = some (.int k n) /\ (Lit.int k n).wf = true
 | [], cs, h, j, k, hj => by simp at hj
 | .b :: ks, cs, ⟨b, r, e, h⟩, j, k, hj => by
  subst e; cases j with
  | zero => simp at hj
  | succ j => exact h.get j k (by simpa using hj)
 | .i k' :: ks, cs, ⟨n, r, e, hw, h⟩, j, k, hj => by
  subst e; cases j with
  | zero => simp at hj; subst hj; exact ⟨n, rfl, hw⟩
  | succ j => exact h.get j k (by simpa using hj)
 | .s :: _, _, h, _, _, _ => h.elim
 | .o :: _, _, h, _, _, _ => h.elim
theorem rows_at {ks : List CK} {rows : List (List Value)} (h : ∀ x ∈ rows, CellsOk ks x) {i j : Nat} {k : IntKind} (hi : i < rows.length) (hj : ks[j]? = some (.i k)) :
  ∃ n, lget (rows.flatten.map ofS) (i * ks.length + j) = .int k n /\ (Lit.int k n).wf = true := by
 have hjl : j < ks.length := by
  rcases Nat.lt_or_ge j ks.length with h | h
  ·exact h
  ·rw [List.getElem?_eq_none h] at hj; cases hj
 have hr : rows.getD i [] ∈ rows := by
  rw [List.getD_eq_getElem?_getD, List.getElem?_eq_getElem hi]; exact List.getElem_mem hi
 obtain ⟨n, h1, h2⟩ := (h _ hr).get j k hj
 refine ⟨n, ?_, h2⟩
 have h3 := flat_at (sz := ks.length) rows (fun r hr => (h r hr).length) i j hi hjl
 rw [lget_eq, List.getD_eq_getElem?_getD, List.getElem?_map, h3, h1]
 rfl
end Go.Bas
end
