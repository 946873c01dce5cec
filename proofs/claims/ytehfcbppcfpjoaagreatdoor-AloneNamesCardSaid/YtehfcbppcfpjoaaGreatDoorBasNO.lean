/- The engine, part O: outcomes. A reckoning has one outcome, whatever is done behind it. -/
import Derived.Test.YtehfcbppcfpjoaaGreatDoorBasNJ
namespace Go.Bas
open Go.RowKit
set_option linter.unusedSimpArgs false
set_option linter.unusedVariables false

/-- What an operation comes to. -/
inductive OpOut where
  | val (v : AV) (h : Heap) (nx : Nat)
  | call (t : Tgt) (args : List AV)
  | pan (v : AV)
  | no
def OpOut.elim {Ω : Type} (kv : AV → Heap → Nat → Ω) (kc : Tgt → List AV → Ω) (kp : AV → Ω) (z : Ω) : OpOut → Ω
  | .val v h nx => kv v h nx
  | .call t args => kc t args
  | .pan v => kp v
  | .no => z
noncomputable def aopO (C : Cfg) (ρ : Operand → AV) (h : Heap) (nx : Nat) (op : Op) : OpOut := aop C ρ h nx op .val .call .pan .no
theorem aop_elim {Ω : Type} (C : Cfg) (ρ : Operand → AV) (h : Heap) (nx : Nat) (op : Op) (kv : AV → Heap → Nat → Ω) (kc : Tgt → List AV → Ω) (kp : AV → Ω) (z : Ω) :
    aop C ρ h nx op kv kc kp z = (aopO C ρ h nx op).elim kv kc kp z := (aop_nat (OpOut.elim kv kc kp z) C ρ h nx op .val .call .pan .no).symm

/-- A reckoning's one outcome. -/
def Det {α : Type} (F : (α → Bool) → Bool) : Prop := ∀ k, F k = true → ∃ a, k a = true ∧ ∀ k', F k' = k' a
theorem det_of_nat {α : Type} {F : (α → Bool) → Bool} {o : Option α} (h : ∀ k, F k = match o with | some a => k a | none => false) : Det F := fun k hk => by
  rw [h] at hk
  cases o with
  | none => cases hk
  | some a => exact ⟨a, hk, fun k' => h k'⟩

section
variable {Ω Ω' : Type} (f : Ω → Ω')
theorem viewsK_nat {g : AV → (AV → Ω) → Ω → Ω} {g' : AV → (AV → Ω') → Ω' → Ω'} (hg : ∀ v k z, f (g v k z) = g' v (fun v => f (k v)) (f z)) : ∀ (l : List AV) (k : List AV → Ω) (z : Ω), f (viewsK g l k z) = viewsK g' l (fun v => f (k v)) (f z)
  | [], k, z => rfl
  | v :: r, k, z => by
    simp only [viewsK]
    rw [hg]
    congr 1
    funext v'
    exact viewsK_nat hg r _ _
theorem viewK_nat (h : Heap) : ∀ (d : Nat) (v : AV) (k : AV → Ω) (z : Ω), f (viewK h d v k z) = viewK h d v (fun v => f (k v)) (f z)
  | 0, v, k, z => rfl
  | d + 1, v, k, z => by
    cases v <;> simp only [viewK]
    case ptr id off => split <;> first | rfl | exact cond_nat f _ _ _
    case sl id off n sz app => split <;> first | rfl | (rw [cond_nat f, cond_nat f, viewsK_nat f (viewK_nat h d)])
    case fn g a b =>
      rw [viewsK_nat f (viewK_nat h d)]
      congr 1
      funext a'
      exact viewsK_nat f (viewK_nat h d) _ _ _
    case iface t v => exact viewK_nat h d _ _ _
    case agg cs => exact viewsK_nat f (viewK_nat h d) _ _ _
    case tup cs => exact viewsK_nat f (viewK_nat h d) _ _ _
theorem freezeK_nat (h : Heap) : ∀ (d : Nat) (v : AV) (k : AV → Ω) (z : Ω), f (freezeK h d v k z) = freezeK h d v (fun v => f (k v)) (f z)
  | 0, v, k, z => rfl
  | d + 1, v, k, z => by
    cases v <;> simp only [freezeK]
    case sl id off n sz app => split <;> first | rfl | (rw [cond_nat f, cond_nat f, cond_nat f, viewsK_nat f (freezeK_nat h d)])
    case iface t v => exact freezeK_nat h d _ _ _
    case agg cs => exact viewsK_nat f (freezeK_nat h d) _ _ _
    case tup cs => exact viewsK_nat f (freezeK_nat h d) _ _ _
theorem resK1_nat (C : Cfg) (st : St) (rv : ResultVar) (k : AV → Ω) (z : Ω) : f (resK1 C st rv k z) = resK1 C st rv (fun v => f (k v)) (f z) := by
  unfold resK1
  split
  · rfl
  · split
    · split
      · exact loadK_nat f _ _ _ _ _ _ _
      · rfl
    · rfl
theorem resKs_nat (C : Cfg) (st : St) : ∀ (rs : List ResultVar) (k : List AV → Ω) (z : Ω), f (resKs C st rs k z) = resKs C st rs (fun v => f (k v)) (f z)
  | [], k, z => rfl
  | r :: rs, k, z => by
    simp only [resKs]
    rw [resK1_nat f]
    congr 1
    funext v
    exact resKs_nat C st rs _ _
theorem resK_nat (C : Cfg) (fn : Func) (st : St) (k : AV → Ω) (z : Ω) : f (resK C fn st k z) = resK C fn st (fun v => f (k v)) (f z) := resKs_nat f _ _ _ _ _
theorem closeK_nat : ∀ (ds : List Nat) (lp : Loops) (k : Loops → Ω) (z : Ω), f (closeK ds lp k z) = closeK ds lp (fun v => f (k v)) (f z)
  | [], lp, k, z => rfl
  | d :: ds, lp, k, z => by
    simp only [closeK]
    split
    · exact closeK_nat ds _ _ _
    · rfl
theorem guardK_nat (ops : Array Oper) (tmps : List AV) (o : Oper) (x y : List AV → Ω) (z : Ω) : f (guardK ops tmps o x y z) = guardK ops tmps o (fun t => f (x t)) (fun t => f (y t)) (f z) := by
  unfold guardK
  split
  · rfl
  · split
    · split
      · split
        · rw [cond_nat f, cond_nat f, cond_nat f]
        · rfl
        · rfl
      · rfl
    · rfl
theorem loopM_nat (inr : Option Nat) (st : St) (params : List Nat) (assign body : Code) (k : Nat → List Nat → Mem → Ω) (z : Ω) : f (loopM inr st params assign body k z) = loopM inr st params assign body (fun a b c => f (k a b c)) (f z) := by
  unfold loopM
  split
  · rfl
  · split <;> rfl

/-- Ways of calls, and of walks apart, that are natural. -/
def CallNat (call : CallF Ω) (call' : CallF Ω') : Prop := ∀ t args m kk kp, f (call t args m kk kp) = call' t args m (fun v m => f (kk v m)) (fun v m => f (kp v m))
def StandNat (stand : Func → Code → List AV → (AV → Ω) → Ω) (stand' : Func → Code → List AV → (AV → Ω') → Ω') : Prop := ∀ fn c args k, f (stand fn c args k) = stand' fn c args (fun v => f (k v))
variable {f}
theorem mapK_nat (C : Cfg) (ρ : Operand → AV) (m : Mem) (op : Op) (k : AV → Mem → Ω) (z : Ω) : f (mapK C ρ m op k z) = mapK C ρ m op (fun v m => f (k v m)) (f z) := by
  unfold mapK
  repeat' (first | rfl | split)
theorem opsK_nat {call : CallF Ω} {call' : CallF Ω'} (hc : CallNat f call call') (C : Cfg) (ops : Array Oper) : ∀ (l : List Oper) (st : St) (k : St → Ω) (kp : AV → St → Ω) (z : Ω), f (opsK C call ops l st k kp z) = opsK C call' ops l st (fun s => f (k s)) (fun v s => f (kp v s)) (f z)
  | [], st, k, kp, z => rfl
  | o :: r, st, k, kp, z => by
    rw [opsK_cons, opsK_cons, guardK_nat f]
    congr 1
    · funext tmps
      rw [cond_nat f, mapK_nat (f := f), aop_nat f]
      congr 1
      · congr 1
        funext v m'
        exact opsK_nat hc C ops r _ _ _ _
      · congr 1
        · funext v h nx; exact opsK_nat hc C ops r _ _ _ _
        · funext t args
          rw [hc]
          congr 1
          funext v m'
          exact opsK_nat hc C ops r _ _ _ _
    · funext tmps; exact opsK_nat hc C ops r _ _ _ _
theorem floatK_nat {stand : Func → Code → List AV → (AV → Ω) → Ω} {stand' : Func → Code → List AV → (AV → Ω') → Ω'} (hs : StandNat f stand stand') (C : Cfg) (g : FuncId) (args : List AV) (h : Heap) (k : AV → Ω) (other : Func → Code → Ω) (z : Ω) :
    f (floatK C stand g args h k other z) = floatK C stand' g args h (fun v => f (k v)) (fun a b => f (other a b)) (f z) := by
  unfold floatK
  split
  · split
    · split
      · rw [cond_nat f]
        congr 1
        · split
          · exact cond_nat f _ _ _
          · rfl
        · rw [viewsK_nat f (viewK_nat f h 6)]
          congr 1
          funext args'
          split
          · rw [cond_nat f, cond_nat f]
          · rfl
      · rw [cond_nat f, cond_nat f, hs, viewsK_nat f (viewK_nat f h 6)]
        congr 3
        funext args'
        rw [hs]
        congr 1
        funext r
        exact cond_nat f _ _ _
    · rfl
  · rfl
theorem barD_nat {stand : Func → Code → List AV → (AV → Ω) → Ω} {stand' : Func → Code → List AV → (AV → Ω') → Ω'} (hs : StandNat f stand stand') {call : CallF Ω} {call' : CallF Ω'} (hc : CallNat f call call') (C : Cfg) (tmps : List AV) (m : Mem) (o : Oper) (k : Rc → Ω) (z : Ω) (fp : List Nat) :
    f (barD C stand call tmps m o k z fp) = barD C stand' call' tmps m o (fun r => f (k r)) (f z) fp := by
  unfold barD
  rw [aop_nat f]
  congr 1
  funext t args
  cases t with
  | fn g =>
    simp only
    rw [floatK_nat hs]
    congr 1
    funext a b
    exact hc _ _ _ _ _
  | yld id => exact hc _ _ _ _ _
theorem newD_nat (C : Cfg) (tmps : List AV) (ai : Nat) (o : Oper) (k : Rc → Ω) (z : Ω) : f (newD C tmps ai o k z) = newD C tmps ai o (fun r => f (k r)) (f z) := by
  unfold newD
  rw [aop_nat f]
  congr 1
  funext v h nx
  split <;> rfl
theorem opD_nat {stand : Func → Code → List AV → (AV → Ω) → Ω} {stand' : Func → Code → List AV → (AV → Ω') → Ω'} (hs : StandNat f stand stand') {call : CallF Ω} {call' : CallF Ω'} (hc : CallNat f call call') (C : Cfg) (tmps : List AV) (m : Mem) (ai : Nat) (o : Oper) (k : Rc → Ω) (z : Ω) :
    f (opD C stand call tmps m ai o k z) = opD C stand' call' tmps m ai o (fun r => f (k r)) (f z) := by
  unfold opD
  rw [cond_nat f, cond_nat f, aop_nat f, newD_nat (f := f), barD_nat hs hc]
theorem drawK_nat {stand : Func → Code → List AV → (AV → Ω) → Ω} {stand' : Func → Code → List AV → (AV → Ω') → Ω'} (hs : StandNat f stand stand') {call : CallF Ω} {call' : CallF Ω'} (hc : CallNat f call call') (C : Cfg) (ops : Array Oper) (lo hi : Nat) :
    ∀ (l : List Oper) (st : St) (ai : Nat) (acc : List Rc) (k : St → Ω) (z : Ω), f (drawK C stand call ops lo hi l st ai acc k z) = drawK C stand' call' ops lo hi l st ai acc (fun s => f (k s)) (f z)
  | [], st, ai, acc, k, z => cond_nat f _ _ _
  | o :: r, st, ai, acc, k, z => by
    simp only [drawK]
    rw [guardK_nat f]
    congr 1
    · funext tmps
      rw [opD_nat hs hc]
      congr 1
      funext rc
      exact drawK_nat hs hc C ops lo hi r _ _ _ _ _
    · funext tmps
      exact drawK_nat hs hc C ops lo hi r _ _ _ _ _
/-- A way of going on that is natural. -/
def GoNat (f : Ω → Ω') (go : RunF Ω) (go' : RunF Ω') : Prop := ∀ inr sc code st k z, f (go inr sc code st k z) = go' inr sc code st (fun e s => f (k e s)) (f z)
theorem standK_nat {go : RunF Ω} {go' : RunF Ω'} (hg : GoNat f go go') (C : Cfg) (z : Ω) : StandNat f (standK C go z) (standK C go' (f z)) := fun fn c args k => by
  unfold standK
  rw [hg]
  congr 1
  funext e st'
  cases e <;> simp only
  · rw [closeK_nat f]
    congr 1
    funext lp
    rw [resK_nat f]
    congr 1
    funext v
    exact freezeK_nat f _ _ _ _ _
  · rw [closeK_nat f]
    congr 1
    funext lp
    rw [resK_nat f]
    congr 1
    funext v
    exact freezeK_nat f _ _ _ _ _
theorem callR_nat {go : RunF Ω} {go' : RunF Ω'} (hg : GoNat f go go') (C : Cfg) (z : Ω) : CallNat f (callR C go z) (callR C go' (f z)) := fun t args m kk kp => by
  cases t with
  | fn g =>
    simp only [callR]
    split
    · exact TrM.ev_nat f _ _ _
    rw [floatK_nat (standK_nat hg C z)]
    congr 1
    funext fn c
    rw [hg]
    congr 1
    funext e st'
    cases e <;> simp only
    · rw [closeK_nat f]
      congr 1
      funext lp
      exact resK_nat f _ _ _ _ _
    · rw [closeK_nat f]
      congr 1
      funext lp
      exact resK_nat f _ _ _ _ _
    · exact closeK_nat f _ _ _ _
  | yld id =>
    simp only [callR]
    split
    · rw [cond_nat f, hg]
      congr 2
      funext e st1
      cases e <;> simp only
      split
      · rw [hg]
        congr 1
        funext e2 st2
        split <;> rfl
      · rfl
    · rfl
theorem runStep_nat {go : RunF Ω} {go' : RunF Ω'} (hg : GoNat f go go') (C : Cfg) : GoNat f (runStep C go) (runStep C go') := fun inr sc code st k z => by
  unfold runStep
  cases sc with
  | some body =>
    simp only
    rw [hg]
    congr 1
    funext e st'
    cases e <;> simp only
    split
    · exact hg _ _ _ _ _ _
    · rfl
  | none =>
    cases code <;> simp only
    case seq a b =>
      rw [hg]
      congr 1
      funext e st'
      cases e <;> simp only
      exact hg _ _ _ _ _ _
    case cond c a b =>
      split
      · rw [cond_nat f, hg, hg]
      · rfl
    case block id body =>
      rw [hg]
      congr 1
      funext e st'
      cases e <;> simp only
      exact cond_nat f _ _ _
    case loop body =>
      rw [hg]
      congr 1
      funext e st'
      cases e <;> simp only
      exact hg _ _ _ _ _ _
    case scope body => exact hg _ _ _ _ _ _
    case region id ops draw =>
      rw [cond_nat f, cond_nat f, drawK_nat (standK_nat hg C z) (callR_nat hg C z), drawK_nat (standK_nat hg C z) (callR_nat hg C z), opsK_nat (callR_nat hg C z)]
      congr 2
      congr 1
      funext st'
      exact opsK_nat (callR_nat hg C z) C _ _ _ _ _ _
    case rangeFunc g params assign body =>
      split
      · rw [loopM_nat f]
        congr 1
        funext id ds m
        rw [callR_nat hg C z]
        congr 1
        funext v m'
        split
        · exact cond_nat f _ _ _
        · rfl
      · rfl
theorem run_nat (C : Cfg) : ∀ n, GoNat f (run C n) (run C n)
  | 0 => fun inr sc code st k z => rfl
  | n + 1 => runStep_nat (run_nat C n) C
end
end Go.Bas
