/- The engine, part N: each operation's reckoning is natural: what is done behind it may be done to its; The engine, part I: a run of a function's code, asv a reckoning ('Ω': the answer); The engine, part J: what a run's memory and state say of the model's; operations one behind the othe; The engine, part O: outcomes. A reckoning has one outcome, whatever is done behind it; The engine, part P: regions that draw their order: what was reckoned in the order of the text, in wh; The engine, part Q: regions that draw their order: one operation of one, carried out whenever it may. -/
import Derived.Test.YtjibpphcdfbgkaaDoorBasW2
import Derived.RangeFuncLeaves
import Derived.OrdersIn
import Derived.LoopIn
import Derived.LoopNIn
section
namespace Go.Bas
open Go.RowKit
set_option linter.unusedSimpArgs false
set_option linter.unusedVariables false

section
variable {Ω Ω' : Type} (f : Ω → Ω')
theorem cond_nat (b : Bool) (x y : Ω) : f (cond b x y) = cond b (f x) (f y) := by cases b <;> rfl

theorem coerce1_nat (c : CK) (mode : Nat) (v : AV) (k : AV → Ω) (z : Ω) : f (coerce1 c mode v k z) = coerce1 c mode v (fun v => f (k v)) (f z) := by
  unfold coerce1
  cases c with
  | b => exact cond_nat f _ _ _
  | i kd => exact cond_nat f _ _ _
  | o => rfl
  | s =>
    match mode with
    | 0 => simp only [cond_nat f]
    | 1 => simp only [cond_nat f]
    | _ + 2 => rfl
theorem loadsK_nat (mode : Nat) (cells : List AV) : ∀ (ks : List CK) (off : Nat) (k : List AV → Ω) (z : Ω), f (loadsK mode cells ks off k z) = loadsK mode cells ks off (fun v => f (k v)) (f z)
  | [], off, k, z => rfl
  | c :: cs, off, k, z => by
    simp only [loadsK]
    rw [coerce1_nat f]
    congr 1
    funext v
    exact loadsK_nat mode cells cs (off + 1) _ _
theorem loadsL_nat (mode : Nat) : ∀ (ks : List CK) (l : List AV) (k : List AV → Ω) (z : Ω), f (loadsL mode ks l k z) = loadsL mode ks l (fun v => f (k v)) (f z)
  | [], l, k, z => rfl
  | c :: cs, l, k, z => by
    simp only [loadsL]
    rw [coerce1_nat f]
    congr 1
    funext v
    exact loadsL_nat mode cs (ltail l) _ _
theorem loadsX_nat (mode : Nat) (cells : List AV) (ks : List CK) (off : Nat) (k : List AV → Ω) (z : Ω) : f (loadsX mode cells ks off k z) = loadsX mode cells ks off (fun v => f (k v)) (f z) := by
  unfold loadsX
  rw [cond_nat f, loadsK_nat f, loadsL_nat f]
theorem loadK_nat (P : Program) (t : TypeId) (mode : Nat) (cells : List AV) (off : Nat) (k : AV → Ω) (z : Ω) : f (loadK P t mode cells off k z) = loadK P t mode cells off (fun v => f (k v)) (f z) := by
  unfold loadK
  split
  · rw [cond_nat f, cond_nat f, cond_nat f, cond_nat f, loadsX_nat f]
    congr 3
    split
    · rw [coerce1_nat f]
    · rfl
  · rfl
theorem fillK_nat (place : Nat → Option (Nat × Nat)) : ∀ (parts : List (Nat × AV)) (cells : List AV) (k : List AV → Ω) (z : Ω), f (fillK place cells parts k z) = fillK place cells parts (fun v => f (k v)) (f z)
  | [], cells, k, z => rfl
  | (i, v) :: rest, cells, k, z => by
    simp only [fillK]
    split
    · rw [cond_nat f, fillK_nat place rest]
    · rfl
theorem buildK_nat (P : Program) (t : TypeId) (parts : List (Nat × AV)) (k : AV → Ω) (z : Ω) : f (buildK P t parts k z) = buildK P t parts (fun v => f (k v)) (f z) := by
  unfold buildK
  split
  · rw [cond_nat f, fillK_nat f]
  · split
    · rw [fillK_nat f]
    · rfl
  · rfl
theorem ibinK_nat (op : BinOp) (kd kd' : IntKind) (x y : Int) (k : AV → Ω) (z : Ω) : f (ibinK op kd kd' x y k z) = ibinK op kd kd' x y (fun v => f (k v)) (f z) := by
  cases op <;> simp only [ibinK, cond_nat f]
theorem eqopK_nat (op : BinOp) (b : Bool) (k : AV → Ω) (z : Ω) : f (eqopK op b k z) = eqopK op b (fun v => f (k v)) (f z) := by
  cases op <;> rfl
set_option maxHeartbeats 1000000 in
theorem binK_nat (P : Program) (op : BinOp) (t : TypeId) (ox oy : Operand) (x y : AV) (k : AV → Ω) (z : Ω) : f (binK P op t ox oy x y k z) = binK P op t ox oy x y (fun v => f (k v)) (f z) := by
  unfold binK
  split <;> first | rfl | exact ibinK_nat f _ _ _ _ _ _ _ | (split <;> first | rfl | (simp only [cond_nat f, eqopK_nat f]))
theorem unK_nat (op : UnOp) (x : AV) (k : AV → Ω) (z : Ω) : f (unK op x k z) = unK op x (fun v => f (k v)) (f z) := by
  unfold unK; split <;> rfl
theorem convK_nat (P : Program) (src dst : TypeId) (x : AV) (k : AV → Ω) (z : Ω) : f (convK P src dst x k z) = convK P src dst x (fun v => f (k v)) (f z) := by
  unfold convK; split <;> first | rfl | (split <;> rfl)
theorem fieldAddrK_nat (P : Program) (s : TypeId) (x : AV) (g : Nat) (k : AV → Ω) (z : Ω) : f (fieldAddrK P s x g k z) = fieldAddrK P s x g (fun v => f (k v)) (f z) := by
  unfold fieldAddrK; split <;> first | rfl | (split <;> rfl)
theorem partK_nat (P : Program) (t : TypeId) (cs : List AV) (off : Nat) (k : AV → Ω) (z : Ω) : f (partK P t cs off k z) = partK P t cs off (fun v => f (k v)) (f z) := by
  unfold partK
  split
  · rw [cond_nat f, cond_nat f]
    congr 1
    split <;> rfl
  · rfl
theorem fieldK_nat (P : Program) (t : TypeId) (x : AV) (g : Nat) (k : AV → Ω) (z : Ω) : f (fieldK P t x g k z) = fieldK P t x g (fun v => f (k v)) (f z) := by
  unfold fieldK
  split
  · split
    · exact partK_nat f _ _ _ _ _ _
    · rfl
  · rfl
theorem indexAddrK_nat (P : Program) (t : TypeId) (x i : AV) (k : AV → Ω) (z : Ω) : f (indexAddrK P t x i k z) = indexAddrK P t x i (fun v => f (k v)) (f z) := by
  unfold indexAddrK
  split
  · split
    · split
      · split <;> first | rfl | (simp only [cond_nat f])
      · rfl
    · split
      · split <;> first | rfl | (simp only [cond_nat f])
      · rfl
    · rfl
  · rfl
theorem indexK_nat (P : Program) (t : TypeId) (x i : AV) (k : AV → Ω) (z : Ω) : f (indexK P t x i k z) = indexK P t x i (fun v => f (k v)) (f z) := by
  unfold indexK
  split
  · split
    · split
      · rw [cond_nat f, partK_nat f]
      · rfl
    · rfl
  · split
    · rw [cond_nat f]
      congr 1
      split <;> rfl
    · rfl
  · rfl
set_option maxHeartbeats 1000000 in
theorem sliceK_nat (P : Program) (t : TypeId) (x : AV) (lo hi mx : Option AV) (k : AV → Ω) (z : Ω) : f (sliceK P t x lo hi mx k z) = sliceK P t x lo hi mx (fun v => f (k v)) (f z) := by
  unfold sliceK
  repeat' first | rfl | (rw [cond_nat f]; congr 1; done) | (simp only [cond_nat f]; done) | (split; all_goals skip) | (rw [cond_nat f]; congr 1)
theorem srcK_nat (h : Heap) (sz : Nat) (x : AV) (k : List AV → Nat → Bool → Ω) (z : Ω) : f (srcK h sz x k z) = srcK h sz x (fun a b c => f (k a b c)) (f z) := by
  unfold srcK
  split <;> first | rfl | (simp only [cond_nat f]; done) | (split <;> first | rfl | (simp only [cond_nat f]))
theorem appendK_nat (P : Program) (h : Heap) (nx : Nat) (t t' : TypeId) (s x : AV) (k : AV → Heap → Nat → Ω) (z : Ω) : f (appendK P h nx t t' s x k z) = appendK P h nx t t' s x (fun a b c => f (k a b c)) (f z) := by
  unfold appendK
  rw [cond_nat f]
  congr 1
  split
  · split
    · rw [cond_nat f, srcK_nat f]
      congr 2
      funext new m pn
      rw [cond_nat f]
      congr 1
      split <;> first | rfl | (simp only [cond_nat f]; done) | (split <;> first | rfl | (simp only [cond_nat f]))
    · rfl
  · rfl
theorem copyK_nat (P : Program) (h : Heap) (t : TypeId) (d x : AV) (k : AV → Heap → Ω) (z : Ω) : f (copyK P h t d x k z) = copyK P h t d x (fun a b => f (k a b)) (f z) := by
  unfold copyK
  split
  · split
    · split
      · split
        · rw [cond_nat f, srcK_nat f]
          congr 2
          funext new m pn
          rw [cond_nat f]
        · rfl
      · rfl
    · rfl
  · rfl
theorem makeSliceK_nat (P : Program) (h : Heap) (nx : Nat) (t : TypeId) (len cap : AV) (k : AV → Heap → Nat → Ω) (z : Ω) : f (makeSliceK P h nx t len cap k z) = makeSliceK P h nx t len cap (fun a b c => f (k a b c)) (f z) := by
  unfold makeSliceK
  split
  · split
    · rw [cond_nat f]
    · rfl
  · rfl
theorem lenK_nat (P : Program) (t : TypeId) (x : AV) (k : AV → Ω) (z : Ω) : f (lenK P t x k z) = lenK P t x (fun v => f (k v)) (f z) := by
  unfold lenK
  split
  · split <;> rfl
  · rfl
  · rfl
theorem foldIntK_nat (g : Int → Int → Int) : ∀ (l : List AV) (kd : IntKind) (n : Int) (k : AV → Ω) (z : Ω), f (foldIntK g kd n l k z) = foldIntK g kd n l (fun v => f (k v)) (f z)
  | [], kd, n, k, z => rfl
  | a :: r, kd, n, k, z => by
    cases a <;> first | rfl | exact foldIntK_nat g r kd _ k z
theorem minmaxK_nat (g : Int → Int → Int) (args : List AV) (k : AV → Ω) (z : Ω) : f (minmaxK g args k z) = minmaxK g args (fun v => f (k v)) (f z) := by
  unfold minmaxK
  split
  · exact foldIntK_nat f g _ _ _ _ _
  · rfl
theorem assertK_nat (P : Program) (x : AV) (asserted : TypeId) (ok : Bool) (k : AV → Ω) (z : Ω) : f (assertK P x asserted ok k z) = assertK P x asserted ok (fun v => f (k v)) (f z) := by
  unfold assertK
  split
  · rfl
  · split <;> first | rfl | (simp only [cond_nat f])
  · rfl
theorem callK_nat (C : Cfg) (ρ : Operand → AV) (h : Heap) (nx : Nat) (c : Call) (kv : AV → Heap → Nat → Ω) (kc : Tgt → List AV → Ω) (kp : AV → Ω) (z : Ω) :
    f (callK C ρ h nx c kv kc kp z) = callK C ρ h nx c (fun a b c => f (kv a b c)) (fun a b => f (kc a b)) (fun a => f (kp a)) (f z) := by
  unfold callK
  split
  · split <;> rfl
  · split
    · split <;> rfl
    · rfl
  · split <;> rfl
  · split
    · exact lenK_nat f _ _ _ _ _
    · rfl
  · split
    · exact appendK_nat f _ _ _ _ _ _ _ _ _
    · rfl
  · split
    · exact copyK_nat f _ _ _ _ _ _ _
    · rfl
  · exact minmaxK_nat f _ _ _ _
  · exact minmaxK_nat f _ _ _ _
  · rfl
theorem aop_nat (C : Cfg) (ρ : Operand → AV) (h : Heap) (nx : Nat) (op : Op) (kv : AV → Heap → Nat → Ω) (kc : Tgt → List AV → Ω) (kp : AV → Ω) (z : Ω) :
    f (aop C ρ h nx op kv kc kp z) = aop C ρ h nx op (fun a b c => f (kv a b c)) (fun a b => f (kc a b)) (fun a => f (kp a)) (f z) := by
  cases op <;> simp only [aop]
  case pick c a b => split <;> first | rfl | exact cond_nat f _ _ _
  case alloc t => split <;> rfl
  case box t x => split <;> rfl
  case build t parts => exact buildK_nat f _ _ _ _ _
  case buildSlice t len parts =>
    split
    · split
      · rw [cond_nat f, fillK_nat f]
      · rfl
    · rfl
  case load t x =>
    split
    · split
      · exact loadK_nat f _ _ _ _ _ _ _
      · rfl
    · exact loadK_nat f _ _ _ _ _ _ _
    · rfl
  case store t x v =>
    split
    · split
      · exact cond_nat f _ _ _
      · rfl
    · rfl
  case nilCheck x => split <;> rfl
  case binOp op t x y _ => exact binK_nat f _ _ _ _ _ _ _ _ _
  case unOp op _ x => exact unK_nat f _ _ _ _
  case convert src dst x => exact convK_nat f _ _ _ _ _ _
  case makeInterface t x => split <;> rfl
  case makeSlice t l c => exact makeSliceK_nat f _ _ _ _ _ _ _ _
  case slice t x lo hi mx => exact sliceK_nat f _ _ _ _ _ _ _ _
  case fieldAddr s x g => exact fieldAddrK_nat f _ _ _ _ _ _
  case field t x g => exact fieldK_nat f _ _ _ _ _ _
  case indexAddr t x i => exact indexAddrK_nat f _ _ _ _ _ _
  case index t x i => exact indexK_nat f _ _ _ _ _ _
  case extract x i =>
    split
    · split <;> rfl
    · rfl
  case typeAssert x _ asserted ok => exact assertK_nat f _ _ _ _ _ _
  case panic x => split <;> rfl
  case call c => exact callK_nat f _ _ _ _ _ _ _ _ _
end

/-- It looks at its operands alone. -/
theorem argsL_congr {ρ ρ' : Operand → AV} {l : Array Operand} (h : ∀ x ∈ l, ρ x = ρ' x) : argsL ρ l = argsL ρ' l :=
  List.map_congr_left fun x hx => h x (Array.mem_toList_iff.1 hx)
theorem partsL_congr {ρ ρ' : Operand → AV} {l : Array (Nat × Operand)} (h : ∀ x ∈ (l.toList.map (·.2)).toArray, ρ x = ρ' x) : (l.toList.map fun p => (p.1, ρ p.2)) = l.toList.map fun p => (p.1, ρ' p.2) :=
  List.map_congr_left fun p hp => by rw [h p.2 (by simp; exact ⟨p.1, by simpa using hp⟩)]
theorem optL_congr {ρ ρ' : Operand → AV} {o : Option Operand} (h : ∀ x ∈ o.toArray, ρ x = ρ' x) : o.map ρ = o.map ρ' := by
  cases o with
  | none => rfl
  | some x => exact congrArg some (h x (by simp))
theorem callK_congr {Ω : Type} {C : Cfg} {ρ ρ' : Operand → AV} {h : Heap} {nx : Nat} {c : Call} {kv : AV → Heap → Nat → Ω} {kc : Tgt → List AV → Ω} {kp : AV → Ω} {z : Ω} (e : ∀ x ∈ c.operands, ρ x = ρ' x) :
    callK C ρ h nx c kv kc kp z = callK C ρ' h nx c kv kc kp z := by
  have ha : argsL ρ c.args = argsL ρ' c.args := argsL_congr fun x hx => e x (by simp [Call.operands, hx])
  unfold callK
  rw [ha]
  cases hc : c.callee with
  | value g =>
    have : ρ g = ρ' g := e g (by simp [Call.operands, hc])
    simp only [this]
  | invoke r n =>
    have : ρ r = ρ' r := e r (by simp [Call.operands, hc])
    simp only [this]
  | builtin b => cases b <;> rfl
set_option maxHeartbeats 1000000 in
theorem aop_congr {Ω : Type} {C : Cfg} {ρ ρ' : Operand → AV} {h : Heap} {nx : Nat} {op : Op} {kv : AV → Heap → Nat → Ω} {kc : Tgt → List AV → Ω} {kp : AV → Ω} {z : Ω} (e : ∀ x ∈ op.operands, ρ x = ρ' x) :
    aop C ρ h nx op kv kc kp z = aop C ρ' h nx op kv kc kp z := by
  cases op <;> simp only [Op.operands] at e <;> try rfl
  case build t parts => simp only [aop, partsL_congr e]
  case buildSlice t len parts => simp only [aop, partsL_congr e]
  case makeFunc fn first cap =>
    have h1 : argsL ρ first = argsL ρ' first := argsL_congr fun x hx => e x (by simp [hx])
    have h2 : argsL ρ cap = argsL ρ' cap := argsL_congr fun x hx => e x (by simp [hx])
    simp only [aop, h1, h2]
  case slice t x lo hi mx =>
    have h1 : lo.map ρ = lo.map ρ' := optL_congr fun x hx => e x (by simp [hx])
    have h2 : hi.map ρ = hi.map ρ' := optL_congr fun x hx => e x (by simp [hx])
    have h3 : mx.map ρ = mx.map ρ' := optL_congr fun x hx => e x (by simp [hx])
    have h4 : ρ x = ρ' x := e x (by simp)
    simp only [aop, h1, h2, h3, h4]
  case call c => exact callK_congr e
  all_goals simp_all [aop]
end Go.Bas
end
section
namespace Go.Bas
open Go.RowKit
set_option linter.unusedSimpArgs false
set_option linter.unusedVariables false

/-- The state of an activation: the temporaries, the marks among its deferred calls, the memory. -/
structure St where
  tmps : List AV
  ds : List Nat
  m : Mem

noncomputable def evO (C : Cfg) (tmps : List AV) : Operand → AV
  | .tmp t => lget tmps t
  | .const v => ofV v
  | .global g => match C.G g with
    | some cells => .iptr cells 0
    | none => .any
  | .func f => .fn (.func f) [] []
noncomputable def setT (tmps : List AV) (dst : Option Nat) (v : AV) : List AV :=
  match dst with
  | some d => lset tmps d v
  | none => tmps
noncomputable def setO (tmps : List AV) (c : Operand) (v : AV) : List AV :=
  match c with
  | .tmp d => lset tmps d v
  | _ => tmps
noncomputable def setAll (tmps : List AV) : List Nat → List AV → List AV
  | p :: ps, v :: vs => setAll (lset tmps p v) ps vs
  | _, _ => tmps

section
variable {Ω : Type}
noncomputable def guardK (ops : Array Oper) (tmps : List AV) (o : Oper) (x y : List AV → Ω) (z : Ω) : Ω :=
  match o.guard with
  | none => x tmps
  | some (j, want) => match ops[j]? with
    | some oj => match oj.dst with
      | some d => match lget tmps d with
        | .bool b => cond b (cond want (x (lset tmps d (.bool true))) (y (lset tmps d (.bool true)))) (cond want (y (lset tmps d (.bool false))) (x (lset tmps d (.bool false))))
        | .tup _ => y tmps
        | _ => z
      | none => z
    | none => z

/-- It leads into no memory at all. -/
def AV.noMem : Nat → AV → Bool
  | 0, _ => false
  | _ + 1, .ptr _ _ => false
  | _ + 1, .iptr _ _ => false
  | _ + 1, .sl _ _ _ _ _ => false
  | _ + 1, .lst _ _ => false
  | _ + 1, .yld _ => false
  | _ + 1, .mp _ => false
  | d + 1, .agg cs => cs.all (AV.noMem d)
  | d + 1, .tup cs => cs.all (AV.noMem d)
  | d + 1, .iface _ v => AV.noMem d v
  | d + 1, .fn _ a b => a.all (AV.noMem d) && b.all (AV.noMem d)
  | _ + 1, _ => true

noncomputable def resK1 (C : Cfg) (st : St) (rv : ResultVar) (k : AV → Ω) (z : Ω) : Ω :=
  match rv with
  | .tmp t => k (lget st.tmps t)
  | .cell a t => match lget st.tmps a with
    | .ptr id off => match hget st.m.heap id with
      | some hb => loadK C.P t (cond hb.pure 1 2) hb.cells off k z
      | none => z
    | _ => z
noncomputable def resKs (C : Cfg) (st : St) : List ResultVar → (List AV → Ω) → Ω → Ω
  | [], k, _ => k []
  | r :: rs, k, z => resK1 C st r (fun v => resKs C st rs (fun vs => k (v :: vs)) z) z
def tupOf : List AV → AV
  | [v] => v
  | vs => .tup vs
noncomputable def resK (C : Cfg) (fn : Func) (st : St) (k : AV → Ω) (z : Ω) : Ω := resKs C st fn.results.toList (fun vs => k (tupOf vs)) z

def viewsK (f : AV → (AV → Ω) → Ω → Ω) : List AV → (List AV → Ω) → Ω → Ω
  | [], k, _ => k []
  | v :: r, k, z => f v (fun v' => viewsK f r (fun r' => k (v' :: r')) z) z
/-- A value asv a callee sees it that only reads. -/
noncomputable def viewK (h : Heap) : Nat → AV → (AV → Ω) → Ω → Ω
  | 0, _, _, z => z
  | d + 1, v, k, z => match v with
    | .ptr id off => match hget h id with
      | some hb => cond hb.pure (k (.iptr hb.cells off)) z
      | none => z
    | .sl id off n sz _ => match hget h id with
      | some hb => cond (Nat.ble (off + n * sz) hb.cells.length) (cond hb.pure (k (.lst ((hb.cells.drop off).take (n * sz)) n)) (viewsK (viewK h d) ((hb.cells.drop off).take (n * sz)) (fun cs' => k (.lst cs' n)) z)) z
      | none => z
    | .yld _ => z
    | .mp _ => z
    | .agg cs => viewsK (viewK h d) cs (fun cs' => k (.agg cs')) z
    | .tup cs => viewsK (viewK h d) cs (fun cs' => k (.tup cs')) z
    | .iface t v => viewK h d v (fun v' => k (.iface t v')) z
    | .fn f a b => viewsK (viewK h d) a (fun a' => viewsK (viewK h d) b (fun b' => k (.fn f a' b')) z) z
    | v => k v
/-- A result, its own blocks given up. -/
noncomputable def freezeK (h : Heap) : Nat → AV → (AV → Ω) → Ω → Ω
  | 0, _, _, z => z
  | d + 1, v, k, z => match v with
    | .ptr _ _ => z
    | .iptr _ _ => z
    | .fn _ _ _ => z
    | .yld _ => z
    | .mp _ => z
    | .sl id off n sz _ => match hget h id with
      | some hb => cond (Nat.beq n 0) (k .ns) (cond (Nat.ble (off + n * sz) hb.cells.length) (cond hb.pure (k (.lst ((hb.cells.drop off).take (n * sz)) n)) (viewsK (freezeK h d) ((hb.cells.drop off).take (n * sz)) (fun cs' => k (.lst cs' n)) z)) z)
      | none => z
    | .agg cs => viewsK (freezeK h d) cs (fun cs' => k (.agg cs')) z
    | .tup cs => viewsK (freezeK h d) cs (fun cs' => k (.tup cs')) z
    | .iface t v => freezeK h d v (fun v' => k (.iface t v')) z
    | v => k v

/-- The marks of an activation that leaves. -/
def closeK : List Nat → Loops → (Loops → Ω) → Ω → Ω
  | [], lp, k, _ => k lp
  | d :: ds, lp, k, z => match lpget lp d with
    | some .dfb => closeK ds (lpdel lp d) k z
    | _ => z

/-- The kind of a call's way. -/
abbrev CallF (Ω : Type) := Tgt → List AV → Mem → (AV → Mem → Ω) → (AV → Mem → Ω) → Ω

/-- Operations on maps of numbers to numbers, that are the run's own. -/
def mapB : Op → Bool
  | .makeMap _ _ => true
  | .lookup _ _ _ _ => true
  | .mapUpdate _ _ _ _ => true
  | _ => false
def zeroI (P : Program) (t : TypeId) : Option (IntKind × Int) :=
  match P.info? t with
  | some i => match i.zero with
    | some (.int k n) => some (k, n)
    | _ => none
  | none => none
/-- What is found in a map: 'none': it can't be told; else the value, if there is one. -/
def findI (P : Program) (kt : TypeId) (es : Array MapEntry) (kd : IntKind) (n : Int) : Option (Option (IntKind × Int)) :=
  match P.underlying kt with
  | some (.int kd0) => cond (kindEq kd kd0) (match Instr.findNow (.int kd0) (.int kd n) es.toList 0 with
    | some (some (_, .int kv v)) => some (some (kv, v))
    | some none => some none
    | _ => none) none
  | _ => none
noncomputable def mapK (C : Cfg) (ρ : Operand → AV) (m : Mem) (op : Op) (k : AV → Mem → Ω) (z : Ω) : Ω :=
  match op with
  | .makeMap _ none => k (.mp m.nx) ⟨m.heap, m.nx + 1, (m.nx, .obj (.map #[] 0)) :: m.lp⟩
  | .lookup t x ix ok => match C.P.underlying t, ρ x, ρ ix with
    | some (.map kt et), .mp id, .int kd n => match lpget m.lp id, zeroI C.P et with
      | some (.obj (.map es _)), some (kz, nz) => match findI C.P kt es kd n with
        | some (some (kv, v)) => k (cond ok (.tup [.int kv v, .bool true]) (.int kv v)) m
        | some none => k (cond ok (.tup [.int kz nz, .bool false]) (.int kz nz)) m
        | none => z
      | _, _ => z
    | _, _, _ => z
  | .mapUpdate t x kx vx => match C.P.underlying t, ρ x, ρ kx, ρ vx with
    | some (.map kt _), .mp id, .int kd n, .int kv v => match lpget m.lp id with
      | some (.obj (.map es cl)) => match findI C.P kt es kd n with
        | some none => k (.tup []) ⟨m.heap, m.nx, lpset m.lp id (.obj (.map (es.push { key := .int kd n, val := .int kv v, born := cl }) (cl + 1)))⟩
        | _ => z
      | _ => z
    | _, _, _, _ => z
  | _ => z
noncomputable def opsK (C : Cfg) (call : CallF Ω) (ops : Array Oper) (l : List Oper) : St → (St → Ω) → (AV → St → Ω) → Ω → Ω :=
  List.rec (motive := fun _ => St → (St → Ω) → (AV → St → Ω) → Ω → Ω) (fun st k _ _ => k st)
    (fun o _ ih st k kp z => guardK ops st.tmps o
      (fun tmps => cond (mapB o.op) (mapK C (evO C tmps) st.m o.op (fun v m' => ih ⟨setT tmps o.dst v, st.ds, m'⟩ k kp z) z) (aop C (evO C tmps) st.m.heap st.m.nx o.op
        (fun v h nx => ih ⟨setT tmps o.dst v, st.ds, ⟨h, nx, st.m.lp⟩⟩ k kp z)
        (fun t args => call t args st.m (fun v m' => ih ⟨setT tmps o.dst v, st.ds, m'⟩ k kp z) (fun v m' => kp v ⟨tmps, st.ds, m'⟩))
        (fun v => kp v ⟨tmps, st.ds, st.m⟩) z))
      (fun tmps => ih ⟨setT tmps o.dst (.tup []), st.ds, st.m⟩ k kp z) z) l

theorem opsK_cons (C : Cfg) (call : CallF Ω) (ops : Array Oper) (o : Oper) (r : List Oper) (st : St) (k : St → Ω) (kp : AV → St → Ω) (z : Ω) :
    opsK C call ops (o :: r) st k kp z = guardK ops st.tmps o
      (fun tmps => cond (mapB o.op) (mapK C (evO C tmps) st.m o.op (fun v m' => opsK C call ops r ⟨setT tmps o.dst v, st.ds, m'⟩ k kp z) z) (aop C (evO C tmps) st.m.heap st.m.nx o.op
        (fun v h nx => opsK C call ops r ⟨setT tmps o.dst v, st.ds, ⟨h, nx, st.m.lp⟩⟩ k kp z)
        (fun t args => call t args st.m (fun v m' => opsK C call ops r ⟨setT tmps o.dst v, st.ds, m'⟩ k kp z) (fun v m' => kp v ⟨tmps, st.ds, m'⟩))
        (fun v => kp v ⟨tmps, st.ds, st.m⟩) z))
      (fun tmps => opsK C call ops r ⟨setT tmps o.dst (.tup []), st.ds, st.m⟩ k kp z) z := rfl

/-! ### Regions that draw their order -/
def quietCall (c : Call) : Bool :=
  match c.callee with
  | .builtin .len => true
  | .builtin .min => true
  | .builtin .max => true
  | _ => false
/-- It reads at most. -/
def quietOp (op : Op) : Bool :=
  match op with
  | .move _ => true
  | .assign _ => true
  | .pick _ _ _ => true
  | .build _ _ => true
  | .load _ _ => true
  | .nilCheck _ => true
  | .binOp _ _ _ _ _ => true
  | .unOp _ _ _ => true
  | .convert _ _ _ => true
  | .makeInterface _ _ => true
  | .makeFunc _ _ _ => true
  | .slice _ _ _ _ _ => true
  | .fieldAddr _ _ _ => true
  | .field _ _ _ => true
  | .indexAddr _ _ _ => true
  | .index _ _ _ => true
  | .extract _ _ => true
  | .typeAssert _ _ _ _ => true
  | .call c => quietCall c
  | _ => false
/-- It makes a block. -/
def newOp (op : Op) : Bool :=
  match op with
  | .alloc _ => true
  | .box _ _ => true
  | .buildSlice _ _ _ => true
  | .makeSlice _ _ _ => true
  | _ => false
/-- What an operation has done: nothing but its value; a new block; something with blocks ('fp'), behind which they, and new ones, are so. -/
inductive Eff where
  | nop
  | new (id : Nat) (hb : HB)
  | bar (fp : List Nat) (lo : Nat) (m' : Mem)
structure Rc where
  dst : Option Nat
  out : AV
  rd : List Nat
  eff : Eff
def memN (l : List Nat) (i : Nat) : Bool := l.any (Nat.beq i)
def hpick (h : Heap) (fp : List Nat) : Heap := h.filter fun p => memN fp p.1
def hrest (h : Heap) (fp : List Nat) : Heap := h.filter fun p => !memN fp p.1
noncomputable def applyRc (st : St) (r : Rc) : St :=
  ⟨setT st.tmps r.dst r.out, st.ds, match r.eff with
    | .nop => st.m
    | .new id hb => ⟨(id, hb) :: st.m.heap, st.m.nx, st.m.lp⟩
    | .bar fp _ m' => ⟨m'.heap ++ hrest st.m.heap fp, m'.nx, m'.lp⟩⟩
/-- Into which blocks a value leads. -/
def AV.ids : Nat → AV → List Nat
  | 0, _ => []
  | _ + 1, .ptr id _ => [id]
  | _ + 1, .sl id _ _ _ _ => [id]
  | _ + 1, .yld id => [id]
  | _ + 1, .mp id => [id]
  | d + 1, .fn _ a b => (a ++ b).flatMap (AV.ids d)
  | d + 1, .iface _ v => AV.ids d v
  | d + 1, .agg cs => cs.flatMap (AV.ids d)
  | d + 1, .tup cs => cs.flatMap (AV.ids d)
  | _ + 1, _ => []
noncomputable def reach (m : Mem) : Nat → List Nat → List Nat → List Nat
  | 0, _, acc => acc
  | _ + 1, [], acc => acc
  | n + 1, i :: todo, acc => cond (memN acc i) (reach m n todo acc) (match hget m.heap i with
    | some hb => cond hb.pure (reach m n todo (i :: acc)) (reach m n (hb.cells.flatMap (AV.ids 4) ++ todo) (i :: acc))
    | none => match lpget m.lp i with
      | some (.lop _ _ tmps _ _ _ _) => reach m n (tmps.flatMap (AV.ids 4) ++ todo) (i :: acc)
      | _ => reach m n todo (i :: acc))
noncomputable def prints (m : Mem) (vs : List AV) : List Nat := reach m 1000 (vs.flatMap (AV.ids 4)) []
/-- What a quiet operation reads. -/
noncomputable def readsOf (ρ : Operand → AV) (op : Op) : List Nat :=
  match op with
  | .load _ x => match ρ x with
    | .ptr id _ => [id]
    | _ => []
  | _ => []
/-- A call that turns nothing of the caller's: by a summary, or walked apart. -/
noncomputable def floatK (C : Cfg) (stand : Func → Code → List AV → (AV → Ω) → Ω) (f : FuncId) (args : List AV) (h : Heap) (k : AV → Ω) (other : Func → Code → Ω) (z : Ω) : Ω :=
  match C.P.funcs[f]? with
  | some fn => match fn.body with
    | some c => match C.S f with
      | some F => cond (args.all (AV.noRef 6)) (match F args with
          | some (p, r) => cond p (k r) z
          | none => z)
        (viewsK (viewK h 6) args (fun args' => match F args' with
          | some (p, r) => cond p (cond (r.noMem 6) (k r) z) z
          | none => z) z)
      | none => cond (C.Q f) (cond (args.all (AV.noRef 6)) (stand fn c args k) (viewsK (viewK h 6) args (fun args' => stand fn c args' (fun r => cond (r.noMem 6) (k r) z)) z)) (other fn c)
    | none => z
  | none => z
/-- An operation that does something with blocks. -/
noncomputable def barD (C : Cfg) (stand : Func → Code → List AV → (AV → Ω) → Ω) (call : CallF Ω) (tmps : List AV) (m : Mem) (o : Oper) (k : Rc → Ω) (z : Ω) (fp : List Nat) : Ω :=
  aop C (evO C tmps) (hpick m.heap fp) m.nx o.op (fun v h nx => k ⟨o.dst, v, fp, .bar fp m.nx ⟨h, nx, m.lp⟩⟩)
    (fun t args => match t with
      | .fn f => floatK C stand f args (hpick m.heap fp) (fun v => k ⟨o.dst, v, fp, .nop⟩) (fun _ _ => call t args ⟨hpick m.heap fp, m.nx, m.lp⟩ (fun v m' => k ⟨o.dst, v, fp, .bar fp m.nx m'⟩) (fun _ _ => z)) z
      | .yld _ => call t args ⟨hpick m.heap fp, m.nx, m.lp⟩ (fun v m' => k ⟨o.dst, v, fp, .bar fp m.nx m'⟩) (fun _ _ => z)) (fun _ => z) z
/-- An operation that makes a block. -/
noncomputable def newD (C : Cfg) (tmps : List AV) (ai : Nat) (o : Oper) (k : Rc → Ω) (z : Ω) : Ω :=
  aop C (evO C tmps) [] ai o.op (fun v h _ => match h with
    | (id, hb) :: [] => k ⟨o.dst, v, [], .new id hb⟩
    | _ => z) (fun _ _ => z) (fun _ => z) z
/-- One operation of a region that draws its order. -/
noncomputable def opD (C : Cfg) (stand : Func → Code → List AV → (AV → Ω) → Ω) (call : CallF Ω) (tmps : List AV) (m : Mem) (ai : Nat) (o : Oper) (k : Rc → Ω) (z : Ω) : Ω :=
  cond (quietOp o.op) (aop C (evO C tmps) m.heap m.nx o.op (fun v _ _ => k ⟨o.dst, v, readsOf (evO C tmps) o.op, .nop⟩) (fun _ _ => z) (fun _ => z) z)
    (cond (newOp o.op) (newD C tmps ai o k z) (barD C stand call tmps m o k z (prints m (o.op.operands.toList.map (evO C tmps)))))

/-- One stands ahead of the other in every order. -/
def befB (ops : Array Oper) : Nat → Nat → Nat → Bool
  | 0, _, _ => false
  | n + 1, i, j => match ops[j]? with
    | some o => o.after.toList.any (fun e => Region.binds .any e && Nat.beq e.on i) || o.after.toList.any (fun e => Region.binds .any e && befB ops n i e.on)
    | none => false
def tmpsOf (xs : List Operand) : List Nat := xs.filterMap fun
  | .tmp t => some t
  | _ => none
/-- The temporaries at which an operation looks. -/
def looksL (ops : Array Oper) (o : Oper) : List Nat :=
  tmpsOf o.op.operands.toList ++ (match o.guard with
    | some (j, _) => match ops[j]? with
      | some oj => oj.dst.toList
      | none => []
    | none => [])
/-- They hang on each other by temporaries. -/
def tmpClash (ops : Array Oper) (a b : Oper) : Bool :=
  (match a.dst with
    | some d => memN (looksL ops b) d || b.dst == some d
    | none => false) ||
  (match b.dst with
    | some d => memN (looksL ops a) d
    | none => false)
/-- The pairs that may come either way round. -/
def eitherWay (ops : Array Oper) : List (Nat × Nat) :=
  (List.range ops.size).flatMap fun j => ((List.range j).filter fun i => !befB ops ops.size i j).map fun i => (i, j)
def staticB (ops : Array Oper) : Bool :=
  ((List.range ops.size).all fun i => match ops[i]? with
    | some o => o.after.toList.all fun e => !Region.binds .any e || Nat.blt e.on i
    | none => false) && (eitherWay ops).all fun p => match ops[p.1]?, ops[p.2]? with
    | some a, some b => !tmpClash ops a b
    | _, _ => false
def Eff.isBar : Eff → Bool
  | .bar _ _ _ => true
  | _ => false
def Eff.touches : Eff → Nat → Bool
  | .nop, _ => false
  | .new i _, id => Nat.beq i id
  | .bar fp lo _, id => memN fp id || Nat.ble lo id
def Eff.domOk : Eff → Bool
  | .bar fp lo m' => m'.heap.all fun p => memN fp p.1 || Nat.ble lo p.1
  | _ => true
def effClash : Eff → Eff → Bool
  | .new i _, .bar fp lo _ => memN fp i || Nat.ble lo i
  | .bar fp lo _, .new i _ => memN fp i || Nat.ble lo i
  | .new i _, .new j _ => Nat.beq i j
  | .bar _ _ _, .bar _ _ _ => true
  | _, _ => false
def clash (a b : Rc) : Bool := b.rd.any a.eff.touches || (a.rd.any b.eff.touches || effClash a.eff b.eff)
def Eff.newId : Eff → List Nat
  | .new i _ => [i]
  | _ => []
def nodupB : List Nat → Bool
  | [] => true
  | i :: r => !memN r i && nodupB r
def getRc : List Rc → Nat → Option Rc
  | [], _ => none
  | r :: _, 0 => some r
  | _ :: rs, n + 1 => getRc rs n
def okRcs (ops : Array Oper) (lo hi : Nat) (rs : List Rc) : Bool :=
  staticB ops && (nodupB (rs.flatMap fun r => r.eff.newId) && ((rs.flatMap fun r => r.eff.newId).all fun i => Nat.ble lo i && Nat.blt i hi)) && ((eitherWay ops).all (fun p => match getRc rs p.1, getRc rs p.2 with
    | some a, some b => !clash a b
    | _, _ => false) && rs.all fun r => r.eff.domOk)
/-- One stands right ahead of an operation. -/
def nextB (o : Oper) (i : Nat) : Bool := o.after.toList.any fun e => Region.binds .any e && Nat.beq e.on i
/-- Whatever hangs on another one by temporaries stands right behind it. -/
noncomputable def fastGo (ops : Array Oper) (l : List Oper) : List (Nat × Oper) → Nat → Bool := List.rec (motive := fun _ => List (Nat × Oper) → Nat → Bool) (fun _ _ => true)
  (fun b _ ih pre j => cond (b.after.toList.all fun e => !Region.binds .any e || Nat.blt e.on j) (cond (pre.all fun p => nextB b p.1 || !tmpClash ops p.2 b) (ih ((j, b) :: pre) (j + 1)) false) false) l
def Eff.isNop : Eff → Bool
  | .nop => true
  | _ => false
noncomputable def okRcsQ (ops : Array Oper) (lo hi : Nat) (rs : List Rc) : Bool :=
  cond (cond (rs.all fun r => r.eff.isNop) (cond (Nat.beq rs.length ops.size) (fastGo ops ops.toList [] 0) false) false) true (okRcs ops lo hi rs)
def newCount (l : List Oper) : Nat := (l.filter fun o => newOp o.op).length
noncomputable def drawK (C : Cfg) (stand : Func → Code → List AV → (AV → Ω) → Ω) (call : CallF Ω) (ops : Array Oper) (lo hi : Nat) : List Oper → St → Nat → List Rc → (St → Ω) → Ω → Ω
  | [], st, _, acc, k, z => cond (okRcsQ ops lo hi acc.reverse) (k st) z
  | o :: r, st, ai, acc, k, z => guardK ops st.tmps o
      (fun tmps => opD C stand call tmps st.m ai o (fun rc => drawK C stand call ops lo hi r (applyRc ⟨tmps, st.ds, st.m⟩ rc) (cond (newOp o.op) (ai + 1) ai) (rc :: acc) k z) z)
      (fun tmps => drawK C stand call ops lo hi r (applyRc ⟨tmps, st.ds, st.m⟩ ⟨o.dst, .tup [], [], .nop⟩) (cond (newOp o.op) (ai + 1) ai) (⟨o.dst, .tup [], [], .nop⟩ :: acc) k z) z

/-- Its last operation is a call that hands nothing back, and stands behind all others: it may give up. -/
def lastB (P : Program) (ops : Array Oper) : Bool :=
  match ops.back? with
  | some o => cond (match o.op with
      | .call _ => true
      | _ => false) (match P.underlying o.type with
    | some (.tuple ts) => cond (Nat.beq ts.size 0) (((List.range (ops.size - 1)).all fun i => befB ops ops.size i (ops.size - 1)) &&
        ((List.range ops.size).all (fun i => match ops[i]? with
          | some x => x.after.toList.all fun e => !Region.binds .any e || Nat.blt e.on i
          | none => false) &&
        ops.pop.toList.all fun x => match x.guard with
          | some (j, _) => Nat.blt j (ops.size - 1)
          | none => true)) false
    | _ => false) false
  | none => false
/-! ### The run -/
/-- How a run goes on. -/
abbrev RunF (Ω : Type) := Option Nat → Option Code → Code → St → (Ex → St → Ω) → Ω → Ω
def padL (args : List AV) (n : Nat) : List AV := args ++ List.replicate (n - args.length) (.tup [])
/-- A function walked apart: its arguments in memory that nobody writes, its result's blocks given up. -/
noncomputable def standK (C : Cfg) (go : RunF Ω) (z : Ω) (fn : Func) (c : Code) (args : List AV) (k : AV → Ω) : Ω :=
  go none none c ⟨padL args fn.ntmps, [], ⟨[], 0, []⟩⟩ (fun e st' => match e with
    | .ret => closeK st'.ds st'.m.lp (fun _ => resK C fn st' (fun v => freezeK st'.m.heap 6 v k z) z) z
    | .normal => closeK st'.ds st'.m.lp (fun _ => resK C fn st' (fun v => freezeK st'.m.heap 6 v k z) z) z
    | _ => z) z
/-- How a round's end leaves its loop. -/
def endOf : Ex → Option (Bool × Nat × Option Ex)
  | .normal => some (true, 0, none)
  | .ret => some (false, 2, some .ret)
  | .exit id => some (false, 2, some (.exit id))
  | .goto l => some (false, 2, some (.goto l))
  | .panic _ => none
noncomputable def callR (C : Cfg) (go : RunF Ω) (z : Ω) : CallF Ω := fun t args m kk kp => match t with
  | .fn f => match C.X f with
    | some F => (F args m).ev kk z
    | none => floatK C (standK C go z) f args m.heap (fun r => kk r m) (fun fn c =>
      go none none c ⟨padL args fn.ntmps, [], m⟩ (fun e st' => match e with
        | .ret => closeK st'.ds st'.m.lp (fun lp => resK C fn st' (fun v => kk v ⟨st'.m.heap, st'.m.nx, lp⟩) z) z
        | .normal => closeK st'.ds st'.m.lp (fun lp => resK C fn st' (fun v => kk v ⟨st'.m.heap, st'.m.nx, lp⟩) z) z
        | .panic v => closeK st'.ds st'.m.lp (fun lp => kp v ⟨st'.m.heap, st'.m.nx, lp⟩) z
        | _ => z) z) z
  | .yld id => match lpget m.lp id with
    | some (.lop 0 none tmps params assign body _) => cond (Nat.beq args.length params.length)
      (go (some id) none assign ⟨setAll tmps params args, [], m⟩ (fun e st1 => match e with
        | .normal => match lpget st1.m.lp id with
          | some (.lop 0 none tm ps asv bo d) => go (some id) none body ⟨st1.tmps, st1.ds, ⟨st1.m.heap, st1.m.nx, lpset st1.m.lp id (.lop 1 none tm ps asv bo d)⟩⟩ (fun e st2 =>
              match lpget st2.m.lp id, endOf e with
              | some (.lop _ _ tm ps asv bo d), some (b, s, j) => kk (.bool b) ⟨st2.m.heap, st2.m.nx, lpset st2.m.lp id (.lop s j tm ps asv bo d)⟩
              | _, _ => z) z
          | _ => z
        | _ => z) z) z
    | _ => z
/-- A loop over a function, asv it begins. -/
def loopM (inr : Option Nat) (st : St) (params : List Nat) (assign body : Code) (k : Nat → List Nat → Mem → Ω) (z : Ω) : Ω :=
  match inr with
  | none => k (st.m.nx + 1) (st.m.nx :: st.ds) ⟨st.m.heap, st.m.nx + 2, (st.m.nx + 1, .lop 0 none st.tmps params assign body st.m.nx) :: (st.m.nx, .dfb) :: st.m.lp⟩
  | some l0 => match lpget st.m.lp l0 with
    | some (.lop _ _ _ _ _ _ d0) => k st.m.nx st.ds ⟨st.m.heap, st.m.nx + 1, (st.m.nx, .lop 0 none st.tmps params assign body d0) :: st.m.lp⟩
    | _ => z
noncomputable def runStep (C : Cfg) (go : RunF Ω) : RunF Ω := fun inr sc code st k z =>
  match sc with
  | some body => go inr none code st (fun e st' => match e with
      | .goto l => match findLabel body l with
        | some rest => go inr (some body) rest st' k z
        | none => k (.goto l) st'
      | e => k e st') z
  | none =>
    match code with
    | .skip => k .normal st
    | .label _ => k .normal st
    | .ret => k .ret st
    | .exit id => k (.exit id) st
    | .goto l => k (.goto l) st
    | .seq a b => go inr none a st (fun e st' => match e with
      | .normal => go inr none b st' k z
      | e => k e st') z
    | .cond c a b => match evO C st.tmps c with
      | .bool t => cond t (go inr none a ⟨setO st.tmps c (.bool true), st.ds, st.m⟩ k z) (go inr none b ⟨setO st.tmps c (.bool false), st.ds, st.m⟩ k z)
      | _ => z
    | .block id body => go inr none body st (fun e st' => match e with
      | .exit id' => cond (Nat.beq id' id) (k .normal st') (k (.exit id') st')
      | e => k e st') z
    | .loop body => go inr none body st (fun e st' => match e with
      | .normal => go inr none (.loop body) st' k z
      | e => k e st') z
    | .scope body => go inr (some body) body st k z
    | .region _ ops draw => cond draw
        (cond (lastB C.P ops) (drawK C (standK C go z) (callR C go z) ops.pop st.m.nx (st.m.nx + newCount ops.pop.toList) ops.pop.toList ⟨st.tmps, st.ds, ⟨st.m.heap, st.m.nx + newCount ops.pop.toList, st.m.lp⟩⟩ st.m.nx [] (fun st' => opsK C (callR C go z) ops (ops.toList.drop (ops.size - 1)) st' (fun st' => k .normal st') (fun v st' => k (.panic v) st') z) z)
        (drawK C (standK C go z) (callR C go z) ops st.m.nx (st.m.nx + newCount ops.toList) ops.toList ⟨st.tmps, st.ds, ⟨st.m.heap, st.m.nx + newCount ops.toList, st.m.lp⟩⟩ st.m.nx [] (fun st' => k .normal st') z))
        (opsK C (callR C go z) ops ops.toList st (fun st' => k .normal st') (fun v st' => k (.panic v) st') z)
    | .rangeFunc f params assign body => match evO C st.tmps f with
      | .fn (.func g) first cap => loopM inr st params.toList assign body (fun id ds m => callR C go z (.fn g) (first ++ [.yld id] ++ cap) m
          (fun _ m' => match lpget m'.lp id with
            | some (.lop s pend _ _ _ _ _) => cond (Nat.beq s 1) z (k (match pend with | none => .normal | some e => e) ⟨st.tmps, ds, ⟨m'.heap, m'.nx, lpdel m'.lp id⟩⟩)
            | _ => z)
          (fun v m' => k (.panic v) ⟨st.tmps, ds, m'⟩)) z
      | _ => z
    | _ => z
/-- A run ('inr': the loop in whose round it is; 'sc': the body of the scope that it is in, where that is looked at next). -/
noncomputable def run (C : Cfg) (n : Nat) : RunF Ω := Nat.rec (motive := fun _ => RunF Ω) (fun _ _ _ _ _ z => z) (fun _ go => runStep C go) n
theorem run_succ (C : Cfg) (n : Nat) : run (Ω := Ω) C (n + 1) = runStep C (run C n) := rfl
/-- A function's run over arguments in memory that nobody writes. -/
noncomputable def runF (C : Cfg) (n : Nat) (f : FuncId) (args : List AV) (k : AV → Ω) (z : Ω) : Ω :=
  match C.P.funcs[f]? with
  | some fn => match fn.body with
    | some c => standK C (run C n) z fn c args k
    | none => z
  | none => z
end
end Go.Bas
end
section
namespace Go.Bas
open Go.RowKit
set_option linter.unusedSimpArgs false
set_option linter.unusedVariables false

/-- The fence that fences nothing: of an activation, or of a round. -/
def Fr (ro : Option Nat) : Fence := { fn := fun _ => True, depth := none, alive := false, round := ro }
theorem fr_room (ro : Option Nat) (n : Nat) : (Fr ro).room n := fun _ h => by cases h
theorem fr_deep (ro : Option Nat) {n : Nat} : (Fr ro).depth.isSome = true → 1 ≤ n := fun h => by cases h
theorem callsIn_fr {ro ro' : Option Nat} {n n' : Nat} {P : Program} {f : FuncId} {us : Array Value} {w : World} {R : Ending → World → Prop} (h : CallsIn (Fr ro) n P f us w R) : CallsIn (Fr ro') n' P f us w R :=
  ⟨trivial, fun cs _ => h.2 cs (fr_room _ _)⟩
theorem callsIn_calls {ro : Option Nat} {n : Nat} {P : Program} {f : FuncId} {us : Array Value} {w : World} {R : Ending → World → Prop} : CallsIn (Fr ro) n P f us w R ↔ Calls P f us w R :=
  ⟨fun h => (callsIn_wide (n := 0)).1 (callsIn_fr (ro' := none) h), fun h => callsIn_fr (ro := none) (n := 0) ((callsIn_wide (n := 0)).2 h)⟩

/-- A jump, asv code. -/
def codeOf : Ex → Option Code
  | .ret => some .ret
  | .exit id => some (.exit id)
  | .goto l => some (.goto l)
  | _ => none
def stOf : Nat → LoopState
  | 0 => .ready
  | 1 => .busy
  | _ => .done
def LbIs (w : World) (B : Nat → Prop) (own : Nat → Prop) (ω : Nat → Option Nat) (nx l : Nat) : LB → Prop
  | .dfb => w.heap[l]? = some (.deferred (some []))
  | .lop s pend tmps params assign body d => ∃ r : Loop, w.heap[l]? = some (.loop r) ∧ r.state = stOf s ∧ r.pending = pend.bind codeOf ∧ (∀ e, pend = some e → (codeOf e).isSome = true) ∧
      RepL w B own ω nx tmps r.tmps ∧ r.params.toList = params ∧ r.assign = assign ∧ r.body = body ∧ d < nx ∧ ω d = some r.defers
  | .obj o => w.heap[l]? = some o ∧ ∀ c t f, o ≠ .cells c t f
/-- The loops over functions are asv the abstract ones say. -/
structure LpOk (w : World) (B own oL : Nat → Prop) (ω : Nat → Option Nat) (nx : Nat) (lp : Loops) : Prop where
  rel : ∀ id e, lpget lp id = some e → id < nx ∧ ∃ l, ω id = some l ∧ oL l ∧ LbIs w B own ω nx l e
  inj : ∀ i j l, (lpget lp i).isSome = true → (lpget lp j).isSome = true → ω i = some l → ω j = some l → i = j
  dis : ∀ l, oL l → l < w.heap.size ∧ ¬ own l
/-- The marks among the deferred calls. -/
def Marks (ω : Nat → Option Nat) (nx : Nat) : List Nat → List Deferred → Prop
  | [], [] => True
  | d :: ds, x :: xs => (d < nx ∧ ∃ r, ω d = some r ∧ x = { target := .collected r, args := #[] }) ∧ Marks ω nx ds xs
  | _, _ => False

abbrev Or2 (a b : Nat → Prop) : Nat → Prop := fun x => a x ∨ b x
structure MemSim (C : Cfg) (w : World) (B oC oL : Nat → Prop) (ω : Nat → Option Nat) (m : Mem) : Prop where
  hp : Hp w (Or2 B oL) oC ω m.nx m.heap
  lp : LpOk w (Or2 B oL) oC oL ω m.nx m.lp
  gl : GOk C.G w
  gb : ∀ g cells, C.G g = some cells → ¬ oC g ∧ ¬ oL g ∧ ¬ B g
  bl : ∀ b, B b → b < w.heap.size
structure Sim (C : Cfg) (w : World) (B oC oL : Nat → Prop) (ω : Nat → Option Nat) (st : St) (a : Act) : Prop where
  tm : RepL w (Or2 B oL) oC ω st.m.nx st.tmps a.tmps
  dn : Marks ω st.m.nx st.ds a.defers
  ms : MemSim C w B oC oL ω st.m
/-- What a run leaves asv it was. -/
def ExtR (w : World) (oC oL : Nat → Prop) (ω : Nat → Option Nat) (nx : Nat) (w' : World) (oC' oL' : Nat → Prop) (ω' : Nat → Option Nat) (nx' : Nat) : Prop :=
  Ext w (Or2 oC oL) ω nx w' (Or2 oC' oL') ω' nx'

section
variable {C : Cfg} {w w' : World} {B oC oL oC' oL' : Nat → Prop} {ω ω' : Nat → Option Nat} {nx nx' : Nat}

theorem ExtR.refl : ExtR w oC oL ω nx w oC oL ω nx := Ext.refl _ _ _ _
theorem ExtR.trans {w2 : World} {oC2 oL2 : Nat → Prop} {ω2 : Nat → Option Nat} {nx2 : Nat} (h : ExtR w oC oL ω nx w' oC' oL' ω' nx') (h' : ExtR w' oC' oL' ω' nx' w2 oC2 oL2 ω2 nx2) : ExtR w oC oL ω nx w2 oC2 oL2 ω2 nx2 := Ext.trans h h'
theorem Rep.out {v : AV} {u : Value} (h : Rep w (Or2 B oL) oC ω nx v u) : Rep w B (Or2 oC oL) ω nx v u :=
  h.mono (Nat.le_refl _) (fun _ _ h1 h2 => ⟨rfl, fun h => h.elim h1 (fun h => h2 (.inr h)), fun h => h2 (.inl h)⟩) (fun _ _ h1 h2 => ⟨h1, h2⟩) (fun _ _ h => h)
theorem Rep.inn {v : AV} {u : Value} (h : Rep w B (Or2 oC oL) ω nx v u) : Rep w (Or2 B oL) oC ω nx v u :=
  h.mono (Nat.le_refl _) (fun _ _ h1 h2 => ⟨rfl, fun h => h1 (.inl h), fun h => h.elim h2 (fun h => h1 (.inr h))⟩) (fun _ _ h1 h2 => ⟨h1, h2⟩) (fun _ _ h => h)
theorem Rep.extR {v : AV} {u : Value} (h : Rep w (Or2 B oL) oC ω nx v u) (e : ExtR w oC oL ω nx w' oC' oL' ω' nx') : Rep w' (Or2 B oL') oC' ω' nx' v u := (h.out.ext e).inn
theorem Rep.extR0 {v : AV} {u : Value} (h : Rep w (Or2 B oL) oC ω 0 v u) (e : ExtR w oC oL ω nx w' oC' oL' ω' nx') : Rep w' (Or2 B oL') oC' ω' 0 v u := (h.out.ext0 e).inn
theorem RepL.extR {cs : List AV} {us : Array Value} (h : RepL w (Or2 B oL) oC ω nx cs us) (e : ExtR w oC oL ω nx w' oC' oL' ω' nx') : RepL w' (Or2 B oL') oC' ω' nx' cs us :=
  ⟨h.1, fun i hi => (h.2 i hi).extR e⟩
theorem Marks.extR : ∀ {ds : List Nat} {xs : List Deferred}, Marks ω nx ds xs → ExtR w oC oL ω nx w' oC' oL' ω' nx' → Marks ω' nx' ds xs
  | [], [], _, _ => trivial
  | d :: ds, x :: xs, h, e => ⟨⟨Nat.lt_of_lt_of_le h.1.1 e.nxle, let ⟨r, h1, h2⟩ := h.1.2; ⟨r, e.om' d r h.1.1 h1, h2⟩⟩, h.2.extR e⟩
  | [], _ :: _, h, _ => h.elim
  | _ :: _, [], h, _ => h.elim

theorem RepL.ext {B own own' : Nat → Prop} {cs : List AV} {us : Array Value} (h : RepL w B own ω nx cs us) (e : Ext w own ω nx w' own' ω' nx') : RepL w' B own' ω' nx' cs us :=
  ⟨h.1, fun i hi => (h.2 i hi).ext e⟩

/-- Operations leave loops over functions alone. -/
theorem Ext.toR (h : Ext w oC ω nx w' oC' ω' nx') : ExtR w oC oL ω nx w' oC' oL ω' nx' :=
  ⟨h.os, h.tape, h.output, h.size, fun b hb hn => h.old b hb (fun ho => hn (.inl ho)), fun b hb => hb.elim (fun hb => (h.owns b hb).elim (fun h => .inl (.inl h)) .inr) (fun hb => .inl (.inr hb)), h.nxle, h.om, h.row⟩
theorem LbIs.ext {l : Nat} {e : LB} {B' : Nat → Prop} (h : LbIs w B oC ω nx l e) (hl : w'.heap[l]? = w.heap[l]?) (E : Ext w oC ω nx w' oC' ω' nx') : LbIs w' B oC' ω' nx' l e := by
  cases e with
  | dfb => exact hl.trans h
  | obj o => exact ⟨hl.trans h.1, h.2⟩
  | lop s pend tmps params assign body d =>
    obtain ⟨r, h1, h2, h3, h4, h5, h6, h7, h8, h9, h10⟩ := h
    exact ⟨r, hl.trans h1, h2, h3, h4, h5.ext E, h6, h7, h8, Nat.lt_of_lt_of_le h9 E.nxle, E.om' _ _ h9 h10⟩
theorem LpOk.ext {lp : Loops} (h : LpOk w B oC oL ω nx lp) (E : Ext w oC ω nx w' oC' ω' nx') : LpOk w' B oC' oL ω' nx' lp where
  rel id e he := by
    obtain ⟨h1, l, h2, h3, h4⟩ := h.rel id e he
    have hd := h.dis l h3
    exact ⟨Nat.lt_of_lt_of_le h1 E.nxle, l, E.om' _ _ h1 h2, h3, h4.ext (B' := B) (E.old l hd.1 hd.2) E⟩
  inj i j l hi hj h1 h2 := by
    obtain ⟨x, hx⟩ := Option.isSome_iff_exists.1 hi
    obtain ⟨y, hy⟩ := Option.isSome_iff_exists.1 hj
    obtain ⟨a1, l1, a2, _⟩ := h.rel i x hx
    obtain ⟨b1, l2, b2, _⟩ := h.rel j y hy
    have e1 := E.om' _ _ a1 a2
    have e2 := E.om' _ _ b1 b2
    rw [h1] at e1
    rw [h2] at e2
    cases e1
    cases e2
    exact h.inj i j l hi hj a2 b2
  dis l hl := ⟨Nat.lt_of_lt_of_le (h.dis l hl).1 E.size, fun ho => (E.owns l ho).elim (h.dis l hl).2 (fun hs => by have := (h.dis l hl).1; omega)⟩
theorem GOk.ext {B' : Nat → Prop} {own own' : Nat → Prop} (hg : GOk C.G w) (gb : ∀ g cells, C.G g = some cells → ¬ own g) (E : Ext w own ω nx w' own' ω' nx') :
    GOk C.G w' ∧ ∀ g cells, C.G g = some cells → ¬ own' g := by
  refine ⟨fun g cells h => ?_, fun g cells h ho => ?_⟩
  · obtain ⟨h1, vs, h2, h3⟩ := hg g cells h
    refine ⟨Nat.lt_of_lt_of_le h1 E.size, vs, fun i hi => ?_, h3⟩
    rw [← h2 i hi]
    exact World.cell?_of_block (E.old g h1 (gb g cells h))
  · rcases E.owns g ho with h' | h'
    · exact gb g cells h h'
    · have := (hg g cells h).1; omega
/-- An operation is done. -/
theorem MemSim.op {m : Mem} (S : MemSim C w B oC oL ω m) {h' : Heap} (E : Ext w oC ω m.nx w' oC' ω' nx') (H : Hp w' (Or2 B oL) oC' ω' nx' h') : MemSim C w' B oC' oL ω' ⟨h', nx', m.lp⟩ := by
  obtain ⟨g1, g2⟩ := S.gl.ext (B' := B) (fun g cells h => (S.gb g cells h).1) E
  exact ⟨H, S.lp.ext E, g1, fun g cells h => ⟨g2 g cells h, (S.gb g cells h).2⟩, fun b hb => Nat.lt_of_lt_of_le (S.bl b hb) E.size⟩

theorem GOk.rep {B' own : Nat → Prop} (hg : GOk C.G w) {g : Nat} {cells : List AV} (h : C.G g = some cells) (gb : ¬ own g ∧ ¬ B' g) : Rep w B' own ω nx (.iptr cells 0) (.pointer (some ⟨g, 0, none⟩)) := by
  obtain ⟨h1, vs, h2, h3⟩ := hg g cells h
  exact .iptr _ _ 0 g 0 vs (fun _ => ⟨h1, gb⟩) (fun i hi => by rw [Nat.zero_add]; exact h2 i hi) (fun i hi => h3 i hi _ _ _ _ _)

theorem rep_ev {m : Mem} {tmps : List AV} {a : Act} (S : MemSim C w B oC oL ω m) (ht : RepL w (Or2 B oL) oC ω m.nx tmps a.tmps) (x : Operand) : Rep w (Or2 B oL) oC ω m.nx (evO C tmps x) (a.eval x) := by
  cases x with
  | tmp t =>
    simp only [evO, Act.eval, lget_eq]
    by_cases h : t < tmps.length
    · have := ht.2 t h
      simpa [h] using this
    · simp only [List.getD_eq_getElem?_getD, List.getElem?_eq_none (Nat.le_of_not_lt h), Option.getD_none]
      exact .any _ _
  | const v => exact rep_ofV _ _ _ _ _ _
  | global g =>
    simp only [evO, Act.eval]
    split
    · rename_i cells h
      have := S.gb g cells h
      exact S.gl.rep h ⟨this.1, fun hh => hh.elim this.2.2 this.2.1⟩
    · exact .any _ _
  | func f => exact .fn _ _ _ _ _ _ rfl rfl (fun i hi => absurd hi (Nat.not_lt_zero _)) (fun i hi => absurd hi (Nat.not_lt_zero _))
theorem Sim.ev {st : St} {a : Act} (S : Sim C w B oC oL ω st a) (x : Operand) : Rep w (Or2 B oL) oC ω st.m.nx (evO C st.tmps x) (a.eval x) := rep_ev S.ms S.tm x

theorem RepL.set {B : Nat → Prop} {own : Nat → Prop} {cs : List AV} {arr : Array Value} (hl : RepL w B own ω nx cs arr) (d : Nat) {v : AV} {u : Value} (hr : Rep w B own ω nx v u) : RepL w B own ω nx (lset cs d v) (arr.setIfInBounds d u) := by
  rw [lset_eq]
  refine repL_of (by simpa using hl.1) (fun j a x ha hx => ?_)
  have := hl.1
  by_cases h : j = d
  · subst h
    rw [List.getElem?_set] at ha
    rw [Array.getElem?_setIfInBounds] at hx
    simp only [if_true] at ha hx
    split at ha
    · rename_i hlt
      rw [if_pos (by omega)] at hx
      rw [← Option.some.inj ha, ← Option.some.inj hx]
      exact hr
    · cases ha
  · rw [List.getElem?_set_ne (Ne.symm h)] at ha
    rw [Array.getElem?_setIfInBounds_ne (Ne.symm h)] at hx
    exact hl.at ha hx
theorem RepL.setT {B : Nat → Prop} {own : Nat → Prop} {cs : List AV} {a : Act} (hl : RepL w B own ω nx cs a.tmps) (dst : Option Nat) {v : AV} {u : Value} (hr : Rep w B own ω nx v u) : RepL w B own ω nx (setT cs dst v) (a.put dst u).tmps := by
  cases dst with
  | none => exact hl
  | some d => exact hl.set d hr
theorem put_defers (a : Act) (dst : Option Nat) (u : Value) : (a.put dst u).defers = a.defers := by cases dst <;> rfl

/-- A value comes into a temporary. -/
theorem Sim.put {st : St} {a : Act} (S : Sim C w B oC oL ω st a) {m' : Mem} {dst : Option Tmp} {v : AV} {u : Value} (E : ExtR w oC oL ω st.m.nx w' oC' oL' ω' m'.nx) (M : MemSim C w' B oC' oL' ω' m') (hr : Rep w' (Or2 B oL') oC' ω' m'.nx v u) :
    Sim C w' B oC' oL' ω' ⟨setT st.tmps dst v, st.ds, m'⟩ (a.put dst u) :=
  ⟨(S.tm.extR E).setT dst hr, by rw [put_defers]; exact S.dn.extR E, M⟩

/-- How a call ends. -/
def CallEnd (C : Cfg) (w : World) (B oC oL : Nat → Prop) (ω : Nat → Option Nat) (nx : Nat) (kk : AV → Mem → Bool) (kp : AV → Mem → Bool) (e : Ending) (w' : World) : Prop :=
  (∃ v u m' oC' oL' ω', e = .returned u ∧ kk v m' = true ∧ ExtR w oC oL ω nx w' oC' oL' ω' m'.nx ∧ MemSim C w' B oC' oL' ω' m' ∧ Rep w' (Or2 B oL') oC' ω' m'.nx v u) ∨
  (∃ v u m' oC' oL' ω', e = .panicked [{ v := u, recovered := false }] ∧ kp v m' = true ∧ ExtR w oC oL ω nx w' oC' oL' ω' m'.nx ∧ MemSim C w' B oC' oL' ω' m' ∧ Rep w' (Or2 B oL') oC' ω' m'.nx v u)
/-- The way of calls is right. -/
def CallOk (C : Cfg) (call : CallF Bool) : Prop :=
  ∀ t args m kk kp (w : World) (B oC oL : Nat → Prop) (ω : Nat → Option Nat) (us : Array Value), call t args m kk kp = true → MemSim C w B oC oL ω m → RepL w (Or2 B oL) oC ω m.nx args us →
    match t with
    | .fn f => (callFunc f us).run C.P w = .ok (.enter f us) w ∧ CallsIn (Fr none) 0 C.P f us w (CallEnd C w B oC oL ω m.nx kk kp)
    | .yld id => ∀ l, ω id = some l → ∃ fn tmps assign body, (Instr.yield l us).run C.P w = .ok (.round l fn tmps assign body) w ∧ ∀ ro, RoundIn (Fr ro) 0 C.P l fn tmps assign body w (CallEnd C w B oC oL ω m.nx kk kp)

theorem guardK_sound {ops : Array Oper} {tmps : List AV} {arr : Array Value} {B' own : Nat → Prop} (ht : RepL w B' own ω nx tmps arr) {o : Oper} {x y : List AV → Bool} (hk : guardK ops tmps o x y false = true) :
    (Region.wanted o (yielded ops arr) = true ∧ x tmps = true) ∨ (Region.wanted o (yielded ops arr) = false ∧ y tmps = true) := by
  unfold guardK at hk
  split at hk
  · rename_i hg
    exact .inl ⟨by simp [Region.wanted, hg], hk⟩
  · rename_i j want hg
    split at hk
    · rename_i oj hoj
      split at hk
      · rename_i d hdst
        have hev : Rep w B' own ω nx (lget tmps d) (arr.getD d undef) := by
          rw [lget_eq]
          by_cases h : d < tmps.length
          · simpa [h] using ht.2 d h
          · simp only [List.getD_eq_getElem?_getD, List.getElem?_eq_none (Nat.le_of_not_lt h), Option.getD_none]
            exact .any _ _
        have hy : ∀ v, arr[d]? = some v → yielded ops arr j = (match v with | .bool b => some b | _ => none) := fun v hv => by
          simp only [yielded, hoj, Option.bind_some, hdst, hv]
          cases v <;> rfl
        split at hk
        · rename_i b hb
          rw [hb] at hev
          have hset : ∀ c, c = b → lset tmps d (.bool c) = tmps := fun c e => by
            subst e
            rw [lset_eq]
            rw [lget_eq] at hb
            refine List.ext_getElem? fun i => ?_
            by_cases hi : i = d
            · subst hi
              by_cases hl : i < tmps.length
              · rw [List.getElem?_set_self hl]
                have : tmps[i]? = some (tmps.getD i .any) := by simp [hl]
                rw [this, hb]
              · rw [List.getElem?_eq_none (by simpa using Nat.le_of_not_lt hl), List.getElem?_eq_none (Nat.le_of_not_lt hl)]
            · rw [List.getElem?_set_ne (Ne.symm hi)]
          have hd3 : d < arr.size := by
            rw [← ht.1]
            rcases Nat.lt_or_ge d tmps.length with h | h
            · exact h
            · rw [lget_eq] at hb
              simp [List.getElem?_eq_none h] at hb
          have hyy := hy _ (Array.getElem?_eq_getElem hd3)
          rw [getD_lt hd3] at hev
          generalize arr[d] = xx at hev hyy
          cases hev
          simp only at hyy
          cases b with
          | true =>
            simp only [cond_true, hset true rfl] at hk
            rcases of_cond2 hk with ⟨h1, h2⟩ | ⟨h1, h2⟩
            · exact .inl ⟨by simp [Region.wanted, hg, hyy, h1], h2⟩
            · exact .inr ⟨by simp [Region.wanted, hg, hyy, h1], h2⟩
          | false =>
            simp only [cond_false, hset false rfl] at hk
            rcases of_cond2 hk with ⟨h1, h2⟩ | ⟨h1, h2⟩
            · exact .inr ⟨by simp [Region.wanted, hg, hyy, h1], h2⟩
            · exact .inl ⟨by simp [Region.wanted, hg, hyy, h1], h2⟩
        · rename_i l hb
          rw [hb] at hev
          refine .inr ⟨?_, hk⟩
          have : yielded ops arr j = none := by
            cases hx : arr[d]? with
            | none => simp [yielded, hoj, hdst, hx]
            | some xx =>
              rw [hy xx hx]
              have : arr.getD d undef = xx := by simp [Array.getD_eq_getD_getElem?, hx]
              rw [this] at hev
              cases hev
              rfl
          simp [Region.wanted, hg, this]
        · cases hk
      · cases hk
    · cases hk

theorem aop_noDefer {ρ : Operand → AV} {h : Heap} {op : Op} {kv : AV → Heap → Nat → Bool} {kc : Tgt → List AV → Bool} {kp : AV → Bool} (hk : aop C ρ h nx op kv kc kp false = true) : ∀ c, op ≠ .defer c := fun c e => by
  subst e
  cases hk

theorem about_fr (ro : Option Nat) (o : Oper) (P : Program) (w : World) (ρ : Operand → Value) : ∀ f, o.about P w ρ = some f → (Fr ro).fn f := fun _ _ => trivial

/-- One operation, carried out. -/
theorem oper_wp {call : CallF Bool} (hcall : CallOk C call) {ro : Option Nat} {o : Oper} {st : St} {a : Act} {h : Heap} {m : Mem} {kv : AV → Heap → Nat → Bool} {kc : Tgt → List AV → Bool} {kp : AV → Bool} {ρ : Operand → AV} {K : Act → World → Prop} {Q : Exit → Act → World → Prop}
    (M : MemSim C w B oC oL ω m) (hρ : ∀ x, Rep w (Or2 B oL) oC ω m.nx (ρ x) (a.eval x)) (hk : aop C ρ m.heap m.nx o.op kv kc kp false = true)
    (hv : ∀ v u h' nx' w' oC' ω', kv v h' nx' = true → Ext w oC ω m.nx w' oC' ω' nx' → MemSim C w' B oC' oL ω' ⟨h', nx', m.lp⟩ → Rep w' (Or2 B oL) oC' ω' nx' v u → K (a.put o.dst u) w')
    (kk : AV → Mem → Bool) (kq : AV → Mem → Bool) (hc : ∀ t args, kc t args = true → call t args m kk kq = true)
    (hr : ∀ v u m' w' oC' oL' ω', kk v m' = true → ExtR w oC oL ω m.nx w' oC' oL' ω' m'.nx → MemSim C w' B oC' oL' ω' m' → Rep w' (Or2 B oL') oC' ω' m'.nx v u → K (a.put o.dst u) w')
    (hp : ∀ v u m' w' oC' oL' ω', kq v m' = true → ExtR w oC oL ω m.nx w' oC' oL' ω' m'.nx → MemSim C w' B oC' oL' ω' m' → Rep w' (Or2 B oL') oC' ω' m'.nx v u → Q (.panic [{ v := u, recovered := false }]) a w')
    (hp0 : ∀ v u, kp v = true → Rep w (Or2 B oL) oC ω m.nx v u → Q (.panic [{ v := u, recovered := false }]) a w) :
    o.wpIn (Fr ro) 0 C.P a w K Q := by
  refine ⟨about_fr _ _ _ _ _, ?_⟩
  rw [Oper.semAt_eq _ _ _ (aop_noDefer hk)]
  have fin : ∀ e w', CallEnd C w B oC oL ω m.nx kk kq e w' → (match e with
      | .returned v => K (a.put o.dst v) w'
      | .panicked chain => Q (.panic chain) a w'
      | .outgrown => LetsOut Q) := fun e w' he => by
    rcases he with ⟨v, u, m', oC', oL', ω', rfl, h1, h2, h3, h4⟩ | ⟨v, u, m', oC', oL', ω', rfl, h1, h2, h3, h4⟩
    · exact hr v u m' w' oC' oL' ω' h1 h2 h3 h4
    · exact hp v u m' w' oC' oL' ω' h1 h2 h3 h4
  rcases aop_sound C M.hp hρ hk with ⟨u, w', v, h', nx', oC', ω', hrun, h1, h2, h3, h4⟩ | ⟨t, args, us, hrun, h1, h2⟩ | ⟨v, u, hrun, h1, h2⟩
  · have := hv v u h' nx' w' oC' ω' h1 h2 (M.op h2 h3) h4
    rcases hrun with hrun | ⟨hrun, rfl⟩
    · rw [hrun, Oper.uponIn_value]; exact this
    · rw [hrun, Oper.uponIn_skip]; exact this
  · have := hcall t args m kk kq w B oC oL ω us (hc t args h1) M h2
    cases t with
    | fn f =>
      simp only [TgtRun] at hrun
      obtain ⟨c1, c2⟩ := this
      rw [hrun, c1, Oper.uponIn_enter]
      refine ⟨fr_deep ro, (callsIn_fr c2).mono fun e w' he => ?_⟩
      have := fin e w' he
      cases e <;> exact this
    | yld id =>
      obtain ⟨l, hl, hrun⟩ := hrun
      obtain ⟨fn, tmps, assign, body, c1, c2⟩ := this l hl
      rw [hrun, c1, Oper.uponIn_round]
      refine ⟨fr_deep ro, (c2 ro).mono fun e w' he => ?_⟩
      have := fin e w' he
      cases e <;> exact this
  · rw [hrun, Oper.uponIn_panic]
    exact hp0 v u h1 h2

/-- How an end is one of the model's. -/
def OutIs (w : World) (B oC oL : Nat → Prop) (ω : Nat → Option Nat) (nx : Nat) : Ex → Exit → Prop
  | .normal, x => x = .normal
  | .exit id, x => x = .exit id
  | .goto l, x => x = .goto l
  | .ret, x => x = .ret
  | .panic v, x => ∃ u, x = .panic [{ v := u, recovered := false }] ∧ Rep w (Or2 B oL) oC ω nx v u

/-- What a run does with its own maps is right. -/
def MapOk (C : Cfg) : Prop := ∀ (w : World) (B oC oL : Nat → Prop) (ω : Nat → Option Nat) (m : Mem) (ρ : Operand → AV) (e : Operand → Value) (o : Oper) (kv : AV → Mem → Bool), mapK C ρ m o.op kv false = true → MemSim C w B oC oL ω m → (∀ x, Rep w (Or2 B oL) oC ω m.nx (ρ x) (e x)) →
  ∃ v u m' w' oC' oL' ω', ((execOp e o).run C.P w = .ok (.value u) w' ∨ ((execOp e o).run C.P w = .ok .skip w' ∧ u = undef)) ∧ kv v m' = true ∧ ExtR w oC oL ω m.nx w' oC' oL' ω' m'.nx ∧ MemSim C w' B oC' oL' ω' m' ∧ Rep w' (Or2 B oL') oC' ω' m'.nx v u
theorem ops_sound {call : CallF Bool} (hcall : CallOk C call) (hmap : MapOk C) {ro : Option Nat} {ops : Array Oper} {Q : Exit → Act → World → Prop} {k : St → Bool} {kp : AV → St → Bool} :
    ∀ (rest : List Oper) (i : Nat), ops.toList.drop i = rest → ∀ (st : St) (a : Act) (w : World) (oC oL : Nat → Prop) (ω : Nat → Option Nat), opsK C call ops rest st k kp false = true → Sim C w B oC oL ω st a →
      (∀ st' a' w' oC' oL' ω', Sim C w' B oC' oL' ω' st' a' → ExtR w oC oL ω st.m.nx w' oC' oL' ω' st'.m.nx → k st' = true → Q .normal a' w') →
      (∀ v u st' a' w' oC' oL' ω', Sim C w' B oC' oL' ω' st' a' → ExtR w oC oL ω st.m.nx w' oC' oL' ω' st'.m.nx → kp v st' = true → Rep w' (Or2 B oL') oC' ω' st'.m.nx v u → Q (.panic [{ v := u, recovered := false }]) a' w') →
      wpOpsIn (Fr ro) 0 C.P ops Q (List.range' i rest.length) a w
  | [], i, _, st, a, w, oC, oL, ω, hk, S, hQ, hP => hQ st a w oC oL ω S ExtR.refl hk
  | o :: r, i, hd, st, a, w, oC, oL, ω, hk, S, hQ, hP => by
    have hlt : i < ops.toList.length := by
      rcases Nat.lt_or_ge i ops.toList.length with h | h
      · exact h
      · rw [List.drop_eq_nil_of_le h] at hd; cases hd
    have ho : ops[i]? = some o := by
      have h0 : (ops.toList.drop i)[0]? = some o := by rw [hd]; rfl
      rw [List.getElem?_drop] at h0
      simpa using h0
    have hr : ops.toList.drop (i + 1) = r := by rw [← List.drop_drop, hd]; rfl
    have go : ∀ (v : AV) (u : Value) (m' : Mem) (w' : World) (oC' oL' : Nat → Prop) (ω' : Nat → Option Nat), opsK C call ops r ⟨setT st.tmps o.dst v, st.ds, m'⟩ k kp false = true → ExtR w oC oL ω st.m.nx w' oC' oL' ω' m'.nx → MemSim C w' B oC' oL' ω' m' → Rep w' (Or2 B oL') oC' ω' m'.nx v u →
        wpOpsIn (Fr ro) 0 C.P ops Q (List.range' (i + 1) r.length) (a.put o.dst u) w' := fun v u m' w' oC' oL' ω' hk E M hr' =>
      ops_sound hcall hmap r (i + 1) hr _ _ w' oC' oL' ω' hk (S.put E M hr') (fun st' a' w'' oC'' oL'' ω'' S' E' hk' => hQ st' a' w'' oC'' oL'' ω'' S' (E.trans E') hk')
        (fun v u st' a' w'' oC'' oL'' ω'' S' E' hk' hr'' => hP v u st' a' w'' oC'' oL'' ω'' S' (E.trans E') hk' hr'')
    simp only [List.length_cons, List.range'_succ, wpOpsIn, ho]
    rw [opsK_cons] at hk
    rcases guardK_sound S.tm hk with ⟨hw, h⟩ | ⟨hw, h⟩
    · rw [if_pos hw]
      rcases of_cond2 h with ⟨hb, h⟩ | ⟨hb, h⟩
      · obtain ⟨v, u, m', w', oC', oL', ω', hrun, h1, h2, h3, h4⟩ := hmap w B oC oL ω st.m _ a.eval o _ h S.ms S.ev
        refine ⟨about_fr _ _ _ _ _, ?_⟩
        rw [Oper.semAt_eq _ _ _ (fun c e => by rw [e] at hb; cases hb)]
        have := go v u m' w' oC' oL' ω' h1 h2 h3 h4
        rcases hrun with hrun | ⟨hrun, rfl⟩
        · rw [hrun, Oper.uponIn_value]; exact this
        · rw [hrun, Oper.uponIn_skip]; exact this
      exact oper_wp hcall (st := st) (h := st.m.heap) S.ms S.ev h (fun v u h' nx' w' oC' ω' hk' E M hr' => go v u _ w' oC' oL ω' hk' E.toR M hr')
        (fun v m' => opsK C call ops r ⟨setT st.tmps o.dst v, st.ds, m'⟩ k kp false) (fun v m' => kp v ⟨st.tmps, st.ds, m'⟩) (fun t args h => h)
        (fun v u m' w' oC' oL' ω' hk' E M hr' => go v u m' w' oC' oL' ω' hk' E M hr')
        (fun v u m' w' oC' oL' ω' hk' E M hr' => hP v u ⟨st.tmps, st.ds, m'⟩ a w' oC' oL' ω' ⟨S.tm.extR E, S.dn.extR E, M⟩ E hk' hr')
        (fun v u hk' hr' => hP v u _ a w oC oL ω S ExtR.refl hk' hr')
    · rw [if_neg (by simp [hw])]
      exact ⟨about_fr _ _ _ _ _, go (.tup []) undef st.m w oC oL ω h ExtR.refl S.ms (.tup _ _ _ rfl (fun i hi => absurd hi (Nat.not_lt_zero _)))⟩
end
end Go.Bas
end
section
namespace Go.Bas
open Go.RowKit
set_option linter.unusedSimpArgs false
set_option linter.unusedVariables false

/-- What an operation comes to. -/
inductive OpOut where
  | val (v : AV) (h : Heap) (nx : Nat)
  | call (t : Tgt) (args : List AV)
  | pan (v : AV)
  | no
def OpOut.elim {Ω : Type} (kv : AV → Heap → Nat → Ω) (kc : Tgt → List AV → Ω) (kp : AV → Ω) (z : Ω) : OpOut → Ω
  | .val v h nx => kv v h nx
  | .call t args => kc t args
  | .pan v => kp v
  | .no => z
noncomputable def aopO (C : Cfg) (ρ : Operand → AV) (h : Heap) (nx : Nat) (op : Op) : OpOut := aop C ρ h nx op .val .call .pan .no
theorem aop_elim {Ω : Type} (C : Cfg) (ρ : Operand → AV) (h : Heap) (nx : Nat) (op : Op) (kv : AV → Heap → Nat → Ω) (kc : Tgt → List AV → Ω) (kp : AV → Ω) (z : Ω) :
    aop C ρ h nx op kv kc kp z = (aopO C ρ h nx op).elim kv kc kp z := (aop_nat (OpOut.elim kv kc kp z) C ρ h nx op .val .call .pan .no).symm

/-- A reckoning's one outcome. -/
def Det {α : Type} (F : (α → Bool) → Bool) : Prop := ∀ k, F k = true → ∃ a, k a = true ∧ ∀ k', F k' = k' a
theorem det_of_nat {α : Type} {F : (α → Bool) → Bool} {o : Option α} (h : ∀ k, F k = match o with | some a => k a | none => false) : Det F := fun k hk => by
  rw [h] at hk
  cases o with
  | none => cases hk
  | some a => exact ⟨a, hk, fun k' => h k'⟩

section
variable {Ω Ω' : Type} (f : Ω → Ω')
theorem viewsK_nat {g : AV → (AV → Ω) → Ω → Ω} {g' : AV → (AV → Ω') → Ω' → Ω'} (hg : ∀ v k z, f (g v k z) = g' v (fun v => f (k v)) (f z)) : ∀ (l : List AV) (k : List AV → Ω) (z : Ω), f (viewsK g l k z) = viewsK g' l (fun v => f (k v)) (f z)
  | [], k, z => rfl
  | v :: r, k, z => by
    simp only [viewsK]
    rw [hg]
    congr 1
    funext v'
    exact viewsK_nat hg r _ _
theorem viewK_nat (h : Heap) : ∀ (d : Nat) (v : AV) (k : AV → Ω) (z : Ω), f (viewK h d v k z) = viewK h d v (fun v => f (k v)) (f z)
  | 0, v, k, z => rfl
  | d + 1, v, k, z => by
    cases v <;> simp only [viewK]
    case ptr id off => split <;> first | rfl | exact cond_nat f _ _ _
    case sl id off n sz app => split <;> first | rfl | (rw [cond_nat f, cond_nat f, viewsK_nat f (viewK_nat h d)])
    case fn g a b =>
      rw [viewsK_nat f (viewK_nat h d)]
      congr 1
      funext a'
      exact viewsK_nat f (viewK_nat h d) _ _ _
    case iface t v => exact viewK_nat h d _ _ _
    case agg cs => exact viewsK_nat f (viewK_nat h d) _ _ _
    case tup cs => exact viewsK_nat f (viewK_nat h d) _ _ _
theorem freezeK_nat (h : Heap) : ∀ (d : Nat) (v : AV) (k : AV → Ω) (z : Ω), f (freezeK h d v k z) = freezeK h d v (fun v => f (k v)) (f z)
  | 0, v, k, z => rfl
  | d + 1, v, k, z => by
    cases v <;> simp only [freezeK]
    case sl id off n sz app => split <;> first | rfl | (rw [cond_nat f, cond_nat f, cond_nat f, viewsK_nat f (freezeK_nat h d)])
    case iface t v => exact freezeK_nat h d _ _ _
    case agg cs => exact viewsK_nat f (freezeK_nat h d) _ _ _
    case tup cs => exact viewsK_nat f (freezeK_nat h d) _ _ _
theorem resK1_nat (C : Cfg) (st : St) (rv : ResultVar) (k : AV → Ω) (z : Ω) : f (resK1 C st rv k z) = resK1 C st rv (fun v => f (k v)) (f z) := by
  unfold resK1
  split
  · rfl
  · split
    · split
      · exact loadK_nat f _ _ _ _ _ _ _
      · rfl
    · rfl
theorem resKs_nat (C : Cfg) (st : St) : ∀ (rs : List ResultVar) (k : List AV → Ω) (z : Ω), f (resKs C st rs k z) = resKs C st rs (fun v => f (k v)) (f z)
  | [], k, z => rfl
  | r :: rs, k, z => by
    simp only [resKs]
    rw [resK1_nat f]
    congr 1
    funext v
    exact resKs_nat C st rs _ _
theorem resK_nat (C : Cfg) (fn : Func) (st : St) (k : AV → Ω) (z : Ω) : f (resK C fn st k z) = resK C fn st (fun v => f (k v)) (f z) := resKs_nat f _ _ _ _ _
theorem closeK_nat : ∀ (ds : List Nat) (lp : Loops) (k : Loops → Ω) (z : Ω), f (closeK ds lp k z) = closeK ds lp (fun v => f (k v)) (f z)
  | [], lp, k, z => rfl
  | d :: ds, lp, k, z => by
    simp only [closeK]
    split
    · exact closeK_nat ds _ _ _
    · rfl
theorem guardK_nat (ops : Array Oper) (tmps : List AV) (o : Oper) (x y : List AV → Ω) (z : Ω) : f (guardK ops tmps o x y z) = guardK ops tmps o (fun t => f (x t)) (fun t => f (y t)) (f z) := by
  unfold guardK
  split
  · rfl
  · split
    · split
      · split
        · rw [cond_nat f, cond_nat f, cond_nat f]
        · rfl
        · rfl
      · rfl
    · rfl
theorem loopM_nat (inr : Option Nat) (st : St) (params : List Nat) (assign body : Code) (k : Nat → List Nat → Mem → Ω) (z : Ω) : f (loopM inr st params assign body k z) = loopM inr st params assign body (fun a b c => f (k a b c)) (f z) := by
  unfold loopM
  split
  · rfl
  · split <;> rfl

/-- Ways of calls, and of walks apart, that are natural. -/
def CallNat (call : CallF Ω) (call' : CallF Ω') : Prop := ∀ t args m kk kp, f (call t args m kk kp) = call' t args m (fun v m => f (kk v m)) (fun v m => f (kp v m))
def StandNat (stand : Func → Code → List AV → (AV → Ω) → Ω) (stand' : Func → Code → List AV → (AV → Ω') → Ω') : Prop := ∀ fn c args k, f (stand fn c args k) = stand' fn c args (fun v => f (k v))
variable {f}
theorem mapK_nat (C : Cfg) (ρ : Operand → AV) (m : Mem) (op : Op) (k : AV → Mem → Ω) (z : Ω) : f (mapK C ρ m op k z) = mapK C ρ m op (fun v m => f (k v m)) (f z) := by
  unfold mapK
  repeat' (first | rfl | split)
theorem opsK_nat {call : CallF Ω} {call' : CallF Ω'} (hc : CallNat f call call') (C : Cfg) (ops : Array Oper) : ∀ (l : List Oper) (st : St) (k : St → Ω) (kp : AV → St → Ω) (z : Ω), f (opsK C call ops l st k kp z) = opsK C call' ops l st (fun s => f (k s)) (fun v s => f (kp v s)) (f z)
  | [], st, k, kp, z => rfl
  | o :: r, st, k, kp, z => by
    rw [opsK_cons, opsK_cons, guardK_nat f]
    congr 1
    · funext tmps
      rw [cond_nat f, mapK_nat (f := f), aop_nat f]
      congr 1
      · congr 1
        funext v m'
        exact opsK_nat hc C ops r _ _ _ _
      · congr 1
        · funext v h nx; exact opsK_nat hc C ops r _ _ _ _
        · funext t args
          rw [hc]
          congr 1
          funext v m'
          exact opsK_nat hc C ops r _ _ _ _
    · funext tmps; exact opsK_nat hc C ops r _ _ _ _
theorem floatK_nat {stand : Func → Code → List AV → (AV → Ω) → Ω} {stand' : Func → Code → List AV → (AV → Ω') → Ω'} (hs : StandNat f stand stand') (C : Cfg) (g : FuncId) (args : List AV) (h : Heap) (k : AV → Ω) (other : Func → Code → Ω) (z : Ω) :
    f (floatK C stand g args h k other z) = floatK C stand' g args h (fun v => f (k v)) (fun a b => f (other a b)) (f z) := by
  unfold floatK
  split
  · split
    · split
      · rw [cond_nat f]
        congr 1
        · split
          · exact cond_nat f _ _ _
          · rfl
        · rw [viewsK_nat f (viewK_nat f h 6)]
          congr 1
          funext args'
          split
          · rw [cond_nat f, cond_nat f]
          · rfl
      · rw [cond_nat f, cond_nat f, hs, viewsK_nat f (viewK_nat f h 6)]
        congr 3
        funext args'
        rw [hs]
        congr 1
        funext r
        exact cond_nat f _ _ _
    · rfl
  · rfl
theorem barD_nat {stand : Func → Code → List AV → (AV → Ω) → Ω} {stand' : Func → Code → List AV → (AV → Ω') → Ω'} (hs : StandNat f stand stand') {call : CallF Ω} {call' : CallF Ω'} (hc : CallNat f call call') (C : Cfg) (tmps : List AV) (m : Mem) (o : Oper) (k : Rc → Ω) (z : Ω) (fp : List Nat) :
    f (barD C stand call tmps m o k z fp) = barD C stand' call' tmps m o (fun r => f (k r)) (f z) fp := by
  unfold barD
  rw [aop_nat f]
  congr 1
  funext t args
  cases t with
  | fn g =>
    simp only
    rw [floatK_nat hs]
    congr 1
    funext a b
    exact hc _ _ _ _ _
  | yld id => exact hc _ _ _ _ _
theorem newD_nat (C : Cfg) (tmps : List AV) (ai : Nat) (o : Oper) (k : Rc → Ω) (z : Ω) : f (newD C tmps ai o k z) = newD C tmps ai o (fun r => f (k r)) (f z) := by
  unfold newD
  rw [aop_nat f]
  congr 1
  funext v h nx
  split <;> rfl
theorem opD_nat {stand : Func → Code → List AV → (AV → Ω) → Ω} {stand' : Func → Code → List AV → (AV → Ω') → Ω'} (hs : StandNat f stand stand') {call : CallF Ω} {call' : CallF Ω'} (hc : CallNat f call call') (C : Cfg) (tmps : List AV) (m : Mem) (ai : Nat) (o : Oper) (k : Rc → Ω) (z : Ω) :
    f (opD C stand call tmps m ai o k z) = opD C stand' call' tmps m ai o (fun r => f (k r)) (f z) := by
  unfold opD
  rw [cond_nat f, cond_nat f, aop_nat f, newD_nat (f := f), barD_nat hs hc]
theorem drawK_nat {stand : Func → Code → List AV → (AV → Ω) → Ω} {stand' : Func → Code → List AV → (AV → Ω') → Ω'} (hs : StandNat f stand stand') {call : CallF Ω} {call' : CallF Ω'} (hc : CallNat f call call') (C : Cfg) (ops : Array Oper) (lo hi : Nat) :
    ∀ (l : List Oper) (st : St) (ai : Nat) (acc : List Rc) (k : St → Ω) (z : Ω), f (drawK C stand call ops lo hi l st ai acc k z) = drawK C stand' call' ops lo hi l st ai acc (fun s => f (k s)) (f z)
  | [], st, ai, acc, k, z => cond_nat f _ _ _
  | o :: r, st, ai, acc, k, z => by
    simp only [drawK]
    rw [guardK_nat f]
    congr 1
    · funext tmps
      rw [opD_nat hs hc]
      congr 1
      funext rc
      exact drawK_nat hs hc C ops lo hi r _ _ _ _ _
    · funext tmps
      exact drawK_nat hs hc C ops lo hi r _ _ _ _ _
/-- A way of going on that is natural. -/
def GoNat (f : Ω → Ω') (go : RunF Ω) (go' : RunF Ω') : Prop := ∀ inr sc code st k z, f (go inr sc code st k z) = go' inr sc code st (fun e s => f (k e s)) (f z)
theorem standK_nat {go : RunF Ω} {go' : RunF Ω'} (hg : GoNat f go go') (C : Cfg) (z : Ω) : StandNat f (standK C go z) (standK C go' (f z)) := fun fn c args k => by
  unfold standK
  rw [hg]
  congr 1
  funext e st'
  cases e <;> simp only
  · rw [closeK_nat f]
    congr 1
    funext lp
    rw [resK_nat f]
    congr 1
    funext v
    exact freezeK_nat f _ _ _ _ _
  · rw [closeK_nat f]
    congr 1
    funext lp
    rw [resK_nat f]
    congr 1
    funext v
    exact freezeK_nat f _ _ _ _ _
theorem callR_nat {go : RunF Ω} {go' : RunF Ω'} (hg : GoNat f go go') (C : Cfg) (z : Ω) : CallNat f (callR C go z) (callR C go' (f z)) := fun t args m kk kp => by
  cases t with
  | fn g =>
    simp only [callR]
    split
    · exact TrM.ev_nat f _ _ _
    rw [floatK_nat (standK_nat hg C z)]
    congr 1
    funext fn c
    rw [hg]
    congr 1
    funext e st'
    cases e <;> simp only
    · rw [closeK_nat f]
      congr 1
      funext lp
      exact resK_nat f _ _ _ _ _
    · rw [closeK_nat f]
      congr 1
      funext lp
      exact resK_nat f _ _ _ _ _
    · exact closeK_nat f _ _ _ _
  | yld id =>
    simp only [callR]
    split
    · rw [cond_nat f, hg]
      congr 2
      funext e st1
      cases e <;> simp only
      split
      · rw [hg]
        congr 1
        funext e2 st2
        split <;> rfl
      · rfl
    · rfl
theorem runStep_nat {go : RunF Ω} {go' : RunF Ω'} (hg : GoNat f go go') (C : Cfg) : GoNat f (runStep C go) (runStep C go') := fun inr sc code st k z => by
  unfold runStep
  cases sc with
  | some body =>
    simp only
    rw [hg]
    congr 1
    funext e st'
    cases e <;> simp only
    split
    · exact hg _ _ _ _ _ _
    · rfl
  | none =>
    cases code <;> simp only
    case seq a b =>
      rw [hg]
      congr 1
      funext e st'
      cases e <;> simp only
      exact hg _ _ _ _ _ _
    case cond c a b =>
      split
      · rw [cond_nat f, hg, hg]
      · rfl
    case block id body =>
      rw [hg]
      congr 1
      funext e st'
      cases e <;> simp only
      exact cond_nat f _ _ _
    case loop body =>
      rw [hg]
      congr 1
      funext e st'
      cases e <;> simp only
      exact hg _ _ _ _ _ _
    case scope body => exact hg _ _ _ _ _ _
    case region id ops draw =>
      rw [cond_nat f, cond_nat f, drawK_nat (standK_nat hg C z) (callR_nat hg C z), drawK_nat (standK_nat hg C z) (callR_nat hg C z), opsK_nat (callR_nat hg C z)]
      congr 2
      congr 1
      funext st'
      exact opsK_nat (callR_nat hg C z) C _ _ _ _ _ _
    case rangeFunc g params assign body =>
      split
      · rw [loopM_nat f]
        congr 1
        funext id ds m
        rw [callR_nat hg C z]
        congr 1
        funext v m'
        split
        · exact cond_nat f _ _ _
        · rfl
      · rfl
theorem run_nat (C : Cfg) : ∀ n, GoNat f (run C n) (run C n)
  | 0 => fun inr sc code st k z => rfl
  | n + 1 => runStep_nat (run_nat C n) C
end
end Go.Bas
end
section
namespace Go.Bas
open Go.RowKit
set_option linter.unusedSimpArgs false
set_option linter.unusedVariables false

theorem hget_append (h g : Heap) (id : Nat) : hget (h ++ g) id = (hget h id).or (hget g id) := by
  induction h with
  | nil => simp [hget_nil]
  | cons p r ih =>
    obtain ⟨i, b⟩ := p
    rw [List.cons_append, hget_cons, hget_cons, ih]
    cases Nat.beq i id <;> simp
theorem hget_filter (q : Nat → Bool) (h : Heap) (id : Nat) : hget (h.filter fun p => q p.1) id = cond (q id) (hget h id) none := by
  induction h with
  | nil => simp [hget_nil]
  | cons p r ih =>
    obtain ⟨i, b⟩ := p
    rw [List.filter_cons]
    by_cases hi : i = id
    · subst hi
      have hb : Nat.beq i i = true := (beq_iff i i).2 rfl
      cases hq : q i with
      | true => simp [hget_cons, hb]
      | false => simp [hq] at ih ⊢; exact ih
    · have hb : Nat.beq i id = false := by
        cases hh : Nat.beq i id with
        | false => rfl
        | true => exact absurd ((beq_iff i id).1 hh) hi
      cases hq : q i with
      | true => simp [hget_cons, hb, ih]
      | false => simp [hget_cons, hb, ih]
theorem hget_pick (h : Heap) (fp : List Nat) (id : Nat) : hget (hpick h fp) id = cond (memN fp id) (hget h id) none := hget_filter (memN fp) h id
theorem hget_rest (h : Heap) (fp : List Nat) (id : Nat) : hget (hrest h fp) id = cond (memN fp id) none (hget h id) := by
  have := hget_filter (fun i => !memN fp i) h id
  rw [hrest, this]
  cases memN fp id <;> rfl
theorem hget_none {q : Nat → Bool} {h : Heap} {id : Nat} (ha : h.all (fun p => q p.1) = true) (hq : q id = false) : hget h id = none := by
  induction h with
  | nil => rfl
  | cons p r ih =>
    obtain ⟨i, b⟩ := p
    simp only [List.all_cons, Bool.and_eq_true] at ha
    rw [hget_cons]
    cases hb : Nat.beq i id with
    | true => rw [(beq_iff i id).1 hb] at ha; rw [ha.1] at hq; cases hq
    | false => exact ih ha.2

/-- States that nobody tells apart. -/
structure StEq (s t : St) : Prop where
  tm : s.tmps = t.tmps
  ds : s.ds = t.ds
  hp : ∀ id, hget s.m.heap id = hget t.m.heap id
  nx : s.m.nx = t.m.nx
  lp : s.m.lp = t.m.lp
theorem StEq.refl (s : St) : StEq s s := ⟨rfl, rfl, fun _ => rfl, rfl, rfl⟩
theorem StEq.trans {s t u : St} (h : StEq s t) (h' : StEq t u) : StEq s u := ⟨h.tm.trans h'.tm, h.ds.trans h'.ds, fun id => (h.hp id).trans (h'.hp id), h.nx.trans h'.nx, h.lp.trans h'.lp⟩
theorem StEq.symm {s t : St} (h : StEq s t) : StEq t s := ⟨h.tm.symm, h.ds.symm, fun id => (h.hp id).symm, h.nx.symm, h.lp.symm⟩
theorem applyRc_congr {s t : St} (r : Rc) (h : StEq s t) : StEq (applyRc s r) (applyRc t r) := by
  obtain ⟨dst, out, rd, eff⟩ := r
  cases eff with
  | nop => exact ⟨by simp [applyRc, h.tm], h.ds, h.hp, h.nx, h.lp⟩
  | new id hb => exact ⟨by simp [applyRc, h.tm], h.ds, fun i => by simp only [applyRc, hget_cons, h.hp i], h.nx, h.lp⟩
  | bar fp lo m' => exact ⟨by simp [applyRc, h.tm], h.ds, fun i => by simp only [applyRc, hget_append, hget_rest, h.hp i], rfl, rfl⟩

/-- What the listed ones have done, in the order of the text. -/
noncomputable def sAt (L : Nat → Bool) : Nat → List Rc → St → St
  | _, [], s => s
  | i, r :: rs, s => sAt L (i + 1) rs (cond (L i) (applyRc s r) s)
theorem sAt_congr {L : Nat → Bool} : ∀ (rs : List Rc) (i : Nat) {s t : St}, StEq s t → StEq (sAt L i rs s) (sAt L i rs t)
  | [], i, s, t, h => h
  | r :: rs, i, s, t, h => by
    simp only [sAt]
    refine sAt_congr rs (i + 1) ?_
    cases L i
    · exact h
    · exact applyRc_congr r h
theorem sAt_ext {L L' : Nat → Bool} : ∀ (rs : List Rc) (i : Nat) (s : St), (∀ j, i ≤ j → L j = L' j) → sAt L i rs s = sAt L' i rs s
  | [], i, s, h => rfl
  | r :: rs, i, s, h => by
    simp only [sAt]
    rw [h i (Nat.le_refl _)]
    exact sAt_ext rs (i + 1) _ (fun j hj => h j (by omega))
theorem sAt_pre : ∀ (rs : List Rc) (i j : Nat) (s : St), sAt (fun x => Nat.blt x (i + j)) i rs s = (rs.take j).foldl applyRc s
  | [], i, j, s => by simp [sAt]
  | r :: rs, i, 0, s => by
    have : ∀ (l : List Rc) (i' : Nat) (s : St), i ≤ i' → sAt (fun x => Nat.blt x (i + 0)) i' l s = s := by
      intro l
      induction l with
      | nil => intro i' s h; rfl
      | cons r l ih =>
        intro i' s h
        have hb : Nat.blt i' (i + 0) = false := by
          cases hh : Nat.blt i' (i + 0) with
          | false => rfl
          | true => have := Nat.le_of_ble_eq_true hh; omega
        simp only [sAt, hb, cond_false]
        exact ih _ _ (by omega)
    simpa using this (r :: rs) i s (Nat.le_refl _)
  | r :: rs, i, j + 1, s => by
    have hb : Nat.blt i (i + (j + 1)) = true := Nat.ble_eq_true_of_le (by omega)
    simp only [sAt, hb, cond_true, List.take_succ_cons, List.foldl_cons]
    have := sAt_pre rs (i + 1) j (applyRc s r)
    rw [show i + 1 + j = i + (j + 1) by omega] at this
    exact this
theorem sAt_all : ∀ (rs : List Rc) (i : Nat) (s : St) (L : Nat → Bool), (∀ j, i ≤ j → j < i + rs.length → L j = true) → sAt L i rs s = rs.foldl applyRc s
  | [], i, s, L, h => rfl
  | r :: rs, i, s, L, h => by
    simp only [sAt, h i (Nat.le_refl _) (by simp), cond_true, List.foldl_cons]
    exact sAt_all rs (i + 1) _ L (fun j hj hj' => h j (by omega) (by simp only [List.length_cons]; omega))

theorem lget_set_self {l : List AV} {t : Nat} {v : AV} (h : t < l.length) : lget (lset l t v) t = v := by rw [lset_eq, lget_eq]; simp [h]
theorem lget_set_ne {l : List AV} {t d : Nat} {v : AV} (h : d ≠ t) : lget (lset l d v) t = lget l t := by
  rw [lset_eq, lget_eq, lget_eq, List.getD_eq_getElem?_getD, List.getD_eq_getElem?_getD, List.getElem?_set_ne h]
theorem lget_out {l : List AV} {t : Nat} (h : l.length ≤ t) : lget l t = .any := by rw [lget_eq, List.getD_eq_getElem?_getD, List.getElem?_eq_none h]; rfl
theorem lset_length (l : List AV) (d : Nat) (v : AV) : (lset l d v).length = l.length := by rw [lset_eq]; simp
theorem setT_length (l : List AV) (d : Option Nat) (v : AV) : (setT l d v).length = l.length := by cases d <;> simp [setT, lset_length]
theorem lset_comm {l : List AV} {a b : Nat} {v u : AV} (h : a ≠ b) : lset (lset l a v) b u = lset (lset l b u) a v := by
  simp only [lset_eq]; exact List.set_comm _ _ h
theorem setT_comm {l : List AV} {a b : Option Nat} {v u : AV} (h : ∀ x, a = some x → b ≠ some x) : setT (setT l a v) b u = setT (setT l b u) a v := by
  cases a with
  | none => cases b <;> rfl
  | some x => cases b with
    | none => rfl
    | some y => exact lset_comm (fun e => h x rfl (by rw [e]))
/-- A temporary hangs on those that write it. -/
theorem agreeT {L L' : Nat → Bool} {t : Nat} : ∀ (rs : List Rc) (i : Nat) (s s' : St), (∀ j r, getRc rs j = some r → r.dst = some t → L (i + j) = L' (i + j)) → s.tmps.length = s'.tmps.length → lget s.tmps t = lget s'.tmps t →
    lget (sAt L i rs s).tmps t = lget (sAt L' i rs s').tmps t
  | [], i, s, s', h, hl, he => he
  | r :: rs, i, s, s', h, hl, he => by
    simp only [sAt]
    refine agreeT rs (i + 1) _ _ (fun j r' hj hd => ?_) ?_ ?_
    · have := h (j + 1) r' hj hd
      rw [show i + 1 + j = i + (j + 1) by omega]
      exact this
    · cases L i <;> cases L' i <;> simp [applyRc, setT_length, hl]
    · have keep : ∀ (b : Bool) (x : St), ¬ r.dst = some t → lget (cond b (applyRc x r) x).tmps t = lget x.tmps t := fun b x hd => by
        cases b
        · rfl
        · simp only [cond_true, applyRc]
          cases hr : r.dst with
          | none => rfl
          | some d => exact lget_set_ne (fun e => hd (by rw [hr, e]))
      by_cases hd : r.dst = some t
      · have h0 := h 0 r rfl hd
        rw [Nat.add_zero] at h0
        rw [h0]
        cases L' i
        · exact he
        · simp only [cond_true, applyRc, hd, setT]
          by_cases ht : t < s.tmps.length
          · rw [lget_set_self ht, lget_set_self (by omega)]
          · rw [lget_out (by rw [lset_length]; omega), lget_out (by rw [lset_length]; omega)]
      · rw [keep _ _ hd, keep _ _ hd]; exact he
/-- A block hangs on those that touch it. -/
theorem agreeH {L L' : Nat → Bool} {id : Nat} : ∀ (rs : List Rc) (i : Nat) (s s' : St), (∀ j r, getRc rs j = some r → r.eff.touches id = true → L (i + j) = L' (i + j)) → (∀ r ∈ rs, r.eff.domOk = true) → hget s.m.heap id = hget s'.m.heap id →
    hget (sAt L i rs s).m.heap id = hget (sAt L' i rs s').m.heap id
  | [], i, s, s', h, hd, he => he
  | r :: rs, i, s, s', h, hd, he => by
    simp only [sAt]
    refine agreeH rs (i + 1) _ _ (fun j r' hj ht => ?_) (fun r' hr' => hd r' (List.mem_cons_of_mem _ hr')) ?_
    · have := h (j + 1) r' hj ht
      rw [show i + 1 + j = i + (j + 1) by omega]
      exact this
    · have hdom := hd r (List.mem_cons_self ..)
      obtain ⟨dst, out, rd, eff⟩ := r
      simp only at hdom
      have keep : ∀ (b : Bool) (x : St), eff.touches id = false → hget (cond b (applyRc x ⟨dst, out, rd, eff⟩) x).m.heap id = hget x.m.heap id := fun b x ht => by
        cases b
        · rfl
        · simp only [cond_true, applyRc]
          cases eff with
          | nop => rfl
          | new i' hb =>
            simp only [Eff.touches] at ht
            simp only [hget_cons, ht, cond_false]
          | bar fp lo m' =>
            simp only [Eff.touches] at ht
            simp only [hget_append, hget_rest]
            rw [hget_none (q := fun i => memN fp i || Nat.ble lo i) hdom ht]
            simp only [Bool.or_eq_false_iff] at ht
            simp [ht.1]
      cases ht : eff.touches id with
      | false => rw [keep _ _ ht, keep _ _ ht]; exact he
      | true =>
        have h0 := h 0 _ rfl ht
        rw [Nat.add_zero] at h0
        rw [h0]
        cases L' i
        · exact he
        · simp only [cond_true, applyRc]
          cases eff with
          | nop => exact he
          | new i' hb => simp only [hget_cons, he]
          | bar fp lo m' => simp only [hget_append, hget_rest, he]
/-- The rest of the memory hangs on the barriers. -/
theorem agreeN {L L' : Nat → Bool} : ∀ (rs : List Rc) (i : Nat) (s s' : St), (∀ j r, getRc rs j = some r → r.eff.isBar = true → L (i + j) = L' (i + j)) → s.m.nx = s'.m.nx → s.m.lp = s'.m.lp →
    (sAt L i rs s).m.nx = (sAt L' i rs s').m.nx ∧ (sAt L i rs s).m.lp = (sAt L' i rs s').m.lp
  | [], i, s, s', h, hn, hl => ⟨hn, hl⟩
  | r :: rs, i, s, s', h, hn, hl => by
    simp only [sAt]
    have step : (cond (L i) (applyRc s r) s).m.nx = (cond (L' i) (applyRc s' r) s').m.nx ∧ (cond (L i) (applyRc s r) s).m.lp = (cond (L' i) (applyRc s' r) s').m.lp := by
      obtain ⟨dst, out, rd, eff⟩ := r
      cases eff with
      | nop => cases L i <;> cases L' i <;> exact ⟨hn, hl⟩
      | new i' hb => cases L i <;> cases L' i <;> exact ⟨hn, hl⟩
      | bar fp lo m' =>
        have h0 := h 0 _ rfl rfl
        rw [Nat.add_zero] at h0
        rw [h0]
        cases L' i
        · exact ⟨hn, hl⟩
        · exact ⟨rfl, rfl⟩
    refine agreeN rs (i + 1) _ _ (fun j r' hj ht => ?_) step.1 step.2
    have := h (j + 1) r' hj ht
    rw [show i + 1 + j = i + (j + 1) by omega]
    exact this

/-- They may come either way round. -/
def Commute (a b : Rc) : Prop := (∀ x, a.dst = some x → b.dst ≠ some x) ∧ effClash a.eff b.eff = false ∧ a.eff.domOk = true ∧ b.eff.domOk = true
theorem apply_comm {a b : Rc} (h : Commute a b) (s : St) : StEq (applyRc (applyRc s a) b) (applyRc (applyRc s b) a) := by
  obtain ⟨h1, h2, h3, h4⟩ := h
  obtain ⟨d1, o1, r1, e1⟩ := a
  obtain ⟨d2, o2, r2, e2⟩ := b
  have tm : (applyRc (applyRc s ⟨d1, o1, r1, e1⟩) ⟨d2, o2, r2, e2⟩).tmps = (applyRc (applyRc s ⟨d2, o2, r2, e2⟩) ⟨d1, o1, r1, e1⟩).tmps := setT_comm h1
  have nb : ∀ (i : Nat) (hb : HB) (fp : List Nat) (lo : Nat) (m' : Mem) (id : Nat), (memN fp i || Nat.ble lo i) = false → (m'.heap.all fun p => memN fp p.1 || Nat.ble lo p.1) = true →
      hget (m'.heap ++ hrest ((i, hb) :: s.m.heap) fp) id = hget ((i, hb) :: (m'.heap ++ hrest s.m.heap fp)) id := fun i hb fp lo m' id hc hd => by
    simp only [hget_append, hget_rest, hget_cons]
    cases hi : Nat.beq i id with
    | true =>
      have := (beq_iff i id).1 hi
      subst this
      rw [hget_none (q := fun i => memN fp i || Nat.ble lo i) hd hc]
      simp only [Bool.or_eq_false_iff] at hc
      simp [hc.1]
    | false => simp
  refine ⟨tm, rfl, fun id => ?_, ?_, ?_⟩
  · cases e1 <;> cases e2 <;> simp only [applyRc] <;> try rfl
    case new.new i hb j hb' =>
      have hne : ¬ i = j := fun e => by rw [effClash, (beq_iff i j).2 e] at h2; cases h2
      simp only [hget_cons]
      cases hi : Nat.beq i id with
      | true =>
        have e1 := (beq_iff i id).1 hi
        cases hj : Nat.beq j id with
        | true => exact absurd (e1.trans ((beq_iff j id).1 hj).symm) hne
        | false => rfl
      | false => cases Nat.beq j id <;> rfl
    case new.bar i hb fp lo m' => exact nb i hb fp lo m' id h2 h4
    case bar.new fp lo m' i hb => exact (nb i hb fp lo m' id h2 h3).symm
    case bar.bar => cases h2
  · cases e1 <;> cases e2 <;> first | rfl | cases h2
  · cases e1 <;> cases e2 <;> first | rfl | cases h2
theorem push {L : Nat → Bool} {r : Rc} : ∀ (rs : List Rc) (i : Nat) (s : St), (∀ j r', getRc rs j = some r' → L (i + j) = true → Commute r r') → StEq (sAt L i rs (applyRc s r)) (applyRc (sAt L i rs s) r)
  | [], i, s, h => StEq.refl _
  | r' :: rs, i, s, h => by
    simp only [sAt]
    have hrest : ∀ j r'', getRc rs j = some r'' → L (i + 1 + j) = true → Commute r r'' := fun j r'' hj hL => h (j + 1) r'' hj (by rw [show i + (j + 1) = i + 1 + j by omega]; exact hL)
    cases hL : L i with
    | false => exact push rs (i + 1) s hrest
    | true => exact (sAt_congr rs (i + 1) (apply_comm (h 0 r' rfl hL) s)).trans (push rs (i + 1) (applyRc s r') hrest)
/-- One more is listed. -/
theorem insert {L L' : Nat → Bool} {j : Nat} {r : Rc} : ∀ (rs : List Rc) (i : Nat) (s : St), getRc rs j = some r → L (i + j) = false → L' (i + j) = true → (∀ x, x ≠ i + j → L' x = L x) →
    (∀ x r', j < x → getRc rs x = some r' → L (i + x) = true → Commute r r') → StEq (sAt L' i rs s) (applyRc (sAt L i rs s) r)
  | [], i, s, hr, _, _, _, _ => by cases j <;> cases hr
  | r' :: rs, i, s, hr, h1, h2, h3, h4 => by
    simp only [sAt]
    cases j with
    | zero =>
      simp only [getRc, Option.some.injEq] at hr
      subst hr
      rw [Nat.add_zero] at h1 h2
      rw [h1, h2]
      simp only [cond_true, cond_false]
      rw [sAt_ext (L := L') (L' := L) rs (i + 1) _ (fun x hx => h3 x (by omega))]
      exact push rs (i + 1) s (fun x r'' hx hL => h4 (x + 1) r'' (by omega) hx (by rw [show i + (x + 1) = i + 1 + x by omega]; exact hL))
    | succ j =>
      rw [h3 i (by omega)]
      refine insert rs (i + 1) _ hr ?_ ?_ (fun x hx => h3 x (by omega)) (fun x r'' hx hg hL => h4 (x + 1) r'' (by omega) hg ?_)
      · rw [show i + 1 + j = i + (j + 1) by omega]; exact h1
      · rw [show i + 1 + j = i + (j + 1) by omega]; exact h2
      · rw [show i + (x + 1) = i + 1 + x by omega]; exact hL
end Go.Bas
end
section
namespace Go.Bas
open Go.RowKit
set_option linter.unusedSimpArgs false
set_option linter.unusedVariables false

section
variable {C : Cfg} {w w' : World} {B oC oL oC' oL' : Nat → Prop} {ω ω' : Nat → Option Nat} {nx nx' nx0 : Nat}

theorem Rep.other {B B' own own' : Nat → Prop} {v : AV} {u : Value} (h : Rep w B own ω nx v u) (ho : ∀ b, ¬ own b → ¬ B b → ¬ own' b ∧ ¬ B' b) : Rep w B' own' ω nx v u :=
  h.mono (Nat.le_refl _) (fun b _ h1 h2 => ⟨rfl, ho b h1 h2⟩) (fun _ _ h1 h2 => ⟨h1, h2⟩) (fun _ _ h => h)
theorem RepL.other {B B' own own' : Nat → Prop} {cs : List AV} {us : Array Value} (h : RepL w B own ω nx cs us) (ho : ∀ b, ¬ own b → ¬ B b → ¬ own' b ∧ ¬ B' b) : RepL w B' own' ω nx cs us :=
  ⟨h.1, fun i hi => (h.2 i hi).other ho⟩
theorem Rep.cond_other {B B' own own' : Nat → Prop} {p : Bool} {v : AV} {u : Value} (h : Rep w B own ω (cond p 0 nx) v u) (ho : ∀ b, ¬ own b → ¬ B b → ¬ own' b ∧ ¬ B' b) : Rep w B' own' ω (cond p 0 nx) v u := Rep.other h ho

/-- What a part of the memory holds. -/
def partOf (ω : Nat → Option Nat) (h : Heap) : Nat → Prop := fun b => ∃ id, (hget h id).isSome = true ∧ ω id = some b
/-- The own blocks but these. -/
def butOf (oC : Nat → Prop) (ω : Nat → Option Nat) (h : Heap) : Nat → Prop := fun b => oC b ∧ ¬ partOf ω h b

theorem part_sub {m : Mem} (M : MemSim C w B oC oL ω m) {hp : Heap} (hs : ∀ id x, hget hp id = some x → hget m.heap id = some x) : ∀ b, partOf ω hp b → oC b := fun b hb => by
  obtain ⟨id, h1, h2⟩ := hb
  obtain ⟨x, hx⟩ := Option.isSome_iff_exists.1 h1
  obtain ⟨_, b', arr, h3, h4, _⟩ := M.hp.rel id x (hs id x hx)
  rw [h2] at h3; cases h3; exact h4
theorem LbIs.other {B B' own own' : Nat → Prop} {l : Nat} {e : LB} (h : LbIs w B own ω nx l e) (ho : ∀ b, ¬ own b → ¬ B b → ¬ own' b ∧ ¬ B' b) : LbIs w B' own' ω nx l e := by
  cases e with
  | obj o => exact h
  | dfb => exact h
  | lop s pend tmps params assign body d =>
    obtain ⟨r, h1, h2, h3, h4, h5, h6⟩ := h
    exact ⟨r, h1, h2, h3, h4, h5.other ho, h6⟩
/-- A part of the memory, alone. -/
theorem MemSim.pick {m : Mem} (M : MemSim C w B oC oL ω m) {hp : Heap} (hs : ∀ id x, hget hp id = some x → hget m.heap id = some x) :
    MemSim C w (Or2 B (butOf oC ω hp)) (partOf ω hp) oL ω ⟨hp, m.nx, m.lp⟩ := by
  have hsub := part_sub M hs
  have ho : ∀ b, ¬ oC b → ¬ Or2 B oL b → ¬ partOf ω hp b ∧ ¬ Or2 (Or2 B (butOf oC ω hp)) oL b := fun b h1 h2 => ⟨fun h => h1 (hsub b h), fun h => h.elim (fun h => h.elim (fun h => h2 (.inl h)) (fun h => h1 h.1)) (fun h => h2 (.inr h))⟩
  refine ⟨⟨fun id x hx => ?_, fun i j b hi hj => ?_, fun b hb => M.hp.ob b (hsub b hb)⟩, ⟨fun id e he => ?_, M.lp.inj, fun l hl => ⟨(M.lp.dis l hl).1, fun h => (M.lp.dis l hl).2 (hsub l h)⟩⟩, M.gl, fun g cells h => ?_, fun b hb => ?_⟩
  · obtain ⟨h1, b, arr, h2, h3, h4, h5, h6⟩ := M.hp.rel id x (hs id x hx)
    exact ⟨h1, b, arr, h2, ⟨id, by rw [hx]; rfl, h2⟩, h4, h5, fun i hi => Rep.cond_other (h6 i hi) ho⟩
  · obtain ⟨x, hx⟩ := Option.isSome_iff_exists.1 hi
    obtain ⟨y, hy⟩ := Option.isSome_iff_exists.1 hj
    exact M.hp.inj i j b (by rw [hs i x hx]; rfl) (by rw [hs j y hy]; rfl)
  · obtain ⟨h1, l, h2, h3, h4⟩ := M.lp.rel id e he
    exact ⟨h1, l, h2, h3, h4.other ho⟩
  · obtain ⟨h1, h2, h3⟩ := M.gb g cells h
    exact ⟨fun hh => h1 (hsub g hh), h2, fun hh => hh.elim h3 (fun hh => h1 hh.1)⟩
  · rcases hb with hb | hb
    · exact M.bl b hb
    · exact M.hp.ob b hb.1
theorem pick_rep {m : Mem} (M : MemSim C w B oC oL ω m) {hp : Heap} (hs : ∀ id x, hget hp id = some x → hget m.heap id = some x) {v : AV} {u : Value} (h : Rep w (Or2 B oL) oC ω nx v u) : Rep w (Or2 (Or2 B (butOf oC ω hp)) oL) (partOf ω hp) ω nx v u :=
  h.other fun b h1 h2 => ⟨fun hh => h1 (part_sub M hs b hh), fun hh => hh.elim (fun hh => hh.elim (fun hh => h2 (.inl hh)) (fun hh => h1 hh.1)) (fun hh => h2 (.inr hh))⟩

/-- The part has been changed; the rest comes back to it. -/
theorem MemSim.merge {m m1 : Mem} (M : MemSim C w B oC oL ω m) {hp : Heap} {fp : List Nat} (hs : ∀ id x, hget hp id = some x → hget m.heap id = some x) (hin : ∀ id x, hget hp id = some x → memN fp id = true) {oC1 oL1 : Nat → Prop} {ω1 : Nat → Option Nat}
    (E : ExtR w (partOf ω hp) oL ω m.nx w' oC1 oL1 ω1 m1.nx) (M1 : MemSim C w' (Or2 B (butOf oC ω hp)) oC1 oL1 ω1 m1) :
    MemSim C w' B (Or2 oC1 (butOf oC ω hp)) oL1 ω1 ⟨m1.heap ++ hrest m.heap fp, m1.nx, m1.lp⟩ ∧ ExtR w oC oL ω m.nx w' (Or2 oC1 (butOf oC ω hp)) oL1 ω1 m1.nx ∧
    (∀ v u n, Rep w' (Or2 (Or2 B (butOf oC ω hp)) oL1) oC1 ω1 n v u → Rep w' (Or2 B oL1) (Or2 oC1 (butOf oC ω hp)) ω1 n v u) ∧ (∀ v u, Rep w (Or2 B oL) oC ω m.nx v u → Rep w' (Or2 B oL1) (Or2 oC1 (butOf oC ω hp)) ω1 m1.nx v u) := by
  have hsub := part_sub M hs
  have ho1 : ∀ b, ¬ oC1 b → ¬ Or2 (Or2 B (butOf oC ω hp)) oL1 b → ¬ Or2 oC1 (butOf oC ω hp) b ∧ ¬ Or2 B oL1 b := fun b h1 h2 => ⟨fun h => h.elim h1 (fun h => h2 (.inl (.inr h))), fun h => h.elim (fun h => h2 (.inl (.inl h))) (fun h => h2 (.inr h))⟩
  -- what lay in the rest lies there still
  have hbut : ∀ b, butOf oC ω hp b → w'.heap[b]? = w.heap[b]? := fun b hb => E.old b (M.hp.ob b hb.1) (fun h => h.elim hb.2 (fun h => (M.lp.dis b h).2 hb.1))
  have hnew : ∀ b, b < w.heap.size → ¬ oC b → ¬ oL b → ¬ oC1 b ∧ ¬ oL1 b := fun b hb h1 h2 => by
    have key : ∀ x, Or2 oC1 oL1 x → x < w.heap.size → Or2 (partOf ω hp) oL x := fun x hx hlt => (E.owns x hx).elim (fun h => h) (fun h => by omega)
    exact ⟨fun h => (key b (.inl h) hb).elim (fun h => h1 (hsub b h)) h2, fun h => (key b (.inr h) hb).elim (fun h => h1 (hsub b h)) h2⟩
  have rep : ∀ n n' v u, n ≤ m.nx → n ≤ n' → Rep w (Or2 B oL) oC ω n v u → Rep w' (Or2 B oL1) (Or2 oC1 (butOf oC ω hp)) ω1 n' v u := fun n n' v u hn hn' h =>
    h.mono E.size (fun b hb h1 h2 => by
      have hl : ¬ oL b := fun h => h2 (.inr h)
      obtain ⟨g1, g2⟩ := hnew b hb h1 hl
      exact ⟨E.old b hb (fun h => h.elim (fun h => h1 (hsub b h)) hl), fun h => h.elim g1 (fun h => h1 h.1), fun h => h.elim (fun h => h2 (.inl h)) g2⟩)
      (fun id b hi hb => ⟨by omega, (E.om id (by omega)).trans hb⟩) E.row
  have hrestE : ∀ id x, hget (hrest m.heap fp) id = some x → ∃ b arr, id < m.nx ∧ ω id = some b ∧ butOf oC ω hp b ∧ w.heap[b]? = some (.cells arr x.elem (0, 0)) ∧ x.cells.length ≤ arr.size ∧ (∀ i (hi : i < x.cells.length), Rep w (Or2 B oL) oC ω (cond x.pure 0 m.nx) x.cells[i] (arr.getD i undef)) ∧ hget m.heap id = some x := fun id x hx => by
    rw [hget_rest] at hx
    cases hm : memN fp id with
    | true => rw [hm] at hx; cases hx
    | false =>
      rw [hm] at hx
      simp only [cond_false] at hx
      obtain ⟨h1, b, arr, h2, h3, h4, h5, h6⟩ := M.hp.rel id x hx
      refine ⟨b, arr, h1, h2, ⟨h3, fun hh => ?_⟩, h4, h5, h6, hx⟩
      obtain ⟨id', g1, g2⟩ := hh
      obtain ⟨y, hy⟩ := Option.isSome_iff_exists.1 g1
      have := M.hp.inj id' id b (by rw [hs id' y hy]; rfl) (by rw [hx]; rfl) g2 h2
      subst this
      rw [hin id' y hy] at hm
      cases hm
  have hno : ∀ b, butOf oC ω hp b → ¬ Or2 oC1 oL1 b := fun b hb h => by
    rcases E.owns b h with h | h
    · exact h.elim hb.2 (fun h => (M.lp.dis b h).2 hb.1)
    · have := M.hp.ob b hb.1; omega
  have parts : ∀ id x, hget (m1.heap ++ hrest m.heap fp) id = some x → hget m1.heap id = some x ∨ hget (hrest m.heap fp) id = some x := fun id x hx => by
    rw [hget_append] at hx
    cases h1 : hget m1.heap id with
    | none => rw [h1] at hx; exact .inr hx
    | some y => rw [h1] at hx; exact .inl hx
  refine ⟨⟨⟨fun id x hx => ?_, fun i j b hi hj h1 h2 => ?_, fun b hb => ?_⟩, ⟨fun id e he => ?_, M1.lp.inj, fun l hl => ?_⟩, M1.gl, fun g cells h => ?_, fun b hb => Nat.lt_of_lt_of_le (M.bl b hb) E.size⟩, ?_, fun v u n h => h.other ho1, fun v u h => rep _ _ v u (Nat.le_refl _) E.nxle h⟩
  · rcases parts id x hx with hx | hx
    · obtain ⟨h1, b, arr, h2, h3, h4, h5, h6⟩ := M1.hp.rel id x hx
      exact ⟨h1, b, arr, h2, .inl h3, h4, h5, fun i hi => Rep.cond_other (h6 i hi) ho1⟩
    · obtain ⟨b, arr, h1, h2, h3, h4, h5, h6, _⟩ := hrestE id x hx
      refine ⟨Nat.lt_of_lt_of_le h1 E.nxle, b, arr, (E.om id h1).trans h2, .inr h3, (hbut b h3).trans h4, h5, fun i hi => ?_⟩
      have := h6 i hi
      cases hp' : x.pure with
      | true => rw [hp'] at this; exact rep 0 0 _ _ (Nat.zero_le _) (Nat.le_refl _) this
      | false => rw [hp'] at this; exact rep m.nx m1.nx _ _ (Nat.le_refl _) E.nxle this
  · obtain ⟨x, hx⟩ := Option.isSome_iff_exists.1 hi
    obtain ⟨y, hy⟩ := Option.isSome_iff_exists.1 hj
    rcases parts i x hx with hx | hx <;> rcases parts j y hy with hy | hy
    · exact M1.hp.inj i j b (by rw [hx]; rfl) (by rw [hy]; rfl) h1 h2
    · obtain ⟨_, b1, arr1, g2, g3, _⟩ := M1.hp.rel i x hx
      obtain ⟨b2, arr2, k1, k2, k3, _⟩ := hrestE j y hy
      rw [h1] at g2; cases g2
      rw [E.om j k1, k2] at h2; cases h2
      exact absurd (.inl g3) (hno _ k3)
    · obtain ⟨_, b1, arr1, g2, g3, _⟩ := M1.hp.rel j y hy
      obtain ⟨b2, arr2, k1, k2, k3, _⟩ := hrestE i x hx
      rw [h2] at g2; cases g2
      rw [E.om i k1, k2] at h1; cases h1
      exact absurd (.inl g3) (hno _ k3)
    · obtain ⟨b1, arr1, g1, g2, g3, _, _, _, g7⟩ := hrestE i x hx
      obtain ⟨b2, arr2, k1, k2, k3, _, _, _, k7⟩ := hrestE j y hy
      rw [E.om i g1] at h1
      rw [E.om j k1] at h2
      exact M.hp.inj i j b (by rw [g7]; rfl) (by rw [k7]; rfl) h1 h2
  · rcases hb with hb | hb
    · exact M1.hp.ob b hb
    · exact Nat.lt_of_lt_of_le (M.hp.ob b hb.1) E.size
  · obtain ⟨h1, l, h2, h3, h4⟩ := M1.lp.rel id e he
    exact ⟨h1, l, h2, h3, h4.other ho1⟩
  · exact ⟨(M1.lp.dis l hl).1, fun h => h.elim (M1.lp.dis l hl).2 (fun h => hno l h (.inr hl))⟩
  · obtain ⟨h1, h2, h3⟩ := M1.gb g cells h
    exact ⟨fun hh => hh.elim h1 (fun hh => h3 (.inr hh)), h2, fun hh => h3 (.inl hh)⟩
  · refine ⟨E.os, E.tape, E.output, E.size, fun b hb hn => E.old b hb (fun h => hn (h.elim (fun h => .inl (hsub b h)) .inr)), fun b hb => ?_, E.nxle, E.om, E.row⟩
    rcases hb with (hb | hb) | hb
    · exact (E.owns b (.inl hb)).elim (fun h => .inl (h.elim (fun h => .inl (hsub b h)) .inr)) .inr
    · exact .inl (.inl hb.1)
    · exact (E.owns b (.inr hb)).elim (fun h => .inl (h.elim (fun h => .inl (hsub b h)) .inr)) .inr
end
end Go.Bas
end
