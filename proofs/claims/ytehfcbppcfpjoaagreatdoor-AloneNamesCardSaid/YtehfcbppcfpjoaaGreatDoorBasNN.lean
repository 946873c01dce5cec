/- The engine, part N: each operation's reckoning is natural: what is done behind it may be done to its outcome. -/
import Derived.Test.YtehfcbppcfpjoaaGreatDoorBasNH
namespace Go.Bas
open Go.RowKit
set_option linter.unusedSimpArgs false
set_option linter.unusedVariables false

section
variable {Ω Ω' : Type} (f : Ω → Ω')
theorem cond_nat (b : Bool) (x y : Ω) : f (cond b x y) = cond b (f x) (f y) := by cases b <;> rfl

theorem coerce1_nat (c : CK) (mode : Nat) (v : AV) (k : AV → Ω) (z : Ω) : f (coerce1 c mode v k z) = coerce1 c mode v (fun v => f (k v)) (f z) := by
  unfold coerce1
  cases c with
  | b => exact cond_nat f _ _ _
  | i kd => exact cond_nat f _ _ _
  | o => rfl
  | s =>
    match mode with
    | 0 => simp only [cond_nat f]
    | 1 => simp only [cond_nat f]
    | _ + 2 => rfl
theorem loadsK_nat (mode : Nat) (cells : List AV) : ∀ (ks : List CK) (off : Nat) (k : List AV → Ω) (z : Ω), f (loadsK mode cells ks off k z) = loadsK mode cells ks off (fun v => f (k v)) (f z)
  | [], off, k, z => rfl
  | c :: cs, off, k, z => by
    simp only [loadsK]
    rw [coerce1_nat f]
    congr 1
    funext v
    exact loadsK_nat mode cells cs (off + 1) _ _
theorem loadsL_nat (mode : Nat) : ∀ (ks : List CK) (l : List AV) (k : List AV → Ω) (z : Ω), f (loadsL mode ks l k z) = loadsL mode ks l (fun v => f (k v)) (f z)
  | [], l, k, z => rfl
  | c :: cs, l, k, z => by
    simp only [loadsL]
    rw [coerce1_nat f]
    congr 1
    funext v
    exact loadsL_nat mode cs (ltail l) _ _
theorem loadsX_nat (mode : Nat) (cells : List AV) (ks : List CK) (off : Nat) (k : List AV → Ω) (z : Ω) : f (loadsX mode cells ks off k z) = loadsX mode cells ks off (fun v => f (k v)) (f z) := by
  unfold loadsX
  rw [cond_nat f, loadsK_nat f, loadsL_nat f]
theorem loadK_nat (P : Program) (t : TypeId) (mode : Nat) (cells : List AV) (off : Nat) (k : AV → Ω) (z : Ω) : f (loadK P t mode cells off k z) = loadK P t mode cells off (fun v => f (k v)) (f z) := by
  unfold loadK
  split
  · rw [cond_nat f, cond_nat f, cond_nat f, cond_nat f, loadsX_nat f]
    congr 3
    split
    · rw [coerce1_nat f]
    · rfl
  · rfl
theorem fillK_nat (place : Nat → Option (Nat × Nat)) : ∀ (parts : List (Nat × AV)) (cells : List AV) (k : List AV → Ω) (z : Ω), f (fillK place cells parts k z) = fillK place cells parts (fun v => f (k v)) (f z)
  | [], cells, k, z => rfl
  | (i, v) :: rest, cells, k, z => by
    simp only [fillK]
    split
    · rw [cond_nat f, fillK_nat place rest]
    · rfl
theorem buildK_nat (P : Program) (t : TypeId) (parts : List (Nat × AV)) (k : AV → Ω) (z : Ω) : f (buildK P t parts k z) = buildK P t parts (fun v => f (k v)) (f z) := by
  unfold buildK
  split
  · rw [cond_nat f, fillK_nat f]
  · split
    · rw [fillK_nat f]
    · rfl
  · rfl
theorem ibinK_nat (op : BinOp) (kd kd' : IntKind) (x y : Int) (k : AV → Ω) (z : Ω) : f (ibinK op kd kd' x y k z) = ibinK op kd kd' x y (fun v => f (k v)) (f z) := by
  cases op <;> simp only [ibinK, cond_nat f]
theorem eqopK_nat (op : BinOp) (b : Bool) (k : AV → Ω) (z : Ω) : f (eqopK op b k z) = eqopK op b (fun v => f (k v)) (f z) := by
  cases op <;> rfl
set_option maxHeartbeats 1000000 in
theorem binK_nat (P : Program) (op : BinOp) (t : TypeId) (ox oy : Operand) (x y : AV) (k : AV → Ω) (z : Ω) : f (binK P op t ox oy x y k z) = binK P op t ox oy x y (fun v => f (k v)) (f z) := by
  unfold binK
  split <;> first | rfl | exact ibinK_nat f _ _ _ _ _ _ _ | (split <;> first | rfl | (simp only [cond_nat f, eqopK_nat f]))
theorem unK_nat (op : UnOp) (x : AV) (k : AV → Ω) (z : Ω) : f (unK op x k z) = unK op x (fun v => f (k v)) (f z) := by
  unfold unK; split <;> rfl
theorem convK_nat (P : Program) (src dst : TypeId) (x : AV) (k : AV → Ω) (z : Ω) : f (convK P src dst x k z) = convK P src dst x (fun v => f (k v)) (f z) := by
  unfold convK; split <;> first | rfl | (split <;> rfl)
theorem fieldAddrK_nat (P : Program) (s : TypeId) (x : AV) (g : Nat) (k : AV → Ω) (z : Ω) : f (fieldAddrK P s x g k z) = fieldAddrK P s x g (fun v => f (k v)) (f z) := by
  unfold fieldAddrK; split <;> first | rfl | (split <;> rfl)
theorem partK_nat (P : Program) (t : TypeId) (cs : List AV) (off : Nat) (k : AV → Ω) (z : Ω) : f (partK P t cs off k z) = partK P t cs off (fun v => f (k v)) (f z) := by
  unfold partK
  split
  · rw [cond_nat f, cond_nat f]
    congr 1
    split <;> rfl
  · rfl
theorem fieldK_nat (P : Program) (t : TypeId) (x : AV) (g : Nat) (k : AV → Ω) (z : Ω) : f (fieldK P t x g k z) = fieldK P t x g (fun v => f (k v)) (f z) := by
  unfold fieldK
  split
  · split
    · exact partK_nat f _ _ _ _ _ _
    · rfl
  · rfl
theorem indexAddrK_nat (P : Program) (t : TypeId) (x i : AV) (k : AV → Ω) (z : Ω) : f (indexAddrK P t x i k z) = indexAddrK P t x i (fun v => f (k v)) (f z) := by
  unfold indexAddrK
  split
  · split
    · split
      · split <;> first | rfl | (simp only [cond_nat f])
      · rfl
    · split
      · split <;> first | rfl | (simp only [cond_nat f])
      · rfl
    · rfl
  · rfl
theorem indexK_nat (P : Program) (t : TypeId) (x i : AV) (k : AV → Ω) (z : Ω) : f (indexK P t x i k z) = indexK P t x i (fun v => f (k v)) (f z) := by
  unfold indexK
  split
  · split
    · split
      · rw [cond_nat f, partK_nat f]
      · rfl
    · rfl
  · split
    · rw [cond_nat f]
      congr 1
      split <;> rfl
    · rfl
  · rfl
set_option maxHeartbeats 1000000 in
theorem sliceK_nat (P : Program) (t : TypeId) (x : AV) (lo hi mx : Option AV) (k : AV → Ω) (z : Ω) : f (sliceK P t x lo hi mx k z) = sliceK P t x lo hi mx (fun v => f (k v)) (f z) := by
  unfold sliceK
  repeat' first | rfl | (rw [cond_nat f]; congr 1; done) | (simp only [cond_nat f]; done) | (split; all_goals skip) | (rw [cond_nat f]; congr 1)
theorem srcK_nat (h : Heap) (sz : Nat) (x : AV) (k : List AV → Nat → Bool → Ω) (z : Ω) : f (srcK h sz x k z) = srcK h sz x (fun a b c => f (k a b c)) (f z) := by
  unfold srcK
  split <;> first | rfl | (simp only [cond_nat f]; done) | (split <;> first | rfl | (simp only [cond_nat f]))
theorem appendK_nat (P : Program) (h : Heap) (nx : Nat) (t t' : TypeId) (s x : AV) (k : AV → Heap → Nat → Ω) (z : Ω) : f (appendK P h nx t t' s x k z) = appendK P h nx t t' s x (fun a b c => f (k a b c)) (f z) := by
  unfold appendK
  rw [cond_nat f]
  congr 1
  split
  · split
    · rw [cond_nat f, srcK_nat f]
      congr 2
      funext new m pn
      rw [cond_nat f]
      congr 1
      split <;> first | rfl | (simp only [cond_nat f]; done) | (split <;> first | rfl | (simp only [cond_nat f]))
    · rfl
  · rfl
theorem copyK_nat (P : Program) (h : Heap) (t : TypeId) (d x : AV) (k : AV → Heap → Ω) (z : Ω) : f (copyK P h t d x k z) = copyK P h t d x (fun a b => f (k a b)) (f z) := by
  unfold copyK
  split
  · split
    · split
      · split
        · rw [cond_nat f, srcK_nat f]
          congr 2
          funext new m pn
          rw [cond_nat f]
        · rfl
      · rfl
    · rfl
  · rfl
theorem makeSliceK_nat (P : Program) (h : Heap) (nx : Nat) (t : TypeId) (len cap : AV) (k : AV → Heap → Nat → Ω) (z : Ω) : f (makeSliceK P h nx t len cap k z) = makeSliceK P h nx t len cap (fun a b c => f (k a b c)) (f z) := by
  unfold makeSliceK
  split
  · split
    · rw [cond_nat f]
    · rfl
  · rfl
theorem lenK_nat (P : Program) (t : TypeId) (x : AV) (k : AV → Ω) (z : Ω) : f (lenK P t x k z) = lenK P t x (fun v => f (k v)) (f z) := by
  unfold lenK
  split
  · split <;> rfl
  · rfl
  · rfl
theorem foldIntK_nat (g : Int → Int → Int) : ∀ (l : List AV) (kd : IntKind) (n : Int) (k : AV → Ω) (z : Ω), f (foldIntK g kd n l k z) = foldIntK g kd n l (fun v => f (k v)) (f z)
  | [], kd, n, k, z => rfl
  | a :: r, kd, n, k, z => by
    cases a <;> first | rfl | exact foldIntK_nat g r kd _ k z
theorem minmaxK_nat (g : Int → Int → Int) (args : List AV) (k : AV → Ω) (z : Ω) : f (minmaxK g args k z) = minmaxK g args (fun v => f (k v)) (f z) := by
  unfold minmaxK
  split
  · exact foldIntK_nat f g _ _ _ _ _
  · rfl
theorem assertK_nat (P : Program) (x : AV) (asserted : TypeId) (ok : Bool) (k : AV → Ω) (z : Ω) : f (assertK P x asserted ok k z) = assertK P x asserted ok (fun v => f (k v)) (f z) := by
  unfold assertK
  split
  · rfl
  · split <;> first | rfl | (simp only [cond_nat f])
  · rfl
theorem callK_nat (C : Cfg) (ρ : Operand → AV) (h : Heap) (nx : Nat) (c : Call) (kv : AV → Heap → Nat → Ω) (kc : Tgt → List AV → Ω) (kp : AV → Ω) (z : Ω) :
    f (callK C ρ h nx c kv kc kp z) = callK C ρ h nx c (fun a b c => f (kv a b c)) (fun a b => f (kc a b)) (fun a => f (kp a)) (f z) := by
  unfold callK
  split
  · split <;> rfl
  · split
    · split <;> rfl
    · rfl
  · split <;> rfl
  · split
    · exact lenK_nat f _ _ _ _ _
    · rfl
  · split
    · exact appendK_nat f _ _ _ _ _ _ _ _ _
    · rfl
  · split
    · exact copyK_nat f _ _ _ _ _ _ _
    · rfl
  · exact minmaxK_nat f _ _ _ _
  · exact minmaxK_nat f _ _ _ _
  · rfl
theorem aop_nat (C : Cfg) (ρ : Operand → AV) (h : Heap) (nx : Nat) (op : Op) (kv : AV → Heap → Nat → Ω) (kc : Tgt → List AV → Ω) (kp : AV → Ω) (z : Ω) :
    f (aop C ρ h nx op kv kc kp z) = aop C ρ h nx op (fun a b c => f (kv a b c)) (fun a b => f (kc a b)) (fun a => f (kp a)) (f z) := by
  cases op <;> simp only [aop]
  case pick c a b => split <;> first | rfl | exact cond_nat f _ _ _
  case alloc t => split <;> rfl
  case box t x => split <;> rfl
  case build t parts => exact buildK_nat f _ _ _ _ _
  case buildSlice t len parts =>
    split
    · split
      · rw [cond_nat f, fillK_nat f]
      · rfl
    · rfl
  case load t x =>
    split
    · split
      · exact loadK_nat f _ _ _ _ _ _ _
      · rfl
    · exact loadK_nat f _ _ _ _ _ _ _
    · rfl
  case store t x v =>
    split
    · split
      · exact cond_nat f _ _ _
      · rfl
    · rfl
  case nilCheck x => split <;> rfl
  case binOp op t x y _ => exact binK_nat f _ _ _ _ _ _ _ _ _
  case unOp op _ x => exact unK_nat f _ _ _ _
  case convert src dst x => exact convK_nat f _ _ _ _ _ _
  case makeInterface t x => split <;> rfl
  case makeSlice t l c => exact makeSliceK_nat f _ _ _ _ _ _ _ _
  case slice t x lo hi mx => exact sliceK_nat f _ _ _ _ _ _ _ _
  case fieldAddr s x g => exact fieldAddrK_nat f _ _ _ _ _ _
  case field t x g => exact fieldK_nat f _ _ _ _ _ _
  case indexAddr t x i => exact indexAddrK_nat f _ _ _ _ _ _
  case index t x i => exact indexK_nat f _ _ _ _ _ _
  case extract x i =>
    split
    · split <;> rfl
    · rfl
  case typeAssert x _ asserted ok => exact assertK_nat f _ _ _ _ _ _
  case panic x => split <;> rfl
  case call c => exact callK_nat f _ _ _ _ _ _ _ _ _
end

/-- It looks at its operands alone. -/
theorem argsL_congr {ρ ρ' : Operand → AV} {l : Array Operand} (h : ∀ x ∈ l, ρ x = ρ' x) : argsL ρ l = argsL ρ' l :=
  List.map_congr_left fun x hx => h x (Array.mem_toList_iff.1 hx)
theorem partsL_congr {ρ ρ' : Operand → AV} {l : Array (Nat × Operand)} (h : ∀ x ∈ (l.toList.map (·.2)).toArray, ρ x = ρ' x) : (l.toList.map fun p => (p.1, ρ p.2)) = l.toList.map fun p => (p.1, ρ' p.2) :=
  List.map_congr_left fun p hp => by rw [h p.2 (by simp; exact ⟨p.1, by simpa using hp⟩)]
theorem optL_congr {ρ ρ' : Operand → AV} {o : Option Operand} (h : ∀ x ∈ o.toArray, ρ x = ρ' x) : o.map ρ = o.map ρ' := by
  cases o with
  | none => rfl
  | some x => exact congrArg some (h x (by simp))
theorem callK_congr {Ω : Type} {C : Cfg} {ρ ρ' : Operand → AV} {h : Heap} {nx : Nat} {c : Call} {kv : AV → Heap → Nat → Ω} {kc : Tgt → List AV → Ω} {kp : AV → Ω} {z : Ω} (e : ∀ x ∈ c.operands, ρ x = ρ' x) :
    callK C ρ h nx c kv kc kp z = callK C ρ' h nx c kv kc kp z := by
  have ha : argsL ρ c.args = argsL ρ' c.args := argsL_congr fun x hx => e x (by simp [Call.operands, hx])
  unfold callK
  rw [ha]
  cases hc : c.callee with
  | value g =>
    have : ρ g = ρ' g := e g (by simp [Call.operands, hc])
    simp only [this]
  | invoke r n =>
    have : ρ r = ρ' r := e r (by simp [Call.operands, hc])
    simp only [this]
  | builtin b => cases b <;> rfl
set_option maxHeartbeats 1000000 in
theorem aop_congr {Ω : Type} {C : Cfg} {ρ ρ' : Operand → AV} {h : Heap} {nx : Nat} {op : Op} {kv : AV → Heap → Nat → Ω} {kc : Tgt → List AV → Ω} {kp : AV → Ω} {z : Ω} (e : ∀ x ∈ op.operands, ρ x = ρ' x) :
    aop C ρ h nx op kv kc kp z = aop C ρ' h nx op kv kc kp z := by
  cases op <;> simp only [Op.operands] at e <;> try rfl
  case build t parts => simp only [aop, partsL_congr e]
  case buildSlice t len parts => simp only [aop, partsL_congr e]
  case makeFunc fn first cap =>
    have h1 : argsL ρ first = argsL ρ' first := argsL_congr fun x hx => e x (by simp [hx])
    have h2 : argsL ρ cap = argsL ρ' cap := argsL_congr fun x hx => e x (by simp [hx])
    simp only [aop, h1, h2]
  case slice t x lo hi mx =>
    have h1 : lo.map ρ = lo.map ρ' := optL_congr fun x hx => e x (by simp [hx])
    have h2 : hi.map ρ = hi.map ρ' := optL_congr fun x hx => e x (by simp [hx])
    have h3 : mx.map ρ = mx.map ρ' := optL_congr fun x hx => e x (by simp [hx])
    have h4 : ρ x = ρ' x := e x (by simp)
    simp only [aop, h1, h2, h3, h4]
  case call c => exact callK_congr e
  all_goals simp_all [aop]
end Go.Bas
