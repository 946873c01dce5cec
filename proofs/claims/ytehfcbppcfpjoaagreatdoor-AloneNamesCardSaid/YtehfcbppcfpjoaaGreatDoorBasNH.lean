/- The engine, part H: every operation that part B knows is the model's. -/
import Derived.Test.YtehfcbppcfpjoaaGreatDoorBasNG
namespace Go.Bas
open Go.RowKit
set_option linter.unusedSimpArgs false
set_option linter.unusedVariables false

section
variable {w : World} {B : Nat → Prop} {own : Nat → Prop} {ω : Nat → Option Nat} {nx : Nat} {h : Heap}

/-- The operation has yielded a value. -/
def OpYields (w : World) (B : Nat → Prop) (own : Nat → Prop) (ω : Nat → Option Nat) (nx : Nat) (kv : AV → Heap → Nat → Bool) (r : Result Next) : Prop :=
  ∃ u w' v h' nx' own' ω', (r = .ok (.value u) w' ∨ (r = .ok .skip w' ∧ u = undef)) ∧ kv v h' nx' = true ∧ Ext w own ω nx w' own' ω' nx' ∧ Hp w' B own' ω' nx' h' ∧ Rep w' B own' ω' nx' v u
/-- Whom it leads to, in the model. -/
def TgtRun (P : Program) (w : World) (ω : Nat → Option Nat) : Tgt → Array Value → Result Next → Prop
  | .fn f, us, r => r = (callFunc f us).run P w
  | .yld id, us, r => ∃ l, ω id = some l ∧ r = (Instr.yield l us).run P w
/-- The operation calls a function, or a round. -/
def OpCalls (P : Program) (w : World) (B : Nat → Prop) (own : Nat → Prop) (ω : Nat → Option Nat) (nx : Nat) (kc : Tgt → List AV → Bool) (r : Result Next) : Prop :=
  ∃ t args us, TgtRun P w ω t us r ∧ kc t args = true ∧ RepL w B own ω nx args us
/-- The operation panics. -/
def OpPanics (w : World) (B : Nat → Prop) (own : Nat → Prop) (ω : Nat → Option Nat) (nx : Nat) (kp : AV → Bool) (r : Result Next) : Prop :=
  ∃ v u, r = .halt (.panic u) w ∧ kp v = true ∧ Rep w B own ω nx v u
def OpDoes (P : Program) (w : World) (B : Nat → Prop) (own : Nat → Prop) (ω : Nat → Option Nat) (nx : Nat) (kv : AV → Heap → Nat → Bool) (kc : Tgt → List AV → Bool) (kp : AV → Bool) (r : Result Next) : Prop :=
  OpYields w B own ω nx kv r ∨ OpCalls P w B own ω nx kc r ∨ OpPanics w B own ω nx kp r

theorem here (H : Hp w B own ω nx h) {P : Program} {s : Sem Value} {kv : AV → Heap → Nat → Bool} (hs : Reckons P w B own ω nx s (fun v => kv v h nx)) : OpYields w B own ω nx kv ((do pure (Next.value (← s)) : Sem Next).run P w) := by
  obtain ⟨v, u, h1, h2, h3⟩ := hs
  exact ⟨u, w, v, h, nx, own, ω, .inl (by simp [h1 w (Same.refl w), Sem.run, Result.andThen]), h3, Ext.refl _ _ _ _, H, h2⟩
theorem there {P : Program} {s : Sem Value} {kv : AV → Heap → Nat → Bool} (hs : Yields P w B own ω nx kv (s.run P w)) : OpYields w B own ω nx kv ((do pure (Next.value (← s)) : Sem Next).run P w) := by
  obtain ⟨u, w', v, h', nx', own', ω', h1, h2⟩ := hs
  exact ⟨u, w', v, h', nx', own', ω', .inl (by simp [h1, Sem.run, Result.andThen]), h2⟩

theorem repL_map {ρ : Operand → AV} {e : Operand → Value} (hρ : ∀ x, Rep w B own ω nx (ρ x) (e x)) (l : Array Operand) : RepL w B own ω nx (argsL ρ l) (l.map e) := by
  refine repL_of (by simp [argsL]) (fun j a v ha hv => ?_)
  simp only [argsL, List.getElem?_map, Array.getElem?_toList, Option.map_eq_some_iff] at ha
  obtain ⟨x, hx, rfl⟩ := ha
  simp only [Array.getElem?_map, hx, Option.map_some, Option.some.injEq] at hv
  rw [← hv]
  exact hρ x

theorem RepL.append {cs ds : List AV} {a b : Array Value} (h1 : RepL w B own ω nx cs a) (h2 : RepL w B own ω nx ds b) : RepL w B own ω nx (cs ++ ds) (a ++ b) := by
  refine repL_of (by simp [h1.1, h2.1]) (fun j x v hx hv => ?_)
  have := h1.1
  by_cases hj : j < cs.length
  · rw [List.getElem?_append_left hj] at hx
    rw [Array.getElem?_append_left (by omega)] at hv
    exact h1.at hx hv
  · rw [List.getElem?_append_right (by omega)] at hx
    rw [Array.getElem?_append_right (by omega), ← h1.1] at hv
    exact h2.at hx hv

theorem arr_cons {α : Type} {arr : Array α} {n : Nat} (h : n + 1 = arr.size) : ∃ u us, arr = (u :: us).toArray := by
  obtain ⟨l⟩ := arr
  cases l with
  | nil => simp at h
  | cons u us => exact ⟨u, us, rfl⟩
theorem arr_two {α : Type} {arr : Array α} (h : 2 = arr.size) : ∃ u v, arr = #[u, v] := by
  obtain ⟨l⟩ := arr
  match l, h with
  | [u, v], _ => exact ⟨u, v, rfl⟩

set_option maxHeartbeats 2000000 in
theorem methodK_sound {P : Program} {t f : Nat} {v r : AV} {u : Value} {name : String} (hr : Rep w B own ω nx v u) (hm : methodK P t v name = some (f, r)) :
    ∃ ur, Rep w B own ω nx r ur ∧ ∀ w' : World, (method (P.types.size + Made.depth) t u name).run P w' = .ok (f, ur) w' := by
  obtain ⟨n, hd⟩ : ∃ n, P.types.size + Made.depth = n + 1 := ⟨P.types.size + 99, rfl⟩
  unfold methodK at hm
  split at hm
  · rename_i i hi
    split at hm
    · rename_i m hfm
      cases hp : m.path.isEmpty with
      | false => rw [hp] at hm; cases hm
      | true =>
        rw [hp] at hm
        simp only [cond_true] at hm
        have hpl : m.path.toList = [] := by
          have : m.path = #[] := by simpa using hp
          rw [this]
        split at hm
        · rename_i f' e hf hu
          cases hm
          refine ⟨u, hr, fun w' => ?_⟩
          rw [hd]
          simp [method, typeInfo, hi, hfm, hpl, follow, hf, receiverAt, run_underlying hu, Place.get, Sem.run, Result.andThen]
        · rename_i f' e hf hu
          cases hm
          refine ⟨u, hr, fun w' => ?_⟩
          rw [hd]
          simp [method, typeInfo, hi, hfm, hpl, follow, hf, receiverAt, run_underlying hu, Place.get, Sem.run, Result.andThen]
        · rename_i f' e hf hu
          cases hm
          refine ⟨u, hr, fun w' => ?_⟩
          rw [hd]
          simp [method, typeInfo, hi, hfm, hpl, follow, hf, receiverAt, run_underlying hu, Place.get, Sem.run, Result.andThen]
        · cases hm
    · cases hm
  · cases hm

theorem callK_sound (C : Cfg) (H : Hp w B own ω nx h) {ρ : Operand → AV} {e : Operand → Value} (hρ : ∀ x, Rep w B own ω nx (ρ x) (e x)) {c : Call} {type : TypeId} {kv : AV → Heap → Nat → Bool} {kc : Tgt → List AV → Bool} {kp : AV → Bool}
    (hk : callK C ρ h nx c kv kc kp false = true) :
    OpDoes C.P w B own ω nx kv kc kp ((do let d ← resolve e c type; invoke d.target d.args : Sem Next).run C.P w) := by
  have hargs := repL_map hρ c.args
  unfold callK at hk
  split at hk
  · rename_i f hcal
    have hf := hρ f
    split at hk
    · rename_i g first cap hfe
      rw [hfe] at hf
      generalize hev : e f = ef at hf
      cases hf with
      | fn _ _ _ _ fs cs h1 h2 h3 h4 =>
        refine .inr (.inl ⟨.fn g, _, fs ++ c.args.map e ++ cs, ?_, hk, (RepL.append (RepL.append ⟨h1, h3⟩ hargs) ⟨h2, h4⟩)⟩)
        simp [TgtRun, resolve, hcal, hev, Deferred.ofValue, invoke, Sem.run, Result.andThen]
    · rename_i id hfe
      rw [hfe] at hf
      generalize hev : e f = ef at hf
      cases hf with
      | yld _ _ l h1 h2 =>
        refine .inr (.inl ⟨.yld id, _, c.args.map e, ⟨l, h2, ?_⟩, hk, hargs⟩)
        simp [resolve, hcal, hev, Deferred.ofValue, invoke, Sem.run, Result.andThen]
    · cases hk
  · rename_i recv name hcal
    have hf := hρ recv
    split at hk
    · rename_i t v hfe
      rw [hfe] at hf
      generalize hev : e recv = ef at hf
      cases hf with
      | iface _ _ _ u hr =>
        split at hk
        · rename_i f r hm
          obtain ⟨ur, h1, h2⟩ := methodK_sound (P := C.P) (name := name) hr hm
          refine .inr (.inl ⟨.fn f, _, #[ur] ++ c.args.map e, ?_, hk, (RepL.append (cs := [r]) (a := #[ur]) ⟨rfl, fun i hi => match i, hi with | 0, _ => h1⟩ hargs)⟩)
          have hx : (#[(.iface t u : Value)] ++ c.args.map e).extract 1 (#[(.iface t u : Value)] ++ c.args.map e).size = c.args.map e := by
            apply Array.ext'
            simp
            rw [List.take_of_length_le (by simp)]
          have hm2 := h2 w
          have hx0 : (#[(.iface t u : Value)] ++ c.args.map e)[0]? = some (.iface t u) := by rw [Array.getElem?_append_left (by simp)]; rfl
          simp only [TgtRun, resolve, hcal, hev, Sem.run_bind, Sem.run_pure, Result.andThen_ok, invoke, hx, hx0]
          simp [callMethod, program, hm2, Sem.run, Result.andThen]
        · cases hk
    · cases hk
  · rename_i hcal
    split at hk
    · rename_i t v r hx
      rw [hx] at hargs
      have hsz := hargs.1
      obtain ⟨u, us, hu⟩ := arr_cons hsz
      rw [hu] at hargs
      have hr : Rep w B own ω nx (.iface t v) u := hargs.at (j := 0) rfl (by simp)
      cases hr with
      | iface _ _ _ u' hr' =>
        refine .inr (.inr ⟨_, .iface t u', ?_, hk, .iface _ _ _ _ hr'⟩)
        simp [resolve, hcal, invoke, builtin, hu, Instr.panic, goPanic, Sem.run, Result.andThen]
    · cases hk
  · rename_i hcal
    split at hk
    · rename_i x r t ts hx ht
      rw [hx] at hargs
      have hsz := hargs.1
      obtain ⟨u, us, hu⟩ := arr_cons hsz
      have htt : c.argTypes = (t :: ts).toArray := by rw [← ht]
      rw [hu] at hargs
      have hr : Rep w B own ω nx x u := hargs.at (j := 0) rfl (by simp)
      refine .inl ?_
      have := here H (kv := kv) (lenK_sound (ty := type) (ts := ts) (us := us) hr hk)
      simpa [resolve, hcal, invoke, builtin, hu, htt, Sem.run] using this
    · cases hk
  · rename_i hcal
    split at hk
    · rename_i s x t t' hx ht
      rw [hx] at hargs
      have hsz := hargs.1
      obtain ⟨u, us, hu⟩ := arr_two hsz
      have htt : c.argTypes = #[t, t'] := by rw [← Array.toArray_toList (xs := c.argTypes), ht]
      rw [hu] at hargs
      have h0 : Rep w B own ω nx s u := hargs.at (j := 0) rfl (by simp)
      have h1 : Rep w B own ω nx x us := hargs.at (j := 1) rfl (by simp)
      refine .inl ?_
      have := there (appendK_sound (ty := type) H h0 h1 hk)
      simpa [resolve, hcal, invoke, builtin, hu, htt, Sem.run] using this
    · cases hk
  · rename_i hcal
    split at hk
    · rename_i d x t ts hx ht
      rw [hx] at hargs
      have hsz := hargs.1
      obtain ⟨u, us, hu⟩ := arr_two hsz
      have htt : c.argTypes = (t :: ts).toArray := by rw [← ht]
      rw [hu] at hargs
      have h0 : Rep w B own ω nx d u := hargs.at (j := 0) rfl (by simp)
      have h1 : Rep w B own ω nx x us := hargs.at (j := 1) rfl (by simp)
      refine .inl ?_
      obtain ⟨y, w', v, h', r1, r2, r3, r4, r5⟩ := copyK_sound (ty := type) (ts := ts) H h0 h1 hk
      exact ⟨y, w', v, h', nx, own, ω, .inl (by simp [resolve, hcal, invoke, builtin, hu, htt, r1, Sem.run, Result.andThen]), r2, r3, r4, r5⟩
    · cases hk
  · rename_i hcal
    refine .inl ?_
    obtain ⟨u, r, hl, hr⟩ := minmaxK_sound (P := C.P) (us := (c.args.map e).toList) run_min2 (by have := hargs.1; simp [this]) (fun j a v ha hv => hargs.at ha (by simpa using hv)) hk
    have hq := here H (kv := kv) hr
    have em : Builtin.min_ c.argTypes type (c.args.map e) = r.foldlM Builtin.min2 u := by
      unfold Builtin.min_
      rw [hl]
    rw [← em] at hq
    simpa [resolve, hcal, invoke, builtin, Sem.run] using hq
  · rename_i hcal
    refine .inl ?_
    obtain ⟨u, r, hl, hr⟩ := minmaxK_sound (P := C.P) (us := (c.args.map e).toList) run_max2 (by have := hargs.1; simp [this]) (fun j a v ha hv => hargs.at ha (by simpa using hv)) hk
    have hq := here H (kv := kv) hr
    have em : Builtin.max_ c.argTypes type (c.args.map e) = r.foldlM Builtin.max2 u := by
      unfold Builtin.max_
      rw [hl]
    rw [← em] at hq
    simpa [resolve, hcal, invoke, builtin, Sem.run] using hq
  · cases hk

theorem assertK_sound {P : Program} {x : AV} {u : Value} {xt asserted : TypeId} {ok : Bool} {k : AV → Bool} (hx : Rep w B own ω nx x u) (hk : assertK P x asserted ok k false = true) : Reckons P w B own ω nx (Instr.typeAssert u xt asserted ok) k := by
  unfold assertK at hk
  split at hk
  · cases hk
  · rename_i d i hnot hu hi
    have fails : ∀ (zv : Value), i.zero = some zv → cond ok (k (.tup [ofV zv, .bool false])) false = true → ∀ u : Value, (u = .nilIface ∨ ∃ t v, u = .iface t v ∧ ¬ t = asserted) → Reckons P w B own ω nx (Instr.typeAssert u xt asserted ok) k := fun zv hz hk u hu' => by
      obtain ⟨rfl, hk⟩ := of_cond hk
      refine ⟨_, .tuple #[zv, .bool false], fun w' _ => ?_, .tup _ _ _ rfl (fun j hj => ?_), hk⟩
      · rcases hu' with rfl | ⟨t, v, rfl, hne⟩
        · cases d <;> first | exact absurd rfl (hnot _) | simp [Instr.typeAssert, run_underlying hu, zeroValue, typeInfo, hi, hz, Sem.run, Result.andThen]
        · cases d <;> first | exact absurd rfl (hnot _) | simp [Instr.typeAssert, run_underlying hu, zeroValue, typeInfo, hi, hz, hne, Sem.run, Result.andThen]
      · match j, hj with
        | 0, _ => exact rep_ofV _ _ _ _ _ _
        | 1, _ => exact .bool _ _
    split at hk
    · rename_i t v zv hz
      cases hx with
      | iface _ _ _ u hr =>
        rcases of_cond2 hk with ⟨h1, h2⟩ | ⟨h1, h2⟩
        · obtain rfl := of_beq h1
          cases ok with
          | true =>
            refine ⟨_, .tuple #[u, .bool true], fun w' _ => ?_, .tup _ _ _ rfl (fun j hj => ?_), h2⟩
            · cases d <;> first | exact absurd rfl (hnot _) | simp [Instr.typeAssert, run_underlying hu, Sem.run, Result.andThen]
            · match j, hj with
              | 0, _ => exact hr
              | 1, _ => exact .bool _ _
          | false =>
            refine ⟨_, u, fun w' _ => ?_, hr, h2⟩
            cases d <;> first | exact absurd rfl (hnot _) | simp [Instr.typeAssert, run_underlying hu, Sem.run, Result.andThen]
        · exact fails zv hz h2 _ (.inr ⟨t, u, rfl, fun e => by rw [(beq_iff _ _).2 e] at h1; cases h1⟩)
    · rename_i zv hz
      cases hx with
      | niliface => exact fails zv hz hk _ (.inl rfl)
    · cases hk
  · cases hk

theorem parts_rep {ρ : Operand → AV} {e : Operand → Value} (hρ : ∀ x, Rep w B own ω nx (ρ x) (e x)) (parts : Array (Nat × Operand)) :
    (parts.toList.map fun p => (p.1, ρ p.2)).length = (parts.map fun (i, x) => (i, e x)).size ∧
    ∀ (j : Nat) (p : Nat × AV) (q : Nat × Value), (parts.toList.map fun p => (p.1, ρ p.2))[j]? = some p → (parts.map fun (i, x) => (i, e x)).toList[j]? = some q → p.1 = q.1 ∧ Rep w B own ω nx p.2 q.2 := by
  refine ⟨by simp, fun j p q hp hq => ?_⟩
  simp only [List.getElem?_map, Array.getElem?_toList, Option.map_eq_some_iff] at hp
  obtain ⟨x, hx, rfl⟩ := hp
  simp only [Array.getElem?_toList, Array.getElem?_map, hx, Option.map_some, Option.some.injEq] at hq
  subst hq
  exact ⟨rfl, hρ _⟩

set_option maxHeartbeats 4000000 in
theorem aop_sound (C : Cfg) (H : Hp w B own ω nx h) {ρ : Operand → AV} {e : Operand → Value} (hρ : ∀ x, Rep w B own ω nx (ρ x) (e x)) {o : Oper} {kv : AV → Heap → Nat → Bool} {kc : Tgt → List AV → Bool} {kp : AV → Bool}
    (hk : aop C ρ h nx o.op kv kc kp false = true) : OpDoes C.P w B own ω nx kv kc kp ((execOp e o).run C.P w) := by
  have stay : ∀ {u : Value} {v : AV}, Rep w B own ω nx v u → kv v h nx = true → OpYields w B own ω nx kv (.ok (.value u) w) := fun hr hv => ⟨_, _, _, _, _, _, _, .inl rfl, hv, Ext.refl _ _ _ _, H, hr⟩
  obtain ⟨dst, op, type, pos, after, guard⟩ := o
  cases op <;> simp only [aop] at hk <;> try cases hk
  case move x => exact .inl (stay (hρ x) hk)
  case assign x => exact .inl (stay (hρ x) hk)
  case pick c a b =>
    split at hk
    · rename_i t ht
      have hc := hρ c
      rw [ht] at hc
      generalize hev : e c = ec at hc
      cases hc
      refine .inl ?_
      rcases of_cond2 hk with ⟨h1, h2⟩ | ⟨h1, h2⟩
      · have := stay (hρ a) h2
        simpa [execOp, hev, asBool, h1, Sem.run, Result.andThen] using this
      · have := stay (hρ b) h2
        simpa [execOp, hev, asBool, h1, Sem.run, Result.andThen] using this
    · cases hk
  case alloc t =>
    split at hk
    · rename_i cs hz
      exact .inl (there (P := C.P) (Makes.yields H (alloc_makes hz hk)))
    · cases hk
  case box t x =>
    split at hk
    · rename_i cs hz
      exact .inl (there (P := C.P) (Makes.yields H (box_makes (hρ x) hz hk)))
    · cases hk
  case build t parts =>
    obtain ⟨p1, p2⟩ := parts_rep hρ parts
    exact .inl (here H (build_sound p1 p2 hk))
  case buildSlice t len parts =>
    split at hk
    · rename_i el hu
      split at hk
      · rename_i i zs hi hz
        replace hk := of_cond hk; obtain ⟨hc, hk⟩ := hk
        obtain ⟨c1, c2⟩ := of_and hc
        obtain ⟨p1, p2⟩ := parts_rep hρ parts
        exact .inl (there (P := C.P) (Makes.yields H (buildSlice_makes hu hi hz c1 c2 p1 p2 hk)))
      · cases hk
    · cases hk
  case load t x =>
    have hx := hρ x
    split at hk
    · rename_i id off hxe
      rw [hxe] at hx
      generalize hev : e x = ex at hx
      split at hk
      · rename_i hb hid
        cases hx with
        | ptr _ _ _ b g1 g2 =>
          obtain ⟨v, u, r1, r2, r3⟩ := loadK_sound (H.lies hid g2) hk
          refine .inl (here H ⟨v, u, fun w' hw => ?_, r2, r3⟩)
          simp only [hev, Instr.loadAt, Instr.sureAddr, Sem.run_bind, Sem.run_pure, Result.andThen_ok]
          simpa using r1 w' hw
      · cases hk
    · rename_i cells off hxe
      rw [hxe] at hx
      generalize hev : e x = ex at hx
      cases hx with
      | iptr _ _ _ b o vs g1 g2 g3 =>
        obtain ⟨v, u, r1, r2, r3⟩ := loadK_sound (w := w) (B := B) (own := own) (ω := ω) (nx := nx) ⟨vs, g2, fun i hi => (g3 i hi).up (Nat.zero_le _)⟩ hk
        refine .inl (here H ⟨v, u, fun w' hw => ?_, r2, r3⟩)
        simp only [hev, Instr.loadAt, Instr.sureAddr, Sem.run_bind, Sem.run_pure, Result.andThen_ok]
        exact r1 w' hw
    · cases hk
  case store t x v =>
    split at hk
    · rename_i id off vs i hxe hcs hi
      split at hk
      · rename_i hb hid
        replace hk := of_cond hk; obtain ⟨hc, hk⟩ := hk
        obtain ⟨c1, c2⟩ := of_and hc
        obtain ⟨c2, c3⟩ := of_and c2
        obtain ⟨w', r1, E, H'⟩ := store_sound (P := C.P) (t := t) H (by rw [← hxe]; exact hρ x) (hρ v) hcs hi hid c1 (of_beq c2) (of_ble c3) hk
        refine .inl ⟨undef, w', .tup [], _, nx, own, ω, .inr ⟨?_, rfl⟩, hk, E, H', .tup _ _ _ rfl (fun i hi => absurd hi (Nat.not_lt_zero _))⟩
        simp [execOp, r1, Sem.run, Result.andThen]
      · cases hk
    · cases hk
  case nilCheck x =>
    have hx := hρ x
    split at hk
    · rename_i id off hxe
      rw [hxe] at hx
      generalize hev : e x = ex at hx
      cases hx with
      | ptr _ _ _ b g1 g2 => exact .inl (by simpa [execOp, hev, Sem.run] using stay (.ptr _ _ _ b g1 g2) hk)
    · rename_i cells off hxe
      rw [hxe] at hx
      generalize hev : e x = ex at hx
      cases hx with
      | iptr _ _ _ b o vs g1 g2 g3 => exact .inl (by simpa [execOp, hev, Sem.run] using stay (.iptr _ _ _ b o vs g1 g2 g3) hk)
    · rename_i g fs cs hxe
      rw [hxe] at hx
      generalize hev : e x = ex at hx
      cases hx with
      | fn _ _ _ _ as bs h1 h2 h3 h4 => exact .inl (by simpa [execOp, hev, Sem.run] using stay (.fn _ _ _ _ _ _ h1 h2 h3 h4) hk)
    · cases hk
  case binOp op t x y yt => exact .inl (here H (binK_sound (hρ x) (hρ y) hk))
  case unOp op t x => exact .inl (here H (unK_sound (hρ x) hk))
  case convert src dst x => exact .inl (here H (convK_sound (hρ x) hk))
  case makeInterface t x =>
    split at hk
    · cases hk
    · rename_i d hnot hu
      refine .inl (here H ⟨_, _, fun w' _ => ?_, .iface _ t _ _ (hρ x), hk⟩)
      cases d <;> first | exact absurd rfl (hnot _) | simp [Instr.makeInterface, run_underlying hu, Sem.run, Result.andThen]
    · cases hk
  case makeFunc fn first cap =>
    have h1 := repL_map hρ first
    have h2 := repL_map hρ cap
    exact .inl (here H ⟨_, _, fun _ _ => by simp [Instr.makeFunc, Sem.run], .fn _ _ _ _ _ _ h1.1 h2.1 h1.2 h2.2, hk⟩)
  case makeSlice t l c => exact .inl (there (P := C.P) (Makes.yields H (makeSlice_makes (hρ l) (hρ c) hk)))
  case slice t x lo hi mx =>
    have bnd : ∀ o : Option Operand, BoundIs w B own ω nx (o.map ρ) (o.map e) := fun o => by
      cases o with
      | none => trivial
      | some x => exact hρ x
    exact .inl (here H (sliceK_sound (hρ x) (bnd lo) (bnd hi) (bnd mx) hk))
  case fieldAddr s x f => exact .inl (here H (fieldAddrK_sound (hρ x) hk))
  case field t x f => exact .inl (here H (fieldK_sound (hρ x) hk))
  case indexAddr t x i => exact .inl (here H (indexAddrK_sound (hρ x) (hρ i) hk))
  case index t x i => exact .inl (here H (indexK_sound (hρ x) (hρ i) hk))
  case extract x i =>
    split at hk
    · rename_i vs hxe
      have hx := hρ x
      rw [hxe] at hx
      generalize hev : e x = ex at hx
      split at hk
      · rename_i v hv
        cases hx with
        | tup _ _ us h1 h2 =>
          obtain ⟨hi, e1⟩ := List.getElem?_eq_some_iff.1 hv
          have hi' : i < us.size := by omega
          have := h2 i hi
          rw [e1, getD_lt hi'] at this
          refine .inl (here H ⟨v, us[i], fun w' _ => ?_, this, hk⟩)
          simp [hev, Instr.extract, hi', Sem.run]
      · cases hk
    · cases hk
  case call c => exact callK_sound C H hρ hk
  case typeAssert x xt asserted ok => exact .inl (here H (assertK_sound (hρ x) hk))
  case panic x =>
    have hx := hρ x
    split at hk
    · rename_i t v hxe
      rw [hxe] at hx
      generalize hev : e x = ex at hx
      cases hx with
      | iface _ _ _ u' hr' =>
        refine .inr (.inr ⟨_, .iface t u', ?_, hk, .iface _ _ _ _ hr'⟩)
        simp [execOp, hev, Instr.panic, goPanic, Sem.run, Result.andThen]
    · cases hk

end
end Go.Bas
