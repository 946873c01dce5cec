/- The engine, part D: operations that yield values of numbers, addresses and parts. -/
import Derived.Test.YtehfcbppcfpjoaaGreatDoorBasNC
namespace Go.Bas
open Go.RowKit
set_option linter.unusedSimpArgs false
set_option linter.unusedVariables false

section
variable {w : World} {B : Nat → Prop} {own : Nat → Prop} {ω : Nat → Option Nat} {nx : Nat} {P : Program}

/-- A piece of the model's that only reckons: its value is what 'v' stands for. -/
def Reckons (P : Program) (w : World) (B : Nat → Prop) (own : Nat → Prop) (ω : Nat → Option Nat) (nx : Nat) (s : Sem Value) (k : AV → Bool) : Prop :=
  ∃ v u, (∀ w', Same w w' → s.run P w' = .ok u w') ∧ Rep w B own ω nx v u ∧ k v = true

theorem ibinK_sound {op : BinOp} {t : TypeId} {kd kd' : IntKind} {a b : Int} {k : AV → Bool} (h : ibinK op kd kd' a b k false = true) :
    Reckons P w B own ω nx (binOp op t (.int kd a) (.int kd' b)) k := by
  cases op <;> simp only [ibinK] at h
  case shl => obtain ⟨h1, h2⟩ := of_condn h; exact ⟨_, _, fun w _ => by simp at h1; simp [binOp, Op.shift, show ¬ b < 0 by omega, ishl, Sem.run], .int _ _ _, h2⟩
  case shr => obtain ⟨h1, h2⟩ := of_condn h; exact ⟨_, _, fun w _ => by simp at h1; simp [binOp, Op.shift, show ¬ b < 0 by omega, ishr, Sem.run], .int _ _ _, h2⟩
  all_goals (obtain ⟨h1, h2⟩ := of_cond h; have h1 := kindEq_eq h1; subst h1)
  case quo => obtain ⟨h3, h4⟩ := of_condn h2; exact ⟨_, _, fun w _ => by simp at h3; simp [binOp, Op.intDiv, h3, Sem.run], .int _ _ _, h4⟩
  case rem => obtain ⟨h3, h4⟩ := of_condn h2; exact ⟨_, _, fun w _ => by simp at h3; simp [binOp, Op.intDiv, h3, Sem.run], .int _ _ _, h4⟩
  case add => exact ⟨_, _, fun w _ => by simp [binOp, Op.intArith, Sem.run], .int _ _ _, h2⟩
  case sub => exact ⟨_, _, fun w _ => by simp [binOp, Op.intArith, Sem.run], .int _ _ _, h2⟩
  case mul => exact ⟨_, _, fun w _ => by simp [binOp, Op.intArith, Sem.run], .int _ _ _, h2⟩
  case and => exact ⟨_, _, fun w _ => by simp [binOp, Op.intBits, iand, held_eq, Sem.run], .int _ _ _, h2⟩
  case or => exact ⟨_, _, fun w _ => by simp [binOp, Op.intBits, ior, held_eq, Sem.run], .int _ _ _, h2⟩
  case xor => exact ⟨_, _, fun w _ => by simp [binOp, Op.intBits, ixor, held_eq, Sem.run], .int _ _ _, h2⟩
  case andNot => exact ⟨_, _, fun w _ => by simp [binOp, Op.intBits, iandNot, held_eq, Sem.run], .int _ _ _, h2⟩
  case eql => exact ⟨_, _, fun w _ => by simp [binOp, Op.intCmp, Sem.run], .bool _ _, h2⟩
  case neq => exact ⟨_, _, fun w _ => by simp [binOp, Op.intCmp, Sem.run], .bool _ _, h2⟩
  case lss => exact ⟨_, _, fun w _ => by simp [binOp, Op.intCmp, Sem.run], .bool _ _, h2⟩
  case leq => exact ⟨_, _, fun w _ => by simp [binOp, Op.intCmp, Sem.run], .bool _ _, h2⟩
  case gtr => exact ⟨_, _, fun w _ => by simp [binOp, Op.intCmp, Sem.run], .bool _ _, h2⟩
  case geq => exact ⟨_, _, fun w _ => by simp [binOp, Op.intCmp, Sem.run], .bool _ _, h2⟩

theorem unK_sound {op : UnOp} {x : AV} {u : Value} {k : AV → Bool} (hx : Rep w B own ω nx x u) (h : unK op x k false = true) : Reckons P w B own ω nx (Op.unary op u) k := by
  unfold unK at h
  split at h
  · cases hx; exact ⟨_, _, fun w _ => by simp [Op.unary, Sem.run], .bool _ _, h⟩
  · cases hx; exact ⟨_, _, fun w _ => by simp [Op.unary, Op.intArith, Sem.run], .int _ _ _, h⟩
  · cases hx; exact ⟨_, _, fun w _ => by simp [Op.unary, Op.intBits, ixor, held_eq, Sem.run], .int _ _ _, h⟩
  · cases h

theorem convK_sound {src dst : TypeId} {x : AV} {u : Value} {k : AV → Bool} (hx : Rep w B own ω nx x u) (h : convK P src dst x k false = true) : Reckons P w B own ω nx (convert src dst u) k := by
  unfold convK at h
  split at h
  · split at h
    · rename_i hs hd
      cases hx
      exact ⟨_, _, fun w _ => by simp [convert, run_underlying hs, run_underlying hd, Conv.intToInt, Sem.run], .int _ _ _, h⟩
    · cases h
  · cases h

theorem fieldAddrK_sound {s : TypeId} {x : AV} {u : Value} {f : Nat} {k : AV → Bool} (hx : Rep w B own ω nx x u) (h : fieldAddrK P s x f k false = true) : Reckons P w B own ω nx (Instr.fieldAt s u f) k := by
  unfold fieldAddrK fieldOff at h
  split at h
  · rename_i o t' heq
    split at heq
    · rename_i fs hfs
      split at heq
      · rename_i fl hfl
        split at heq
        · rename_i i hi
          have hne : ¬ i.size = 0 := fun e => by rw [e] at heq; simp [(beq_iff 0 0).2 rfl] at heq
          have : Nat.beq i.size 0 = false := by
            cases hb : Nat.beq i.size 0 with
            | false => rfl
            | true => exact absurd (of_beq hb) hne
          rw [this] at heq
          simp only [cond_false, Option.some.injEq, Prod.mk.injEq] at heq
          obtain ⟨rfl, rfl⟩ := heq
          have run : ∀ b o' (w : World), (Instr.fieldAt s (.pointer (some ⟨b, o', none⟩)) f).run P w = .ok (.pointer (some ⟨b, o' + fl.offset, none⟩)) w := fun b o' w => by
            simp [Instr.fieldAt, run_underlying hfs, hfl, Instr.sureAddr, fieldPlace, sizeOf, typeInfo, hi, hne, addr_add, Sem.run, Result.andThen]
          split at h
          · cases hx with
            | ptr _ _ _ b h1 h2 => exact ⟨_, _, fun w _ => run _ _ w, .ptr _ _ _ _ h1 h2, h⟩
          · cases hx with
            | iptr _ _ _ b o' vs h1 h2 h3 => exact ⟨_, _, fun w _ => run _ _ w, by rw [Nat.add_assoc]; exact .iptr _ _ _ b o' vs h1 h2 h3, h⟩
          · cases h
        · cases heq
      · cases heq
    · cases heq
  · cases h

theorem partK_sound {t : TypeId} {cs : List AV} {vs : Array Value} {off : Nat} {k : AV → Bool} (hlen : cs.length = vs.size) (hx : ∀ i (h : i < cs.length), Rep w B own ω nx cs[i] (vs.getD i undef)) (h : partK P t cs off k false = true) :
    Reckons P w B own ω nx (part t vs off) k := by
  unfold partK at h
  split at h
  · rename_i i d hi hd
    have hu := fun w => run_underlying hd w
    rcases of_cond2 h with ⟨ha, h⟩ | ⟨ha, h⟩
    · obtain ⟨hb, h⟩ := of_cond h
      have hb := of_ble hb
      have hag : ∀ w, (isAgg t).run P w = .ok true w := fun w => by
        unfold isAgg
        cases d <;> simp [aggD] at ha <;> simp [hu]
      refine ⟨_, .agg (vs.extract off (off + i.size)), fun w _ => ?_, ?_, h⟩
      · simp [part, hag, sizeOf, typeInfo, hi, Sem.run, Result.andThen]
      · refine .agg _ _ _ (by simp; omega) (fun j hj => ?_)
        simp only [List.length_take, List.length_drop] at hj
        have hj' : off + j < cs.length := by omega
        have e1 : ((cs.drop off).take i.size)[j]'(by simp; omega) = cs[off + j] := by simp
        have e2 : (vs.extract off (off + i.size)).getD j undef = vs.getD (off + j) undef := by
          simp only [Array.getD_eq_getD_getElem?, Array.getElem?_extract]
          rw [if_pos (by omega)]
        rw [e1, e2]
        exact hx _ hj'
    · have hag : ∀ w, (isAgg t).run P w = .ok false w := fun w => by
        unfold isAgg
        cases d <;> simp [aggD] at ha <;> simp [hu]
      split at h
      · rename_i v hv
        obtain ⟨hlt, e⟩ := List.getElem?_eq_some_iff.1 hv
        have hlt' : off < vs.size := by omega
        refine ⟨v, vs[off], fun w _ => ?_, ?_, h⟩
        · simp [part, hag, hlt', Sem.run, Result.andThen]
        · have := hx off hlt
          rw [e] at this
          simpa [hlt'] using this
      · cases h
  · cases h

theorem fieldK_sound {t : TypeId} {x : AV} {u : Value} {f : Nat} {k : AV → Bool} (hx : Rep w B own ω nx x u) (h : fieldK P t x f k false = true) : Reckons P w B own ω nx (Instr.field t u f) k := by
  unfold fieldK at h
  split at h
  · rename_i fs cs hfs
    split at h
    · rename_i fl hfl
      cases hx with
      | agg _ _ vs h1 h2 =>
        obtain ⟨v, u, hr, hrep, hk⟩ := partK_sound h1 h2 h
        exact ⟨v, u, fun w' hw => by simp [Instr.field, run_underlying hfs, hfl, asAgg, hr w' hw, Sem.run, Result.andThen], hrep, hk⟩
    · cases h
  · cases h

theorem inside_iff {n : Int} {len : Nat} (h : inside n len = true) : 0 ≤ n ∧ n < (len : Int) := by simpa [inside] using h

theorem elemSize_some {e : TypeId} {sz : Nat} (h : elemSize P e = some sz) : ∃ i, P.info? e = some i ∧ i.size = sz := by
  simpa [elemSize, Option.map_eq_some_iff] using h

theorem indexAddrK_sound {t : TypeId} {x i : AV} {u ui : Value} {k : AV → Bool} (hx : Rep w B own ω nx x u) (hi : Rep w B own ω nx i ui) (h : indexAddrK P t x i k false = true) : Reckons P w B own ω nx (Instr.indexAt t u ui) k := by
  unfold indexAddrK at h
  split at h
  · rename_i kd n
    cases hi
    split at h
    · rename_i e he
      split at h
      · rename_i sz hsz
        obtain ⟨inf, hinf, rfl⟩ := elemSize_some hsz
        split at h
        · rename_i cells len
          obtain ⟨h1, h2⟩ := of_cond h
          obtain ⟨h1, h3⟩ := of_and h1
          have hin := inside_iff h1
          have h3 := of_beq h3
          cases hx with
          | lst _ _ _ cap b o vs g1 g3 g4 g5 =>
            refine ⟨_, .pointer (some ⟨b, o + n.toNat * inf.size, none⟩), fun w _ => ?_, .iptr _ _ _ b o vs g1 g4 g5, h2⟩
            simp [Instr.indexAt, run_underlying he, asIntOf, hin, sizeOf, typeInfo, hinf, addr_add, Sem.run, Result.andThen]
          | lstn _ _ _ => have h0 := hin.2; simp at h0; omega
        · rename_i id off len s app
          obtain ⟨h1, h2⟩ := of_cond h
          have hin := inside_iff h1
          cases hx with
          | sl _ _ _ _ _ cap b g1 g2 g3 =>
            refine ⟨_, .pointer (some ⟨b, off + n.toNat * inf.size, none⟩), fun w _ => ?_, .ptr _ _ _ b g1 g2, h2⟩
            simp [Instr.indexAt, run_underlying he, asIntOf, hin, sizeOf, typeInfo, hinf, addr_add, Sem.run, Result.andThen]
          | sla _ _ _ _ cap b g1 g2 g3 g4 g5 =>
            refine ⟨_, .pointer (some ⟨b, 0 + n.toNat * inf.size, none⟩), fun w _ => ?_, .ptr _ _ _ b g1 g2, h2⟩
            simp [Instr.indexAt, run_underlying he, asIntOf, hin, sizeOf, typeInfo, hinf, addr_add, Sem.run, Result.andThen]
        · cases h
      · cases h
    · rename_i len e he
      split at h
      · rename_i sz hsz
        obtain ⟨inf, hinf, rfl⟩ := elemSize_some hsz
        split at h
        · rename_i cells off
          obtain ⟨h1, h2⟩ := of_cond h
          have hin := inside_iff h1
          cases hx with
          | iptr _ _ _ b o vs g1 g2 g3 =>
            refine ⟨_, .pointer (some ⟨b, o + (off + n.toNat * inf.size), none⟩), fun w _ => ?_, .iptr _ _ _ b o vs g1 g2 g3, h2⟩
            simp [Instr.indexAt, run_underlying he, asIntOf, hin, sizeOf, typeInfo, hinf, addr_add, Instr.sureAddr, Sem.run, Result.andThen, Nat.add_assoc]
        · obtain ⟨h1, h2⟩ := of_cond h
          have hin := inside_iff h1
          cases hx with
          | ptr _ _ _ b g1 g2 =>
            refine ⟨_, _, fun w _ => ?_, .ptr _ _ _ b g1 g2, h2⟩
            simp [Instr.indexAt, run_underlying he, asIntOf, hin, sizeOf, typeInfo, hinf, addr_add, Instr.sureAddr, Sem.run, Result.andThen]
        · cases h
      · cases h
    · cases h
  · cases h

theorem indexK_sound {t : TypeId} {x i : AV} {u ui : Value} {k : AV → Bool} (hx : Rep w B own ω nx x u) (hi : Rep w B own ω nx i ui) (h : indexK P t x i k false = true) : Reckons P w B own ω nx (Instr.index t u ui) k := by
  unfold indexK at h
  split at h
  · rename_i kd n cs
    cases hi
    split at h
    · rename_i len e he
      split at h
      · rename_i sz hsz
        obtain ⟨inf, hinf, rfl⟩ := elemSize_some hsz
        obtain ⟨h1, h2⟩ := of_cond h
        have hin := inside_iff h1
        cases hx with
        | agg _ _ vs g1 g2 =>
          obtain ⟨v, u, hr, hrep, hk⟩ := partK_sound g1 g2 h2
          exact ⟨v, u, fun w' hw => by simp [Instr.index, run_underlying he, asIntOf, hin, sizeOf, typeInfo, hinf, hr w' hw, Sem.run, Result.andThen], hrep, hk⟩
      · cases h
    · cases h
  · rename_i kd n s
    cases hi
    cases hx
    split at h
    · rename_i he
      obtain ⟨h1, h2⟩ := of_cond h
      have hn : 0 ≤ n := of_decide_eq_true h1
      split at h2
      · rename_i b hb
        exact ⟨_, _, fun w' hw => by simp [Instr.index, run_underlying he, asIntOf, hn, hb, Sem.run, Result.andThen], .int _ _ _, h2⟩
      · cases h2
    · cases h
  · cases h

theorem okBounds_iff {l h : Int} {len : Nat} (hh : okBounds l h len = true) : 0 ≤ l ∧ l ≤ h ∧ h ≤ (len : Int) := by simpa [okBounds] using hh

theorem lst_take {cells : List AV} {cap b o d m : Nat} {vs : Nat → Value} (g1 : cells ≠ [] → b < w.heap.size ∧ ¬ own b ∧ ¬ B b) (hm : m ≤ cap)
    (g4 : ∀ i, i < cells.length → w.cell? ⟨b, o + i, none⟩ = some (vs i)) (g5 : ∀ i (h : i < cells.length), Rep w B own ω 0 cells[i] (vs i)) (c : Nat) :
    Rep w B own ω nx (.lst ((cells.drop d).take c) m) (.slice (some ⟨b, o + d, none⟩) m cap) := by
  refine .lst _ _ _ _ b (o + d) (fun i => vs (d + i)) (fun hne => g1 (fun e => by subst e; simp at hne)) hm (fun i hi => ?_) (fun i hi => ?_)
  · simp only [List.length_take, List.length_drop] at hi
    rw [Nat.add_assoc]
    exact g4 _ (by omega)
  · simp only [List.length_take, List.length_drop] at hi
    simp only [List.getElem_take, List.getElem_drop]
    exact g5 _ (by omega)

theorem lst_nil (a : Addr) (cap : Nat) (hs : a.spot = none) : Rep w B own ω nx (.lst [] 0) (.slice (some a) 0 cap) := by
  exact .lstn _ _ _

/-- An operand's bound. -/
def BoundIs (w : World) (B : Nat → Prop) (own : Nat → Prop) (ω : Nat → Option Nat) (nx : Nat) : Option AV → Option Value → Prop
  | none, none => True
  | some a, some v => Rep w B own ω nx a v
  | _, _ => False
theorem bound_int {oa : Option AV} {ov : Option Value} {d : Nat} {l : Int} (hb : BoundIs w B own ω nx oa ov) (h : boundOf oa d = some l) : (ov = none ∧ l = d) ∨ ∃ kd, ov = some (.int kd l) := by
  cases oa with
  | none => cases ov with
    | none => simp only [boundOf, Option.some.injEq] at h; exact .inl ⟨rfl, h.symm⟩
    | some v => exact hb.elim
  | some a => cases ov with
    | none => exact hb.elim
    | some v =>
      simp only [BoundIs] at hb
      cases hb <;> simp only [boundOf] at h <;> try cases h
      exact .inr ⟨_, rfl⟩
theorem bound_none {ov : Option Value} (hb : BoundIs w B own ω nx none ov) : ov = none := by
  cases ov with
  | none => rfl
  | some v => exact hb.elim
theorem bound_some {kd : IntKind} {m : Int} {ov : Option Value} (hb : BoundIs w B own ω nx (some (.int kd m)) ov) : ov = some (.int kd m) := by
  cases ov with
  | none => exact hb.elim
  | some v => cases hb; rfl

/-- The bounds of a slice expression. -/
theorem run_bounds {isS : Bool} {len cap : Nat} {olo ohi : Option Value} {l h : Int} (hlo : (olo = none ∧ l = (0 : Nat)) ∨ ∃ kd, olo = some (.int kd l)) (hhi : (ohi = none ∧ h = len) ∨ ∃ kd, ohi = some (.int kd h))
    (h1 : 0 ≤ l) (h2 : l ≤ h) (h3 : h ≤ cap) : (Instr.sliceBounds isS len cap olo ohi none).run P w = .ok (l.toNat, h.toNat, cap) w := by
  rcases hlo with ⟨rfl, rfl⟩ | ⟨kd, rfl⟩ <;> rcases hhi with ⟨rfl, rfl⟩ | ⟨kd', rfl⟩
  · simp [Instr.sliceBounds, Sem.run, Result.andThen]
  · simp [Instr.sliceBounds, Instr.sliceBound, asIntOf, show 0 ≤ h ∧ h ≤ (cap : Int) from ⟨by omega, h3⟩, Sem.run, Result.andThen]
  · simp [Instr.sliceBounds, Instr.sliceBound, asIntOf, h1, h2, Sem.run, Result.andThen]
  · simp [Instr.sliceBounds, Instr.sliceBound, asIntOf, show 0 ≤ h ∧ h ≤ (cap : Int) from ⟨by omega, h3⟩, h1, show l ≤ max h 0 by omega, Sem.run, Result.andThen]
theorem run_bounds3 {len cap : Nat} {olo ohi : Option Value} {h m : Int} {km : IntKind} (hlo : (olo = none ∧ (0 : Int) = (0 : Nat)) ∨ ∃ kd, olo = some (.int kd 0)) (hhi : ∃ kd, ohi = some (.int kd h))
    (h2 : 0 ≤ h) (h3 : h ≤ m) (h4 : m ≤ cap) : (Instr.sliceBounds true len cap olo ohi (some (.int km m))).run P w = .ok (0, h.toNat, m.toNat) w := by
  obtain ⟨kd', rfl⟩ := hhi
  rcases hlo with ⟨rfl, _⟩ | ⟨kd, rfl⟩
  · simp [Instr.sliceBounds, Instr.sliceBound, asIntOf, show 0 ≤ m ∧ m ≤ (cap : Int) from ⟨by omega, h4⟩, show 0 ≤ h ∧ h ≤ max m 0 from ⟨h2, by omega⟩, Sem.run, Result.andThen]
  · simp [Instr.sliceBounds, Instr.sliceBound, asIntOf, show 0 ≤ m ∧ m ≤ (cap : Int) from ⟨by omega, h4⟩, show 0 ≤ h ∧ h ≤ max m 0 from ⟨h2, by omega⟩, Sem.run, Result.andThen]

/-- The slice expression on a slice. -/
theorem run_slice {t e : TypeId} {inf : TypeInfo} (he : P.underlying t = some (.slice e)) (hinf : P.info? e = some inf) {a : Option Addr} {len cap : Nat} {vlo vhi vmx : Option Value} {l h m : Nat}
    (rb : (Instr.sliceBounds true len cap vlo vhi vmx).run P w = .ok (l, h, m) w) :
    (Instr.sliceAt t (.slice a len cap) vlo vhi vmx).run P w = .ok (.slice (if m = l then a else a.map (·.add (l * inf.size))) (h - l) (m - l)) w := by
  simp [Instr.sliceAt, Instr.slice, run_underlying he, rb, sizeOf, typeInfo, hinf, Sem.run, Result.andThen]
theorem run_sliceArr {t e : TypeId} {n : Nat} {inf : TypeInfo} (he : P.underlying t = some (.array n e)) (hinf : P.info? e = some inf) {a : Addr} {vlo vhi : Option Value} {l h m : Nat}
    (rb : (Instr.sliceBounds false n n vlo vhi none).run P w = .ok (l, h, m) w) :
    (Instr.sliceAt t (.pointer (some a)) vlo vhi none).run P w = .ok (.slice (some (if m = l then a else a.add (l * inf.size))) (h - l) (m - l)) w := by
  simp [Instr.sliceAt, run_underlying he, Instr.sureAddr, rb, sizeOf, typeInfo, hinf, Sem.run, Result.andThen]

theorem slice_es {w' : World} {t e : TypeId} {inf : TypeInfo} (he : P.underlying t = some (.slice e)) (hinf : P.info? e = some inf) {a : Option Addr} {len cap d : Nat} {lo hi : Option AV} {vlo vhi : Option Value} {km : IntKind} (hlo : BoundIs w B own ω nx lo vlo) (hhi : BoundIs w B own ω nx hi vhi)
    (e1 : boundOf lo 0 = some 0) (e2 : boundOf hi d = some 0) (c0 : hi.isSome = true) : (Instr.sliceAt t (.slice a len cap) vlo vhi (some (.int km 0))).run P w' = .ok (.slice a 0 0) w' := by
  have p1 := bound_int hlo e1
  have p2 : ∃ kd, vhi = some (.int kd 0) := by
    rcases bound_int hhi e2 with ⟨h, _⟩ | h
    · subst h
      cases hi with
      | none => cases c0
      | some a => exact hhi.elim
    · exact h
  have rb := run_slice (w := w') he hinf (a := a) (len := len) (run_bounds3 (P := P) (w := w') (len := len) (cap := cap) (km := km) (h := 0) (m := 0) p1 p2 (Int.le_refl _) (Int.le_refl _) (by omega))
  simpa using rb

theorem sliceK_sound {t : TypeId} {x : AV} {u : Value} {lo hi mx : Option AV} {vlo vhi vmx : Option Value} {k : AV → Bool} (hx : Rep w B own ω nx x u)
    (hlo : BoundIs w B own ω nx lo vlo) (hhi : BoundIs w B own ω nx hi vhi) (hmx : BoundIs w B own ω nx mx vmx) (hk : sliceK P t x lo hi mx k false = true) : Reckons P w B own ω nx (Instr.sliceAt t u vlo vhi vmx) k := by
  unfold sliceK at hk
  split at hk
  · rename_i e he
    split at hk
    · rename_i sz hsz
      obtain ⟨inf, hinf, rfl⟩ := elemSize_some hsz
      split at hk
      · -- a slice that nobody writes
        rename_i cells len
        split at hk
        · rename_i l hh e1 e2
          replace hk := of_cond hk; obtain ⟨hok, hk⟩ := hk
          replace hok := of_and hok; obtain ⟨hok, hln⟩ := hok
          obtain ⟨b1, b2, b3⟩ := okBounds_iff hok
          replace hln := of_beq hln
          obtain rfl := bound_none hmx
          have p1 := bound_int hlo e1
          have p2 := bound_int hhi e2
          cases hx with
          | lst _ _ _ cap b o vs g1 g3 g4 g5 =>
            have rb := fun w => run_slice (w := w) he hinf (a := some ⟨b, o, none⟩) (run_bounds (P := P) (w := w) (isS := true) (cap := cap) p1 p2 b1 b2 (by omega))
            refine ⟨_, _, fun w _ => rb w, ?_, hk⟩
            by_cases hz : cap = l.toNat
            · have h0 : hh.toNat - l.toNat = 0 := by omega
              rw [h0, if_pos hz]; simp only [Nat.zero_mul, List.take_zero]
              exact lst_nil _ _ rfl
            · rw [if_neg hz]
              simp only [Option.map_some, addr_add]
              exact lst_take g1 (by omega) g4 g5 _
          | lstn _ a c =>
            have rb := fun w => run_slice (w := w) he hinf (a := a) (run_bounds (P := P) (w := w) (isS := true) (len := 0) (cap := c) p1 p2 b1 b2 (by omega))
            refine ⟨_, _, fun w _ => rb w, ?_, hk⟩
            have h0 : l.toNat = 0 := by omega
            have h1 : hh.toNat = 0 := by omega
            simp only [h0, h1, Nat.sub_self, Nat.zero_mul, List.take_zero]
            exact .lstn _ _ _
        · rename_i l hh km m e1 e2
          replace hk := of_cond hk; obtain ⟨hc, hk⟩ := hk
          replace hc := of_and hc; obtain ⟨c0, c1⟩ := hc
          replace c1 := of_and c1; obtain ⟨c1, c2⟩ := c1
          replace c2 := of_and c2; obtain ⟨c2, c3⟩ := c2
          replace c1 : l = 0 := by simpa using c1
          replace c2 : hh = 0 := by simpa using c2
          replace c3 : m = 0 := by simpa using c3
          subst c1 c2 c3
          obtain rfl := bound_some hmx
          cases hx <;> exact ⟨_, _, fun w' _ => slice_es (w := w) (w' := w') he hinf hlo hhi e1 e2 c0, .es _ _, hk⟩
        · cases hk
      · -- an own slice
        rename_i id off len s app
        split at hk
        · rename_i l hh e1 e2
          replace hk := of_cond hk; obtain ⟨hok, hk⟩ := hk
          replace hok := of_and hok; obtain ⟨hok, hs⟩ := hok
          obtain ⟨b1, b2, b3⟩ := okBounds_iff hok
          replace hs := of_beq hs
          subst hs
          have p1 := bound_int hlo e1
          have p2 := bound_int hhi e2
          split at hk
          · -- no third bound
            obtain rfl := bound_none hmx
            have rb : ∀ (a : Option Addr) (cap : Nat), len ≤ cap → ∀ w : World, _ := fun a cap hc w => run_slice (w := w) he hinf (a := a) (run_bounds (P := P) (w := w) (isS := true) (len := len) (cap := cap) p1 p2 b1 b2 (by omega))
            replace hk := of_cond2 hk; rcases hk with ⟨hl, hk⟩ | ⟨hl, hk⟩
            · replace hl : l = 0 := by simpa using hl
              subst hl
              have az : ∀ (a : Addr) (c : Nat), (if c = Int.toNat 0 then some a else (some a).map (·.add (Int.toNat 0 * inf.size))) = some a := fun a c => by simp [Addr.add]
              cases hx with
              | sl _ _ _ _ _ cap b g1 g2 g3 =>
                refine ⟨_, _, fun w _ => rb _ cap g3 w, ?_, hk⟩
                rw [az]; exact .sl _ _ _ _ _ _ _ g1 g2 (by simp; omega)
              | sla _ _ _ _ cap b g1 g2 g3 g4 g5 =>
                refine ⟨_, _, fun w _ => rb _ cap g3 w, ?_, hk⟩
                rw [az]; exact .sla _ _ _ _ _ _ g1 g2 (by simp; omega) (by simpa using g4) (by simpa using g5)
            · replace hl : ¬ l = 0 := by simpa using hl
              replace hk := of_cond2 hk; rcases hk with ⟨hq, hk⟩ | ⟨hq, hk⟩
              · replace hq : l = hh := by simpa using hq
                subst hq
                have sub0 : l.toNat - l.toNat = 0 := Nat.sub_self _
                have az : ∀ (b off' c : Nat), ∃ a : Addr, a.spot = none ∧ (if c = l.toNat then some (⟨b, off', none⟩ : Addr) else (some (⟨b, off', none⟩ : Addr)).map (·.add (l.toNat * inf.size))) = some a := fun b off' c => by
                  split
                  · exact ⟨_, rfl, rfl⟩
                  · exact ⟨⟨b, off' + l.toNat * inf.size, none⟩, rfl, by simp [addr_add]⟩
                cases hx with
                | sl _ _ _ _ _ cap b g1 g2 g3 =>
                  obtain ⟨a, ha, hE⟩ := az b off cap
                  exact ⟨_, _, fun w _ => rb _ cap g3 w, by rw [hE, sub0]; exact lst_nil _ _ ha, hk⟩
                | sla _ _ _ _ cap b g1 g2 g3 g4 g5 =>
                  obtain ⟨a, ha, hE⟩ := az b 0 cap
                  exact ⟨_, _, fun w _ => rb _ cap g3 w, by rw [hE, sub0]; exact lst_nil _ _ ha, hk⟩
              · replace hq : ¬ l = hh := by simpa using hq
                cases hx with
                | sl _ _ _ _ _ cap b g1 g2 g3 =>
                  refine ⟨_, _, fun w _ => rb _ cap g3 w, ?_, hk⟩
                  rw [if_neg (by omega)]
                  simp only [Option.map_some, addr_add]
                  exact .sl _ _ _ _ _ _ _ g1 g2 (by omega)
                | sla _ _ _ _ cap b g1 g2 g3 g4 g5 =>
                  refine ⟨_, _, fun w _ => rb _ cap g3 w, ?_, hk⟩
                  rw [if_neg (by omega)]
                  simp only [Option.map_some, addr_add]
                  exact .sl _ _ _ _ _ _ _ g1 g2 (by omega)
          · -- three bounds
            rename_i km m
            obtain rfl := bound_some hmx
            replace hk := of_cond hk; obtain ⟨hc, hk⟩ := hk
            replace hc := of_and hc; obtain ⟨c0, c1⟩ := hc
            replace c1 := of_and c1; obtain ⟨c1, c4⟩ := c1
            replace c4 := of_and c4; obtain ⟨c4, c2⟩ := c4
            replace c2 := of_and c2; obtain ⟨c2, c3⟩ := c2
            replace c4 : 0 < m := by simpa using c4
            replace c1 : l = 0 := by simpa using c1
            replace c2 : hh ≤ m := by simpa using c2
            replace c3 : m ≤ (len : Int) := by simpa using c3
            subst c1
            rcases p2 with ⟨rfl, rfl⟩ | ⟨kd2, rfl⟩
            · cases hi with
              | none => cases c0
              | some a => exact hhi.elim
            · have rb : ∀ (a : Option Addr) (cap : Nat), len ≤ cap → ∀ w : World, _ := fun a cap hc w => run_slice (w := w) he hinf (a := a) (len := len) (run_bounds3 (P := P) (w := w) (len := len) (cap := cap) (km := km) p1 ⟨kd2, rfl⟩ b2 c2 (by omega))
              have az : ∀ (a : Addr) (c : Nat), (if c = 0 then some a else (some a).map (·.add (0 * inf.size))) = some a := fun a c => by simp [Addr.add]
              cases hx with
              | sl _ _ _ _ _ cap b g1 g2 g3 =>
                refine ⟨_, _, fun w _ => rb _ cap g3 w, ?_, hk⟩
                rw [az]; exact .sl _ _ _ _ _ _ _ g1 g2 (by omega)
              | sla _ _ _ _ cap b g1 g2 g3 g4 g5 =>
                refine ⟨_, _, fun w _ => rb _ cap g3 w, ?_, hk⟩
                rw [az]; exact .sl _ _ _ _ _ _ _ g1 g2 (by omega)
          · cases hk
        · cases hk
      · split at hk
        · rename_i l hh e1 e2
          replace hk := of_cond hk; obtain ⟨hc, hk⟩ := hk
          replace hc := of_and hc; obtain ⟨c1, c2⟩ := hc
          replace c1 : l = 0 := by simpa using c1
          replace c2 : hh = 0 := by simpa using c2
          subst c1 c2
          obtain rfl := bound_none hmx
          have p1 := bound_int hlo e1
          have p2 := bound_int hhi e2
          cases hx
          have rb := fun w => run_slice (w := w) he hinf (a := none) (run_bounds (P := P) (w := w) (isS := true) (len := 0) (cap := 0) p1 p2 (by omega) (by omega) (by omega))
          refine ⟨_, _, fun w _ => rb w, ?_, hk⟩
          simp only [Option.map_none, ite_self, Int.toNat_zero, Nat.sub_self]
          exact .nils _
        · rename_i l hh km m e1 e2
          replace hk := of_cond hk; obtain ⟨hc, hk⟩ := hk
          replace hc := of_and hc; obtain ⟨c0, c1⟩ := hc
          replace c1 := of_and c1; obtain ⟨c1, c2⟩ := c1
          replace c2 := of_and c2; obtain ⟨c2, c3⟩ := c2
          replace c1 : l = 0 := by simpa using c1
          replace c2 : hh = 0 := by simpa using c2
          replace c3 : m = 0 := by simpa using c3
          subst c1 c2 c3
          obtain rfl := bound_some hmx
          cases hx <;> exact ⟨_, _, fun w' _ => slice_es (w := w) (w' := w') he hinf hlo hhi e1 e2 c0, .es _ _, hk⟩
        · cases hk
      · cases hk
    · cases hk
  · rename_i n e he
    split at hk
    · rename_i sz hsz
      obtain ⟨inf, hinf, rfl⟩ := elemSize_some hsz
      split at hk
      · rename_i l hh e1 e2
        replace hk := of_cond hk; obtain ⟨hok, hk⟩ := hk
        obtain ⟨b1, b2, b3⟩ := okBounds_iff hok
        obtain rfl := bound_none hmx
        have p1 := bound_int hlo e1
        have p2 := bound_int hhi e2
        have rb : ∀ (a : Addr) (w : World), _ := fun a w => run_sliceArr (w := w) he hinf (a := a) (run_bounds (P := P) (w := w) (isS := false) (cap := n) p1 p2 b1 b2 (by omega))
        split at hk
        · rename_i id off
          cases hx with
          | ptr _ _ _ b g1 g2 =>
            replace hk := of_cond2 hk; rcases hk with ⟨hq, hk⟩ | ⟨hq, hk⟩
            · replace hq : l = hh := by simpa using hq
              subst hq
              refine ⟨_, _, fun w _ => rb _ w, ?_, hk⟩
              rw [Nat.sub_self]
              refine lst_nil _ _ ?_
              split
              · rfl
              · simp [addr_add]
            · replace hq : ¬ l = hh := by simpa using hq
              refine ⟨_, _, fun w _ => rb _ w, ?_, hk⟩
              rw [if_neg (by omega), addr_add]
              exact .sl _ _ _ _ _ _ _ g1 g2 (by omega)
        · rename_i cells off
          replace hk := of_cond hk; obtain ⟨hb, hk⟩ := hk
          replace hb := of_ble hb
          cases hx with
          | iptr _ _ _ b o vs g1 g2 g3 =>
            refine ⟨_, _, fun w _ => rb _ w, ?_, hk⟩
            by_cases hz : n = l.toNat
            · have h0 : hh.toNat - l.toNat = 0 := by omega
              rw [h0, if_pos hz]; simp only [Nat.zero_mul, List.take_zero]
              exact lst_nil _ _ rfl
            · rw [if_neg hz, addr_add, Nat.add_assoc]
              exact lst_take g1 (by omega) g2 g3 _
        · cases hk
      · cases hk
    · cases hk
  · cases hk
end
end Go.Bas
