/- The engine, part V: a region that draws its order: whatever is drawn, it comes to what the order of the text comes to. -/
import Derived.Test.YtehfcbppcfpjoaaGreatDoorBasNU
namespace Go.Bas
open Go.RowKit
set_option linter.unusedSimpArgs false
set_option linter.unusedVariables false

section
variable {C : Cfg}
/-- A step of the reckoning in the order of the text. -/
def StepOk (C : Cfg) (stand : Func → Code → List AV → (AV → Bool) → Bool) (call : CallF Bool) (ops : Array Oper) (o : Oper) (st : St) (ai : Nat) (rc : Rc) : Prop :=
  (guardO ops st.tmps o = some true ∧ ∀ k, opD C stand call st.tmps st.m ai o k false = k rc) ∨ (guardO ops st.tmps o = some false ∧ rc = ⟨o.dst, .tup [], [], .nop⟩)
theorem opD_dst {stand : Func → Code → List AV → (AV → Bool) → Bool} {call : CallF Bool} {tmps : List AV} {m : Mem} {ai : Nat} {o : Oper} (k : Rc → Bool) : opD C stand call tmps m ai o k false = opD C stand call tmps m ai o (fun r => k ⟨o.dst, r.out, r.rd, r.eff⟩) false := rfl
theorem StepOk.dst {stand : Func → Code → List AV → (AV → Bool) → Bool} {call : CallF Bool} {ops : Array Oper} {o : Oper} {st : St} {ai : Nat} {rc : Rc} (h : StepOk C stand call ops o st ai rc) : rc.dst = o.dst := by
  rcases h with ⟨_, h⟩ | ⟨_, h⟩
  · have : rc = ⟨o.dst, rc.out, rc.rd, rc.eff⟩ := eq_of_all fun k => by rw [← h k, opD_dst k, h]
    rw [this]
  · rw [h]

theorem fastGo_ok {ops : Array Oper} : ∀ (l : List Oper) (pre : List (Nat × Oper)) (j : Nat), fastGo ops l pre j = true → ∀ m b, l[m]? = some b →
    (b.after.toList.all fun e => !Region.binds .any e || Nat.blt e.on (j + m)) = true ∧ (∀ p ∈ pre, (nextB b p.1 || !tmpClash ops p.2 b) = true) ∧ ∀ i a, i < m → l[i]? = some a → (nextB b (j + i) || !tmpClash ops a b) = true
  | [], _, _, _, m, b, hb => by simp at hb
  | b0 :: r, pre, j, h, m, b, hb => by
    obtain ⟨h1, h2⟩ := of_cond (show cond (b0.after.toList.all fun e => !Region.binds .any e || Nat.blt e.on j) (cond (pre.all fun p => nextB b0 p.1 || !tmpClash ops p.2 b0) (fastGo ops r ((j, b0) :: pre) (j + 1)) false) false = true from h)
    obtain ⟨h2, h3⟩ := of_cond h2
    cases m with
    | zero =>
      simp only [List.getElem?_cons_zero, Option.some.injEq] at hb
      subst hb
      exact ⟨h1, fun p hp => List.all_eq_true.1 h2 p hp, fun i a hi => absurd hi (Nat.not_lt_zero _)⟩
    | succ m =>
      have ih := fastGo_ok r ((j, b0) :: pre) (j + 1) h3 m b (by simpa using hb)
      obtain ⟨q1, q2, q3⟩ := ih
      refine ⟨by rw [show j + (m + 1) = j + 1 + m by omega]; exact q1, fun p hp => q2 p (List.mem_cons_of_mem _ hp), fun i a hi ha => ?_⟩
      cases i with
      | zero =>
        simp only [List.getElem?_cons_zero, Option.some.injEq] at ha
        subst ha
        exact q2 (j, b0) (List.mem_cons_self ..)
      | succ i =>
        have := q3 i a (by omega) (by simpa using ha)
        rwa [show j + 1 + i = j + (i + 1) by omega] at this
theorem getRc_some : ∀ {rs : List Rc} {i : Nat}, i < rs.length → ∃ r ∈ rs, getRc rs i = some r
  | [], _, h => absurd h (Nat.not_lt_zero _)
  | r :: _, 0, _ => ⟨r, List.mem_cons_self .., rfl⟩
  | _ :: rs, i + 1, h => by
    obtain ⟨r, h1, h2⟩ := getRc_some (rs := rs) (i := i) (by simpa using h)
    exact ⟨r, List.mem_cons_of_mem _ h1, h2⟩
theorem isNop_eq {e : Eff} (h : e.isNop = true) : e = .nop := by cases e <;> first | rfl | cases h
theorem okRcsQ_ok {ops : Array Oper} {lo hi : Nat} {rs : List Rc} (h : okRcsQ ops lo hi rs = true) : okRcs ops lo hi rs = true := by
  unfold okRcsQ at h
  cases hc : (cond (rs.all fun r => r.eff.isNop) (cond (Nat.beq rs.length ops.size) (fastGo ops ops.toList [] 0) false) false) with
  | false => rw [hc] at h; exact h
  | true =>
    obtain ⟨h1, h2⟩ := of_cond hc
    obtain ⟨h2, h3⟩ := of_cond h2
    have hlen : rs.length = ops.size := of_beq h2
    have hn : ∀ r ∈ rs, r.eff = .nop := fun r hr => isNop_eq (List.all_eq_true.1 h1 r hr)
    have F := fastGo_ok ops.toList [] 0 h3
    have el : ∀ (m : Nat) (b : Oper), ops[m]? = some b → ops.toList[m]? = some b := fun m b hb => by rw [Array.getElem?_toList]; exact hb
    have hnew : (rs.flatMap fun r => r.eff.newId) = [] := List.flatMap_eq_nil_iff.2 fun r hr => by rw [hn r hr]; rfl
    have hp : ∀ p ∈ eitherWay ops, p.1 < p.2 ∧ p.2 < ops.size ∧ befB ops ops.size p.1 p.2 = false := fun p hp => by
      unfold eitherWay at hp
      obtain ⟨j, hj, hm⟩ := List.mem_flatMap.1 hp
      obtain ⟨i, hi, rfl⟩ := List.mem_map.1 hm
      obtain ⟨hi1, hi2⟩ := List.mem_filter.1 hi
      exact ⟨List.mem_range.1 hi1, List.mem_range.1 hj, by simpa using hi2⟩
    unfold okRcs
    rw [hnew]
    simp only [Bool.and_eq_true]
    refine ⟨⟨?_, rfl, rfl⟩, List.all_eq_true.2 fun p hpm => ?_, List.all_eq_true.2 fun r hr => by rw [hn r hr]; rfl⟩
    · unfold staticB
      simp only [Bool.and_eq_true]
      refine ⟨List.all_eq_true.2 fun i hi => ?_, List.all_eq_true.2 fun p hpm => ?_⟩
      · have hi := List.mem_range.1 hi
        rw [Array.getElem?_eq_getElem hi]
        have := (F i ops[i] (el _ _ (Array.getElem?_eq_getElem hi))).1
        rwa [Nat.zero_add] at this
      · obtain ⟨a1, a2, a3⟩ := hp p hpm
        have hi : p.1 < ops.size := by omega
        rw [Array.getElem?_eq_getElem hi, Array.getElem?_eq_getElem a2]
        have := (F p.2 ops[p.2] (el _ _ (Array.getElem?_eq_getElem a2))).2.2 p.1 ops[p.1] a1 (el _ _ (Array.getElem?_eq_getElem hi))
        rw [Nat.zero_add] at this
        cases hx : nextB ops[p.2] p.1 with
        | false => rw [hx, Bool.false_or] at this; exact this
        | true =>
          exfalso
          obtain ⟨n, hn⟩ : ∃ n, ops.size = n + 1 := ⟨ops.size - 1, by omega⟩
          have e : befB ops (n + 1) p.1 p.2 = true := by
            unfold befB
            rw [Array.getElem?_eq_getElem a2]
            unfold nextB at hx
            simp only [hx, Bool.true_or]
          rw [← hn, a3] at e
          cases e
    · obtain ⟨a1, a2, a3⟩ := hp p hpm
      obtain ⟨r1, m1, g1⟩ := getRc_some (rs := rs) (i := p.1) (by omega)
      obtain ⟨r2, m2, g2⟩ := getRc_some (rs := rs) (i := p.2) (by omega)
      rw [g1, g2]
      have z1 : ∀ l : List Nat, l.any (Eff.nop).touches = false := fun l => by induction l with
        | nil => rfl
        | cons x l ih => rw [List.any_cons, ih]; rfl
      have hcl : clash r1 r2 = false := by
        unfold clash
        rw [hn r1 m1, hn r2 m2, z1, z1]
        rfl
      show (!clash r1 r2) = true
      rw [hcl]
      rfl

theorem trace_of {stand : Func → Code → List AV → (AV → Bool) → Bool} {call : CallF Bool} (hdet : ∀ tmps m ai o, Det (fun k => opD C stand call tmps m ai o k false)) {ops : Array Oper} {lo hi : Nat} {k : St → Bool} :
    ∀ (l : List Oper) (st : St) (ai : Nat) (acc : List Rc), drawK C stand call ops lo hi l st ai acc k false = true →
      ∃ rs, rs.length = l.length ∧ okRcs ops lo hi (acc.reverse ++ rs) = true ∧ k (rs.foldl applyRc st) = true ∧ ∀ j o, l[j]? = some o → ∃ rc ai', getRc rs j = some rc ∧ StepOk C stand call ops o ((rs.take j).foldl applyRc st) ai' rc
  | [], st, ai, acc, h => by
    obtain ⟨h1, h2⟩ := of_cond h
    exact ⟨[], rfl, by simpa using okRcsQ_ok h1, h2, fun j o hj => by simp at hj⟩
  | o :: r, st, ai, acc, h => by
    simp only [drawK] at h
    rw [guardK_eq] at h
    have go : ∀ (rc : Rc) (ai' : Nat), StepOk C stand call ops o st ai rc → drawK C stand call ops lo hi r (applyRc ⟨st.tmps, st.ds, st.m⟩ rc) ai' (rc :: acc) k false = true →
        ∃ rs, rs.length = (o :: r).length ∧ okRcs ops lo hi (acc.reverse ++ rs) = true ∧ k (rs.foldl applyRc st) = true ∧ ∀ j o', (o :: r)[j]? = some o' → ∃ rc ai', getRc rs j = some rc ∧ StepOk C stand call ops o' ((rs.take j).foldl applyRc st) ai' rc := fun rc ai' hs hd => by
      obtain ⟨rs, h1, h2, h3, h4⟩ := trace_of hdet r _ ai' (rc :: acc) hd
      refine ⟨rc :: rs, by simp [h1], by simpa using h2, h3, fun j o' hj => ?_⟩
      cases j with
      | zero =>
        simp only [List.getElem?_cons_zero, Option.some.injEq] at hj
        subst hj
        exact ⟨rc, ai, rfl, hs⟩
      | succ j =>
        obtain ⟨rc', ai'', g1, g2⟩ := h4 j o' (by simpa using hj)
        exact ⟨rc', ai'', g1, g2⟩
    split at h
    · rename_i hg
      obtain ⟨rc, h1, h2⟩ := hdet _ _ _ _ _ h
      exact go rc _ (.inl ⟨hg, h2⟩) h1
    · rename_i hg
      exact go _ _ (.inr ⟨hg, rfl⟩) h
    · cases h

theorem Hp.congr {w : World} {B own : Nat → Prop} {ω : Nat → Option Nat} {nx : Nat} {h h' : Heap} (H : Hp w B own ω nx h) (e : ∀ id, hget h id = hget h' id) : Hp w B own ω nx h' :=
  ⟨fun id x hx => H.rel id x (by rw [e]; exact hx), fun i j b hi hj => H.inj i j b (by rw [e]; exact hi) (by rw [e]; exact hj), H.ob⟩
theorem Sim.congr {w : World} {B oC oL : Nat → Prop} {ω : Nat → Option Nat} {s t : St} {a : Act} (S : Sim C w B oC oL ω s a) (e : StEq s t) : Sim C w B oC oL ω t a := by
  obtain ⟨st, sd, sm⟩ := s
  obtain ⟨tt, td, tm⟩ := t
  obtain ⟨h1, h2, h3, h4, h5⟩ := e
  simp only at h1 h2 h3 h4 h5
  subst h1 h2
  obtain ⟨sh, sn, sl⟩ := sm
  obtain ⟨th, tn, tl⟩ := tm
  simp only at h3 h4 h5
  subst h4 h5
  exact ⟨S.tm, S.dn, S.ms.hp.congr h3, S.ms.lp, S.ms.gl, S.ms.gb, S.ms.bl⟩

theorem befB_listed {ops : Array Oper} {L : Nat → Bool} (hcl : ∀ j o, ops[j]? = some o → L j = true → ∀ e ∈ o.after, Region.binds .any e = true → L e.on = true) :
    ∀ (n i j : Nat) (o : Oper), ops[j]? = some o → (∀ e ∈ o.after, Region.binds .any e = true → L e.on = true) → befB ops n i j = true → L i = true
  | 0, i, j, o, ho, h, hb => by cases hb
  | n + 1, i, j, o, ho, h, hb => by
    simp only [befB, ho, Bool.or_eq_true, List.any_eq_true, Bool.and_eq_true] at hb
    rcases hb with ⟨e, he, hbi, hon⟩ | ⟨e, he, hbi, hon⟩
    · have := h e (Array.mem_toList_iff.1 he) hbi
      rwa [of_beq hon] at this
    · have hl := h e (Array.mem_toList_iff.1 he) hbi
      cases hoe : ops[e.on]? with
      | none =>
        cases n with
        | zero => cases hon
        | succ n => simp [befB, hoe] at hon
      | some o' => exact befB_listed hcl n i e.on o' hoe (hcl e.on o' hoe hl) hon

theorem mem_either {ops : Array Oper} {i j : Nat} (hij : i < j) (hj : j < ops.size) (hb : befB ops ops.size i j = false) : (i, j) ∈ eitherWay ops := by
  simp only [eitherWay, List.mem_flatMap, List.mem_range, List.mem_map, List.mem_filter, Prod.mk.injEq]
  exact ⟨j, hj, i, ⟨hij, by simp [hb]⟩, rfl, rfl⟩
theorem memN_iff {l : List Nat} {i : Nat} : memN l i = true ↔ i ∈ l := by
  simp only [memN, List.any_eq_true]
  constructor
  · rintro ⟨x, hx, hb⟩
    rw [of_beq hb]; exact hx
  · exact fun h => ⟨i, h, (beq_iff i i).2 rfl⟩
theorem getRc_mem : ∀ {rs : List Rc} {j : Nat} {r : Rc}, getRc rs j = some r → r ∈ rs
  | [], j, r, h => by cases j <;> cases h
  | x :: rs, 0, r, h => by simp only [getRc, Option.some.injEq] at h; subst h; exact List.mem_cons_self ..
  | x :: rs, j + 1, r, h => List.mem_cons_of_mem _ (getRc_mem (rs := rs) h)
theorem getRc_lt : ∀ {rs : List Rc} {j : Nat} {r : Rc}, getRc rs j = some r → j < rs.length
  | [], j, r, h => by cases j <;> cases h
  | x :: rs, 0, r, h => by simp
  | x :: rs, j + 1, r, h => by have := getRc_lt (rs := rs) h; simp; omega
theorem nodup_new : ∀ {rs : List Rc} {i j j' : Nat} {r r' : Rc} {hb hb' : HB}, nodupB (rs.flatMap fun r => r.eff.newId) = true → getRc rs j = some r → getRc rs j' = some r' → r.eff = .new i hb → r'.eff = .new i hb' → j = j'
  | [], i, j, j', r, r', hb, hb', hn, h1, h2, e1, e2 => by cases j <;> cases h1
  | x :: rs, i, j, j', r, r', hb, hb', hn, h1, h2, e1, e2 => by
    have tail : nodupB (rs.flatMap fun r => r.eff.newId) = true ∧ ∀ hb, x.eff = .new i hb → i ∉ rs.flatMap fun r => r.eff.newId := by
      simp only [List.flatMap_cons] at hn
      cases hx : x.eff with
      | nop => rw [hx] at hn; exact ⟨hn, fun _ h => by cases h⟩
      | bar fp lo m' => rw [hx] at hn; exact ⟨hn, fun _ h => by cases h⟩
      | new i' hb' =>
        rw [hx] at hn
        replace hn : nodupB (i' :: rs.flatMap fun r => r.eff.newId) = true := hn
        simp only [nodupB, Bool.and_eq_true, Bool.not_eq_true'] at hn
        refine ⟨hn.2, fun hb h => ?_⟩
        cases h
        intro hm
        rw [memN_iff.2 hm] at hn
        exact absurd hn.1 (by simp)
    have inTail : ∀ {j : Nat} {r : Rc} {hb : HB}, getRc rs j = some r → r.eff = .new i hb → i ∈ rs.flatMap fun r => r.eff.newId := fun h e => List.mem_flatMap.2 ⟨_, getRc_mem h, by rw [e]; exact List.mem_singleton_self _⟩
    cases j with
    | zero =>
      simp only [getRc, Option.some.injEq] at h1
      subst h1
      cases j' with
      | zero => rfl
      | succ j' => exact absurd (inTail h2 e2) (tail.2 _ e1)
    | succ j =>
      cases j' with
      | zero =>
        simp only [getRc, Option.some.injEq] at h2
        subst h2
        exact absurd (inTail h1 e1) (tail.2 _ e2)
      | succ j' => rw [nodup_new tail.1 (show getRc rs j = some r from h1) (show getRc rs j' = some r' from h2) e1 e2]

theorem filter_lt {p q : Nat → Bool} {j : Nat} : ∀ (l : List Nat), (∀ i, q i = true → p i = true) → j ∈ l → p j = true → q j = false → (l.filter q).length < (l.filter p).length
  | [], _, h, _, _ => by cases h
  | x :: l, hpq, hm, hp, hq => by
    have mono : ∀ l : List Nat, (l.filter q).length ≤ (l.filter p).length := fun l => by
      induction l with
      | nil => simp
      | cons y l ih =>
        rw [List.filter_cons, List.filter_cons]
        by_cases hy : q y = true
        · simp [hy, hpq y hy, ih]
        · by_cases hy' : p y = true
          · simp [hy, hy']; omega
          · simp [hy, hy', ih]
    rw [List.filter_cons, List.filter_cons]
    rcases List.mem_cons.1 hm with rfl | hm
    · simp [hp, hq]
      have := mono l
      omega
    · have ih := filter_lt l hpq hm hp hq
      by_cases hy : q x = true
      · simp [hy, hpq x hy, ih]
      · by_cases hy' : p x = true
        · simp [hy, hy']; omega
        · simp [hy, hy', ih]

theorem getD_both' {listed : Array Bool} {n i : Nat} (hs : listed.size = n) (hi : i < n) (h : listed.getD i false = false) : listed.getD i true = false := by
  rw [Array.getD_eq_getD_getElem?, Array.getElem?_eq_getElem (by omega)] at h ⊢
  simpa using h

/-- How many have not been listed. -/
def left (ops : Array Oper) (listed : Array Bool) : Nat := ((List.range ops.size).filter fun i => !listed.getD i false).length

set_option maxHeartbeats 1000000 in
theorem any_sound (hC : C.Ok) {stand : Func → Code → List AV → (AV → Bool) → Bool} (hst : StandOk C stand) {call : CallF Bool} (hcall : CallOk C call) (hcf : ∀ t args m, call t args m (fun _ _ => false) (fun _ _ => false) = false) {ro : Option Nat} {ops : Array Oper} {Q : Exit → Act → World → Prop}
    {rs : List Rc} {s0 : St} {nx0 hi : Nat} (hlen : rs.length = ops.size) (hstep : ∀ j o, ops[j]? = some o → ∃ rc ai', getRc rs j = some rc ∧ StepOk C stand call ops o ((rs.take j).foldl applyRc s0) ai' rc) (hok : okRcs ops nx0 hi rs = true)
    {w0 : World} {B oC0 oL0 : Nat → Prop} {ω0 : Nat → Option Nat}
    (hQ : ∀ a w oC oL ω, Sim C w B oC oL ω (rs.foldl applyRc s0) a → ExtR w0 oC0 oL0 ω0 nx0 w oC oL ω nx0 → hi ≤ (rs.foldl applyRc s0).m.nx → Q .normal a w) :
    ∀ (fuel : Nat) (listed : Array Bool) (a : Act) (w : World) (oC oL : Nat → Prop) (ω : Nat → Option Nat) (s : St), left ops listed ≤ fuel → listed.size = ops.size →
      (∀ j o, ops[j]? = some o → listed.getD j false = true → ∀ e ∈ o.after, Region.binds .any e = true → listed.getD e.on false = true) →
      StEq s (sAt (fun i => listed.getD i false) 0 rs s0) → Sim C w B oC oL ω s a → ExtR w0 oC0 oL0 ω0 nx0 w oC oL ω nx0 →
      (∀ i j hb rc, getRc rs j = some rc → rc.eff = .new i hb → listed.getD j false = false → ω i = none) → hi ≤ s.m.nx → nx0 ≤ hi → wpAnyIn (Fr ro) 0 C.P .any ops Q fuel listed a w := by
  -- what has been checked
  simp only [okRcs, Bool.and_eq_true] at hok
  obtain ⟨⟨hstat, hnod, hrange⟩, hdyn, hdom⟩ := hok
  simp only [staticB, Bool.and_eq_true] at hstat
  obtain ⟨hback, hstat⟩ := hstat
  have back : ∀ (i : Nat) (o : Oper), ops[i]? = some o → ∀ e ∈ o.after, Region.binds .any e = true → e.on < i := fun i o ho e he hb => by
    have := List.all_eq_true.1 hback i (List.mem_range.2 (Array.getElem?_eq_some_iff.1 ho).1)
    rw [ho] at this
    have := List.all_eq_true.1 this e (Array.mem_toList_iff.2 he)
    rw [hb] at this
    simp only [Bool.not_true, Bool.false_or] at this
    exact Nat.le_of_ble_eq_true this
  have stat : ∀ i j oi oj, i < j → ops[i]? = some oi → ops[j]? = some oj → befB ops ops.size i j = false → tmpClash ops oi oj = false := fun i j oi oj hij hoi hoj hb => by
    have := List.all_eq_true.1 hstat _ (mem_either hij (Array.getElem?_eq_some_iff.1 hoj).1 hb)
    simp only [hoi, hoj] at this
    simpa using this
  have dyn : ∀ i j ri rj, i < j → j < ops.size → getRc rs i = some ri → getRc rs j = some rj → befB ops ops.size i j = false → clash ri rj = false := fun i j ri rj hij hj hri hrj hb => by
    have := List.all_eq_true.1 hdyn _ (mem_either hij hj hb)
    simp only [hri, hrj] at this
    simpa using this
  have dom : ∀ r ∈ rs, r.eff.domOk = true := fun r hr => List.all_eq_true.1 hdom r hr
  have newr : ∀ i hb rc j, getRc rs j = some rc → rc.eff = .new i hb → nx0 ≤ i ∧ i < hi := fun i hb rc j h e => by
    have := List.all_eq_true.1 hrange i (List.mem_flatMap.2 ⟨rc, getRc_mem h, by rw [e]; exact List.mem_singleton_self _⟩)
    simp only [Bool.and_eq_true] at this
    exact ⟨of_ble this.1, Nat.le_of_ble_eq_true this.2⟩
  have opOf : ∀ j r, getRc rs j = some r → ∃ o, ops[j]? = some o ∧ r.dst = o.dst := fun j r h => by
    have hlt : j < ops.size := by rw [← hlen]; exact getRc_lt h
    obtain ⟨rc, ai', h1, h2⟩ := hstep j ops[j] (Array.getElem?_eq_getElem hlt)
    rw [h] at h1
    cases h1
    exact ⟨ops[j], Array.getElem?_eq_getElem hlt, h2.dst⟩
  -- when all have been listed
  have fin : ∀ (listed : Array Bool) (a : Act) (w : World) (oC oL : Nat → Prop) (ω : Nat → Option Nat) (s : St), listed.size = ops.size → (∀ i, i < ops.size → listed.getD i false = true) → StEq s (sAt (fun i => listed.getD i false) 0 rs s0) → Sim C w B oC oL ω s a → ExtR w0 oC0 oL0 ω0 nx0 w oC oL ω nx0 → hi ≤ s.m.nx → Q .normal a w := fun listed a w oC oL ω s hs hall he S E hn => by
    have e2 := sAt_all rs 0 s0 (fun i => listed.getD i false) (fun j _ hj => hall j (by omega))
    rw [e2] at he
    exact hQ a w oC oL ω (S.congr he) E (by rw [← he.nx]; exact hn)
  have ready_all : ∀ (listed : Array Bool), listed.size = ops.size → Region.ready .any ops listed = [] → ∀ i, i < ops.size → listed.getD i false = true := fun listed hs hr => by
    intro i
    induction i using Nat.strongRecOn with
    | ind i ih =>
      intro hi'
      cases hli : listed.getD i false with
      | true => rfl
      | false =>
        have hmem : i ∈ Region.ready .any ops listed := mem_ready.2 ⟨getD_both' hs hi' hli, ops[i], Array.getElem?_eq_getElem hi', fun e he hb => ih e.on (back i _ (Array.getElem?_eq_getElem hi') e he hb) (by have := back i _ (Array.getElem?_eq_getElem hi') e he hb; omega)⟩
        rw [hr] at hmem
        cases hmem
  intro fuel
  induction fuel with
  | zero =>
    intro listed a w oC oL ω s hleft hsz hcl he S E hun hn hnh
    have hall : ∀ i, i < ops.size → listed.getD i false = true := fun i hi' => by
      cases hli : listed.getD i false with
      | true => rfl
      | false =>
        have : i ∈ (List.range ops.size).filter fun i => !listed.getD i false := List.mem_filter.2 ⟨List.mem_range.2 hi', by simp [hli]⟩
        have := List.length_pos_of_mem this
        simp only [left] at hleft
        omega
    refine ⟨?_, fin listed a w oC oL ω s hsz hall he S E hn⟩
    cases hr : Region.ready .any ops listed with
    | nil => rfl
    | cons j r =>
      have hm : j ∈ Region.ready .any ops listed := by rw [hr]; exact List.mem_cons_self ..
      obtain ⟨h1, o, h2, _⟩ := mem_ready.1 hm
      have hlt := (Array.getElem?_eq_some_iff.1 h2).1
      have h3 := hall j hlt
      rw [Array.getD_eq_getD_getElem?, Array.getElem?_eq_getElem (by omega)] at h1 h3
      simp at h1 h3
      rw [h1] at h3
      cases h3
  | succ fuel ih =>
    intro listed a w oC oL ω s hleft hsz hcl he S E hun hn hnh
    refine ⟨fun hr => fin listed a w oC oL ω s hsz (ready_all listed hsz hr) he S E hn, fun j hj => ?_⟩
    obtain ⟨hj1, o, ho, hj2⟩ := mem_ready.1 hj
    have hlt : j < ops.size := (Array.getElem?_eq_some_iff.1 ho).1
    have hjf : listed.getD j false = false := by
      rw [Array.getD_eq_getD_getElem?, Array.getElem?_eq_getElem (by omega)] at hj1 ⊢
      simpa using hj1
    obtain ⟨rc, ai', hrc, hso⟩ := hstep j o ho
    -- what stands ahead has been listed; what stands behind has not
    have ahead : ∀ i, befB ops ops.size i j = true → listed.getD i false = true := fun i hb => befB_listed hcl ops.size i j o ho hj2 hb
    have behind : ∀ i oi, ops[i]? = some oi → befB ops ops.size j i = true → listed.getD i false = false := fun i oi hoi hb => by
      cases hli : listed.getD i false with
      | false => rfl
      | true => rw [befB_listed hcl ops.size j i oi hoi (hcl i oi hoi hli) hb] at hjf; cases hjf
    have agree : ∀ (q : Nat → Rc → Prop), (∀ i ri oi, i < j → getRc rs i = some ri → ops[i]? = some oi → q i ri → befB ops ops.size i j = false → False) → (∀ i ri oi, j < i → getRc rs i = some ri → ops[i]? = some oi → q i ri → befB ops ops.size j i = false → False) →
        ∀ i ri, getRc rs i = some ri → q i ri → listed.getD i false = Nat.blt i (0 + j) := fun q h1 h2 i ri hri hq => by
      obtain ⟨oi, hoi, _⟩ := opOf i ri hri
      rcases Nat.lt_trichotomy i j with h | h | h
      · have hb : Nat.blt i (0 + j) = true := Nat.ble_eq_true_of_le (by omega)
        rw [hb]
        cases hbf : befB ops ops.size i j with
        | true => exact ahead i hbf
        | false => exact (h1 i ri oi h hri hoi hq hbf).elim
      · subst h
        rw [hjf]
        cases hb : Nat.blt i (0 + i) with
        | false => rfl
        | true => have := Nat.le_of_ble_eq_true hb; omega
      · have hb : Nat.blt i (0 + j) = false := by
          cases hb : Nat.blt i (0 + j) with
          | false => rfl
          | true => have := Nat.le_of_ble_eq_true hb; omega
        rw [hb]
        cases hbf : befB ops ops.size j i with
        | true => exact behind i oi hoi hbf
        | false => exact (h2 i ri oi h hri hoi hq hbf).elim
    have hT : (rs.take j).foldl applyRc s0 = sAt (fun x => Nat.blt x (0 + j)) 0 rs s0 := (sAt_pre rs 0 j s0).symm
    -- the temporaries at which it looks
    have tmps : ∀ t ∈ looksL ops o, lget ((rs.take j).foldl applyRc s0).tmps t = lget s.tmps t := fun t ht => by
      rw [hT, he.tm]
      refine agreeT rs 0 s0 s0 (fun i r hi' hd => ?_) rfl rfl
      rw [Nat.zero_add i]
      refine (agree (fun _ r => r.dst = some t) (fun i ri oi hij hri hoi hq hbf => ?_) (fun i ri oi hij hri hoi hq hbf => ?_) i r hi' hd).symm
      · have hcl := stat i j oi o hij hoi ho hbf
        obtain ⟨oi', hoi', hd'⟩ := opOf i ri hri
        rw [hoi] at hoi'; cases hoi'
        simp only [tmpClash, ← hd', hq, Bool.or_eq_false_iff] at hcl
        rw [memN_iff.2 ht] at hcl
        exact absurd hcl.1.1 (by simp)
      · have hcl := stat j i o oi hij ho hoi hbf
        obtain ⟨oi', hoi', hd'⟩ := opOf i ri hri
        rw [hoi] at hoi'; cases hoi'
        simp only [tmpClash, ← hd', hq, Bool.or_eq_false_iff] at hcl
        rw [memN_iff.2 ht] at hcl
        exact absurd hcl.2 (by simp)
    -- it is listed
    have next : ∀ (u : Value) (w' : World), Done C w B oC oL ω nx0 s rc (a.put o.dst u) w' → wpAnyIn (Fr ro) 0 C.P .any ops Q fuel (listed.setIfInBounds j true) (a.put o.dst u) w' := fun u w' hd => by
      obtain ⟨oC', oL', ω', S', E', hω', hnx'⟩ := hd
      have hL : ∀ x, x ≠ j → (listed.setIfInBounds j true).getD x false = listed.getD x false := fun x hx => getD_set_ne false (Ne.symm hx)
      have hLj : (listed.setIfInBounds j true).getD j false = true := by simp [Array.getElem?_setIfInBounds, hsz, hlt]
      refine ih _ _ _ oC' oL' ω' (applyRc s rc) ?_ (by simpa using hsz) (fun x ox hox hlx e hee hb => ?_) ?_ S' (E.trans E') (fun i x hb r hr hre hlx => ?_) ?_ hnh
      · have := filter_lt (p := fun i => !listed.getD i false) (q := fun i => !(listed.setIfInBounds j true).getD i false) (j := j) (List.range ops.size) (fun i hq => by
          by_cases hij : i = j
          · subst hij; simp [hjf]
          · rw [hL i hij] at hq; exact hq) (List.mem_range.2 hlt) (by simp [hjf]) (by simp [hLj])
        simp only [left] at hleft ⊢
        omega
      · have : listed.getD e.on false = true := by
          by_cases hx : x = j
          · subst hx
            rw [ho] at hox; cases hox
            exact hj2 e hee hb
          · rw [hL x hx] at hlx
            exact hcl x ox hox hlx e hee hb
        exact getD_set_true this
      · refine (applyRc_congr rc he).trans (insert (L := fun i => listed.getD i false) (L' := fun i => (listed.setIfInBounds j true).getD i false) rs 0 s0 hrc (by simpa using hjf) (by rw [Nat.zero_add]; exact hLj) (fun x hx => hL x (by omega)) (fun x r hjx hr hlx => ?_)).symm
        rw [Nat.zero_add] at hlx
        obtain ⟨ox, hox, hdx⟩ := opOf x r hr
        have hbf : befB ops ops.size j x = false := by
          cases hbf : befB ops ops.size j x with
          | false => rfl
          | true => rw [behind x ox hox hbf] at hlx; cases hlx
        have c1 := stat j x o ox hjx ho hox hbf
        have c2 := dyn j x rc r hjx (Array.getElem?_eq_some_iff.1 hox).1 hrc hr hbf
        simp only [clash, Bool.or_eq_false_iff] at c2
        refine ⟨fun t ht hx => ?_, c2.2.2, dom rc (getRc_mem hrc), dom r (getRc_mem hr)⟩
        have ho' := hso.dst
        rw [ho'] at ht
        rw [hdx] at hx
        simp only [tmpClash, ht, hx, Bool.or_eq_false_iff] at c1
        exact absurd c1.1.2 (by simp)
      · by_cases hx : x = j
        · subst hx; rw [hLj] at hlx; cases hlx
        · rw [hL x hx] at hlx
          have h1 := newr i hb r x hr hre
          refine hω' i (by omega) (fun hb' e => ?_) (hun i x hb r hr hre hlx)
          exact hx (nodup_new hnod hr hrc hre e)
      · exact Nat.le_trans hn hnx'
    unfold wpOpIn
    simp only [ho]
    rcases hso with ⟨hg, hop⟩ | ⟨hg, hrc0⟩
    · rw [guardO_congr tmps] at hg
      rw [if_pos (guardO_sound S.tm hg)]
      refine exec hC hst hcall hcf (s := s) (T := (rs.take j).foldl applyRc s0) (rc := rc) (nx0 := nx0) S hop (ev_congr tmps) (fun id hid => ?_) (fun hb => ?_) (fun i hb hre => ?_) (by omega) (fun u w' hd => next u w' hd)
      · rw [hT, he.hp id]
        refine agreeH rs 0 s0 s0 (fun i r hi' ht => ?_) dom rfl
        rw [Nat.zero_add i]
        refine (agree (fun _ r => r.eff.touches id = true) (fun i ri oi hij hri hoi hq hbf => ?_) (fun i ri oi hij hri hoi hq hbf => ?_) i r hi' ht).symm
        · have c := dyn i j ri rc hij hlt hri hrc hbf
          simp only [clash, Bool.or_eq_false_iff] at c
          have : rc.rd.any ri.eff.touches = true := List.any_eq_true.2 ⟨id, memN_iff.1 hid, hq⟩
          rw [this] at c
          exact absurd c.1 (by simp)
        · have c := dyn j i rc ri hij (Array.getElem?_eq_some_iff.1 hoi).1 hrc hri hbf
          simp only [clash, Bool.or_eq_false_iff] at c
          have : rc.rd.any ri.eff.touches = true := List.any_eq_true.2 ⟨id, memN_iff.1 hid, hq⟩
          rw [this] at c
          exact absurd c.2.1 (by simp)
      · rw [hT, he.nx, he.lp]
        refine agreeN rs 0 s0 s0 (fun i r hi' ht => ?_) rfl rfl
        rw [Nat.zero_add i]
        have two : ∀ {x y : Eff}, x.isBar = true → y.isBar = true → effClash x y = true := fun {x y} hx hy => by cases x <;> cases y <;> simp_all [Eff.isBar, effClash]
        refine (agree (fun _ r => r.eff.isBar = true) (fun i ri oi hij hri hoi hq hbf => ?_) (fun i ri oi hij hri hoi hq hbf => ?_) i r hi' ht).symm
        · have c := dyn i j ri rc hij hlt hri hrc hbf
          simp only [clash, Bool.or_eq_false_iff] at c
          rw [two hq hb] at c
          exact absurd c.2.2 (by simp)
        · have c := dyn j i rc ri hij (Array.getElem?_eq_some_iff.1 hoi).1 hrc hri hbf
          simp only [clash, Bool.or_eq_false_iff] at c
          rw [two hb hq] at c
          exact absurd c.2.2 (by simp)
      · have h1 := newr i hb rc j hrc hre
        exact ⟨by omega, h1.1, hun i j hb rc hrc hre hjf⟩
    · rw [guardO_congr tmps] at hg
      rw [if_neg (by rw [guardO_sound S.tm hg]; simp)]
      refine ⟨about_fr _ _ _ _ _, next undef w ⟨oC, oL, ω, ?_, ExtR.refl, fun i _ _ h => h, by rw [hrc0]; exact Nat.le_refl _⟩⟩
      rw [hrc0]
      exact S.put (m' := s.m) ExtR.refl S.ms (.tup _ _ _ rfl (fun i hi => absurd hi (Nat.not_lt_zero _)))
end
end Go.Bas
