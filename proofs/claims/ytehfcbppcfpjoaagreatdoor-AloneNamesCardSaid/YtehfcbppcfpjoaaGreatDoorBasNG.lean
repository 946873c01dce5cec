/- The engine, part G: what is equal. -/
import Derived.Test.YtehfcbppcfpjoaaGreatDoorBasNF
namespace Go.Bas
open Go.RowKit
set_option linter.unusedSimpArgs false
set_option linter.unusedVariables false

section
variable {w : World} {B : Nat → Prop} {own : Nat → Prop} {ω : Nat → Option Nat} {nx : Nat} {h : Heap} {P : Program}

/-- The value of a type over these cells. -/
def valOf (P : Program) (t : TypeId) (arr : Array Value) : Value :=
  match P.underlying t with
  | some (.struct _) => .agg arr
  | _ => arr.getD 0 undef

theorem eqL_append : ∀ (a c b d : List AV), a.length = c.length → eqL (a ++ b) (c ++ d) = (eqL a c && eqL b d)
  | [], [], b, d, _ => by simp [eqL]
  | [], _ :: _, _, _, h => by simp at h
  | _ :: _, [], _, _, h => by simp at h
  | x :: a, y :: c, b, d, h => by simp only [List.cons_append, eqL, eqL_append a c b d (by simpa using h), Bool.and_assoc]
theorem fitL_len : ∀ (ks : List CK) (a c : List AV), fitL ks a c = true → a.length = ks.length ∧ c.length = ks.length
  | [], [], [], _ => ⟨rfl, rfl⟩
  | _ :: _, [], _, h => by simp [fitL] at h
  | _ :: _, _ :: _, [], h => by simp [fitL] at h
  | [], _ :: _, _, h => by simp [fitL] at h
  | [], [], _ :: _, h => by simp [fitL] at h
  | k :: ks, x :: a, y :: c, h => by
    simp only [fitL, Bool.and_eq_true] at h
    have := fitL_len ks a c h.2
    simp [this.1, this.2]
theorem fitL_append : ∀ (ks ms : List CK) (a c : List AV), fitL (ks ++ ms) a c = true → fitL ks (a.take ks.length) (c.take ks.length) = true ∧ fitL ms (a.drop ks.length) (c.drop ks.length) = true
  | [], ms, a, c, h => by simpa [fitL] using h
  | _ :: _, _, [], _, h => by simp [fitL] at h
  | _ :: _, _, _ :: _, [], h => by simp [fitL] at h
  | k :: ks, ms, x :: a, y :: c, h => by
    simp only [List.cons_append, fitL, Bool.and_eq_true] at h
    have := fitL_append ks ms a c h.2
    simp only [List.length_cons, List.take_succ_cons, List.drop_succ_cons, fitL, Bool.and_eq_true]
    exact ⟨⟨h.1, this.1⟩, this.2⟩

theorem RepL.sub {cs : List AV} {arr : Array Value} (hl : RepL w B own ω nx cs arr) (a m : Nat) : RepL w B own ω nx ((cs.drop a).take m) (arr.extract a (a + m)) := by
  refine repL_of (by have := hl.1; simp; omega) (fun j x v hx hv => ?_)
  rw [List.getElem?_take] at hx
  split at hx
  · rename_i hj
    rw [List.getElem?_drop] at hx
    rw [Array.getElem?_extract] at hv
    split at hv
    · exact hl.at hx hv
    · cases hv
  · cases hx

/-- Flat types: the comparison is cell by cell. -/
def EqFlat (P : Program) (w : World) (B : Nat → Prop) (own : Nat → Prop) (ω : Nat → Option Nat) (nx : Nat) (D : Nat) (t : TypeId) (ks : List CK) : Prop :=
  ∀ (xs ys : List AV) (ax ay : Array Value), RepL w B own ω nx xs ax → RepL w B own ω nx ys ay → fitL ks xs ys = true → ∀ w' : World, (Op.equalIn D t (valOf P t ax) (valOf P t ay)).run P w' = .ok (eqL xs ys) w'

theorem flat_pos {d : Nat} {t : TypeId} {ks : List CK} (h : flatT P d t = some ks) : (∃ fs, P.underlying t = some (.struct fs)) ∨ ∃ k, ks = [k] := by
  cases d with
  | zero => cases h
  | succ d =>
    simp only [flatT] at h
    split at h
    · exact .inr ⟨_, (Option.some.inj h).symm⟩
    · exact .inr ⟨_, (Option.some.inj h).symm⟩
    · rename_i fs hfs; exact .inl ⟨fs, hfs⟩
    · cases h

theorem part_flat {t : TypeId} {d : Nat} {ks : List CK} {i : TypeInfo} (hf : flatT P d t = some ks) (hi : P.info? t = some i) (hs : i.size = ks.length) {arr : Array Value} {n : Nat} (hn : n + ks.length ≤ arr.size) :
    (part t arr n).run P w = .ok (valOf P t (arr.extract n (n + ks.length))) w := by
  have hag : ∀ b, (∃ d, P.underlying t = some d ∧ aggD d = b) → (isAgg t).run P w = .ok b w := fun b ⟨d, hd, ha⟩ => by
    have hu := run_underlying hd w
    unfold isAgg
    cases d <;> simp [aggD] at ha <;> simp [hu, ← ha]
  have : ∀ d', flatT P d' t = some ks → (part t arr n).run P w = .ok (valOf P t (arr.extract n (n + ks.length))) w := fun d' hf => by
    cases d' with
    | zero => cases hf
    | succ d' =>
      simp only [flatT] at hf
      split at hf
      · rename_i hd
        obtain rfl := Option.some.inj hf
        have hlt : n < arr.size := by simp at hn; omega
        simp [part, hag false ⟨_, hd, rfl⟩, hlt, valOf, hd, Sem.run, Result.andThen, Array.getElem?_extract, show 0 < min (n + 1) arr.size - n by omega]
      · rename_i k hd
        obtain rfl := Option.some.inj hf
        have hlt : n < arr.size := by simp at hn; omega
        simp [part, hag false ⟨_, hd, rfl⟩, hlt, valOf, hd, Sem.run, Result.andThen, Array.getElem?_extract, show 0 < min (n + 1) arr.size - n by omega]
      · rename_i fs hd
        simp [part, hag true ⟨_, hd, rfl⟩, sizeOf, typeInfo, hi, hs, valOf, hd, Sem.run, Result.andThen]
      · cases hf
  exact this d hf

theorem fields_eq {g : TypeId → Option (List CK)} {D : Nat} (hg : ∀ t ks, g t = some ks → EqFlat P w B own ω nx D t ks ∧ ∃ d, flatT P d t = some ks) (xs ys : List AV) (ax ay : Array Value) (hx : RepL w B own ω nx xs ax) (hy : RepL w B own ω nx ys ay) :
    ∀ (fs : List Field) (ks all : List CK), flatFs P g fs ks = some all → fitL all xs ys = true → ∀ w' : World,
      (forIn fs (none, ()) fun (f : Field) (_ : Option Bool × Unit) =>
          if f.name = "_" then (pure (ForInStep.yield (none, ())) : Sem (ForInStep (Option Bool × Unit)))
          else do
            let u ← part f.type ax f.offset
            let v ← part f.type ay f.offset
            let e ← Op.equalIn D f.type u v
            if e = false then pure (ForInStep.done (some false, ())) else pure (ForInStep.yield (none, ()))).run P w' =
        .ok (if eqL (xs.drop ks.length) (ys.drop ks.length) then (none, ()) else (some false, ())) w'
  | [], ks, all, h, hf, w' => by
    obtain rfl := Option.some.inj h
    obtain ⟨h1, h2⟩ := fitL_len _ _ _ hf
    have e1 : xs.drop ks.length = [] := List.drop_eq_nil_of_le (by omega)
    have e2 : ys.drop ks.length = [] := List.drop_eq_nil_of_le (by omega)
    simp [e1, e2, eqL, Sem.run]
  | f :: r, ks, all, h, hf, w' => by
    simp only [flatFs] at h
    cases hc : (Nat.beq f.offset ks.length && f.name != "_") with
    | false => rw [hc] at h; cases h
    | true =>
      rw [hc] at h
      simp only [cond_true] at h
      obtain ⟨c1, c2⟩ := of_and hc
      replace c1 := of_beq c1
      have c2 : ¬ f.name = "_" := by simpa using c2
      split at h
      · rename_i ms i hms hi
        cases hb : Nat.beq i.size ms.length with
        | false => rw [hb] at h; cases h
        | true =>
          rw [hb] at h
          simp only [cond_true] at h
          replace hb := of_beq hb
          obtain ⟨he, d, hfl⟩ := hg _ _ hms
          have hpre : ∃ rest, all = ks ++ ms ++ rest := by
            have : ∀ (l : List Field) (a b : List CK), flatFs P g l a = some b → ∃ rest, b = a ++ rest := by
              intro l
              induction l with
              | nil => intro a b h; exact ⟨[], by simpa using (Option.some.inj h).symm⟩
              | cons x l ih =>
                intro a b h
                simp only [flatFs] at h
                cases hc : (Nat.beq x.offset a.length && x.name != "_") with
                | false => rw [hc] at h; cases h
                | true =>
                  rw [hc] at h
                  simp only [cond_true] at h
                  split at h
                  · rename_i m1 i1 _ _
                    cases hb : Nat.beq i1.size m1.length with
                    | false => rw [hb] at h; cases h
                    | true =>
                      rw [hb] at h
                      obtain ⟨rest, hr⟩ := ih _ _ h
                      exact ⟨m1 ++ rest, by rw [hr, List.append_assoc]⟩
                  · cases h
            exact this r _ _ h
          obtain ⟨rest, hall⟩ := hpre
          have hfit := hf
          rw [hall, List.append_assoc] at hfit
          obtain ⟨_, f2⟩ := fitL_append ks (ms ++ rest) xs ys hfit
          obtain ⟨f3, f4⟩ := fitL_append ms rest _ _ f2
          obtain ⟨l1, l2⟩ := fitL_len _ _ _ hf
          have hlen : all.length = ks.length + (ms.length + rest.length) := by rw [hall]; simp [Nat.add_assoc]
          have p1 := part_flat (w := w') (arr := ax) (n := ks.length) hfl hi hb (by have := hx.1; omega)
          have p2 := part_flat (w := w') (arr := ay) (n := ks.length) hfl hi hb (by have := hy.1; omega)
          have he' := he _ _ _ _ (hx.sub ks.length ms.length) (hy.sub ks.length ms.length) f3 w'
          have ih := fields_eq hg xs ys ax ay hx hy r (ks ++ ms) all h hf w'
          have split : ∀ l : List AV, l.drop ks.length = (l.drop ks.length).take ms.length ++ l.drop (ks ++ ms).length := fun l => by
            rw [List.length_append, ← List.drop_drop, List.take_append_drop]
          rw [split xs, split ys, eqL_append _ _ _ _ (by simp; omega)]
          simp only [List.forIn_cons, c2, if_false, c1, Sem.run_bind, p1, p2, he', Result.andThen_ok]
          cases hq : eqL ((xs.drop ks.length).take ms.length) ((ys.drop ks.length).take ms.length) with
          | false => simp [Sem.run]
          | true =>
            simp only [Bool.true_eq_false, if_false, Sem.run_pure, Result.andThen_ok, Bool.true_and]
            exact ih
      · cases h

theorem fit_b {xs ys : List AV} (h : fitL [.b] xs ys = true) : ∃ a b, xs = [.bool a] ∧ ys = [.bool b] := by
  obtain ⟨h1, h2⟩ := fitL_len _ _ _ h
  obtain ⟨x, rfl⟩ := List.length_eq_one_iff.1 h1
  obtain ⟨y, rfl⟩ := List.length_eq_one_iff.1 h2
  cases x <;> cases y <;> simp [fitL, fit1] at h
  exact ⟨_, _, rfl, rfl⟩
theorem fit_i {k : IntKind} {xs ys : List AV} (h : fitL [.i k] xs ys = true) : ∃ a b, xs = [.int k a] ∧ ys = [.int k b] := by
  obtain ⟨h1, h2⟩ := fitL_len _ _ _ h
  obtain ⟨x, rfl⟩ := List.length_eq_one_iff.1 h1
  obtain ⟨y, rfl⟩ := List.length_eq_one_iff.1 h2
  cases x <;> cases y <;> simp [fitL, fit1] at h
  obtain rfl := kindEq_eq h.1
  obtain rfl := kindEq_eq h.2
  exact ⟨_, _, rfl, rfl⟩

theorem flat_eq : ∀ (d : Nat) (t : TypeId) (ks : List CK), flatT P d t = some ks → ∀ D, d ≤ D → EqFlat P w B own ω nx D t ks
  | 0, _, _, h, _, _ => by cases h
  | d + 1, t, ks, h, 0, hD => by omega
  | d + 1, t, ks, h, D + 1, hD => fun xs ys ax ay hx hy hf w' => by
    simp only [flatT] at h
    split at h
    · rename_i hu
      obtain rfl := Option.some.inj h
      obtain ⟨a, b, rfl, rfl⟩ := fit_b hf
      have h1 := hx.2 0 (by simp)
      have h2 := hy.2 0 (by simp)
      simp only [valOf, hu]
      simp only [List.getElem_cons_zero] at h1 h2
      generalize ax.getD 0 undef = u at *
      generalize ay.getD 0 undef = v at *
      cases h1; cases h2
      simp [Op.equalIn, run_underlying hu, eqL, eq1, Sem.run, Result.andThen]
    · rename_i k hu
      obtain rfl := Option.some.inj h
      obtain ⟨a, b, rfl, rfl⟩ := fit_i hf
      have h1 := hx.2 0 (by simp)
      have h2 := hy.2 0 (by simp)
      simp only [valOf, hu]
      simp only [List.getElem_cons_zero] at h1 h2
      generalize ax.getD 0 undef = u at *
      generalize ay.getD 0 undef = v at *
      cases h1; cases h2
      simp [Op.equalIn, run_underlying hu, eqL, eq1, Sem.run, Result.andThen]
    · rename_i fs hu
      cases hst : P.stoodInHeld t with
      | true => rw [hst] at h; cases h
      | false =>
        rw [hst] at h
        simp only [cond_false] at h
        have := fields_eq (P := P) (D := D) (g := flatT P d) (fun t' ks' h' => ⟨flat_eq d t' ks' h' D (by omega), d, h'⟩) xs ys ax ay hx hy fs.toList [] ks h hf w'
        simp only [List.length_nil, List.drop_zero] at this
        simp only [valOf, hu]
        simp [Op.equalIn, run_underlying hu, hst, Sem.run, Result.andThen]
        rw [← Array.forIn_toList, this]
        cases eqL xs ys <;> simp [Sem.run]
    · cases h

theorem eqopK_sound {op : BinOp} {b : Bool} {s : Sem Bool} {k : AV → Bool} (hs : ∀ w : World, s.run P w = .ok b w) (h : eqopK op b k false = true) {t : TypeId} {u v : Value} (he : op = .eql → binOp op t u v = (do pure (.bool (← s)))) (hn : op = .neq → binOp op t u v = (do pure (.bool (!(← s))))) :
    Reckons P w B own ω nx (binOp op t u v) k := by
  unfold eqopK at h
  split at h
  · rw [he rfl]; exact ⟨_, _, fun _ _ => by simp [hs, Sem.run, Result.andThen], .bool _ _, h⟩
  · rw [hn rfl]; exact ⟨_, _, fun _ _ => by simp [hs, Sem.run, Result.andThen], .bool _ _, h⟩
  · cases h


theorem flat_pin {t : TypeId} {fs : Array Field} {ks : List CK} (hu : P.underlying t = some (.struct fs)) (hf : flatT P 8 t = some ks) {xs ys : List AV} {ax ay : Array Value} (hx : RepL w B own ω nx xs ax) (hy : RepL w B own ω nx ys ay) (h : fitL ks xs ys = true) (w' : World) :
    (Op.equal t (.agg ax) (.agg ay)).run P w' = .ok (eqL xs ys) w' := by
  have := flat_eq (P := P) (w := w) (B := B) (own := own) (ω := ω) (nx := nx) 8 t ks hf Op.maxDepth (by decide) xs ys ax ay hx hy h w'
  simpa only [valOf, hu, Op.equal] using this

theorem equal_of {t : TypeId} {u v : Value} {b : Bool} (h : ∀ d, (Op.equalIn (d + 1) t u v).run P w = .ok b w) : (Op.equal t u v).run P w = .ok b w := h 9999
theorem eqv_sound {op : BinOp} {b : Bool} {t : TypeId} {u v : Value} {k : AV → Bool} (hk : eqopK op b k false = true) (hs : ∀ d (w : World), (Op.equalIn (d + 1) t u v).run P w = .ok b w) (he : binOp .eql t u v = (do pure (.bool (← Op.equal t u v)))) (hn : binOp .neq t u v = (do pure (.bool (!(← Op.equal t u v))))) :
    Reckons P w B own ω nx (binOp op t u v) k :=
  eqopK_sound (fun w => equal_of fun d => hs d w) hk (fun e => by subst e; exact he) (fun e => by subst e; exact hn)

theorem binK_sound {op : BinOp} {t : TypeId} {ox oy : Operand} {x y : AV} {u v : Value} {k : AV → Bool} (hx : Rep w B own ω nx x u) (hy : Rep w B own ω nx y v) (hk : binK P op t ox oy x y k false = true) :
    Reckons P w B own ω nx (do eqGuard op t ox oy u v; binOp op t u v) k := by
  have plain : ∀ {s : Sem Value}, (∀ w : World, (eqGuard op t ox oy u v).run P w = .ok () w) → Reckons P w B own ω nx s k → Reckons P w B own ω nx (do eqGuard op t ox oy u v; s) k := fun hg ⟨a, b, h1, h2, h3⟩ =>
    ⟨a, b, fun w' hw => by simp only [Sem.run_bind, hg, Result.andThen_ok]; exact h1 w' hw, h2, h3⟩
  unfold binK at hk
  split at hk
  · cases hx; cases hy
    exact plain (fun _ => by cases op <;> simp [eqGuard, Sem.run]) (ibinK_sound hk)
  · rename_i a b
    split at hk
    · rename_i hu
      cases hx; cases hy
      refine plain (fun _ => by cases op <;> simp [eqGuard, Sem.run]) (eqv_sound hk (fun d w => ?_) rfl rfl)
      simp [Op.equalIn, run_underlying hu, Sem.run, Result.andThen]
    · cases hk
  · rename_i xs ys
    split at hk
    · rename_i fs ks hu hfl
      replace hk := of_cond hk; obtain ⟨hc, hk⟩ := hk
      replace hc := of_and hc; obtain ⟨hf, hg⟩ := hc
      cases hx with
      | agg _ _ ax a1 a2 => cases hy with
        | agg _ _ ay b1 b2 =>
          have hg' : P.eqGuardType P.depth t = false := by simpa using hg
          refine plain ?_ (eqopK_sound (s := Op.equal t (.agg ax) (.agg ay)) (flat_pin hu hfl ⟨a1, a2⟩ ⟨b1, b2⟩ hf) hk (fun e => by subst e; rfl) (fun e => by subst e; rfl))
          intro _; cases op <;> simp [eqGuard, hg', Sem.run, Result.andThen]
    · cases hk
  · split at hk
    · rename_i e hu
      cases hx; cases hy
      refine plain (fun _ => by cases op <;> simp [eqGuard, Sem.run]) (eqv_sound hk (fun d w => ?_) rfl rfl)
      simp [Op.equalIn, run_underlying hu, Sem.run, Result.andThen]
    · cases hk
  · split at hk
    · rename_i e hu
      cases hx; cases hy
      refine plain (fun _ => by cases op <;> simp [eqGuard, Sem.run]) (eqv_sound hk (fun d w => ?_) rfl rfl)
      simp [Op.equalIn, run_underlying hu, Sem.run, Result.andThen]
    · cases hk
  · split at hk
    · rename_i e hu
      cases hx; cases hy
      refine plain (fun _ => by cases op <;> simp [eqGuard, Sem.run]) (eqv_sound hk (fun d w => ?_) rfl rfl)
      simp [Op.equalIn, run_underlying hu, Sem.run, Result.andThen]
    · cases hk
  · split at hk
    · rename_i e hu
      cases hx; cases hy
      refine plain (fun _ => by cases op <;> simp [eqGuard, Sem.run]) (eqv_sound hk (fun d w => ?_) rfl rfl)
      simp [Op.equalIn, run_underlying hu, Sem.run, Result.andThen]
    · cases hk
  · split at hk
    · rename_i e hu
      cases hx; cases hy
      refine plain (fun _ => by cases op <;> simp [eqGuard, Sem.run]) (eqv_sound hk (fun d w => ?_) rfl rfl)
      simp [Op.equalIn, run_underlying hu, Sem.run, Result.andThen]
    · cases hk
  · split at hk
    · rename_i e hu
      replace hk := of_cond hk; obtain ⟨hc, hk⟩ := hk
      cases hx; cases hy
      refine plain (fun _ => by clear plain; cases ox <;> cases oy <;> first | (simp [isConstO] at hc; done) | (cases op <;> simp [eqGuard, Sem.run])) (eqv_sound hk (fun d w => ?_) rfl rfl)
      simp [Op.equalIn, run_underlying hu, Sem.run, Result.andThen]
    · cases hk
  · split at hk
    · rename_i e hu
      cases hx; cases hy
      refine plain (fun _ => by cases op <;> simp [eqGuard, Sem.run]) (eqv_sound hk (fun d w => ?_) rfl rfl)
      simp [Op.equalIn, run_underlying hu, Sem.run, Result.andThen]
    · cases hk
  · split at hk
    · rename_i e hu
      cases hx; cases hy
      refine plain (fun _ => by cases op <;> simp [eqGuard, Sem.run]) (eqv_sound hk (fun d w => ?_) rfl rfl)
      simp [Op.equalIn, run_underlying hu, Sem.run, Result.andThen]
    · cases hk
  · split at hk
    · rename_i e hu
      cases hx; cases hy
      refine plain (fun _ => by cases op <;> simp [eqGuard, Sem.run]) (eqv_sound hk (fun d w => ?_) rfl rfl)
      simp [Op.equalIn, run_underlying hu, Sem.run, Result.andThen]
    · cases hk
  · split at hk
    · rename_i e hu
      cases hx; cases hy
      refine plain (fun _ => by cases op <;> simp [eqGuard, Sem.run]) (eqv_sound hk (fun d w => ?_) rfl rfl)
      simp [Op.equalIn, run_underlying hu, Sem.run, Result.andThen]
    · cases hk
  · split at hk
    · rename_i e hu
      cases hx; cases hy
      refine plain (fun _ => by cases op <;> simp [eqGuard, Sem.run]) (eqv_sound hk (fun d w => ?_) rfl rfl)
      simp [Op.equalIn, run_underlying hu, Sem.run, Result.andThen]
    · cases hk
  · split at hk
    · rename_i e hu
      cases hx; cases hy
      refine plain (fun _ => by cases op <;> simp [eqGuard, Sem.run]) (eqv_sound hk (fun d w => ?_) rfl rfl)
      simp [Op.equalIn, run_underlying hu, Sem.run, Result.andThen]
    · cases hk
  · split at hk
    · rename_i e hu
      cases hx <;> cases hy <;> (refine plain (fun _ => by cases op <;> simp [eqGuard, Sem.run]) (eqv_sound hk (fun d w => ?_) rfl rfl) ; simp [Op.equalIn, run_underlying hu, Sem.run, Result.andThen])
    · cases hk
  · split at hk
    · rename_i e hu
      cases hx <;> cases hy <;> (refine plain (fun _ => by cases op <;> simp [eqGuard, Sem.run]) (eqv_sound hk (fun d w => ?_) rfl rfl) ; simp [Op.equalIn, run_underlying hu, Sem.run, Result.andThen])
    · cases hk
  · split at hk
    · rename_i e hu
      cases hx <;> cases hy <;> (refine plain (fun _ => by cases op <;> simp [eqGuard, Sem.run]) (eqv_sound hk (fun d w => ?_) rfl rfl) ; simp [Op.equalIn, run_underlying hu, Sem.run, Result.andThen])
    · cases hk
  · split at hk
    · rename_i e hu
      cases hx <;> cases hy <;> (refine plain (fun _ => by cases op <;> simp [eqGuard, Sem.run]) (eqv_sound hk (fun d w => ?_) rfl rfl) ; simp [Op.equalIn, run_underlying hu, Sem.run, Result.andThen])
    · cases hk
  · split at hk
    · rename_i e hu
      cases hx <;> cases hy <;> (refine plain (fun _ => by cases op <;> simp [eqGuard, Sem.run]) (eqv_sound hk (fun d w => ?_) rfl rfl) ; simp [Op.equalIn, run_underlying hu, Sem.run, Result.andThen])
    · cases hk
  · split at hk
    · rename_i e hu
      cases hx <;> cases hy <;> (refine plain (fun _ => by cases op <;> simp [eqGuard, Sem.run]) (eqv_sound hk (fun d w => ?_) rfl rfl) ; simp [Op.equalIn, run_underlying hu, Sem.run, Result.andThen])
    · cases hk
  · cases hk

end
end Go.Bas
