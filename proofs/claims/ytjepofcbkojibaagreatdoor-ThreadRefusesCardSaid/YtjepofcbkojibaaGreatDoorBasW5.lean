/- The engine, part Y: a run that comes to 'true' is the model's: the whole; and a function's run; The engine, part K: summaries asv a list, and a function's summary out of its run; The engine, part L: what a row's arguments read asv, seen abstractly; and a row's claim 'it returns; The engine, part M: pieces of code put together by hand: sequences, blocks, loops with a family of s; The engine, part Ma: a function's code with known loops: pieces at a function's own level, what is k; The engine, part Mb: blocks let go; The engine, part Mc: runs over code some pieces of which are known; regions with calls that are walk; The engine, part Md: loops gone through round by round, in stretches: a closed run is cut where one; The engine, part Me: a closed loop gone through round by round from known states, what its rounds ma; The engine, part Z: package-level tables that are listed with what they hold: their cells, for the r; The engine: answers to known arguments, kept asv a summary. -/
import Derived.Test.YtjepofcbkojibaaGreatDoorBasW4
import Derived.ProofKit
import Derived.LoopNIn
import Derived.LaidMore
import Derived.OpenShut
import Derived.Stop.Joined
set_option maxRecDepth 100000
set_option maxHeartbeats 4000000
set_option linter.unusedVariables false
set_option linter.unusedSimpArgs false
section
namespace Go.Bas
open Go.RowKit
section
variable {C : Cfg}
theorem range_sound (hC : C.Ok) {go : RunF Bool} (hA : RunOk C go) {w : World} {B oC oL : Nat -> Prop} {ω : Nat -> Option Nat} {st : St} {a : Act} {inr ro : Option Nat} {k : Ex -> St -> Bool} {Q : Exit -> Act -> World -> Prop} (S : Sim C w B oC oL ω st a) (hI : InR ω st.m.nx inr ro) (hQ : Outs C B w oC oL ω st.m.nx k Q)
  {g : Operand} {f : FuncId} {first cap : List AV} {fs cs : Array Value} (hv : a.eval g = .func (.func f) fs cs) (h1 : first.length = fs.size) (h2 : cap.length = cs.size) (h3 : ∀ i (h : i < first.length), Rep w (Or2 B oL) oC ω st.m.nx first[i] (fs.getD i undef)) (h4 : ∀ i (h : i < cap.length), Rep w (Or2 B oL) oC ω st.m.nx cap[i] (cs.getD i undef))
  {params : Array Tmp} {assign body : Code} (hk : loopM inr st params.toList assign body (fun id ds m => callR C go false (.fn f) (first ++ [.yld id] ++ cap) m (fun _ m' => afterK C st k id ds m') (fun v m' => k (.panic v) ⟨st.tmps, ds, m'⟩)) false = true) :
  (Code.rangeFunc g params assign body).wpIn (Fr ro) 0 C.P Q a w := by
 refine wpIn_rangeFunc fun fn _ => ?_
 obtain ⟨l, mark, w1, oL1, ω1, id, ds, m, e1, M1, E1, hid, hω, hm, hk1⟩ := loop_enter S hI hk fn
 have r1 : RepL w1 (Or2 B oL1) oC ω1 m.nx first fs := ⟨h1, fun i hi => (h3 i hi).extR E1⟩
 have r3 : RepL w1 (Or2 B oL1) oC ω1 m.nx cap cs := ⟨h2, fun i hi => (h4 i hi).extR E1⟩
 have r2 : RepL w1 (Or2 B oL1) oC ω1 m.nx [.yld id] #[.func (.yield l) #[] #[]] := ⟨rfl, fun i hi => match i, hi with | 0, _ => .yld _ _ _ hid hω⟩
 have hargs : RepL w1 (Or2 B oL1) oC ω1 m.nx (first ++ [.yld id] ++ cap) (fs ++ #[.func (.yield l) #[] #[]] ++ cs) :=
  RepL.append (RepL.append r1 r2) r3
 obtain ⟨c1, c2⟩ := call_sound hC hA (.fn f) _ m _ _ w1 B oC oL1 ω1 _ hk1 M1 hargs
 have hres : (resolve a.eval (rangeCall g l) 0).run C.P w1 = .ok { target := .fn (.func f) cs, args := fs ++ #[.func (.yield l) #[] #[]] } w1 := by
  simp [resolve, rangeCall, hv, Deferred.ofValue, Sem.run, show ∀ l, a.eval (.const (.func (.yield l) #[] #[])) = .func (.yield l) #[] #[] from fun _ => rfl]
 have hinv : (invoke (.fn (.func f) cs) (fs ++ #[.func (.yield l) #[] #[]])).run C.P w1 = .ok (.enter f (fs ++ #[.func (.yield l) #[] #[]] ++ cs)) w1 := by
  simp only [invoke]; exact c1
 exact ⟨l, mark, w1, _, w1, f, _, w1, e1, hres, fun _ _ => trivial, hinv, fr_deep ro, (callsIn_fr c2).mono fun e w' he => range_post S hQ E1 hid hω hm he⟩
set_option maxHeartbeats 2000000 in
theorem run_sound (hC : C.Ok) : ∀ n, RunOk C (run C n) /\
  (∀ (inr : Option Nat) (body code : Code) (st : St) (k : Ex -> St -> Bool) (w : World) (B oC oL : Nat -> Prop) (ω : Nat -> Option Nat) (a : Act) (Q : Exit -> Act -> World -> Prop) (ro : Option Nat),
   run C n inr (some body) code st k false = true -> Sim C w B oC oL ω st a -> InR ω st.m.nx inr ro -> Outs C B w oC oL ω st.m.nx k Q -> scopeIn (Fr ro) C.P body Q n code a w) /\
  (∀ (inr : Option Nat) (body : Code) (st : St) (k : Ex -> St -> Bool) (w : World) (B oC oL : Nat -> Prop) (ω : Nat -> Option Nat) (a : Act) (Q : Exit -> Act -> World -> Prop) (ro : Option Nat),
   run C n inr none (.loop body) st k false = true -> Sim C w B oC oL ω st a -> InR ω st.m.nx inr ro -> Outs C B w oC oL ω st.m.nx k Q -> Code.roundsIn (Fr ro) 0 C.P body Q n a w)
 | 0 => ⟨fun inr code st k w B oC oL ω a Q ro hk => (by cases hk), fun inr body code st k w B oC oL ω a Q ro hk => (by cases hk), fun inr body st k w B oC oL ω a Q ro hk => (by cases hk)⟩
 | n + 1 => by
  obtain ⟨hA, hS, hL⟩ := run_sound hC n
  have next : ∀ {w w1 : World} {B oC oL oC1 oL1 : Nat -> Prop} {ω ω1 : Nat -> Option Nat} {nx nx1 : Nat} {k : Ex -> St -> Bool} {Q : Exit -> Act -> World -> Prop}, Outs C B w oC oL ω nx k Q -> ExtR w oC oL ω nx w1 oC1 oL1 ω1 nx1 -> Outs C B w1 oC1 oL1 ω1 nx1 k Q := fun hQ E e st' a' w' oC' oL' ω' out S' E' hk ho => hQ e st' a' w' oC' oL' ω' out S' (E.trans E') hk ho
  have loopS : ∀ (inr : Option Nat) (body : Code) (st : St) (k : Ex -> St -> Bool) (w : World) (B oC oL : Nat -> Prop) (ω : Nat -> Option Nat) (a : Act) (Q : Exit -> Act -> World -> Prop) (ro : Option Nat),
    run C (n + 1) inr none (.loop body) st k false = true -> Sim C w B oC oL ω st a -> InR ω st.m.nx inr ro -> Outs C B w oC oL ω st.m.nx k Q -> Code.roundsIn (Fr ro) 0 C.P body Q (n + 1) a w := fun inr body st k w B oC oL ω a Q ro hk S hI hQ => by
   rw [roundsIn_succ]; refine hA inr body st _ w B oC oL ω a _ ro hk S hI (fun e st' a' w' oC' oL' ω' out S' E hk' ho => ?_)
   cases e with
   | normal => subst ho; exact hL inr body st' k w' B oC' oL' ω' a' Q ro hk' S' (hI.ext E) (next hQ E)
   | exit id => have h2 := hQ _ st' a' w' oC' oL' ω' out S' E hk' ho; subst ho; exact h2
   | goto l => have h2 := hQ _ st' a' w' oC' oL' ω' out S' E hk' ho; subst ho; exact h2
   | ret => have h2 := hQ _ st' a' w' oC' oL' ω' out S' E hk' ho; subst ho; exact h2
   | panic v => have h2 := hQ _ st' a' w' oC' oL' ω' out S' E hk' ho; obtain ⟨u, rfl, _⟩ := ho; exact h2
  refine ⟨?_, ?_, loopS⟩
  ·intro inr code st k w B oC oL ω a Q ro hk S hI hQ
   have hk0 := hk; rw [run_succ] at hk; unfold runStep at hk; cases code <;> simp only at hk <;> try cases hk
   case skip => exact wpIn_skip (hQ .normal st a w oC oL ω _ S ExtR.refl hk rfl)
   case label l => exact wpIn_label (hQ .normal st a w oC oL ω _ S ExtR.refl hk rfl)
   case ret => exact wpIn_ret (hQ .ret st a w oC oL ω _ S ExtR.refl hk rfl)
   case exit id => exact wpIn_exit (hQ (.exit id) st a w oC oL ω _ S ExtR.refl hk rfl)
   case goto l => exact wpIn_goto (hQ (.goto l) st a w oC oL ω _ S ExtR.refl hk rfl)
   case seq x y =>
    refine wpIn_seq (hA inr x st _ w B oC oL ω a _ ro hk S hI (fun e st' a' w' oC' oL' ω' out S' E hk' ho => ?_))
    cases e with
    | normal => subst ho; exact hA inr y st' k w' B oC' oL' ω' a' Q ro hk' S' (hI.ext E) (next hQ E)
    | exit id => have h2 := hQ _ st' a' w' oC' oL' ω' out S' E hk' ho; subst ho; exact h2
    | goto l => have h2 := hQ _ st' a' w' oC' oL' ω' out S' E hk' ho; subst ho; exact h2
    | ret => have h2 := hQ _ st' a' w' oC' oL' ω' out S' E hk' ho; subst ho; exact h2
    | panic v => have h2 := hQ _ st' a' w' oC' oL' ω' out S' E hk' ho; obtain ⟨u, rfl, _⟩ := ho; exact h2
   case cond c x y =>
    split at hk
    ·rename_i t ht
     have hev := S.ev c; rw [ht] at hev; generalize hv : a.eval c = u at hev; cases hev
     have hset : ∀ b, b = t -> setO st.tmps c (.bool b) = st.tmps := fun b e => by
      subst e; cases c with
      | tmp d => exact lset_same ht
      | _ => rfl
     rcases of_cond2 hk with ⟨h1, h2⟩ | ⟨h1, h2⟩
     ·rw [hset true h1.symm] at h2
      exact wpIn_cond_true (by rw [hv, h1]) (hA inr x st k w B oC oL ω a Q ro h2 S hI hQ)
     ·rw [hset false h1.symm] at h2
      exact wpIn_cond_false (by rw [hv, h1]) (hA inr y st k w B oC oL ω a Q ro h2 S hI hQ)
    ·cases hk
   case block id body =>
    refine wpIn_block (hA inr body st _ w B oC oL ω a _ ro hk S hI (fun e st' a' w' oC' oL' ω' out S' E hk' ho => ?_))
    cases e with
    | normal => subst ho; exact hQ .normal _ _ _ _ _ _ _ S' E hk' rfl
    | exit id' =>
     subst ho; simp only [Exit.inBlock]
     rcases of_cond2 hk' with ⟨h1, h2⟩ | ⟨h1, h2⟩
     ·rw [if_pos (of_beq h1)]; exact hQ .normal _ _ _ _ _ _ _ S' E h2 rfl
     ·rw [if_neg (fun e => by rw [(beq_iff _ _).2 e] at h1; cases h1)]; exact hQ (.exit id') _ _ _ _ _ _ _ S' E h2 rfl
    | goto l => have h2 := hQ _ st' a' w' oC' oL' ω' out S' E hk' ho; subst ho; exact h2
    | ret => have h2 := hQ _ st' a' w' oC' oL' ω' out S' E hk' ho; subst ho; exact h2
    | panic v => have h2 := hQ _ st' a' w' oC' oL' ω' out S' E hk' ho; obtain ⟨u, rfl, _⟩ := ho; exact h2
   case loop body => exact wpIn_loop_rounds (n + 1) (loopS inr body st k w B oC oL ω a Q ro hk0 S hI hQ)
   case scope body => exact wpIn_scopeIn (hS inr body body st k w B oC oL ω a Q ro hk S hI hQ)
   case region id ops draw =>
    cases draw with
    | false =>
     simp only [cond_false] at hk; refine wpIn_region ?_
     have := ops_sound (ro := ro) (Q := Q) (ops := ops) (call_sound hC hA) ops.toList 0 rfl st a w oC oL ω hk S (fun st' a' w' oC' oL' ω' S' E hk' => hQ .normal _ _ _ _ _ _ _ S' E hk' rfl)
      (fun v u st' a' w' oC' oL' ω' S' E hk' hr => hQ (.panic v) _ _ _ _ _ _ _ S' E hk' ⟨u, rfl, hr⟩)
     rw [List.range_eq_range']
     simpa using this
    | true =>
     simp only [cond_true] at hk; exact draw_sound hC hA hk S (fun st' a' w' oC' oL' ω' S' E hk' => hQ .normal _ _ _ _ _ _ _ S' E hk' rfl)
   case rangeFunc g params assign body =>
    split at hk
    ·rename_i f first cap hg
     have hev := S.ev g; rw [hg] at hev; generalize hv : a.eval g = gv at hev; cases hev with
     | fn _ _ _ _ fs cs h1 h2 h3 h4 =>
      exact range_sound hC hA S hI hQ hv h1 h2 h3 h4 hk
    ·cases hk
  ·intro inr body code st k w B oC oL ω a Q ro hk S hI hQ
   rw [run_succ] at hk; unfold runStep at hk; simp only at hk; refine hA inr code st _ w B oC oL ω a _ ro hk S hI (fun e st' a' w' oC' oL' ω' out S' E hk' ho => ?_)
   cases e with
   | normal => have h2 := hQ _ st' a' w' oC' oL' ω' out S' E hk' ho; subst ho; exact h2
   | exit id => have h2 := hQ _ st' a' w' oC' oL' ω' out S' E hk' ho; subst ho; exact h2
   | ret => have h2 := hQ _ st' a' w' oC' oL' ω' out S' E hk' ho; subst ho; exact h2
   | panic v => have h2 := hQ _ st' a' w' oC' oL' ω' out S' E hk' ho; obtain ⟨u, rfl, _⟩ := ho; exact h2
   | goto l =>
    subst ho; simp only at hk' ⊢; split at hk'
    ·rename_i rest hf
     simp only [hf]; exact hS inr body rest st' k w' B oC' oL' ω' a' Q ro hk' S' (hI.ext E) (next hQ E)
    ·rename_i hf
     simp only [hf]; exact hQ (.goto l) _ _ _ _ _ _ _ S' E hk' rfl
theorem runF_sound (hC : C.Ok) {n : Nat} {f : FuncId} {args : List AV} {k : AV -> Bool} (hk : runF C n f args k false = true) : ACalls C.P C.G f args (fun v => k v = true) := by
 unfold runF at hk
 split at hk
 ·rename_i fn hfn
  split at hk
  ·rename_i c hb
   exact stand_sound hC (run_sound hC n).1 fn c f args k hfn hb hk
  ·cases hk
 ·cases hk
end
end Go.Bas
end
section
namespace Go.Bas
open Go.RowKit
abbrev Sum := FuncId × (List AV -> Option (Bool × AV))
def lookS : List Sum -> FuncId -> Option (List AV -> Option (Bool × AV))
 | [], _ => none
 | s :: r, g => cond (Nat.beq s.1 g) (some s.2) (lookS r g)
def SumOk (P : Program) (G : Nat -> Option (List AV)) (s : Sum) : Prop := ∀ args r, s.2 args = some (true, r) -> ACalls P G s.1 args (fun v => v = r)
structure Base (P : Program) : Prop where
 mixed : P.follows .mixedOrders = true
 names : (P.funcs.toList.all fun fn => !(fn.name == "runtime.NumGoroutine")) = true
theorem cfg_ok {P : Program} {G : Nat -> Option (List AV)} {q : FuncId -> Bool} (h : Base P) {l : List Sum} (hl : ∀ s ∈ l, SumOk P G s) : Cfg.Ok ⟨P, G, lookS l, q, fun _ => none⟩ where
 sums f F hf args r hr := by
  have key : ∀ l : List Sum, (∀ s ∈ l, SumOk P G s) -> lookS l f = some F -> ACalls P G f args (fun v => v = r) := by
   intro l
   induction l with
   | nil => intro _ h; cases h
   | cons s l ih =>
    intro hl hf; simp only [lookS] at hf; cases hb : Nat.beq s.1 f with
    | true =>
     rw [hb] at hf; simp only [cond_true, Option.some.injEq] at hf; have := hl s (List.mem_cons_self ..) args r (by rw [hf]; exact hr)
     rw [of_beq hb] at this; exact this
    | false =>
     rw [hb] at hf; exact ih (fun s hs => hl s (List.mem_cons_of_mem _ hs)) hf
  exact key l hl hf
 inpl f F hF := by cases hF
 mixed := h.mixed
 names f fn hfn := by
  have := List.all_eq_true.1 h.names fn (by
   have : P.funcs.toList[f]? = some fn := by rw [Array.getElem?_toList]; exact hfn
   exact List.mem_of_getElem? this)
  simpa using this
abbrev Inp := FuncId × (List AV -> Mem -> TrM)
def lookX : List Inp -> FuncId -> Option (List AV -> Mem -> TrM)
 | [], _ => none
 | s :: r, g => cond (Nat.beq s.1 g) (some s.2) (lookX r g)
theorem cfg_okX {P : Program} {G : Nat -> Option (List AV)} {q : FuncId -> Bool} (h : Base P) {l : List Sum} (hl : ∀ s ∈ l, SumOk P G s) {x : List Inp} (hx : ∀ s ∈ x, InpOk ⟨P, G, lookS l, q, fun _ => none⟩ s.1 s.2) : Cfg.Ok ⟨P, G, lookS l, q, lookX x⟩ where
 sums := (cfg_ok (q := q) h hl).sums
 mixed := h.mixed
 names := (cfg_ok (q := q) h hl).names
 inpl f F hf := by
  have key : ∀ x : List Inp, (∀ s ∈ x, InpOk ⟨P, G, lookS l, q, fun _ => none⟩ s.1 s.2) -> lookX x f = some F -> InpOk ⟨P, G, lookS l, q, fun _ => none⟩ f F := by
   intro x
   induction x with
   | nil => intro _ h; cases h
   | cons s x ih =>
    intro hx hf; simp only [lookX] at hf; cases hb : Nat.beq s.1 f with
    | true =>
     rw [hb] at hf; simp only [cond_true, Option.some.injEq] at hf; have := hx s (List.mem_cons_self ..); rw [of_beq hb, hf] at this; exact this
    | false =>
     rw [hb] at hf; exact ih (fun s hs => hx s (List.mem_cons_of_mem _ hs)) hf
  exact InpOk.cfg (C := ⟨P, G, lookS l, q, fun _ => none⟩) (C' := ⟨P, G, lookS l, q, lookX x⟩) rfl rfl (key x hx hf)
theorem sums_nil {P : Program} {G : Nat -> Option (List AV)} : ∀ s ∈ ([] : List Sum), SumOk P G s := fun _ h => by cases h
theorem sums_cons {P : Program} {G : Nat -> Option (List AV)} {s : Sum} {l : List Sum} (h : SumOk P G s) (hl : ∀ s ∈ l, SumOk P G s) : ∀ t ∈ s :: l, SumOk P G t := fun t ht => by
 rcases List.mem_cons.1 ht with rfl | h'
 ·exact h
 ·exact hl t h'
theorem acalls_eqQ {P : Program} {G : Nat -> Option (List AV)} {q : FuncId -> Bool} (h : Base P) {l : List Sum} (hl : ∀ s ∈ l, SumOk P G s) {f : FuncId} {args : List AV} {r : AV} {n : Nat}
  (hrun : ∀ k : AV -> Bool, k r = true -> runF ⟨P, G, lookS l, q, fun _ => none⟩ n f args k false = true) : ACalls P G f args (fun v => v = r) := by
 classical
 have := runF_sound (cfg_ok h hl) (hrun (fun v => decide (v = r)) (by simp))
 exact this.mono fun v hv => by simpa using hv
theorem acalls_eq {P : Program} {G : Nat -> Option (List AV)} (h : Base P) {l : List Sum} (hl : ∀ s ∈ l, SumOk P G s) {f : FuncId} {args : List AV} {r : AV} {n : Nat}
  (hrun : ∀ k : AV -> Bool, k r = true -> runF ⟨P, G, lookS l, fun _ => false, fun _ => none⟩ n f args k false = true) : ACalls P G f args (fun v => v = r) := acalls_eqQ h hl hrun
end Go.Bas
end
section
namespace Go.Bas
open Go.RowKit Go.ChangeShapes Go.WideShapes
def CellsOk : List CK -> List Value -> Prop
 | [], cs => cs = []
 | .b :: ks, cs => ∃ (b : Bool) (r : List Value), cs = .bool b :: r /\ CellsOk ks r
 | .i k :: ks, cs => ∃ (n : Int) (r : List Value), cs = .int k n :: r /\ (Lit.int k n).wf = true /\ CellsOk ks r
 | .s :: _, _ => False
 | .o :: _, _ => False
theorem CellsOk.append : ∀ {ks ms : List CK} {a b : List Value}, CellsOk ks a -> CellsOk ms b -> CellsOk (ks ++ ms) (a ++ b)
 | [], ms, a, b, h1, h2 => by
  obtain rfl : a = [] := h1; exact h2
 | .b :: ks, ms, a, b, ⟨x, r, e, h1⟩, h2 => ⟨x, r ++ b, by rw [e]; rfl, h1.append h2⟩
 | .i k :: ks, ms, a, b, ⟨x, r, e, hw, h1⟩, h2 => ⟨x, r ++ b, by rw [e]; rfl, hw, h1.append h2⟩
 | .s :: _, _, _, _, h1, _ => h1.elim
 | .o :: _, _, _, _, h1, _ => h1.elim
theorem CellsOk.length : ∀ {ks : List CK} {a : List Value}, CellsOk ks a -> a.length = ks.length
 | [], a, h => by obtain rfl : a = [] := h; rfl
 | .b :: ks, a, ⟨x, r, e, h1⟩ => by rw [e]; simp [h1.length]
 | .i k :: ks, a, ⟨x, r, e, hw, h1⟩ => by rw [e]; simp [h1.length]
 | .s :: _, _, h1 => h1.elim
 | .o :: _, _, h1 => h1.elim
section
variable {H : Type} {enc : TypeId × Value -> H} {P : Program} {w : World} {base : Nat} {spare : Nat -> Bool} {held : Bool}
theorem flatFs_cells {g : TypeId -> Option (List CK)} (hg : ∀ t ks, g t = some ks -> ∀ fuel cs x, P.cellsOf t = ks.length -> DataW.trod enc P w base spare held fuel t cs = some x -> CellsOk ks cs) {cs : List Value} {n : Nat} :
  ∀ (r : List Field) (ks all : List CK), flatFs P g r ks = some all -> cs.length = all.length -> (∀ f ∈ r, ∃ y, DataW.trod enc P w base spare held n f.type ((cs.drop f.offset).take (P.cellsOf f.type)) = some y) ->
  ∃ rest, all = ks ++ rest /\ CellsOk rest (cs.drop ks.length)
 | [], ks, all, h, hl, _ => by
  obtain rfl := Option.some.inj h; exact ⟨[], by simp, List.drop_eq_nil_of_le (by omega)⟩
 | f :: r, ks, all, h, hl, hf => by
  simp only [flatFs] at h; cases hc : (Nat.beq f.offset ks.length && f.name != "_") with
  | false => rw [hc] at h; cases h
  | true =>
   rw [hc] at h; simp only [cond_true] at h; obtain ⟨c1, c2⟩ := of_and hc
   replace c1 := of_beq c1
   split at h
   ·rename_i ms i hms hi
    cases hb : Nat.beq i.size ms.length with
    | false => rw [hb] at h; cases h
    | true =>
     rw [hb] at h; simp only [cond_true] at h
     replace hb := of_beq hb
     have hco : P.cellsOf f.type = ms.length := by simp [Program.cellsOf, hi, hb]
     obtain ⟨rest, e, h2⟩ := flatFs_cells hg r (ks ++ ms) all h hl (fun f hf' => hf f (List.mem_cons_of_mem _ hf'))
     obtain ⟨y, hy⟩ := hf f (List.mem_cons_self ..); rw [c1, hco] at hy; have h1 := hg _ _ hms _ _ _ hco hy; refine ⟨ms ++ rest, by rw [e, List.append_assoc], ?_⟩
     have := h1.append h2
     rwa [List.length_append, <- List.drop_drop, List.take_append_drop] at this
   ·cases h
theorem flat_cells : ∀ (d : Nat) (t : TypeId) (ks : List CK), flatT P d t = some ks -> ∀ fuel cs x, P.cellsOf t = ks.length -> DataW.trod enc P w base spare held fuel t cs = some x -> CellsOk ks cs
 | 0, _, _, h => by cases h
 | d + 1, t, ks, h => fun fuel cs x hc hx => by
  simp only [flatT] at h; split at h
  ·rename_i hu
   obtain rfl := Option.some.inj h; obtain ⟨b, rfl, _⟩ := DataW.trod_bool hu hx; exact ⟨b, [], rfl, rfl⟩
  ·rename_i k hu
   obtain rfl := Option.some.inj h; obtain ⟨n, rfl, _, hw⟩ := DataW.trod_int hu hx; exact ⟨n, [], rfl, hw, rfl⟩
  ·rename_i fs hu
   cases hst : P.stoodInHeld t with
   | true => rw [hst] at h; cases h
   | false =>
    rw [hst] at h; simp only [cond_false] at h; obtain ⟨xs, n, _, _, hl, hlen, hf⟩ := DataW.trod_struct hu hx
    obtain ⟨rest, e, h2⟩ := flatFs_cells (cs := cs) (n := n) (flat_cells d) fs.toList [] ks h (by omega) (fun f hf' => by
     obtain ⟨i, hi, e⟩ := List.mem_iff_getElem.1 hf'; have hi' : i < fs.size := by simpa using hi
     have := hf i f (by rw [<- e]; simp)
     rw [this]; exact ⟨_, List.getElem?_eq_getElem (by omega)⟩)
    simp only [List.nil_append] at e; subst e
    simpa using h2
  ·cases h
theorem open_flat {r : Reach} {b0 : Nat} {t : TypeId} {v : Value} {d : DataW H} {ps : List MemPlace} {fs : Array Field} {ks : List CK} (ht : P.underlying t = some (.struct fs)) (hf : flatT P 8 t = some ks) (hc : P.cellsOf t = ks.length)
  (hval : Value.okWide P w r b0 t v) (hd : DataW.Trod enc P w base spare held t v d ps) : ∃ l, v = .agg (List.toArray l) /\ CellsOk ks l := by
 simp only [Value.okWide, ht] at hval
 obtain ⟨cs, rfl, _, _⟩ := hval
 obtain ⟨fuel, hx⟩ := hd
 exact ⟨cs.toList, by simp, flat_cells 8 t ks hf _ _ _ hc (by simpa [Value.cells] using hx)⟩
theorem cells?_get {a : Addr} {n : Nat} {cs : List Value} (h : w.cells? base a n = some cs) : cs.length = n /\ ∀ j (hj : j < cs.length), w.cell? (a.add j) = some cs[j] := by
 unfold World.cells? at h
 split at h
 ·have key : ∀ (l : List Nat) (cs : List Value), l.mapM (fun i => w.cell? (a.add i)) = some cs -> cs.length = l.length /\ ∀ j (hj : j < cs.length) (hj' : j < l.length), w.cell? (a.add l[j]) = some cs[j] := by
   intro l
   induction l with
   | nil => intro cs h; simp at h; subst h; exact ⟨rfl, fun j hj => absurd hj (Nat.not_lt_zero _)⟩
   | cons i l ih =>
    intro cs h; simp only [List.mapM_cons, Option.bind_eq_bind, Option.bind_eq_some_iff, Option.pure_def, Option.some.injEq] at h; obtain ⟨c, h1, r, h2, rfl⟩ := h; obtain ⟨e1, e2⟩ := ih r h2; refine ⟨by simp [e1], fun j hj hj' => ?_⟩
    cases j with
    | zero => exact h1
    | succ j => exact e2 j (by simpa using hj) (by simpa using hj')
  obtain ⟨e1, e2⟩ := key _ _ h
  exact ⟨by simpa using e1, fun j hj => by
   have := e2 j hj (by rw [<- e1]; exact hj)
   rwa [List.getElem_range] at this⟩
 ·cases h
theorem flat_at {sz : Nat} : ∀ (rows : List (List Value)), (∀ r ∈ rows, r.length = sz) -> ∀ i j, i < rows.length -> j < sz -> rows.flatten[i * sz + j]? = (rows.getD i [])[j]?
 | [], _, i, j, hi, _ => absurd hi (Nat.not_lt_zero _)
 | r :: rows, h, 0, j, _, hj => by
  have hr := h r (List.mem_cons_self ..); simp only [List.flatten_cons, Nat.zero_mul, Nat.zero_add]; rw [List.getElem?_append_left (by omega)]
  rfl
 | r :: rows, h, i + 1, j, hi, hj => by
  have hr := h r (List.mem_cons_self ..); have e : (i + 1) * sz + j = r.length + (i * sz + j) := by rw [Nat.succ_mul]; omega
  simp only [List.flatten_cons]; rw [e, List.getElem?_append_right (Nat.le_add_right _ _), Nat.add_sub_cancel_left]; rw [flat_at rows (fun r hr => h r (List.mem_cons_of_mem _ hr)) i j (by simpa using hi) hj]
  rfl
theorem flatten_len {sz : Nat} : ∀ (rows : List (List Value)), (∀ r ∈ rows, r.length = sz) -> rows.flatten.length = rows.length * sz
 | [], _ => by simp
 | r :: rows, h => by
  have hr := h r (List.mem_cons_self ..); simp only [List.flatten_cons, List.length_append, List.length_cons, flatten_len rows (fun r hr => h r (List.mem_cons_of_mem _ hr)), hr, Nat.succ_mul]
  omega
end
theorem Still.below {w w' : World} (E : Still w w') : Below w.heap.size w w' := ⟨E.os, E.tape, E.output, E.size, fun k hk => E.old k hk (fun h => h)⟩
def rowed (P : Program) (ts : List TypeId) : Bool := ts.all fun t => P.readableRec t && decide (t < P.types.size)
theorem trodAll_below {H : Type} {enc : TypeId × Value -> H} {P : Program} (hl : laidOutB P = true) {W W' : World} (hb : Below W.heap.size W W') {sp : Nat -> Bool} : ∀ {ts : List TypeId} {vs : List Value} {ds : List (DataW H)} {ps : List MemPlace}, rowed P ts = true ->
  (∀ x ∈ ps, x.block < W.heap.size) -> (∀ x ∈ ps, sp x.block = true) -> DataW.TrodAll enc P W 0 (fun _ => true) true ts vs ds ps -> DataW.TrodAll enc P W' 0 sp true ts vs ds ps
 | [], [], [], _, _, _, _, h => h
 | t :: ts, v :: vs, d :: ds, ps, hr, hlt, hsp, ⟨p, q, h1, h2, e⟩ => by
  subst e; simp only [rowed, List.all_cons, Bool.and_eq_true, decide_eq_true_eq] at hr; refine ⟨p, q, ?_, trodAll_below hl hb (by simpa [rowed] using hr.2) (fun x hx => hlt x (List.mem_append_right _ hx)) (fun x hx => hsp x (List.mem_append_right _ hx)) h2, rfl⟩
  exact WideElems.Trod_stays hl hr.1.1 hr.1.2 h1 (fun x hx => hb.same (hlt x (List.mem_append_left _ hx))) (fun x hx => hsp x (List.mem_append_left _ hx))
 | [], _ :: _, _, _, _, _, _, h => h.elim
 | [], [], _ :: _, _, _, _, _, h => h.elim
 | _ :: _, [], _, _, _, _, _, h => h.elim
 | _ :: _, _ :: _, [], _, _, _, _, h => h.elim
theorem post_true {H : Type} {enc : TypeId × Value -> H} {P : Program} {f : Func} {s : ChangeSpec} {apart fresh handsOn again : Bool} {W W' : World} {args : Array Value} {ds gs : List (DataW H)} {before : List MemPlace} {t : TypeId}
  (hl : laidOutB P = true) (hr : rowed P f.params.toList = true) (hv : s.vars = [])
  (hW : DataW.Whole enc P f.params.toList s.vars apart W args.toList ds gs before) (hb : Below W.heap.size W W') (hres : f.resultTypes = #[t]) (ht : P.underlying t = some .bool)
  (h1 : (s.fn H (ds ++ gs)).results = [.lit (.bool true)]) (h2 : (s.fn H (ds ++ gs)).args = ds) (h3 : (s.fn H (ds ++ gs)).vars = []) :
  s.post enc P f apart fresh handsOn again W args (.bool true) W' := by
 have hlt := hW.lt
 have hW0 := hW
 obtain ⟨p, q, hA, hV, rfl, hz, hn⟩ := hW
 rw [hv] at hV
 obtain ⟨rfl, rfl⟩ := trodVars_none hV
 have hr1 : ∀ (b : Nat) (sp : Nat -> Bool) (hd : Bool), DataW.TrodAll enc P W' b sp hd f.resultTypes.toList ((Value.bool true).resultList f.resultTypes.size) (s.fn H (ds ++ [])).results [] := fun b sp hd => by
  rw [hres, h1]; exact trodAll_mk1 (shut_bool ht true)
 have hr2 : ∀ sp : Nat -> Bool, (∀ x ∈ p, sp x.block = true) -> DataW.TrodAll enc P W' 0 sp true f.params.toList args.toList ds p := fun sp hs =>
  trodAll_below hl hb hr (fun x hx => hlt x (List.mem_append_left _ hx)) hs hA
 refine ⟨ds, [], p ++ [], [], p, [], hW0, hr1 _ _ _, by rw [h2]; exact hr2 _ (fun x hx => by simpa using hlt x (List.mem_append_left _ hx)), by rw [hv, h3]; exact rfl, World.keptBut_mono (fun _ h => h.elim) (hb.frame fun _ => False), fun _ => ⟨?_, (s.fn H (ds ++ [])).results ++ ds, [], [] ++ p, ⟨[] ++ p, [], trodAll_append (hr2 _ (fun _ _ => rfl)) (hr1 _ _ _), by rw [hv]; exact rfl, by simp, ?_, ?_⟩, ?_⟩⟩
 ·rw [hres]
  intro j t' r hj hx
  match j, hj, hx with
  | 0, hj, hx =>
   simp [Value.resultList] at hj hx; subst hj; subst hx; exact okWide_bool_mk ht true
 ·intro b off hp
  have hp' : MemPlace.cell b off ∈ p ++ [] := by simpa using hp
  rw [hb.frozen (p := ⟨b, off, none⟩) (hlt _ hp')]; exact hz b off hp'
 ·intro ha
  have := hn ha
  simpa using this
 ·intro x hx _
  simpa using hx
theorem rep_cells {w : World} {B : Nat -> Prop} {own : Nat -> Prop} {ω : Nat -> Option Nat} {nx : Nat} (l : List Value) : Rep w B own ω nx (.agg (l.map ofS)) (.agg l.toArray) := by
 have := repL_ofS (w := w) (B := B) (own := own) (ω := ω) (nx := nx) l.toArray
 exact .agg _ _ _ this.1 this.2
theorem repL_nil {w : World} {B : Nat -> Prop} {own : Nat -> Prop} {ω : Nat -> Option Nat} {nx : Nat} : RepL w B own ω nx [] #[] := ⟨rfl, fun i hi => absurd hi (Nat.not_lt_zero _)⟩
theorem repL_cons {w : World} {B : Nat -> Prop} {own : Nat -> Prop} {ω : Nat -> Option Nat} {nx : Nat} {v : AV} {u : Value} {vs : List AV} {us : List Value} (h : Rep w B own ω nx v u) (hs : RepL w B own ω nx vs us.toArray) : RepL w B own ω nx (v :: vs) (u :: us).toArray := by
 refine repL_of (by simpa using hs.1) (fun j a x ha hx => ?_)
 cases j with
 | zero => simp at ha hx; subst ha hx; exact h
 | succ j => exact hs.at (by simpa using ha) (by simpa using hx)
theorem wrap_eq {k : IntKind} {n : Int} (h : (Lit.int k n).wf = true) : k.wrap n = n := by
 simp only [Lit.wf, Bool.and_eq_true, decide_eq_true_eq] at h
 unfold IntKind.wrap
 cases k <;> simp [IntKind.min, IntKind.max, IntKind.bits, IntKind.signed] at h ⊢ <;> omega
theorem wf_iff {k : IntKind} {n : Int} : (Lit.int k n).wf = true ↔ k.min <= n /\ n <= k.max := by simp [Lit.wf]
end Go.Bas
end
section
namespace Go.Bas
noncomputable section
open Go.RowKit
def AWp (C : Cfg) (inr : Option Nat) (code : Code) (st : St) (K : Ex -> St -> Prop) : Prop :=
 ∀ (w : World) (B oC oL : Nat -> Prop) (ω : Nat -> Option Nat) (a : Act) (Q : Exit -> Act -> World -> Prop) (ro : Option Nat), Sim C w B oC oL ω st a -> InR ω st.m.nx inr ro ->
  (∀ e st' a' w' oC' oL' ω' out, Sim C w' B oC' oL' ω' st' a' -> ExtR w oC oL ω st.m.nx w' oC' oL' ω' st'.m.nx -> K e st' -> OutIs w' B oC' oL' ω' st'.m.nx e out -> Q out a' w') -> code.wpIn (Fr ro) 0 C.P Q a w
section
variable {C : Cfg} {K K' : Ex -> St -> Prop} {st : St} {inr : Option Nat}
theorem AWp.mono {code : Code} (hk : ∀ e s, K e s -> K' e s) (h : AWp C inr code st K) : AWp C inr code st K' := fun w B oC oL ω a Q ro S hI hQ =>
 h w B oC oL ω a Q ro S hI (fun e st' a' w' oC' oL' ω' out S' E k ho => hQ e st' a' w' oC' oL' ω' out S' E (hk e st' k) ho)
theorem AWp.run (hC : C.Ok) {n : Nat} {code : Code} (h : ∀ k : Ex -> St -> Bool, (∀ e s, K e s -> k e s = true) -> Bas.run C n inr none code st k false = true) : AWp C inr code st K := fun w B oC oL ω a Q ro S hI hQ => by
 classical
 exact (run_sound hC n).1 inr code st _ w B oC oL ω a Q ro (h (fun e s => decide (K e s)) (fun e s hk => decide_eq_true hk)) S hI (fun e st' a' w' oC' oL' ω' out S' E hk ho => hQ e st' a' w' oC' oL' ω' out S' E (of_decide_eq_true hk) ho)
theorem AWp.seq {x y : Code} (h : AWp C inr x st (fun e s => match e with | .normal => AWp C inr y s K | e => K e s)) : AWp C inr (.seq x y) st K := fun w B oC oL ω a Q ro S hI hQ => by
 refine wpIn_seq (h w B oC oL ω a _ ro S hI (fun e st' a' w' oC' oL' ω' out S' E hk ho => ?_))
 cases e with
 | normal => subst ho; exact hk w' B oC' oL' ω' a' Q ro S' (hI.ext E) (fun e2 st2 a2 w2 oC2 oL2 ω2 out2 S2 E2 hk2 ho2 => hQ e2 st2 a2 w2 oC2 oL2 ω2 out2 S2 (E.trans E2) hk2 ho2)
 | exit id => have h2 := hQ _ st' a' w' oC' oL' ω' out S' E hk ho; subst ho; exact h2
 | goto l => have h2 := hQ _ st' a' w' oC' oL' ω' out S' E hk ho; subst ho; exact h2
 | ret => have h2 := hQ _ st' a' w' oC' oL' ω' out S' E hk ho; subst ho; exact h2
 | panic v => have h2 := hQ _ st' a' w' oC' oL' ω' out S' E hk ho; obtain ⟨u, rfl, _⟩ := ho; exact h2
theorem AWp.block {id : Nat} {body : Code} (h : AWp C inr body st (fun e s => match e with | .exit id' => (id' = id -> K .normal s) /\ (id' ≠ id -> K (.exit id') s) | e => K e s)) : AWp C inr (.block id body) st K := fun w B oC oL ω a Q ro S hI hQ => by
 refine wpIn_block (h w B oC oL ω a _ ro S hI (fun e st' a' w' oC' oL' ω' out S' E hk ho => ?_))
 cases e with
 | normal => exact hQ .normal _ _ _ _ _ _ out S' E hk ho |> fun h2 => by subst ho; exact h2
 | exit id' =>
  subst ho; simp only [Exit.inBlock]
  by_cases h : id' = id
  ·rw [if_pos h]; exact hQ .normal _ _ _ _ _ _ _ S' E (hk.1 h) rfl
  ·rw [if_neg h]; exact hQ (.exit id') _ _ _ _ _ _ _ S' E (hk.2 h) rfl
 | goto l => have h2 := hQ _ st' a' w' oC' oL' ω' out S' E hk ho; subst ho; exact h2
 | ret => have h2 := hQ _ st' a' w' oC' oL' ω' out S' E hk ho; subst ho; exact h2
 | panic v => have h2 := hQ _ st' a' w' oC' oL' ω' out S' E hk ho; obtain ⟨u, rfl, _⟩ := ho; exact h2
theorem AWp.cond {c : Operand} {x y : Code} {t : Bool} (hc : evO C st.tmps c = .bool t) (hx : t = true -> AWp C inr x st K) (hy : t = false -> AWp C inr y st K) : AWp C inr (.cond c x y) st K := fun w B oC oL ω a Q ro S hI hQ => by
 have hev := S.ev c
 rw [hc] at hev
 generalize hv : a.eval c = u at hev
 cases hev
 cases t with
 | true => exact wpIn_cond_true hv (hx rfl w B oC oL ω a Q ro S hI hQ)
 | false => exact wpIn_cond_false hv (hy rfl w B oC oL ω a Q ro S hI hQ)
theorem AWp.loop {ι : Type} {body : Code} (I : ι -> St) (μ : ι -> Nat) (h : ∀ i, AWp C inr body (I i) (fun e s => match e with | .normal => ∃ j, s = I j /\ μ j < μ i | e => K e s)) (i : ι) : AWp C inr (.loop body) (I i) K := fun w B oC oL ω a Q ro S hI hQ => by
 have key : ∀ (m : Nat) (i : ι) (a : Act) (w : World) (oC oL : Nat -> Prop) (ω : Nat -> Option Nat), μ i < m -> Sim C w B oC oL ω (I i) a -> InR ω (I i).m.nx inr ro ->
   (∀ e st' a' w' oC' oL' ω' out, Sim C w' B oC' oL' ω' st' a' -> ExtR w oC oL ω (I i).m.nx w' oC' oL' ω' st'.m.nx -> K e st' -> OutIs w' B oC' oL' ω' st'.m.nx e out -> Q out a' w') -> Code.roundsIn (Fr ro) 0 C.P body Q m a w := by
  intro m
  induction m with
  | zero => intro i a w oC oL ω h; exact absurd h (Nat.not_lt_zero _)
  | succ m ih =>
   intro i a w oC oL ω hm S hI hQ; rw [roundsIn_succ]; refine h i w B oC oL ω a _ ro S hI (fun e st' a' w' oC' oL' ω' out S' E hk ho => ?_)
   cases e with
   | normal =>
    obtain ⟨j, rfl, hj⟩ := hk; subst ho; exact ih j a' w' oC' oL' ω' (by omega) S' (hI.ext E) (fun e2 st2 a2 w2 oC2 oL2 ω2 out2 S2 E2 hk2 ho2 => hQ e2 st2 a2 w2 oC2 oL2 ω2 out2 S2 (E.trans E2) hk2 ho2)
   | exit id => have h2 := hQ _ st' a' w' oC' oL' ω' out S' E hk ho; subst ho; exact h2
   | goto l => have h2 := hQ _ st' a' w' oC' oL' ω' out S' E hk ho; subst ho; exact h2
   | ret => have h2 := hQ _ st' a' w' oC' oL' ω' out S' E hk ho; subst ho; exact h2
   | panic v => have h2 := hQ _ st' a' w' oC' oL' ω' out S' E hk ho; obtain ⟨u, rfl, _⟩ := ho; exact h2
 exact wpIn_loop_rounds (μ i + 1) (key (μ i + 1) i a w oC oL ω (Nat.lt_succ_self _) S hI hQ)
open Classical in
def goA (C : Cfg) : RunF Bool := fun inr sc code st k _ => match sc with
 | none => decide (AWp C inr code st (fun e s => k e s = true))
 | some _ => false
open Classical in
theorem goA_ok : RunOk C (goA C) := fun inr code st k w B oC oL ω a Q ro hk S hI hQ =>
 (show AWp C inr code st (fun e s => k e s = true) from of_decide_eq_true hk) w B oC oL ω a Q ro S hI hQ
open Classical in
theorem goA_true {code : Code} {k : Ex -> St -> Bool} {z : Bool} (h : AWp C inr code st (fun e s => k e s = true)) : goA C inr none code st k z = true := decide_eq_true h
theorem AWp.range (hC : C.Ok) {g : Operand} {f : FuncId} {first cap : List AV} {params : Array Tmp} {assign body : Code} {k : Ex -> St -> Bool} (hg : evO C st.tmps g = .fn (.func f) first cap)
  (h : loopM inr st params.toList assign body (fun id ds m => callR C (goA C) false (.fn f) (first ++ [.yld id] ++ cap) m (fun _ m' => afterK C st k id ds m') (fun v m' => k (.panic v) ⟨st.tmps, ds, m'⟩)) false = true) (hk : ∀ e s, k e s = true -> K e s) :
  AWp C inr (.rangeFunc g params assign body) st K := fun w B oC oL ω a Q ro S hI hQ => by
 have hev := S.ev g
 rw [hg] at hev
 generalize hv : a.eval g = gv at hev
 cases hev with
 | fn _ _ _ _ fs cs h1 h2 h3 h4 =>
  exact range_sound hC goA_ok S hI (fun e st' a' w' oC' oL' ω' out S' E hk' ho => hQ e st' a' w' oC' oL' ω' out S' E (hk e st' hk') ho) hv h1 h2 h3 h4 h
def fcode (P : Program) (f : FuncId) : Code := ((P.funcs[f]?).bind (·.body)).getD .skip
def sel : List Bool -> Code -> Code
 | [], c => c
 | b :: r, c => match c with
  | .seq x y => sel r (cond b y x)
  | .cond _ x y => sel r (cond b y x)
  | .block _ x => sel r x
  | .loop x => sel r x
  | .scope x => sel r x
  | .rangeFunc _ _ _ x => sel r x
  | c => c
def st0 (P : Program) (f : FuncId) (args : List AV) : St := ⟨padL args (((P.funcs[f]?).map (·.ntmps)).getD 0), [], ⟨[], 0, []⟩⟩
def resF {Ω : Type} (C : Cfg) (f : FuncId) (st : St) (k : AV -> Ω) (z : Ω) : Ω :=
 match C.P.funcs[f]? with
 | some fn => closeK st.ds st.m.lp (fun _ => resK C fn st (fun v => freezeK st.m.heap 6 v k z) z) z
 | none => z
end
end
end Go.Bas
end
section
namespace Go.Bas
noncomputable section
open Go.RowKit
def AWq (C : Cfg) (code : Code) (st : St) (K : Ex -> St -> Prop) : Prop :=
 ∀ (w : World) (B oC oL : Nat -> Prop) (ω : Nat -> Option Nat) (a : Act) (Q : Exit -> Act -> World -> Prop), Sim C w B oC oL ω st a ->
  (∀ e st' a' w' oC' oL' ω' out, Sim C w' B oC' oL' ω' st' a' -> ExtR w oC oL (fun _ => none) 0 w' oC' oL' ω' st'.m.nx -> K e st' -> OutIs w' B oC' oL' ω' st'.m.nx e out -> Q out a' w') -> code.wpIn (Fr none) 0 C.P Q a w
theorem ExtR.low {w w' : World} {oC oL oC' oL' : Nat -> Prop} {ω ω' : Nat -> Option Nat} {nx nx' : Nat} (E : ExtR w oC oL ω nx w' oC' oL' ω' nx') : ExtR w oC oL (fun _ => none) 0 w' oC' oL' ω' nx' :=
 ⟨E.os, E.tape, E.output, E.size, E.old, E.owns, Nat.zero_le _, fun _ h => absurd h (Nat.not_lt_zero _), E.row⟩
theorem ExtR.then {w w1 w2 : World} {oC oL oC1 oL1 oC2 oL2 : Nat -> Prop} {ω1 ω2 : Nat -> Option Nat} {nx1 nx2 : Nat} (E : ExtR w oC oL (fun _ => none) 0 w1 oC1 oL1 ω1 nx1) (E2 : ExtR w1 oC1 oL1 (fun _ => none) 0 w2 oC2 oL2 ω2 nx2) : ExtR w oC oL (fun _ => none) 0 w2 oC2 oL2 ω2 nx2 :=
 have E' : ExtR w oC oL (fun _ => none) 0 w1 oC1 oL1 (fun _ => none) 0 := ⟨E.os, E.tape, E.output, E.size, E.old, E.owns, Nat.le_refl _, fun _ h => absurd h (Nat.not_lt_zero _), E.row⟩
 E'.trans E2
section
variable {C : Cfg} {K K' : Ex -> St -> Prop} {st : St}
theorem AWp.q {code : Code} (h : AWp C none code st K) : AWq C code st K := fun w B oC oL ω a Q S hQ =>
 h w B oC oL ω a Q none S trivial (fun e st' a' w' oC' oL' ω' out S' E hk ho => hQ e st' a' w' oC' oL' ω' out S' E.low hk ho)
theorem AWq.mono {code : Code} (hk : ∀ e s, K e s -> K' e s) (h : AWq C code st K) : AWq C code st K' := fun w B oC oL ω a Q S hQ =>
 h w B oC oL ω a Q S (fun e st' a' w' oC' oL' ω' out S' E k ho => hQ e st' a' w' oC' oL' ω' out S' E (hk e st' k) ho)
theorem AWq.run (hC : C.Ok) {n : Nat} {code : Code} (h : ∀ k : Ex -> St -> Bool, (∀ e s, K e s -> k e s = true) -> Bas.run C n none none code st k false = true) : AWq C code st K := (AWp.run hC h).q
theorem AWq.seq {x y : Code} (h : AWq C x st (fun e s => match e with | .normal => AWq C y s K | e => K e s)) : AWq C (.seq x y) st K := fun w B oC oL ω a Q S hQ => by
 refine wpIn_seq (h w B oC oL ω a _ S (fun e st' a' w' oC' oL' ω' out S' E hk ho => ?_))
 cases e with
 | normal => subst ho; exact hk w' B oC' oL' ω' a' Q S' (fun e2 st2 a2 w2 oC2 oL2 ω2 out2 S2 E2 hk2 ho2 => hQ e2 st2 a2 w2 oC2 oL2 ω2 out2 S2 (E.then E2) hk2 ho2)
 | exit id => have h2 := hQ _ st' a' w' oC' oL' ω' out S' E hk ho; subst ho; exact h2
 | goto l => have h2 := hQ _ st' a' w' oC' oL' ω' out S' E hk ho; subst ho; exact h2
 | ret => have h2 := hQ _ st' a' w' oC' oL' ω' out S' E hk ho; subst ho; exact h2
 | panic v => have h2 := hQ _ st' a' w' oC' oL' ω' out S' E hk ho; obtain ⟨u, rfl, _⟩ := ho; exact h2
theorem AWq.block {id : Nat} {body : Code} (h : AWq C body st (fun e s => match e with | .exit id' => (id' = id -> K .normal s) /\ (id' ≠ id -> K (.exit id') s) | e => K e s)) : AWq C (.block id body) st K := fun w B oC oL ω a Q S hQ => by
 refine wpIn_block (h w B oC oL ω a _ S (fun e st' a' w' oC' oL' ω' out S' E hk ho => ?_))
 cases e with
 | normal => exact hQ .normal _ _ _ _ _ _ out S' E hk ho |> fun h2 => by subst ho; exact h2
 | exit id' =>
  subst ho; simp only [Exit.inBlock]
  by_cases h : id' = id
  ·rw [if_pos h]; exact hQ .normal _ _ _ _ _ _ _ S' E (hk.1 h) rfl
  ·rw [if_neg h]; exact hQ (.exit id') _ _ _ _ _ _ _ S' E (hk.2 h) rfl
 | goto l => have h2 := hQ _ st' a' w' oC' oL' ω' out S' E hk ho; subst ho; exact h2
 | ret => have h2 := hQ _ st' a' w' oC' oL' ω' out S' E hk ho; subst ho; exact h2
 | panic v => have h2 := hQ _ st' a' w' oC' oL' ω' out S' E hk ho; obtain ⟨u, rfl, _⟩ := ho; exact h2
theorem AWq.cond {c : Operand} {x y : Code} {t : Bool} (hc : evO C st.tmps c = .bool t) (hx : t = true -> AWq C x st K) (hy : t = false -> AWq C y st K) : AWq C (.cond c x y) st K := fun w B oC oL ω a Q S hQ => by
 have hev := S.ev c
 rw [hc] at hev
 generalize hv : a.eval c = u at hev
 cases hev
 cases t with
 | true => exact wpIn_cond_true hv (hx rfl w B oC oL ω a Q S hQ)
 | false => exact wpIn_cond_false hv (hy rfl w B oC oL ω a Q S hQ)
def Less (C : Cfg) (st st' : St) : Prop := ∀ (w : World) (B oC oL : Nat -> Prop) (ω : Nat -> Option Nat) (a : Act), Sim C w B oC oL ω st a -> ∃ ω', Sim C w B oC oL ω' st' a
theorem Less.refl (st : St) : Less C st st := fun w B oC oL ω a S => ⟨ω, S⟩
theorem Less.trans {st st1 st2 : St} (h : Less C st st1) (h' : Less C st1 st2) : Less C st st2 := fun w B oC oL ω a S =>
 let ⟨ω1, S1⟩ := h w B oC oL ω a S
 h' w B oC oL ω1 a S1
theorem AWq.less {code : Code} {st' : St} (h : Less C st st') (hw : AWq C code st' K) : AWq C code st K := fun w B oC oL ω a Q S hQ => by
 obtain ⟨ω', S'⟩ := h w B oC oL ω a S
 exact hw w B oC oL ω' a Q S' hQ
def LessS (C : Cfg) (st st' : St) : Prop := st'.m.nx = st.m.nx /\ ∀ (w : World) (B oC oL : Nat -> Prop) (ω : Nat -> Option Nat) (a : Act), Sim C w B oC oL ω st a -> Sim C w B oC oL ω st' a
theorem LessS.less {st st' : St} (h : LessS C st st') : Less C st st' := fun w B oC oL ω a S => ⟨ω, h.2 w B oC oL ω a S⟩
theorem LessS.refl (st : St) : LessS C st st := ⟨rfl, fun w B oC oL ω a S => S⟩
theorem AWp.less {inr : Option Nat} {code : Code} {st' : St} (h : LessS C st st') (hw : AWp C inr code st' K) : AWp C inr code st K := fun w B oC oL ω a Q ro S hI hQ =>
 hw w B oC oL ω a Q ro (h.2 w B oC oL ω a S) (h.1 ▸ hI) (fun e st2 a2 w2 oC2 oL2 ω2 out2 S2 E hk ho => hQ e st2 a2 w2 oC2 oL2 ω2 out2 S2 (h.1 ▸ E) hk ho)
theorem AWp.post {inr : Option Nat} {code : Code} (h : AWp C inr code st K) (hk : ∀ e s, K e s -> ∃ s', LessS C s s' /\ K' e s') : AWp C inr code st K' := fun w B oC oL ω a Q ro S hI hQ =>
 h w B oC oL ω a Q ro S hI (fun e st' a' w' oC' oL' ω' out S' E hK ho => by
  obtain ⟨s2, hl, hk'⟩ := hk e st' hK; refine hQ e s2 a' w' oC' oL' ω' out (hl.2 _ _ _ _ _ _ S') (hl.1 ▸ E) hk' ?_; cases e with
  | panic v => obtain ⟨u, h1, h2⟩ := ho; exact ⟨u, h1, hl.1 ▸ h2⟩
  | _ => exact ho)
theorem AWp.loopL {ι : Type} {inr : Option Nat} {body : Code} (I : ι -> St) (μ : ι -> Nat) (h : ∀ i, AWp C inr body (I i) (fun e s => match e with | .normal => ∃ j, μ j < μ i /\ LessS C s (I j) | e => ∃ s', LessS C s s' /\ K e s')) (i : ι) : AWp C inr (.loop body) (I i) K := fun w B oC oL ω a Q ro S hI hQ => by
 have key : ∀ (m : Nat) (i : ι) (a : Act) (w : World) (oC oL : Nat -> Prop) (ω : Nat -> Option Nat), μ i < m -> Sim C w B oC oL ω (I i) a -> InR ω (I i).m.nx inr ro ->
   (∀ e st' a' w' oC' oL' ω' out, Sim C w' B oC' oL' ω' st' a' -> ExtR w oC oL ω (I i).m.nx w' oC' oL' ω' st'.m.nx -> K e st' -> OutIs w' B oC' oL' ω' st'.m.nx e out -> Q out a' w') -> Code.roundsIn (Fr ro) 0 C.P body Q m a w := by
  intro m
  induction m with
  | zero => intro i a w oC oL ω h; exact absurd h (Nat.not_lt_zero _)
  | succ m ih =>
   intro i a w oC oL ω hm S hI hQ; rw [roundsIn_succ]; refine h i w B oC oL ω a _ ro S hI (fun e st' a' w' oC' oL' ω' out S' E hk ho => ?_)
   cases e with
   | normal =>
    obtain ⟨j, hj, hl⟩ := hk; have S2 := hl.2 w' B oC' oL' ω' a' S'; have E1 : ExtR w oC oL ω (I i).m.nx w' oC' oL' ω' (I j).m.nx := hl.1 ▸ E; subst ho; exact ih j a' w' oC' oL' ω' (by omega) S2 (hI.ext E1) (fun e2 st2 a2 w2 oC2 oL2 ω2 out2 S2 E2 hk2 ho2 => hQ e2 st2 a2 w2 oC2 oL2 ω2 out2 S2 (E1.trans E2) hk2 ho2)
   | exit id => obtain ⟨s2, hl, hk⟩ := hk; have h2 := hQ _ s2 a' w' oC' oL' ω' out (hl.2 _ _ _ _ _ _ S') (hl.1 ▸ E) hk ho; subst ho; exact h2
   | goto l => obtain ⟨s2, hl, hk⟩ := hk; have h2 := hQ _ s2 a' w' oC' oL' ω' out (hl.2 _ _ _ _ _ _ S') (hl.1 ▸ E) hk ho; subst ho; exact h2
   | ret => obtain ⟨s2, hl, hk⟩ := hk; have h2 := hQ _ s2 a' w' oC' oL' ω' out (hl.2 _ _ _ _ _ _ S') (hl.1 ▸ E) hk ho; subst ho; exact h2
   | panic v => obtain ⟨s2, hl, hk⟩ := hk; have h2 := hQ _ s2 a' w' oC' oL' ω' out (hl.2 _ _ _ _ _ _ S') (hl.1 ▸ E) hk (by obtain ⟨u, h1, h2⟩ := ho; exact ⟨u, h1, hl.1 ▸ h2⟩); obtain ⟨u, rfl, _⟩ := ho; exact h2
 exact wpIn_loop_rounds (μ i + 1) (key (μ i + 1) i a w oC oL ω (Nat.lt_succ_self _) S hI hQ)
def wk : List Bool -> List AV -> List AV
 | true :: m, a :: r => a :: wk m r
 | false :: m, _ :: r => .any :: wk m r
 | [], r => r
 | _ :: _, [] => []
theorem wk_length : ∀ (m : List Bool) (l : List AV), (wk m l).length = l.length
 | [], l => by cases l <;> rfl
 | true :: m, [] => rfl
 | false :: m, [] => rfl
 | true :: m, a :: r => by simp [wk, wk_length m r]
 | false :: m, a :: r => by simp [wk, wk_length m r]
theorem wk_get : ∀ (m : List Bool) (l : List AV) (i : Nat) (h : i < (wk m l).length) (h' : i < l.length), (wk m l)[i] = .any \/ (wk m l)[i] = l[i]
 | [], l, i, h, h' => by cases l <;> exact .inr rfl
 | true :: m, a :: r, 0, h, h' => .inr rfl
 | false :: m, a :: r, 0, h, h' => .inl rfl
 | true :: m, a :: r, i + 1, h, h' => wk_get m r i (by simpa [wk] using h) (by simpa using h')
 | false :: m, a :: r, i + 1, h, h' => wk_get m r i (by simpa [wk] using h) (by simpa using h')
 | true :: m, [], i, h, h' => absurd h' (Nat.not_lt_zero _)
 | false :: m, [], i, h, h' => absurd h' (Nat.not_lt_zero _)
theorem RepL.wk {w : World} {B own : Nat -> Prop} {ω : Nat -> Option Nat} {nx : Nat} {cs : List AV} {us : Array Value} (h : RepL w B own ω nx cs us) (m : List Bool) : RepL w B own ω nx (Bas.wk m cs) us :=
 ⟨(wk_length m cs).trans h.1, fun i hi => by
  have hi' : i < cs.length := by rwa [wk_length] at hi
  rcases wk_get m cs i hi hi' with e | e
  ·rw [e]; exact .any _ _
  ·rw [e]; exact h.2 i hi'⟩
theorem Less.wk (m : List Bool) (st : St) : Less C st ⟨Bas.wk m st.tmps, st.ds, st.m⟩ := fun w B oC oL ω a S => ⟨ω, S.tm.wk m, S.dn, S.ms⟩
theorem AWq.loop {ι : Type} {body : Code} (I : ι -> St) (μ : ι -> Nat) (h : ∀ i, AWq C body (I i) (fun e s => match e with | .normal => ∃ j, μ j < μ i /\ Less C s (I j) | e => ∃ s', LessS C s s' /\ K e s')) (i : ι) : AWq C (.loop body) (I i) K := fun w B oC oL ω a Q S hQ => by
 have key : ∀ (m : Nat) (i : ι) (a : Act) (w : World) (oC oL : Nat -> Prop) (ω : Nat -> Option Nat), μ i < m -> Sim C w B oC oL ω (I i) a ->
   (∀ e st' a' w' oC' oL' ω' out, Sim C w' B oC' oL' ω' st' a' -> ExtR w oC oL (fun _ => none) 0 w' oC' oL' ω' st'.m.nx -> K e st' -> OutIs w' B oC' oL' ω' st'.m.nx e out -> Q out a' w') -> Code.roundsIn (Fr none) 0 C.P body Q m a w := by
  intro m
  induction m with
  | zero => intro i a w oC oL ω h; exact absurd h (Nat.not_lt_zero _)
  | succ m ih =>
   intro i a w oC oL ω hm S hQ; rw [roundsIn_succ]; refine h i w B oC oL ω a _ S (fun e st' a' w' oC' oL' ω' out S' E hk ho => ?_)
   cases e with
   | normal =>
    obtain ⟨j, hj, hl⟩ := hk; obtain ⟨ω2, S2⟩ := hl w' B oC' oL' ω' a' S'; subst ho; exact ih j a' w' oC' oL' ω2 (by omega) S2 (fun e2 st2 a2 w2 oC2 oL2 ω2 out2 S2 E2 hk2 ho2 => hQ e2 st2 a2 w2 oC2 oL2 ω2 out2 S2 (E.then E2) hk2 ho2)
   | exit id => obtain ⟨s2, hl, hk⟩ := hk; have h2 := hQ _ s2 a' w' oC' oL' ω' out (hl.2 _ _ _ _ _ _ S') (hl.1 ▸ E) hk ho; subst ho; exact h2
   | goto l => obtain ⟨s2, hl, hk⟩ := hk; have h2 := hQ _ s2 a' w' oC' oL' ω' out (hl.2 _ _ _ _ _ _ S') (hl.1 ▸ E) hk ho; subst ho; exact h2
   | ret => obtain ⟨s2, hl, hk⟩ := hk; have h2 := hQ _ s2 a' w' oC' oL' ω' out (hl.2 _ _ _ _ _ _ S') (hl.1 ▸ E) hk ho; subst ho; exact h2
   | panic v => obtain ⟨s2, hl, hk⟩ := hk; have h2 := hQ _ s2 a' w' oC' oL' ω' out (hl.2 _ _ _ _ _ _ S') (hl.1 ▸ E) hk (by obtain ⟨u, h1, h2⟩ := ho; exact ⟨u, h1, hl.1 ▸ h2⟩); obtain ⟨u, rfl, _⟩ := ho; exact h2
 exact wpIn_loop_rounds (μ i + 1) (key (μ i + 1) i a w oC oL ω (Nat.lt_succ_self _) S hQ)
theorem acalls_of_awq {f : FuncId} {args : List AV} {k : AV -> Bool} (hf : ((C.P.funcs[f]?).bind (·.body)).isSome = true)
  (h : AWq C (fcode C.P f) (st0 C.P f args) (fun e s => (e = .ret \/ e = .normal) /\ resF C f s k false = true)) : ACalls C.P C.G f args (fun v => k v = true) := by
 obtain ⟨fn, hfn⟩ : ∃ fn, C.P.funcs[f]? = some fn := by
  cases hq : C.P.funcs[f]? with
  | none => rw [hq] at hf; cases hf
  | some fn => exact ⟨fn, rfl⟩
 obtain ⟨c, hb⟩ : ∃ c, fn.body = some c := by
  rw [hfn] at hf; exact Option.isSome_iff_exists.1 hf
 have ec : fcode C.P f = c := by simp [fcode, hfn, hb]
 rw [ec] at h
 simp only [st0, hfn, Option.map_some, Option.getD_some, resF] at h
 intro w us bad hg gb bl hr
 refine (callsIn_calls (ro := none) (n := 0)).1 (callsIn_of_wp_marks hfn hb trivial ?_ rfl)
 have H0 : Hp w (Or2 bad (fun _ => False)) (fun _ => False) (fun _ => none) 0 [] := ⟨fun id hb h => (by cases h), fun i j b h => (by cases h), fun b (h : False) => h.elim⟩
 have M0 : MemSim C w bad (fun _ => False) (fun _ => False) (fun _ => none) ⟨[], 0, []⟩ := ⟨H0, ⟨fun id e h => (by cases h), fun i j l h => (by cases h), fun l (h : False) => h.elim⟩, hg, fun g cells h => ⟨fun h => h, fun h => h, gb g cells h⟩, bl⟩
 have hl : RepL w (Or2 bad (fun _ => False)) (fun _ => False) (fun _ => none) 0 (padL args fn.ntmps) (us ++ Array.replicate (fn.ntmps - us.size) undef) :=
  (pad_rep hr fn.ntmps).other fun b h1 h2 => ⟨h1, fun h => h.elim h2 (fun h => h)⟩
 refine h w bad (fun _ => False) (fun _ => False) (fun _ => none) _ _ ⟨hl, trivial, M0⟩ (fun e st' a' w' oC' oL' ω' out S' E hk' ho => ?_)
 obtain ⟨he, hk'⟩ := hk'
 have fin : closeK st'.ds st'.m.lp (fun _ => resK C fn st' (fun v => freezeK st'.m.heap 6 v k false) false) false = true -> LeavesInM (Fr none) 0 C.P fn a'.tmps (fun e w' => ∃ v u, e = .returned u /\ k v = true /\ Still w w' /\ Rep w' bad (fun _ => False) (fun _ => none) 0 v u) a'.defers .returning w' := fun hk' => by
  refine leave_ret (k := fun v _ => freezeK st'.m.heap 6 v k false) S' hk' (fun v u lp' w2 h1 M E2 hr2 => ?_)
  have hE := E.then E2.low
  have hown : ∀ b, oC' b -> ¬ Or2 bad oL' b := fun b ho hbad => by
   rcases hbad with hbad | hbad
   ·rcases hE.owns b (.inl ho) with h | h
    ·exact h.elim (fun h => h) (fun h => h)
    ·have := bl b hbad; omega
   ·exact (M.lp.dis b hbad).2 ho
  obtain ⟨v', h3, h4⟩ := freezeK_sound M.hp hown 6 v k h1; refine ⟨v', u, rfl, h3, ⟨hE.os, hE.tape, hE.output, hE.size, fun b hb _ => hE.old b hb (fun h => h.elim (fun h => h) (fun h => h)), fun _ h => .inl h, Nat.le_refl _, fun _ _ => rfl, hE.row⟩, ?_⟩
  exact (h4 u hr2).other fun b _ h2 => ⟨fun h => h, fun h => h2 (.inl h)⟩
 rcases he with rfl | rfl
 ·subst ho; exact fin hk'
 ·subst ho; exact fin hk'
inductive AC where
 | leaf (c : Code)
 | seq (a b : AC)
 | cond (o : Operand) (a b : AC)
 | block (id : Nat) (a : AC)
 | known (c : Code) (F : St -> (Ex -> St -> Bool) -> Bool)
def AC.code : AC -> Code
 | .leaf c => c
 | .seq a b => .seq a.code b.code
 | .cond o a b => .cond o a.code b.code
 | .block id a => .block id a.code
 | .known c _ => c
def AC.Ok (C : Cfg) : AC -> Prop
 | .leaf _ => True
 | .seq a b => a.Ok C /\ b.Ok C
 | .cond _ a b => a.Ok C /\ b.Ok C
 | .block _ a => a.Ok C
 | .known c F => ∀ st k, F st k = true -> AWq C c st (fun e s => k e s = true)
def runA (C : Cfg) (n : Nat) : AC -> St -> (Ex -> St -> Bool) -> Bool
 | .leaf c, st, k => run C n none none c st k false
 | .seq a b, st, k => runA C n a st (fun e s => match e with
  | .normal => runA C n b s k
  | e => k e s)
 | .cond o a b, st, k => match evO C st.tmps o with
  | .bool t => cond t (runA C n a ⟨setO st.tmps o (.bool true), st.ds, st.m⟩ k) (runA C n b ⟨setO st.tmps o (.bool false), st.ds, st.m⟩ k)
  | _ => false
 | .block id a, st, k => runA C n a st (fun e s => match e with
  | .exit id' => cond (Nat.beq id' id) (k .normal s) (k (.exit id') s)
  | e => k e s)
 | .known _ F, st, k => F st k
theorem runA_sound (hC : C.Ok) {n : Nat} : ∀ (ac : AC) (st : St) (k : Ex -> St -> Bool), ac.Ok C -> runA C n ac st k = true -> AWq C ac.code st (fun e s => k e s = true)
 | .leaf c, st, k, _, h => AWp.q (fun w B oC oL ω a Q ro S hI hQ => (run_sound hC n).1 none c st k w B oC oL ω a Q ro h S hI hQ)
 | .seq a b, st, k, hok, h => AWq.seq ((runA_sound hC a st _ hok.1 h).mono fun e s hk => by
   cases e with
   | normal => exact runA_sound hC b s k hok.2 hk
   | exit id => exact hk
   | goto l => exact hk
   | ret => exact hk
   | panic v => exact hk)
 | .cond o a b, st, k, hok, h => by
  simp only [runA] at h; split at h
  ·rename_i t ht
   have hset : ∀ b, b = t -> setO st.tmps o (.bool b) = st.tmps := fun b e => by
    subst e; cases o with
    | tmp d => exact lset_same ht
    | _ => rfl
   refine AWq.cond ht (fun e => ?_) (fun e => ?_)
   ·subst e
    rw [hset true rfl] at h; exact runA_sound hC a st k hok.1 h
   ·subst e
    rw [hset false rfl] at h; exact runA_sound hC b st k hok.2 h
  ·cases h
 | .block id a, st, k, hok, h => AWq.block ((runA_sound hC a st _ hok h).mono fun e s hk => by
   cases e with
   | normal => exact hk
   | exit id' =>
    rcases of_cond2 hk with ⟨h1, h2⟩ | ⟨h1, h2⟩
    ·exact ⟨fun _ => h2, fun hn => absurd (of_beq h1) hn⟩
    ·exact ⟨fun he => (by rw [(beq_iff _ _).2 he] at h1; cases h1), fun _ => h2⟩
   | goto l => exact hk
   | ret => exact hk
   | panic v => exact hk)
 | .known c F, st, k, hok, h => hok st k h
def loopsOf : Code -> List Code
 | .seq a b => loopsOf a ++ loopsOf b
 | .cond _ a b => loopsOf a ++ loopsOf b
 | .block _ a => loopsOf a
 | .loop b => [.loop b]
 | .rangeFunc g ps asv b => [.rangeFunc g ps asv b]
 | _ => []
abbrev LF := St -> (Ex -> St -> Bool) -> Bool
def mkA : Code -> List LF -> AC
 | .seq a b, l => match loopsOf a with
  | [] => match loopsOf b with
   | [] => .leaf (.seq a b)
   | _ => .seq (.leaf a) (mkA b l)
  | x :: r => .seq (mkA a l) (mkA b (l.drop (r.length + 1)))
 | .cond o a b, l => match loopsOf a with
  | [] => match loopsOf b with
   | [] => .leaf (.cond o a b)
   | _ => .cond o (.leaf a) (mkA b l)
  | x :: r => .cond o (mkA a l) (mkA b (l.drop (r.length + 1)))
 | .block id a, l => .block id (mkA a l)
 | .loop b, F :: _ => .known (.loop b) F
 | .rangeFunc g ps asv b, F :: _ => .known (.rangeFunc g ps asv b) F
 | c, _ => .leaf c
theorem mkA_code : ∀ (c : Code) (l : List LF), (mkA c l).code = c
 | .seq a b, l => by
  unfold mkA; split
  ·split
   ·rfl
   ·show Code.seq a (mkA b l).code = _; rw [mkA_code b l]
  ·show Code.seq (mkA a l).code (mkA b _).code = _; rw [mkA_code a, mkA_code b]
 | .cond o a b, l => by
  unfold mkA; split
  ·split
   ·rfl
   ·show Code.cond o a (mkA b l).code = _; rw [mkA_code b l]
  ·show Code.cond o (mkA a l).code (mkA b _).code = _; rw [mkA_code a, mkA_code b]
 | .block id a, l => by show Code.block id (mkA a l).code = _; rw [mkA_code a]
 | .loop b, [] => rfl
 | .loop b, _ :: _ => rfl
 | .rangeFunc g ps asv b, [] => rfl
 | .rangeFunc g ps asv b, _ :: _ => rfl
 | .skip, _ => rfl
 | .label _, _ => rfl
 | .ret, _ => rfl
 | .exit _, _ => rfl
 | .goto _, _ => rfl
 | .scope _, _ => rfl
 | .region _ _ _, _ => rfl
 | .refuse _, _ => rfl
def LoopsOk (C : Cfg) : List Code -> List LF -> Prop
 | c :: cs, F :: Fs => (∀ st k, F st k = true -> AWq C c st (fun e s => k e s = true)) /\ LoopsOk C cs Fs
 | _, _ => True
theorem LoopsOk.left : ∀ {a b : List Code} {l : List LF}, LoopsOk C (a ++ b) l -> LoopsOk C a l
 | [], _, [], _ => trivial
 | [], _, _ :: _, _ => trivial
 | _ :: _, _, [], _ => trivial
 | _ :: _, _, _ :: _, h => ⟨h.1, LoopsOk.left h.2⟩
theorem LoopsOk.right : ∀ {a b : List Code} {l : List LF}, LoopsOk C (a ++ b) l -> LoopsOk C b (l.drop a.length)
 | [], _, l, h => h
 | _ :: _, b, [], _ => by cases b <;> trivial
 | _ :: a, b, _ :: l, h => LoopsOk.right (a := a) (b := b) (l := l) h.2
theorem mkA_ok : ∀ (c : Code) (l : List LF), LoopsOk C (loopsOf c) l -> (mkA c l).Ok C
 | .seq a b, l, h => by
  unfold mkA; have h : LoopsOk C (loopsOf a ++ loopsOf b) l := h; split
  ·rename_i ha
   split
   ·exact trivial
   ·rw [ha] at h; exact ⟨trivial, mkA_ok b l h⟩
  ·rename_i x r ha
   have h2 := h.right; rw [ha] at h2; exact ⟨mkA_ok a l h.left, mkA_ok b _ h2⟩
 | .cond o a b, l, h => by
  unfold mkA; have h : LoopsOk C (loopsOf a ++ loopsOf b) l := h; split
  ·rename_i ha
   split
   ·exact trivial
   ·rw [ha] at h; exact ⟨trivial, mkA_ok b l h⟩
  ·rename_i x r ha
   have h2 := h.right; rw [ha] at h2; exact ⟨mkA_ok a l h.left, mkA_ok b _ h2⟩
 | .block id a, l, h => mkA_ok a l h
 | .loop b, [], _ => trivial
 | .loop b, F :: _, h => h.1
 | .rangeFunc g ps asv b, [], _ => trivial
 | .rangeFunc g ps asv b, F :: _, h => h.1
 | .skip, _, _ => trivial
 | .label _, _, _ => trivial
 | .ret, _, _ => trivial
 | .exit _, _, _ => trivial
 | .goto _, _, _ => trivial
 | .scope _, _, _ => trivial
 | .region _ _ _, _, _ => trivial
 | .refuse _, _, _ => trivial
def loopAt (c : Code) : List Nat -> Code
 | [] => c
 | n :: r => match (loopsOf c)[n]? with
  | some (.loop b) => loopAt b r
  | some (.rangeFunc _ _ _ b) => loopAt b r
  | _ => .skip
def rfAssign : Code -> Code
 | .rangeFunc _ _ a _ => a
 | _ => .skip
def loopN (c : Code) (n : Nat) : Code := ((loopsOf c)[n]?).getD .skip
def runM (C : Cfg) (n : Nat) (c : Code) (l : List LF) (st : St) (k : Ex -> St -> Bool) : Bool := runA C n (mkA c l) st k
theorem AWq.runM (hC : C.Ok) {n : Nat} {c : Code} {l : List LF} (hl : LoopsOk C (loopsOf c) l) (h : ∀ k : Ex -> St -> Bool, (∀ e s, K e s -> k e s = true) -> Bas.runM C n c l st k = true) : AWq C c st K := by
 classical
 have := runA_sound hC (mkA c l) st _ (mkA_ok c l hl) (h (fun e s => decide (K e s)) (fun e s hk => decide_eq_true hk))
 rw [mkA_code] at this
 exact this.mono fun e s hk => of_decide_eq_true hk
def runFM (C : Cfg) (n : Nat) (f : FuncId) (l : List LF) (args : List AV) (k : AV -> Bool) : Bool :=
 runM C n (fcode C.P f) l (st0 C.P f args) (fun e s => match e with
  | .ret => resF C f s k false
  | .normal => resF C f s k false
  | _ => false)
theorem runFM_sound (hC : C.Ok) {n : Nat} {f : FuncId} {l : List LF} {args : List AV} {k : AV -> Bool} (hf : ((C.P.funcs[f]?).bind (·.body)).isSome = true) (hok : LoopsOk C (loopsOf (fcode C.P f)) l) (h : runFM C n f l args k = true) : ACalls C.P C.G f args (fun v => k v = true) :=
 acalls_of_awq hf (by
  have := runA_sound hC _ _ _ (mkA_ok (fcode C.P f) l hok) h; rw [mkA_code] at this; refine this.mono fun e s hk => ?_
  cases e with
  | ret => exact ⟨.inl rfl, hk⟩
  | normal => exact ⟨.inr rfl, hk⟩
  | exit id => cases hk
  | goto l => cases hk
  | panic v => cases hk)
theorem acalls_eqM {P : Program} {G : Nat -> Option (List AV)} {q : FuncId -> Bool} (h : Base P) {l : List Sum} (hl : ∀ s ∈ l, SumOk P G s) {f : FuncId} {fs : List LF} {args : List AV} {r : AV} {n : Nat} (hf : ((P.funcs[f]?).bind (·.body)).isSome = true) (hok : LoopsOk ⟨P, G, lookS l, q, fun _ => none⟩ (loopsOf (fcode P f)) fs)
  (hrun : ∀ k : AV -> Bool, k r = true -> runFM ⟨P, G, lookS l, q, fun _ => none⟩ n f fs args k = true) : ACalls P G f args (fun v => v = r) := by
 classical
 have := runFM_sound (cfg_ok h hl) hf hok (hrun (fun v => decide (v = r)) (by simp))
 exact this.mono fun v hv => by simpa using hv
def AC.OkP (C : Cfg) : AC -> Prop
 | .leaf _ => True
 | .seq a b => a.OkP C /\ b.OkP C
 | .cond _ a b => a.OkP C /\ b.OkP C
 | .block _ a => a.OkP C
 | .known c F => ∀ st k, F st k = true -> AWp C none c st (fun e s => k e s = true)
theorem runA_soundP (hC : C.Ok) {n : Nat} : ∀ (ac : AC) (st : St) (k : Ex -> St -> Bool), ac.OkP C -> runA C n ac st k = true -> AWp C none ac.code st (fun e s => k e s = true)
 | .leaf c, st, k, _, h => fun w B oC oL ω a Q ro S hI hQ => (run_sound hC n).1 none c st k w B oC oL ω a Q ro h S hI hQ
 | .seq a b, st, k, hok, h => AWp.seq ((runA_soundP hC a st _ hok.1 h).mono fun e s hk => by
   cases e with
   | normal => exact runA_soundP hC b s k hok.2 hk
   | exit id => exact hk
   | goto l => exact hk
   | ret => exact hk
   | panic v => exact hk)
 | .cond o a b, st, k, hok, h => by
  simp only [runA] at h; split at h
  ·rename_i t ht
   have hset : ∀ b, b = t -> setO st.tmps o (.bool b) = st.tmps := fun b e => by
    subst e; cases o with
    | tmp d => exact lset_same ht
    | _ => rfl
   refine AWp.cond ht (fun e => ?_) (fun e => ?_)
   ·subst e
    rw [hset true rfl] at h; exact runA_soundP hC a st k hok.1 h
   ·subst e
    rw [hset false rfl] at h; exact runA_soundP hC b st k hok.2 h
  ·cases h
 | .block id a, st, k, hok, h => AWp.block ((runA_soundP hC a st _ hok h).mono fun e s hk => by
   cases e with
   | normal => exact hk
   | exit id' =>
    rcases of_cond2 hk with ⟨h1, h2⟩ | ⟨h1, h2⟩
    ·exact ⟨fun _ => h2, fun hn => absurd (of_beq h1) hn⟩
    ·exact ⟨fun he => (by rw [(beq_iff _ _).2 he] at h1; cases h1), fun _ => h2⟩
   | goto l => exact hk
   | ret => exact hk
   | panic v => exact hk)
 | .known c F, st, k, hok, h => hok st k h
def LoopsOkP (C : Cfg) : List Code -> List LF -> Prop
 | c :: cs, F :: Fs => (∀ st k, F st k = true -> AWp C none c st (fun e s => k e s = true)) /\ LoopsOkP C cs Fs
 | _, _ => True
theorem LoopsOkP.left : ∀ {a b : List Code} {l : List LF}, LoopsOkP C (a ++ b) l -> LoopsOkP C a l
 | [], _, [], _ => trivial
 | [], _, _ :: _, _ => trivial
 | _ :: _, _, [], _ => trivial
 | _ :: _, _, _ :: _, h => ⟨h.1, LoopsOkP.left h.2⟩
theorem LoopsOkP.right : ∀ {a b : List Code} {l : List LF}, LoopsOkP C (a ++ b) l -> LoopsOkP C b (l.drop a.length)
 | [], _, l, h => h
 | _ :: _, b, [], _ => by cases b <;> trivial
 | _ :: a, b, _ :: l, h => LoopsOkP.right (a := a) (b := b) (l := l) h.2
theorem mkA_okP : ∀ (c : Code) (l : List LF), LoopsOkP C (loopsOf c) l -> (mkA c l).OkP C
 | .seq a b, l, h => by
  unfold mkA; have h : LoopsOkP C (loopsOf a ++ loopsOf b) l := h; split
  ·rename_i ha
   split
   ·exact trivial
   ·rw [ha] at h; exact ⟨trivial, mkA_okP b l h⟩
  ·rename_i x r ha
   have h2 := h.right; rw [ha] at h2; exact ⟨mkA_okP a l h.left, mkA_okP b _ h2⟩
 | .cond o a b, l, h => by
  unfold mkA; have h : LoopsOkP C (loopsOf a ++ loopsOf b) l := h; split
  ·rename_i ha
   split
   ·exact trivial
   ·rw [ha] at h; exact ⟨trivial, mkA_okP b l h⟩
  ·rename_i x r ha
   have h2 := h.right; rw [ha] at h2; exact ⟨mkA_okP a l h.left, mkA_okP b _ h2⟩
 | .block id a, l, h => mkA_okP a l h
 | .loop b, [], _ => trivial
 | .loop b, F :: _, h => h.1
 | .rangeFunc g ps asv b, [], _ => trivial
 | .rangeFunc g ps asv b, F :: _, h => h.1
 | .skip, _, _ => trivial
 | .label _, _, _ => trivial
 | .ret, _, _ => trivial
 | .exit _, _, _ => trivial
 | .goto _, _, _ => trivial
 | .scope _, _, _ => trivial
 | .region _ _ _, _, _ => trivial
 | .refuse _, _, _ => trivial
theorem AWp.runM (hC : C.Ok) {n : Nat} {c : Code} {l : List LF} (hl : LoopsOkP C (loopsOf c) l) (h : ∀ k : Ex -> St -> Bool, (∀ e s, K e s -> k e s = true) -> Bas.runM C n c l st k = true) : AWp C none c st K := by
 classical
 have := runA_soundP hC (mkA c l) st _ (mkA_okP c l hl) (h (fun e s => decide (K e s)) (fun e s hk => decide_eq_true hk))
 rw [mkA_code] at this
 exact this.mono fun e s hk => of_decide_eq_true hk
def lookA : List (Nat × AV) -> Nat -> AV
 | [], _ => .any
 | p :: r, i => cond (Nat.beq p.1 i) p.2 (lookA r i)
def fillA (live : List (Nat × AV)) : Nat -> Nat -> List AV
 | 0, _ => []
 | n + 1, i => lookA live i :: fillA live n (i + 1)
def fill (n : Nat) (live : List (Nat × AV)) : List AV := fillA live n 0
theorem fillA_length (live : List (Nat × AV)) : ∀ (n i : Nat), (fillA live n i).length = n
 | 0, _ => rfl
 | n + 1, i => by simp [fillA, fillA_length live n]
theorem fillA_get (live : List (Nat × AV)) : ∀ (n i j : Nat) (h : j < (fillA live n i).length), (fillA live n i)[j] = lookA live (i + j)
 | 0, i, j, h => absurd h (Nat.not_lt_zero _)
 | n + 1, i, 0, h => rfl
 | n + 1, i, j + 1, h => by
  have := fillA_get live n (i + 1) j (by simpa [fillA] using h)
  rw [show i + (j + 1) = i + 1 + j by omega, <- this]
  rfl
def AllL (tmps : List AV) : List (Nat × AV) -> Prop
 | [] => True
 | p :: r => lget tmps p.1 = p.2 /\ AllL tmps r
theorem AllL_nil {tmps : List AV} : AllL tmps [] := trivial
theorem AllL_cons {tmps : List AV} {i : Nat} {v : AV} {r : List (Nat × AV)} (h : lget tmps i = v) (hr : AllL tmps r) : AllL tmps ((i, v) :: r) := ⟨h, hr⟩
theorem lookA_or (tmps : List AV) : ∀ (live : List (Nat × AV)), AllL tmps live -> ∀ i, lookA live i = .any \/ lookA live i = lget tmps i
 | [], _, _ => .inl rfl
 | p :: r, h, i => by
  simp only [lookA]; cases hb : Nat.beq p.1 i with
  | true => rw [<- of_beq hb]; exact .inr h.1.symm
  | false => exact lookA_or tmps r h.2 i
theorem LessS.fill {st : St} {n : Nat} {live : List (Nat × AV)} {ds : List Nat} {m : Mem} (hn : st.tmps.length = n) (hl : AllL st.tmps live) (hd : st.ds = ds) (hm : st.m = m) : LessS C st ⟨Bas.fill n live, ds, m⟩ := by
 subst hd hm
 refine ⟨rfl, fun w B oC oL ω a S => ⟨⟨(fillA_length live n 0).trans (hn.symm.trans S.tm.1), fun i hi => ?_⟩, S.dn, S.ms⟩⟩
 have hi' : i < st.tmps.length := by
  have : i < (fillA live n 0).length := hi; rw [fillA_length] at this; omega
 have e : (Bas.fill n live)[i] = lookA live i := by
  show (fillA live n 0)[i] = _; rw [fillA_get live n 0 i hi, Nat.zero_add]
 show Rep w (Or2 B oL) oC ω st.m.nx (Bas.fill n live)[i] _
 rw [e]
 rcases lookA_or st.tmps live hl i with h | h
 ·rw [h]; exact .any _ _
 ·rw [h, lget_eq, List.getD_eq_getElem?_getD, List.getElem?_eq_getElem hi']
  exact S.tm.2 i hi'
def hins (p : Nat × HB) (h : Heap) : Heap := List.rec (motive := fun _ => Heap) [p] (fun q r ih => cond (Nat.ble q.1 p.1) (p :: q :: r) (q :: ih)) h
def hsort (h : Heap) : Heap := List.rec (motive := fun _ => Heap) [] (fun p _ ih => hins p ih) h
theorem hget_hins (p : Nat × HB) (id : Nat) : ∀ h : Heap, hget (hins p h) id = cond (Nat.beq p.1 id) (some p.2) (hget h id)
 | [] => rfl
 | q :: r => by
  show hget (cond (Nat.ble q.1 p.1) (p :: q :: r) (q :: hins p r)) id = _; cases hb : Nat.ble q.1 p.1 with
  | true => rfl
  | false =>
   show cond (Nat.beq q.1 id) (some q.2) (hget (hins p r) id) = cond (Nat.beq p.1 id) (some p.2) (cond (Nat.beq q.1 id) (some q.2) (hget r id)); rw [hget_hins p id r]; cases h1 : Nat.beq q.1 id with
   | false => rfl
   | true =>
    cases h2 : Nat.beq p.1 id with
    | false => rfl
    | true =>
     have e1 := of_beq h1; have e2 := of_beq h2; rw [e1, e2, Nat.ble_eq_true_of_le (Nat.le_refl _)] at hb; cases hb
theorem hget_hsort : ∀ (h : Heap) (id : Nat), hget (hsort h) id = hget h id
 | [], _ => rfl
 | p :: r, id => by
  show hget (hins p (hsort r)) id = cond (Nat.beq p.1 id) (some p.2) (hget r id); rw [hget_hins, hget_hsort r id]
def msort (m : Mem) : Mem := ⟨hsort m.heap, m.nx, m.lp⟩
theorem LessS.sort (st : St) : LessS C st ⟨st.tmps, st.ds, msort st.m⟩ := ⟨rfl, fun w B oC oL ω a S => ⟨S.tm, S.dn, ⟨⟨fun id hb h => S.ms.hp.rel id hb ((hget_hsort _ _).symm.trans h), fun i j b h1 h2 => S.ms.hp.inj i j b (by rwa [<- hget_hsort]) (by rwa [<- hget_hsort]), S.ms.hp.ob⟩, S.ms.lp, S.ms.gl, S.ms.gb, S.ms.bl⟩⟩⟩
theorem LessS.trans {st st1 st2 : St} (h : LessS C st st1) (h' : LessS C st1 st2) : LessS C st st2 := ⟨h'.1.trans h.1, fun w B oC oL ω a S => h'.2 _ _ _ _ _ _ (h.2 _ _ _ _ _ _ S)⟩
theorem Less.fill {st : St} {n : Nat} {live : List (Nat × AV)} {ds : List Nat} {m : Mem} (hn : st.tmps.length = n) (hl : AllL st.tmps live) (hd : st.ds = ds) (hm : st.m = m) : Less C st ⟨Bas.fill n live, ds, m⟩ := (LessS.fill hn hl hd hm).less
theorem callR_in {go : RunF Bool} {z : Bool} {f : FuncId} {fn : Func} {c : Code} {args : List AV} {m : Mem} {kk kp : AV -> Mem -> Bool} (hfn : C.P.funcs[f]? = some fn) (hb : fn.body = some c) (hX : C.X f = none) (hS : C.S f = none) (hQ : C.Q f = false) :
  callR C go z (.fn f) args m kk kp = go none none c ⟨padL args fn.ntmps, [], m⟩ (fun e st' => match e with
    | .ret => closeK st'.ds st'.m.lp (fun lp => resK C fn st' (fun v => kk v ⟨st'.m.heap, st'.m.nx, lp⟩) z) z
    | .normal => closeK st'.ds st'.m.lp (fun lp => resK C fn st' (fun v => kk v ⟨st'.m.heap, st'.m.nx, lp⟩) z) z
    | .panic v => closeK st'.ds st'.m.lp (fun lp => kp v ⟨st'.m.heap, st'.m.nx, lp⟩) z
    | _ => z) z := by
 simp only [callR, hX, floatK, hfn, hb, hS, hQ, cond_false]
 congr 1
theorem AWq.rangeF (hC : C.Ok) {g : Operand} {f : FuncId} {fn : Func} {c : Code} {first cap : List AV} {params : Array Tmp} {assign body : Code} {k : Ex -> St -> Bool} (hg : evO C st.tmps g = .fn (.func f) first cap)
  (hfn : C.P.funcs[f]? = some fn) (hb : fn.body = some c) (hX : C.X f = none) (hS : C.S f = none) (hQ : C.Q f = false) (hr : fn.results.toList = [])
  (h : AWp C none c ⟨padL (first ++ [.yld (st.m.nx + 1)] ++ cap) fn.ntmps, [], ⟨st.m.heap, st.m.nx + 2, (st.m.nx + 1, .lop 0 none st.tmps params.toList assign body st.m.nx) :: (st.m.nx, .dfb) :: st.m.lp⟩⟩
   (fun e s => (e = .ret \/ e = .normal) /\ s.ds = [] /\ afterK C st k (st.m.nx + 1) (st.m.nx :: st.ds) (msort s.m) = true)) : AWq C (.rangeFunc g params assign body) st (fun e s => k e s = true) := by
 refine AWp.q (AWp.range (k := k) hC hg ?_ (fun e s h => h))
 simp only [loopM]
 rw [callR_in hfn hb hX hS hQ]
 refine goA_true (h.post fun e s hs => ⟨_, LessS.sort s, ?_⟩)
 obtain ⟨he, hd, hk⟩ := hs
 rcases he with rfl | rfl
 ·simp only [hd, closeK, resK, hr, resKs]
  exact hk
 ·simp only [hd, closeK, resK, hr, resKs]
  exact hk
theorem fn_is {P : Program} {f : FuncId} {n r : Nat} (h : ((P.funcs[f]?).map fun fn => (fn.body.isSome, fn.ntmps, fn.results.toList.length)) = some (true, n, r)) :
  ∃ fn, P.funcs[f]? = some fn /\ fn.body = some (fcode P f) /\ fn.ntmps = n /\ fn.results.toList.length = r := by
 cases hq : P.funcs[f]? with
 | none => rw [hq] at h; cases h
 | some fn =>
  rw [hq] at h; simp only [Option.map_some, Option.some.injEq, Prod.mk.injEq] at h; obtain ⟨c, hb⟩ := Option.isSome_iff_exists.1 h.1; exact ⟨fn, rfl, by simp [fcode, hq, hb], h.2.1, h.2.2⟩
def keepA (ls : List Nat) (l : List AV) : Nat -> List AV := List.rec (motive := fun _ => Nat -> List AV) (fun _ => []) (fun a _ ih i => (cond (memN ls i) a .any) :: ih (i + 1)) l
theorem keepA_length (ls : List Nat) : ∀ (l : List AV) (i : Nat), (keepA ls l i).length = l.length
 | [], _ => rfl
 | a :: r, i => congrArg (· + 1) (keepA_length ls r (i + 1))
theorem keepA_get (ls : List Nat) : ∀ (l : List AV) (i j : Nat) (h : j < (keepA ls l i).length) (h' : j < l.length), (keepA ls l i)[j] = .any \/ (keepA ls l i)[j] = l[j]
 | [], i, j, h, h' => absurd h' (Nat.not_lt_zero _)
 | a :: r, i, 0, h, h' => by
  show cond (memN ls i) a .any = .any \/ cond (memN ls i) a .any = a; cases memN ls i
  ·exact .inl rfl
  ·exact .inr rfl
 | a :: r, i, j + 1, h, h' => keepA_get ls r (i + 1) j (by rw [keepA_length] at *; simpa using h') (by simpa using h')
def keepS (ls : List Nat) (st : St) : St := ⟨keepA ls st.tmps 0, st.ds, msort st.m⟩
theorem LessS.keep (ls : List Nat) (st : St) : LessS C st (keepS ls st) :=
 (LessS.sort st).trans ⟨rfl, fun w B oC oL ω a S => ⟨⟨(keepA_length ls st.tmps 0).trans S.tm.1, fun i hi => by
  have hi' : i < st.tmps.length := by
   have : i < (keepA ls st.tmps 0).length := hi
   rwa [keepA_length] at this
  show Rep _ _ _ _ _ (keepA ls st.tmps 0)[i] _
  rcases keepA_get ls st.tmps 0 i hi hi' with e | e
  ·rw [e]; exact .any _ _
  ·rw [e]; exact S.tm.2 i hi'⟩, S.dn, S.ms⟩⟩
theorem AWp.runK (hC : C.Ok) (ls : List Nat) {inr : Option Nat} {n : Nat} {code : Code} (h : ∀ k : Ex -> St -> Bool, (∀ e s, K e s -> k e s = true) -> Bas.run C n inr none code st (fun e s => k e (keepS ls s)) false = true) : AWp C inr code st K := by
 classical
 have h1 := h (fun e s => decide (K e s)) (fun e s h => decide_eq_true h)
 have h0 : AWp C inr code st (fun e s => decide (K e (keepS ls s)) = true) := fun w B oC oL ω a Q ro S hI hQ => (run_sound hC n).1 inr code st _ w B oC oL ω a Q ro h1 S hI hQ
 exact h0.post fun e s hk => ⟨_, LessS.keep ls s, of_decide_eq_true hk⟩
theorem AWq.runK (hC : C.Ok) (ls : List Nat) {n : Nat} {code : Code} (h : ∀ k : Ex -> St -> Bool, (∀ e s, K e s -> k e s = true) -> Bas.run C n none none code st (fun e s => k e (keepS ls s)) false = true) : AWq C code st K := (AWp.runK hC ls h).q
end
end
end Go.Bas
end
section
namespace Go.Bas
noncomputable section
open Go.RowKit
def AV.under (n : Nat) : Nat -> AV -> Bool
 | 0, _ => false
 | _ + 1, .ptr id _ => Nat.blt id n
 | _ + 1, .sl id _ _ _ _ => Nat.blt id n
 | _ + 1, .yld id => Nat.blt id n
 | d + 1, .fn _ a b => a.all (AV.under n d) && b.all (AV.under n d)
 | d + 1, .iface _ v => AV.under n d v
 | d + 1, .agg cs => cs.all (AV.under n d)
 | d + 1, .tup cs => cs.all (AV.under n d)
 | _ + 1, _ => true
theorem blt_lt {a b : Nat} (h : Nat.blt a b = true) : a < b := Nat.le_of_ble_eq_true h
theorem Rep.lower {w : World} {B : Nat -> Prop} {own : Nat -> Prop} {ω : Nat -> Option Nat} {nx : Nat} {v : AV} {u : Value}
  (h : Rep w B own ω nx v u) : ∀ {d n : Nat}, v.under n d = true -> Rep w B own ω n v u := by
 induction h with
 | any => intro _ _ _; exact .any _ _
 | bool => intro _ _ _; exact .bool _ _
 | int => intro _ _ _; exact .int _ _ _
 | str => intro _ _ _; exact .str _ _
 | nilp => intro _ _ _; exact .nilp _
 | ptr nx id off b hi hw =>
  intro d n hd; cases d with
  | zero => cases hd
  | succ d => exact .ptr _ _ _ _ (blt_lt hd) hw
 | iptr nx cells off b o vs hb hc hr _ => intro _ _ _; exact .iptr _ _ _ b o vs hb hc hr
 | nils => intro _ _ _; exact .nils _
 | lst nx cells n cap b o vs hb hn hc hr _ => intro _ _ _; exact .lst _ _ _ _ b o vs hb hn hc hr
 | lstn => intro _ _ _; exact .lstn _ _ _
 | es nx a => intro _ _ _; exact .es _ _
 | ns nx p c => intro _ _ _; exact .ns _ _ _
 | sl nx id off n sz cap b hi hw hn =>
  intro d m hd; cases d with
  | zero => cases hd
  | succ d => exact .sl _ _ _ _ _ _ _ (blt_lt hd) hw hn
 | sla nx id n sz cap b hi hw hn hcm hrow =>
  intro d m hd; cases d with
  | zero => cases hd
  | succ d => exact .sla _ _ _ _ _ _ (blt_lt hd) hw hn hcm hrow
 | yld nx id l hi hw =>
  intro d m hd; cases d with
  | zero => cases hd
  | succ d => exact .yld _ _ _ (blt_lt hd) hw
 | fn nx f first cap fs cs h1 h2 _ _ ih1 ih2 =>
  intro d m hd; cases d with
  | zero => cases hd
  | succ d =>
   simp only [AV.under, Bool.and_eq_true, List.all_eq_true] at hd; exact .fn _ _ _ _ _ _ h1 h2 (fun i hi => ih1 i hi (hd.1 _ (List.getElem_mem hi))) (fun i hi => ih2 i hi (hd.2 _ (List.getElem_mem hi)))
 | nilfn => intro _ _ _; exact .nilfn _
 | iface nx t v u _ ih =>
  intro d m hd; cases d with
  | zero => cases hd
  | succ d => exact .iface _ _ _ _ (ih hd)
 | niliface => intro _ _ _; exact .niliface _
 | agg nx cs vs h1 _ ih =>
  intro d m hd; cases d with
  | zero => cases hd
  | succ d =>
   simp only [AV.under, List.all_eq_true] at hd; exact .agg _ _ _ h1 (fun i hi => ih i hi (hd _ (List.getElem_mem hi)))
 | tup nx cs vs h1 _ ih =>
  intro d m hd; cases d with
  | zero => cases hd
  | succ d =>
   simp only [AV.under, List.all_eq_true] at hd; exact .tup _ _ _ h1 (fun i hi => ih i hi (hd _ (List.getElem_mem hi)))
def hlow (n : Nat) (h : Heap) : Heap := List.rec (motive := fun _ => Heap) [] (fun p _ ih => cond (Nat.blt p.1 n) (p :: ih) ih) h
theorem hget_hlow (n id : Nat) (hb : HB) : ∀ h : Heap, hget (hlow n h) id = some hb -> id < n /\ hget h id = some hb
 | [], h => by cases h
 | p :: r, h => by
  have e : hlow n (p :: r) = cond (Nat.blt p.1 n) (p :: hlow n r) (hlow n r) := rfl; rw [e] at h; rw [hget_cons p.1 p.2 r]; cases h1 : Nat.blt p.1 n with
  | true =>
   rw [h1] at h; have h : cond (Nat.beq p.1 id) (some p.2) (hget (hlow n r) id) = some hb := h; cases h2 : Nat.beq p.1 id with
   | true =>
    rw [h2] at h; exact ⟨of_beq h2 ▸ blt_lt h1, h⟩
   | false =>
    rw [h2] at h; exact hget_hlow n id hb r h
  | false =>
   rw [h1] at h; obtain ⟨a, b⟩ := hget_hlow n id hb r h; cases h2 : Nat.beq p.1 id with
   | true =>
    have := of_beq h2; subst this; have : Nat.blt p.1 n = true := Nat.ble_eq_true_of_le a; rw [h1] at this; cases this
   | false => exact ⟨a, b⟩
def lowOk (n : Nat) (st : St) : Bool := st.tmps.all (AV.under n 8) && ((hlow n st.m.heap).all (fun p => p.2.pure || p.2.cells.all (AV.under n 8)))
theorem hget_mem {h : Heap} {id : Nat} {hb : HB} : hget h id = some hb -> ∃ p ∈ h, p.2 = hb := by
 induction h with
 | nil => intro h; cases h
 | cons p r ih =>
  intro h; rw [hget_cons p.1 p.2 r] at h; cases hc : Nat.beq p.1 id with
  | true => rw [hc] at h; exact ⟨p, List.mem_cons_self .., Option.some.inj h⟩
  | false => rw [hc] at h; obtain ⟨q, hq, e⟩ := ih h; exact ⟨q, List.mem_cons_of_mem _ hq, e⟩
theorem Less.drop {C : Cfg} {st : St} (n : Nat) (hn : n <= st.m.nx) (hds : st.ds = []) (hlp : st.m.lp = []) (hok : lowOk n st = true) : Less C st ⟨st.tmps, [], ⟨hlow n st.m.heap, n, []⟩⟩ := fun w B oC oL ω a S => by
 simp only [lowOk, Bool.and_eq_true, List.all_eq_true] at hok
 refine ⟨ω, ⟨S.tm.1, fun i hi => (S.tm.2 i hi).lower (hok.1 _ (List.getElem_mem hi))⟩, ?_, ⟨⟨fun id hb h => ?_, fun i j b h1 h2 => ?_, S.ms.hp.ob⟩, ⟨fun id e h => (by cases h), fun i j l h => (by cases h), S.ms.lp.dis⟩, S.ms.gl, S.ms.gb, S.ms.bl⟩⟩
 ·have := S.dn
  rw [hds] at this; show Marks ω n [] a.defers; cases hq : a.defers with
  | nil => exact trivial
  | cons x xs => rw [hq] at this; exact this.elim
 ·obtain ⟨h1, h2⟩ := hget_hlow n id hb _ h
  obtain ⟨q1, b, arr, q2, q3, q4, q5, q6⟩ := S.ms.hp.rel id hb h2; refine ⟨h1, b, arr, q2, q3, q4, q5, fun i hi => ?_⟩
  have := q6 i hi; cases hp : hb.pure with
  | true => rw [hp] at this; exact this
  | false =>
   rw [hp] at this; obtain ⟨p, hp1, hp2⟩ := hget_mem h; have h3 := hok.2 p hp1; rw [hp2, hp, Bool.false_or, List.all_eq_true] at h3; exact this.lower (h3 _ (List.getElem_mem hi))
 ·obtain ⟨x1, e1⟩ := Option.isSome_iff_exists.1 h1
  obtain ⟨x2, e2⟩ := Option.isSome_iff_exists.1 h2; obtain ⟨_, e1⟩ := hget_hlow n i x1 _ e1; obtain ⟨_, e2⟩ := hget_hlow n j x2 _ e2; exact S.ms.hp.inj i j b (by rw [e1]; rfl) (by rw [e2]; rfl)
def Ex.calm : Ex -> Bool
 | .panic _ => false
 | _ => true
section
variable {C : Cfg} {K K' : Ex -> St -> Prop} {st : St}
theorem AWq.runMK (hC : C.Ok) (ls : List Nat) {n : Nat} {c : Code} {l : List LF} (hl : LoopsOk C (loopsOf c) l) (h : ∀ k : Ex -> St -> Bool, (∀ e s, K e s -> k e s = true) -> Bas.runM C n c l st (fun e s => k e (keepS ls s)) = true) : AWq C c st K := by
 classical
 have h1 := h (fun e s => decide (K e s)) (fun e s h => decide_eq_true h)
 have := runA_sound hC (mkA c l) st _ (mkA_ok c l hl) h1
 rw [mkA_code] at this
 intro w B oC oL ω a Q S hQ
 refine this w B oC oL ω a Q S (fun e st' a' w' oC' oL' ω' out S' E hK ho => ?_)
 have hl := LessS.keep (C := C) ls st'
 refine hQ e (keepS ls st') a' w' oC' oL' ω' out (hl.2 _ _ _ _ _ _ S') (hl.1 ▸ E) (of_decide_eq_true hK) ?_
 cases e with
 | panic v => obtain ⟨u, h1, h2⟩ := ho; exact ⟨u, h1, hl.1 ▸ h2⟩
 | _ => exact ho
end
end
end Go.Bas
end
section
namespace Go.Bas
noncomputable section
open Go.RowKit
section
variable {C : Cfg}
theorem AWp.region (hC : C.Ok) {inr : Option Nat} {id : Nat} {ops : Array Oper} {st : St} {k : Ex -> St -> Bool}
  (h : opsK C (callR C (goA C) false) ops ops.toList st (fun st' => k .normal st') (fun v st' => k (.panic v) st') false = true) :
  AWp C inr (.region id ops false) st (fun e s => k e s = true) := fun w B oC oL ω a Q ro S hI hQ => by
 refine wpIn_region ?_
 have := ops_sound (ro := ro) (Q := Q) (ops := ops) (call_sound hC goA_ok) ops.toList 0 rfl st a w oC oL ω h S (fun st' a' w' oC' oL' ω' S' E hk' => hQ .normal _ _ _ _ _ _ _ S' E hk' rfl)
  (fun v u st' a' w' oC' oL' ω' S' E hk' hr => hQ (.panic v) _ _ _ _ _ _ _ S' E hk' ⟨u, rfl, hr⟩)
 rw [List.range_eq_range']
 simpa using this
theorem inp_of_awp (hC : C.Ok) {f : FuncId} {fn : Func} {c : Code} (hfn : C.P.funcs[f]? = some fn) (hb : fn.body = some c) (hX : C.X f = none) (hS : C.S f = none) (hQ : C.Q f = false) {F : List AV -> Mem -> TrM}
  (h : ∀ args m (kk : AV -> Mem -> Bool), (F args m).ev kk false = true -> AWp C none c ⟨padL args fn.ntmps, [], m⟩ (fun e st' => (e = .ret \/ e = .normal) /\ closeK st'.ds st'.m.lp (fun lp => resK C fn st' (fun v => kk v ⟨st'.m.heap, st'.m.nx, lp⟩) false) false = true)) : InpOk C f F := fun args m kk w B oC oL ω us hk M hr => by
 refine call_sound hC goA_ok (.fn f) args m kk (fun _ _ => false) w B oC oL ω us ?_ M hr
 rw [callR_in hfn hb hX hS hQ]
 refine goA_true ((h args m kk hk).mono fun e s he => ?_)
 rcases he with ⟨rfl | rfl, he⟩
 ·exact he
 ·exact he
def LessD (C : Cfg) (n : Nat) (st st' : St) : Prop := n <= st'.m.nx /\ st'.m.nx <= st.m.nx /\ ∀ (w : World) (B oC oL : Nat -> Prop) (ω : Nat -> Option Nat) (a : Act), Sim C w B oC oL ω st a -> Sim C w B oC oL ω st' a
theorem LessS.d {st st' : St} (h : LessS C st st') : LessD C st.m.nx st st' := ⟨by rw [h.1]; exact Nat.le_refl _, by rw [h.1]; exact Nat.le_refl _, h.2⟩
theorem LessD.trans {n : Nat} {st st1 st2 : St} (h : LessD C n st st1) (h' : LessD C n st1 st2) : LessD C n st st2 := ⟨h'.1, Nat.le_trans h'.2.1 h.2.1, fun w B oC oL ω a S => h'.2.2 _ _ _ _ _ _ (h.2.2 _ _ _ _ _ _ S)⟩
theorem ExtR.lowN {w w' : World} {oC oL oC' oL' : Nat -> Prop} {ω ω' : Nat -> Option Nat} {nx nx' n' : Nat} (E : ExtR w oC oL ω nx w' oC' oL' ω' nx') (h : nx <= n') : ExtR w oC oL ω nx w' oC' oL' ω' n' :=
 ⟨E.os, E.tape, E.output, E.size, E.old, E.owns, h, E.om, E.row⟩
def lowLp (n : Nat) (st : St) : Bool := (st.m.lp.all fun p => Nat.blt p.1 n && (match p.2 with
 | .dfb => true
 | .lop _ _ tmps _ _ _ d => tmps.all (AV.under n 8) && Nat.blt d n)) && st.ds.all (fun d => Nat.blt d n)
theorem lpget_mem {lp : Loops} {id : Nat} {e : LB} : lpget lp id = some e -> ∃ p ∈ lp, p.1 = id /\ p.2 = e := by
 induction lp with
 | nil => intro h; cases h
 | cons p r ih =>
  intro h; simp only [lpget] at h; cases hc : Nat.beq p.1 id with
  | true => rw [hc] at h; exact ⟨p, List.mem_cons_self .., of_beq hc, Option.some.inj h⟩
  | false => rw [hc] at h; obtain ⟨q, hq, e⟩ := ih h; exact ⟨q, List.mem_cons_of_mem _ hq, e⟩
theorem Marks.low {ω : Nat -> Option Nat} {nx n : Nat} : ∀ {ds : List Nat} {xs : List Deferred}, Marks ω nx ds xs -> (∀ d ∈ ds, Nat.blt d n = true) -> Marks ω n ds xs
 | [], [], _, _ => trivial
 | d :: ds, x :: xs, h, hd => ⟨⟨blt_lt (hd d (List.mem_cons_self ..)), h.1.2⟩, Marks.low h.2 (fun e he => hd e (List.mem_cons_of_mem _ he))⟩
 | [], _ :: _, h, _ => h.elim
 | _ :: _, [], h, _ => h.elim
theorem LessD.drop {st : St} (n base : Nat) (hb : base <= n) (hn : n <= st.m.nx) (hok : lowOk n st = true) (hlp : lowLp n st = true) : LessD C base st ⟨st.tmps, st.ds, ⟨hlow n st.m.heap, n, st.m.lp⟩⟩ := ⟨hb, hn, fun w B oC oL ω a S => by
 simp only [lowOk, Bool.and_eq_true, List.all_eq_true] at hok
 simp only [lowLp, Bool.and_eq_true, List.all_eq_true] at hlp
 refine ⟨⟨S.tm.1, fun i hi => (S.tm.2 i hi).lower (hok.1 _ (List.getElem_mem hi))⟩, S.dn.low hlp.2, ⟨⟨fun id hb h => ?_, fun i j b h1 h2 => ?_, S.ms.hp.ob⟩, ⟨fun id e h => ?_, S.ms.lp.inj, S.ms.lp.dis⟩, S.ms.gl, S.ms.gb, S.ms.bl⟩⟩
 ·obtain ⟨h1, h2⟩ := hget_hlow n id hb _ h
  obtain ⟨q1, b, arr, q2, q3, q4, q5, q6⟩ := S.ms.hp.rel id hb h2; refine ⟨h1, b, arr, q2, q3, q4, q5, fun i hi => ?_⟩
  have := q6 i hi; cases hp : hb.pure with
  | true => rw [hp] at this; exact this
  | false =>
   rw [hp] at this; obtain ⟨p, hp1, hp2⟩ := hget_mem h; have h3 := hok.2 p hp1; rw [hp2, hp, Bool.false_or, List.all_eq_true] at h3; exact this.lower (h3 _ (List.getElem_mem hi))
 ·obtain ⟨x1, e1⟩ := Option.isSome_iff_exists.1 h1
  obtain ⟨x2, e2⟩ := Option.isSome_iff_exists.1 h2; obtain ⟨_, e1⟩ := hget_hlow n i x1 _ e1; obtain ⟨_, e2⟩ := hget_hlow n j x2 _ e2; exact S.ms.hp.inj i j b (by rw [e1]; rfl) (by rw [e2]; rfl)
 ·obtain ⟨p, hp1, rfl, rfl⟩ := lpget_mem h
  obtain ⟨g1, l, g2, g3, g4⟩ := S.ms.lp.rel p.1 p.2 h; obtain ⟨k1, k2⟩ := hlp.1 p hp1; refine ⟨blt_lt k1, l, g2, g3, ?_⟩; cases hq : p.2 with
  | dfb => rw [hq] at g4; exact g4
  | lop s pend tmps params asg body d =>
   rw [hq] at g4 k2; simp only [Bool.and_eq_true, List.all_eq_true] at k2; obtain ⟨r, r1, r2, r3, r4, r5, r6, r7, r8, r9, r10⟩ := g4; exact ⟨r, r1, r2, r3, r4, ⟨r5.1, fun i hi => (r5.2 i hi).lower (k2.1 _ (List.getElem_mem hi))⟩, r6, r7, r8, blt_lt k2.2, r10⟩⟩
theorem AWp.loopD {K : Ex -> St -> Prop} {ι : Type} {inr : Option Nat} {body : Code} (I : ι -> St) (n0 : Nat) (hn0 : ∀ i, (I i).m.nx = n0) (μ : ι -> Nat) (h : ∀ i, AWp C inr body (I i) (fun e s => match e with | .normal => ∃ j, μ j < μ i /\ LessD C n0 s (I j) | .panic _ => False | e => ∃ s', LessD C n0 s s' /\ K e s')) (i : ι) : AWp C inr (.loop body) (I i) K := fun w B oC oL ω a Q ro S hI hQ => by
 have key : ∀ (m : Nat) (i : ι) (a : Act) (w : World) (oC oL : Nat -> Prop) (ω : Nat -> Option Nat), μ i < m -> Sim C w B oC oL ω (I i) a -> InR ω (I i).m.nx inr ro ->
   (∀ e st' a' w' oC' oL' ω' out, Sim C w' B oC' oL' ω' st' a' -> ExtR w oC oL ω (I i).m.nx w' oC' oL' ω' st'.m.nx -> K e st' -> OutIs w' B oC' oL' ω' st'.m.nx e out -> Q out a' w') -> Code.roundsIn (Fr ro) 0 C.P body Q m a w := by
  intro m
  induction m with
  | zero => intro i a w oC oL ω h; exact absurd h (Nat.not_lt_zero _)
  | succ m ih =>
   intro i a w oC oL ω hm S hI hQ; rw [roundsIn_succ]; refine h i w B oC oL ω a _ ro S hI (fun e st' a' w' oC' oL' ω' out S' E hk ho => ?_)
   cases e with
   | normal =>
    obtain ⟨j, hj, hl⟩ := hk; subst ho; have E1 : ExtR w oC oL ω (I i).m.nx w' oC' oL' ω' (I j).m.nx := E.lowN (by rw [hn0, hn0]; exact Nat.le_refl _)
    exact ih j a' w' oC' oL' ω' (by omega) (hl.2.2 _ _ _ _ _ _ S') (hI.ext E1) (fun e2 st2 a2 w2 oC2 oL2 ω2 out2 S2 E2 hk2 ho2 => hQ e2 st2 a2 w2 oC2 oL2 ω2 out2 S2 (E1.trans E2) hk2 ho2)
   | exit id =>
    obtain ⟨s', hl, hk⟩ := hk; subst ho; exact hQ (.exit id) s' a' w' oC' oL' ω' _ (hl.2.2 _ _ _ _ _ _ S') (E.lowN (by rw [hn0]; exact hl.1)) hk rfl
   | goto l =>
    obtain ⟨s', hl, hk⟩ := hk; subst ho; exact hQ (.goto l) s' a' w' oC' oL' ω' _ (hl.2.2 _ _ _ _ _ _ S') (E.lowN (by rw [hn0]; exact hl.1)) hk rfl
   | ret =>
    obtain ⟨s', hl, hk⟩ := hk; subst ho; exact hQ .ret s' a' w' oC' oL' ω' _ (hl.2.2 _ _ _ _ _ _ S') (E.lowN (by rw [hn0]; exact hl.1)) hk rfl
   | panic v => exact hk.elim
 exact wpIn_loop_rounds (μ i + 1) (key (μ i + 1) i a w oC oL ω (Nat.lt_succ_self _) S hI hQ)
end
end
end Go.Bas
end
section
namespace Go.Bas
open Go.RowKit
section
variable {F : Fence} {n : Nat} {P : Program} {Q : Exit -> Act -> World -> Prop} {a : Act} {w : World} {c : Code}
def loopR (F : Fence) (n : Nat) (P : Program) (c : Code) (Q : Exit -> Act -> World -> Prop) (a : Act) (w : World) : Prop :=
 ∀ (b : Frame) (k : List Item) (cs : List Frame), b.roundOf = F.round -> F.fn b.fn -> F.room (cs.length + 1 + n) ->
  ∃ e a' w', Q e a' w' /\ ArrivesIn (Machine.fenced P F) P (lone (b.atR a (.code c :: .inLoop c :: k)) cs w) b k cs e a' w'
theorem loopR_wp (h : loopR F n P c Q a w) : (Code.loop c).wpIn F n P Q a w := fun b k cs hro hb hr => by
 obtain ⟨e, a', w', hq, harr⟩ := h b k cs hro hb hr
 exact ⟨e, a', w', hq, .of_steps (.one (fenced_calm hb hr rfl) stepR_loop) harr⟩
theorem loopR_step (h : c.wpIn F n P (Exit.then (loopR F n P c Q) Q) a w) : loopR F n P c Q a w := fun b k cs hro hb hr => by
 obtain ⟨e, a₁, w₁, hq, harr⟩ := h b (.inLoop c :: k) cs hro hb hr
 cases e with
 | normal =>
  obtain ⟨e₂, a₂, w₂, hq₂, harr₂⟩ := hq b k cs hro hb hr; exact ⟨e₂, a₂, w₂, hq₂, .of_steps (StepsIn.trans harr (.one (fenced_calm hb hr rfl) stepR_inLoop)) harr₂⟩
 | exit id => exact ⟨_, a₁, w₁, hq, .pass (x := .inLoop c) rfl (fun _ _ => .inl (by simp)) harr⟩
 | goto l => exact ⟨_, a₁, w₁, hq, .pass (x := .inLoop c) rfl (fun _ _ => .inl (by simp)) harr⟩
 | ret => exact ⟨_, a₁, w₁, hq, .pass (x := .inLoop c) rfl (fun _ _ => .inl (by simp)) harr⟩
 | panic ch => exact ⟨_, a₁, w₁, hq, .pass (x := .inLoop c) rfl (fun _ _ => .inl (by simp)) harr⟩
 | outgrown => exact ⟨_, a₁, w₁, hq, .pass (x := .inLoop c) rfl (fun _ _ => .inl (by simp)) harr⟩
end
section
variable {C : Cfg} {K : Ex -> St -> Prop} {st : St} {inr : Option Nat} {body : Code}
def AWr (C : Cfg) (inr : Option Nat) (body : Code) (st : St) (K : Ex -> St -> Prop) : Prop :=
 ∀ (w : World) (B oC oL : Nat -> Prop) (ω : Nat -> Option Nat) (a : Act) (Q : Exit -> Act -> World -> Prop) (ro : Option Nat), Sim C w B oC oL ω st a -> InR ω st.m.nx inr ro ->
  (∀ e st' a' w' oC' oL' ω' out, Sim C w' B oC' oL' ω' st' a' -> ExtR w oC oL ω st.m.nx w' oC' oL' ω' st'.m.nx -> K e st' -> OutIs w' B oC' oL' ω' st'.m.nx e out -> Q out a' w') -> loopR (Fr ro) 0 C.P body Q a w
theorem AWr.loop (h : AWr C inr body st K) : AWp C inr (.loop body) st K := fun w B oC oL ω a Q ro S hI hQ => loopR_wp (h w B oC oL ω a Q ro S hI hQ)
theorem AWr.step (h : AWp C inr body st (fun e s => match e with | .normal => AWr C inr body s K | e => K e s)) : AWr C inr body st K := fun w B oC oL ω a Q ro S hI hQ => by
 refine loopR_step (h w B oC oL ω a _ ro S hI (fun e st' a' w' oC' oL' ω' out S' E hk ho => ?_))
 cases e with
 | normal =>
  subst ho; exact hk w' B oC' oL' ω' a' Q ro S' (hI.ext E) (fun e2 st2 a2 w2 oC2 oL2 ω2 out2 S2 E2 hk2 ho2 => hQ e2 st2 a2 w2 oC2 oL2 ω2 out2 S2 (E.trans E2) hk2 ho2)
 | exit id => have h2 := hQ _ st' a' w' oC' oL' ω' out S' E hk ho; subst ho; exact h2
 | goto l => have h2 := hQ _ st' a' w' oC' oL' ω' out S' E hk ho; subst ho; exact h2
 | ret => have h2 := hQ _ st' a' w' oC' oL' ω' out S' E hk ho; subst ho; exact h2
 | panic v => have h2 := hQ _ st' a' w' oC' oL' ω' out S' E hk ho; obtain ⟨u, rfl, _⟩ := ho; exact h2
theorem AWr.less {st' : St} (h : LessS C st st') (hw : AWr C inr body st' K) : AWr C inr body st K := fun w B oC oL ω a Q ro S hI hQ =>
 hw w B oC oL ω a Q ro (h.2 _ _ _ _ _ _ S) (h.1 ▸ hI) (fun e s a' w' oC' oL' ω' out S' E hk ho => hQ e s a' w' oC' oL' ω' out S' (h.1 ▸ E) hk ho)
end
end Go.Bas
end
section
namespace Go.Bas
noncomputable section
open Go.RowKit
section
variable {C : Cfg} {K : Ex -> St -> Prop} {st : St} {inr : Option Nat} {body : Code}
def dropS (n0 : Nat) (st : St) : St := ⟨st.tmps, st.ds, ⟨hlow n0 st.m.heap, n0, st.m.lp⟩⟩
def okD (n0 : Nat) (st : St) : Bool := Nat.ble n0 st.m.nx && (lowOk n0 st && lowLp n0 st)
def dk (n0 : Nat) (ls : List Nat) (e : Ex) (s : St) (k : Ex -> St -> Bool) : Bool := cond (okD n0 (keepS ls s)) (k e (dropS n0 (keepS ls s))) false
theorem dk_lessD {n0 : Nat} {ls : List Nat} {e : Ex} {s : St} {k : Ex -> St -> Bool} (h : dk n0 ls e s k = true) : LessD C n0 s (dropS n0 (keepS ls s)) /\ k e (dropS n0 (keepS ls s)) = true := by
 unfold dk at h
 obtain ⟨h1, h2⟩ := of_cond h
 unfold okD at h1
 simp only [Bool.and_eq_true] at h1
 obtain ⟨a, b, c⟩ := h1
 have hn : n0 <= (keepS ls s).m.nx := Nat.le_of_ble_eq_true a
 have l1 : LessS C s (keepS ls s) := LessS.keep ls s
 have l2 : LessD C n0 (keepS ls s) (dropS n0 (keepS ls s)) := LessD.drop n0 n0 (Nat.le_refl _) hn b c
 refine ⟨⟨Nat.le_refl _, ?_, fun w B oC oL ω a S => l2.2.2 _ _ _ _ _ _ (l1.2 _ _ _ _ _ _ S)⟩, h2⟩
 have := l1.1
 show n0 <= s.m.nx
 omega
def Rnd (C : Cfg) (n n0 : Nat) (ls : List Nat) (body : Code) (s : St) (e : Ex) (s' : St) : Prop := ∀ k : Ex -> St -> Bool, run C n none none body s (fun e s => dk n0 ls e s k) false = k e s'
theorem loop_rounds (hC : C.Ok) {n n0 N : Nat} {ls : List Nat} (I : Nat -> St) {x : Ex} {E : St} (hx : x.calm = true) (hxn : ∀ s, x = s -> s ≠ .normal) (hn : ∀ i, (I i).m.nx = n0) (h : ∀ i, i < N -> Rnd C n n0 ls body (I i) .normal (I (i + 1)))
  (hl : Rnd C n n0 ls body (I N) x E) (hK : K x E) : AWp C none (.loop body) (I 0) K := by
 classical
 have key : AWp C none (.loop body) (I (⟨0, Nat.zero_le _⟩ : { i : Nat // i <= N }).1) K := by
  refine AWp.loopD (K := K) (fun i : { i : Nat // i <= N } => I i.1) n0 (fun i => hn i.1) (fun i => N - i.1) ?_ ⟨0, Nat.zero_le _⟩
  rintro ⟨i, hi⟩
  by_cases hiN : i < N
  ·have hr := h i hiN (fun e s => decide (e = .normal /\ s = I (i + 1)))
   have ht : run C n none none body (I i) (fun e s => dk n0 ls e s (fun e s => decide (e = .normal /\ s = I (i + 1)))) false = true := hr.trans (decide_eq_true ⟨rfl, rfl⟩)
   refine AWp.mono (fun e s he => ?_) (fun w B oC oL ω a Q ro S hI hQ => (run_sound hC n).1 none body (I i) _ w B oC oL ω a Q ro ht S hI hQ)
   obtain ⟨l, hk⟩ := dk_lessD (C := C) he; obtain ⟨rfl, hs⟩ := of_decide_eq_true hk; refine ⟨⟨i + 1, hiN⟩, by show N - (i + 1) < N - i; omega, ?_⟩
   show LessD C n0 s (I (i + 1)); rw [<- hs]; exact l
  ·have e : i = N := by omega
   subst e; have hr := hl (fun e s => decide (e = x /\ s = E))
   have ht : run C n none none body (I i) (fun e s => dk n0 ls e s (fun e s => decide (e = x /\ s = E))) false = true := hr.trans (decide_eq_true ⟨rfl, rfl⟩)
   refine AWp.mono (fun e s he => ?_) (fun w B oC oL ω a Q ro S hI hQ => (run_sound hC n).1 none body (I i) _ w B oC oL ω a Q ro ht S hI hQ)
   obtain ⟨l, hk⟩ := dk_lessD (C := C) he; obtain ⟨he, hs⟩ := of_decide_eq_true hk; subst he; have l' : LessD C n0 s E := by rw [<- hs]; exact l
   cases e with
   | normal => exact absurd rfl (hxn .normal rfl)
   | exit id => exact ⟨E, l', hK⟩
   | goto l => exact ⟨E, l', hK⟩
   | ret => exact ⟨E, l', hK⟩
   | panic v => cases hx
 exact key
def unrl (C : Cfg) (n : Nat) (body : Code) (l : List LF) : Nat -> LF
 | 0 => fun _ _ => false
 | m + 1 => fun st k => runM C n body l st (fun e s => match e with
  | .normal => unrl C n body l m s k
  | e => k e s)
theorem unrl_ok (hC : C.Ok) {n : Nat} {l : List LF} (hl : LoopsOkP C (loopsOf body) l) : ∀ (m : Nat) (st : St) (k : Ex -> St -> Bool), unrl C n body l m st k = true -> AWr C none body st (fun e s => k e s = true)
 | 0, _, _, h => by cases h
 | m + 1, st, k, h => by
  refine AWr.step ?_
  have h2 : runM C n body l st (fun e s => match e with
   | .normal => unrl C n body l m s k
   | e => k e s) = true := h
  have this := runA_soundP hC (mkA body l) st _ (mkA_okP body l hl) h2; rw [mkA_code] at this; refine this.mono fun e s he => ?_
  cases e with
  | normal => exact unrl_ok hC hl m s k he
  | exit id => exact he
  | goto l => exact he
  | ret => exact he
  | panic v => exact he
end
end
end Go.Bas
end
section
namespace Go.Bas
open Go.RowKit Go.ChangeShapes Go.WideShapes
def flatL (f : DataW Unit -> Option (List Value)) : List (DataW Unit) -> Option (List Value)
 | [] => some []
 | d :: r => match f d, flatL f r with
  | some a, some b => some (a ++ b)
  | _, _ => none
def flatG : Nat -> DataW Unit -> Option (List Value)
 | 0, _ => none
 | n + 1, d => match d with
  | .lit (.bool b) => some [.bool b]
  | .lit (.int k n) => some [.int k n]
  | .agg ds => flatL (flatG n) ds
  | _ => none
def tabOk (P : Program) : Nat -> TypeId -> Bool
 | 0, _ => false
 | n + 1, t => match P.underlying t with
  | some .bool => true
  | some (.int _) => true
  | some (.array m e) => cond (Nat.beq (P.cellsOf t) (m * P.cellsOf e)) (tabOk P n e) false
  | _ => false
theorem chunks {α : Type} : ∀ (n k : Nat) (cs : List α), cs.length = n * k -> cs = ((List.range n).map fun i => (cs.drop (i * k)).take k).flatten
 | 0, k, cs, h => by
  have : cs = [] := List.eq_nil_of_length_eq_zero (by simpa using h)
  simp [this]
 | n + 1, k, cs, h => by
  have hk : (cs.drop k).length = n * k := by rw [List.length_drop, h, Nat.succ_mul]; omega
  have ih := chunks n k (cs.drop k) hk; rw [List.range_succ_eq_map]; simp only [List.map_cons, Nat.zero_mul, List.drop_zero, List.flatten_cons, List.map_map]
  have e : ((List.range n).map ((fun i => (cs.drop (i * k)).take k) ∘ Nat.succ)) = (List.range n).map fun i => ((cs.drop k).drop (i * k)).take k := List.map_congr_left fun i _ => by
   simp only [Function.comp, List.drop_drop, Nat.succ_mul]; rw [Nat.add_comm k (i * k)]
  rw [e, <- ih, List.take_append_drop]
theorem flatL_some {f : DataW Unit -> Option (List Value)} : ∀ {ds : List (DataW Unit)} {l : List Value}, flatL f ds = some l -> ∃ ls : List (List Value), l = ls.flatten /\ ls.length = ds.length /\ ∀ (i : Nat) (d : DataW Unit), ds[i]? = some d -> ∃ a, ls[i]? = some a /\ f d = some a
 | [], l, h => ⟨[], by simpa [flatL] using h.symm, rfl, fun i d hd => by simp at hd⟩
 | d :: r, l, h => by
  simp only [flatL] at h; split at h
  ·rename_i a b h1 h2
   obtain ⟨ls, e1, e2, e3⟩ := flatL_some h2; refine ⟨a :: ls, by simpa [e1] using h.symm, by simp [e2], fun i d' hd => ?_⟩
   cases i with
   | zero => simp at hd; subst hd; exact ⟨a, rfl, h1⟩
   | succ i => simpa using e3 i d' (by simpa using hd)
  ·cases h
variable {P : Program} {w : World} {base : Nat} {spare : Nat -> Bool} {held : Bool}
theorem trod_flat : ∀ (n : Nat) (t : TypeId) (fuel : Nat) (cs : List Value) (d : DataW Unit) (ps : List MemPlace) (l : List Value), tabOk P n t = true -> DataW.trod (fun _ => ()) P w base spare held fuel t cs = some (d, ps) -> flatG n d = some l -> cs = l
 | 0, _, _, _, _, _, _, h, _, _ => by cases h
 | n + 1, t, fuel, cs, d, ps, l, h, hx, hl => by
  simp only [tabOk] at h; split at h
  ·rename_i hu
   obtain ⟨b, rfl, e⟩ := DataW.trod_bool hu hx; obtain ⟨rfl, _⟩ := Prod.mk.inj e
   simpa [flatG] using hl
  ·rename_i k hu
   obtain ⟨b, rfl, e, _⟩ := DataW.trod_int hu hx; obtain ⟨rfl, _⟩ := Prod.mk.inj e
   simpa [flatG] using hl
  ·rename_i m e hu
   rcases of_cond2 h with ⟨h1, h2⟩ | ⟨_, h⟩
   ·replace h1 := of_beq h1
    obtain ⟨xs, f1, rfl, ex, hlen, hn, hel⟩ := DataW.trod_array hu hx; obtain ⟨rfl, _⟩ := Prod.mk.inj ex; simp only [flatG] at hl; obtain ⟨ls, rfl, e2, e3⟩ := flatL_some hl; rw [chunks m (P.cellsOf e) cs (hlen.trans h1)]
    congr 1
    refine List.ext_getElem? fun i => ?_
    by_cases hi : i < m
    ·have h4 := hel i hi
     rw [List.getElem?_eq_getElem (by omega)] at h4
     obtain ⟨a, a1, a2⟩ := e3 i (xs[i]'(by omega)).1 (by simp [show i < xs.length by omega])
     have := trod_flat n e f1 _ _ _ a h2 h4 a2; rw [a1, List.getElem?_map, List.getElem?_range hi, Option.map_some, this]
    ·rw [List.getElem?_eq_none (by simp; omega), List.getElem?_eq_none (by rw [e2]; simp; omega)]
   ·cases h
  ·cases h
def GOk1 (g : Nat) (l : List Value) (w : World) : Prop := g < w.heap.size /\ ∀ i (hi : i < l.length), w.cell? ⟨g, i, none⟩ = some l[i]
theorem laid_var {P : Program} {w : World} {name : String} {g : Nat} {cs : Array Value} {fuel : Nat} {t t' : TypeId} {d : DataW Unit} {ps : List MemPlace} {l : List Value} {g' : Nat} (hg : P.globalNamed name = some g') (hg' : P.globalNamed name = some g) (ht : (P.globals[g']?).map (·.type) = some t') (ht' : (P.globals[g]?).map (·.type) = some t)
  (hv : w.var? P name = some cs) (hd : DataW.trod (fun _ => ()) P w base spare held fuel t cs.toList = some (d, ps)) (hok : tabOk P 8 t' = true) (hl : flatG 8 d = some l) (hpos : (match l with | [] => false | _ => true) = true) : GOk1 g' l w := by
 obtain rfl := Option.some.inj (hg.symm.trans hg')
 obtain rfl := Option.some.inj (ht.symm.trans ht')
 have e := trod_flat 8 t' fuel cs.toList d ps l hok hd hl
 have cell : ∀ i (hi : i < l.length), w.cell? ⟨g', i, none⟩ = some l[i] := fun i hi => by
  rw [World.var?_cell hg hv i, <- Array.getElem?_toList, e, List.getElem?_eq_getElem hi]
 refine ⟨?_, cell⟩
 cases l with
 | nil => cases hpos
 | cons x r =>
  have := cell 0 (by simp)
  rcases Nat.lt_or_ge g' w.heap.size with h | h
  ·exact h
  ·simp [World.cell?, Array.getElem?_eq_none h] at this
def gmap : List (Nat × List AV) -> Nat -> Option (List AV)
 | [], _ => none
 | x :: r, g => cond (Nat.beq x.1 g) (some x.2) (gmap r g)
def GsOk (w : World) : List (Nat × List AV) -> Prop
 | [] => True
 | x :: r => (∃ l, x.2 = l.map ofS /\ GOk1 x.1 l w) /\ GsOk w r
theorem gok_of : ∀ {gs : List (Nat × List AV)} {w : World}, GsOk w gs -> GOk (gmap gs) w
 | [], w, _ => fun g cells h => by cases h
 | x :: r, w, h => fun g cells hg => by
  simp only [gmap] at hg
  rcases (show (Nat.beq x.1 g = true /\ some x.2 = some cells) \/ (Nat.beq x.1 g = false /\ gmap r g = some cells) by cases hb : Nat.beq x.1 g <;> rw [hb] at hg <;> simp_all) with ⟨h1, h2⟩ | ⟨h1, h2⟩
  ·obtain ⟨⟨l, e, k1, k2⟩, _⟩ := h
   have hx := of_beq h1; subst hx; obtain rfl := Option.some.inj h2; rw [e]; refine ⟨k1, fun i => l.getD i undef, fun i hi => ?_, fun i hi w' B own ω nx => ?_⟩
   ·have hi' : i < l.length := by simpa using hi
    show _ = some (l.getD i undef); rw [k2 i hi', List.getD_eq_getElem?_getD, List.getElem?_eq_getElem hi', Option.getD_some]
   ·have hi' : i < l.length := by simpa using hi
    show Rep w' B own ω nx _ (l.getD i undef); rw [List.getElem_map, List.getD_eq_getElem?_getD, List.getElem?_eq_getElem hi', Option.getD_some]; exact rep_ofS _ _ _ _ _ _
  ·exact gok_of h.2 g cells h2
end Go.Bas
end
section
namespace Go.Bas
noncomputable section
open Go.RowKit
def eqLs (e : AV -> AV -> Bool) : List AV -> List AV -> Bool
 | [], [] => true
 | x :: xs, y :: ys => cond (e x y) (eqLs e xs ys) false
 | _, _ => false
def eqA : Nat -> AV -> AV -> Bool
 | 0, _, _ => false
 | n + 1, x, y => match x with
  | .bool a => match y with
   | .bool b => cond a b (!b)
   | _ => false
  | .int k a => cond (y.isI k) (decide (a = y.toI)) false
  | .nilp => match y with
   | .nilp => true
   | _ => false
  | .nils => match y with
   | .nils => true
   | _ => false
  | .ns => match y with
   | .ns => true
   | _ => false
  | .es => match y with
   | .es => true
   | _ => false
  | .agg xs => match y with
   | .agg ys => eqLs (eqA n) xs ys
   | _ => false
  | .tup xs => match y with
   | .tup ys => eqLs (eqA n) xs ys
   | _ => false
  | .lst xs m => match y with
   | .lst ys m' => cond (Nat.beq m m') (eqLs (eqA n) xs ys) false
   | _ => false
  | _ => false
theorem eqLs_sound {e : AV -> AV -> Bool} (he : ∀ x y, e x y = true -> x = y) : ∀ {xs ys : List AV}, eqLs e xs ys = true -> xs = ys
 | [], [], _ => rfl
 | x :: xs, y :: ys, h => by
  obtain ⟨h1, h2⟩ := of_cond h; rw [he x y h1, eqLs_sound he h2]
 | [], _ :: _, h => by cases h
 | _ :: _, [], h => by cases h
theorem eqA_sound : ∀ (n : Nat) (x y : AV), eqA n x y = true -> x = y
 | 0, _, _, h => by cases h
 | n + 1, x, y, h => by
  cases x <;> simp only [eqA] at h <;> try cases h
  case bool a =>
   cases y <;> simp only at h <;> try cases h
   case bool b => cases a <;> cases b <;> simp_all
  case int k a =>
   obtain ⟨h1, h2⟩ := of_cond h; cases y <;> simp only [AV.isI] at h1 <;> try cases h1
   case int k' b =>
    have h2 := of_decide_eq_true h2; simp only [AV.toI] at h2; have : k = k' := (kindEq_eq h1).symm; rw [h2, this]
  case nilp => cases y <;> first | rfl | cases h
  case nils => cases y <;> first | rfl | cases h
  case ns => cases y <;> first | rfl | cases h
  case es => cases y <;> first | rfl | cases h
  case agg xs =>
   cases y <;> simp only at h <;> try cases h
   case agg ys => rw [eqLs_sound (eqA_sound n) h]
  case tup xs =>
   cases y <;> simp only at h <;> try cases h
   case tup ys => rw [eqLs_sound (eqA_sound n) h]
  case lst xs m =>
   cases y <;> simp only at h <;> try cases h
   case lst ys m' =>
    obtain ⟨h1, h2⟩ := of_cond h; rw [eqLs_sound (eqA_sound n) h2, of_beq h1]
def hashI (acc : Nat) (n : Int) : Nat := (acc * 31 + (Int.rec (motive := fun _ => Nat) (fun m => m + 7) (fun m => m + 1000003) n)) % 1152921504606846883
def hashF (h : AV -> Nat -> Nat) : List AV -> Nat -> Nat
 | [], acc => acc
 | x :: r, acc => hashF h r (h x acc)
def hashA : Nat -> AV -> Nat -> Nat
 | 0, _, acc => acc
 | n + 1, x, acc => match x with
  | .bool b => cond b ((acc * 31 + 3) % 1152921504606846883) ((acc * 31 + 5) % 1152921504606846883)
  | .int _ a => hashI acc a
  | .agg xs => hashF (hashA n) xs acc
  | .tup xs => hashF (hashA n) xs acc
  | .lst xs _ => hashF (hashA n) xs ((acc * 31 + 11) % 1152921504606846883)
  | _ => (acc * 31 + 1) % 1152921504606846883
def hashL (args : List AV) : Nat := hashF (hashA 6) args 0
def memoG (h : Nat) : List (Nat × List AV × AV) -> List AV -> Option (Bool × AV)
 | [], _ => none
 | e :: r, args => cond (Nat.beq e.1 h) (cond (eqLs (eqA 6) e.2.1 args) (some (true, e.2.2)) (memoG h r args)) (memoG h r args)
def memoH (l : List (Nat × List AV × AV)) (args : List AV) : Option (Bool × AV) := memoG (hashL args) l args
theorem memoG_sum {P : Program} {G : Nat -> Option (List AV)} {f : FuncId} {h : Nat} : ∀ {l : List (Nat × List AV × AV)}, (∀ e ∈ l, ACalls P G f e.2.1 (fun v => v = e.2.2)) -> ∀ args r, memoG h l args = some (true, r) -> ACalls P G f args (fun v => v = r)
 | [], _, args, r, h => by cases h
 | e :: l, hl, args, r, hh => by
  have rest := memoG_sum (P := P) (G := G) (f := f) (h := h) (l := l) (fun e he => hl e (List.mem_cons_of_mem _ he)) args r
  simp only [memoG] at hh; cases hb : Nat.beq e.1 h with
  | false => rw [hb] at hh; exact rest hh
  | true =>
   rw [hb] at hh; cases hq : eqLs (eqA 6) e.2.1 args with
   | false => rw [hq] at hh; exact rest hh
   | true =>
    rw [hq] at hh; have he := eqLs_sound (eqA_sound 6) hq; simp only [cond_true, Option.some.injEq, Prod.mk.injEq, true_and] at hh; have h2 := hl e (List.mem_cons_self ..); rw [he, hh] at h2; exact h2
theorem memoH_sum {P : Program} {G : Nat -> Option (List AV)} {f : FuncId} {l : List (Nat × List AV × AV)} (hl : ∀ e ∈ l, ACalls P G f e.2.1 (fun v => v = e.2.2)) : SumOk P G (f, memoH l) := fun args r h => memoG_sum (h := hashL args) hl args r h
theorem memoH_nil {P : Program} {G : Nat -> Option (List AV)} {f : FuncId} : ∀ e ∈ ([] : List (Nat × List AV × AV)), ACalls P G f e.2.1 (fun v => v = e.2.2) := fun _ h => by cases h
theorem memoH_cons {P : Program} {G : Nat -> Option (List AV)} {f : FuncId} {n : Nat} {args : List AV} {r : AV} {l : List (Nat × List AV × AV)} (h : ACalls P G f args (fun v => v = r)) (hl : ∀ e ∈ l, ACalls P G f e.2.1 (fun v => v = e.2.2)) : ∀ e ∈ (n, args, r) :: l, ACalls P G f e.2.1 (fun v => v = e.2.2) := fun e he => by
 rcases List.mem_cons.1 he with rfl | h'
 ·exact h
 ·exact hl e h'
end
end Go.Bas
end
