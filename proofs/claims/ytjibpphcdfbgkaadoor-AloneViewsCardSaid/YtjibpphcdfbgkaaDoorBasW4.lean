/- The engine, part R: calls that turn nothing of the caller's: by a summary, or walked apart; what a f; The engine, part S: loops over functions in the memory; calls that stand apart; activations that lea; The engine, part T: regions that draw their order, in whatever order; The engine, part U: one operation of a region that draws its order, carried out whenever it may be;; The engine, part V: a region that draws its order: whatever is drawn, it comes to what the order of. -/
import Derived.Test.YtjibpphcdfbgkaaDoorBasW3
import Derived.RangeFuncRecord
import Derived.RangeFuncNested
import Derived.MapKept
section
namespace Go.Bas
open Go.RowKit
set_option linter.unusedSimpArgs false
set_option linter.unusedVariables false

/-- What a callee that stands apart leaves of the caller's world. -/
def Still (w w' : World) : Prop := Ext w (fun _ => False) (fun _ => none) 0 w' (fun _ => False) (fun _ => none) 0
/-- A call that finds these arguments in memory that nobody writes, and leaves a result that leads into new memory, or into its arguments'. ('bad': blocks that the arguments do not lead into.) -/
def ACalls (P : Program) (G : Nat → Option (List AV)) (f : FuncId) (args : List AV) (R : AV → Prop) : Prop :=
  ∀ (w : World) (us : Array Value) (bad : Nat → Prop), GOk G w → (∀ g cells, G g = some cells → ¬ bad g) → (∀ b, bad b → b < w.heap.size) → RepL w bad (fun _ => False) (fun _ => none) 0 args us → Calls P f us w fun e w' =>
    ∃ v u, e = .returned u ∧ R v ∧ Still w w' ∧ Rep w' bad (fun _ => False) (fun _ => none) 0 v u
/-- What is known of a call where it stands is right. -/
def InpOk (C : Cfg) (f : FuncId) (F : List AV → Mem → TrM) : Prop := ∀ args m (kk : AV → Mem → Bool) (w : World) (B oC oL : Nat → Prop) (ω : Nat → Option Nat) (us : Array Value), (F args m).ev kk false = true → MemSim C w B oC oL ω m → RepL w (Or2 B oL) oC ω m.nx args us →
  (callFunc f us).run C.P w = .ok (.enter f us) w ∧ CallsIn (Fr none) 0 C.P f us w (CallEnd C w B oC oL ω m.nx kk (fun _ _ => false))
/-- The summaries are right. -/
structure Cfg.Ok (C : Cfg) : Prop where
  sums : ∀ f F, C.S f = some F → ∀ args r, F args = some (true, r) → ACalls C.P C.G f args (fun v => v = r)
  mixed : C.P.follows .mixedOrders = true
  names : ∀ (f : FuncId) (fn : Func), C.P.funcs[f]? = some fn → (fn.name == "runtime.NumGoroutine") = false
  inpl : ∀ f F, C.X f = some F → InpOk C f F
theorem MemSim.cfg {C C' : Cfg} (hG : C'.G = C.G) {w : World} {B oC oL : Nat → Prop} {ω : Nat → Option Nat} {m : Mem} (M : MemSim C w B oC oL ω m) : MemSim C' w B oC oL ω m :=
  ⟨M.hp, M.lp, hG ▸ M.gl, hG ▸ M.gb, M.bl⟩
theorem CallEnd.cfg {C C' : Cfg} (hG : C'.G = C.G) {w : World} {B oC oL : Nat → Prop} {ω : Nat → Option Nat} {nx : Nat} {kk kp : AV → Mem → Bool} {e : Ending} {w' : World} (h : CallEnd C w B oC oL ω nx kk kp e w') : CallEnd C' w B oC oL ω nx kk kp e w' := by
  rcases h with ⟨v, u, m', oC', oL', ω', h1, h2, h3, h4, h5⟩ | ⟨v, u, m', oC', oL', ω', h1, h2, h3, h4, h5⟩
  · exact .inl ⟨v, u, m', oC', oL', ω', h1, h2, h3, h4.cfg hG, h5⟩
  · exact .inr ⟨v, u, m', oC', oL', ω', h1, h2, h3, h4.cfg hG, h5⟩
theorem InpOk.cfg {C C' : Cfg} (hP : C'.P = C.P) (hG : C'.G = C.G) {f : FuncId} {F : List AV → Mem → TrM} (h : InpOk C f F) : InpOk C' f F := fun args m kk w B oC oL ω us hk M hr => by
  obtain ⟨h1, h2⟩ := h args m kk w B oC oL ω us hk (M.cfg hG.symm) hr
  rw [hP]
  exact ⟨h1, h2.mono fun e w' he => he.cfg hG⟩
theorem Still.drew (w : World) : Still w { w with drawn := w.drawn + 1 } := ⟨rfl, rfl, rfl, Nat.le_refl _, fun _ _ _ => rfl, fun _ h => .inl h, Nat.le_refl _, fun _ _ => rfl, fun _ _ h => h⟩
theorem Still.ext {w w' : World} (E : Still w w') {own : Nat → Prop} {ω : Nat → Option Nat} {nx : Nat} : Ext w own ω nx w' own ω nx :=
  ⟨E.os, E.tape, E.output, E.size, fun b hb _ => E.old b hb (fun h => h), fun _ h => .inl h, Nat.le_refl _, fun _ _ => rfl, E.row⟩

section
variable {C : Cfg} {w : World} {B : Nat → Prop} {own : Nat → Prop} {ω : Nat → Option Nat}

theorem MemSim.still {w' : World} {oC oL : Nat → Prop} {m : Mem} (M : MemSim C w B oC oL ω m) (E : Still w w') : MemSim C w' B oC oL ω m :=
  M.op (nx' := m.nx) (h' := m.heap) E.ext ⟨fun id hb h => by
    obtain ⟨h1, b, arr, h2, h3, h4, h5, h6⟩ := M.hp.rel id hb h
    exact ⟨h1, b, arr, h2, h3, (E.old b (M.hp.ob b h3) (fun h => h)).trans h4, h5, fun i hi => rep_cond_ext (h6 i hi) E.ext⟩, M.hp.inj, fun b hb => Nat.lt_of_lt_of_le (M.hp.ob b hb) E.size⟩
theorem viewsK_sound {f : AV → (AV → Bool) → Bool → Bool} {Rl Rl' : AV → Value → Prop} (hf : ∀ v k, f v k false = true → ∃ v', k v' = true ∧ ∀ u, Rl v u → Rl' v' u) : ∀ (cs : List AV) (k : List AV → Bool), viewsK f cs k false = true →
    ∃ cs', k cs' = true ∧ cs'.length = cs.length ∧ ∀ (j : Nat) (a' a : AV) (u : Value), cs'[j]? = some a' → cs[j]? = some a → Rl a u → Rl' a' u
  | [], k, hk => ⟨[], hk, rfl, fun j a' a u h => by simp at h⟩
  | v :: r, k, hk => by
    obtain ⟨v', h1, h2⟩ := hf v _ hk
    obtain ⟨r', h3, h4, h5⟩ := viewsK_sound hf r _ h1
    refine ⟨v' :: r', h3, by simp [h4], fun j a' a u ha' ha hr => ?_⟩
    cases j with
    | zero => simp at ha' ha; subst ha' ha; exact h2 u hr
    | succ j => exact h5 j a' a u (by simpa using ha') (by simpa using ha) hr

theorem rep_list {w' : World} {B' : Nat → Prop} {own' : Nat → Prop} {ω' : Nat → Option Nat} {nx nx' : Nat} {cs cs' : List AV} {vs : Array Value} (h1 : cs.length = vs.size) (h2 : ∀ i (h : i < cs.length), Rep w B own ω nx cs[i] (vs.getD i undef)) (hl : cs'.length = cs.length)
    (hr : ∀ (j : Nat) (a' a : AV) (u : Value), cs'[j]? = some a' → cs[j]? = some a → Rep w B own ω nx a u → Rep w' B' own' ω' nx' a' u) : cs'.length = vs.size ∧ ∀ i (h : i < cs'.length), Rep w' B' own' ω' nx' cs'[i] (vs.getD i undef) :=
  ⟨by omega, fun i hi => hr i _ _ _ (List.getElem?_eq_getElem hi) (List.getElem?_eq_getElem (by omega)) (h2 i (by omega))⟩

/-- Memory that nobody writes, whoever looks. -/
theorem Rep.plain0 {v : AV} {u : Value} (h : Rep w B own ω 0 v u) : Rep w (fun _ => False) (fun _ => False) (fun _ => none) 0 v u :=
  h.mono (Nat.le_refl _) (fun _ _ _ _ => ⟨rfl, fun h => h, fun h => h⟩) (fun id b hi => absurd hi (Nat.not_lt_zero _)) (fun _ _ h => h)

theorem pure_cells {nx : Nat} {h : Heap} (H : Hp w B own ω nx h) {id b : Nat} {hb : HB} (hid : hget h id = some hb) (hp : hb.pure = true) (hω : ω id = some b) :
    b < w.heap.size ∧ ∃ vs : Nat → Value, (∀ i, i < hb.cells.length → w.cell? ⟨b, i, none⟩ = some (vs i)) ∧ ∀ i (hi : i < hb.cells.length), Rep w B own ω 0 hb.cells[i] (vs i) := by
  obtain ⟨arr, h3, h4, h5, h6⟩ := H.there hid hω
  refine ⟨H.ob b h3, fun i => arr.getD i undef, fun i hi => ?_, fun i hi => ?_⟩
  · have hi' : i < arr.size := by omega
    simp [World.cell?, h4, hi']
  · have := h6 i hi
    rw [hp] at this
    exact this

theorem viewK_sound {nx : Nat} {h : Heap} (H : Hp w B own ω nx h) : ∀ (d : Nat) (v : AV) (k : AV → Bool), viewK h d v k false = true → ∃ v', k v' = true ∧ ∀ u, Rep w B own ω nx v u → Rep w (fun _ => False) (fun _ => False) (fun _ => none) 0 v' u
  | 0, _, _, hk => by cases hk
  | d + 1, v, k, hk => by
    have ih := viewK_sound H d
    have lists : ∀ (cs : List AV) (k : List AV → Bool), viewsK (viewK h d) cs k false = true → _ := fun cs k => viewsK_sound (Rl := fun v u => Rep w B own ω nx v u) (Rl' := fun v u => Rep w (fun _ => False) (fun _ => False) (fun _ => none) 0 v u) ih cs k
    cases v <;> simp only [viewK] at hk
    case any => exact ⟨_, hk, fun u hr => .any _ _⟩
    case bool => exact ⟨_, hk, fun u hr => by cases hr; exact .bool _ _⟩
    case int => exact ⟨_, hk, fun u hr => by cases hr; exact .int _ _ _⟩
    case str => exact ⟨_, hk, fun u hr => by cases hr; exact .str _ _⟩
    case nilp => exact ⟨_, hk, fun u hr => by cases hr; exact .nilp _⟩
    case nils => exact ⟨_, hk, fun u hr => by cases hr; exact .nils _⟩
    case nilfn => exact ⟨_, hk, fun u hr => by cases hr; exact .nilfn _⟩
    case niliface => exact ⟨_, hk, fun u hr => by cases hr; exact .niliface _⟩
    case ptr id off =>
      split at hk
      · rename_i hb hid
        replace hk := of_cond hk; obtain ⟨hp, hk⟩ := hk
        refine ⟨_, hk, fun u hr => ?_⟩
        cases hr with
        | ptr _ _ _ b g1 g2 =>
          obtain ⟨q1, vs, q2, q3⟩ := pure_cells H hid hp g2
          have := Rep.iptr (w := w) (B := fun _ => False) (own := fun _ => False) (ω := fun _ => none) 0 hb.cells off b 0 vs (fun _ => ⟨q1, fun h => h, fun h => h⟩) (fun i hi => by rw [Nat.zero_add]; exact q2 i hi) (fun i hi => (q3 i hi).plain0)
          rwa [Nat.zero_add] at this
      · cases hk
    case iptr cells off =>
      refine ⟨_, hk, fun u hr => ?_⟩
      cases hr with
      | iptr _ _ _ b o vs g1 g2 g3 => exact .iptr _ _ _ b o vs (fun hne => ⟨(g1 hne).1, fun h => h, fun h => h⟩) g2 (fun i hi => (g3 i hi).plain0)
    case yld => cases hk
    case mp => cases hk
    case es => exact ⟨_, hk, fun u hr => by cases hr; exact .es _ _⟩
    case ns => exact ⟨_, hk, fun u hr => by cases hr; exact .ns _ _ _⟩
    case lst c n =>
      refine ⟨_, hk, fun u hr => ?_⟩
      cases hr with
      | lst _ _ _ cap b o vs g1 g2 g3 g4 => exact .lst _ _ _ _ b o vs (fun hne => ⟨(g1 hne).1, fun h => h, fun h => h⟩) g2 g3 (fun i hi => (g4 i hi).plain0)
      | lstn => exact .lstn _ _ _
    case sl id off n sz app =>
      split at hk
      · rename_i hb hid
        replace hk := of_cond hk; obtain ⟨hle, hk⟩ := hk
        replace hle := of_ble hle
        rcases of_cond2 hk with ⟨hp, hk⟩ | ⟨hp, hk⟩
        case inr =>
          obtain ⟨cs', h1, h2, h3⟩ := lists _ _ hk
          refine ⟨_, h1, fun u hr => ?_⟩
          have key : ∀ b cap, ω id = some b → n ≤ cap → Rep w (fun _ => False) (fun _ => False) (fun _ => none) 0 (.lst cs' n) (.slice (some ⟨b, off, none⟩) n cap) := fun b cap hω hn => by
            obtain ⟨arr, a3, a4, a5, a6⟩ := H.there hid hω
            have hl : ((hb.cells.drop off).take (n * sz)).length = n * sz := by simp; omega
            refine .lst _ _ _ cap b off (fun i => arr.getD (off + i) undef) (fun _ => ⟨H.ob b a3, fun h => h, fun h => h⟩) hn (fun i hi => ?_) (fun i hi => ?_)
            · have hi' : off + i < arr.size := by omega
              simp [World.cell?, a4, hi']
            · have hi2 : off + i < hb.cells.length := by omega
              have q := a6 (off + i) hi2
              rw [hp] at q
              exact h3 i _ _ _ (List.getElem?_eq_getElem hi) (by rw [List.getElem?_take_of_lt (by omega), List.getElem?_drop, List.getElem?_eq_getElem hi2]) q
          cases hr with
          | sl _ _ _ _ _ cap b g1 g2 g3 => exact key b cap g2 g3
          | sla _ _ _ _ cap b g1 g2 g3 g4 g5 => exact key b cap g2 g3
        refine ⟨_, hk, fun u hr => ?_⟩
        have key : ∀ b cap, ω id = some b → n ≤ cap → Rep w (fun _ => False) (fun _ => False) (fun _ => none) 0 (.lst ((hb.cells.drop off).take (n * sz)) n) (.slice (some ⟨b, off, none⟩) n cap) := fun b cap hω hn => by
          obtain ⟨q1, vs, q2, q3⟩ := pure_cells H hid hp hω
          have := lst_take (w := w) (B := fun _ => False) (own := fun _ => False) (ω := fun _ => none) (nx := 0) (cells := hb.cells) (cap := cap) (b := b) (o := 0) (d := off) (m := n) (vs := vs) (fun _ => ⟨q1, fun h => h, fun h => h⟩) hn
            (fun i hi => by rw [Nat.zero_add]; exact q2 i hi) (fun i hi => (q3 i hi).plain0) (n * sz)
          rwa [Nat.zero_add] at this
        cases hr with
        | sl _ _ _ _ _ cap b g1 g2 g3 => exact key b cap g2 g3
        | sla _ _ _ _ cap b g1 g2 g3 g4 g5 => exact key b cap g2 g3
      · cases hk
    case fn f a b =>
      obtain ⟨a', h1, h2, h3⟩ := lists a _ hk
      obtain ⟨b', h4, h5, h6⟩ := lists b _ h1
      refine ⟨_, h4, fun u hr => ?_⟩
      cases hr with
      | fn _ _ _ _ fs cs g1 g2 g3 g4 =>
        obtain ⟨e1, e2⟩ := rep_list g1 g3 h2 h3
        obtain ⟨e3, e4⟩ := rep_list g2 g4 h5 h6
        exact .fn _ _ _ _ _ _ e1 e3 e2 e4
    case iface t v =>
      obtain ⟨v', h1, h2⟩ := ih v _ hk
      refine ⟨_, h1, fun u hr => ?_⟩
      cases hr with
      | iface _ _ _ _ g => exact .iface _ _ _ _ (h2 _ g)
    case agg cs =>
      obtain ⟨cs', h1, h2, h3⟩ := lists cs _ hk
      refine ⟨_, h1, fun u hr => ?_⟩
      cases hr with
      | agg _ _ vs g1 g2 => obtain ⟨e1, e2⟩ := rep_list g1 g2 h2 h3; exact .agg _ _ _ e1 e2
    case tup cs =>
      obtain ⟨cs', h1, h2, h3⟩ := lists cs _ hk
      refine ⟨_, h1, fun u hr => ?_⟩
      cases hr with
      | tup _ _ vs g1 g2 => obtain ⟨e1, e2⟩ := rep_list g1 g2 h2 h3; exact .tup _ _ _ e1 e2

/-- What a result variable holds. -/
def resSem (tmps : Array Value) (rv : ResultVar) : Sem Value :=
  match rv with
  | .tmp t => pure (tmps.getD t undef)
  | .cell a t => do loadVar t (← asAddr (tmps.getD a undef))
theorem results_eq (fn : Func) (tmps : Array Value) : results fn tmps = (do let vs ← fn.results.mapM (resSem tmps); pure (if h : vs.size = 1 then vs[0] else .tuple vs)) := rfl

theorem resK1_sound {oL : Nat → Prop} {st : St} {a : Act} (S : Sim C w B own oL ω st a) {rv : ResultVar} {k : AV → Bool} (hk : resK1 C st rv k false = true) :
    Reckons C.P w (Or2 B oL) own ω st.m.nx (resSem a.tmps rv) k := by
  cases rv with
  | tmp t =>
    have := S.ev (.tmp t)
    exact ⟨_, _, fun _ _ => rfl, this, hk⟩
  | cell x t =>
    simp only [resK1] at hk
    have hev := S.ev (.tmp x)
    simp only [evO, Act.eval] at hev
    split at hk
    · rename_i id off hx
      rw [hx] at hev
      split at hk
      · rename_i hb hid
        generalize hy : a.tmps.getD x undef = y at hev
        cases hev with
        | ptr _ _ _ b g1 g2 =>
          obtain ⟨v, u, r1, r2, r3⟩ := loadK_sound (S.ms.hp.lies hid g2) hk
          rw [Nat.zero_add] at r1
          refine ⟨v, u, fun w' hw => ?_, r2, r3⟩
          unfold resSem
          simp only [hy, asAddr, Sem.run_bind, Sem.run_pure, Result.andThen_ok]
          exact r1 w' hw
      · cases hk
    · cases hk

theorem resKs_sound {oL : Nat → Prop} {st : St} {a : Act} (S : Sim C w B own oL ω st a) : ∀ (rs : List ResultVar) (k : List AV → Bool), resKs C st rs k false = true →
    ∃ vs us, (rs.mapM (resSem a.tmps)).run C.P w = .ok us w ∧ vs.length = us.length ∧ (∀ (j : Nat) (v : AV) (u : Value), vs[j]? = some v → us[j]? = some u → Rep w (Or2 B oL) own ω st.m.nx v u) ∧ k vs = true
  | [], k, hk => ⟨[], [], by simp [Sem.run], rfl, fun j v u h => by simp at h, hk⟩
  | r :: rs, k, hk => by
    obtain ⟨v, u, r1, r2, r3⟩ := resK1_sound S hk
    obtain ⟨vs, us, h1, h2, h3, h4⟩ := resKs_sound S rs _ r3
    refine ⟨v :: vs, u :: us, ?_, by simp [h2], fun j x y hx hy => ?_, h4⟩
    · simp only [List.mapM_cons, Sem.run_bind, r1 w (Same.refl w), Result.andThen_ok, h1, Sem.run_pure]
    · cases j with
      | zero => simp at hx hy; subst hx hy; exact r2
      | succ j => exact h3 j x y (by simpa using hx) (by simpa using hy)

theorem resK_sound {oL : Nat → Prop} {st : St} {a : Act} {fn : Func} (S : Sim C w B own oL ω st a) {k : AV → Bool} (hk : resK C fn st k false = true) : ∃ v u, (results fn a.tmps).run C.P w = .ok u w ∧ Rep w (Or2 B oL) own ω st.m.nx v u ∧ k v = true := by
  obtain ⟨vs, us, h1, h2, h3, h4⟩ := resKs_sound S _ _ hk
  have hrun : (results fn a.tmps).run C.P w = .ok (if h : us.toArray.size = 1 then us.toArray[0] else .tuple us.toArray) w := by
    rw [results_eq, Array.mapM_eq_mapM_toList]
    simp only [map_eq_pure_bind, bind_assoc, pure_bind, Sem.run_bind, h1, Result.andThen_ok, Sem.run_pure]
  refine ⟨_, _, hrun, ?_, h4⟩
  by_cases hl : us.length = 1
  · obtain ⟨u, rfl⟩ := List.length_eq_one_iff.1 hl
    obtain ⟨v, rfl⟩ := List.length_eq_one_iff.1 (h2.trans hl)
    exact h3 0 v u rfl rfl
  · have e : tupOf vs = .tup vs := by
      unfold tupOf
      split
      · rename_i v; simp at h2; omega
      · rfl
    rw [e]
    simp only [List.size_toArray, hl, dite_false]
    have := repL_of (w := w) (B := Or2 B oL) (own := own) (ω := ω) (nx := st.m.nx) (cells := vs) (arr := us.toArray) (by simpa using h2) (fun j a x ha hx => h3 j a x ha (by simpa using hx))
    exact .tup _ _ _ this.1 this.2

/-- What leads into no memory is the same in every world. -/
theorem Rep.noMem {B : Nat → Prop} {w : World} {own : Nat → Prop} {ω : Nat → Option Nat} {nx : Nat} {v : AV} {u : Value} (h : Rep w B own ω nx v u) : ∀ {d : Nat}, v.noMem d = true → ∀ w' B' own' ω' nx', Rep w' B' own' ω' nx' v u := by
  induction h with
  | any => intro _ _ _ _ _ _ _; exact .any _ _
  | bool => intro _ _ _ _ _ _ _; exact .bool _ _
  | int => intro _ _ _ _ _ _ _; exact .int _ _ _
  | str => intro _ _ _ _ _ _ _; exact .str _ _
  | nilp => intro _ _ _ _ _ _ _; exact .nilp _
  | ptr => intro d hd; cases d <;> simp [AV.noMem] at hd
  | iptr => intro d hd; cases d <;> simp [AV.noMem] at hd
  | nils => intro _ _ _ _ _ _ _; exact .nils _
  | es => intro _ _ _ _ _ _ _; exact .es _ _
  | ns => intro _ _ _ _ _ _ _; exact .ns _ _ _
  | lst => intro d hd; cases d <;> simp [AV.noMem] at hd
  | lstn => intro d hd; cases d <;> simp [AV.noMem] at hd
  | sl => intro d hd; cases d <;> simp [AV.noMem] at hd
  | sla => intro d hd; cases d <;> simp [AV.noMem] at hd
  | yld => intro d hd; cases d <;> simp [AV.noMem] at hd
  | mp => intro d hd; cases d <;> simp [AV.noMem] at hd
  | fn nx f first cap fs cs h1 h2 _ _ ih1 ih2 =>
    intro d hd w' B' own' ω' nx'
    cases d with
    | zero => simp [AV.noMem] at hd
    | succ d =>
      simp only [AV.noMem, Bool.and_eq_true, List.all_eq_true] at hd
      exact .fn _ _ _ _ _ _ h1 h2 (fun i hi => ih1 i hi (hd.1 _ (List.getElem_mem hi)) _ _ _ _ _) (fun i hi => ih2 i hi (hd.2 _ (List.getElem_mem hi)) _ _ _ _ _)
  | nilfn => intro _ _ _ _ _ _ _; exact .nilfn _
  | iface nx t v u _ ih =>
    intro d hd w' B' own' ω' nx'
    cases d with
    | zero => simp [AV.noMem] at hd
    | succ d => exact .iface _ _ _ _ (ih (by simpa [AV.noMem] using hd) _ _ _ _ _)
  | niliface => intro _ _ _ _ _ _ _; exact .niliface _
  | agg nx cs vs h1 _ ih =>
    intro d hd w' B' own' ω' nx'
    cases d with
    | zero => simp [AV.noMem] at hd
    | succ d =>
      simp only [AV.noMem, List.all_eq_true] at hd
      exact .agg _ _ _ h1 (fun i hi => ih i hi (hd _ (List.getElem_mem hi)) _ _ _ _ _)
  | tup nx cs vs h1 _ ih =>
    intro d hd w' B' own' ω' nx'
    cases d with
    | zero => simp [AV.noMem] at hd
    | succ d =>
      simp only [AV.noMem, List.all_eq_true] at hd
      exact .tup _ _ _ h1 (fun i hi => ih i hi (hd _ (List.getElem_mem hi)) _ _ _ _ _)

theorem freezeK_sound {w : World} {B : Nat → Prop} {own : Nat → Prop} {ω : Nat → Option Nat} {nx : Nat} {h : Heap} (H : Hp w B own ω nx h) (hB : ∀ b, own b → ¬ B b) : ∀ (d : Nat) (v : AV) (k : AV → Bool), freezeK h d v k false = true → ∃ v', k v' = true ∧ ∀ u, Rep w B own ω nx v u → Rep w B (fun _ => False) (fun _ => none) 0 v' u
  | 0, _, _, hk => by cases hk
  | d + 1, v, k, hk => by
    have ih := freezeK_sound H hB d
    have lists : ∀ (cs : List AV) (k : List AV → Bool), viewsK (freezeK h d) cs k false = true → _ := fun cs k => viewsK_sound (Rl := fun v u => Rep w B own ω nx v u) (Rl' := fun v u => Rep w B (fun _ => False) (fun _ => none) 0 v u) ih cs k
    have plain : ∀ {v : AV} {u : Value}, Rep w B own ω 0 v u → Rep w B (fun _ => False) (fun _ => none) 0 v u := fun h =>
      h.mono (Nat.le_refl _) (fun _ _ _ hB => ⟨rfl, fun h => h, hB⟩) (fun id b hi => absurd hi (Nat.not_lt_zero _)) (fun _ _ h => h)
    cases v <;> simp only [freezeK] at hk
    case any => exact ⟨_, hk, fun u hr => .any _ _⟩
    case bool => exact ⟨_, hk, fun u hr => by cases hr; exact .bool _ _⟩
    case int => exact ⟨_, hk, fun u hr => by cases hr; exact .int _ _ _⟩
    case str => exact ⟨_, hk, fun u hr => by cases hr; exact .str _ _⟩
    case nilp => exact ⟨_, hk, fun u hr => by cases hr; exact .nilp _⟩
    case nils => exact ⟨_, hk, fun u hr => by cases hr; exact .nils _⟩
    case yld => cases hk
    case mp => cases hk
    case es => exact ⟨_, hk, fun u hr => by cases hr; exact .es _ _⟩
    case ns => exact ⟨_, hk, fun u hr => by cases hr; exact .ns _ _ _⟩
    case nilfn => exact ⟨_, hk, fun u hr => by cases hr; exact .nilfn _⟩
    case niliface => exact ⟨_, hk, fun u hr => by cases hr; exact .niliface _⟩
    case ptr id off => cases hk
    case iptr cells off => cases hk
    case fn f a b => cases hk
    case lst c n =>
      refine ⟨_, hk, fun u hr => ?_⟩
      cases hr with
      | lst _ _ _ cap b o vs g1 g2 g3 g4 => exact .lst _ _ _ _ b o vs (fun hne => ⟨(g1 hne).1, fun h => h, (g1 hne).2.2⟩) g2 g3 (fun i hi => plain (g4 i hi))
      | lstn => exact .lstn _ _ _
    case sl id off n sz app =>
      split at hk
      · rename_i hb hid
        rcases of_cond2 hk with ⟨h0, hk⟩ | ⟨_, hk⟩
        · obtain rfl := of_beq h0
          refine ⟨_, hk, fun u hr => ?_⟩
          cases hr with
          | sl _ _ _ _ _ cap b g1 g2 g3 => exact .ns _ _ _
          | sla _ _ _ _ cap b g1 g2 g3 g4 g5 => exact .ns _ _ _
        replace hk := of_cond hk; obtain ⟨hle, hk⟩ := hk
        replace hle := of_ble hle
        rcases of_cond2 hk with ⟨hp, hk⟩ | ⟨hp, hk⟩
        case inr =>
          obtain ⟨cs', h1, h2, h3⟩ := lists _ _ hk
          refine ⟨_, h1, fun u hr => ?_⟩
          have key : ∀ b cap, ω id = some b → n ≤ cap → Rep w B (fun _ => False) (fun _ => none) 0 (.lst cs' n) (.slice (some ⟨b, off, none⟩) n cap) := fun b cap hω hn => by
            obtain ⟨arr, a3, a4, a5, a6⟩ := H.there hid hω
            have hl : ((hb.cells.drop off).take (n * sz)).length = n * sz := by simp; omega
            refine .lst _ _ _ cap b off (fun i => arr.getD (off + i) undef) (fun _ => ⟨H.ob b a3, fun h => h, hB b a3⟩) hn (fun i hi => ?_) (fun i hi => ?_)
            · have hi' : off + i < arr.size := by omega
              simp [World.cell?, a4, hi']
            · have hi2 : off + i < hb.cells.length := by omega
              have q := a6 (off + i) hi2
              rw [hp] at q
              exact h3 i _ _ _ (List.getElem?_eq_getElem hi) (by rw [List.getElem?_take_of_lt (by omega), List.getElem?_drop, List.getElem?_eq_getElem hi2]) q
          cases hr with
          | sl _ _ _ _ _ cap b g1 g2 g3 => exact key b cap g2 g3
          | sla _ _ _ _ cap b g1 g2 g3 g4 g5 => exact key b cap g2 g3
        refine ⟨_, hk, fun u hr => ?_⟩
        have key : ∀ b cap, ω id = some b → n ≤ cap → Rep w B (fun _ => False) (fun _ => none) 0 (.lst ((hb.cells.drop off).take (n * sz)) n) (.slice (some ⟨b, off, none⟩) n cap) := fun b cap hω hn => by
          obtain ⟨q1, vs, q2, q3⟩ := pure_cells H hid hp hω
          obtain ⟨_, ho, _⟩ := H.there hid hω
          have := lst_take (w := w) (B := B) (own := fun _ => False) (ω := fun _ => none) (nx := 0) (cells := hb.cells) (cap := cap) (b := b) (o := 0) (d := off) (m := n) (vs := vs) (fun _ => ⟨q1, fun h => h, hB b ho⟩) hn
            (fun i hi => by rw [Nat.zero_add]; exact q2 i hi) (fun i hi => plain (q3 i hi)) (n * sz)
          rwa [Nat.zero_add] at this
        cases hr with
        | sl _ _ _ _ _ cap b g1 g2 g3 => exact key b cap g2 g3
        | sla _ _ _ _ cap b g1 g2 g3 g4 g5 => exact key b cap g2 g3
      · cases hk
    case iface t v =>
      obtain ⟨v', h1, h2⟩ := ih v _ hk
      refine ⟨_, h1, fun u hr => ?_⟩
      cases hr with
      | iface _ _ _ _ g => exact .iface _ _ _ _ (h2 _ g)
    case agg cs =>
      obtain ⟨cs', h1, h2, h3⟩ := lists cs _ hk
      refine ⟨_, h1, fun u hr => ?_⟩
      cases hr with
      | agg _ _ vs g1 g2 => obtain ⟨e1, e2⟩ := rep_list g1 g2 h2 h3; exact .agg _ _ _ e1 e2
    case tup cs =>
      obtain ⟨cs', h1, h2, h3⟩ := lists cs _ hk
      refine ⟨_, h1, fun u hr => ?_⟩
      cases hr with
      | tup _ _ vs g1 g2 => obtain ⟨e1, e2⟩ := rep_list g1 g2 h2 h3; exact .tup _ _ _ e1 e2

end
end Go.Bas
end
section
namespace Go.Bas
open Go.RowKit
set_option linter.unusedSimpArgs false
set_option linter.unusedVariables false

theorem lpget_set (h : Loops) (id j : Nat) (x : LB) : lpget (lpset h id x) j = if j = id then (lpget h id).map (fun _ => x) else lpget h j := by
  induction h with
  | nil => simp [lpset, lpget]
  | cons a r ih =>
    obtain ⟨i, b⟩ := a
    simp only [lpset]
    cases hi : Nat.beq i id with
    | true =>
      have hi' := (beq_iff i id).1 hi
      subst hi'
      simp only [cond_true, lpget]
      by_cases hj : j = i
      · subst hj; simp
      · have : Nat.beq i j = false := by
          cases h : Nat.beq i j with
          | false => rfl
          | true => exact absurd ((beq_iff i j).1 h).symm hj
        simp [this, hj]
    | false =>
      simp only [cond_false, lpget]
      cases hj : Nat.beq i j with
      | true =>
        have hj' := (beq_iff i j).1 hj
        subst hj'
        have hne : ¬ i = id := fun e => by subst e; rw [hi] at hj; cases hj
        simp [hne]
      | false => simp only [cond_false, ih, hi]
theorem lpget_del (h : Loops) (id j : Nat) : lpget (lpdel h id) j = if j = id then none else lpget h j := by
  induction h with
  | nil => simp [lpdel, lpget]
  | cons a r ih =>
    obtain ⟨i, b⟩ := a
    simp only [lpdel]
    cases hi : Nat.beq i id with
    | true =>
      have hi' := (beq_iff i id).1 hi
      subst hi'
      simp only [cond_true, ih, lpget]
      by_cases hj : j = i
      · simp [hj]
      · have : Nat.beq i j = false := by
          cases h : Nat.beq i j with
          | false => rfl
          | true => exact absurd ((beq_iff i j).1 h).symm hj
        simp [this, hj]
    | false =>
      simp only [cond_false, lpget, ih]
      cases hj : Nat.beq i j with
      | true =>
        have hj' := (beq_iff i j).1 hj
        subst hj'
        have hne : ¬ i = id := fun e => by subst e; rw [hi] at hj; cases hj
        simp [hne]
      | false => simp

section
variable {C : Cfg} {w w' : World} {B oC oL oC' oL' : Nat → Prop} {ω ω' : Nat → Option Nat} {nx nx' : Nat}

theorem LbIs.extR {l : Nat} {e : LB} (h : LbIs w (Or2 B oL) oC ω nx l e) (hl : w'.heap[l]? = w.heap[l]?) (E : ExtR w oC oL ω nx w' oC' oL' ω' nx') : LbIs w' (Or2 B oL') oC' ω' nx' l e := by
  cases e with
  | obj o => exact ⟨hl.trans h.1, h.2⟩
  | dfb => exact hl.trans h
  | lop s pend tmps params assign body d =>
    obtain ⟨r, h1, h2, h3, h4, h5, h6, h7, h8, h9, h10⟩ := h
    exact ⟨r, hl.trans h1, h2, h3, h4, h5.extR E, h6, h7, h8, Nat.lt_of_lt_of_le h9 E.nxle, (E.om _ h9).trans h10⟩

/-- No row of cells. -/
def NoCells (w : World) (l : Nat) : Prop := ∀ c e f, w.heap[l]? ≠ some (.cells c e f)
theorem LbIs.noCells {l : Nat} {e : LB} (h : LbIs w B oC ω nx l e) : NoCells w l := fun c t f hh => by
  cases e with
  | obj o => obtain ⟨h1, h2⟩ := h; rw [hh] at h1; exact h2 _ _ _ (Option.some.inj h1).symm
  | dfb => simp only [LbIs] at h; rw [hh] at h; cases h
  | lop s pend tmps params assign body d => obtain ⟨r, h1, _⟩ := h; rw [hh] at h1; cases h1
theorem putObj_row {l b n : Nat} (o : Obj) (hn : NoCells w l) (hr : rowSize w b = some n) : rowSize (w.putObj l o) b = some n := by
  have hne : b ≠ l := fun e => by
    subst e
    unfold rowSize at hr
    split at hr
    · rename_i c e f hh
      exact hn _ _ _ hh
    · cases hr
  simp only [rowSize, World.putObj_heap_other hne] at hr ⊢
  exact hr
theorem ExtR.put {l : Nat} (hl : oL l) (hn : NoCells w l) (o : Obj) : ExtR w oC oL ω nx (w.putObj l o) oC oL ω nx :=
  ⟨rfl, rfl, rfl, by simp, fun b _ hb => World.putObj_heap_other (fun e => hb (by subst e; exact .inr hl)), fun _ h => .inl h, Nat.le_refl _, fun _ _ => rfl, fun b n hr => putObj_row o hn hr⟩
/-- One of the loops' blocks is turned. -/
theorem MemSim.putL {m : Mem} (M : MemSim C w B oC oL ω m) {l : Nat} (hl : oL l) (hn : NoCells w l) (o : Obj) {lp' : Loops}
    (hrel : ∀ id e, lpget lp' id = some e → id < m.nx ∧ ∃ l', ω id = some l' ∧ oL l' ∧ LbIs (w.putObj l o) (Or2 B oL) oC ω m.nx l' e)
    (hsub : ∀ id, (lpget lp' id).isSome = true → (lpget m.lp id).isSome = true) : MemSim C (w.putObj l o) B oC oL ω ⟨m.heap, m.nx, lp'⟩ := by
  have E : ExtR w oC oL ω m.nx (w.putObj l o) oC oL ω m.nx := ExtR.put hl hn o
  refine ⟨⟨fun id x hx => ?_, M.hp.inj, fun b hb => by simpa using M.hp.ob b hb⟩, ⟨hrel, fun i j l hi hj => M.lp.inj i j l (hsub i hi) (hsub j hj), fun l' hl' => ⟨by simpa using (M.lp.dis l' hl').1, (M.lp.dis l' hl').2⟩⟩,
    (M.gl.ext (B' := B) (own := Or2 oC oL) (fun g cells h => (fun hh => hh.elim (M.gb g cells h).1 (M.gb g cells h).2.1)) E).1, M.gb, fun b hb => by simpa using M.bl b hb⟩
  obtain ⟨h1, b, arr, h2, h3, h4, h5, h6⟩ := M.hp.rel id x hx
  have hne : b ≠ l := fun e => by subst e; exact (M.lp.dis b hl).2 h3
  refine ⟨h1, b, arr, h2, h3, (World.putObj_heap_other hne).trans h4, h5, fun i hi => ?_⟩
  have := h6 i hi
  cases hp : x.pure with
  | true => rw [hp] at this; exact this.extR0 E
  | false => rw [hp] at this; exact this.extR E
/-- What the other loops are stays. -/
theorem LpOk.put {m : Mem} (M : MemSim C w B oC oL ω m) {l : Nat} (hl : oL l) (hn : NoCells w l) (o : Obj) {id0 : Nat} {e0 : LB} (h0 : lpget m.lp id0 = some e0) (hω : ω id0 = some l) :
    ∀ id e, id ≠ id0 → lpget m.lp id = some e → id < m.nx ∧ ∃ l', ω id = some l' ∧ oL l' ∧ LbIs (w.putObj l o) (Or2 B oL) oC ω m.nx l' e := fun id e hne he => by
  obtain ⟨h1, l', h2, h3, h4⟩ := M.lp.rel id e he
  have hll : l' ≠ l := fun e' => by
    subst e'
    exact hne (M.lp.inj id id0 l' (by rw [he]; rfl) (by rw [h0]; rfl) h2 hω)
  exact ⟨h1, l', h2, h3, h4.extR (World.putObj_heap_other hll) (ExtR.put hl hn o)⟩
/-- A loop's entry is turned. -/
theorem MemSim.setL {m : Mem} (M : MemSim C w B oC oL ω m) {id l : Nat} {e e' : LB} (hid : lpget m.lp id = some e) (hω : ω id = some l) (o : Obj) (h' : LbIs (w.putObj l o) (Or2 B oL) oC ω m.nx l e') :
    MemSim C (w.putObj l o) B oC oL ω ⟨m.heap, m.nx, lpset m.lp id e'⟩ ∧ ExtR w oC oL ω m.nx (w.putObj l o) oC oL ω m.nx := by
  obtain ⟨h1, l', h2, h3, h4⟩ := M.lp.rel id e hid
  rw [hω] at h2; cases h2
  refine ⟨M.putL h3 h4.noCells o (fun j x hx => ?_) (fun j hj => ?_), ExtR.put h3 h4.noCells o⟩
  · rw [lpget_set] at hx
    split at hx
    · rename_i hj
      subst hj
      rw [hid] at hx
      simp only [Option.map_some, Option.some.injEq] at hx
      subst hx
      exact ⟨h1, l, hω, h3, h'⟩
    · rename_i hj
      exact LpOk.put M h3 h4.noCells o hid hω j x hj hx
  · rw [lpget_set] at hj
    split at hj
    · rename_i e; subst e; rw [hid]; rfl
    · exact hj
/-- A loop's entry is struck. -/
theorem MemSim.delL {m : Mem} (M : MemSim C w B oC oL ω m) {id l : Nat} {e : LB} (hid : lpget m.lp id = some e) (hω : ω id = some l) (o : Obj) :
    MemSim C (w.putObj l o) B oC oL ω ⟨m.heap, m.nx, lpdel m.lp id⟩ ∧ ExtR w oC oL ω m.nx (w.putObj l o) oC oL ω m.nx := by
  obtain ⟨h1, l', h2, h3, h4⟩ := M.lp.rel id e hid
  rw [hω] at h2; cases h2
  refine ⟨M.putL h3 h4.noCells o (fun j x hx => ?_) (fun j hj => ?_), ExtR.put h3 h4.noCells o⟩
  · rw [lpget_del] at hx
    split at hx
    · cases hx
    · rename_i hj
      exact LpOk.put M h3 h4.noCells o hid hω j x hj hx
  · rw [lpget_del] at hj
    split at hj
    · cases hj
    · exact hj
/-- A loop's block is laid. -/
theorem MemSim.addL {m : Mem} (M : MemSim C w B oC oL ω m) (o : Obj) (e : LB) (hrow : ∀ c t f, o ≠ .cells c t f)
    (h' : LbIs (w.alloc o) (Or2 B (fun x => oL x ∨ x = w.heap.size)) oC (fun i => if i = m.nx then some w.heap.size else ω i) (m.nx + 1) w.heap.size e) :
    MemSim C (w.alloc o) B oC (fun x => oL x ∨ x = w.heap.size) (fun i => if i = m.nx then some w.heap.size else ω i) ⟨m.heap, m.nx + 1, (m.nx, e) :: m.lp⟩ ∧
    ExtR w oC oL ω m.nx (w.alloc o) oC (fun x => oL x ∨ x = w.heap.size) (fun i => if i = m.nx then some w.heap.size else ω i) (m.nx + 1) := by
  have E : ExtR w oC oL ω m.nx (w.alloc o) oC (fun x => oL x ∨ x = w.heap.size) (fun i => if i = m.nx then some w.heap.size else ω i) (m.nx + 1) := by
    refine ⟨rfl, rfl, rfl, by simp, fun b hb _ => heap_alloc_old w o hb, fun b hb => ?_, by omega, fun id hi => if_neg (by omega), fun b n hr => ?_⟩
    · rcases hb with hb | hb | rfl
      · exact .inl (.inl hb)
      · exact .inl (.inr hb)
      · exact .inr (Nat.le_refl _)
    · have hlt := rowSize_lt hr
      simp only [rowSize, heap_alloc_old w o hlt] at hr ⊢
      exact hr
  refine ⟨⟨⟨fun id x hx => ?_, fun i j b hi hj h1 h2 => ?_, fun b hb => by have := M.hp.ob b hb; simp; omega⟩, ⟨fun id x hx => ?_, fun i j l hi hj h1 h2 => ?_, fun l hl => ?_⟩,
    (M.gl.ext (B' := B) (own := Or2 oC oL) (fun g cells h => (fun hh => hh.elim (M.gb g cells h).1 (M.gb g cells h).2.1)) E).1, fun g cells h => ?_, fun b hb => by have := M.bl b hb; simp; omega⟩, E⟩
  · obtain ⟨h1, b, arr, h2, h3, h4, h5, h6⟩ := M.hp.rel id x hx
    refine ⟨by show id < m.nx + 1; omega, b, arr, by rw [if_neg (by omega)]; exact h2, h3, (heap_alloc_old w o (M.hp.ob b h3)).trans h4, h5, fun i hi => ?_⟩
    have := h6 i hi
    cases hp : x.pure with
    | true => rw [hp] at this; exact this.extR0 E
    | false => rw [hp] at this; exact this.extR E
  · obtain ⟨x, hx⟩ := Option.isSome_iff_exists.1 hi
    obtain ⟨y, hy⟩ := Option.isSome_iff_exists.1 hj
    have a1 := (M.hp.rel i x hx).1
    have a2 := (M.hp.rel j y hy).1
    rw [if_neg (by omega)] at h1 h2
    exact M.hp.inj i j b hi hj h1 h2
  · simp only [lpget] at hx
    cases he : Nat.beq m.nx id with
    | true =>
      have := of_beq he
      subst this
      simp only [he, cond_true, Option.some.injEq] at hx
      subst hx
      exact ⟨by show m.nx < m.nx + 1; omega, _, if_pos rfl, .inr rfl, h'⟩
    | false =>
      simp only [he, cond_false] at hx
      obtain ⟨h1, l, h2, h3, h4⟩ := M.lp.rel id x hx
      exact ⟨by show id < m.nx + 1; omega, l, by rw [if_neg (by omega)]; exact h2, .inl h3, h4.extR (heap_alloc_old w o (M.lp.dis l h3).1) E⟩
  · have key : ∀ i, (lpget ((m.nx, e) :: m.lp) i).isSome = true → (if i = m.nx then some w.heap.size else ω i) = some l → (i = m.nx ∧ l = w.heap.size) ∨ (i ≠ m.nx ∧ (lpget m.lp i).isSome = true ∧ ω i = some l ∧ l < w.heap.size) := fun i hi hl => by
      by_cases hne : i = m.nx
      · subst hne
        rw [if_pos rfl] at hl
        exact .inl ⟨rfl, (Option.some.inj hl).symm⟩
      · rw [if_neg hne] at hl
        simp only [lpget] at hi
        have hb : Nat.beq m.nx i = false := by
          cases hb : Nat.beq m.nx i with
          | false => rfl
          | true => exact absurd (of_beq hb).symm hne
        rw [hb] at hi
        simp only [cond_false] at hi
        obtain ⟨x, hx⟩ := Option.isSome_iff_exists.1 hi
        obtain ⟨_, l', g2, g3, _⟩ := M.lp.rel i x hx
        rw [hl] at g2; cases g2
        exact .inr ⟨hne, hi, hl, (M.lp.dis l g3).1⟩
    rcases key i hi h1 with ⟨a1, a2⟩ | ⟨a1, a2, a3, a4⟩ <;> rcases key j hj h2 with ⟨b1, b2⟩ | ⟨b1, b2, b3, b4⟩
    · omega
    · omega
    · omega
    · exact M.lp.inj i j l a2 b2 a3 b3
  · rcases hl with hl | rfl
    · exact ⟨by have := (M.lp.dis l hl).1; simp; omega, (M.lp.dis l hl).2⟩
    · exact ⟨by simp, fun h => by have := M.hp.ob _ h; omega⟩
  · obtain ⟨h1, h2, h3⟩ := M.gb g cells h
    exact ⟨h1, fun hh => hh.elim h2 (fun e => by have := (M.gl g cells h).1; omega), h3⟩

/-- An activation leaves: its marks are settled. -/
theorem leaves_marks {P : Program} {fn : Func} {tmps arr : Array Value} {R : Ending → World → Prop} {u : FrameMode} (hu : u ≠ .run) {heap : Heap} {tm : List AV} : ∀ (ds : List Nat) (xs : List Deferred) (lp : Loops) (k : Loops → Bool) (w : World), closeK ds lp k false = true → Marks ω nx ds xs →
    MemSim C w B oC oL ω ⟨heap, nx, lp⟩ → RepL w (Or2 B oL) oC ω nx tm arr →
    (∀ w' lp', MemSim C w' B oC oL ω ⟨heap, nx, lp'⟩ → ExtR w oC oL ω nx w' oC oL ω nx → RepL w' (Or2 B oL) oC ω nx tm arr → k lp' = true → LeavesIn (Fr none) 0 P fn tmps R [] u w') → LeavesInM (Fr none) 0 P fn tmps R xs u w
  | [], [], lp, k, w, hk, _, M, ht, hR => hR w lp M ExtR.refl ht hk
  | d :: ds, x :: xs, lp, k, w, hk, hm, M, ht, hR => by
    simp only [closeK] at hk
    split at hk
    · rename_i hd
      obtain ⟨⟨h1, r, h2, rfl⟩, hm⟩ := hm
      obtain ⟨_, l, g2, g3, g4⟩ := M.lp.rel d _ hd
      rw [h2] at g2; cases g2
      obtain ⟨M', E⟩ := M.delL hd h2 (.deferred none)
      refine ⟨hu, .inl ⟨r, w.putObj r (.deferred none), rfl, run_takeDeferred g4, ?_⟩⟩
      exact leaves_marks hu ds xs _ k _ hk hm M' (ht.extR E) (fun w' lp' M2 E2 ht2 hk2 => hR w' lp' M2 (E.trans E2) ht2 hk2)
    · cases hk
  | [], _ :: _, _, _, _, _, h, _, _, _ => h.elim
  | _ :: _, [], _, _, _, _, h, _, _, _ => h.elim
end

/-! ### Calls that stand apart -/
section
variable {C : Cfg} {w : World} {B oC oL : Nat → Prop} {ω : Nat → Option Nat}
theorem call_in (hC : C.Ok) {f : FuncId} {fn : Func} {c : Code} (hfn : C.P.funcs[f]? = some fn) (hb : fn.body = some c) (us : Array Value) (w : World) : (callFunc f us).run C.P w = .ok (.enter f us) w := by
  have : ¬ fn.name = "runtime.NumGoroutine" := by simpa using hC.names f fn hfn
  simp [callFunc, program, hfn, this, hb, Sem.run, Result.andThen]
/-- What is walked apart is right. -/
def StandOk (C : Cfg) (stand : Func → Code → List AV → (AV → Bool) → Bool) : Prop :=
  ∀ fn c f args k, C.P.funcs[f]? = some fn → fn.body = some c → stand fn c args k = true → ACalls C.P C.G f args (fun v => k v = true)
theorem ACalls.mono {P : Program} {G : Nat → Option (List AV)} {f : FuncId} {args : List AV} {R R' : AV → Prop} (h : ∀ v, R v → R' v) (hc : ACalls P G f args R) : ACalls P G f args R' := fun w us bad hg gb bl hr =>
  (hc w us bad hg gb bl hr).mono fun _ _ ⟨v, u, he, hv, hx, hr⟩ => ⟨v, u, he, h v hv, hx, hr⟩

theorem floatK_sound (hC : C.Ok) {stand : Func → Code → List AV → (AV → Bool) → Bool} (hst : StandOk C stand) {m : Mem} (M : MemSim C w B oC oL ω m) {f : FuncId} {args : List AV} {us : Array Value} (hr : RepL w (Or2 B oL) oC ω m.nx args us)
    {k : AV → Bool} {other : Func → Code → Bool} (hk : floatK C stand f args m.heap k other false = true) :
    ∃ fn c, C.P.funcs[f]? = some fn ∧ fn.body = some c ∧ (other fn c = true ∨ CallsIn (Fr none) 0 C.P f us w (fun e w' => ∃ v u, e = .returned u ∧ k v = true ∧ Still w w' ∧ Rep w' (Or2 B oL) oC ω m.nx v u)) := by
  have near : ∀ R : AV → Prop, args.all (AV.noRef 6) = true → ACalls C.P C.G f args R → CallsIn (Fr none) 0 C.P f us w (fun e w' => ∃ v u, e = .returned u ∧ R v ∧ Still w w' ∧ Rep w' (Or2 B oL) oC ω m.nx v u) := fun R hn ha => by
    have hl : RepL w (Or2 oC (Or2 B oL)) (fun _ => False) (fun _ => none) 0 args us := ⟨hr.1, fun i hi => by
      have := ((hr.2 i hi).down (all_noRef hn i hi) 0)
      exact this.mono (Nat.le_refl _) (fun b _ ho hB => ⟨rfl, fun h => h, fun h => h.elim ho hB⟩) (fun id b hi => absurd hi (Nat.not_lt_zero _)) (fun _ _ h => h)⟩
    refine callsIn_calls.2 ((ha w us (Or2 oC (Or2 B oL)) M.gl (fun g cells h ho => ho.elim (M.gb g cells h).1 (fun hh => hh.elim (M.gb g cells h).2.2 (M.gb g cells h).2.1)) (fun b hb => hb.elim (M.hp.ob b) (fun hh => hh.elim (M.bl b) (fun hh => (M.lp.dis b hh).1))) hl).mono fun e w' hh => ?_)
    obtain ⟨v, u, rfl, hv, E, R⟩ := hh
    exact ⟨v, u, rfl, hv, E, R.mono (Nat.le_refl _) (fun b hb _ hn => ⟨rfl, fun ho => hn (.inl ho), fun h => hn (.inr h)⟩) (fun id b hi => absurd hi (Nat.not_lt_zero _)) (fun _ _ h => h)⟩
  have far : ∀ (R : AV → Prop) (args' : List AV), args'.length = args.length → (∀ (j : Nat) (a' a : AV) (u : Value), args'[j]? = some a' → args[j]? = some a → Rep w (Or2 B oL) oC ω m.nx a u → Rep w (fun _ => False) (fun _ => False) (fun _ => none) 0 a' u) →
      ACalls C.P C.G f args' (fun v => v.noMem 6 = true ∧ R v) → CallsIn (Fr none) 0 C.P f us w (fun e w' => ∃ v u, e = .returned u ∧ R v ∧ Still w w' ∧ Rep w' (Or2 B oL) oC ω m.nx v u) := fun R args' h2 h3 ha => by
    have hl : RepL w (fun _ => False) (fun _ => False) (fun _ => none) 0 args' us := rep_list hr.1 hr.2 h2 h3
    refine callsIn_calls.2 ((ha w us (fun _ => False) M.gl (fun _ _ _ h => h) (fun _ h => h.elim) hl).mono fun e w' hh => ?_)
    obtain ⟨v, u, rfl, ⟨hm, hv⟩, E, R⟩ := hh
    exact ⟨v, u, rfl, hv, E, R.noMem hm _ _ _ _ _⟩
  have views := fun (k : List AV → Bool) (h : viewsK (viewK m.heap 6) args k false = true) => viewsK_sound (Rl := fun v u => Rep w (Or2 B oL) oC ω m.nx v u) (Rl' := fun v u => Rep w (fun _ => False) (fun _ => False) (fun _ => none) 0 v u) (viewK_sound M.hp 6) args k h
  unfold floatK at hk
  split at hk
  · rename_i fn hfn
    split at hk
    · rename_i c hb
      refine ⟨fn, c, hfn, hb, ?_⟩
      split at hk
      · rename_i F hF
        refine .inr ?_
        rcases of_cond2 hk with ⟨hn, hk⟩ | ⟨_, hk⟩
        · split at hk
          · rename_i p r hFr
            obtain ⟨rfl, hk⟩ := of_cond hk
            exact near _ hn ((hC.sums f F hF args r hFr).mono fun v e => by rw [e]; exact hk)
          · cases hk
        · obtain ⟨args', h1, h2, h3⟩ := views _ hk
          split at h1
          · rename_i p r hFr
            have q1 := of_cond h1
            obtain ⟨hp, q1⟩ := q1
            have q2 := of_cond q1
            subst hp
            exact far _ args' h2 h3 ((hC.sums f F hF args' r hFr).mono fun v e => by rw [e]; exact q2)
          · cases h1
      · rcases of_cond2 hk with ⟨_, hk⟩ | ⟨_, hk⟩
        · refine .inr ?_
          rcases of_cond2 hk with ⟨hn, hk⟩ | ⟨_, hk⟩
          · exact near _ hn (hst fn c f args k hfn hb hk)
          · obtain ⟨args', h1, h2, h3⟩ := views _ hk
            exact far _ args' h2 h3 ((hst fn c f args' _ hfn hb h1).mono fun v e => of_cond e)
        · exact .inl hk
    · cases hk
  · cases hk
theorem findI_some {P : Program} {kt : TypeId} {es : Array MapEntry} {kd : IntKind} {n : Int} {r : Option (IntKind × Int)} (h : findI P kt es kd n = some r) :
    P.underlying kt = some (.int kd) ∧ ∃ a, Instr.findNow (.int kd) (.int kd n) es.toList 0 = some a ∧ a.map (·.2) = r.map fun p => .int p.1 p.2 := by
  unfold findI at h
  split at h
  · rename_i kd0 hk
    cases hb : kindEq kd kd0 with
    | false => rw [hb] at h; cases h
    | true =>
      rw [hb] at h
      have := kindEq_eq hb
      subst this
      simp only [cond_true] at h
      split at h
      · rename_i j kv v hf
        cases h
        exact ⟨hk, _, hf, rfl⟩
      · rename_i hf
        cases h
        exact ⟨hk, _, hf, rfl⟩
      · cases h
  · cases h
theorem zeroI_some {P : Program} {t : TypeId} {k : IntKind} {n : Int} {w : World} (h : zeroI P t = some (k, n)) : (zeroValue t).run P w = .ok (.int k n) w := by
  unfold zeroI at h
  split at h
  · rename_i i hi
    split at h
    · rename_i k' n' hz
      cases h
      simp [zeroValue, typeInfo, hi, hz, Sem.run, Result.andThen]
    · cases h
  · cases h
/-- What a run does with its own maps is right. -/
theorem mapOk (C : Cfg) : MapOk C := fun w B oC oL ω m ρ e o kv hk M hρ => by
  obtain ⟨dst, op, type, pos, after, guard⟩ := o
  cases op <;> simp only [mapK] at hk <;> try cases hk
  case makeMap t r =>
    cases r with
    | some x => cases hk
    | none =>
      obtain ⟨M1, E1⟩ := M.addL (.map #[] 0) (.obj (.map #[] 0)) (fun c t f h => by cases h) ⟨heap_alloc_new w _, fun c t f h => by cases h⟩
      refine ⟨.mp m.nx, .map (some w.heap.size), _, _, _, _, _, .inl ?_, hk, E1, M1, .mp _ _ _ (by show m.nx < m.nx + 1; omega) (if_pos rfl)⟩
      simp [execOp, Instr.makeMap, newObj, Sem.run, Result.andThen]
  case lookup t x ix ok =>
    split at hk
    · rename_i kt et id kd n hu hx hi
      split at hk
      · rename_i es cl kz nz hl hz
        have hxr := hρ x
        rw [hx] at hxr
        generalize hex : e x = ex at hxr
        cases hxr with
        | mp _ _ l g1 g2 =>
          have hir := hρ ix
          rw [hi] at hir
          generalize hei : e ix = ei at hir
          cases hir
          obtain ⟨a1, l', a2, a3, a4, _⟩ := M.lp.rel id _ hl
          rw [g2] at a2
          cases a2
          have run : ∀ {r : Option (IntKind × Int)}, findI C.P kt es kd n = some r → (Instr.lookup t (.map (some l)) (.int kd n) ok).run C.P w = .ok (if ok then .tuple #[.int (r.getD (kz, nz)).1 (r.getD (kz, nz)).2, .bool r.isSome] else .int (r.getD (kz, nz)).1 (r.getD (kz, nz)).2) w := fun {r} hf => by
            obtain ⟨hkt, a, ha, hr⟩ := findI_some hf
            have hc : (Instr.checkKey es.isEmpty 10000 kt (.int kd n)).run C.P w = .ok () w := MapKept.run_checkKey (k := .int kd n) hkt (by simp [MapKept.IsKey]) _ 9999
            simp only [Instr.lookup, Sem.run_bind, run_underlying hu, MapKept.run_getObj_map a4, hc, MapKept.run_findKey hkt ha, Result.andThen]
            cases a with
            | none =>
              cases r with
              | none => cases ok <;> simp [zeroI_some hz, Result.andThen, MapKept.run_getObj_map a4, hc, MapKept.run_findKey hkt ha]
              | some p => cases hr
            | some q =>
              cases r with
              | none => cases hr
              | some p =>
                obtain ⟨qi, qv⟩ := q
                simp only [Option.map_some, Option.some.injEq] at hr
                subst hr
                cases ok <;> simp [Result.andThen, MapKept.run_getObj_map a4, hc, MapKept.run_findKey hkt ha]
          have rep : ∀ (k : IntKind) (n : Int) (b : Bool), Rep w (Or2 B oL) oC ω m.nx (cond ok (.tup [.int k n, .bool b]) (.int k n)) (if ok then .tuple #[.int k n, .bool b] else .int k n) := fun k n b => by
            cases ok with
            | false => exact .int _ _ _
            | true => exact .tup _ _ _ rfl (fun i hi => match i, hi with
              | 0, _ => .int _ _ _
              | 1, _ => .bool _ _)
          have fin : ∀ {u : Value}, (Instr.lookup t (.map (some l)) (.int kd n) ok).run C.P w = .ok u w → (execOp e ⟨dst, .lookup t x ix ok, type, pos, after, guard⟩).run C.P w = .ok (.value u) w := fun h => by
            simp [execOp, hex, hei, h, Result.andThen]
          split at hk
          · rename_i kv' v' hf
            exact ⟨_, _, m, w, oC, oL, ω, .inl (fin (run hf)), hk, ExtR.refl, M, rep _ _ true⟩
          · rename_i hf
            exact ⟨_, _, m, w, oC, oL, ω, .inl (fin (run hf)), hk, ExtR.refl, M, rep _ _ false⟩
          · cases hk
      · cases hk
    · cases hk
  case mapUpdate t x kx vx =>
    split at hk
    · rename_i kt et id kd n kv' v' hu hx hi hv
      split at hk
      · rename_i es cl hl
        have hxr := hρ x
        rw [hx] at hxr
        generalize hex : e x = ex at hxr
        cases hxr with
        | mp _ _ l g1 g2 =>
          have hir := hρ kx
          rw [hi] at hir
          generalize hei : e kx = ei at hir
          cases hir
          have hvr := hρ vx
          rw [hv] at hvr
          generalize hev : e vx = ev at hvr
          cases hvr
          obtain ⟨a1, l', a2, a3, a4, _⟩ := M.lp.rel id _ hl
          rw [g2] at a2
          cases a2
          split at hk
          · rename_i hf
            obtain ⟨hkt, a, ha, hr⟩ := findI_some hf
            have ha0 : a = none := by cases a with
              | none => rfl
              | some q => cases hr
            subst ha0
            have hlt : l < w.heap.size := (M.lp.dis l a3).1
            obtain ⟨M1, E1⟩ := M.setL hl g2 (.map (es.push { key := .int kd n, val := .int kv' v', born := cl }) (cl + 1)) (e' := .obj (.map (es.push { key := .int kd n, val := .int kv' v', born := cl }) (cl + 1))) ⟨World.putObj_heap_same hlt, fun c t f h => by cases h⟩
            have hc : (Instr.checkKey false 10000 kt (.int kd n)).run C.P w = .ok () w := MapKept.run_checkKey (k := .int kd n) hkt (by simp [MapKept.IsKey]) _ 9999
            refine ⟨.tup [], undef, _, _, _, _, _, .inr ⟨?_, rfl⟩, hk, E1, M1, .tup _ _ _ rfl (fun i hi => absurd hi (Nat.not_lt_zero _))⟩
            simp [execOp, hex, hei, hev, Instr.mapUpdate, run_underlying hu, MapKept.run_getObj_map a4, hc, MapKept.run_findKey hkt ha, MapKept.run_setObj_map _ a4, Result.andThen, World.putObj]
          · cases hk
      · cases hk
    · cases hk
end
end Go.Bas
end
section
namespace Go.Bas
open Go.RowKit
set_option linter.unusedSimpArgs false
set_option linter.unusedVariables false

theorem lset_same {l : List AV} {d : Nat} {v : AV} (h : lget l d = v) : lset l d v = l := by
  rw [lset_eq]
  rw [lget_eq] at h
  refine List.ext_getElem? fun i => ?_
  by_cases hi : i = d
  · subst hi
    by_cases hl : i < l.length
    · rw [List.getElem?_set_self hl]
      have : l[i]? = some (l.getD i .any) := by simp [hl]
      rw [this, h]
    · rw [List.getElem?_eq_none (by simpa using Nat.le_of_not_lt hl), List.getElem?_eq_none (Nat.le_of_not_lt hl)]
  · rw [List.getElem?_set_ne (Ne.symm hi)]
noncomputable def guardO (ops : Array Oper) (tmps : List AV) (o : Oper) : Option Bool := guardK ops tmps o (fun _ => some true) (fun _ => some false) none
theorem guardK_eq {Ω : Type} (ops : Array Oper) (tmps : List AV) (o : Oper) (x y : List AV → Ω) (z : Ω) : guardK ops tmps o x y z = match guardO ops tmps o with
    | some true => x tmps
    | some false => y tmps
    | none => z := by
  unfold guardO guardK
  split
  · rfl
  · rename_i j want hg
    split
    · split
      · split
        · rename_i b hb
          cases b with
          | true => rw [lset_same hb]; cases want <;> rfl
          | false => rw [lset_same hb]; cases want <;> rfl
        · rfl
        · rfl
      · rfl
    · rfl
theorem guardO_congr {ops : Array Oper} {tmps tmps' : List AV} {o : Oper} (h : ∀ t ∈ looksL ops o, lget tmps t = lget tmps' t) : guardO ops tmps o = guardO ops tmps' o := by
  unfold guardO guardK
  split
  · rfl
  · rename_i j want hg
    split
    · rename_i oj hoj
      split
      · rename_i d hd
        have : lget tmps d = lget tmps' d := h d (by simp [looksL, hg, hoj, hd])
        rw [this]
      · rfl
    · rfl

section
variable {C : Cfg} {w : World} {B oC oL : Nat → Prop} {ω : Nat → Option Nat} {nx nx0 : Nat}
theorem guardO_sound {B' own : Nat → Prop} {ops : Array Oper} {tmps : List AV} {arr : Array Value} {o : Oper} {b : Bool} (ht : RepL w B' own ω nx tmps arr) (h : guardO ops tmps o = some b) : Region.wanted o (yielded ops arr) = b := by
  have hk : guardK ops tmps o (fun _ => b) (fun _ => !b) false = true := by
    rw [guardK_eq, h]
    cases b <;> rfl
  rcases guardK_sound ht hk with ⟨h1, h2⟩ | ⟨h1, h2⟩
  · rw [h1]; exact h2.symm
  · rw [h1]; cases b <;> simp_all

theorem ev_congr {ops : Array Oper} {tmps tmps' : List AV} {o : Oper} (h : ∀ t ∈ looksL ops o, lget tmps t = lget tmps' t) : ∀ x ∈ o.op.operands, evO C tmps x = evO C tmps' x := fun x hx => by
  cases x with
  | tmp t => exact h t (by
      simp only [looksL, tmpsOf, List.mem_append, List.mem_filterMap]
      exact .inl ⟨.tmp t, Array.mem_toList_iff.2 hx, rfl⟩)
  | _ => rfl

/-- Quiet operations look at memory by what they read alone. -/
theorem quiet_same {Ω : Type} {ρ : Operand → AV} {op : Op} (hq : quietOp op = true) {h h' : Heap} {n n' : Nat} (hh : ∀ id, memN (readsOf ρ op) id = true → hget h id = hget h' id) (g : AV → Ω) (kv : AV → Heap → Nat → Ω) (hg : ∀ v, g v = kv v h' n') (kc : Tgt → List AV → Ω) (kp : AV → Ω) (z : Ω) :
    aop C ρ h' n' op kv kc kp z = aop C ρ h n op (fun v _ _ => g v) kc kp z := by
  have hg' : (fun v => kv v h' n') = g := funext fun v => (hg v).symm
  cases op <;> try cases hq
  case load t x =>
    simp only [aop]
    split
    · rename_i id off hx
      rw [hh id (by simp [readsOf, hx, memN, (beq_iff id id).2 rfl])]
      split
      · rw [hg']
      · rfl
    · rw [hg']
    · rfl
  case call c =>
    simp only [quietOp, quietCall] at hq
    simp only [aop, callK]
    split at hq <;> rename_i hc
    · rw [hc]; simp only []; split
      · rw [hg']
      · rfl
    · rw [hc]; simp only []; rw [hg']
    · rw [hc]; simp only []; rw [hg']
    · cases hq
  all_goals simp only [aop, hg]
  all_goals first | rfl | (split <;> simp [hg])

/-- Operations that make a block. -/
theorem new_makes {ρ : Operand → AV} {e : Operand → Value} {B' own : Nat → Prop} (hρ : ∀ x, Rep w B' own ω nx (ρ x) (e x)) {o : Oper} (hn : newOp o.op = true) {h : Heap} {n0 : Nat} {kv : AV → Heap → Nat → Bool} {kc : Tgt → List AV → Bool} {kp : AV → Bool} (hk : aop C ρ h n0 o.op kv kc kp false = true) :
    ∃ (mk : Nat → AV) (cs : List AV) (el : TypeId) (p : Bool) (arr : Array Value) (u : Value), (execOp e o).run C.P w = .ok (.value u) (w.alloc (.cells arr el)) ∧ kv (mk n0) ((n0, ⟨cs, el, p⟩) :: h) (n0 + 1) = true ∧ RepL w B' own ω nx cs arr ∧ (p = true → cs.all (AV.noRef 2) = true) ∧
      ((mk = (fun i => .ptr i 0) ∧ u = .pointer (some ⟨w.heap.size, 0, none⟩)) ∨ ∃ n cap sz, mk = (fun i => .sl i 0 n sz true) ∧ u = .slice (some ⟨w.heap.size, 0, none⟩) n cap ∧ n ≤ cap ∧ cap ≤ maxLen ∧ arr.size = cap * sz) := by
  have lift : ∀ {s : Sem Value}, Makes w B' own ω nx kv h n0 (s.run C.P w) → ∃ (mk : Nat → AV) (cs : List AV) (el : TypeId) (p : Bool) (arr : Array Value) (u : Value), (do pure (Next.value (← s)) : Sem Next).run C.P w = .ok (.value u) (w.alloc (.cells arr el)) ∧ kv (mk n0) ((n0, ⟨cs, el, p⟩) :: h) (n0 + 1) = true ∧ RepL w B' own ω nx cs arr ∧ (p = true → cs.all (AV.noRef 2) = true) ∧
      ((mk = (fun i => .ptr i 0) ∧ u = .pointer (some ⟨w.heap.size, 0, none⟩)) ∨ ∃ n cap sz, mk = (fun i => .sl i 0 n sz true) ∧ u = .slice (some ⟨w.heap.size, 0, none⟩) n cap ∧ n ≤ cap ∧ cap ≤ maxLen ∧ arr.size = cap * sz) := fun hm => by
    obtain ⟨mk, cs, el, p, arr, u, h1, h2⟩ := hm
    exact ⟨mk, cs, el, p, arr, u, by simp [h1, Sem.run, Result.andThen], h2⟩
  obtain ⟨dst, op, type, pos, after, guard⟩ := o
  cases op <;> simp only [aop] at hk <;> try cases hn
  case alloc t =>
    split at hk
    · rename_i cs hz
      exact lift (alloc_makes hz hk)
    · cases hk
  case box t x =>
    split at hk
    · rename_i cs hz
      exact lift (box_makes (hρ x) hz hk)
    · cases hk
  case buildSlice t len parts =>
    split at hk
    · rename_i el hu
      split at hk
      · rename_i i zs hi hz
        replace hk := of_cond hk; obtain ⟨hc, hk⟩ := hk
        obtain ⟨c1, c2⟩ := of_and hc
        obtain ⟨p1, p2⟩ := parts_rep hρ parts
        exact lift (buildSlice_makes hu hi hz c1 c2 p1 p2 hk)
      · cases hk
    · cases hk
  case makeSlice t l c => exact lift (makeSlice_makes (hρ l) (hρ c) hk)

theorem Rep.birth {B' own : Nat → Prop} {i b : Nat} (hi : ω i = none) {v : AV} {u : Value} (h : Rep w B' own ω nx v u) : Rep w B' own (fun j => if j = i then some b else ω j) nx v u :=
  h.mono (Nat.le_refl _) (fun _ _ h1 h2 => ⟨rfl, h1, h2⟩) (fun id c hid hc => ⟨hid, (if_neg (fun e => by rw [e, hi] at hc; cases hc)).trans hc⟩) (fun _ _ h => h)
/-- A block is born, under a number kept for it. -/
theorem MemSim.birth {m : Mem} (M : MemSim C w B oC oL ω m) {i : Nat} (hi : ω i = none) (hin : i < m.nx) (h0 : nx0 ≤ i) {cs : List AV} {el : TypeId} {p : Bool} {arr : Array Value} (hl : RepL w (Or2 B oL) oC ω m.nx cs arr) (hp : p = true → cs.all (AV.noRef 2) = true) :
    MemSim C (w.alloc (.cells arr el)) B (fun x => oC x ∨ x = w.heap.size) oL (fun j => if j = i then some w.heap.size else ω j) ⟨(i, ⟨cs, el, p⟩) :: m.heap, m.nx, m.lp⟩ ∧
    ExtR w oC oL ω nx0 (w.alloc (.cells arr el)) (fun x => oC x ∨ x = w.heap.size) oL (fun j => if j = i then some w.heap.size else ω j) nx0 ∧
    (∀ n v u, Rep w (Or2 B oL) oC ω n v u → Rep (w.alloc (.cells arr el)) (Or2 B oL) (fun x => oC x ∨ x = w.heap.size) (fun j => if j = i then some w.heap.size else ω j) n v u) := by
  have hrow : ∀ b n, rowSize w b = some n → rowSize (w.alloc (.cells arr el)) b = some n := fun b n hr => by
    have hlt := rowSize_lt hr
    simp only [rowSize, heap_alloc_old w _ hlt] at hr ⊢
    exact hr
  have rep : ∀ n v u, Rep w (Or2 B oL) oC ω n v u → Rep (w.alloc (.cells arr el)) (Or2 B oL) (fun x => oC x ∨ x = w.heap.size) (fun j => if j = i then some w.heap.size else ω j) n v u := fun n v u h =>
    h.mono (by rw [World.size_alloc]; exact Nat.le_succ _) (fun b hb h1 h2 => ⟨heap_alloc_old w _ hb, fun hh => hh.elim h1 (fun e => by omega), h2⟩) (fun id c hid hc => ⟨hid, (if_neg (fun e => by rw [e, hi] at hc; cases hc)).trans hc⟩) hrow
  have upd : ∀ id c, ω id = some c → (if id = i then some w.heap.size else ω id) = some c := fun id c hc => by rw [if_neg (fun e => by rw [e, hi] at hc; cases hc)]; exact hc
  have E : ExtR w oC oL ω nx0 (w.alloc (.cells arr el)) (fun x => oC x ∨ x = w.heap.size) oL (fun j => if j = i then some w.heap.size else ω j) nx0 := by
    refine ⟨rfl, rfl, rfl, by rw [World.size_alloc]; exact Nat.le_succ _, fun b hb _ => heap_alloc_old w _ hb, fun b hb => ?_, Nat.le_refl _, fun id hid => if_neg (by omega), hrow⟩
    rcases hb with (hb | rfl) | hb
    · exact .inl (.inl hb)
    · exact .inr (Nat.le_refl _)
    · exact .inl (.inr hb)
  have hnone : hget m.heap i = none := by
    cases hh : hget m.heap i with
    | none => rfl
    | some x => obtain ⟨_, b, _, h2, _⟩ := M.hp.rel i x hh; rw [hi] at h2; cases h2
  have g0 := M.gl.ext (B' := B) (own := Or2 oC oL) (own' := Or2 (fun x => oC x ∨ x = w.heap.size) oL) (w' := w.alloc (.cells arr el)) (ω := ω) (nx := nx0) (fun g cells h => (fun hh => hh.elim (M.gb g cells h).1 (M.gb g cells h).2.1)) E
  refine ⟨⟨⟨fun id x hx => ?_, fun a b c ha hb h1 h2 => ?_, fun b hb => ?_⟩, ⟨fun id e he => ?_, fun a b l ha hb h1 h2 => ?_, fun l hl => ?_⟩, g0.1, fun g cells h => ?_, fun b hb => by have := M.bl b hb; simp; omega⟩, E, rep⟩
  · rw [hget_cons] at hx
    cases he : Nat.beq i id with
    | true =>
      have := of_beq he
      subst this
      simp only [he, cond_true, Option.some.injEq] at hx
      subst hx
      refine ⟨hin, w.heap.size, arr, if_pos rfl, .inr rfl, heap_alloc_new w _, Nat.le_of_eq hl.1, fun j hj => ?_⟩
      have := rep_cond (hl.2 j hj) (p := p) (fun e => all_noRef (hp e) j hj)
      exact rep _ _ _ this
    | false =>
      simp only [he, cond_false] at hx
      obtain ⟨h1, b, arr', h2, h3, h4, h5, h6⟩ := M.hp.rel id x hx
      exact ⟨h1, b, arr', upd id b h2, .inl h3, (heap_alloc_old w _ (M.hp.ob b h3)).trans h4, h5, fun j hj => rep _ _ _ (h6 j hj)⟩
  · have key : ∀ a, (hget ((i, (⟨cs, el, p⟩ : HB)) :: m.heap) a).isSome = true → (if a = i then some w.heap.size else ω a) = some c → (a = i ∧ c = w.heap.size) ∨ (a ≠ i ∧ (hget m.heap a).isSome = true ∧ ω a = some c ∧ c < w.heap.size) := fun a ha hc => by
      by_cases hne : a = i
      · subst hne
        rw [if_pos rfl] at hc
        exact .inl ⟨rfl, (Option.some.inj hc).symm⟩
      · rw [if_neg hne] at hc
        rw [hget_cons] at ha
        have hb : Nat.beq i a = false := by
          cases hb : Nat.beq i a with
          | false => rfl
          | true => exact absurd (of_beq hb).symm hne
        rw [hb] at ha
        simp only [cond_false] at ha
        obtain ⟨x, hx⟩ := Option.isSome_iff_exists.1 ha
        obtain ⟨_, b', _, g2, g3, _⟩ := M.hp.rel a x hx
        rw [hc] at g2; cases g2
        exact .inr ⟨hne, ha, hc, M.hp.ob _ g3⟩
    rcases key a ha h1 with ⟨a1, a2⟩ | ⟨a1, a2, a3, a4⟩ <;> rcases key b hb h2 with ⟨b1, b2⟩ | ⟨b1, b2, b3, b4⟩
    · omega
    · omega
    · omega
    · exact M.hp.inj a b c a2 b2 a3 b3
  · rcases hb with hb | rfl
    · have := M.hp.ob b hb; simp; omega
    · simp
  · obtain ⟨h1, l, h2, h3, h4⟩ := M.lp.rel id e he
    refine ⟨h1, l, upd id l h2, h3, ?_⟩
    have hheap := heap_alloc_old w (.cells arr el) (M.lp.dis l h3).1
    cases e with
    | dfb => exact hheap.trans h4
    | obj o => exact ⟨hheap.trans h4.1, h4.2⟩
    | lop s pend tmps params assign body d =>
      obtain ⟨r, k1, k2, k3, k4, k5, k6, k7, k8, k9, k10⟩ := h4
      exact ⟨r, hheap.trans k1, k2, k3, k4, ⟨k5.1, fun j hj => rep _ _ _ (k5.2 j hj)⟩, k6, k7, k8, k9, upd _ _ k10⟩
  · obtain ⟨x, hx⟩ := Option.isSome_iff_exists.1 ha
    obtain ⟨y, hy⟩ := Option.isSome_iff_exists.1 hb
    obtain ⟨_, l1, a2, _⟩ := M.lp.rel a x hx
    obtain ⟨_, l2, b2, _⟩ := M.lp.rel b y hy
    have e1 := upd a l1 a2
    have e2 := upd b l2 b2
    rw [h1] at e1; cases e1
    rw [h2] at e2; cases e2
    exact M.lp.inj a b l ha hb a2 b2
  · exact ⟨by have := (M.lp.dis l hl).1; simp; omega, fun hh => hh.elim (M.lp.dis l hl).2 (fun e => by have := (M.lp.dis l hl).1; omega)⟩
  · obtain ⟨h1, h2, h3⟩ := M.gb g cells h
    exact ⟨fun hh => hh.elim h1 (fun e => by have := (M.gl g cells h).1; omega), h2, h3⟩
theorem Marks.birth {i b : Nat} (hi : ω i = none) : ∀ {ds : List Nat} {xs : List Deferred}, Marks ω nx ds xs → Marks (fun j => if j = i then some b else ω j) nx ds xs
  | [], [], _ => trivial
  | d :: ds, x :: xs, h => ⟨⟨h.1.1, let ⟨r, h1, h2⟩ := h.1.2; ⟨r, (if_neg (fun e => by rw [e, hi] at h1; cases h1)).trans h1, h2⟩⟩, Marks.birth hi h.2⟩
  | [], _ :: _, h => h.elim
  | _ :: _, [], h => h.elim
end
end Go.Bas
end
section
namespace Go.Bas
open Go.RowKit
set_option linter.unusedSimpArgs false
set_option linter.unusedVariables false

theorem Ext.weaken {w w' : World} {own own' : Nat → Prop} {ω ω' : Nat → Option Nat} {nx nx' n0 : Nat} (h : Ext w own ω nx w' own' ω' nx') (hn : n0 ≤ nx) : Ext w own ω n0 w' own' ω' n0 :=
  ⟨h.os, h.tape, h.output, h.size, h.old, h.owns, Nat.le_refl _, fun id hi => h.om id (by omega), h.row⟩
theorem Ext.raise {w w' : World} {own own' : Nat → Prop} {ω ω' : Nat → Option Nat} {nx nx' n0 : Nat} (h : Ext w own ω nx w' own' ω' nx') (hn : nx' ≤ n0) : Ext w own ω nx w' own' ω' n0 :=
  ⟨h.os, h.tape, h.output, h.size, h.old, h.owns, Nat.le_trans h.nxle hn, h.om, h.row⟩

section
variable {C : Cfg} {w : World} {B oC oL : Nat → Prop} {ω : Nat → Option Nat} {nx nx0 : Nat}

theorem eq_of_all {α : Type} {a b : α} (h : ∀ k : α → Bool, k a = k b) : a = b := by
  classical
  have := h (fun x => decide (x = b))
  simp at this
  exact this

theorem wp_calls {ro : Option Nat} {o : Oper} {a : Act} {K : Act → World → Prop} {Q : Exit → Act → World → Prop} {f : FuncId} {us : Array Value} {R : Ending → World → Prop} (hd : ∀ c, o.op ≠ .defer c)
    (hrun : (execOp a.eval o).run C.P w = .ok (.enter f us) w) (hc : CallsIn (Fr none) 0 C.P f us w R) (hR : ∀ e w', R e w' → ∃ u, e = .returned u ∧ K (a.put o.dst u) w') : o.wpIn (Fr ro) 0 C.P a w K Q := by
  refine ⟨about_fr _ _ _ _ _, ?_⟩
  rw [Oper.semAt_eq _ _ _ hd, hrun, Oper.uponIn_enter]
  refine ⟨fr_deep ro, (callsIn_fr hc).mono fun e w' he => ?_⟩
  obtain ⟨u, rfl, hk⟩ := hR e w' he
  exact hk
theorem aop_false (C : Cfg) (ρ : Operand → AV) (h : Heap) (n : Nat) (op : Op) : aop C ρ h n op (fun _ _ _ => false) (fun _ _ => false) (fun _ => false) false = false :=
  (aop_nat (fun _ : Unit => false) C ρ h n op (fun _ _ _ => ()) (fun _ _ => ()) (fun _ => ()) ()).symm
/-- Whom a call leads to hangs on no memory. -/
theorem call_free {ρ : Operand → AV} {h : Heap} {n : Nat} {op : Op} {t : Tgt} {args : List AV} (ho : aopO C ρ h n op = .call t args) (h' : Heap) (n' : Nat) : aopO C ρ h' n' op = .call t args := by
  have no : (∀ kc kc' : Tgt → List AV → Bool, aop C ρ h n op (fun _ _ _ => false) kc (fun _ => false) false = aop C ρ h n op (fun _ _ _ => false) kc' (fun _ => false) false) → False := fun hk => by
    have e1 := hk (fun _ _ => true) (fun _ _ => false)
    rw [aop_false, aop_elim, ho] at e1
    cases e1
  cases op <;> try exact (no fun _ _ => rfl).elim
  case call c =>
    cases hc : c.callee with
    | value f =>
      have e : ∀ (h : Heap) (n : Nat), aopO C ρ h n (.call c) = callK C ρ [] 0 c .val .call .pan .no := fun h n => by simp only [aopO, aop, callK, hc]
      rw [e] at ho ⊢
      exact ho
    | invoke r m =>
      have e : ∀ (h : Heap) (n : Nat), aopO C ρ h n (.call c) = callK C ρ [] 0 c .val .call .pan .no := fun h n => by simp only [aopO, aop, callK, hc]
      rw [e] at ho ⊢
      exact ho
    | builtin b =>
      refine (no fun _ _ => ?_).elim
      simp only [aop, callK, hc]
      cases b <;> rfl

/-- What an operation of a region leaves. -/
def Done (C : Cfg) (w : World) (B oC oL : Nat → Prop) (ω : Nat → Option Nat) (nx0 : Nat) (s : St) (rc : Rc) (a' : Act) (w' : World) : Prop :=
  ∃ oC' oL' ω', Sim C w' B oC' oL' ω' (applyRc s rc) a' ∧ ExtR w oC oL ω nx0 w' oC' oL' ω' nx0 ∧ (∀ i, i < s.m.nx → (∀ hb, rc.eff ≠ .new i hb) → ω i = none → ω' i = none) ∧ s.m.nx ≤ (applyRc s rc).m.nx

set_option maxHeartbeats 1000000 in
/-- **One operation, carried out at another time than in the text.** -/
theorem exec (hC : C.Ok) {stand : Func → Code → List AV → (AV → Bool) → Bool} (hst : StandOk C stand) {call : CallF Bool} (hcall : CallOk C call) (hcf : ∀ t args m, call t args m (fun _ _ => false) (fun _ _ => false) = false) {ro : Option Nat} {o : Oper} {s T : St} {ai : Nat} {rc : Rc} {a : Act} {K : Act → World → Prop} {Q : Exit → Act → World → Prop}
    (S : Sim C w B oC oL ω s a) (hop : ∀ k, opD C stand call T.tmps T.m ai o k false = k rc) (hev : ∀ x ∈ o.op.operands, evO C T.tmps x = evO C s.tmps x)
    (hrd : ∀ id, memN rc.rd id = true → hget T.m.heap id = hget s.m.heap id) (hbar : rc.eff.isBar = true → T.m.nx = s.m.nx ∧ T.m.lp = s.m.lp)
    (hnew : ∀ i hb, rc.eff = .new i hb → i < s.m.nx ∧ nx0 ≤ i ∧ ω i = none) (hnx : nx0 ≤ s.m.nx)
    (hK : ∀ u w', Done C w B oC oL ω nx0 s rc (a.put o.dst u) w' → K (a.put o.dst u) w') : o.wpIn (Fr ro) 0 C.P a w K Q := by
  classical
  have hself : ∀ {F : (Rc → Bool) → Bool}, (∀ k, F k = k rc) → F (fun r => decide (r = rc)) = true := fun h => by rw [h]; simp
  unfold opD at hop
  cases hq : quietOp o.op with
  | true =>
    simp only [hq, cond_true] at hop
    have h0 := hself hop
    -- what it reads
    have hreads : rc.rd = readsOf (evO C s.tmps) o.op ∧ rc.dst = o.dst ∧ rc.eff = .nop := by
      have e1 := hop (fun r => decide (r.rd = readsOf (evO C T.tmps) o.op ∧ r.dst = o.dst ∧ r.eff = .nop))
      have e2 := hop (fun _ => true)
      simp only [and_self, decide_true] at e1
      rw [e1] at e2
      have e3 := of_decide_eq_true e2
      refine ⟨e3.1.trans ?_, e3.2⟩
      cases ho : o.op <;> simp only [readsOf]
      case load t x =>
        rw [hev x (by rw [ho]; simp [Op.operands])]
    rw [aop_congr hev] at h0
    have h1 := (quiet_same (n' := s.m.nx) hq (fun id hi => hrd id (by rw [hreads.1]; exact hi)) (fun v => decide ((⟨o.dst, v, readsOf (evO C T.tmps) o.op, .nop⟩ : Rc) = rc)) (fun v h n => decide ((⟨o.dst, v, readsOf (evO C T.tmps) o.op, .nop⟩ : Rc) = rc ∧ h = s.m.heap ∧ n = s.m.nx)) (fun v => by simp) (fun _ _ => false) (fun _ => false) false).trans h0
    refine oper_wp hcall (h := s.m.heap) (st := s) S.ms S.ev h1 (fun v u h' nx' w' oC' ω' hk E M hr => ?_) (fun _ _ => false) (fun _ _ => false) (fun t args h => by cases h) (fun v u m' w' oC' oL' ω' h => by cases h) (fun v u m' w' oC' oL' ω' h => by cases h) (fun v u h => by cases h)
    obtain ⟨e1, rfl, rfl⟩ := of_decide_eq_true hk
    refine hK u w' ⟨oC', oL, ω', ?_, (E.toR).weaken hnx, fun i hi _ hω => (E.om i hi).trans hω, by rw [← e1]; exact Nat.le_refl _⟩
    rw [← e1]
    have := S.put (dst := o.dst) (m' := s.m) E.toR M hr
    exact this
  | false =>
    simp only [hq, cond_false] at hop
    cases hn : newOp o.op with
    | true =>
      simp only [hn, cond_true] at hop
      have h0 := hself hop
      unfold newD at h0
      rw [aop_congr hev] at h0
      obtain ⟨mk, cs, el, p, arr, u, hrun, hk, hl, hp, hmk⟩ := new_makes S.ev hn h0
      have e1 := of_decide_eq_true hk
      obtain ⟨g1, g2, g3⟩ := hnew ai ⟨cs, el, p⟩ (by rw [← e1])
      obtain ⟨M, E, rep⟩ := S.ms.birth (nx0 := nx0) g3 g1 g2 (el := el) hl hp
      refine ⟨about_fr _ _ _ _ _, ?_⟩
      rw [Oper.semAt_eq _ _ _ (fun c e => by rw [e] at hn; cases hn), hrun, Oper.uponIn_value]
      refine hK u _ ⟨_, _, _, ?_, E, fun i hi hne hω => ?_, by rw [← e1]; exact Nat.le_refl _⟩
      · rw [← e1]
        have hv : Rep (w.alloc (.cells arr el)) (Or2 B oL) (fun x => oC x ∨ x = w.heap.size) (fun j => if j = ai then some w.heap.size else ω j) s.m.nx (mk ai) u := by
          rcases hmk with ⟨rfl, rfl⟩ | ⟨n, cap, sz, rfl, rfl, k1, k2, k3⟩
          · exact .ptr _ _ _ _ g1 (if_pos rfl)
          · refine .sla _ _ _ _ _ _ g1 (if_pos rfl) k1 k2 ?_
            have := heap_alloc_new w (.cells arr el)
            simp only [rowSize]
            rw [this]
            simp [k3]
        refine ⟨?_, ?_, M⟩
        · exact RepL.setT (nx := s.m.nx) ⟨S.tm.1, fun j hj => rep _ _ _ (S.tm.2 j hj)⟩ o.dst hv
        · rw [put_defers]
          exact S.dn.birth g3
      · have : i ≠ ai := fun e => by subst e; exact hne ⟨cs, el, p⟩ (by rw [← e1])
        exact (if_neg this).trans hω
    | false =>
      simp only [hn, cond_false] at hop
      generalize hfp : prints T.m (o.op.operands.toList.map (evO C T.tmps)) = fp at hop
      have h0 := hself hop
      unfold barD at h0
      rw [aop_congr hev] at h0
      -- the part of the memory
      have part : memN rc.rd = memN fp → (∀ id x, hget (hpick T.m.heap fp) id = some x → hget s.m.heap id = some x) ∧ (∀ id x, hget (hpick T.m.heap fp) id = some x → memN fp id = true) := fun hrc => by
        have key : ∀ id x, hget (hpick T.m.heap fp) id = some x → memN fp id = true ∧ hget T.m.heap id = some x := fun id x hx => by
          rw [hget_pick] at hx
          cases hm : memN fp id with
          | true => rw [hm] at hx; exact ⟨rfl, hx⟩
          | false => rw [hm] at hx; cases hx
        exact ⟨fun id x hx => (hrd id (by rw [hrc]; exact (key id x hx).1)).symm.trans (key id x hx).2, fun id x hx => (key id x hx).1⟩
      -- a barrier has been carried out on its part
      have bar : ∀ (v : AV) (m' : Mem) (u : Value) (w' : World) (oC1 oL1 : Nat → Prop) (ω1 : Nat → Option Nat), (⟨o.dst, v, fp, .bar fp T.m.nx m'⟩ : Rc) = rc → ExtR w (partOf ω (hpick T.m.heap fp)) oL ω s.m.nx w' oC1 oL1 ω1 m'.nx →
          MemSim C w' (Or2 B (butOf oC ω (hpick T.m.heap fp))) oC1 oL1 ω1 m' → Rep w' (Or2 (Or2 B (butOf oC ω (hpick T.m.heap fp))) oL1) oC1 ω1 m'.nx v u → K (a.put o.dst u) w' := fun v m' u w' oC1 oL1 ω1 e1 E M1 hr => by
        obtain ⟨p1, p2⟩ := part (by rw [← e1])
        obtain ⟨M2, E2, r1, r2⟩ := S.ms.merge (fp := fp) p1 p2 E M1
        refine hK u w' ⟨_, _, _, ?_, E2.weaken hnx, fun i hi _ hω => (E2.om i hi).trans hω, by rw [← e1]; exact E.nxle⟩
        rw [← e1]
        refine ⟨?_, ?_, M2⟩
        · exact RepL.setT (nx := m'.nx) ⟨S.tm.1, fun j hj => r2 _ _ (S.tm.2 j hj)⟩ o.dst (r1 _ _ _ hr)
        · rw [put_defers]
          exact S.dn.extR E2
      have hnd := aop_noDefer h0
      rw [aop_elim] at h0
      generalize hout : aopO C (evO C s.tmps) (hpick T.m.heap fp) T.m.nx o.op = out at h0
      have helim : ∀ (kv : AV → Heap → Nat → Bool) (kc : Tgt → List AV → Bool) (kp : AV → Bool), aop C (evO C s.tmps) (hpick T.m.heap fp) T.m.nx o.op kv kc kp false = out.elim kv kc kp false := fun kv kc kp => by rw [aop_elim, hout]
      cases out with
      | no => cases h0
      | pan v => cases h0
      | val v h n =>
        have e1 := of_decide_eq_true h0
        obtain ⟨b1, b2⟩ := hbar (by rw [← e1]; rfl)
        obtain ⟨p1, p2⟩ := part (by rw [← e1])
        have M0 := S.ms.pick p1
        rw [← b1] at M0
        refine oper_wp hcall (h := h) (st := s) (ro := ro) (a := a) (m := ⟨hpick T.m.heap fp, T.m.nx, s.m.lp⟩) (ρ := evO C s.tmps) (kv := fun v' h' n' => decide (v' = v ∧ h' = h ∧ n' = n)) (kc := fun _ _ => false) (kp := fun _ => false) M0 (fun x => by have := pick_rep S.ms p1 (S.ev x); rw [← b1] at this; exact this)
          ((helim _ _ _).trans (by simp [OpOut.elim])) (fun v' u h' nx' w' oC' ω' hk E M hr => ?_) (fun _ _ => false) (fun _ _ => false) (fun t args h => by cases h) (fun v u m' w' oC' oL' ω' h => by cases h) (fun v u m' w' oC' oL' ω' h => by cases h) (fun v u h => by cases h)
        obtain ⟨rfl, rfl, rfl⟩ := of_decide_eq_true hk
        rw [b2] at e1
        exact bar v' ⟨h', nx', s.m.lp⟩ u w' oC' oL ω' e1 (by have := (E.toR (oL := oL)); rw [b1] at this; exact this) M hr
      | call t args =>
        have hcl : ∀ (kv : AV → Heap → Nat → Bool) (kp : AV → Bool), aop C (evO C s.tmps) (hpick T.m.heap fp) T.m.nx o.op kv (fun t' args' => decide (t' = t ∧ args' = args)) kp false = true := fun kv kp => (helim _ _ _).trans (by simp [OpOut.elim])
        simp only [OpOut.elim] at h0
        -- the way of calls, on the part of the memory
        have viaCall : rc.eff.isBar = true → memN rc.rd = memN fp → (call t args ⟨hpick T.m.heap fp, T.m.nx, T.m.lp⟩ (fun v m' => decide ((⟨o.dst, v, fp, .bar fp T.m.nx m'⟩ : Rc) = rc)) (fun _ _ => false) = true) → o.wpIn (Fr ro) 0 C.P a w K Q := fun hb hm hk => by
          obtain ⟨b1, b2⟩ := hbar hb
          obtain ⟨p1, p2⟩ := part hm
          have M0 := S.ms.pick p1
          rw [← b1] at M0
          rw [b2] at hk
          refine oper_wp hcall (h := s.m.heap) (st := s) (ro := ro) (a := a) (m := ⟨hpick T.m.heap fp, T.m.nx, s.m.lp⟩) (ρ := evO C s.tmps) (kv := fun _ _ _ => false) (kc := fun t' args' => decide (t' = t ∧ args' = args)) (kp := fun _ => false) M0 (fun x => by have := pick_rep S.ms p1 (S.ev x); rw [← b1] at this; exact this)
            (hcl _ _) (fun v' u h' nx' w' oC' ω' hk => by cases hk) (fun v m' => decide ((⟨o.dst, v, fp, .bar fp T.m.nx m'⟩ : Rc) = rc)) (fun _ _ => false) (fun t' args' h => by obtain ⟨rfl, rfl⟩ := of_decide_eq_true h; exact hk) (fun v u m' w' oC' oL' ω' hk E M hr => ?_) (fun v u m' w' oC' oL' ω' h => by cases h) (fun v u h => by cases h)
          exact bar v m' u w' oC' oL' ω' (of_decide_eq_true hk) (by have := E; rw [b1] at this; exact this) M hr
        -- the outcome is one of two
        have two : (rc.eff = .nop ∨ rc.eff.isBar = true) ∧ rc.rd = fp ∧ rc.dst = o.dst := by
          have e1 := hop (fun r => decide ((r.eff = .nop ∨ r.eff.isBar = true) ∧ r.rd = fp ∧ r.dst = o.dst))
          have e2 := hop (fun _ => true)
          unfold barD at e1 e2
          simp only [Eff.isBar, or_true, true_or, and_self, decide_true] at e1
          rw [e1] at e2
          exact of_decide_eq_true e2
        cases t with
        | yld id =>
          refine viaCall ?_ (by rw [two.2.1]) h0
          have e1 := hop (fun r => decide (r.eff.isBar = true))
          have e2 := hop (fun _ => true)
          unfold barD at e1 e2
          rw [aop_congr hev, helim] at e1 e2
          simp only [OpOut.elim, Eff.isBar, decide_true] at e1 e2
          rw [e1] at e2
          exact of_decide_eq_true e2
        | fn f =>
          simp only at h0
          obtain ⟨p1, p2⟩ := part (by rw [two.2.1])
          have M0 := S.ms.pick p1
          rcases aop_sound C (H := M0.hp) (nx := s.m.nx) (fun x => pick_rep S.ms p1 (S.ev x)) (kv := fun _ _ _ => false) (kc := fun t' args' => decide (t' = .fn f ∧ args' = args)) (kp := fun _ => false) (o := o) (by
              rw [aop_elim, call_free hout]
              simp [OpOut.elim]) with ⟨_, _, _, _, _, _, _, _, h, _⟩ | ⟨t', args', us, hrun, h1, h2⟩ | ⟨_, _, _, h, _⟩
          · cases h
          · obtain ⟨rfl, rfl⟩ := of_decide_eq_true h1
            simp only [TgtRun] at hrun
            obtain ⟨fn, c, hfn, hb, hor⟩ := floatK_sound hC hst M0 h2 h0
            rcases hor with ho | hc
            · refine viaCall ?_ (by rw [two.2.1]) ho
              cases hbb : rc.eff.isBar with
              | true => rfl
              | false =>
                have : (fun (v : AV) (m' : Mem) => decide ((⟨o.dst, v, fp, .bar fp T.m.nx m'⟩ : Rc) = rc)) = fun _ _ => false := funext fun v => funext fun m' => decide_eq_false (fun e => by rw [← e] at hbb; cases hbb)
                rw [this, hcf] at ho
                cases ho
            · refine wp_calls hnd (hrun.trans (call_in hC hfn hb us w)) hc (fun e w' he => ?_)
              obtain ⟨v, u, rfl, hk, E, hr⟩ := he
              have e1 := of_decide_eq_true hk
              refine ⟨u, rfl, hK u w' ⟨oC, oL, ω, ?_, (Still.ext E).weaken (Nat.le_refl _), fun i hi _ hω => hω, by rw [← e1]; exact Nat.le_refl _⟩⟩
              rw [← e1]
              have M := S.ms.still E
              refine ⟨?_, ?_, M⟩
              · refine RepL.setT (nx := s.m.nx) (S.tm.ext E.ext) o.dst (hr.other fun b h1 h2 => ⟨fun hh => ?_, fun hh => ?_⟩)
                · by_cases hp : partOf ω (hpick T.m.heap fp) b
                  · exact h1 hp
                  · exact h2 (.inl (.inr ⟨hh, hp⟩))
                · exact hh.elim (fun hh => h2 (.inl (.inl hh))) (fun hh => h2 (.inr hh))
              · rw [put_defers]; exact S.dn
          · cases h
end
end Go.Bas
end
section
namespace Go.Bas
open Go.RowKit
set_option linter.unusedSimpArgs false
set_option linter.unusedVariables false

section
variable {C : Cfg}
/-- A step of the reckoning in the order of the text. -/
def StepOk (C : Cfg) (stand : Func → Code → List AV → (AV → Bool) → Bool) (call : CallF Bool) (ops : Array Oper) (o : Oper) (st : St) (ai : Nat) (rc : Rc) : Prop :=
  (guardO ops st.tmps o = some true ∧ ∀ k, opD C stand call st.tmps st.m ai o k false = k rc) ∨ (guardO ops st.tmps o = some false ∧ rc = ⟨o.dst, .tup [], [], .nop⟩)
theorem opD_dst {stand : Func → Code → List AV → (AV → Bool) → Bool} {call : CallF Bool} {tmps : List AV} {m : Mem} {ai : Nat} {o : Oper} (k : Rc → Bool) : opD C stand call tmps m ai o k false = opD C stand call tmps m ai o (fun r => k ⟨o.dst, r.out, r.rd, r.eff⟩) false := rfl
theorem StepOk.dst {stand : Func → Code → List AV → (AV → Bool) → Bool} {call : CallF Bool} {ops : Array Oper} {o : Oper} {st : St} {ai : Nat} {rc : Rc} (h : StepOk C stand call ops o st ai rc) : rc.dst = o.dst := by
  rcases h with ⟨_, h⟩ | ⟨_, h⟩
  · have : rc = ⟨o.dst, rc.out, rc.rd, rc.eff⟩ := eq_of_all fun k => by rw [← h k, opD_dst k, h]
    rw [this]
  · rw [h]

theorem fastGo_ok {ops : Array Oper} : ∀ (l : List Oper) (pre : List (Nat × Oper)) (j : Nat), fastGo ops l pre j = true → ∀ m b, l[m]? = some b →
    (b.after.toList.all fun e => !Region.binds .any e || Nat.blt e.on (j + m)) = true ∧ (∀ p ∈ pre, (nextB b p.1 || !tmpClash ops p.2 b) = true) ∧ ∀ i a, i < m → l[i]? = some a → (nextB b (j + i) || !tmpClash ops a b) = true
  | [], _, _, _, m, b, hb => by simp at hb
  | b0 :: r, pre, j, h, m, b, hb => by
    obtain ⟨h1, h2⟩ := of_cond (show cond (b0.after.toList.all fun e => !Region.binds .any e || Nat.blt e.on j) (cond (pre.all fun p => nextB b0 p.1 || !tmpClash ops p.2 b0) (fastGo ops r ((j, b0) :: pre) (j + 1)) false) false = true from h)
    obtain ⟨h2, h3⟩ := of_cond h2
    cases m with
    | zero =>
      simp only [List.getElem?_cons_zero, Option.some.injEq] at hb
      subst hb
      exact ⟨h1, fun p hp => List.all_eq_true.1 h2 p hp, fun i a hi => absurd hi (Nat.not_lt_zero _)⟩
    | succ m =>
      have ih := fastGo_ok r ((j, b0) :: pre) (j + 1) h3 m b (by simpa using hb)
      obtain ⟨q1, q2, q3⟩ := ih
      refine ⟨by rw [show j + (m + 1) = j + 1 + m by omega]; exact q1, fun p hp => q2 p (List.mem_cons_of_mem _ hp), fun i a hi ha => ?_⟩
      cases i with
      | zero =>
        simp only [List.getElem?_cons_zero, Option.some.injEq] at ha
        subst ha
        exact q2 (j, b0) (List.mem_cons_self ..)
      | succ i =>
        have := q3 i a (by omega) (by simpa using ha)
        rwa [show j + 1 + i = j + (i + 1) by omega] at this
theorem getRc_some : ∀ {rs : List Rc} {i : Nat}, i < rs.length → ∃ r ∈ rs, getRc rs i = some r
  | [], _, h => absurd h (Nat.not_lt_zero _)
  | r :: _, 0, _ => ⟨r, List.mem_cons_self .., rfl⟩
  | _ :: rs, i + 1, h => by
    obtain ⟨r, h1, h2⟩ := getRc_some (rs := rs) (i := i) (by simpa using h)
    exact ⟨r, List.mem_cons_of_mem _ h1, h2⟩
theorem isNop_eq {e : Eff} (h : e.isNop = true) : e = .nop := by cases e <;> first | rfl | cases h
theorem okRcsQ_ok {ops : Array Oper} {lo hi : Nat} {rs : List Rc} (h : okRcsQ ops lo hi rs = true) : okRcs ops lo hi rs = true := by
  unfold okRcsQ at h
  cases hc : (cond (rs.all fun r => r.eff.isNop) (cond (Nat.beq rs.length ops.size) (fastGo ops ops.toList [] 0) false) false) with
  | false => rw [hc] at h; exact h
  | true =>
    obtain ⟨h1, h2⟩ := of_cond hc
    obtain ⟨h2, h3⟩ := of_cond h2
    have hlen : rs.length = ops.size := of_beq h2
    have hn : ∀ r ∈ rs, r.eff = .nop := fun r hr => isNop_eq (List.all_eq_true.1 h1 r hr)
    have F := fastGo_ok ops.toList [] 0 h3
    have el : ∀ (m : Nat) (b : Oper), ops[m]? = some b → ops.toList[m]? = some b := fun m b hb => by rw [Array.getElem?_toList]; exact hb
    have hnew : (rs.flatMap fun r => r.eff.newId) = [] := List.flatMap_eq_nil_iff.2 fun r hr => by rw [hn r hr]; rfl
    have hp : ∀ p ∈ eitherWay ops, p.1 < p.2 ∧ p.2 < ops.size ∧ befB ops ops.size p.1 p.2 = false := fun p hp => by
      unfold eitherWay at hp
      obtain ⟨j, hj, hm⟩ := List.mem_flatMap.1 hp
      obtain ⟨i, hi, rfl⟩ := List.mem_map.1 hm
      obtain ⟨hi1, hi2⟩ := List.mem_filter.1 hi
      exact ⟨List.mem_range.1 hi1, List.mem_range.1 hj, by simpa using hi2⟩
    unfold okRcs
    rw [hnew]
    simp only [Bool.and_eq_true]
    refine ⟨⟨?_, rfl, rfl⟩, List.all_eq_true.2 fun p hpm => ?_, List.all_eq_true.2 fun r hr => by rw [hn r hr]; rfl⟩
    · unfold staticB
      simp only [Bool.and_eq_true]
      refine ⟨List.all_eq_true.2 fun i hi => ?_, List.all_eq_true.2 fun p hpm => ?_⟩
      · have hi := List.mem_range.1 hi
        rw [Array.getElem?_eq_getElem hi]
        have := (F i ops[i] (el _ _ (Array.getElem?_eq_getElem hi))).1
        rwa [Nat.zero_add] at this
      · obtain ⟨a1, a2, a3⟩ := hp p hpm
        have hi : p.1 < ops.size := by omega
        rw [Array.getElem?_eq_getElem hi, Array.getElem?_eq_getElem a2]
        have := (F p.2 ops[p.2] (el _ _ (Array.getElem?_eq_getElem a2))).2.2 p.1 ops[p.1] a1 (el _ _ (Array.getElem?_eq_getElem hi))
        rw [Nat.zero_add] at this
        cases hx : nextB ops[p.2] p.1 with
        | false => rw [hx, Bool.false_or] at this; exact this
        | true =>
          exfalso
          obtain ⟨n, hn⟩ : ∃ n, ops.size = n + 1 := ⟨ops.size - 1, by omega⟩
          have e : befB ops (n + 1) p.1 p.2 = true := by
            unfold befB
            rw [Array.getElem?_eq_getElem a2]
            unfold nextB at hx
            simp only [hx, Bool.true_or]
          rw [← hn, a3] at e
          cases e
    · obtain ⟨a1, a2, a3⟩ := hp p hpm
      obtain ⟨r1, m1, g1⟩ := getRc_some (rs := rs) (i := p.1) (by omega)
      obtain ⟨r2, m2, g2⟩ := getRc_some (rs := rs) (i := p.2) (by omega)
      rw [g1, g2]
      have z1 : ∀ l : List Nat, l.any (Eff.nop).touches = false := fun l => by induction l with
        | nil => rfl
        | cons x l ih => rw [List.any_cons, ih]; rfl
      have hcl : clash r1 r2 = false := by
        unfold clash
        rw [hn r1 m1, hn r2 m2, z1, z1]
        rfl
      show (!clash r1 r2) = true
      rw [hcl]
      rfl

theorem trace_of {stand : Func → Code → List AV → (AV → Bool) → Bool} {call : CallF Bool} (hdet : ∀ tmps m ai o, Det (fun k => opD C stand call tmps m ai o k false)) {ops : Array Oper} {lo hi : Nat} {k : St → Bool} :
    ∀ (l : List Oper) (st : St) (ai : Nat) (acc : List Rc), drawK C stand call ops lo hi l st ai acc k false = true →
      ∃ rs, rs.length = l.length ∧ okRcs ops lo hi (acc.reverse ++ rs) = true ∧ k (rs.foldl applyRc st) = true ∧ ∀ j o, l[j]? = some o → ∃ rc ai', getRc rs j = some rc ∧ StepOk C stand call ops o ((rs.take j).foldl applyRc st) ai' rc
  | [], st, ai, acc, h => by
    obtain ⟨h1, h2⟩ := of_cond h
    exact ⟨[], rfl, by simpa using okRcsQ_ok h1, h2, fun j o hj => by simp at hj⟩
  | o :: r, st, ai, acc, h => by
    simp only [drawK] at h
    rw [guardK_eq] at h
    have go : ∀ (rc : Rc) (ai' : Nat), StepOk C stand call ops o st ai rc → drawK C stand call ops lo hi r (applyRc ⟨st.tmps, st.ds, st.m⟩ rc) ai' (rc :: acc) k false = true →
        ∃ rs, rs.length = (o :: r).length ∧ okRcs ops lo hi (acc.reverse ++ rs) = true ∧ k (rs.foldl applyRc st) = true ∧ ∀ j o', (o :: r)[j]? = some o' → ∃ rc ai', getRc rs j = some rc ∧ StepOk C stand call ops o' ((rs.take j).foldl applyRc st) ai' rc := fun rc ai' hs hd => by
      obtain ⟨rs, h1, h2, h3, h4⟩ := trace_of hdet r _ ai' (rc :: acc) hd
      refine ⟨rc :: rs, by simp [h1], by simpa using h2, h3, fun j o' hj => ?_⟩
      cases j with
      | zero =>
        simp only [List.getElem?_cons_zero, Option.some.injEq] at hj
        subst hj
        exact ⟨rc, ai, rfl, hs⟩
      | succ j =>
        obtain ⟨rc', ai'', g1, g2⟩ := h4 j o' (by simpa using hj)
        exact ⟨rc', ai'', g1, g2⟩
    split at h
    · rename_i hg
      obtain ⟨rc, h1, h2⟩ := hdet _ _ _ _ _ h
      exact go rc _ (.inl ⟨hg, h2⟩) h1
    · rename_i hg
      exact go _ _ (.inr ⟨hg, rfl⟩) h
    · cases h

theorem Hp.congr {w : World} {B own : Nat → Prop} {ω : Nat → Option Nat} {nx : Nat} {h h' : Heap} (H : Hp w B own ω nx h) (e : ∀ id, hget h id = hget h' id) : Hp w B own ω nx h' :=
  ⟨fun id x hx => H.rel id x (by rw [e]; exact hx), fun i j b hi hj => H.inj i j b (by rw [e]; exact hi) (by rw [e]; exact hj), H.ob⟩
theorem Sim.congr {w : World} {B oC oL : Nat → Prop} {ω : Nat → Option Nat} {s t : St} {a : Act} (S : Sim C w B oC oL ω s a) (e : StEq s t) : Sim C w B oC oL ω t a := by
  obtain ⟨st, sd, sm⟩ := s
  obtain ⟨tt, td, tm⟩ := t
  obtain ⟨h1, h2, h3, h4, h5⟩ := e
  simp only at h1 h2 h3 h4 h5
  subst h1 h2
  obtain ⟨sh, sn, sl⟩ := sm
  obtain ⟨th, tn, tl⟩ := tm
  simp only at h3 h4 h5
  subst h4 h5
  exact ⟨S.tm, S.dn, S.ms.hp.congr h3, S.ms.lp, S.ms.gl, S.ms.gb, S.ms.bl⟩

theorem befB_listed {ops : Array Oper} {L : Nat → Bool} (hcl : ∀ j o, ops[j]? = some o → L j = true → ∀ e ∈ o.after, Region.binds .any e = true → L e.on = true) :
    ∀ (n i j : Nat) (o : Oper), ops[j]? = some o → (∀ e ∈ o.after, Region.binds .any e = true → L e.on = true) → befB ops n i j = true → L i = true
  | 0, i, j, o, ho, h, hb => by cases hb
  | n + 1, i, j, o, ho, h, hb => by
    simp only [befB, ho, Bool.or_eq_true, List.any_eq_true, Bool.and_eq_true] at hb
    rcases hb with ⟨e, he, hbi, hon⟩ | ⟨e, he, hbi, hon⟩
    · have := h e (Array.mem_toList_iff.1 he) hbi
      rwa [of_beq hon] at this
    · have hl := h e (Array.mem_toList_iff.1 he) hbi
      cases hoe : ops[e.on]? with
      | none =>
        cases n with
        | zero => cases hon
        | succ n => simp [befB, hoe] at hon
      | some o' => exact befB_listed hcl n i e.on o' hoe (hcl e.on o' hoe hl) hon

theorem mem_either {ops : Array Oper} {i j : Nat} (hij : i < j) (hj : j < ops.size) (hb : befB ops ops.size i j = false) : (i, j) ∈ eitherWay ops := by
  simp only [eitherWay, List.mem_flatMap, List.mem_range, List.mem_map, List.mem_filter, Prod.mk.injEq]
  exact ⟨j, hj, i, ⟨hij, by simp [hb]⟩, rfl, rfl⟩
theorem memN_iff {l : List Nat} {i : Nat} : memN l i = true ↔ i ∈ l := by
  simp only [memN, List.any_eq_true]
  constructor
  · rintro ⟨x, hx, hb⟩
    rw [of_beq hb]; exact hx
  · exact fun h => ⟨i, h, (beq_iff i i).2 rfl⟩
theorem getRc_mem : ∀ {rs : List Rc} {j : Nat} {r : Rc}, getRc rs j = some r → r ∈ rs
  | [], j, r, h => by cases j <;> cases h
  | x :: rs, 0, r, h => by simp only [getRc, Option.some.injEq] at h; subst h; exact List.mem_cons_self ..
  | x :: rs, j + 1, r, h => List.mem_cons_of_mem _ (getRc_mem (rs := rs) h)
theorem getRc_lt : ∀ {rs : List Rc} {j : Nat} {r : Rc}, getRc rs j = some r → j < rs.length
  | [], j, r, h => by cases j <;> cases h
  | x :: rs, 0, r, h => by simp
  | x :: rs, j + 1, r, h => by have := getRc_lt (rs := rs) h; simp; omega
theorem nodup_new : ∀ {rs : List Rc} {i j j' : Nat} {r r' : Rc} {hb hb' : HB}, nodupB (rs.flatMap fun r => r.eff.newId) = true → getRc rs j = some r → getRc rs j' = some r' → r.eff = .new i hb → r'.eff = .new i hb' → j = j'
  | [], i, j, j', r, r', hb, hb', hn, h1, h2, e1, e2 => by cases j <;> cases h1
  | x :: rs, i, j, j', r, r', hb, hb', hn, h1, h2, e1, e2 => by
    have tail : nodupB (rs.flatMap fun r => r.eff.newId) = true ∧ ∀ hb, x.eff = .new i hb → i ∉ rs.flatMap fun r => r.eff.newId := by
      simp only [List.flatMap_cons] at hn
      cases hx : x.eff with
      | nop => rw [hx] at hn; exact ⟨hn, fun _ h => by cases h⟩
      | bar fp lo m' => rw [hx] at hn; exact ⟨hn, fun _ h => by cases h⟩
      | new i' hb' =>
        rw [hx] at hn
        replace hn : nodupB (i' :: rs.flatMap fun r => r.eff.newId) = true := hn
        simp only [nodupB, Bool.and_eq_true, Bool.not_eq_true'] at hn
        refine ⟨hn.2, fun hb h => ?_⟩
        cases h
        intro hm
        rw [memN_iff.2 hm] at hn
        exact absurd hn.1 (by simp)
    have inTail : ∀ {j : Nat} {r : Rc} {hb : HB}, getRc rs j = some r → r.eff = .new i hb → i ∈ rs.flatMap fun r => r.eff.newId := fun h e => List.mem_flatMap.2 ⟨_, getRc_mem h, by rw [e]; exact List.mem_singleton_self _⟩
    cases j with
    | zero =>
      simp only [getRc, Option.some.injEq] at h1
      subst h1
      cases j' with
      | zero => rfl
      | succ j' => exact absurd (inTail h2 e2) (tail.2 _ e1)
    | succ j =>
      cases j' with
      | zero =>
        simp only [getRc, Option.some.injEq] at h2
        subst h2
        exact absurd (inTail h1 e1) (tail.2 _ e2)
      | succ j' => rw [nodup_new tail.1 (show getRc rs j = some r from h1) (show getRc rs j' = some r' from h2) e1 e2]

theorem filter_lt {p q : Nat → Bool} {j : Nat} : ∀ (l : List Nat), (∀ i, q i = true → p i = true) → j ∈ l → p j = true → q j = false → (l.filter q).length < (l.filter p).length
  | [], _, h, _, _ => by cases h
  | x :: l, hpq, hm, hp, hq => by
    have mono : ∀ l : List Nat, (l.filter q).length ≤ (l.filter p).length := fun l => by
      induction l with
      | nil => simp
      | cons y l ih =>
        rw [List.filter_cons, List.filter_cons]
        by_cases hy : q y = true
        · simp [hy, hpq y hy, ih]
        · by_cases hy' : p y = true
          · simp [hy, hy']; omega
          · simp [hy, hy', ih]
    rw [List.filter_cons, List.filter_cons]
    rcases List.mem_cons.1 hm with rfl | hm
    · simp [hp, hq]
      have := mono l
      omega
    · have ih := filter_lt l hpq hm hp hq
      by_cases hy : q x = true
      · simp [hy, hpq x hy, ih]
      · by_cases hy' : p x = true
        · simp [hy, hy']; omega
        · simp [hy, hy', ih]

theorem getD_both' {listed : Array Bool} {n i : Nat} (hs : listed.size = n) (hi : i < n) (h : listed.getD i false = false) : listed.getD i true = false := by
  rw [Array.getD_eq_getD_getElem?, Array.getElem?_eq_getElem (by omega)] at h ⊢
  simpa using h

/-- How many have not been listed. -/
def left (ops : Array Oper) (listed : Array Bool) : Nat := ((List.range ops.size).filter fun i => !listed.getD i false).length

set_option maxHeartbeats 1000000 in
theorem any_sound (hC : C.Ok) {stand : Func → Code → List AV → (AV → Bool) → Bool} (hst : StandOk C stand) {call : CallF Bool} (hcall : CallOk C call) (hcf : ∀ t args m, call t args m (fun _ _ => false) (fun _ _ => false) = false) {ro : Option Nat} {ops : Array Oper} {Q : Exit → Act → World → Prop}
    {rs : List Rc} {s0 : St} {nx0 hi : Nat} (hlen : rs.length = ops.size) (hstep : ∀ j o, ops[j]? = some o → ∃ rc ai', getRc rs j = some rc ∧ StepOk C stand call ops o ((rs.take j).foldl applyRc s0) ai' rc) (hok : okRcs ops nx0 hi rs = true)
    {w0 : World} {B oC0 oL0 : Nat → Prop} {ω0 : Nat → Option Nat}
    (hQ : ∀ a w oC oL ω, Sim C w B oC oL ω (rs.foldl applyRc s0) a → ExtR w0 oC0 oL0 ω0 nx0 w oC oL ω nx0 → hi ≤ (rs.foldl applyRc s0).m.nx → Q .normal a w) :
    ∀ (fuel : Nat) (listed : Array Bool) (a : Act) (w : World) (oC oL : Nat → Prop) (ω : Nat → Option Nat) (s : St), left ops listed ≤ fuel → listed.size = ops.size →
      (∀ j o, ops[j]? = some o → listed.getD j false = true → ∀ e ∈ o.after, Region.binds .any e = true → listed.getD e.on false = true) →
      StEq s (sAt (fun i => listed.getD i false) 0 rs s0) → Sim C w B oC oL ω s a → ExtR w0 oC0 oL0 ω0 nx0 w oC oL ω nx0 →
      (∀ i j hb rc, getRc rs j = some rc → rc.eff = .new i hb → listed.getD j false = false → ω i = none) → hi ≤ s.m.nx → nx0 ≤ hi → wpAnyIn (Fr ro) 0 C.P .any ops Q fuel listed a w := by
  -- what has been checked
  simp only [okRcs, Bool.and_eq_true] at hok
  obtain ⟨⟨hstat, hnod, hrange⟩, hdyn, hdom⟩ := hok
  simp only [staticB, Bool.and_eq_true] at hstat
  obtain ⟨hback, hstat⟩ := hstat
  have back : ∀ (i : Nat) (o : Oper), ops[i]? = some o → ∀ e ∈ o.after, Region.binds .any e = true → e.on < i := fun i o ho e he hb => by
    have := List.all_eq_true.1 hback i (List.mem_range.2 (Array.getElem?_eq_some_iff.1 ho).1)
    rw [ho] at this
    have := List.all_eq_true.1 this e (Array.mem_toList_iff.2 he)
    rw [hb] at this
    simp only [Bool.not_true, Bool.false_or] at this
    exact Nat.le_of_ble_eq_true this
  have stat : ∀ i j oi oj, i < j → ops[i]? = some oi → ops[j]? = some oj → befB ops ops.size i j = false → tmpClash ops oi oj = false := fun i j oi oj hij hoi hoj hb => by
    have := List.all_eq_true.1 hstat _ (mem_either hij (Array.getElem?_eq_some_iff.1 hoj).1 hb)
    simp only [hoi, hoj] at this
    simpa using this
  have dyn : ∀ i j ri rj, i < j → j < ops.size → getRc rs i = some ri → getRc rs j = some rj → befB ops ops.size i j = false → clash ri rj = false := fun i j ri rj hij hj hri hrj hb => by
    have := List.all_eq_true.1 hdyn _ (mem_either hij hj hb)
    simp only [hri, hrj] at this
    simpa using this
  have dom : ∀ r ∈ rs, r.eff.domOk = true := fun r hr => List.all_eq_true.1 hdom r hr
  have newr : ∀ i hb rc j, getRc rs j = some rc → rc.eff = .new i hb → nx0 ≤ i ∧ i < hi := fun i hb rc j h e => by
    have := List.all_eq_true.1 hrange i (List.mem_flatMap.2 ⟨rc, getRc_mem h, by rw [e]; exact List.mem_singleton_self _⟩)
    simp only [Bool.and_eq_true] at this
    exact ⟨of_ble this.1, Nat.le_of_ble_eq_true this.2⟩
  have opOf : ∀ j r, getRc rs j = some r → ∃ o, ops[j]? = some o ∧ r.dst = o.dst := fun j r h => by
    have hlt : j < ops.size := by rw [← hlen]; exact getRc_lt h
    obtain ⟨rc, ai', h1, h2⟩ := hstep j ops[j] (Array.getElem?_eq_getElem hlt)
    rw [h] at h1
    cases h1
    exact ⟨ops[j], Array.getElem?_eq_getElem hlt, h2.dst⟩
  -- when all have been listed
  have fin : ∀ (listed : Array Bool) (a : Act) (w : World) (oC oL : Nat → Prop) (ω : Nat → Option Nat) (s : St), listed.size = ops.size → (∀ i, i < ops.size → listed.getD i false = true) → StEq s (sAt (fun i => listed.getD i false) 0 rs s0) → Sim C w B oC oL ω s a → ExtR w0 oC0 oL0 ω0 nx0 w oC oL ω nx0 → hi ≤ s.m.nx → Q .normal a w := fun listed a w oC oL ω s hs hall he S E hn => by
    have e2 := sAt_all rs 0 s0 (fun i => listed.getD i false) (fun j _ hj => hall j (by omega))
    rw [e2] at he
    exact hQ a w oC oL ω (S.congr he) E (by rw [← he.nx]; exact hn)
  have ready_all : ∀ (listed : Array Bool), listed.size = ops.size → Region.ready .any ops listed = [] → ∀ i, i < ops.size → listed.getD i false = true := fun listed hs hr => by
    intro i
    induction i using Nat.strongRecOn with
    | ind i ih =>
      intro hi'
      cases hli : listed.getD i false with
      | true => rfl
      | false =>
        have hmem : i ∈ Region.ready .any ops listed := mem_ready.2 ⟨getD_both' hs hi' hli, ops[i], Array.getElem?_eq_getElem hi', fun e he hb => ih e.on (back i _ (Array.getElem?_eq_getElem hi') e he hb) (by have := back i _ (Array.getElem?_eq_getElem hi') e he hb; omega)⟩
        rw [hr] at hmem
        cases hmem
  intro fuel
  induction fuel with
  | zero =>
    intro listed a w oC oL ω s hleft hsz hcl he S E hun hn hnh
    have hall : ∀ i, i < ops.size → listed.getD i false = true := fun i hi' => by
      cases hli : listed.getD i false with
      | true => rfl
      | false =>
        have : i ∈ (List.range ops.size).filter fun i => !listed.getD i false := List.mem_filter.2 ⟨List.mem_range.2 hi', by simp [hli]⟩
        have := List.length_pos_of_mem this
        simp only [left] at hleft
        omega
    refine ⟨?_, fin listed a w oC oL ω s hsz hall he S E hn⟩
    cases hr : Region.ready .any ops listed with
    | nil => rfl
    | cons j r =>
      have hm : j ∈ Region.ready .any ops listed := by rw [hr]; exact List.mem_cons_self ..
      obtain ⟨h1, o, h2, _⟩ := mem_ready.1 hm
      have hlt := (Array.getElem?_eq_some_iff.1 h2).1
      have h3 := hall j hlt
      rw [Array.getD_eq_getD_getElem?, Array.getElem?_eq_getElem (by omega)] at h1 h3
      simp at h1 h3
      rw [h1] at h3
      cases h3
  | succ fuel ih =>
    intro listed a w oC oL ω s hleft hsz hcl he S E hun hn hnh
    refine ⟨fun hr => fin listed a w oC oL ω s hsz (ready_all listed hsz hr) he S E hn, fun j hj => ?_⟩
    obtain ⟨hj1, o, ho, hj2⟩ := mem_ready.1 hj
    have hlt : j < ops.size := (Array.getElem?_eq_some_iff.1 ho).1
    have hjf : listed.getD j false = false := by
      rw [Array.getD_eq_getD_getElem?, Array.getElem?_eq_getElem (by omega)] at hj1 ⊢
      simpa using hj1
    obtain ⟨rc, ai', hrc, hso⟩ := hstep j o ho
    -- what stands ahead has been listed; what stands behind has not
    have ahead : ∀ i, befB ops ops.size i j = true → listed.getD i false = true := fun i hb => befB_listed hcl ops.size i j o ho hj2 hb
    have behind : ∀ i oi, ops[i]? = some oi → befB ops ops.size j i = true → listed.getD i false = false := fun i oi hoi hb => by
      cases hli : listed.getD i false with
      | false => rfl
      | true => rw [befB_listed hcl ops.size j i oi hoi (hcl i oi hoi hli) hb] at hjf; cases hjf
    have agree : ∀ (q : Nat → Rc → Prop), (∀ i ri oi, i < j → getRc rs i = some ri → ops[i]? = some oi → q i ri → befB ops ops.size i j = false → False) → (∀ i ri oi, j < i → getRc rs i = some ri → ops[i]? = some oi → q i ri → befB ops ops.size j i = false → False) →
        ∀ i ri, getRc rs i = some ri → q i ri → listed.getD i false = Nat.blt i (0 + j) := fun q h1 h2 i ri hri hq => by
      obtain ⟨oi, hoi, _⟩ := opOf i ri hri
      rcases Nat.lt_trichotomy i j with h | h | h
      · have hb : Nat.blt i (0 + j) = true := Nat.ble_eq_true_of_le (by omega)
        rw [hb]
        cases hbf : befB ops ops.size i j with
        | true => exact ahead i hbf
        | false => exact (h1 i ri oi h hri hoi hq hbf).elim
      · subst h
        rw [hjf]
        cases hb : Nat.blt i (0 + i) with
        | false => rfl
        | true => have := Nat.le_of_ble_eq_true hb; omega
      · have hb : Nat.blt i (0 + j) = false := by
          cases hb : Nat.blt i (0 + j) with
          | false => rfl
          | true => have := Nat.le_of_ble_eq_true hb; omega
        rw [hb]
        cases hbf : befB ops ops.size j i with
        | true => exact behind i oi hoi hbf
        | false => exact (h2 i ri oi h hri hoi hq hbf).elim
    have hT : (rs.take j).foldl applyRc s0 = sAt (fun x => Nat.blt x (0 + j)) 0 rs s0 := (sAt_pre rs 0 j s0).symm
    -- the temporaries at which it looks
    have tmps : ∀ t ∈ looksL ops o, lget ((rs.take j).foldl applyRc s0).tmps t = lget s.tmps t := fun t ht => by
      rw [hT, he.tm]
      refine agreeT rs 0 s0 s0 (fun i r hi' hd => ?_) rfl rfl
      rw [Nat.zero_add i]
      refine (agree (fun _ r => r.dst = some t) (fun i ri oi hij hri hoi hq hbf => ?_) (fun i ri oi hij hri hoi hq hbf => ?_) i r hi' hd).symm
      · have hcl := stat i j oi o hij hoi ho hbf
        obtain ⟨oi', hoi', hd'⟩ := opOf i ri hri
        rw [hoi] at hoi'; cases hoi'
        simp only [tmpClash, ← hd', hq, Bool.or_eq_false_iff] at hcl
        rw [memN_iff.2 ht] at hcl
        exact absurd hcl.1.1 (by simp)
      · have hcl := stat j i o oi hij ho hoi hbf
        obtain ⟨oi', hoi', hd'⟩ := opOf i ri hri
        rw [hoi] at hoi'; cases hoi'
        simp only [tmpClash, ← hd', hq, Bool.or_eq_false_iff] at hcl
        rw [memN_iff.2 ht] at hcl
        exact absurd hcl.2 (by simp)
    -- it is listed
    have next : ∀ (u : Value) (w' : World), Done C w B oC oL ω nx0 s rc (a.put o.dst u) w' → wpAnyIn (Fr ro) 0 C.P .any ops Q fuel (listed.setIfInBounds j true) (a.put o.dst u) w' := fun u w' hd => by
      obtain ⟨oC', oL', ω', S', E', hω', hnx'⟩ := hd
      have hL : ∀ x, x ≠ j → (listed.setIfInBounds j true).getD x false = listed.getD x false := fun x hx => getD_set_ne false (Ne.symm hx)
      have hLj : (listed.setIfInBounds j true).getD j false = true := by simp [Array.getElem?_setIfInBounds, hsz, hlt]
      refine ih _ _ _ oC' oL' ω' (applyRc s rc) ?_ (by simpa using hsz) (fun x ox hox hlx e hee hb => ?_) ?_ S' (E.trans E') (fun i x hb r hr hre hlx => ?_) ?_ hnh
      · have := filter_lt (p := fun i => !listed.getD i false) (q := fun i => !(listed.setIfInBounds j true).getD i false) (j := j) (List.range ops.size) (fun i hq => by
          by_cases hij : i = j
          · subst hij; simp [hjf]
          · rw [hL i hij] at hq; exact hq) (List.mem_range.2 hlt) (by simp [hjf]) (by simp [hLj])
        simp only [left] at hleft ⊢
        omega
      · have : listed.getD e.on false = true := by
          by_cases hx : x = j
          · subst hx
            rw [ho] at hox; cases hox
            exact hj2 e hee hb
          · rw [hL x hx] at hlx
            exact hcl x ox hox hlx e hee hb
        exact getD_set_true this
      · refine (applyRc_congr rc he).trans (insert (L := fun i => listed.getD i false) (L' := fun i => (listed.setIfInBounds j true).getD i false) rs 0 s0 hrc (by simpa using hjf) (by rw [Nat.zero_add]; exact hLj) (fun x hx => hL x (by omega)) (fun x r hjx hr hlx => ?_)).symm
        rw [Nat.zero_add] at hlx
        obtain ⟨ox, hox, hdx⟩ := opOf x r hr
        have hbf : befB ops ops.size j x = false := by
          cases hbf : befB ops ops.size j x with
          | false => rfl
          | true => rw [behind x ox hox hbf] at hlx; cases hlx
        have c1 := stat j x o ox hjx ho hox hbf
        have c2 := dyn j x rc r hjx (Array.getElem?_eq_some_iff.1 hox).1 hrc hr hbf
        simp only [clash, Bool.or_eq_false_iff] at c2
        refine ⟨fun t ht hx => ?_, c2.2.2, dom rc (getRc_mem hrc), dom r (getRc_mem hr)⟩
        have ho' := hso.dst
        rw [ho'] at ht
        rw [hdx] at hx
        simp only [tmpClash, ht, hx, Bool.or_eq_false_iff] at c1
        exact absurd c1.1.2 (by simp)
      · by_cases hx : x = j
        · subst hx; rw [hLj] at hlx; cases hlx
        · rw [hL x hx] at hlx
          have h1 := newr i hb r x hr hre
          refine hω' i (by omega) (fun hb' e => ?_) (hun i x hb r hr hre hlx)
          exact hx (nodup_new hnod hr hrc hre e)
      · exact Nat.le_trans hn hnx'
    unfold wpOpIn
    simp only [ho]
    rcases hso with ⟨hg, hop⟩ | ⟨hg, hrc0⟩
    · rw [guardO_congr tmps] at hg
      rw [if_pos (guardO_sound S.tm hg)]
      refine exec hC hst hcall hcf (s := s) (T := (rs.take j).foldl applyRc s0) (rc := rc) (nx0 := nx0) S hop (ev_congr tmps) (fun id hid => ?_) (fun hb => ?_) (fun i hb hre => ?_) (by omega) (fun u w' hd => next u w' hd)
      · rw [hT, he.hp id]
        refine agreeH rs 0 s0 s0 (fun i r hi' ht => ?_) dom rfl
        rw [Nat.zero_add i]
        refine (agree (fun _ r => r.eff.touches id = true) (fun i ri oi hij hri hoi hq hbf => ?_) (fun i ri oi hij hri hoi hq hbf => ?_) i r hi' ht).symm
        · have c := dyn i j ri rc hij hlt hri hrc hbf
          simp only [clash, Bool.or_eq_false_iff] at c
          have : rc.rd.any ri.eff.touches = true := List.any_eq_true.2 ⟨id, memN_iff.1 hid, hq⟩
          rw [this] at c
          exact absurd c.1 (by simp)
        · have c := dyn j i rc ri hij (Array.getElem?_eq_some_iff.1 hoi).1 hrc hri hbf
          simp only [clash, Bool.or_eq_false_iff] at c
          have : rc.rd.any ri.eff.touches = true := List.any_eq_true.2 ⟨id, memN_iff.1 hid, hq⟩
          rw [this] at c
          exact absurd c.2.1 (by simp)
      · rw [hT, he.nx, he.lp]
        refine agreeN rs 0 s0 s0 (fun i r hi' ht => ?_) rfl rfl
        rw [Nat.zero_add i]
        have two : ∀ {x y : Eff}, x.isBar = true → y.isBar = true → effClash x y = true := fun {x y} hx hy => by cases x <;> cases y <;> simp_all [Eff.isBar, effClash]
        refine (agree (fun _ r => r.eff.isBar = true) (fun i ri oi hij hri hoi hq hbf => ?_) (fun i ri oi hij hri hoi hq hbf => ?_) i r hi' ht).symm
        · have c := dyn i j ri rc hij hlt hri hrc hbf
          simp only [clash, Bool.or_eq_false_iff] at c
          rw [two hq hb] at c
          exact absurd c.2.2 (by simp)
        · have c := dyn j i rc ri hij (Array.getElem?_eq_some_iff.1 hoi).1 hrc hri hbf
          simp only [clash, Bool.or_eq_false_iff] at c
          rw [two hb hq] at c
          exact absurd c.2.2 (by simp)
      · have h1 := newr i hb rc j hrc hre
        exact ⟨by omega, h1.1, hun i j hb rc hrc hre hjf⟩
    · rw [guardO_congr tmps] at hg
      rw [if_neg (by rw [guardO_sound S.tm hg]; simp)]
      refine ⟨about_fr _ _ _ _ _, next undef w ⟨oC, oL, ω, ?_, ExtR.refl, fun i _ _ h => h, by rw [hrc0]; exact Nat.le_refl _⟩⟩
      rw [hrc0]
      exact S.put (m' := s.m) ExtR.refl S.ms (.tup _ _ _ rfl (fun i hi => absurd hi (Nat.not_lt_zero _)))
end
end Go.Bas
end
