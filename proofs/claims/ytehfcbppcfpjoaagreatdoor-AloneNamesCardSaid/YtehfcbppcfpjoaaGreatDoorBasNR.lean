/- The engine, part R: calls that turn nothing of the caller's: by a summary, or walked apart; what a function's results are. -/
import Derived.Test.YtehfcbppcfpjoaaGreatDoorBasNQ
namespace Go.Bas
open Go.RowKit
set_option linter.unusedSimpArgs false
set_option linter.unusedVariables false

/-- What a callee that stands apart leaves of the caller's world. -/
def Still (w w' : World) : Prop := Ext w (fun _ => False) (fun _ => none) 0 w' (fun _ => False) (fun _ => none) 0
/-- A call that finds these arguments in memory that nobody writes, and leaves a result that leads into new memory, or into its arguments'. ('bad': blocks that the arguments do not lead into.) -/
def ACalls (P : Program) (G : Nat → Option (List AV)) (f : FuncId) (args : List AV) (R : AV → Prop) : Prop :=
  ∀ (w : World) (us : Array Value) (bad : Nat → Prop), GOk G w → (∀ g cells, G g = some cells → ¬ bad g) → (∀ b, bad b → b < w.heap.size) → RepL w bad (fun _ => False) (fun _ => none) 0 args us → Calls P f us w fun e w' =>
    ∃ v u, e = .returned u ∧ R v ∧ Still w w' ∧ Rep w' bad (fun _ => False) (fun _ => none) 0 v u
/-- What is known of a call where it stands is right. -/
def InpOk (C : Cfg) (f : FuncId) (F : List AV → Mem → TrM) : Prop := ∀ args m (kk : AV → Mem → Bool) (w : World) (B oC oL : Nat → Prop) (ω : Nat → Option Nat) (us : Array Value), (F args m).ev kk false = true → MemSim C w B oC oL ω m → RepL w (Or2 B oL) oC ω m.nx args us →
  (callFunc f us).run C.P w = .ok (.enter f us) w ∧ CallsIn (Fr none) 0 C.P f us w (CallEnd C w B oC oL ω m.nx kk (fun _ _ => false))
/-- The summaries are right. -/
structure Cfg.Ok (C : Cfg) : Prop where
  sums : ∀ f F, C.S f = some F → ∀ args r, F args = some (true, r) → ACalls C.P C.G f args (fun v => v = r)
  mixed : C.P.follows .mixedOrders = true
  names : ∀ (f : FuncId) (fn : Func), C.P.funcs[f]? = some fn → (fn.name == "runtime.NumGoroutine") = false
  inpl : ∀ f F, C.X f = some F → InpOk C f F
theorem MemSim.cfg {C C' : Cfg} (hG : C'.G = C.G) {w : World} {B oC oL : Nat → Prop} {ω : Nat → Option Nat} {m : Mem} (M : MemSim C w B oC oL ω m) : MemSim C' w B oC oL ω m :=
  ⟨M.hp, M.lp, hG ▸ M.gl, hG ▸ M.gb, M.bl⟩
theorem CallEnd.cfg {C C' : Cfg} (hG : C'.G = C.G) {w : World} {B oC oL : Nat → Prop} {ω : Nat → Option Nat} {nx : Nat} {kk kp : AV → Mem → Bool} {e : Ending} {w' : World} (h : CallEnd C w B oC oL ω nx kk kp e w') : CallEnd C' w B oC oL ω nx kk kp e w' := by
  rcases h with ⟨v, u, m', oC', oL', ω', h1, h2, h3, h4, h5⟩ | ⟨v, u, m', oC', oL', ω', h1, h2, h3, h4, h5⟩
  · exact .inl ⟨v, u, m', oC', oL', ω', h1, h2, h3, h4.cfg hG, h5⟩
  · exact .inr ⟨v, u, m', oC', oL', ω', h1, h2, h3, h4.cfg hG, h5⟩
theorem InpOk.cfg {C C' : Cfg} (hP : C'.P = C.P) (hG : C'.G = C.G) {f : FuncId} {F : List AV → Mem → TrM} (h : InpOk C f F) : InpOk C' f F := fun args m kk w B oC oL ω us hk M hr => by
  obtain ⟨h1, h2⟩ := h args m kk w B oC oL ω us hk (M.cfg hG.symm) hr
  rw [hP]
  exact ⟨h1, h2.mono fun e w' he => he.cfg hG⟩
theorem Still.drew (w : World) : Still w { w with drawn := w.drawn + 1 } := ⟨rfl, rfl, rfl, Nat.le_refl _, fun _ _ _ => rfl, fun _ h => .inl h, Nat.le_refl _, fun _ _ => rfl, fun _ _ h => h⟩
theorem Still.ext {w w' : World} (E : Still w w') {own : Nat → Prop} {ω : Nat → Option Nat} {nx : Nat} : Ext w own ω nx w' own ω nx :=
  ⟨E.os, E.tape, E.output, E.size, fun b hb _ => E.old b hb (fun h => h), fun _ h => .inl h, Nat.le_refl _, fun _ _ => rfl, E.row⟩

section
variable {C : Cfg} {w : World} {B : Nat → Prop} {own : Nat → Prop} {ω : Nat → Option Nat}

theorem MemSim.still {w' : World} {oC oL : Nat → Prop} {m : Mem} (M : MemSim C w B oC oL ω m) (E : Still w w') : MemSim C w' B oC oL ω m :=
  M.op (nx' := m.nx) (h' := m.heap) E.ext ⟨fun id hb h => by
    obtain ⟨h1, b, arr, h2, h3, h4, h5, h6⟩ := M.hp.rel id hb h
    exact ⟨h1, b, arr, h2, h3, (E.old b (M.hp.ob b h3) (fun h => h)).trans h4, h5, fun i hi => rep_cond_ext (h6 i hi) E.ext⟩, M.hp.inj, fun b hb => Nat.lt_of_lt_of_le (M.hp.ob b hb) E.size⟩
theorem viewsK_sound {f : AV → (AV → Bool) → Bool → Bool} {Rl Rl' : AV → Value → Prop} (hf : ∀ v k, f v k false = true → ∃ v', k v' = true ∧ ∀ u, Rl v u → Rl' v' u) : ∀ (cs : List AV) (k : List AV → Bool), viewsK f cs k false = true →
    ∃ cs', k cs' = true ∧ cs'.length = cs.length ∧ ∀ (j : Nat) (a' a : AV) (u : Value), cs'[j]? = some a' → cs[j]? = some a → Rl a u → Rl' a' u
  | [], k, hk => ⟨[], hk, rfl, fun j a' a u h => by simp at h⟩
  | v :: r, k, hk => by
    obtain ⟨v', h1, h2⟩ := hf v _ hk
    obtain ⟨r', h3, h4, h5⟩ := viewsK_sound hf r _ h1
    refine ⟨v' :: r', h3, by simp [h4], fun j a' a u ha' ha hr => ?_⟩
    cases j with
    | zero => simp at ha' ha; subst ha' ha; exact h2 u hr
    | succ j => exact h5 j a' a u (by simpa using ha') (by simpa using ha) hr

theorem rep_list {w' : World} {B' : Nat → Prop} {own' : Nat → Prop} {ω' : Nat → Option Nat} {nx nx' : Nat} {cs cs' : List AV} {vs : Array Value} (h1 : cs.length = vs.size) (h2 : ∀ i (h : i < cs.length), Rep w B own ω nx cs[i] (vs.getD i undef)) (hl : cs'.length = cs.length)
    (hr : ∀ (j : Nat) (a' a : AV) (u : Value), cs'[j]? = some a' → cs[j]? = some a → Rep w B own ω nx a u → Rep w' B' own' ω' nx' a' u) : cs'.length = vs.size ∧ ∀ i (h : i < cs'.length), Rep w' B' own' ω' nx' cs'[i] (vs.getD i undef) :=
  ⟨by omega, fun i hi => hr i _ _ _ (List.getElem?_eq_getElem hi) (List.getElem?_eq_getElem (by omega)) (h2 i (by omega))⟩

/-- Memory that nobody writes, whoever looks. -/
theorem Rep.plain0 {v : AV} {u : Value} (h : Rep w B own ω 0 v u) : Rep w (fun _ => False) (fun _ => False) (fun _ => none) 0 v u :=
  h.mono (Nat.le_refl _) (fun _ _ _ _ => ⟨rfl, fun h => h, fun h => h⟩) (fun id b hi => absurd hi (Nat.not_lt_zero _)) (fun _ _ h => h)

theorem pure_cells {nx : Nat} {h : Heap} (H : Hp w B own ω nx h) {id b : Nat} {hb : HB} (hid : hget h id = some hb) (hp : hb.pure = true) (hω : ω id = some b) :
    b < w.heap.size ∧ ∃ vs : Nat → Value, (∀ i, i < hb.cells.length → w.cell? ⟨b, i, none⟩ = some (vs i)) ∧ ∀ i (hi : i < hb.cells.length), Rep w B own ω 0 hb.cells[i] (vs i) := by
  obtain ⟨arr, h3, h4, h5, h6⟩ := H.there hid hω
  refine ⟨H.ob b h3, fun i => arr.getD i undef, fun i hi => ?_, fun i hi => ?_⟩
  · have hi' : i < arr.size := by omega
    simp [World.cell?, h4, hi']
  · have := h6 i hi
    rw [hp] at this
    exact this

theorem viewK_sound {nx : Nat} {h : Heap} (H : Hp w B own ω nx h) : ∀ (d : Nat) (v : AV) (k : AV → Bool), viewK h d v k false = true → ∃ v', k v' = true ∧ ∀ u, Rep w B own ω nx v u → Rep w (fun _ => False) (fun _ => False) (fun _ => none) 0 v' u
  | 0, _, _, hk => by cases hk
  | d + 1, v, k, hk => by
    have ih := viewK_sound H d
    have lists : ∀ (cs : List AV) (k : List AV → Bool), viewsK (viewK h d) cs k false = true → _ := fun cs k => viewsK_sound (Rl := fun v u => Rep w B own ω nx v u) (Rl' := fun v u => Rep w (fun _ => False) (fun _ => False) (fun _ => none) 0 v u) ih cs k
    cases v <;> simp only [viewK] at hk
    case any => exact ⟨_, hk, fun u hr => .any _ _⟩
    case bool => exact ⟨_, hk, fun u hr => by cases hr; exact .bool _ _⟩
    case int => exact ⟨_, hk, fun u hr => by cases hr; exact .int _ _ _⟩
    case str => exact ⟨_, hk, fun u hr => by cases hr; exact .str _ _⟩
    case nilp => exact ⟨_, hk, fun u hr => by cases hr; exact .nilp _⟩
    case nils => exact ⟨_, hk, fun u hr => by cases hr; exact .nils _⟩
    case nilfn => exact ⟨_, hk, fun u hr => by cases hr; exact .nilfn _⟩
    case niliface => exact ⟨_, hk, fun u hr => by cases hr; exact .niliface _⟩
    case ptr id off =>
      split at hk
      · rename_i hb hid
        replace hk := of_cond hk; obtain ⟨hp, hk⟩ := hk
        refine ⟨_, hk, fun u hr => ?_⟩
        cases hr with
        | ptr _ _ _ b g1 g2 =>
          obtain ⟨q1, vs, q2, q3⟩ := pure_cells H hid hp g2
          have := Rep.iptr (w := w) (B := fun _ => False) (own := fun _ => False) (ω := fun _ => none) 0 hb.cells off b 0 vs (fun _ => ⟨q1, fun h => h, fun h => h⟩) (fun i hi => by rw [Nat.zero_add]; exact q2 i hi) (fun i hi => (q3 i hi).plain0)
          rwa [Nat.zero_add] at this
      · cases hk
    case iptr cells off =>
      refine ⟨_, hk, fun u hr => ?_⟩
      cases hr with
      | iptr _ _ _ b o vs g1 g2 g3 => exact .iptr _ _ _ b o vs (fun hne => ⟨(g1 hne).1, fun h => h, fun h => h⟩) g2 (fun i hi => (g3 i hi).plain0)
    case yld => cases hk
    case mp => cases hk
    case es => exact ⟨_, hk, fun u hr => by cases hr; exact .es _ _⟩
    case ns => exact ⟨_, hk, fun u hr => by cases hr; exact .ns _ _ _⟩
    case lst c n =>
      refine ⟨_, hk, fun u hr => ?_⟩
      cases hr with
      | lst _ _ _ cap b o vs g1 g2 g3 g4 => exact .lst _ _ _ _ b o vs (fun hne => ⟨(g1 hne).1, fun h => h, fun h => h⟩) g2 g3 (fun i hi => (g4 i hi).plain0)
      | lstn => exact .lstn _ _ _
    case sl id off n sz app =>
      split at hk
      · rename_i hb hid
        replace hk := of_cond hk; obtain ⟨hle, hk⟩ := hk
        replace hle := of_ble hle
        rcases of_cond2 hk with ⟨hp, hk⟩ | ⟨hp, hk⟩
        case inr =>
          obtain ⟨cs', h1, h2, h3⟩ := lists _ _ hk
          refine ⟨_, h1, fun u hr => ?_⟩
          have key : ∀ b cap, ω id = some b → n ≤ cap → Rep w (fun _ => False) (fun _ => False) (fun _ => none) 0 (.lst cs' n) (.slice (some ⟨b, off, none⟩) n cap) := fun b cap hω hn => by
            obtain ⟨arr, a3, a4, a5, a6⟩ := H.there hid hω
            have hl : ((hb.cells.drop off).take (n * sz)).length = n * sz := by simp; omega
            refine .lst _ _ _ cap b off (fun i => arr.getD (off + i) undef) (fun _ => ⟨H.ob b a3, fun h => h, fun h => h⟩) hn (fun i hi => ?_) (fun i hi => ?_)
            · have hi' : off + i < arr.size := by omega
              simp [World.cell?, a4, hi']
            · have hi2 : off + i < hb.cells.length := by omega
              have q := a6 (off + i) hi2
              rw [hp] at q
              exact h3 i _ _ _ (List.getElem?_eq_getElem hi) (by rw [List.getElem?_take_of_lt (by omega), List.getElem?_drop, List.getElem?_eq_getElem hi2]) q
          cases hr with
          | sl _ _ _ _ _ cap b g1 g2 g3 => exact key b cap g2 g3
          | sla _ _ _ _ cap b g1 g2 g3 g4 g5 => exact key b cap g2 g3
        refine ⟨_, hk, fun u hr => ?_⟩
        have key : ∀ b cap, ω id = some b → n ≤ cap → Rep w (fun _ => False) (fun _ => False) (fun _ => none) 0 (.lst ((hb.cells.drop off).take (n * sz)) n) (.slice (some ⟨b, off, none⟩) n cap) := fun b cap hω hn => by
          obtain ⟨q1, vs, q2, q3⟩ := pure_cells H hid hp hω
          have := lst_take (w := w) (B := fun _ => False) (own := fun _ => False) (ω := fun _ => none) (nx := 0) (cells := hb.cells) (cap := cap) (b := b) (o := 0) (d := off) (m := n) (vs := vs) (fun _ => ⟨q1, fun h => h, fun h => h⟩) hn
            (fun i hi => by rw [Nat.zero_add]; exact q2 i hi) (fun i hi => (q3 i hi).plain0) (n * sz)
          rwa [Nat.zero_add] at this
        cases hr with
        | sl _ _ _ _ _ cap b g1 g2 g3 => exact key b cap g2 g3
        | sla _ _ _ _ cap b g1 g2 g3 g4 g5 => exact key b cap g2 g3
      · cases hk
    case fn f a b =>
      obtain ⟨a', h1, h2, h3⟩ := lists a _ hk
      obtain ⟨b', h4, h5, h6⟩ := lists b _ h1
      refine ⟨_, h4, fun u hr => ?_⟩
      cases hr with
      | fn _ _ _ _ fs cs g1 g2 g3 g4 =>
        obtain ⟨e1, e2⟩ := rep_list g1 g3 h2 h3
        obtain ⟨e3, e4⟩ := rep_list g2 g4 h5 h6
        exact .fn _ _ _ _ _ _ e1 e3 e2 e4
    case iface t v =>
      obtain ⟨v', h1, h2⟩ := ih v _ hk
      refine ⟨_, h1, fun u hr => ?_⟩
      cases hr with
      | iface _ _ _ _ g => exact .iface _ _ _ _ (h2 _ g)
    case agg cs =>
      obtain ⟨cs', h1, h2, h3⟩ := lists cs _ hk
      refine ⟨_, h1, fun u hr => ?_⟩
      cases hr with
      | agg _ _ vs g1 g2 => obtain ⟨e1, e2⟩ := rep_list g1 g2 h2 h3; exact .agg _ _ _ e1 e2
    case tup cs =>
      obtain ⟨cs', h1, h2, h3⟩ := lists cs _ hk
      refine ⟨_, h1, fun u hr => ?_⟩
      cases hr with
      | tup _ _ vs g1 g2 => obtain ⟨e1, e2⟩ := rep_list g1 g2 h2 h3; exact .tup _ _ _ e1 e2

/-- What a result variable holds. -/
def resSem (tmps : Array Value) (rv : ResultVar) : Sem Value :=
  match rv with
  | .tmp t => pure (tmps.getD t undef)
  | .cell a t => do loadVar t (← asAddr (tmps.getD a undef))
theorem results_eq (fn : Func) (tmps : Array Value) : results fn tmps = (do let vs ← fn.results.mapM (resSem tmps); pure (if h : vs.size = 1 then vs[0] else .tuple vs)) := rfl

theorem resK1_sound {oL : Nat → Prop} {st : St} {a : Act} (S : Sim C w B own oL ω st a) {rv : ResultVar} {k : AV → Bool} (hk : resK1 C st rv k false = true) :
    Reckons C.P w (Or2 B oL) own ω st.m.nx (resSem a.tmps rv) k := by
  cases rv with
  | tmp t =>
    have := S.ev (.tmp t)
    exact ⟨_, _, fun _ _ => rfl, this, hk⟩
  | cell x t =>
    simp only [resK1] at hk
    have hev := S.ev (.tmp x)
    simp only [evO, Act.eval] at hev
    split at hk
    · rename_i id off hx
      rw [hx] at hev
      split at hk
      · rename_i hb hid
        generalize hy : a.tmps.getD x undef = y at hev
        cases hev with
        | ptr _ _ _ b g1 g2 =>
          obtain ⟨v, u, r1, r2, r3⟩ := loadK_sound (S.ms.hp.lies hid g2) hk
          rw [Nat.zero_add] at r1
          refine ⟨v, u, fun w' hw => ?_, r2, r3⟩
          unfold resSem
          simp only [hy, asAddr, Sem.run_bind, Sem.run_pure, Result.andThen_ok]
          exact r1 w' hw
      · cases hk
    · cases hk

theorem resKs_sound {oL : Nat → Prop} {st : St} {a : Act} (S : Sim C w B own oL ω st a) : ∀ (rs : List ResultVar) (k : List AV → Bool), resKs C st rs k false = true →
    ∃ vs us, (rs.mapM (resSem a.tmps)).run C.P w = .ok us w ∧ vs.length = us.length ∧ (∀ (j : Nat) (v : AV) (u : Value), vs[j]? = some v → us[j]? = some u → Rep w (Or2 B oL) own ω st.m.nx v u) ∧ k vs = true
  | [], k, hk => ⟨[], [], by simp [Sem.run], rfl, fun j v u h => by simp at h, hk⟩
  | r :: rs, k, hk => by
    obtain ⟨v, u, r1, r2, r3⟩ := resK1_sound S hk
    obtain ⟨vs, us, h1, h2, h3, h4⟩ := resKs_sound S rs _ r3
    refine ⟨v :: vs, u :: us, ?_, by simp [h2], fun j x y hx hy => ?_, h4⟩
    · simp only [List.mapM_cons, Sem.run_bind, r1 w (Same.refl w), Result.andThen_ok, h1, Sem.run_pure]
    · cases j with
      | zero => simp at hx hy; subst hx hy; exact r2
      | succ j => exact h3 j x y (by simpa using hx) (by simpa using hy)

theorem resK_sound {oL : Nat → Prop} {st : St} {a : Act} {fn : Func} (S : Sim C w B own oL ω st a) {k : AV → Bool} (hk : resK C fn st k false = true) : ∃ v u, (results fn a.tmps).run C.P w = .ok u w ∧ Rep w (Or2 B oL) own ω st.m.nx v u ∧ k v = true := by
  obtain ⟨vs, us, h1, h2, h3, h4⟩ := resKs_sound S _ _ hk
  have hrun : (results fn a.tmps).run C.P w = .ok (if h : us.toArray.size = 1 then us.toArray[0] else .tuple us.toArray) w := by
    rw [results_eq, Array.mapM_eq_mapM_toList]
    simp only [map_eq_pure_bind, bind_assoc, pure_bind, Sem.run_bind, h1, Result.andThen_ok, Sem.run_pure]
  refine ⟨_, _, hrun, ?_, h4⟩
  by_cases hl : us.length = 1
  · obtain ⟨u, rfl⟩ := List.length_eq_one_iff.1 hl
    obtain ⟨v, rfl⟩ := List.length_eq_one_iff.1 (h2.trans hl)
    exact h3 0 v u rfl rfl
  · have e : tupOf vs = .tup vs := by
      unfold tupOf
      split
      · rename_i v; simp at h2; omega
      · rfl
    rw [e]
    simp only [List.size_toArray, hl, dite_false]
    have := repL_of (w := w) (B := Or2 B oL) (own := own) (ω := ω) (nx := st.m.nx) (cells := vs) (arr := us.toArray) (by simpa using h2) (fun j a x ha hx => h3 j a x ha (by simpa using hx))
    exact .tup _ _ _ this.1 this.2

/-- What leads into no memory is the same in every world. -/
theorem Rep.noMem {B : Nat → Prop} {w : World} {own : Nat → Prop} {ω : Nat → Option Nat} {nx : Nat} {v : AV} {u : Value} (h : Rep w B own ω nx v u) : ∀ {d : Nat}, v.noMem d = true → ∀ w' B' own' ω' nx', Rep w' B' own' ω' nx' v u := by
  induction h with
  | any => intro _ _ _ _ _ _ _; exact .any _ _
  | bool => intro _ _ _ _ _ _ _; exact .bool _ _
  | int => intro _ _ _ _ _ _ _; exact .int _ _ _
  | str => intro _ _ _ _ _ _ _; exact .str _ _
  | nilp => intro _ _ _ _ _ _ _; exact .nilp _
  | ptr => intro d hd; cases d <;> simp [AV.noMem] at hd
  | iptr => intro d hd; cases d <;> simp [AV.noMem] at hd
  | nils => intro _ _ _ _ _ _ _; exact .nils _
  | es => intro _ _ _ _ _ _ _; exact .es _ _
  | ns => intro _ _ _ _ _ _ _; exact .ns _ _ _
  | lst => intro d hd; cases d <;> simp [AV.noMem] at hd
  | lstn => intro d hd; cases d <;> simp [AV.noMem] at hd
  | sl => intro d hd; cases d <;> simp [AV.noMem] at hd
  | sla => intro d hd; cases d <;> simp [AV.noMem] at hd
  | yld => intro d hd; cases d <;> simp [AV.noMem] at hd
  | mp => intro d hd; cases d <;> simp [AV.noMem] at hd
  | fn nx f first cap fs cs h1 h2 _ _ ih1 ih2 =>
    intro d hd w' B' own' ω' nx'
    cases d with
    | zero => simp [AV.noMem] at hd
    | succ d =>
      simp only [AV.noMem, Bool.and_eq_true, List.all_eq_true] at hd
      exact .fn _ _ _ _ _ _ h1 h2 (fun i hi => ih1 i hi (hd.1 _ (List.getElem_mem hi)) _ _ _ _ _) (fun i hi => ih2 i hi (hd.2 _ (List.getElem_mem hi)) _ _ _ _ _)
  | nilfn => intro _ _ _ _ _ _ _; exact .nilfn _
  | iface nx t v u _ ih =>
    intro d hd w' B' own' ω' nx'
    cases d with
    | zero => simp [AV.noMem] at hd
    | succ d => exact .iface _ _ _ _ (ih (by simpa [AV.noMem] using hd) _ _ _ _ _)
  | niliface => intro _ _ _ _ _ _ _; exact .niliface _
  | agg nx cs vs h1 _ ih =>
    intro d hd w' B' own' ω' nx'
    cases d with
    | zero => simp [AV.noMem] at hd
    | succ d =>
      simp only [AV.noMem, List.all_eq_true] at hd
      exact .agg _ _ _ h1 (fun i hi => ih i hi (hd _ (List.getElem_mem hi)) _ _ _ _ _)
  | tup nx cs vs h1 _ ih =>
    intro d hd w' B' own' ω' nx'
    cases d with
    | zero => simp [AV.noMem] at hd
    | succ d =>
      simp only [AV.noMem, List.all_eq_true] at hd
      exact .tup _ _ _ h1 (fun i hi => ih i hi (hd _ (List.getElem_mem hi)) _ _ _ _ _)

theorem freezeK_sound {w : World} {B : Nat → Prop} {own : Nat → Prop} {ω : Nat → Option Nat} {nx : Nat} {h : Heap} (H : Hp w B own ω nx h) (hB : ∀ b, own b → ¬ B b) : ∀ (d : Nat) (v : AV) (k : AV → Bool), freezeK h d v k false = true → ∃ v', k v' = true ∧ ∀ u, Rep w B own ω nx v u → Rep w B (fun _ => False) (fun _ => none) 0 v' u
  | 0, _, _, hk => by cases hk
  | d + 1, v, k, hk => by
    have ih := freezeK_sound H hB d
    have lists : ∀ (cs : List AV) (k : List AV → Bool), viewsK (freezeK h d) cs k false = true → _ := fun cs k => viewsK_sound (Rl := fun v u => Rep w B own ω nx v u) (Rl' := fun v u => Rep w B (fun _ => False) (fun _ => none) 0 v u) ih cs k
    have plain : ∀ {v : AV} {u : Value}, Rep w B own ω 0 v u → Rep w B (fun _ => False) (fun _ => none) 0 v u := fun h =>
      h.mono (Nat.le_refl _) (fun _ _ _ hB => ⟨rfl, fun h => h, hB⟩) (fun id b hi => absurd hi (Nat.not_lt_zero _)) (fun _ _ h => h)
    cases v <;> simp only [freezeK] at hk
    case any => exact ⟨_, hk, fun u hr => .any _ _⟩
    case bool => exact ⟨_, hk, fun u hr => by cases hr; exact .bool _ _⟩
    case int => exact ⟨_, hk, fun u hr => by cases hr; exact .int _ _ _⟩
    case str => exact ⟨_, hk, fun u hr => by cases hr; exact .str _ _⟩
    case nilp => exact ⟨_, hk, fun u hr => by cases hr; exact .nilp _⟩
    case nils => exact ⟨_, hk, fun u hr => by cases hr; exact .nils _⟩
    case yld => cases hk
    case mp => cases hk
    case es => exact ⟨_, hk, fun u hr => by cases hr; exact .es _ _⟩
    case ns => exact ⟨_, hk, fun u hr => by cases hr; exact .ns _ _ _⟩
    case nilfn => exact ⟨_, hk, fun u hr => by cases hr; exact .nilfn _⟩
    case niliface => exact ⟨_, hk, fun u hr => by cases hr; exact .niliface _⟩
    case ptr id off => cases hk
    case iptr cells off => cases hk
    case fn f a b => cases hk
    case lst c n =>
      refine ⟨_, hk, fun u hr => ?_⟩
      cases hr with
      | lst _ _ _ cap b o vs g1 g2 g3 g4 => exact .lst _ _ _ _ b o vs (fun hne => ⟨(g1 hne).1, fun h => h, (g1 hne).2.2⟩) g2 g3 (fun i hi => plain (g4 i hi))
      | lstn => exact .lstn _ _ _
    case sl id off n sz app =>
      split at hk
      · rename_i hb hid
        rcases of_cond2 hk with ⟨h0, hk⟩ | ⟨_, hk⟩
        · obtain rfl := of_beq h0
          refine ⟨_, hk, fun u hr => ?_⟩
          cases hr with
          | sl _ _ _ _ _ cap b g1 g2 g3 => exact .ns _ _ _
          | sla _ _ _ _ cap b g1 g2 g3 g4 g5 => exact .ns _ _ _
        replace hk := of_cond hk; obtain ⟨hle, hk⟩ := hk
        replace hle := of_ble hle
        rcases of_cond2 hk with ⟨hp, hk⟩ | ⟨hp, hk⟩
        case inr =>
          obtain ⟨cs', h1, h2, h3⟩ := lists _ _ hk
          refine ⟨_, h1, fun u hr => ?_⟩
          have key : ∀ b cap, ω id = some b → n ≤ cap → Rep w B (fun _ => False) (fun _ => none) 0 (.lst cs' n) (.slice (some ⟨b, off, none⟩) n cap) := fun b cap hω hn => by
            obtain ⟨arr, a3, a4, a5, a6⟩ := H.there hid hω
            have hl : ((hb.cells.drop off).take (n * sz)).length = n * sz := by simp; omega
            refine .lst _ _ _ cap b off (fun i => arr.getD (off + i) undef) (fun _ => ⟨H.ob b a3, fun h => h, hB b a3⟩) hn (fun i hi => ?_) (fun i hi => ?_)
            · have hi' : off + i < arr.size := by omega
              simp [World.cell?, a4, hi']
            · have hi2 : off + i < hb.cells.length := by omega
              have q := a6 (off + i) hi2
              rw [hp] at q
              exact h3 i _ _ _ (List.getElem?_eq_getElem hi) (by rw [List.getElem?_take_of_lt (by omega), List.getElem?_drop, List.getElem?_eq_getElem hi2]) q
          cases hr with
          | sl _ _ _ _ _ cap b g1 g2 g3 => exact key b cap g2 g3
          | sla _ _ _ _ cap b g1 g2 g3 g4 g5 => exact key b cap g2 g3
        refine ⟨_, hk, fun u hr => ?_⟩
        have key : ∀ b cap, ω id = some b → n ≤ cap → Rep w B (fun _ => False) (fun _ => none) 0 (.lst ((hb.cells.drop off).take (n * sz)) n) (.slice (some ⟨b, off, none⟩) n cap) := fun b cap hω hn => by
          obtain ⟨q1, vs, q2, q3⟩ := pure_cells H hid hp hω
          obtain ⟨_, ho, _⟩ := H.there hid hω
          have := lst_take (w := w) (B := B) (own := fun _ => False) (ω := fun _ => none) (nx := 0) (cells := hb.cells) (cap := cap) (b := b) (o := 0) (d := off) (m := n) (vs := vs) (fun _ => ⟨q1, fun h => h, hB b ho⟩) hn
            (fun i hi => by rw [Nat.zero_add]; exact q2 i hi) (fun i hi => plain (q3 i hi)) (n * sz)
          rwa [Nat.zero_add] at this
        cases hr with
        | sl _ _ _ _ _ cap b g1 g2 g3 => exact key b cap g2 g3
        | sla _ _ _ _ cap b g1 g2 g3 g4 g5 => exact key b cap g2 g3
      · cases hk
    case iface t v =>
      obtain ⟨v', h1, h2⟩ := ih v _ hk
      refine ⟨_, h1, fun u hr => ?_⟩
      cases hr with
      | iface _ _ _ _ g => exact .iface _ _ _ _ (h2 _ g)
    case agg cs =>
      obtain ⟨cs', h1, h2, h3⟩ := lists cs _ hk
      refine ⟨_, h1, fun u hr => ?_⟩
      cases hr with
      | agg _ _ vs g1 g2 => obtain ⟨e1, e2⟩ := rep_list g1 g2 h2 h3; exact .agg _ _ _ e1 e2
    case tup cs =>
      obtain ⟨cs', h1, h2, h3⟩ := lists cs _ hk
      refine ⟨_, h1, fun u hr => ?_⟩
      cases hr with
      | tup _ _ vs g1 g2 => obtain ⟨e1, e2⟩ := rep_list g1 g2 h2 h3; exact .tup _ _ _ e1 e2

end
end Go.Bas
