/- The engine, part A: abstract values and heaps, how they stand for the model's, and how that relation is kept as the world grows. -/
import Derived.WalkKit
import Derived.WalkSpells
import Derived.WalkLawsBesides
import Derived.ProofKit
namespace Go.Bas
open Go.RowKit

/-- An abstract value. 'ptr', 'sl' lead into the run's own blocks; 'iptr', 'lst' into memory that nobody writes. -/
inductive AV where
  | any
  | bool (b : Bool)
  | int (k : IntKind) (n : Int)
  | str (s : ByteArray)
  | nilp
  | ptr (id off : Nat)
  | iptr (cells : List AV) (off : Nat)
  | nils
  | es
  | ns
  | lst (cells : List AV) (n : Nat)
  | sl (id off n sz : Nat) (app : Bool)
  | fn (f : Fn) (first cap : List AV)
  | yld (id : Nat)
  | mp (id : Nat)
  | nilfn
  | iface (t : TypeId) (v : AV)
  | niliface
  | agg (cs : List AV)
  | tup (vs : List AV)
  deriving Inhabited

def AV.isB : AV → Bool | .bool _ => true | _ => false
def AV.toB : AV → Bool | .bool b => b | _ => false
def kindEq : IntKind → IntKind → Bool
  | .i8, .i8 | .i16, .i16 | .i32, .i32 | .i64, .i64 | .u8, .u8 | .u16, .u16 | .u32, .u32 | .u64, .u64 => true
  | _, _ => false
theorem kindEq_eq {a b : IntKind} (h : kindEq a b = true) : a = b := by
  cases a <;> cases b <;> first | rfl | exact absurd h (by decide)
def AV.isI (k : IntKind) : AV → Bool | .int k' _ => kindEq k' k | _ => false
def AV.toI : AV → Int | .int _ n => n | _ => 0
def AV.isL : AV → Bool | .lst _ _ => true | _ => false
def AV.lc : AV → List AV | .lst c _ => c | _ => []
def AV.ln : AV → Nat | .lst _ n => n | _ => 0

theorem AV.of_isB {v : AV} (h : v.isB = true) : v = .bool v.toB := by cases v <;> first | rfl | cases h
theorem AV.of_isI {k : IntKind} {v : AV} (h : v.isI k = true) : v = .int k v.toI := by
  cases v <;> first | (rw [AV.isI] at h; rw [kindEq_eq h]; rfl) | cases h
theorem AV.of_isL {v : AV} (h : v.isL = true) : v = .lst v.lc v.ln := by cases v <;> first | rfl | cases h

/-- A block of the run's own: its cells as far as they are known; 'pure': none of them leads into an own block. -/
structure HB where
  cells : List AV
  elem : TypeId
  pure : Bool
abbrev Heap := List (Nat × HB)
noncomputable def hget (h : Heap) (id : Nat) : Option HB := List.rec (motive := fun _ => Option HB) none (fun p _ ih => cond (Nat.beq p.1 id) (some p.2) ih) h
theorem hget_nil (id : Nat) : hget [] id = none := rfl
theorem hget_cons (i : Nat) (b : HB) (r : Heap) (id : Nat) : hget ((i, b) :: r) id = cond (Nat.beq i id) (some b) (hget r id) := rfl
/-- A list's element, and a list with one set: reckoned by the recursor. -/
noncomputable def lget (l : List AV) (n : Nat) : AV := List.rec (motive := fun _ => Nat → AV) (fun _ => .any) (fun a _ ih n => Nat.rec (motive := fun _ => AV) a (fun m _ => ih m) n) l n
noncomputable def lset (l : List AV) (n : Nat) (v : AV) : List AV := List.rec (motive := fun _ => Nat → List AV) (fun _ => []) (fun a r ih n => Nat.rec (motive := fun _ => List AV) (v :: r) (fun m _ => a :: ih m) n) l n
theorem lget_eq : ∀ (l : List AV) (n : Nat), lget l n = l.getD n .any
  | [], n => by cases n <;> rfl
  | a :: r, 0 => rfl
  | a :: r, n + 1 => by show lget r n = _; rw [lget_eq r n]; rfl
theorem lset_eq : ∀ (l : List AV) (n : Nat) (v : AV), lset l n v = l.set n v
  | [], n, v => by cases n <;> rfl
  | a :: r, 0, v => rfl
  | a :: r, n + 1, v => by show a :: lset r n v = _; rw [lset_eq r n]; rfl
def hset : Heap → Nat → HB → Heap
  | [], _, _ => []
  | (i, b) :: r, id, x => cond (Nat.beq i id) ((i, x) :: r) ((i, b) :: hset r id x)
def hdel : Heap → Nat → Heap
  | [], _ => []
  | (i, b) :: r, id => cond (Nat.beq i id) (hdel r id) ((i, b) :: hdel r id)

theorem beq_iff (a b : Nat) : Nat.beq a b = true ↔ a = b := Nat.beq_eq ▸ Iff.rfl
theorem hget_hset (h : Heap) (id j : Nat) (x : HB) : hget (hset h id x) j = if j = id then (hget h id).map (fun _ => x) else hget h j := by
  induction h with
  | nil => simp [hset, hget_nil]
  | cons a r ih =>
    obtain ⟨i, b⟩ := a
    simp only [hset]
    cases hi : Nat.beq i id with
    | true =>
      have hi' := (beq_iff i id).1 hi
      subst hi'
      simp only [cond_true, hget_cons]
      by_cases hj : j = i
      · subst hj; simp
      · have : Nat.beq i j = false := by
          cases h : Nat.beq i j with
          | false => rfl
          | true => exact absurd ((beq_iff i j).1 h).symm hj
        simp [this, hj]
    | false =>
      simp only [cond_false, hget_cons]
      cases hj : Nat.beq i j with
      | true =>
        have hj' := (beq_iff i j).1 hj
        subst hj'
        have hne : ¬ i = id := fun e => by subst e; rw [hi] at hj; cases hj
        simp [hne]
      | false =>
        simp only [cond_false, ih, hi]
theorem hget_hdel (h : Heap) (id j : Nat) : hget (hdel h id) j = if j = id then none else hget h j := by
  induction h with
  | nil => simp [hdel, hget_nil]
  | cons a r ih =>
    obtain ⟨i, b⟩ := a
    simp only [hdel]
    cases hi : Nat.beq i id with
    | true =>
      have hi' := (beq_iff i id).1 hi
      subst hi'
      simp only [cond_true, ih, hget_cons]
      by_cases hj : j = i
      · simp [hj]
      · have : Nat.beq i j = false := by
          cases h : Nat.beq i j with
          | false => rfl
          | true => exact absurd ((beq_iff i j).1 h).symm hj
        simp [this, hj]
    | false =>
      simp only [cond_false, hget_cons, ih]
      cases hj : Nat.beq i j with
      | true =>
        have hj' := (beq_iff i j).1 hj
        subst hj'
        have hne : ¬ i = id := fun e => by subst e; rw [hi] at hj; cases hj
        simp [hne]
      | false => simp

/-- What an own block's size is in the world. -/
def rowSize (w : World) (b : Nat) : Option Nat :=
  match w.heap[b]? with
  | some (.cells c _ _) => some c.size
  | _ => none

/-- A value of the model, seen as an abstract one: 'B': blocks that it does not lead into; 'own': the run's own blocks; 'ω': where an own block lies. -/
inductive Rep (w : World) (B : Nat → Prop) (own : Nat → Prop) (ω : Nat → Option Nat) : Nat → AV → Value → Prop
  | any (nx v) : Rep w B own ω nx .any v
  | bool (nx b) : Rep w B own ω nx (.bool b) (.bool b)
  | int (nx k n) : Rep w B own ω nx (.int k n) (.int k n)
  | str (nx s) : Rep w B own ω nx (.str s) (.string s)
  | nilp (nx) : Rep w B own ω nx .nilp (.pointer none)
  | ptr (nx id off b) : id < nx → ω id = some b → Rep w B own ω nx (.ptr id off) (.pointer (some ⟨b, off, none⟩))
  | iptr (nx) (cells : List AV) (off b o : Nat) (vs : Nat → Value) : (cells ≠ [] → b < w.heap.size ∧ ¬ own b ∧ ¬ B b) →
      (∀ i, i < cells.length → w.cell? ⟨b, o + i, none⟩ = some (vs i)) → (∀ i (h : i < cells.length), Rep w B own ω 0 cells[i] (vs i)) →
      Rep w B own ω nx (.iptr cells off) (.pointer (some ⟨b, o + off, none⟩))
  | nils (nx) : Rep w B own ω nx .nils (.slice none 0 0)
  | es (nx a) : Rep w B own ω nx .es (.slice a 0 0)
  | ns (nx p c) : Rep w B own ω nx .ns (.slice (some p) 0 c)
  | lst (nx) (cells : List AV) (n cap b o : Nat) (vs : Nat → Value) : (cells ≠ [] → b < w.heap.size ∧ ¬ own b ∧ ¬ B b) → n ≤ cap →
      (∀ i, i < cells.length → w.cell? ⟨b, o + i, none⟩ = some (vs i)) → (∀ i (h : i < cells.length), Rep w B own ω 0 cells[i] (vs i)) →
      Rep w B own ω nx (.lst cells n) (.slice (some ⟨b, o, none⟩) n cap)
  | lstn (nx a c) : Rep w B own ω nx (.lst [] 0) (.slice a 0 c)
  | sl (nx id off n sz cap b) : id < nx → ω id = some b → n ≤ cap → Rep w B own ω nx (.sl id off n sz false) (.slice (some ⟨b, off, none⟩) n cap)
  | sla (nx id n sz cap b) : id < nx → ω id = some b → n ≤ cap → cap ≤ maxLen → rowSize w b = some (cap * sz) →
      Rep w B own ω nx (.sl id 0 n sz true) (.slice (some ⟨b, 0, none⟩) n cap)
  | yld (nx id l) : id < nx → ω id = some l → Rep w B own ω nx (.yld id) (.func (.yield l) #[] #[])
  | mp (nx id l) : id < nx → ω id = some l → Rep w B own ω nx (.mp id) (.map (some l))
  | fn (nx f) (first cap : List AV) (fs cs : Array Value) : first.length = fs.size → cap.length = cs.size →
      (∀ i (h : i < first.length), Rep w B own ω nx first[i] (fs.getD i undef)) → (∀ i (h : i < cap.length), Rep w B own ω nx cap[i] (cs.getD i undef)) →
      Rep w B own ω nx (.fn f first cap) (.func f fs cs)
  | nilfn (nx) : Rep w B own ω nx .nilfn .nilFunc
  | iface (nx t v u) : Rep w B own ω nx v u → Rep w B own ω nx (.iface t v) (.iface t u)
  | niliface (nx) : Rep w B own ω nx .niliface .nilIface
  | agg (nx) (cs : List AV) (vs : Array Value) : cs.length = vs.size → (∀ i (h : i < cs.length), Rep w B own ω nx cs[i] (vs.getD i undef)) → Rep w B own ω nx (.agg cs) (.agg vs)
  | tup (nx) (cs : List AV) (vs : Array Value) : cs.length = vs.size → (∀ i (h : i < cs.length), Rep w B own ω nx cs[i] (vs.getD i undef)) → Rep w B own ω nx (.tup cs) (.tuple vs)

/-- What a step leaves as it was. -/
structure Ext (w : World) (own : Nat → Prop) (ω : Nat → Option Nat) (nx : Nat) (w' : World) (own' : Nat → Prop) (ω' : Nat → Option Nat) (nx' : Nat) : Prop where
  os : w'.os = w.os
  tape : w'.tape = w.tape
  output : w'.output = w.output
  size : w.heap.size ≤ w'.heap.size
  old : ∀ b, b < w.heap.size → ¬ own b → w'.heap[b]? = w.heap[b]?
  owns : ∀ b, own' b → own b ∨ w.heap.size ≤ b
  nxle : nx ≤ nx'
  om : ∀ id, id < nx → ω' id = ω id
  row : ∀ b n, rowSize w b = some n → rowSize w' b = some n

theorem Ext.refl (w : World) (own : Nat → Prop) (ω : Nat → Option Nat) (nx : Nat) : Ext w own ω nx w own ω nx :=
  ⟨rfl, rfl, rfl, Nat.le_refl _, fun _ _ _ => rfl, fun _ h => .inl h, Nat.le_refl _, fun _ _ => rfl, fun _ _ h => h⟩
theorem Ext.trans {w w1 w2 : World} {own own1 own2 : Nat → Prop} {ω ω1 ω2 : Nat → Option Nat} {nx nx1 nx2 : Nat}
    (h : Ext w own ω nx w1 own1 ω1 nx1) (h' : Ext w1 own1 ω1 nx1 w2 own2 ω2 nx2) : Ext w own ω nx w2 own2 ω2 nx2 where
  os := h'.os.trans h.os
  tape := h'.tape.trans h.tape
  output := h'.output.trans h.output
  size := Nat.le_trans h.size h'.size
  old b hb hn := (h'.old b (Nat.lt_of_lt_of_le hb h.size) (fun ho => (h.owns b ho).elim hn (by omega))).trans (h.old b hb hn)
  owns b hb := (h'.owns b hb).elim (h.owns b) (fun hl => .inr (Nat.le_trans h.size hl))
  nxle := Nat.le_trans h.nxle h'.nxle
  om id hi := (h'.om id (Nat.lt_of_lt_of_le hi h.nxle)).trans (h.om id hi)
  row b n hr := h'.row b n (h.row b n hr)

theorem Rep.mono {w w' : World} {B B' : Nat → Prop} {own own' : Nat → Prop} {ω ω' : Nat → Option Nat} {nx nx' : Nat} {v : AV} {u : Value}
    (h : Rep w B own ω nx v u) (hs : w.heap.size ≤ w'.heap.size) (ho : ∀ b, b < w.heap.size → ¬ own b → ¬ B b → w'.heap[b]? = w.heap[b]? ∧ ¬ own' b ∧ ¬ B' b)
    (hm : ∀ id b, id < nx → ω id = some b → id < nx' ∧ ω' id = some b) (hr : ∀ b n, rowSize w b = some n → rowSize w' b = some n) : Rep w' B' own' ω' nx' v u := by
  induction h generalizing nx' with
  | any => exact .any _ _
  | bool => exact .bool _ _
  | int => exact .int _ _ _
  | str => exact .str _ _
  | nilp => exact .nilp _
  | ptr nx id off b hi hw => exact .ptr _ _ _ _ (hm id b hi hw).1 (hm id b hi hw).2
  | yld nx id l hi hw => exact .yld _ _ _ (hm id l hi hw).1 (hm id l hi hw).2
  | mp nx id l hi hw => exact .mp _ _ _ (hm id l hi hw).1 (hm id l hi hw).2
  | iptr nx cells off b o vs hb hc _ ih =>
    refine .iptr _ _ _ b o vs (fun hne => ?_) (fun i hi => ?_) (fun i hi => ih i hi (fun _ _ h => absurd h (Nat.not_lt_zero _)))
    · exact ⟨Nat.lt_of_lt_of_le (hb hne).1 hs, (ho b (hb hne).1 (hb hne).2.1 (hb hne).2.2).2⟩
    · have hne : cells ≠ [] := fun e => by subst e; exact absurd hi (Nat.not_lt_zero _)
      rw [← hc i hi]
      exact World.cell?_of_block (ho b (hb hne).1 (hb hne).2.1 (hb hne).2.2).1
  | nils => exact .nils _
  | es nx a => exact .es _ _
  | ns nx p c => exact .ns _ _ _
  | lst nx cells n cap b o vs hb hn hc _ ih =>
    refine .lst _ _ _ _ b o vs (fun hne => ?_) hn (fun i hi => ?_) (fun i hi => ih i hi (fun _ _ h => absurd h (Nat.not_lt_zero _)))
    · exact ⟨Nat.lt_of_lt_of_le (hb hne).1 hs, (ho b (hb hne).1 (hb hne).2.1 (hb hne).2.2).2⟩
    · have hne : cells ≠ [] := fun e => by subst e; exact absurd hi (Nat.not_lt_zero _)
      rw [← hc i hi]
      exact World.cell?_of_block (ho b (hb hne).1 (hb hne).2.1 (hb hne).2.2).1
  | lstn => exact .lstn _ _ _
  | sl nx id off n sz cap b hi hw hn => exact .sl _ _ _ _ _ _ _ (hm id b hi hw).1 (hm id b hi hw).2 hn
  | sla nx id n sz cap b hi hw hn hcm hrow => exact .sla _ _ _ _ _ _ (hm id b hi hw).1 (hm id b hi hw).2 hn hcm (hr _ _ hrow)
  | fn nx f first cap fs cs h1 h2 _ _ ih1 ih2 => exact .fn _ _ _ _ _ _ h1 h2 (fun i hi => ih1 i hi hm) (fun i hi => ih2 i hi hm)
  | nilfn => exact .nilfn _
  | iface nx t v u _ ih => exact .iface _ _ _ _ (ih hm)
  | niliface => exact .niliface _
  | agg nx cs vs h1 _ ih => exact .agg _ _ _ h1 (fun i hi => ih i hi hm)
  | tup nx cs vs h1 _ ih => exact .tup _ _ _ h1 (fun i hi => ih i hi hm)

theorem Ext.om' {w w' : World} {own own' : Nat → Prop} {ω ω' : Nat → Option Nat} {nx nx' : Nat} (h : Ext w own ω nx w' own' ω' nx') (id b : Nat) (hi : id < nx) (hb : ω id = some b) : ω' id = some b := (h.om id hi).trans hb
theorem Rep.ext {w w' : World} {B : Nat → Prop} {own own' : Nat → Prop} {ω ω' : Nat → Option Nat} {nx nx' : Nat} {v : AV} {u : Value}
    (h : Rep w B own ω nx v u) (e : Ext w own ω nx w' own' ω' nx') : Rep w' B own' ω' nx' v u :=
  h.mono e.size (fun b hb hn hB => ⟨e.old b hb hn, fun ho => (e.owns b ho).elim hn (by omega), hB⟩) (fun id b hi hb => ⟨Nat.lt_of_lt_of_le hi e.nxle, (e.om id hi).trans hb⟩) e.row
theorem Rep.ext0 {w w' : World} {B : Nat → Prop} {own own' : Nat → Prop} {ω ω' : Nat → Option Nat} {nx nx' : Nat} {v : AV} {u : Value}
    (h : Rep w B own ω 0 v u) (e : Ext w own ω nx w' own' ω' nx') : Rep w' B own' ω' 0 v u :=
  h.mono e.size (fun b hb hn hB => ⟨e.old b hb hn, fun ho => (e.owns b ho).elim hn (by omega), hB⟩) (fun _ _ hi => absurd hi (Nat.not_lt_zero _)) e.row
theorem Rep.up {w : World} {B : Nat → Prop} {own : Nat → Prop} {ω : Nat → Option Nat} {nx nx' : Nat} {v : AV} {u : Value}
    (h : Rep w B own ω nx v u) (hn : nx ≤ nx') : Rep w B own ω nx' v u :=
  h.mono (Nat.le_refl _) (fun _ _ hn hB => ⟨rfl, hn, hB⟩) (fun _ _ hi hb => ⟨Nat.lt_of_lt_of_le hi hn, hb⟩) (fun _ _ h => h)

/-- Nothing of an own block is in it ('n': how deep it is looked into). -/
def AV.noRef : Nat → AV → Bool
  | 0, _ => false
  | _ + 1, .ptr _ _ => false
  | _ + 1, .sl _ _ _ _ _ => false
  | _ + 1, .yld _ => false
  | _ + 1, .mp _ => false
  | n + 1, .fn _ first cap => first.all (AV.noRef n) && cap.all (AV.noRef n)
  | n + 1, .iface _ v => AV.noRef n v
  | n + 1, .agg cs => cs.all (AV.noRef n)
  | n + 1, .tup cs => cs.all (AV.noRef n)
  | _ + 1, _ => true

theorem Rep.down {w : World} {B : Nat → Prop} {own : Nat → Prop} {ω : Nat → Option Nat} {nx : Nat} {v : AV} {u : Value}
    (h : Rep w B own ω nx v u) : ∀ {d : Nat}, v.noRef d = true → ∀ nx', Rep w B own ω nx' v u := by
  induction h with
  | any => intro _ _ _; exact .any _ _
  | bool => intro _ _ _; exact .bool _ _
  | int => intro _ _ _; exact .int _ _ _
  | str => intro _ _ _; exact .str _ _
  | nilp => intro _ _ _; exact .nilp _
  | ptr => intro d hd; cases d <;> simp [AV.noRef] at hd
  | iptr nx cells off b o vs hb hc hr _ => intro _ _ _; exact .iptr _ _ _ b o vs hb hc hr
  | nils => intro _ _ _; exact .nils _
  | lst nx cells n cap b o vs hb hn hc hr _ => intro _ _ _; exact .lst _ _ _ _ b o vs hb hn hc hr
  | lstn => intro _ _ _; exact .lstn _ _ _
  | es nx a => intro _ _ _; exact .es _ _
  | ns nx p c => intro _ _ _; exact .ns _ _ _
  | sl => intro d hd; cases d <;> simp [AV.noRef] at hd
  | sla => intro d hd; cases d <;> simp [AV.noRef] at hd
  | yld => intro d hd; cases d <;> simp [AV.noRef] at hd
  | mp => intro d hd; cases d <;> simp [AV.noRef] at hd
  | fn nx f first cap fs cs h1 h2 _ _ ih1 ih2 =>
    intro d hd nx'
    cases d with
    | zero => simp [AV.noRef] at hd
    | succ d =>
      simp only [AV.noRef, Bool.and_eq_true, List.all_eq_true] at hd
      exact .fn _ _ _ _ _ _ h1 h2 (fun i hi => ih1 i hi (hd.1 _ (List.getElem_mem hi)) nx') (fun i hi => ih2 i hi (hd.2 _ (List.getElem_mem hi)) nx')
  | nilfn => intro _ _ _; exact .nilfn _
  | iface nx t v u _ ih =>
    intro d hd nx'
    cases d with
    | zero => simp [AV.noRef] at hd
    | succ d => exact .iface _ _ _ _ (ih (by simpa [AV.noRef] using hd) nx')
  | niliface => intro _ _ _; exact .niliface _
  | agg nx cs vs h1 _ ih =>
    intro d hd nx'
    cases d with
    | zero => simp [AV.noRef] at hd
    | succ d =>
      simp only [AV.noRef, List.all_eq_true] at hd
      exact .agg _ _ _ h1 (fun i hi => ih i hi (hd _ (List.getElem_mem hi)) nx')
  | tup nx cs vs h1 _ ih =>
    intro d hd nx'
    cases d with
    | zero => simp [AV.noRef] at hd
    | succ d =>
      simp only [AV.noRef, List.all_eq_true] at hd
      exact .tup _ _ _ h1 (fun i hi => ih i hi (hd _ (List.getElem_mem hi)) nx')

/-- A value of one cell that a text names, seen abstractly. -/
def ofS : Value → AV
  | .bool b => .bool b
  | .int k n => .int k n
  | .string s => .str s
  | .pointer none => .nilp
  | .slice none 0 0 => .nils
  | .nilFunc => .nilfn
  | .nilIface => .niliface
  | _ => .any
def ofV : Value → AV
  | .agg cs => .agg (cs.toList.map ofS)
  | .tuple vs => .tup (vs.toList.map ofS)
  | v => ofS v
theorem rep_ofS (w : World) (B : Nat → Prop) (own : Nat → Prop) (ω : Nat → Option Nat) (nx : Nat) (v : Value) : Rep w B own ω nx (ofS v) v := by
  unfold ofS
  split <;> first | exact .bool _ _ | exact .int _ _ _ | exact .str _ _ | exact .nilp _ | exact .nils _ | exact .nilfn _ | exact .niliface _ | exact .any _ _
theorem rep_ofV (w : World) (B : Nat → Prop) (own : Nat → Prop) (ω : Nat → Option Nat) (nx : Nat) (v : Value) : Rep w B own ω nx (ofV v) v := by
  unfold ofV
  split
  · rename_i cs
    refine .agg _ _ _ (by simp) (fun i hi => ?_)
    have hi' : i < cs.size := by simpa using hi
    simp only [List.getElem_map, Array.getElem_toList, Array.getD_eq_getD_getElem?, Array.getElem?_eq_getElem hi', Option.getD_some]
    exact rep_ofS _ _ _ _ _ _
  · rename_i cs
    refine .tup _ _ _ (by simp) (fun i hi => ?_)
    have hi' : i < cs.size := by simpa using hi
    simp only [List.getElem_map, Array.getElem_toList, Array.getD_eq_getD_getElem?, Array.getElem?_eq_getElem hi', Option.getD_some]
    exact rep_ofS _ _ _ _ _ _
  · exact rep_ofS _ _ _ _ _ _

/-- An own block is as the abstract one says. -/
def HRel (w : World) (B : Nat → Prop) (own : Nat → Prop) (ω : Nat → Option Nat) (nx : Nat) (h : Heap) : Prop :=
  ∀ id hb, hget h id = some hb → id < nx ∧
    ∃ b arr, ω id = some b ∧ own b ∧ w.heap[b]? = some (.cells arr hb.elem (0, 0)) ∧ hb.cells.length ≤ arr.size ∧
      ∀ i (hi : i < hb.cells.length), Rep w B own ω (cond hb.pure 0 nx) hb.cells[i] (arr.getD i undef)

/-- The package-level variables that a run reads hold what 'G' says. -/
def GOk (G : Nat → Option (List AV)) (w : World) : Prop :=
  ∀ g cells, G g = some cells → g < w.heap.size ∧ ∃ vs : Nat → Value, (∀ i, i < cells.length → w.cell? ⟨g, i, none⟩ = some (vs i)) ∧
    ∀ i (h : i < cells.length) w' B own ω nx, Rep w' B own ω nx cells[i] (vs i)

/-- How a piece of code ends. -/
inductive Ex where
  | normal
  | exit (id : Nat)
  | goto (l : Nat)
  | ret
  | panic (v : AV)
/-- What belongs to loops over functions: the block for deferred calls of their rounds; a loop (its state, 0: ready, 1: in a round, 2: left; by which jump; the activation's temporaries). -/
inductive LB where
  | dfb
  | lop (state : Nat) (pend : Option Ex) (tmps : List AV) (params : List Nat) (assign body : Code) (d : Nat)
  | obj (o : Obj)
abbrev Loops := List (Nat × LB)
def lpget : Loops → Nat → Option LB
  | [], _ => none
  | p :: r, id => cond (Nat.beq p.1 id) (some p.2) (lpget r id)
def lpset : Loops → Nat → LB → Loops
  | [], _, _ => []
  | p :: r, id, x => cond (Nat.beq p.1 id) ((p.1, x) :: r) (p :: lpset r id x)
def lpdel : Loops → Nat → Loops
  | [], _ => []
  | p :: r, id => cond (Nat.beq p.1 id) (lpdel r id) (p :: lpdel r id)

/-- The memory of a run: its own blocks, the number of the next one, its loops over functions. -/
structure Mem where
  heap : Heap
  nx : Nat
  lp : Loops
/-- A tree of conditions whose leaves are a value and a memory. -/
inductive TrM where
  | leaf (v : AV) (m : Mem)
  | bad
  | br (b : Bool) (x y : TrM)
noncomputable def TrM.ev {Ω : Type} (t : TrM) (k : AV → Mem → Ω) (z : Ω) : Ω := TrM.rec (motive := fun _ => Ω) k z (fun b _ _ x y => cond b x y) t
theorem TrM.ev_leaf {Ω : Type} (v : AV) (m : Mem) (k : AV → Mem → Ω) (z : Ω) : (TrM.leaf v m).ev k z = k v m := rfl
theorem TrM.ev_bad {Ω : Type} (k : AV → Mem → Ω) (z : Ω) : TrM.bad.ev k z = z := rfl
theorem TrM.ev_br {Ω : Type} (b : Bool) (x y : TrM) (k : AV → Mem → Ω) (z : Ω) : (TrM.br b x y).ev k z = cond b (x.ev k z) (y.ev k z) := rfl
theorem TrM.ev_nat {Ω Ω' : Type} (f : Ω → Ω') (k : AV → Mem → Ω) (z : Ω) : ∀ t : TrM, f (t.ev k z) = t.ev (fun v m => f (k v m)) (f z)
  | .leaf v m => rfl
  | .bad => rfl
  | .br b x y => by
    rw [TrM.ev_br, TrM.ev_br, ← TrM.ev_nat f k z x, ← TrM.ev_nat f k z y]
    cases b <;> rfl
end Go.Bas
