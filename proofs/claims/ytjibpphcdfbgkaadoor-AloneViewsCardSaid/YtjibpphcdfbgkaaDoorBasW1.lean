/- The engine, part A: abstract values and heaps, how they stand for the model's, and how that relation; The engine, part B: what each operation does to abstract values and own blocks, in the style of cont; The engine, part C: the operations of part B are the model's; The engine, part D: operations that yield values of numbers, addresses and parts. -/
import Derived.WalkKit
import Derived.WalkSpells
import Derived.WalkLawsBesides
import Derived.ProofKit
section
namespace Go.Bas
open Go.RowKit

/-- An abstract value. 'ptr', 'sl' lead into the run's own blocks; 'iptr', 'lst' into memory that nobody writes. -/
inductive AV where
  | any
  | bool (b : Bool)
  | int (k : IntKind) (n : Int)
  | str (s : ByteArray)
  | nilp
  | ptr (id off : Nat)
  | iptr (cells : List AV) (off : Nat)
  | nils
  | es
  | ns
  | lst (cells : List AV) (n : Nat)
  | sl (id off n sz : Nat) (app : Bool)
  | fn (f : Fn) (first cap : List AV)
  | yld (id : Nat)
  | mp (id : Nat)
  | nilfn
  | iface (t : TypeId) (v : AV)
  | niliface
  | agg (cs : List AV)
  | tup (vs : List AV)
  deriving Inhabited

def AV.isB : AV → Bool | .bool _ => true | _ => false
def AV.toB : AV → Bool | .bool b => b | _ => false
def kindEq : IntKind → IntKind → Bool
  | .i8, .i8 | .i16, .i16 | .i32, .i32 | .i64, .i64 | .u8, .u8 | .u16, .u16 | .u32, .u32 | .u64, .u64 => true
  | _, _ => false
theorem kindEq_eq {a b : IntKind} (h : kindEq a b = true) : a = b := by
  cases a <;> cases b <;> first | rfl | exact absurd h (by decide)
def AV.isI (k : IntKind) : AV → Bool | .int k' _ => kindEq k' k | _ => false
def AV.toI : AV → Int | .int _ n => n | _ => 0
def AV.isL : AV → Bool | .lst _ _ => true | _ => false
def AV.lc : AV → List AV | .lst c _ => c | _ => []
def AV.ln : AV → Nat | .lst _ n => n | _ => 0

theorem AV.of_isB {v : AV} (h : v.isB = true) : v = .bool v.toB := by cases v <;> first | rfl | cases h
theorem AV.of_isI {k : IntKind} {v : AV} (h : v.isI k = true) : v = .int k v.toI := by
  cases v <;> first | (rw [AV.isI] at h; rw [kindEq_eq h]; rfl) | cases h
/-- A block of the run's own: its cells asv far asv they are known; 'pure': none of them leads into an own block. -/
structure HB where
  cells : List AV
  elem : TypeId
  pure : Bool
abbrev Heap := List (Nat × HB)
noncomputable def hget (h : Heap) (id : Nat) : Option HB := List.rec (motive := fun _ => Option HB) none (fun p _ ih => cond (Nat.beq p.1 id) (some p.2) ih) h
theorem hget_nil (id : Nat) : hget [] id = none := rfl
theorem hget_cons (i : Nat) (b : HB) (r : Heap) (id : Nat) : hget ((i, b) :: r) id = cond (Nat.beq i id) (some b) (hget r id) := rfl
/-- A list's element, and a list with one set: reckoned by the recursor. -/
noncomputable def lget (l : List AV) (n : Nat) : AV := List.rec (motive := fun _ => Nat → AV) (fun _ => .any) (fun a _ ih n => Nat.rec (motive := fun _ => AV) a (fun m _ => ih m) n) l n
noncomputable def lset (l : List AV) (n : Nat) (v : AV) : List AV := List.rec (motive := fun _ => Nat → List AV) (fun _ => []) (fun a r ih n => Nat.rec (motive := fun _ => List AV) (v :: r) (fun m _ => a :: ih m) n) l n
theorem lget_eq : ∀ (l : List AV) (n : Nat), lget l n = l.getD n .any
  | [], n => by cases n <;> rfl
  | a :: r, 0 => rfl
  | a :: r, n + 1 => by show lget r n = _; rw [lget_eq r n]; rfl
theorem lset_eq : ∀ (l : List AV) (n : Nat) (v : AV), lset l n v = l.set n v
  | [], n, v => by cases n <;> rfl
  | a :: r, 0, v => rfl
  | a :: r, n + 1, v => by show a :: lset r n v = _; rw [lset_eq r n]; rfl
def hset : Heap → Nat → HB → Heap
  | [], _, _ => []
  | (i, b) :: r, id, x => cond (Nat.beq i id) ((i, x) :: r) ((i, b) :: hset r id x)
def hdel : Heap → Nat → Heap
  | [], _ => []
  | (i, b) :: r, id => cond (Nat.beq i id) (hdel r id) ((i, b) :: hdel r id)

theorem beq_iff (a b : Nat) : Nat.beq a b = true ↔ a = b := Nat.beq_eq ▸ Iff.rfl
theorem hget_hset (h : Heap) (id j : Nat) (x : HB) : hget (hset h id x) j = if j = id then (hget h id).map (fun _ => x) else hget h j := by
  induction h with
  | nil => simp [hset, hget_nil]
  | cons a r ih =>
    obtain ⟨i, b⟩ := a
    simp only [hset]
    cases hi : Nat.beq i id with
    | true =>
      have hi' := (beq_iff i id).1 hi
      subst hi'
      simp only [cond_true, hget_cons]
      by_cases hj : j = i
      · subst hj; simp
      · have : Nat.beq i j = false := by
          cases h : Nat.beq i j with
          | false => rfl
          | true => exact absurd ((beq_iff i j).1 h).symm hj
        simp [this, hj]
    | false =>
      simp only [cond_false, hget_cons]
      cases hj : Nat.beq i j with
      | true =>
        have hj' := (beq_iff i j).1 hj
        subst hj'
        have hne : ¬ i = id := fun e => by subst e; rw [hi] at hj; cases hj
        simp [hne]
      | false =>
        simp only [cond_false, ih, hi]
theorem hget_hdel (h : Heap) (id j : Nat) : hget (hdel h id) j = if j = id then none else hget h j := by
  induction h with
  | nil => simp [hdel, hget_nil]
  | cons a r ih =>
    obtain ⟨i, b⟩ := a
    simp only [hdel]
    cases hi : Nat.beq i id with
    | true =>
      have hi' := (beq_iff i id).1 hi
      subst hi'
      simp only [cond_true, ih, hget_cons]
      by_cases hj : j = i
      · simp [hj]
      · have : Nat.beq i j = false := by
          cases h : Nat.beq i j with
          | false => rfl
          | true => exact absurd ((beq_iff i j).1 h).symm hj
        simp [this, hj]
    | false =>
      simp only [cond_false, hget_cons, ih]
      cases hj : Nat.beq i j with
      | true =>
        have hj' := (beq_iff i j).1 hj
        subst hj'
        have hne : ¬ i = id := fun e => by subst e; rw [hi] at hj; cases hj
        simp [hne]
      | false => simp

/-- What an own block's size is in the world. -/
def rowSize (w : World) (b : Nat) : Option Nat :=
  match w.heap[b]? with
  | some (.cells c _ _) => some c.size
  | _ => none

/-- A value of the model, seen asv an abstract one: 'B': blocks that it does not lead into; 'own': the run's own blocks; 'ω': where an own block lies. -/
inductive Rep (w : World) (B : Nat → Prop) (own : Nat → Prop) (ω : Nat → Option Nat) : Nat → AV → Value → Prop
  | any (nx v) : Rep w B own ω nx .any v
  | bool (nx b) : Rep w B own ω nx (.bool b) (.bool b)
  | int (nx k n) : Rep w B own ω nx (.int k n) (.int k n)
  | str (nx s) : Rep w B own ω nx (.str s) (.string s)
  | nilp (nx) : Rep w B own ω nx .nilp (.pointer none)
  | ptr (nx id off b) : id < nx → ω id = some b → Rep w B own ω nx (.ptr id off) (.pointer (some ⟨b, off, none⟩))
  | iptr (nx) (cells : List AV) (off b o : Nat) (vs : Nat → Value) : (cells ≠ [] → b < w.heap.size ∧ ¬ own b ∧ ¬ B b) →
      (∀ i, i < cells.length → w.cell? ⟨b, o + i, none⟩ = some (vs i)) → (∀ i (h : i < cells.length), Rep w B own ω 0 cells[i] (vs i)) →
      Rep w B own ω nx (.iptr cells off) (.pointer (some ⟨b, o + off, none⟩))
  | nils (nx) : Rep w B own ω nx .nils (.slice none 0 0)
  | es (nx a) : Rep w B own ω nx .es (.slice a 0 0)
  | ns (nx p c) : Rep w B own ω nx .ns (.slice (some p) 0 c)
  | lst (nx) (cells : List AV) (n cap b o : Nat) (vs : Nat → Value) : (cells ≠ [] → b < w.heap.size ∧ ¬ own b ∧ ¬ B b) → n ≤ cap →
      (∀ i, i < cells.length → w.cell? ⟨b, o + i, none⟩ = some (vs i)) → (∀ i (h : i < cells.length), Rep w B own ω 0 cells[i] (vs i)) →
      Rep w B own ω nx (.lst cells n) (.slice (some ⟨b, o, none⟩) n cap)
  | lstn (nx a c) : Rep w B own ω nx (.lst [] 0) (.slice a 0 c)
  | sl (nx id off n sz cap b) : id < nx → ω id = some b → n ≤ cap → Rep w B own ω nx (.sl id off n sz false) (.slice (some ⟨b, off, none⟩) n cap)
  | sla (nx id n sz cap b) : id < nx → ω id = some b → n ≤ cap → cap ≤ maxLen → rowSize w b = some (cap * sz) →
      Rep w B own ω nx (.sl id 0 n sz true) (.slice (some ⟨b, 0, none⟩) n cap)
  | yld (nx id l) : id < nx → ω id = some l → Rep w B own ω nx (.yld id) (.func (.yield l) #[] #[])
  | mp (nx id l) : id < nx → ω id = some l → Rep w B own ω nx (.mp id) (.map (some l))
  | fn (nx f) (first cap : List AV) (fs cs : Array Value) : first.length = fs.size → cap.length = cs.size →
      (∀ i (h : i < first.length), Rep w B own ω nx first[i] (fs.getD i undef)) → (∀ i (h : i < cap.length), Rep w B own ω nx cap[i] (cs.getD i undef)) →
      Rep w B own ω nx (.fn f first cap) (.func f fs cs)
  | nilfn (nx) : Rep w B own ω nx .nilfn .nilFunc
  | iface (nx t v u) : Rep w B own ω nx v u → Rep w B own ω nx (.iface t v) (.iface t u)
  | niliface (nx) : Rep w B own ω nx .niliface .nilIface
  | agg (nx) (cs : List AV) (vs : Array Value) : cs.length = vs.size → (∀ i (h : i < cs.length), Rep w B own ω nx cs[i] (vs.getD i undef)) → Rep w B own ω nx (.agg cs) (.agg vs)
  | tup (nx) (cs : List AV) (vs : Array Value) : cs.length = vs.size → (∀ i (h : i < cs.length), Rep w B own ω nx cs[i] (vs.getD i undef)) → Rep w B own ω nx (.tup cs) (.tuple vs)

/-- What a step leaves asv it was. -/
structure Ext (w : World) (own : Nat → Prop) (ω : Nat → Option Nat) (nx : Nat) (w' : World) (own' : Nat → Prop) (ω' : Nat → Option Nat) (nx' : Nat) : Prop where
  os : w'.os = w.os
  tape : w'.tape = w.tape
  output : w'.output = w.output
  size : w.heap.size ≤ w'.heap.size
  old : ∀ b, b < w.heap.size → ¬ own b → w'.heap[b]? = w.heap[b]?
  owns : ∀ b, own' b → own b ∨ w.heap.size ≤ b
  nxle : nx ≤ nx'
  om : ∀ id, id < nx → ω' id = ω id
  row : ∀ b n, rowSize w b = some n → rowSize w' b = some n

theorem Ext.refl (w : World) (own : Nat → Prop) (ω : Nat → Option Nat) (nx : Nat) : Ext w own ω nx w own ω nx :=
  ⟨rfl, rfl, rfl, Nat.le_refl _, fun _ _ _ => rfl, fun _ h => .inl h, Nat.le_refl _, fun _ _ => rfl, fun _ _ h => h⟩
theorem Ext.trans {w w1 w2 : World} {own own1 own2 : Nat → Prop} {ω ω1 ω2 : Nat → Option Nat} {nx nx1 nx2 : Nat}
    (h : Ext w own ω nx w1 own1 ω1 nx1) (h' : Ext w1 own1 ω1 nx1 w2 own2 ω2 nx2) : Ext w own ω nx w2 own2 ω2 nx2 where
  os := h'.os.trans h.os
  tape := h'.tape.trans h.tape
  output := h'.output.trans h.output
  size := Nat.le_trans h.size h'.size
  old b hb hn := (h'.old b (Nat.lt_of_lt_of_le hb h.size) (fun ho => (h.owns b ho).elim hn (by omega))).trans (h.old b hb hn)
  owns b hb := (h'.owns b hb).elim (h.owns b) (fun hl => .inr (Nat.le_trans h.size hl))
  nxle := Nat.le_trans h.nxle h'.nxle
  om id hi := (h'.om id (Nat.lt_of_lt_of_le hi h.nxle)).trans (h.om id hi)
  row b n hr := h'.row b n (h.row b n hr)

theorem Rep.mono {w w' : World} {B B' : Nat → Prop} {own own' : Nat → Prop} {ω ω' : Nat → Option Nat} {nx nx' : Nat} {v : AV} {u : Value}
    (h : Rep w B own ω nx v u) (hs : w.heap.size ≤ w'.heap.size) (ho : ∀ b, b < w.heap.size → ¬ own b → ¬ B b → w'.heap[b]? = w.heap[b]? ∧ ¬ own' b ∧ ¬ B' b)
    (hm : ∀ id b, id < nx → ω id = some b → id < nx' ∧ ω' id = some b) (hr : ∀ b n, rowSize w b = some n → rowSize w' b = some n) : Rep w' B' own' ω' nx' v u := by
  induction h generalizing nx' with
  | any => exact .any _ _
  | bool => exact .bool _ _
  | int => exact .int _ _ _
  | str => exact .str _ _
  | nilp => exact .nilp _
  | ptr nx id off b hi hw => exact .ptr _ _ _ _ (hm id b hi hw).1 (hm id b hi hw).2
  | yld nx id l hi hw => exact .yld _ _ _ (hm id l hi hw).1 (hm id l hi hw).2
  | mp nx id l hi hw => exact .mp _ _ _ (hm id l hi hw).1 (hm id l hi hw).2
  | iptr nx cells off b o vs hb hc _ ih =>
    refine .iptr _ _ _ b o vs (fun hne => ?_) (fun i hi => ?_) (fun i hi => ih i hi (fun _ _ h => absurd h (Nat.not_lt_zero _)))
    · exact ⟨Nat.lt_of_lt_of_le (hb hne).1 hs, (ho b (hb hne).1 (hb hne).2.1 (hb hne).2.2).2⟩
    · have hne : cells ≠ [] := fun e => by subst e; exact absurd hi (Nat.not_lt_zero _)
      rw [← hc i hi]
      exact World.cell?_of_block (ho b (hb hne).1 (hb hne).2.1 (hb hne).2.2).1
  | nils => exact .nils _
  | es nx a => exact .es _ _
  | ns nx p c => exact .ns _ _ _
  | lst nx cells n cap b o vs hb hn hc _ ih =>
    refine .lst _ _ _ _ b o vs (fun hne => ?_) hn (fun i hi => ?_) (fun i hi => ih i hi (fun _ _ h => absurd h (Nat.not_lt_zero _)))
    · exact ⟨Nat.lt_of_lt_of_le (hb hne).1 hs, (ho b (hb hne).1 (hb hne).2.1 (hb hne).2.2).2⟩
    · have hne : cells ≠ [] := fun e => by subst e; exact absurd hi (Nat.not_lt_zero _)
      rw [← hc i hi]
      exact World.cell?_of_block (ho b (hb hne).1 (hb hne).2.1 (hb hne).2.2).1
  | lstn => exact .lstn _ _ _
  | sl nx id off n sz cap b hi hw hn => exact .sl _ _ _ _ _ _ _ (hm id b hi hw).1 (hm id b hi hw).2 hn
  | sla nx id n sz cap b hi hw hn hcm hrow => exact .sla _ _ _ _ _ _ (hm id b hi hw).1 (hm id b hi hw).2 hn hcm (hr _ _ hrow)
  | fn nx f first cap fs cs h1 h2 _ _ ih1 ih2 => exact .fn _ _ _ _ _ _ h1 h2 (fun i hi => ih1 i hi hm) (fun i hi => ih2 i hi hm)
  | nilfn => exact .nilfn _
  | iface nx t v u _ ih => exact .iface _ _ _ _ (ih hm)
  | niliface => exact .niliface _
  | agg nx cs vs h1 _ ih => exact .agg _ _ _ h1 (fun i hi => ih i hi hm)
  | tup nx cs vs h1 _ ih => exact .tup _ _ _ h1 (fun i hi => ih i hi hm)

theorem Ext.om' {w w' : World} {own own' : Nat → Prop} {ω ω' : Nat → Option Nat} {nx nx' : Nat} (h : Ext w own ω nx w' own' ω' nx') (id b : Nat) (hi : id < nx) (hb : ω id = some b) : ω' id = some b := (h.om id hi).trans hb
theorem Rep.ext {w w' : World} {B : Nat → Prop} {own own' : Nat → Prop} {ω ω' : Nat → Option Nat} {nx nx' : Nat} {v : AV} {u : Value}
    (h : Rep w B own ω nx v u) (e : Ext w own ω nx w' own' ω' nx') : Rep w' B own' ω' nx' v u :=
  h.mono e.size (fun b hb hn hB => ⟨e.old b hb hn, fun ho => (e.owns b ho).elim hn (by omega), hB⟩) (fun id b hi hb => ⟨Nat.lt_of_lt_of_le hi e.nxle, (e.om id hi).trans hb⟩) e.row
theorem Rep.ext0 {w w' : World} {B : Nat → Prop} {own own' : Nat → Prop} {ω ω' : Nat → Option Nat} {nx nx' : Nat} {v : AV} {u : Value}
    (h : Rep w B own ω 0 v u) (e : Ext w own ω nx w' own' ω' nx') : Rep w' B own' ω' 0 v u :=
  h.mono e.size (fun b hb hn hB => ⟨e.old b hb hn, fun ho => (e.owns b ho).elim hn (by omega), hB⟩) (fun _ _ hi => absurd hi (Nat.not_lt_zero _)) e.row
theorem Rep.up {w : World} {B : Nat → Prop} {own : Nat → Prop} {ω : Nat → Option Nat} {nx nx' : Nat} {v : AV} {u : Value}
    (h : Rep w B own ω nx v u) (hn : nx ≤ nx') : Rep w B own ω nx' v u :=
  h.mono (Nat.le_refl _) (fun _ _ hn hB => ⟨rfl, hn, hB⟩) (fun _ _ hi hb => ⟨Nat.lt_of_lt_of_le hi hn, hb⟩) (fun _ _ h => h)

/-- Nothing of an own block is in it ('n': how deep it is looked into). -/
def AV.noRef : Nat → AV → Bool
  | 0, _ => false
  | _ + 1, .ptr _ _ => false
  | _ + 1, .sl _ _ _ _ _ => false
  | _ + 1, .yld _ => false
  | _ + 1, .mp _ => false
  | n + 1, .fn _ first cap => first.all (AV.noRef n) && cap.all (AV.noRef n)
  | n + 1, .iface _ v => AV.noRef n v
  | n + 1, .agg cs => cs.all (AV.noRef n)
  | n + 1, .tup cs => cs.all (AV.noRef n)
  | _ + 1, _ => true

theorem Rep.down {w : World} {B : Nat → Prop} {own : Nat → Prop} {ω : Nat → Option Nat} {nx : Nat} {v : AV} {u : Value}
    (h : Rep w B own ω nx v u) : ∀ {d : Nat}, v.noRef d = true → ∀ nx', Rep w B own ω nx' v u := by
  induction h with
  | any => intro _ _ _; exact .any _ _
  | bool => intro _ _ _; exact .bool _ _
  | int => intro _ _ _; exact .int _ _ _
  | str => intro _ _ _; exact .str _ _
  | nilp => intro _ _ _; exact .nilp _
  | ptr => intro d hd; cases d <;> simp [AV.noRef] at hd
  | iptr nx cells off b o vs hb hc hr _ => intro _ _ _; exact .iptr _ _ _ b o vs hb hc hr
  | nils => intro _ _ _; exact .nils _
  | lst nx cells n cap b o vs hb hn hc hr _ => intro _ _ _; exact .lst _ _ _ _ b o vs hb hn hc hr
  | lstn => intro _ _ _; exact .lstn _ _ _
  | es nx a => intro _ _ _; exact .es _ _
  | ns nx p c => intro _ _ _; exact .ns _ _ _
  | sl => intro d hd; cases d <;> simp [AV.noRef] at hd
  | sla => intro d hd; cases d <;> simp [AV.noRef] at hd
  | yld => intro d hd; cases d <;> simp [AV.noRef] at hd
  | mp => intro d hd; cases d <;> simp [AV.noRef] at hd
  | fn nx f first cap fs cs h1 h2 _ _ ih1 ih2 =>
    intro d hd nx'
    cases d with
    | zero => simp [AV.noRef] at hd
    | succ d =>
      simp only [AV.noRef, Bool.and_eq_true, List.all_eq_true] at hd
      exact .fn _ _ _ _ _ _ h1 h2 (fun i hi => ih1 i hi (hd.1 _ (List.getElem_mem hi)) nx') (fun i hi => ih2 i hi (hd.2 _ (List.getElem_mem hi)) nx')
  | nilfn => intro _ _ _; exact .nilfn _
  | iface nx t v u _ ih =>
    intro d hd nx'
    cases d with
    | zero => simp [AV.noRef] at hd
    | succ d => exact .iface _ _ _ _ (ih (by simpa [AV.noRef] using hd) nx')
  | niliface => intro _ _ _; exact .niliface _
  | agg nx cs vs h1 _ ih =>
    intro d hd nx'
    cases d with
    | zero => simp [AV.noRef] at hd
    | succ d =>
      simp only [AV.noRef, List.all_eq_true] at hd
      exact .agg _ _ _ h1 (fun i hi => ih i hi (hd _ (List.getElem_mem hi)) nx')
  | tup nx cs vs h1 _ ih =>
    intro d hd nx'
    cases d with
    | zero => simp [AV.noRef] at hd
    | succ d =>
      simp only [AV.noRef, List.all_eq_true] at hd
      exact .tup _ _ _ h1 (fun i hi => ih i hi (hd _ (List.getElem_mem hi)) nx')

/-- A value of one cell that a text names, seen abstractly. -/
def ofS : Value → AV
  | .bool b => .bool b
  | .int k n => .int k n
  | .string s => .str s
  | .pointer none => .nilp
  | .slice none 0 0 => .nils
  | .nilFunc => .nilfn
  | .nilIface => .niliface
  | _ => .any
def ofV : Value → AV
  | .agg cs => .agg (cs.toList.map ofS)
  | .tuple vs => .tup (vs.toList.map ofS)
  | v => ofS v
theorem rep_ofS (w : World) (B : Nat → Prop) (own : Nat → Prop) (ω : Nat → Option Nat) (nx : Nat) (v : Value) : Rep w B own ω nx (ofS v) v := by
  unfold ofS
  split <;> first | exact .bool _ _ | exact .int _ _ _ | exact .str _ _ | exact .nilp _ | exact .nils _ | exact .nilfn _ | exact .niliface _ | exact .any _ _
theorem rep_ofV (w : World) (B : Nat → Prop) (own : Nat → Prop) (ω : Nat → Option Nat) (nx : Nat) (v : Value) : Rep w B own ω nx (ofV v) v := by
  unfold ofV
  split
  · rename_i cs
    refine .agg _ _ _ (by simp) (fun i hi => ?_)
    have hi' : i < cs.size := by simpa using hi
    simp only [List.getElem_map, Array.getElem_toList, Array.getD_eq_getD_getElem?, Array.getElem?_eq_getElem hi', Option.getD_some]
    exact rep_ofS _ _ _ _ _ _
  · rename_i cs
    refine .tup _ _ _ (by simp) (fun i hi => ?_)
    have hi' : i < cs.size := by simpa using hi
    simp only [List.getElem_map, Array.getElem_toList, Array.getD_eq_getD_getElem?, Array.getElem?_eq_getElem hi', Option.getD_some]
    exact rep_ofS _ _ _ _ _ _
  · exact rep_ofS _ _ _ _ _ _

/-- An own block is asv the abstract one says. -/
def HRel (w : World) (B : Nat → Prop) (own : Nat → Prop) (ω : Nat → Option Nat) (nx : Nat) (h : Heap) : Prop :=
  ∀ id hb, hget h id = some hb → id < nx ∧
    ∃ b arr, ω id = some b ∧ own b ∧ w.heap[b]? = some (.cells arr hb.elem (0, 0)) ∧ hb.cells.length ≤ arr.size ∧
      ∀ i (hi : i < hb.cells.length), Rep w B own ω (cond hb.pure 0 nx) hb.cells[i] (arr.getD i undef)

/-- The package-level variables that a run reads hold what 'G' says. -/
def GOk (G : Nat → Option (List AV)) (w : World) : Prop :=
  ∀ g cells, G g = some cells → g < w.heap.size ∧ ∃ vs : Nat → Value, (∀ i, i < cells.length → w.cell? ⟨g, i, none⟩ = some (vs i)) ∧
    ∀ i (h : i < cells.length) w' B own ω nx, Rep w' B own ω nx cells[i] (vs i)

/-- How a piece of code ends. -/
inductive Ex where
  | normal
  | exit (id : Nat)
  | goto (l : Nat)
  | ret
  | panic (v : AV)
/-- What belongs to loops over functions: the block for deferred calls of their rounds; a loop (its state, 0: ready, 1: in a round, 2: left; by which jump; the activation's temporaries). -/
inductive LB where
  | dfb
  | lop (state : Nat) (pend : Option Ex) (tmps : List AV) (params : List Nat) (assign body : Code) (d : Nat)
  | obj (o : Obj)
abbrev Loops := List (Nat × LB)
def lpget : Loops → Nat → Option LB
  | [], _ => none
  | p :: r, id => cond (Nat.beq p.1 id) (some p.2) (lpget r id)
def lpset : Loops → Nat → LB → Loops
  | [], _, _ => []
  | p :: r, id, x => cond (Nat.beq p.1 id) ((p.1, x) :: r) (p :: lpset r id x)
def lpdel : Loops → Nat → Loops
  | [], _ => []
  | p :: r, id => cond (Nat.beq p.1 id) (lpdel r id) (p :: lpdel r id)

/-- The memory of a run: its own blocks, the number of the next one, its loops over functions. -/
structure Mem where
  heap : Heap
  nx : Nat
  lp : Loops
/-- A tree of conditions whose leaves are a value and a memory. -/
inductive TrM where
  | leaf (v : AV) (m : Mem)
  | bad
  | br (b : Bool) (x y : TrM)
noncomputable def TrM.ev {Ω : Type} (t : TrM) (k : AV → Mem → Ω) (z : Ω) : Ω := TrM.rec (motive := fun _ => Ω) k z (fun b _ _ x y => cond b x y) t
theorem TrM.ev_br {Ω : Type} (b : Bool) (x y : TrM) (k : AV → Mem → Ω) (z : Ω) : (TrM.br b x y).ev k z = cond b (x.ev k z) (y.ev k z) := rfl
theorem TrM.ev_nat {Ω Ω' : Type} (f : Ω → Ω') (k : AV → Mem → Ω) (z : Ω) : ∀ t : TrM, f (t.ev k z) = t.ev (fun v m => f (k v m)) (f z)
  | .leaf v m => rfl
  | .bad => rfl
  | .br b x y => by
    rw [TrM.ev_br, TrM.ev_br, ← TrM.ev_nat f k z x, ← TrM.ev_nat f k z y]
    cases b <;> rfl
end Go.Bas
end
section
namespace Go.Bas
open Go.RowKit

/-- What a run leans on: the program, what package-level variables hold, and what summarized functions answer. -/
structure Cfg where
  P : Program
  G : Nat → Option (List AV)
  S : FuncId → Option (List AV → Option (Bool × AV))
  Q : FuncId → Bool := fun _ => false
  X : FuncId → Option (List AV → Mem → TrM) := fun _ => none

inductive CK where
  | b
  | i (k : IntKind)
  | s
  | o
def ckV : Value → CK
  | .bool _ => .b
  | .int k _ => .i k
  | .slice _ _ _ => .s
  | _ => .o
def AV.isNils : AV → Bool | .nils => true | _ => false
def AV.isNs : AV → Bool | .ns => true | _ => false
def AV.isEs : AV → Bool | .es => true | _ => false

section
variable {Ω : Type}

/-- A cell's value in the form that its kind has. -/
def coerce1 (c : CK) (mode : Nat) (v : AV) (k : AV → Ω) (z : Ω) : Ω :=
  match c with
  | .b => cond v.isB (k (.bool v.toB)) z
  | .i kd => cond (v.isI kd) (k (.int kd v.toI)) z
  | .s => match mode with
    | 0 => cond v.isL (k (.lst v.lc v.ln)) (cond v.isNils (k .nils) (cond v.isNs (k .ns) (cond v.isEs (k .es) z)))
    | 1 => cond v.isL (k (.lst v.lc v.ln)) (cond v.isNils (k .nils) (cond v.isNs (k .ns) (cond v.isEs (k .es) z)))
    | _ => k v
  | .o => k v
noncomputable def loadsK (mode : Nat) (cells : List AV) : List CK → Nat → (List AV → Ω) → Ω → Ω
  | [], _, k, _ => k []
  | c :: cs, off, k, z => coerce1 c mode (lget cells off) (fun v => loadsK mode cells cs (off + 1) (fun vs => k (v :: vs)) z) z
noncomputable def lhead (l : List AV) : AV := List.rec (motive := fun _ => AV) .any (fun a _ _ => a) l
noncomputable def ltail (l : List AV) : List AV := List.rec (motive := fun _ => List AV) [] (fun _ r _ => r) l
noncomputable def loadsL (mode : Nat) : List CK → List AV → (List AV → Ω) → Ω → Ω
  | [], _, k, _ => k []
  | c :: cs, l, k, z => coerce1 c mode (lhead l) (fun v => loadsL mode cs (ltail l) (fun vs => k (v :: vs)) z) z
noncomputable def loadsX (mode : Nat) (cells : List AV) (ks : List CK) (off : Nat) (k : List AV → Ω) (z : Ω) : Ω := cond (Nat.ble ks.length 13) (loadsK mode cells ks off k z) (loadsL mode ks (cells.drop off) k z)
def aggD : TypeDesc → Bool
  | .struct _ => true
  | .array _ _ => true
  | _ => false
def kindsOf (i : TypeInfo) : List CK :=
  match i.zero with
  | some v => v.cells.toList.map ckV
  | none => []
noncomputable def loadK (P : Program) (t : TypeId) (mode : Nat) (cells : List AV) (off : Nat) (k : AV → Ω) (z : Ω) : Ω :=
  match P.info? t, P.underlying t with
  | some i, some d => cond (Nat.beq (kindsOf i).length i.size)
      (cond (aggD d) (cond (Nat.ble (off + i.size) cells.length) (loadsX mode cells (kindsOf i) off (fun vs => k (.agg vs)) z) z)
        (cond (Nat.ble (off + 1) cells.length) (match kindsOf i with
          | c :: _ => coerce1 c mode (lget cells off) k z
          | [] => z) z)) z
  | _, _ => z

def AV.cellsL : AV → Option (List AV)
  | .agg cs => some cs
  | .any => none
  | v => some [v]
def setMany : List AV → Nat → List AV → List AV
  | cells, _, [] => cells
  | cells, off, v :: r => setMany (cells.set off v) (off + 1) r
/-- The same at one go. -/
noncomputable def lsplice (cells : List AV) (off : Nat) (vs : List AV) : List AV := List.rec (motive := fun _ => Nat → List AV → List AV) (fun _ _ => []) (fun a r ih n vs => Nat.rec (motive := fun _ => List AV) (match vs with
  | [] => a :: r
  | v :: w => v :: ih 0 w) (fun m _ => a :: ih m vs) n) cells off vs
noncomputable def setAt (cells : List AV) (off : Nat) (vs : List AV) : List AV := match vs with
  | [] => cells
  | [v] => cells.set off v
  | v :: w :: r => lsplice cells off (v :: w :: r)

def zeroCells (P : Program) (t : TypeId) : Option (List AV) :=
  match P.info? t with
  | some i => match i.zero with
    | some v => cond (Nat.beq v.cells.size i.size) (some (v.cells.toList.map ofS)) none
    | none => none
  | none => none

/-- Parts laid into the cells of a literal. -/
noncomputable def fillK (place : Nat → Option (Nat × Nat)) : List AV → List (Nat × AV) → (List AV → Ω) → Ω → Ω
  | cells, [], k, _ => k cells
  | cells, (i, v) :: rest, k, z =>
    match place i, v.cellsL with
    | some (off, size), some vs => cond (Nat.beq vs.length size && Nat.ble (off + vs.length) cells.length) (fillK place (setAt cells off vs) rest k z) z
    | _, _ => z

def fieldPlaces (P : Program) (fs : Array Field) : Nat → Option (Nat × Nat) := fun j =>
  match fs[j]? with
  | some f => match P.info? f.type with
    | some i => some (f.offset, i.size)
    | none => none
  | none => none
def infosOk (P : Program) (fs : Array Field) : Bool := fs.toList.all fun f => (P.info? f.type).isSome

noncomputable def buildK (P : Program) (t : TypeId) (parts : List (Nat × AV)) (k : AV → Ω) (z : Ω) : Ω :=
  match zeroCells P t, P.underlying t with
  | some zs, some (.struct fs) => cond (infosOk P fs) (fillK (fieldPlaces P fs) zs parts (fun cs => k (.agg cs)) z) z
  | some zs, some (.array _ e) => match P.info? e with
    | some i => fillK (fun j => some (j * i.size, i.size)) zs parts (fun cs => k (.agg cs)) z
    | none => z
  | _, _ => z

/-- A value that shows itself only where the number is known: the kernel goes no further where it isn't. -/
def held (x y : Int) (a : Int) : Int := match x with
  | .ofNat _ => match y with
    | .ofNat _ => a
    | .negSucc _ => a
  | .negSucc _ => match y with
    | .ofNat _ => a
    | .negSucc _ => a
theorem held_eq (x y a : Int) : held x y a = a := by cases x <;> cases y <;> rfl
def iand (k : IntKind) (x y : Int) : Int := held x y (k.wrap ((BitVec.ofInt k.bits x &&& BitVec.ofInt k.bits y).toNat : Int))
def ior (k : IntKind) (x y : Int) : Int := held x y (k.wrap ((BitVec.ofInt k.bits x ||| BitVec.ofInt k.bits y).toNat : Int))
def ixor (k : IntKind) (x y : Int) : Int := held x y (k.wrap ((BitVec.ofInt k.bits x ^^^ BitVec.ofInt k.bits y).toNat : Int))
def iandNot (k : IntKind) (x y : Int) : Int := held x y (k.wrap ((BitVec.ofInt k.bits x &&& ~~~ BitVec.ofInt k.bits y).toNat : Int))
def ishl (k : IntKind) (x y : Int) : Int := k.wrap (x * 2 ^ (min y.toNat k.bits))
def ishr (k : IntKind) (x y : Int) : Int := x.fdiv (2 ^ (min y.toNat k.bits))

def ibinK (op : BinOp) (kd kd' : IntKind) (x y : Int) (k : AV → Ω) (z : Ω) : Ω :=
  match op with
  | .shl => cond (decide (y < 0)) z (k (.int kd (ishl kd x y)))
  | .shr => cond (decide (y < 0)) z (k (.int kd (ishr kd x y)))
  | .add => cond (kindEq kd kd') (k (.int kd (kd.wrap (x + y)))) z
  | .sub => cond (kindEq kd kd') (k (.int kd (kd.wrap (x - y)))) z
  | .mul => cond (kindEq kd kd') (k (.int kd (kd.wrap (x * y)))) z
  | .quo => cond (kindEq kd kd') (cond (decide (y = 0)) z (k (.int kd (kd.wrap (x.tdiv y))))) z
  | .rem => cond (kindEq kd kd') (cond (decide (y = 0)) z (k (.int kd (x.tmod y)))) z
  | .and => cond (kindEq kd kd') (k (.int kd (iand kd x y))) z
  | .or => cond (kindEq kd kd') (k (.int kd (ior kd x y))) z
  | .xor => cond (kindEq kd kd') (k (.int kd (ixor kd x y))) z
  | .andNot => cond (kindEq kd kd') (k (.int kd (iandNot kd x y))) z
  | .eql => cond (kindEq kd kd') (k (.bool (x == y))) z
  | .neq => cond (kindEq kd kd') (k (.bool (x != y))) z
  | .lss => cond (kindEq kd kd') (k (.bool (decide (x < y)))) z
  | .leq => cond (kindEq kd kd') (k (.bool (decide (x ≤ y)))) z
  | .gtr => cond (kindEq kd kd') (k (.bool (decide (x > y)))) z
  | .geq => cond (kindEq kd kd') (k (.bool (decide (x ≥ y)))) z

/-- The fields of a struct of numbers and bools, one behind the other. -/
def flatFs (P : Program) (g : TypeId → Option (List CK)) : List Field → List CK → Option (List CK)
  | [], ks => some ks
  | f :: r, ks => cond (Nat.beq f.offset ks.length && f.name != "_") (match g f.type, P.info? f.type with
    | some ms, some i => cond (Nat.beq i.size ms.length) (flatFs P g r (ks ++ ms)) none
    | _, _ => none) none
/-- A type of numbers and bools alone: the kinds of its cells. -/
def flatT (P : Program) : Nat → TypeId → Option (List CK)
  | 0, _ => none
  | d + 1, t =>
    match P.underlying t with
    | some .bool => some [.b]
    | some (.int k) => some [.i k]
    | some (.struct fs) => cond (P.stoodInHeld t) none (flatFs P (flatT P d) fs.toList [])
    | _ => none
def fit1 : CK → AV → AV → Bool
  | .b, .bool _, .bool _ => true
  | .i k, .int k1 _, .int k2 _ => kindEq k k1 && kindEq k k2
  | _, _, _ => false
def fitL : List CK → List AV → List AV → Bool
  | [], [], [] => true
  | k :: ks, a :: r, b :: s => fit1 k a b && fitL ks r s
  | _, _, _ => false
def eq1 : AV → AV → Bool
  | .int _ a, .int _ b => a == b
  | .bool a, .bool b => a == b
  | _, _ => false
def eqL : List AV → List AV → Bool
  | a :: r, b :: s => eq1 a b && eqL r s
  | _, _ => true

def eqopK (op : BinOp) (b : Bool) (k : AV → Ω) (z : Ω) : Ω :=
  match op with
  | .eql => k (.bool b)
  | .neq => k (.bool (!b))
  | _ => z
def isConstO : Operand → Bool
  | .const _ => true
  | _ => false
def binK (P : Program) (op : BinOp) (t : TypeId) (ox oy : Operand) (x y : AV) (k : AV → Ω) (z : Ω) : Ω :=
  match x, y with
  | .int kd a, .int kd' b => ibinK op kd kd' a b k z
  | .bool a, .bool b => match P.underlying t with
    | some .bool => eqopK op (a == b) k z
    | _ => z
  | .agg xs, .agg ys => match P.underlying t, flatT P 8 t with
    | some (.struct _), some ks => cond (fitL ks xs ys && !P.eqGuardType P.depth t) (eqopK op (eqL xs ys) k z) z
    | _, _ => z
  | .nilp, .nilp => match P.underlying t with
    | some (.pointer _) => eqopK op true k z
    | _ => z
  | .nilp, .ptr _ _ | .ptr _ _, .nilp => match P.underlying t with
    | some (.pointer _) => eqopK op false k z
    | _ => z
  | .nilp, .iptr _ _ | .iptr _ _, .nilp => match P.underlying t with
    | some (.pointer _) => eqopK op false k z
    | _ => z
  | .niliface, .niliface => match P.underlying t with
    | some (.interface _) => cond (isConstO ox || isConstO oy) (eqopK op true k z) z
    | _ => z
  | .niliface, .iface _ _ | .iface _ _, .niliface => match P.underlying t with
    | some (.interface _) => eqopK op false k z
    | _ => z
  | .nilfn, .nilfn => match P.underlying t with
    | some (.func _ _ _) => eqopK op true k z
    | _ => z
  | .nilfn, .fn _ _ _ | .fn _ _ _, .nilfn => match P.underlying t with
    | some (.func _ _ _) => eqopK op false k z
    | _ => z
  | .nils, .nils => match P.underlying t with
    | some (.slice _) => eqopK op true k z
    | _ => z
  | .nils, .sl _ _ _ _ _ | .sl _ _ _ _ _, .nils => match P.underlying t with
    | some (.slice _) => eqopK op false k z
    | _ => z
  | .nils, .lst (_ :: _) _ | .lst (_ :: _) _, .nils => match P.underlying t with
    | some (.slice _) => eqopK op false k z
    | _ => z
  | .nils, .ns | .ns, .nils => match P.underlying t with
    | some (.slice _) => eqopK op false k z
    | _ => z
  | _, _ => z

def unK (op : UnOp) (x : AV) (k : AV → Ω) (z : Ω) : Ω :=
  match op, x with
  | .not, .bool b => k (.bool (!b))
  | .neg, .int kd n => k (.int kd (kd.wrap (0 - n)))
  | .xor, .int kd n => k (.int kd (ixor kd (if kd.signed then -1 else kd.max) n))
  | _, _ => z
def convK (P : Program) (src dst : TypeId) (x : AV) (k : AV → Ω) (z : Ω) : Ω :=
  match x with
  | .int _ n => match P.underlying src, P.underlying dst with
    | some _, some (.int kd) => k (.int kd (kd.wrap n))
    | _, _ => z
  | _ => z

def fieldOff (P : Program) (s : TypeId) (f : Nat) : Option (Nat × TypeId) :=
  match P.underlying s with
  | some (.struct fs) => match fs[f]? with
    | some fl => match P.info? fl.type with
      | some i => cond (Nat.beq i.size 0) none (some (fl.offset, fl.type))
      | none => none
    | none => none
  | _ => none
def fieldAddrK (P : Program) (s : TypeId) (x : AV) (f : Nat) (k : AV → Ω) (z : Ω) : Ω :=
  match fieldOff P s f with
  | some (o, _) => match x with
    | .ptr id off => k (.ptr id (off + o))
    | .iptr cells off => k (.iptr cells (off + o))
    | _ => z
  | none => z
/-- A part of a struct's or an array's value. -/
def partK (P : Program) (t : TypeId) (cs : List AV) (off : Nat) (k : AV → Ω) (z : Ω) : Ω :=
  match P.info? t, P.underlying t with
  | some i, some d => cond (aggD d) (cond (Nat.ble (off + i.size) cs.length) (k (.agg ((cs.drop off).take i.size))) z)
      (match cs[off]? with
        | some v => k v
        | none => z)
  | _, _ => z
def fieldK (P : Program) (t : TypeId) (x : AV) (f : Nat) (k : AV → Ω) (z : Ω) : Ω :=
  match P.underlying t, x with
  | some (.struct fs), .agg cs => match fs[f]? with
    | some fl => partK P fl.type cs fl.offset k z
    | none => z
  | _, _ => z
def inside (n : Int) (len : Nat) : Bool := decide (0 ≤ n) && decide (n < (len : Int))
def elemSize (P : Program) (e : TypeId) : Option Nat := (P.info? e).map (·.size)
def indexAddrK (P : Program) (t : TypeId) (x i : AV) (k : AV → Ω) (z : Ω) : Ω :=
  match i with
  | .int _ n => match P.underlying t with
    | some (.slice e) => match elemSize P e with
      | some sz => match x with
        | .lst cells len => cond (inside n len && Nat.beq cells.length (len * sz)) (k (.iptr cells (n.toNat * sz))) z
        | .sl id off len _ _ => cond (inside n len) (k (.ptr id (off + n.toNat * sz))) z
        | _ => z
      | none => z
    | some (.array len e) => match elemSize P e with
      | some sz => match x with
        | .iptr cells off => cond (inside n len) (k (.iptr cells (off + n.toNat * sz))) z
        | .ptr id off => cond (inside n len) (k (.ptr id (off + n.toNat * sz))) z
        | _ => z
      | none => z
    | _ => z
  | _ => z
def indexK (P : Program) (t : TypeId) (x i : AV) (k : AV → Ω) (z : Ω) : Ω :=
  match i, x with
  | .int _ n, .agg cs => match P.underlying t with
    | some (.array len e) => match elemSize P e with
      | some sz => cond (inside n len) (partK P e cs (n.toNat * sz) k z) z
      | none => z
    | _ => z
  | .int _ n, .str s => match P.underlying t with
    | some .string => cond (decide (0 ≤ n)) (match s[n.toNat]? with
      | some b => k (.int .u8 b.toNat)
      | none => z) z
    | _ => z
  | _, _ => z
def boundOf (o : Option AV) (d : Nat) : Option Int :=
  match o with
  | none => some d
  | some (.int _ n) => some n
  | some _ => none
def okBounds (lo hi : Int) (len : Nat) : Bool := decide (0 ≤ lo) && (decide (lo ≤ hi) && decide (hi ≤ (len : Int)))
def sliceK (P : Program) (t : TypeId) (x : AV) (lo hi mx : Option AV) (k : AV → Ω) (z : Ω) : Ω :=
  match P.underlying t with
  | some (.slice e) => match elemSize P e with
    | some sz => match x with
      | .lst cells len => match boundOf lo 0, boundOf hi len, mx with
        | some l, some h, none => cond (okBounds l h len && Nat.beq cells.length (len * sz)) (k (.lst ((cells.drop (l.toNat * sz)).take ((h.toNat - l.toNat) * sz)) (h.toNat - l.toNat))) z
        | some l, some h, some (.int _ m) => cond (hi.isSome && (decide (l = 0) && (decide (h = 0) && decide (m = 0)))) (k .es) z
        | _, _, _ => z
      | .sl id off len s app => match boundOf lo 0, boundOf hi len with
        | some l, some h => cond (okBounds l h len && Nat.beq s sz)
          (match mx with
            | none => cond (decide (l = 0)) (k (.sl id off h.toNat sz app)) (cond (decide (l = h)) (k (.lst [] 0)) (k (.sl id (off + l.toNat * sz) (h.toNat - l.toNat) sz false)))
            | some (.int _ m) => cond (hi.isSome && (decide (l = 0) && (decide (0 < m) && (decide (h ≤ m) && decide (m ≤ (len : Int)))))) (k (.sl id off h.toNat sz false)) z
            | some _ => z) z
        | _, _ => z
      | .nils => match boundOf lo 0, boundOf hi 0, mx with
        | some l, some h, none => cond (decide (l = 0) && decide (h = 0)) (k .nils) z
        | some l, some h, some (.int _ m) => cond (hi.isSome && (decide (l = 0) && (decide (h = 0) && decide (m = 0)))) (k .es) z
        | _, _, _ => z
      | _ => z
    | none => z
  | some (.array n e) => match elemSize P e with
    | some sz => match boundOf lo 0, boundOf hi n, mx with
      | some l, some h, none => cond (okBounds l h n)
        (match x with
          | .ptr id off => cond (decide (l = h)) (k (.lst [] 0)) (k (.sl id (off + l.toNat * sz) (h.toNat - l.toNat) sz false))
          | .iptr cells off => cond (Nat.ble (off + n * sz) cells.length) (k (.lst ((cells.drop (off + l.toNat * sz)).take ((h.toNat - l.toNat) * sz)) (h.toNat - l.toNat))) z
          | _ => z) z
      | _, _, _ => z
    | none => z
  | _ => z

/-- The cells of a slice, asv many asv it has. -/
noncomputable def srcK (h : Heap) (sz : Nat) (x : AV) (k : List AV → Nat → Bool → Ω) (z : Ω) : Ω :=
  match x with
  | .nils => k [] 0 true
  | .es => k [] 0 true
  | .ns => k [] 0 true
  | .lst cells n => cond (Nat.beq cells.length (n * sz)) (k cells n true) z
  | .sl id off n s _ => match hget h id with
    | some hb => cond (Nat.beq s sz && Nat.ble (off + n * sz) hb.cells.length) (k ((hb.cells.drop off).take (n * sz)) n hb.pure) z
    | none => z
  | _ => z
/-- A value of one cell. -/
def AV.one : AV → Bool
  | .agg _ => false
  | .tup _ => false
  | .any => false
  | _ => true
def okBytes (n bytes : Nat) : Bool := Nat.ble n maxLen && Nat.ble (n * bytes) 140737488355328

noncomputable def appendK (P : Program) (h : Heap) (nx : Nat) (t t' : TypeId) (s x : AV) (k : AV → Heap → Nat → Ω) (z : Ω) : Ω :=
  cond (Nat.beq t t') (match P.underlying t with
  | some (.slice e) => match P.info? e with
    | some i => cond (Nat.blt 0 i.size && (match i.zero with | some v => Nat.beq v.cells.size i.size | none => false))
      (srcK h i.size x (fun new m pn => cond (new.all AV.one) (match s with
        | .nils => cond (Nat.beq m 0) (k .nils h nx) (cond (okBytes m i.bytes) (k (.sl nx 0 m i.size true) ((nx, ⟨new, e, pn⟩) :: h) (nx + 1)) z)
        | .es => cond (Nat.beq m 0) (k .es h nx) (cond (okBytes m i.bytes) (k (.sl nx 0 m i.size true) ((nx, ⟨new, e, pn⟩) :: h) (nx + 1)) z)
        | .sl id 0 n sz true => match hget h id with
          | some hb => cond (Nat.beq sz i.size && (Nat.beq hb.elem e && (Nat.ble (n * sz) hb.cells.length && okBytes (n + m) i.bytes)))
              (k (.sl nx 0 (n + m) i.size true) ((nx, ⟨hb.cells.take (n * sz) ++ new, e, hb.pure && pn⟩) :: hdel h id) (nx + 1)) z
          | none => z
        | _ => z) z) z) z
    | none => z
  | _ => z) z
noncomputable def copyK (P : Program) (h : Heap) (t : TypeId) (d x : AV) (k : AV → Heap → Ω) (z : Ω) : Ω :=
  match P.underlying t with
  | some (.slice e) => match elemSize P e with
    | some sz => match d with
      | .sl id off n s _ => match hget h id with
        | some hb => cond (Nat.beq s sz && Nat.ble (off + n * sz) hb.cells.length)
          (srcK h sz x (fun new m pn => cond (new.all AV.one) (k (.int .i64 (Nat.min m n : Nat)) (hset h id ⟨hb.cells.take off ++ new.take (Nat.min m n * sz) ++ hb.cells.drop (off + Nat.min m n * sz), hb.elem, hb.pure && pn⟩)) z) z) z
        | none => z
      | _ => z
    | none => z
  | _ => z
def makeSliceK (P : Program) (h : Heap) (nx : Nat) (t : TypeId) (len cap : AV) (k : AV → Heap → Nat → Ω) (z : Ω) : Ω :=
  match P.underlying t, len, cap with
  | some (.slice e), .int _ l, .int _ c => match P.info? e, zeroCells P e with
    | some i, some zs => cond (decide (0 ≤ l) && (decide (l ≤ c) && okBytes c.toNat i.bytes))
        (k (.sl nx 0 l.toNat i.size true) ((nx, ⟨(List.replicate c.toNat zs).flatten, e, true⟩) :: h) (nx + 1)) z
    | _, _ => z
  | _, _, _ => z
def lenK (P : Program) (t : TypeId) (x : AV) (k : AV → Ω) (z : Ω) : Ω :=
  match P.underlying t with
  | some (.slice _) => match x with
    | .nils => k (.int .i64 0)
    | .es => k (.int .i64 0)
    | .ns => k (.int .i64 0)
    | .lst _ n => k (.int .i64 n)
    | .sl _ _ n _ _ => k (.int .i64 n)
    | _ => z
  | some (.array n _) => k (.int .i64 n)
  | _ => z
def imin (x y : Int) : Int := if y < x then y else x
def imax (x y : Int) : Int := if y > x then y else x
def foldIntK (f : Int → Int → Int) : IntKind → Int → List AV → (AV → Ω) → Ω → Ω
  | kd, n, [], k, _ => k (.int kd n)
  | kd, n, .int _ m :: r, k, z => foldIntK f kd (f n m) r k z
  | _, _, _ :: _, _, z => z
def minmaxK (f : Int → Int → Int) (args : List AV) (k : AV → Ω) (z : Ω) : Ω :=
  match args with
  | .int kd n :: r => foldIntK f kd n r k z
  | _ => z

/-- Whom a call leads to: a function, or a round of a loop over a function. -/
inductive Tgt where
  | fn (f : FuncId)
  | yld (id : Nat)
/-- A method of a value's type, and the receiver. -/
def methodK (P : Program) (t : TypeId) (v : AV) (name : String) : Option (FuncId × AV) :=
  match P.info? t with
  | some i => match i.methods.find? (·.name == name) with
    | some m => cond m.path.isEmpty (match m.func, P.underlying t with
      | some (f, true), some (.pointer _) => some (f, v)
      | some (f, false), some (.struct _) => some (f, v)
      | some (f, false), some (.int _) => some (f, v)
      | _, _ => none) none
    | none => none
  | none => none
/-- A concrete type asked of an interface's value. -/
def assertK (P : Program) (x : AV) (asserted : TypeId) (ok : Bool) (k : AV → Ω) (z : Ω) : Ω :=
  match P.underlying asserted, P.info? asserted with
  | some (.interface _), _ => z
  | some _, some i => match x, i.zero with
    | .iface t v, some zv => cond (Nat.beq t asserted) (k (cond ok (.tup [v, .bool true]) v)) (cond ok (k (.tup [ofV zv, .bool false])) z)
    | .niliface, some zv => cond ok (k (.tup [ofV zv, .bool false])) z
    | _, _ => z
  | _, _ => z

/-- Lists of operands' values. -/
def argsL (ρ : Operand → AV) (l : Array Operand) : List AV := l.toList.map ρ

noncomputable def callK (C : Cfg) (ρ : Operand → AV) (h : Heap) (nx : Nat) (c : Call) (kv : AV → Heap → Nat → Ω) (kc : Tgt → List AV → Ω) (kp : AV → Ω) (z : Ω) : Ω :=
  match c.callee with
  | .value f => match ρ f with
    | .fn (.func g) first cap => kc (.fn g) (first ++ argsL ρ c.args ++ cap)
    | .yld id => kc (.yld id) (argsL ρ c.args)
    | _ => z
  | .invoke recv name => match ρ recv with
    | .iface t v => match methodK C.P t v name with
      | some (f, r) => kc (.fn f) (r :: argsL ρ c.args)
      | none => z
    | _ => z
  | .builtin .panic => match argsL ρ c.args with
    | .iface t v :: _ => kp (.iface t v)
    | _ => z
  | .builtin .len => match argsL ρ c.args, c.argTypes.toList with
    | x :: _, t :: _ => lenK C.P t x (fun v => kv v h nx) z
    | _, _ => z
  | .builtin .append => match argsL ρ c.args, c.argTypes.toList with
    | [s, x], [t, t'] => appendK C.P h nx t t' s x kv z
    | _, _ => z
  | .builtin .copy => match argsL ρ c.args, c.argTypes.toList with
    | [d, x], t :: _ => copyK C.P h t d x (fun v h' => kv v h' nx) z
    | _, _ => z
  | .builtin .min => minmaxK imin (argsL ρ c.args) (fun v => kv v h nx) z
  | .builtin .max => minmaxK imax (argsL ρ c.args) (fun v => kv v h nx) z
  | _ => z

/-- One operation. 'kv': it has yielded a value; 'kc': it calls a function. -/
noncomputable def aop (C : Cfg) (ρ : Operand → AV) (h : Heap) (nx : Nat) (op : Op) (kv : AV → Heap → Nat → Ω) (kc : Tgt → List AV → Ω) (kp : AV → Ω) (z : Ω) : Ω :=
  match op with
  | .move x => kv (ρ x) h nx
  | .assign x => kv (ρ x) h nx
  | .pick c a b => match ρ c with
    | .bool t => cond t (kv (ρ a) h nx) (kv (ρ b) h nx)
    | _ => z
  | .alloc t => match zeroCells C.P t with
    | some cs => kv (.ptr nx 0) ((nx, ⟨cs, t, true⟩) :: h) (nx + 1)
    | none => z
  | .box t x => match (ρ x).cellsL with
    | some cs => kv (.ptr nx 0) ((nx, ⟨cs, t, cs.all (AV.noRef 2)⟩) :: h) (nx + 1)
    | none => z
  | .build t parts => buildK C.P t (parts.toList.map fun p => (p.1, ρ p.2)) (fun v => kv v h nx) z
  | .buildSlice t len parts => match C.P.underlying t with
    | some (.slice e) => match C.P.info? e, zeroCells C.P e with
      | some i, some zs => cond (Nat.ble (len * i.size) 16777216 && Nat.ble len maxLen) (fillK (fun j => some (j * i.size, i.size)) (List.replicate len zs).flatten (parts.toList.map fun p => (p.1, ρ p.2))
          (fun cs => kv (.sl nx 0 len i.size true) ((nx, ⟨cs, e, cs.all (AV.noRef 2)⟩) :: h) (nx + 1)) z) z
      | _, _ => z
    | _ => z
  | .load t x => match ρ x with
    | .ptr id off => match hget h id with
      | some hb => loadK C.P t (cond hb.pure 1 2) hb.cells off (fun v => kv v h nx) z
      | none => z
    | .iptr cells off => loadK C.P t 0 cells off (fun v => kv v h nx) z
    | _ => z
  | .store t x v => match ρ x, (ρ v).cellsL, C.P.info? t with
    | .ptr id off, some vs, some i => match hget h id with
      | some hb => cond (vs.all AV.one && (Nat.beq vs.length i.size && Nat.ble (off + vs.length) hb.cells.length)) (kv (.tup []) (hset h id ⟨setAt hb.cells off vs, hb.elem, hb.pure && vs.all (AV.noRef 2)⟩) nx) z
      | none => z
    | _, _, _ => z
  | .nilCheck x => match ρ x with
    | .ptr id off => kv (.ptr id off) h nx
    | .iptr c off => kv (.iptr c off) h nx
    | .fn (.func g) fs cs => kv (.fn (.func g) fs cs) h nx
    | _ => z
  | .binOp op t x y _ => binK C.P op t x y (ρ x) (ρ y) (fun v => kv v h nx) z
  | .unOp op _ x => unK op (ρ x) (fun v => kv v h nx) z
  | .convert src dst x => convK C.P src dst (ρ x) (fun v => kv v h nx) z
  | .makeInterface t x => match C.P.underlying t with
    | some (.interface _) => z
    | some _ => kv (.iface t (ρ x)) h nx
    | none => z
  | .makeFunc fn first cap => kv (.fn fn (argsL ρ first) (argsL ρ cap)) h nx
  | .makeSlice t l c => makeSliceK C.P h nx t (ρ l) (ρ c) kv z
  | .slice t x lo hi mx => sliceK C.P t (ρ x) (lo.map ρ) (hi.map ρ) (mx.map ρ) (fun v => kv v h nx) z
  | .fieldAddr s x f => fieldAddrK C.P s (ρ x) f (fun v => kv v h nx) z
  | .field t x f => fieldK C.P t (ρ x) f (fun v => kv v h nx) z
  | .indexAddr t x i => indexAddrK C.P t (ρ x) (ρ i) (fun v => kv v h nx) z
  | .index t x i => indexK C.P t (ρ x) (ρ i) (fun v => kv v h nx) z
  | .extract x i => match ρ x with
    | .tup vs => match vs[i]? with
      | some v => kv v h nx
      | none => z
    | _ => z
  | .typeAssert x _ asserted ok => assertK C.P (ρ x) asserted ok (fun v => kv v h nx) z
  | .panic x => match ρ x with
    | .iface t v => kp (.iface t v)
    | _ => z
  | .call c => callK C ρ h nx c kv kc kp z
  | _ => z
end
end Go.Bas
end
section
namespace Go.Bas
open Go.RowKit
set_option linter.unusedSimpArgs false
set_option linter.unusedVariables false

theorem of_cond {b : Bool} {x : Bool} (h : cond b x false = true) : b = true ∧ x = true := by cases b <;> simp_all
theorem of_cond2 {b x y : Bool} (h : cond b x y = true) : (b = true ∧ x = true) ∨ (b = false ∧ y = true) := by cases b <;> simp_all
theorem of_condn {b x : Bool} (h : cond b false x = true) : b = false ∧ x = true := by cases b <;> simp_all
theorem of_and {a b : Bool} (h : (a && b) = true) : a = true ∧ b = true := by simpa using h
theorem of_beq {a b : Nat} (h : Nat.beq a b = true) : a = b := (beq_iff a b).1 h
theorem of_ble {a b : Nat} (h : Nat.ble a b = true) : a ≤ b := Nat.le_of_ble_eq_true h

theorem addr_add (b o j : Nat) : (⟨b, o, none⟩ : Addr).add j = ⟨b, o + j, none⟩ := by unfold Addr.add; split <;> simp_all

theorem coerce_sl {v : AV} {k : AV → Bool} (h : cond v.isL (k (.lst v.lc v.ln)) (cond v.isNils (k .nils) (cond v.isNs (k .ns) (cond v.isEs (k .es) false))) = true) : k v = true := by
  cases v <;> first | exact h | cases h
theorem coerce1_sound {c : CK} {mode : Nat} {v : AV} {k : AV → Bool} (h : coerce1 c mode v k false = true) : k v = true := by
  unfold coerce1 at h
  split at h
  · obtain ⟨h1, h2⟩ := of_cond h; rw [AV.of_isB h1]; exact h2
  · obtain ⟨h1, h2⟩ := of_cond h; rw [AV.of_isI h1]; exact h2
  · split at h
    · exact coerce_sl h
    · exact coerce_sl h
    · exact h
  · exact h
theorem loadsK_sound {mode : Nat} {cells : List AV} : ∀ {ks : List CK} {off : Nat} {k : List AV → Bool}, loadsK mode cells ks off k false = true →
    k ((List.range ks.length).map fun j => cells.getD (off + j) .any) = true
  | [], off, k, h => h
  | c :: cs, off, k, h => by
    have h1 := coerce1_sound h
    have h2 := loadsK_sound h1
    rw [lget_eq] at h2
    simp only [List.length_cons, List.range_succ_eq_map, List.map_cons, List.map_map, Nat.add_zero]
    rw [show (fun j => cells.getD (off + j) AV.any) ∘ Nat.succ = fun j => cells.getD (off + 1 + j) AV.any from funext fun j => by simp [Nat.add_assoc, Nat.add_comm 1 j]]
    exact h2

theorem lhead_eq (l : List AV) : lhead l = l.getD 0 .any := by cases l <;> rfl
theorem loadsL_sound {mode : Nat} : ∀ {ks : List CK} {l : List AV} {k : List AV → Bool}, loadsL mode ks l k false = true → k ((List.range ks.length).map fun j => l.getD j .any) = true
  | [], l, k, h => h
  | c :: cs, l, k, h => by
    have h1 := coerce1_sound h
    have h2 := loadsL_sound h1
    rw [lhead_eq] at h2
    simp only [List.length_cons, List.range_succ_eq_map, List.map_cons, List.map_map]
    have e : ((fun j => l.getD j AV.any) ∘ Nat.succ) = fun j => (ltail l).getD j AV.any := funext fun j => by cases l <;> simp [ltail]
    rw [e]
    exact h2
theorem loadsX_sound {mode : Nat} {cells : List AV} {ks : List CK} {off : Nat} {k : List AV → Bool} (h : loadsX mode cells ks off k false = true) : k ((List.range ks.length).map fun j => cells.getD (off + j) .any) = true := by
  unfold loadsX at h
  rcases of_cond2 h with ⟨_, h⟩ | ⟨_, h⟩
  · exact loadsK_sound h
  · have h2 := loadsL_sound h
    have e : (fun j => (cells.drop off).getD j AV.any) = fun j => cells.getD (off + j) AV.any := funext fun j => by
      rw [List.getD_eq_getElem?_getD, List.getD_eq_getElem?_getD, List.getElem?_drop]
    rw [e] at h2
    exact h2

/-- Cells that lie from a place on. -/
def Lies (w : World) (B : Nat → Prop) (own : Nat → Prop) (ω : Nat → Option Nat) (nx b o : Nat) (cells : List AV) : Prop :=
  ∃ vs : Nat → Value, (∀ i, i < cells.length → w.cell? ⟨b, o + i, none⟩ = some (vs i)) ∧ ∀ i (h : i < cells.length), Rep w B own ω nx cells[i] (vs i)

section
variable {w : World} {B : Nat → Prop} {own : Nat → Prop} {ω : Nat → Option Nat} {nx : Nat} {P : Program}

/-- Every cell that is there is there in the other world, and holds the same. -/
def Same (w w' : World) : Prop := ∀ a v, w.cell? a = some v → w'.cell? a = some v
theorem Same.refl (w : World) : Same w w := fun _ _ h => h

theorem loadK_sound {t : TypeId} {mode : Nat} {cells : List AV} {off b o : Nat} {k : AV → Bool} (hl : Lies w B own ω nx b o cells) (h : loadK P t mode cells off k false = true) :
    ∃ v u, (∀ w', Same w w' → (loadVar t ⟨b, o + off, none⟩).run P w' = .ok u w') ∧ Rep w B own ω nx v u ∧ k v = true := by
  obtain ⟨vs, hv, hr⟩ := hl
  unfold loadK at h
  split at h
  · rename_i i d hi hd
    obtain ⟨hk, h⟩ := of_cond h
    have hk := of_beq hk
    have hu := fun w => run_underlying hd w
    rcases of_cond2 h with ⟨ha, h⟩ | ⟨ha, h⟩
    · obtain ⟨hb, h⟩ := of_cond h
      have hb := of_ble hb
      have h2 := loadsX_sound h
      refine ⟨_, .agg ((List.range i.size).map fun j => vs (off + j)).toArray, fun w' hw => ?_, ?_, h2⟩
      · have hrun := run_loadCells (P := P) w' ⟨b, o + off, none⟩ i.size (fun j => vs (off + j)) (fun j hj => by rw [addr_add, Nat.add_assoc]; exact hw _ _ (hv _ (by omega)))
        have hag : (isAgg t).run P w' = .ok true w' := by
          unfold isAgg
          cases d <;> simp [aggD] at ha <;> simp [hu]
        simp [loadVar, hag, sizeOf, typeInfo, hi, hrun, Result.andThen]
      · refine .agg _ _ _ (by simp [hk]) (fun j hj => ?_)
        simp only [List.length_map, List.length_range, hk] at hj
        have hjl : off + j < cells.length := by omega
        have e1 : (((List.range (kindsOf i).length).map fun j => cells.getD (off + j) AV.any)[j]'(by simpa [hk] using hj)) = cells[off + j] := by simp [hjl]
        have e2 : (((List.range i.size).map fun j => vs (off + j)).toArray.getD j undef) = vs (off + j) := by simp [hj]
        rw [e1, e2]
        exact hr _ hjl
    · obtain ⟨hb, h⟩ := of_cond h
      have hb := of_ble hb
      have hlt : off < cells.length := by omega
      have hag : ∀ w, (isAgg t).run P w = .ok false w := fun w => by
        unfold isAgg
        cases d <;> simp [aggD] at ha <;> simp [hu]
      split at h
      · have h2 := coerce1_sound h
        rw [lget_eq] at h2
        have e : cells.getD off AV.any = cells[off] := by simp [hlt]
        rw [e] at h2
        refine ⟨_, vs off, fun w' hw => ?_, hr off hlt, h2⟩
        have hc := hw _ _ (hv off hlt)
        simp [loadVar, hag, load, Sem.run, hc, Result.andThen]
      · cases h
  · cases h

end

/-- The own blocks are in order. -/
structure Hp (w : World) (B : Nat → Prop) (own : Nat → Prop) (ω : Nat → Option Nat) (nx : Nat) (h : Heap) : Prop where
  rel : HRel w B own ω nx h
  inj : ∀ i j b, (hget h i).isSome = true → (hget h j).isSome = true → ω i = some b → ω j = some b → i = j
  ob : ∀ b, own b → b < w.heap.size

section
variable {w w' : World} {B : Nat → Prop} {own : Nat → Prop} {ω : Nat → Option Nat} {nx : Nat} {h h' : Heap}

theorem rep_cond_ext {own' : Nat → Prop} {ω' : Nat → Option Nat} {nx' : Nat} {p : Bool} {v : AV} {u : Value} (hr : Rep w B own ω (cond p 0 nx) v u) (e : Ext w own ω nx w' own' ω' nx') : Rep w' B own' ω' (cond p 0 nx') v u := by
  cases p
  · exact hr.ext e
  · exact hr.ext0 e

/-- A block comes to the own ones under a new number. -/
theorem Hp.put (H : Hp w B own ω nx h) {b : Nat} {arr : Array Value} {hb : HB} (hos : w'.os = w.os) (htape : w'.tape = w.tape) (hout : w'.output = w.output) (hsz : w.heap.size ≤ w'.heap.size)
    (hold : ∀ k, k < w.heap.size → k ≠ b → w'.heap[k]? = w.heap[k]?) (hb' : w'.heap[b]? = some (.cells arr hb.elem (0, 0)))
    (hnew : w.heap.size ≤ b ∨ (own b ∧ ∀ j, (hget h' j).isSome = true → ω j ≠ some b)) (hrow : ∀ n, rowSize w b = some n → n = arr.size)
    (hsub : ∀ j x, hget h' j = some x → hget h j = some x) (hlen : hb.cells.length ≤ arr.size)
    (hcell : ∀ i (hi : i < hb.cells.length), Rep w B own ω (cond hb.pure 0 nx) hb.cells[i] (arr.getD i undef)) :
    Ext w own ω nx w' (fun x => own x ∨ x = b) (fun i => if i = nx then some b else ω i) (nx + 1) ∧
    Hp w' B (fun x => own x ∨ x = b) (fun i => if i = nx then some b else ω i) (nx + 1) ((nx, hb) :: h') := by
  have hblt : b < w'.heap.size := (Array.getElem?_eq_some_iff.1 hb').1
  have E : Ext w own ω nx w' (fun x => own x ∨ x = b) (fun i => if i = nx then some b else ω i) (nx + 1) := by
    refine ⟨hos, htape, hout, hsz, fun k hk hn => hold k hk (fun e => ?_), fun k hk => ?_, by omega, fun id hi => if_neg (by omega), fun k n hr => ?_⟩
    · subst e
      exact hnew.elim (fun h => by omega) (fun h => hn h.1)
    · rcases hk with hk | rfl
      · exact .inl hk
      · exact hnew.elim .inr (fun h => .inl h.1)
    · by_cases e : k = b
      · subst e
        have := hrow n hr
        simp [rowSize, hb', this]
      · have hk : k < w.heap.size := by
          rcases Nat.lt_or_ge k w.heap.size with h | h
          · exact h
          · simp [rowSize, Array.getElem?_eq_none h] at hr
        simpa [rowSize, hold k hk e] using hr
  refine ⟨E, ⟨fun id x hx => ?_, fun i j c hi hj h1 h2 => ?_, fun c hc => ?_⟩⟩
  · simp only [hget_cons] at hx
    cases he : Nat.beq nx id with
    | true =>
      have := of_beq he
      subst this
      simp only [he, cond_true, Option.some.injEq] at hx
      subst hx
      exact ⟨by omega, b, arr, by simp, .inr rfl, hb', hlen, fun i hi => rep_cond_ext (hcell i hi) E⟩
    | false =>
      simp only [he, cond_false] at hx
      have hne : id ≠ nx := fun e => by subst e; exact absurd he (by simp [(beq_iff id id).2 rfl])
      obtain ⟨h1, c, arr', h2, h3, h4, h5, h6⟩ := H.rel id x (hsub id x hx)
      refine ⟨by omega, ?_⟩
      have hcb : c ≠ b := fun e => by
        subst e
        rcases hnew with hn | hn
        · have := H.ob c h3; omega
        · exact hn.2 id (by simp [hx]) h2
      refine ⟨c, arr', by simp [hne, h2], .inl h3, ?_, h5, fun i hi => rep_cond_ext (h6 i hi) E⟩
      rw [hold c (H.ob c h3) hcb]
      exact h4
  · have key : ∀ i, (hget ((nx, hb) :: h') i).isSome = true → i ≠ nx → (hget h' i).isSome = true := fun i hi hne => by
      simp only [hget_cons] at hi
      cases he : Nat.beq nx i with
      | true => exact absurd (of_beq he).symm hne
      | false => simpa [he] using hi
    have up : ∀ i, (hget h' i).isSome = true → (hget h i).isSome = true := fun i hi => by
      obtain ⟨x, hx⟩ := Option.isSome_iff_exists.1 hi
      simp [hsub i x hx]
    have fresh : ∀ i, (hget h' i).isSome = true → ω i = some b → False := fun i hi hw => by
      rcases hnew with hn | hn
      · obtain ⟨x, hx⟩ := Option.isSome_iff_exists.1 (up i hi)
        obtain ⟨_, c, _, h2, h3, _⟩ := H.rel i x hx
        rw [h2] at hw; cases hw; have := H.ob b h3; omega
      · exact hn.2 i hi hw
    by_cases ei : i = nx
    · by_cases ej : j = nx
      · rw [ei, ej]
      · simp only [ei, if_true, Option.some.injEq] at h1
        simp only [ej, if_false] at h2
        subst h1
        exact (fresh j (key j hj ej) h2).elim
    · by_cases ej : j = nx
      · simp only [ej, if_true, Option.some.injEq] at h2
        simp only [ei, if_false] at h1
        subst h2
        exact (fresh i (key i hi ei) h1).elim
      · simp only [ei, ej, if_false] at h1 h2
        exact H.inj i j c (up i (key i hi ei)) (up j (key j hj ej)) h1 h2
  · rcases hc with hc | rfl
    · exact Nat.lt_of_lt_of_le (H.ob c hc) hsz
    · exact hblt

/-- An own block's cells are written. -/
theorem Hp.write (H : Hp w B own ω nx h) {id b : Nat} {arr : Array Value} {hb hb2 : HB} (hid : hget h id = some hb) (hω : ω id = some b) (hos : w'.os = w.os) (htape : w'.tape = w.tape) (hout : w'.output = w.output)
    (hsz : w'.heap.size = w.heap.size) (hold : ∀ k, k ≠ b → w'.heap[k]? = w.heap[k]?) (hb' : w'.heap[b]? = some (.cells arr hb2.elem (0, 0)))
    (hrow : ∀ n, rowSize w b = some n → n = arr.size) (hlen : hb2.cells.length ≤ arr.size)
    (hcell : ∀ i (hi : i < hb2.cells.length), Rep w B own ω (cond hb2.pure 0 nx) hb2.cells[i] (arr.getD i undef)) :
    Ext w own ω nx w' own ω nx ∧ Hp w' B own ω nx (hset h id hb2) := by
  obtain ⟨hidn, hrel⟩ := H.rel id hb hid
  have hown : own b := by
    obtain ⟨c, _, h2, h3, _⟩ := hrel
    rw [h2] at hω; cases hω; exact h3
  have E : Ext w own ω nx w' own ω nx := by
    refine ⟨hos, htape, hout, by omega, fun k _ hn => hold k (fun e => hn (e ▸ hown)), fun k hk => .inl hk, Nat.le_refl _, fun _ _ => rfl, fun k n hr => ?_⟩
    by_cases e : k = b
    · subst e
      simp [rowSize, hb', hrow n hr]
    · simpa [rowSize, hold k e] using hr
  refine ⟨E, ⟨fun j x hx => ?_, fun i j c hi hj h1 h2 => ?_, fun c hc => (by have := H.ob c hc; omega)⟩⟩
  · rw [hget_hset] at hx
    split at hx
    · rename_i e
      subst e
      simp only [hid, Option.map_some, Option.some.injEq] at hx
      subst hx
      exact ⟨hidn, b, arr, hω, hown, hb', hlen, fun i hi => rep_cond_ext (hcell i hi) E⟩
    · rename_i hne
      obtain ⟨h1, c, arr', h2, h3, h4, h5, h6⟩ := H.rel j x hx
      refine ⟨h1, ?_⟩
      have hcb : c ≠ b := fun e => by
        subst e
        exact hne (H.inj j id c (by simp [hx]) (by simp [hid]) h2 hω)
      exact ⟨c, arr', h2, h3, by rw [hold c hcb]; exact h4, h5, fun i hi => rep_cond_ext (h6 i hi) E⟩
  · have key : ∀ i, (hget (hset h id hb2) i).isSome = true → (hget h i).isSome = true := fun i hi => by
      rw [hget_hset] at hi
      split at hi
      · rename_i e; subst e; simp [hid]
      · exact hi
    exact H.inj i j c (key i hi) (key j hj) h1 h2

end
end Go.Bas
end
section
namespace Go.Bas
open Go.RowKit
set_option linter.unusedSimpArgs false
set_option linter.unusedVariables false

section
variable {w : World} {B : Nat → Prop} {own : Nat → Prop} {ω : Nat → Option Nat} {nx : Nat} {P : Program}

/-- A piece of the model's that only reckons: its value is what 'v' stands for. -/
def Reckons (P : Program) (w : World) (B : Nat → Prop) (own : Nat → Prop) (ω : Nat → Option Nat) (nx : Nat) (s : Sem Value) (k : AV → Bool) : Prop :=
  ∃ v u, (∀ w', Same w w' → s.run P w' = .ok u w') ∧ Rep w B own ω nx v u ∧ k v = true

theorem ibinK_sound {op : BinOp} {t : TypeId} {kd kd' : IntKind} {a b : Int} {k : AV → Bool} (h : ibinK op kd kd' a b k false = true) :
    Reckons P w B own ω nx (binOp op t (.int kd a) (.int kd' b)) k := by
  cases op <;> simp only [ibinK] at h
  case shl => obtain ⟨h1, h2⟩ := of_condn h; exact ⟨_, _, fun w _ => by simp at h1; simp [binOp, Op.shift, show ¬ b < 0 by omega, ishl, Sem.run], .int _ _ _, h2⟩
  case shr => obtain ⟨h1, h2⟩ := of_condn h; exact ⟨_, _, fun w _ => by simp at h1; simp [binOp, Op.shift, show ¬ b < 0 by omega, ishr, Sem.run], .int _ _ _, h2⟩
  all_goals (obtain ⟨h1, h2⟩ := of_cond h; have h1 := kindEq_eq h1; subst h1)
  case quo => obtain ⟨h3, h4⟩ := of_condn h2; exact ⟨_, _, fun w _ => by simp at h3; simp [binOp, Op.intDiv, h3, Sem.run], .int _ _ _, h4⟩
  case rem => obtain ⟨h3, h4⟩ := of_condn h2; exact ⟨_, _, fun w _ => by simp at h3; simp [binOp, Op.intDiv, h3, Sem.run], .int _ _ _, h4⟩
  case add => exact ⟨_, _, fun w _ => by simp [binOp, Op.intArith, Sem.run], .int _ _ _, h2⟩
  case sub => exact ⟨_, _, fun w _ => by simp [binOp, Op.intArith, Sem.run], .int _ _ _, h2⟩
  case mul => exact ⟨_, _, fun w _ => by simp [binOp, Op.intArith, Sem.run], .int _ _ _, h2⟩
  case and => exact ⟨_, _, fun w _ => by simp [binOp, Op.intBits, iand, held_eq, Sem.run], .int _ _ _, h2⟩
  case or => exact ⟨_, _, fun w _ => by simp [binOp, Op.intBits, ior, held_eq, Sem.run], .int _ _ _, h2⟩
  case xor => exact ⟨_, _, fun w _ => by simp [binOp, Op.intBits, ixor, held_eq, Sem.run], .int _ _ _, h2⟩
  case andNot => exact ⟨_, _, fun w _ => by simp [binOp, Op.intBits, iandNot, held_eq, Sem.run], .int _ _ _, h2⟩
  case eql => exact ⟨_, _, fun w _ => by simp [binOp, Op.intCmp, Sem.run], .bool _ _, h2⟩
  case neq => exact ⟨_, _, fun w _ => by simp [binOp, Op.intCmp, Sem.run], .bool _ _, h2⟩
  case lss => exact ⟨_, _, fun w _ => by simp [binOp, Op.intCmp, Sem.run], .bool _ _, h2⟩
  case leq => exact ⟨_, _, fun w _ => by simp [binOp, Op.intCmp, Sem.run], .bool _ _, h2⟩
  case gtr => exact ⟨_, _, fun w _ => by simp [binOp, Op.intCmp, Sem.run], .bool _ _, h2⟩
  case geq => exact ⟨_, _, fun w _ => by simp [binOp, Op.intCmp, Sem.run], .bool _ _, h2⟩

theorem unK_sound {op : UnOp} {x : AV} {u : Value} {k : AV → Bool} (hx : Rep w B own ω nx x u) (h : unK op x k false = true) : Reckons P w B own ω nx (Op.unary op u) k := by
  unfold unK at h
  split at h
  · cases hx; exact ⟨_, _, fun w _ => by simp [Op.unary, Sem.run], .bool _ _, h⟩
  · cases hx; exact ⟨_, _, fun w _ => by simp [Op.unary, Op.intArith, Sem.run], .int _ _ _, h⟩
  · cases hx; exact ⟨_, _, fun w _ => by simp [Op.unary, Op.intBits, ixor, held_eq, Sem.run], .int _ _ _, h⟩
  · cases h

theorem convK_sound {src dst : TypeId} {x : AV} {u : Value} {k : AV → Bool} (hx : Rep w B own ω nx x u) (h : convK P src dst x k false = true) : Reckons P w B own ω nx (convert src dst u) k := by
  unfold convK at h
  split at h
  · split at h
    · rename_i hs hd
      cases hx
      exact ⟨_, _, fun w _ => by simp [convert, run_underlying hs, run_underlying hd, Conv.intToInt, Sem.run], .int _ _ _, h⟩
    · cases h
  · cases h

theorem fieldAddrK_sound {s : TypeId} {x : AV} {u : Value} {f : Nat} {k : AV → Bool} (hx : Rep w B own ω nx x u) (h : fieldAddrK P s x f k false = true) : Reckons P w B own ω nx (Instr.fieldAt s u f) k := by
  unfold fieldAddrK fieldOff at h
  split at h
  · rename_i o t' heq
    split at heq
    · rename_i fs hfs
      split at heq
      · rename_i fl hfl
        split at heq
        · rename_i i hi
          have hne : ¬ i.size = 0 := fun e => by rw [e] at heq; simp [(beq_iff 0 0).2 rfl] at heq
          have : Nat.beq i.size 0 = false := by
            cases hb : Nat.beq i.size 0 with
            | false => rfl
            | true => exact absurd (of_beq hb) hne
          rw [this] at heq
          simp only [cond_false, Option.some.injEq, Prod.mk.injEq] at heq
          obtain ⟨rfl, rfl⟩ := heq
          have run : ∀ b o' (w : World), (Instr.fieldAt s (.pointer (some ⟨b, o', none⟩)) f).run P w = .ok (.pointer (some ⟨b, o' + fl.offset, none⟩)) w := fun b o' w => by
            simp [Instr.fieldAt, run_underlying hfs, hfl, Instr.sureAddr, fieldPlace, sizeOf, typeInfo, hi, hne, addr_add, Sem.run, Result.andThen]
          split at h
          · cases hx with
            | ptr _ _ _ b h1 h2 => exact ⟨_, _, fun w _ => run _ _ w, .ptr _ _ _ _ h1 h2, h⟩
          · cases hx with
            | iptr _ _ _ b o' vs h1 h2 h3 => exact ⟨_, _, fun w _ => run _ _ w, by rw [Nat.add_assoc]; exact .iptr _ _ _ b o' vs h1 h2 h3, h⟩
          · cases h
        · cases heq
      · cases heq
    · cases heq
  · cases h

theorem partK_sound {t : TypeId} {cs : List AV} {vs : Array Value} {off : Nat} {k : AV → Bool} (hlen : cs.length = vs.size) (hx : ∀ i (h : i < cs.length), Rep w B own ω nx cs[i] (vs.getD i undef)) (h : partK P t cs off k false = true) :
    Reckons P w B own ω nx (part t vs off) k := by
  unfold partK at h
  split at h
  · rename_i i d hi hd
    have hu := fun w => run_underlying hd w
    rcases of_cond2 h with ⟨ha, h⟩ | ⟨ha, h⟩
    · obtain ⟨hb, h⟩ := of_cond h
      have hb := of_ble hb
      have hag : ∀ w, (isAgg t).run P w = .ok true w := fun w => by
        unfold isAgg
        cases d <;> simp [aggD] at ha <;> simp [hu]
      refine ⟨_, .agg (vs.extract off (off + i.size)), fun w _ => ?_, ?_, h⟩
      · simp [part, hag, sizeOf, typeInfo, hi, Sem.run, Result.andThen]
      · refine .agg _ _ _ (by simp; omega) (fun j hj => ?_)
        simp only [List.length_take, List.length_drop] at hj
        have hj' : off + j < cs.length := by omega
        have e1 : ((cs.drop off).take i.size)[j]'(by simp; omega) = cs[off + j] := by simp
        have e2 : (vs.extract off (off + i.size)).getD j undef = vs.getD (off + j) undef := by
          simp only [Array.getD_eq_getD_getElem?, Array.getElem?_extract]
          rw [if_pos (by omega)]
        rw [e1, e2]
        exact hx _ hj'
    · have hag : ∀ w, (isAgg t).run P w = .ok false w := fun w => by
        unfold isAgg
        cases d <;> simp [aggD] at ha <;> simp [hu]
      split at h
      · rename_i v hv
        obtain ⟨hlt, e⟩ := List.getElem?_eq_some_iff.1 hv
        have hlt' : off < vs.size := by omega
        refine ⟨v, vs[off], fun w _ => ?_, ?_, h⟩
        · simp [part, hag, hlt', Sem.run, Result.andThen]
        · have := hx off hlt
          rw [e] at this
          simpa [hlt'] using this
      · cases h
  · cases h

theorem fieldK_sound {t : TypeId} {x : AV} {u : Value} {f : Nat} {k : AV → Bool} (hx : Rep w B own ω nx x u) (h : fieldK P t x f k false = true) : Reckons P w B own ω nx (Instr.field t u f) k := by
  unfold fieldK at h
  split at h
  · rename_i fs cs hfs
    split at h
    · rename_i fl hfl
      cases hx with
      | agg _ _ vs h1 h2 =>
        obtain ⟨v, u, hr, hrep, hk⟩ := partK_sound h1 h2 h
        exact ⟨v, u, fun w' hw => by simp [Instr.field, run_underlying hfs, hfl, asAgg, hr w' hw, Sem.run, Result.andThen], hrep, hk⟩
    · cases h
  · cases h

theorem inside_iff {n : Int} {len : Nat} (h : inside n len = true) : 0 ≤ n ∧ n < (len : Int) := by simpa [inside] using h

theorem elemSize_some {e : TypeId} {sz : Nat} (h : elemSize P e = some sz) : ∃ i, P.info? e = some i ∧ i.size = sz := by
  simpa [elemSize, Option.map_eq_some_iff] using h

theorem indexAddrK_sound {t : TypeId} {x i : AV} {u ui : Value} {k : AV → Bool} (hx : Rep w B own ω nx x u) (hi : Rep w B own ω nx i ui) (h : indexAddrK P t x i k false = true) : Reckons P w B own ω nx (Instr.indexAt t u ui) k := by
  unfold indexAddrK at h
  split at h
  · rename_i kd n
    cases hi
    split at h
    · rename_i e he
      split at h
      · rename_i sz hsz
        obtain ⟨inf, hinf, rfl⟩ := elemSize_some hsz
        split at h
        · rename_i cells len
          obtain ⟨h1, h2⟩ := of_cond h
          obtain ⟨h1, h3⟩ := of_and h1
          have hin := inside_iff h1
          have h3 := of_beq h3
          cases hx with
          | lst _ _ _ cap b o vs g1 g3 g4 g5 =>
            refine ⟨_, .pointer (some ⟨b, o + n.toNat * inf.size, none⟩), fun w _ => ?_, .iptr _ _ _ b o vs g1 g4 g5, h2⟩
            simp [Instr.indexAt, run_underlying he, asIntOf, hin, sizeOf, typeInfo, hinf, addr_add, Sem.run, Result.andThen]
          | lstn _ _ _ => have h0 := hin.2; simp at h0; omega
        · rename_i id off len s app
          obtain ⟨h1, h2⟩ := of_cond h
          have hin := inside_iff h1
          cases hx with
          | sl _ _ _ _ _ cap b g1 g2 g3 =>
            refine ⟨_, .pointer (some ⟨b, off + n.toNat * inf.size, none⟩), fun w _ => ?_, .ptr _ _ _ b g1 g2, h2⟩
            simp [Instr.indexAt, run_underlying he, asIntOf, hin, sizeOf, typeInfo, hinf, addr_add, Sem.run, Result.andThen]
          | sla _ _ _ _ cap b g1 g2 g3 g4 g5 =>
            refine ⟨_, .pointer (some ⟨b, 0 + n.toNat * inf.size, none⟩), fun w _ => ?_, .ptr _ _ _ b g1 g2, h2⟩
            simp [Instr.indexAt, run_underlying he, asIntOf, hin, sizeOf, typeInfo, hinf, addr_add, Sem.run, Result.andThen]
        · cases h
      · cases h
    · rename_i len e he
      split at h
      · rename_i sz hsz
        obtain ⟨inf, hinf, rfl⟩ := elemSize_some hsz
        split at h
        · rename_i cells off
          obtain ⟨h1, h2⟩ := of_cond h
          have hin := inside_iff h1
          cases hx with
          | iptr _ _ _ b o vs g1 g2 g3 =>
            refine ⟨_, .pointer (some ⟨b, o + (off + n.toNat * inf.size), none⟩), fun w _ => ?_, .iptr _ _ _ b o vs g1 g2 g3, h2⟩
            simp [Instr.indexAt, run_underlying he, asIntOf, hin, sizeOf, typeInfo, hinf, addr_add, Instr.sureAddr, Sem.run, Result.andThen, Nat.add_assoc]
        · obtain ⟨h1, h2⟩ := of_cond h
          have hin := inside_iff h1
          cases hx with
          | ptr _ _ _ b g1 g2 =>
            refine ⟨_, _, fun w _ => ?_, .ptr _ _ _ b g1 g2, h2⟩
            simp [Instr.indexAt, run_underlying he, asIntOf, hin, sizeOf, typeInfo, hinf, addr_add, Instr.sureAddr, Sem.run, Result.andThen]
        · cases h
      · cases h
    · cases h
  · cases h

theorem indexK_sound {t : TypeId} {x i : AV} {u ui : Value} {k : AV → Bool} (hx : Rep w B own ω nx x u) (hi : Rep w B own ω nx i ui) (h : indexK P t x i k false = true) : Reckons P w B own ω nx (Instr.index t u ui) k := by
  unfold indexK at h
  split at h
  · rename_i kd n cs
    cases hi
    split at h
    · rename_i len e he
      split at h
      · rename_i sz hsz
        obtain ⟨inf, hinf, rfl⟩ := elemSize_some hsz
        obtain ⟨h1, h2⟩ := of_cond h
        have hin := inside_iff h1
        cases hx with
        | agg _ _ vs g1 g2 =>
          obtain ⟨v, u, hr, hrep, hk⟩ := partK_sound g1 g2 h2
          exact ⟨v, u, fun w' hw => by simp [Instr.index, run_underlying he, asIntOf, hin, sizeOf, typeInfo, hinf, hr w' hw, Sem.run, Result.andThen], hrep, hk⟩
      · cases h
    · cases h
  · rename_i kd n s
    cases hi
    cases hx
    split at h
    · rename_i he
      obtain ⟨h1, h2⟩ := of_cond h
      have hn : 0 ≤ n := of_decide_eq_true h1
      split at h2
      · rename_i b hb
        exact ⟨_, _, fun w' hw => by simp [Instr.index, run_underlying he, asIntOf, hn, hb, Sem.run, Result.andThen], .int _ _ _, h2⟩
      · cases h2
    · cases h
  · cases h

theorem okBounds_iff {l h : Int} {len : Nat} (hh : okBounds l h len = true) : 0 ≤ l ∧ l ≤ h ∧ h ≤ (len : Int) := by simpa [okBounds] using hh

theorem lst_take {cells : List AV} {cap b o d m : Nat} {vs : Nat → Value} (g1 : cells ≠ [] → b < w.heap.size ∧ ¬ own b ∧ ¬ B b) (hm : m ≤ cap)
    (g4 : ∀ i, i < cells.length → w.cell? ⟨b, o + i, none⟩ = some (vs i)) (g5 : ∀ i (h : i < cells.length), Rep w B own ω 0 cells[i] (vs i)) (c : Nat) :
    Rep w B own ω nx (.lst ((cells.drop d).take c) m) (.slice (some ⟨b, o + d, none⟩) m cap) := by
  refine .lst _ _ _ _ b (o + d) (fun i => vs (d + i)) (fun hne => g1 (fun e => by subst e; simp at hne)) hm (fun i hi => ?_) (fun i hi => ?_)
  · simp only [List.length_take, List.length_drop] at hi
    rw [Nat.add_assoc]
    exact g4 _ (by omega)
  · simp only [List.length_take, List.length_drop] at hi
    simp only [List.getElem_take, List.getElem_drop]
    exact g5 _ (by omega)

theorem lst_nil (a : Addr) (cap : Nat) (hs : a.spot = none) : Rep w B own ω nx (.lst [] 0) (.slice (some a) 0 cap) := by
  exact .lstn _ _ _

/-- An operand's bound. -/
def BoundIs (w : World) (B : Nat → Prop) (own : Nat → Prop) (ω : Nat → Option Nat) (nx : Nat) : Option AV → Option Value → Prop
  | none, none => True
  | some a, some v => Rep w B own ω nx a v
  | _, _ => False
theorem bound_int {oa : Option AV} {ov : Option Value} {d : Nat} {l : Int} (hb : BoundIs w B own ω nx oa ov) (h : boundOf oa d = some l) : (ov = none ∧ l = d) ∨ ∃ kd, ov = some (.int kd l) := by
  cases oa with
  | none => cases ov with
    | none => simp only [boundOf, Option.some.injEq] at h; exact .inl ⟨rfl, h.symm⟩
    | some v => exact hb.elim
  | some a => cases ov with
    | none => exact hb.elim
    | some v =>
      simp only [BoundIs] at hb
      cases hb <;> simp only [boundOf] at h <;> try cases h
      exact .inr ⟨_, rfl⟩
theorem bound_none {ov : Option Value} (hb : BoundIs w B own ω nx none ov) : ov = none := by
  cases ov with
  | none => rfl
  | some v => exact hb.elim
theorem bound_some {kd : IntKind} {m : Int} {ov : Option Value} (hb : BoundIs w B own ω nx (some (.int kd m)) ov) : ov = some (.int kd m) := by
  cases ov with
  | none => exact hb.elim
  | some v => cases hb; rfl

/-- The bounds of a slice expression. -/
theorem run_bounds {isS : Bool} {len cap : Nat} {olo ohi : Option Value} {l h : Int} (hlo : (olo = none ∧ l = (0 : Nat)) ∨ ∃ kd, olo = some (.int kd l)) (hhi : (ohi = none ∧ h = len) ∨ ∃ kd, ohi = some (.int kd h))
    (h1 : 0 ≤ l) (h2 : l ≤ h) (h3 : h ≤ cap) : (Instr.sliceBounds isS len cap olo ohi none).run P w = .ok (l.toNat, h.toNat, cap) w := by
  rcases hlo with ⟨rfl, rfl⟩ | ⟨kd, rfl⟩ <;> rcases hhi with ⟨rfl, rfl⟩ | ⟨kd', rfl⟩
  · simp [Instr.sliceBounds, Sem.run, Result.andThen]
  · simp [Instr.sliceBounds, Instr.sliceBound, asIntOf, show 0 ≤ h ∧ h ≤ (cap : Int) from ⟨by omega, h3⟩, Sem.run, Result.andThen]
  · simp [Instr.sliceBounds, Instr.sliceBound, asIntOf, h1, h2, Sem.run, Result.andThen]
  · simp [Instr.sliceBounds, Instr.sliceBound, asIntOf, show 0 ≤ h ∧ h ≤ (cap : Int) from ⟨by omega, h3⟩, h1, show l ≤ max h 0 by omega, Sem.run, Result.andThen]
theorem run_bounds3 {len cap : Nat} {olo ohi : Option Value} {h m : Int} {km : IntKind} (hlo : (olo = none ∧ (0 : Int) = (0 : Nat)) ∨ ∃ kd, olo = some (.int kd 0)) (hhi : ∃ kd, ohi = some (.int kd h))
    (h2 : 0 ≤ h) (h3 : h ≤ m) (h4 : m ≤ cap) : (Instr.sliceBounds true len cap olo ohi (some (.int km m))).run P w = .ok (0, h.toNat, m.toNat) w := by
  obtain ⟨kd', rfl⟩ := hhi
  rcases hlo with ⟨rfl, _⟩ | ⟨kd, rfl⟩
  · simp [Instr.sliceBounds, Instr.sliceBound, asIntOf, show 0 ≤ m ∧ m ≤ (cap : Int) from ⟨by omega, h4⟩, show 0 ≤ h ∧ h ≤ max m 0 from ⟨h2, by omega⟩, Sem.run, Result.andThen]
  · simp [Instr.sliceBounds, Instr.sliceBound, asIntOf, show 0 ≤ m ∧ m ≤ (cap : Int) from ⟨by omega, h4⟩, show 0 ≤ h ∧ h ≤ max m 0 from ⟨h2, by omega⟩, Sem.run, Result.andThen]

/-- The slice expression on a slice. -/
theorem run_slice {t e : TypeId} {inf : TypeInfo} (he : P.underlying t = some (.slice e)) (hinf : P.info? e = some inf) {a : Option Addr} {len cap : Nat} {vlo vhi vmx : Option Value} {l h m : Nat}
    (rb : (Instr.sliceBounds true len cap vlo vhi vmx).run P w = .ok (l, h, m) w) :
    (Instr.sliceAt t (.slice a len cap) vlo vhi vmx).run P w = .ok (.slice (if m = l then a else a.map (·.add (l * inf.size))) (h - l) (m - l)) w := by
  simp [Instr.sliceAt, Instr.slice, run_underlying he, rb, sizeOf, typeInfo, hinf, Sem.run, Result.andThen]
theorem run_sliceArr {t e : TypeId} {n : Nat} {inf : TypeInfo} (he : P.underlying t = some (.array n e)) (hinf : P.info? e = some inf) {a : Addr} {vlo vhi : Option Value} {l h m : Nat}
    (rb : (Instr.sliceBounds false n n vlo vhi none).run P w = .ok (l, h, m) w) :
    (Instr.sliceAt t (.pointer (some a)) vlo vhi none).run P w = .ok (.slice (some (if m = l then a else a.add (l * inf.size))) (h - l) (m - l)) w := by
  simp [Instr.sliceAt, run_underlying he, Instr.sureAddr, rb, sizeOf, typeInfo, hinf, Sem.run, Result.andThen]

theorem slice_es {w' : World} {t e : TypeId} {inf : TypeInfo} (he : P.underlying t = some (.slice e)) (hinf : P.info? e = some inf) {a : Option Addr} {len cap d : Nat} {lo hi : Option AV} {vlo vhi : Option Value} {km : IntKind} (hlo : BoundIs w B own ω nx lo vlo) (hhi : BoundIs w B own ω nx hi vhi)
    (e1 : boundOf lo 0 = some 0) (e2 : boundOf hi d = some 0) (c0 : hi.isSome = true) : (Instr.sliceAt t (.slice a len cap) vlo vhi (some (.int km 0))).run P w' = .ok (.slice a 0 0) w' := by
  have p1 := bound_int hlo e1
  have p2 : ∃ kd, vhi = some (.int kd 0) := by
    rcases bound_int hhi e2 with ⟨h, _⟩ | h
    · subst h
      cases hi with
      | none => cases c0
      | some a => exact hhi.elim
    · exact h
  have rb := run_slice (w := w') he hinf (a := a) (len := len) (run_bounds3 (P := P) (w := w') (len := len) (cap := cap) (km := km) (h := 0) (m := 0) p1 p2 (Int.le_refl _) (Int.le_refl _) (by omega))
  simpa using rb

theorem sliceK_sound {t : TypeId} {x : AV} {u : Value} {lo hi mx : Option AV} {vlo vhi vmx : Option Value} {k : AV → Bool} (hx : Rep w B own ω nx x u)
    (hlo : BoundIs w B own ω nx lo vlo) (hhi : BoundIs w B own ω nx hi vhi) (hmx : BoundIs w B own ω nx mx vmx) (hk : sliceK P t x lo hi mx k false = true) : Reckons P w B own ω nx (Instr.sliceAt t u vlo vhi vmx) k := by
  unfold sliceK at hk
  split at hk
  · rename_i e he
    split at hk
    · rename_i sz hsz
      obtain ⟨inf, hinf, rfl⟩ := elemSize_some hsz
      split at hk
      · -- a slice that nobody writes
        rename_i cells len
        split at hk
        · rename_i l hh e1 e2
          replace hk := of_cond hk; obtain ⟨hok, hk⟩ := hk
          replace hok := of_and hok; obtain ⟨hok, hln⟩ := hok
          obtain ⟨b1, b2, b3⟩ := okBounds_iff hok
          replace hln := of_beq hln
          obtain rfl := bound_none hmx
          have p1 := bound_int hlo e1
          have p2 := bound_int hhi e2
          cases hx with
          | lst _ _ _ cap b o vs g1 g3 g4 g5 =>
            have rb := fun w => run_slice (w := w) he hinf (a := some ⟨b, o, none⟩) (run_bounds (P := P) (w := w) (isS := true) (cap := cap) p1 p2 b1 b2 (by omega))
            refine ⟨_, _, fun w _ => rb w, ?_, hk⟩
            by_cases hz : cap = l.toNat
            · have h0 : hh.toNat - l.toNat = 0 := by omega
              rw [h0, if_pos hz]; simp only [Nat.zero_mul, List.take_zero]
              exact lst_nil _ _ rfl
            · rw [if_neg hz]
              simp only [Option.map_some, addr_add]
              exact lst_take g1 (by omega) g4 g5 _
          | lstn _ a c =>
            have rb := fun w => run_slice (w := w) he hinf (a := a) (run_bounds (P := P) (w := w) (isS := true) (len := 0) (cap := c) p1 p2 b1 b2 (by omega))
            refine ⟨_, _, fun w _ => rb w, ?_, hk⟩
            have h0 : l.toNat = 0 := by omega
            have h1 : hh.toNat = 0 := by omega
            simp only [h0, h1, Nat.sub_self, Nat.zero_mul, List.take_zero]
            exact .lstn _ _ _
        · rename_i l hh km m e1 e2
          replace hk := of_cond hk; obtain ⟨hc, hk⟩ := hk
          replace hc := of_and hc; obtain ⟨c0, c1⟩ := hc
          replace c1 := of_and c1; obtain ⟨c1, c2⟩ := c1
          replace c2 := of_and c2; obtain ⟨c2, c3⟩ := c2
          replace c1 : l = 0 := by simpa using c1
          replace c2 : hh = 0 := by simpa using c2
          replace c3 : m = 0 := by simpa using c3
          subst c1 c2 c3
          obtain rfl := bound_some hmx
          cases hx <;> exact ⟨_, _, fun w' _ => slice_es (w := w) (w' := w') he hinf hlo hhi e1 e2 c0, .es _ _, hk⟩
        · cases hk
      · -- an own slice
        rename_i id off len s app
        split at hk
        · rename_i l hh e1 e2
          replace hk := of_cond hk; obtain ⟨hok, hk⟩ := hk
          replace hok := of_and hok; obtain ⟨hok, hs⟩ := hok
          obtain ⟨b1, b2, b3⟩ := okBounds_iff hok
          replace hs := of_beq hs
          subst hs
          have p1 := bound_int hlo e1
          have p2 := bound_int hhi e2
          split at hk
          · -- no third bound
            obtain rfl := bound_none hmx
            have rb : ∀ (a : Option Addr) (cap : Nat), len ≤ cap → ∀ w : World, _ := fun a cap hc w => run_slice (w := w) he hinf (a := a) (run_bounds (P := P) (w := w) (isS := true) (len := len) (cap := cap) p1 p2 b1 b2 (by omega))
            replace hk := of_cond2 hk; rcases hk with ⟨hl, hk⟩ | ⟨hl, hk⟩
            · replace hl : l = 0 := by simpa using hl
              subst hl
              have az : ∀ (a : Addr) (c : Nat), (if c = Int.toNat 0 then some a else (some a).map (·.add (Int.toNat 0 * inf.size))) = some a := fun a c => by simp [Addr.add]
              cases hx with
              | sl _ _ _ _ _ cap b g1 g2 g3 =>
                refine ⟨_, _, fun w _ => rb _ cap g3 w, ?_, hk⟩
                rw [az]; exact .sl _ _ _ _ _ _ _ g1 g2 (by simp; omega)
              | sla _ _ _ _ cap b g1 g2 g3 g4 g5 =>
                refine ⟨_, _, fun w _ => rb _ cap g3 w, ?_, hk⟩
                rw [az]; exact .sla _ _ _ _ _ _ g1 g2 (by simp; omega) (by simpa using g4) (by simpa using g5)
            · replace hl : ¬ l = 0 := by simpa using hl
              replace hk := of_cond2 hk; rcases hk with ⟨hq, hk⟩ | ⟨hq, hk⟩
              · replace hq : l = hh := by simpa using hq
                subst hq
                have sub0 : l.toNat - l.toNat = 0 := Nat.sub_self _
                have az : ∀ (b off' c : Nat), ∃ a : Addr, a.spot = none ∧ (if c = l.toNat then some (⟨b, off', none⟩ : Addr) else (some (⟨b, off', none⟩ : Addr)).map (·.add (l.toNat * inf.size))) = some a := fun b off' c => by
                  split
                  · exact ⟨_, rfl, rfl⟩
                  · exact ⟨⟨b, off' + l.toNat * inf.size, none⟩, rfl, by simp [addr_add]⟩
                cases hx with
                | sl _ _ _ _ _ cap b g1 g2 g3 =>
                  obtain ⟨a, ha, hE⟩ := az b off cap
                  exact ⟨_, _, fun w _ => rb _ cap g3 w, by rw [hE, sub0]; exact lst_nil _ _ ha, hk⟩
                | sla _ _ _ _ cap b g1 g2 g3 g4 g5 =>
                  obtain ⟨a, ha, hE⟩ := az b 0 cap
                  exact ⟨_, _, fun w _ => rb _ cap g3 w, by rw [hE, sub0]; exact lst_nil _ _ ha, hk⟩
              · replace hq : ¬ l = hh := by simpa using hq
                cases hx with
                | sl _ _ _ _ _ cap b g1 g2 g3 =>
                  refine ⟨_, _, fun w _ => rb _ cap g3 w, ?_, hk⟩
                  rw [if_neg (by omega)]
                  simp only [Option.map_some, addr_add]
                  exact .sl _ _ _ _ _ _ _ g1 g2 (by omega)
                | sla _ _ _ _ cap b g1 g2 g3 g4 g5 =>
                  refine ⟨_, _, fun w _ => rb _ cap g3 w, ?_, hk⟩
                  rw [if_neg (by omega)]
                  simp only [Option.map_some, addr_add]
                  exact .sl _ _ _ _ _ _ _ g1 g2 (by omega)
          · -- three bounds
            rename_i km m
            obtain rfl := bound_some hmx
            replace hk := of_cond hk; obtain ⟨hc, hk⟩ := hk
            replace hc := of_and hc; obtain ⟨c0, c1⟩ := hc
            replace c1 := of_and c1; obtain ⟨c1, c4⟩ := c1
            replace c4 := of_and c4; obtain ⟨c4, c2⟩ := c4
            replace c2 := of_and c2; obtain ⟨c2, c3⟩ := c2
            replace c4 : 0 < m := by simpa using c4
            replace c1 : l = 0 := by simpa using c1
            replace c2 : hh ≤ m := by simpa using c2
            replace c3 : m ≤ (len : Int) := by simpa using c3
            subst c1
            rcases p2 with ⟨rfl, rfl⟩ | ⟨kd2, rfl⟩
            · cases hi with
              | none => cases c0
              | some a => exact hhi.elim
            · have rb : ∀ (a : Option Addr) (cap : Nat), len ≤ cap → ∀ w : World, _ := fun a cap hc w => run_slice (w := w) he hinf (a := a) (len := len) (run_bounds3 (P := P) (w := w) (len := len) (cap := cap) (km := km) p1 ⟨kd2, rfl⟩ b2 c2 (by omega))
              have az : ∀ (a : Addr) (c : Nat), (if c = 0 then some a else (some a).map (·.add (0 * inf.size))) = some a := fun a c => by simp [Addr.add]
              cases hx with
              | sl _ _ _ _ _ cap b g1 g2 g3 =>
                refine ⟨_, _, fun w _ => rb _ cap g3 w, ?_, hk⟩
                rw [az]; exact .sl _ _ _ _ _ _ _ g1 g2 (by omega)
              | sla _ _ _ _ cap b g1 g2 g3 g4 g5 =>
                refine ⟨_, _, fun w _ => rb _ cap g3 w, ?_, hk⟩
                rw [az]; exact .sl _ _ _ _ _ _ _ g1 g2 (by omega)
          · cases hk
        · cases hk
      · split at hk
        · rename_i l hh e1 e2
          replace hk := of_cond hk; obtain ⟨hc, hk⟩ := hk
          replace hc := of_and hc; obtain ⟨c1, c2⟩ := hc
          replace c1 : l = 0 := by simpa using c1
          replace c2 : hh = 0 := by simpa using c2
          subst c1 c2
          obtain rfl := bound_none hmx
          have p1 := bound_int hlo e1
          have p2 := bound_int hhi e2
          cases hx
          have rb := fun w => run_slice (w := w) he hinf (a := none) (run_bounds (P := P) (w := w) (isS := true) (len := 0) (cap := 0) p1 p2 (by omega) (by omega) (by omega))
          refine ⟨_, _, fun w _ => rb w, ?_, hk⟩
          simp only [Option.map_none, ite_self, Int.toNat_zero, Nat.sub_self]
          exact .nils _
        · rename_i l hh km m e1 e2
          replace hk := of_cond hk; obtain ⟨hc, hk⟩ := hk
          replace hc := of_and hc; obtain ⟨c0, c1⟩ := hc
          replace c1 := of_and c1; obtain ⟨c1, c2⟩ := c1
          replace c2 := of_and c2; obtain ⟨c2, c3⟩ := c2
          replace c1 : l = 0 := by simpa using c1
          replace c2 : hh = 0 := by simpa using c2
          replace c3 : m = 0 := by simpa using c3
          subst c1 c2 c3
          obtain rfl := bound_some hmx
          cases hx <;> exact ⟨_, _, fun w' _ => slice_es (w := w) (w' := w') he hinf hlo hhi e1 e2 c0, .es _ _, hk⟩
        · cases hk
      · cases hk
    · cases hk
  · rename_i n e he
    split at hk
    · rename_i sz hsz
      obtain ⟨inf, hinf, rfl⟩ := elemSize_some hsz
      split at hk
      · rename_i l hh e1 e2
        replace hk := of_cond hk; obtain ⟨hok, hk⟩ := hk
        obtain ⟨b1, b2, b3⟩ := okBounds_iff hok
        obtain rfl := bound_none hmx
        have p1 := bound_int hlo e1
        have p2 := bound_int hhi e2
        have rb : ∀ (a : Addr) (w : World), _ := fun a w => run_sliceArr (w := w) he hinf (a := a) (run_bounds (P := P) (w := w) (isS := false) (cap := n) p1 p2 b1 b2 (by omega))
        split at hk
        · rename_i id off
          cases hx with
          | ptr _ _ _ b g1 g2 =>
            replace hk := of_cond2 hk; rcases hk with ⟨hq, hk⟩ | ⟨hq, hk⟩
            · replace hq : l = hh := by simpa using hq
              subst hq
              refine ⟨_, _, fun w _ => rb _ w, ?_, hk⟩
              rw [Nat.sub_self]
              refine lst_nil _ _ ?_
              split
              · rfl
              · simp [addr_add]
            · replace hq : ¬ l = hh := by simpa using hq
              refine ⟨_, _, fun w _ => rb _ w, ?_, hk⟩
              rw [if_neg (by omega), addr_add]
              exact .sl _ _ _ _ _ _ _ g1 g2 (by omega)
        · rename_i cells off
          replace hk := of_cond hk; obtain ⟨hb, hk⟩ := hk
          replace hb := of_ble hb
          cases hx with
          | iptr _ _ _ b o vs g1 g2 g3 =>
            refine ⟨_, _, fun w _ => rb _ w, ?_, hk⟩
            by_cases hz : n = l.toNat
            · have h0 : hh.toNat - l.toNat = 0 := by omega
              rw [h0, if_pos hz]; simp only [Nat.zero_mul, List.take_zero]
              exact lst_nil _ _ rfl
            · rw [if_neg hz, addr_add, Nat.add_assoc]
              exact lst_take g1 (by omega) g2 g3 _
        · cases hk
      · cases hk
    · cases hk
  · cases hk
end
end Go.Bas
end
