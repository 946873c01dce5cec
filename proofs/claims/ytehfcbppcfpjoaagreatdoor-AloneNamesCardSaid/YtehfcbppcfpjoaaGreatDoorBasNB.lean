/- The engine, part B: what each operation does to abstract values and own blocks, in the style of continuations ('Ω': the answer). -/
import Derived.Test.YtehfcbppcfpjoaaGreatDoorBasNA
namespace Go.Bas
open Go.RowKit

/-- What a run leans on: the program, what package-level variables hold, and what summarized functions answer. -/
structure Cfg where
  P : Program
  G : Nat → Option (List AV)
  S : FuncId → Option (List AV → Option (Bool × AV))
  Q : FuncId → Bool := fun _ => false
  X : FuncId → Option (List AV → Mem → TrM) := fun _ => none

inductive CK where
  | b
  | i (k : IntKind)
  | s
  | o
def ckV : Value → CK
  | .bool _ => .b
  | .int k _ => .i k
  | .slice _ _ _ => .s
  | _ => .o
def AV.isNils : AV → Bool | .nils => true | _ => false
def AV.isNs : AV → Bool | .ns => true | _ => false
def AV.isEs : AV → Bool | .es => true | _ => false

section
variable {Ω : Type}

/-- A cell's value in the form that its kind has. -/
def coerce1 (c : CK) (mode : Nat) (v : AV) (k : AV → Ω) (z : Ω) : Ω :=
  match c with
  | .b => cond v.isB (k (.bool v.toB)) z
  | .i kd => cond (v.isI kd) (k (.int kd v.toI)) z
  | .s => match mode with
    | 0 => cond v.isL (k (.lst v.lc v.ln)) (cond v.isNils (k .nils) (cond v.isNs (k .ns) (cond v.isEs (k .es) z)))
    | 1 => cond v.isL (k (.lst v.lc v.ln)) (cond v.isNils (k .nils) (cond v.isNs (k .ns) (cond v.isEs (k .es) z)))
    | _ => k v
  | .o => k v
noncomputable def loadsK (mode : Nat) (cells : List AV) : List CK → Nat → (List AV → Ω) → Ω → Ω
  | [], _, k, _ => k []
  | c :: cs, off, k, z => coerce1 c mode (lget cells off) (fun v => loadsK mode cells cs (off + 1) (fun vs => k (v :: vs)) z) z
noncomputable def lhead (l : List AV) : AV := List.rec (motive := fun _ => AV) .any (fun a _ _ => a) l
noncomputable def ltail (l : List AV) : List AV := List.rec (motive := fun _ => List AV) [] (fun _ r _ => r) l
noncomputable def loadsL (mode : Nat) : List CK → List AV → (List AV → Ω) → Ω → Ω
  | [], _, k, _ => k []
  | c :: cs, l, k, z => coerce1 c mode (lhead l) (fun v => loadsL mode cs (ltail l) (fun vs => k (v :: vs)) z) z
noncomputable def loadsX (mode : Nat) (cells : List AV) (ks : List CK) (off : Nat) (k : List AV → Ω) (z : Ω) : Ω := cond (Nat.ble ks.length 13) (loadsK mode cells ks off k z) (loadsL mode ks (cells.drop off) k z)
def aggD : TypeDesc → Bool
  | .struct _ => true
  | .array _ _ => true
  | _ => false
def kindsOf (i : TypeInfo) : List CK :=
  match i.zero with
  | some v => v.cells.toList.map ckV
  | none => []
noncomputable def loadK (P : Program) (t : TypeId) (mode : Nat) (cells : List AV) (off : Nat) (k : AV → Ω) (z : Ω) : Ω :=
  match P.info? t, P.underlying t with
  | some i, some d => cond (Nat.beq (kindsOf i).length i.size)
      (cond (aggD d) (cond (Nat.ble (off + i.size) cells.length) (loadsX mode cells (kindsOf i) off (fun vs => k (.agg vs)) z) z)
        (cond (Nat.ble (off + 1) cells.length) (match kindsOf i with
          | c :: _ => coerce1 c mode (lget cells off) k z
          | [] => z) z)) z
  | _, _ => z

def AV.cellsL : AV → Option (List AV)
  | .agg cs => some cs
  | .any => none
  | v => some [v]
def setMany : List AV → Nat → List AV → List AV
  | cells, _, [] => cells
  | cells, off, v :: r => setMany (cells.set off v) (off + 1) r
/-- The same at one go. -/
noncomputable def lsplice (cells : List AV) (off : Nat) (vs : List AV) : List AV := List.rec (motive := fun _ => Nat → List AV → List AV) (fun _ _ => []) (fun a r ih n vs => Nat.rec (motive := fun _ => List AV) (match vs with
  | [] => a :: r
  | v :: w => v :: ih 0 w) (fun m _ => a :: ih m vs) n) cells off vs
noncomputable def setAt (cells : List AV) (off : Nat) (vs : List AV) : List AV := match vs with
  | [] => cells
  | [v] => cells.set off v
  | v :: w :: r => lsplice cells off (v :: w :: r)

def zeroCells (P : Program) (t : TypeId) : Option (List AV) :=
  match P.info? t with
  | some i => match i.zero with
    | some v => cond (Nat.beq v.cells.size i.size) (some (v.cells.toList.map ofS)) none
    | none => none
  | none => none

/-- Parts laid into the cells of a literal. -/
noncomputable def fillK (place : Nat → Option (Nat × Nat)) : List AV → List (Nat × AV) → (List AV → Ω) → Ω → Ω
  | cells, [], k, _ => k cells
  | cells, (i, v) :: rest, k, z =>
    match place i, v.cellsL with
    | some (off, size), some vs => cond (Nat.beq vs.length size && Nat.ble (off + vs.length) cells.length) (fillK place (setAt cells off vs) rest k z) z
    | _, _ => z

def fieldPlaces (P : Program) (fs : Array Field) : Nat → Option (Nat × Nat) := fun j =>
  match fs[j]? with
  | some f => match P.info? f.type with
    | some i => some (f.offset, i.size)
    | none => none
  | none => none
def infosOk (P : Program) (fs : Array Field) : Bool := fs.toList.all fun f => (P.info? f.type).isSome

noncomputable def buildK (P : Program) (t : TypeId) (parts : List (Nat × AV)) (k : AV → Ω) (z : Ω) : Ω :=
  match zeroCells P t, P.underlying t with
  | some zs, some (.struct fs) => cond (infosOk P fs) (fillK (fieldPlaces P fs) zs parts (fun cs => k (.agg cs)) z) z
  | some zs, some (.array _ e) => match P.info? e with
    | some i => fillK (fun j => some (j * i.size, i.size)) zs parts (fun cs => k (.agg cs)) z
    | none => z
  | _, _ => z

/-- A value that shows itself only where the number is known: the kernel goes no further where it isn't. -/
def held (x y : Int) (a : Int) : Int := match x with
  | .ofNat _ => match y with
    | .ofNat _ => a
    | .negSucc _ => a
  | .negSucc _ => match y with
    | .ofNat _ => a
    | .negSucc _ => a
theorem held_eq (x y a : Int) : held x y a = a := by cases x <;> cases y <;> rfl
def iand (k : IntKind) (x y : Int) : Int := held x y (k.wrap ((BitVec.ofInt k.bits x &&& BitVec.ofInt k.bits y).toNat : Int))
def ior (k : IntKind) (x y : Int) : Int := held x y (k.wrap ((BitVec.ofInt k.bits x ||| BitVec.ofInt k.bits y).toNat : Int))
def ixor (k : IntKind) (x y : Int) : Int := held x y (k.wrap ((BitVec.ofInt k.bits x ^^^ BitVec.ofInt k.bits y).toNat : Int))
def iandNot (k : IntKind) (x y : Int) : Int := held x y (k.wrap ((BitVec.ofInt k.bits x &&& ~~~ BitVec.ofInt k.bits y).toNat : Int))
def ishl (k : IntKind) (x y : Int) : Int := k.wrap (x * 2 ^ (min y.toNat k.bits))
def ishr (k : IntKind) (x y : Int) : Int := x.fdiv (2 ^ (min y.toNat k.bits))

def ibinK (op : BinOp) (kd kd' : IntKind) (x y : Int) (k : AV → Ω) (z : Ω) : Ω :=
  match op with
  | .shl => cond (decide (y < 0)) z (k (.int kd (ishl kd x y)))
  | .shr => cond (decide (y < 0)) z (k (.int kd (ishr kd x y)))
  | .add => cond (kindEq kd kd') (k (.int kd (kd.wrap (x + y)))) z
  | .sub => cond (kindEq kd kd') (k (.int kd (kd.wrap (x - y)))) z
  | .mul => cond (kindEq kd kd') (k (.int kd (kd.wrap (x * y)))) z
  | .quo => cond (kindEq kd kd') (cond (decide (y = 0)) z (k (.int kd (kd.wrap (x.tdiv y))))) z
  | .rem => cond (kindEq kd kd') (cond (decide (y = 0)) z (k (.int kd (x.tmod y)))) z
  | .and => cond (kindEq kd kd') (k (.int kd (iand kd x y))) z
  | .or => cond (kindEq kd kd') (k (.int kd (ior kd x y))) z
  | .xor => cond (kindEq kd kd') (k (.int kd (ixor kd x y))) z
  | .andNot => cond (kindEq kd kd') (k (.int kd (iandNot kd x y))) z
  | .eql => cond (kindEq kd kd') (k (.bool (x == y))) z
  | .neq => cond (kindEq kd kd') (k (.bool (x != y))) z
  | .lss => cond (kindEq kd kd') (k (.bool (decide (x < y)))) z
  | .leq => cond (kindEq kd kd') (k (.bool (decide (x ≤ y)))) z
  | .gtr => cond (kindEq kd kd') (k (.bool (decide (x > y)))) z
  | .geq => cond (kindEq kd kd') (k (.bool (decide (x ≥ y)))) z

/-- The fields of a struct of numbers and bools, one behind the other. -/
def flatFs (P : Program) (g : TypeId → Option (List CK)) : List Field → List CK → Option (List CK)
  | [], ks => some ks
  | f :: r, ks => cond (Nat.beq f.offset ks.length && f.name != "_") (match g f.type, P.info? f.type with
    | some ms, some i => cond (Nat.beq i.size ms.length) (flatFs P g r (ks ++ ms)) none
    | _, _ => none) none
/-- A type of numbers and bools alone: the kinds of its cells. -/
def flatT (P : Program) : Nat → TypeId → Option (List CK)
  | 0, _ => none
  | d + 1, t =>
    match P.underlying t with
    | some .bool => some [.b]
    | some (.int k) => some [.i k]
    | some (.struct fs) => cond (P.stoodInHeld t) none (flatFs P (flatT P d) fs.toList [])
    | _ => none
def fit1 : CK → AV → AV → Bool
  | .b, .bool _, .bool _ => true
  | .i k, .int k1 _, .int k2 _ => kindEq k k1 && kindEq k k2
  | _, _, _ => false
def fitL : List CK → List AV → List AV → Bool
  | [], [], [] => true
  | k :: ks, a :: r, b :: s => fit1 k a b && fitL ks r s
  | _, _, _ => false
def eq1 : AV → AV → Bool
  | .int _ a, .int _ b => a == b
  | .bool a, .bool b => a == b
  | _, _ => false
def eqL : List AV → List AV → Bool
  | a :: r, b :: s => eq1 a b && eqL r s
  | _, _ => true

def eqopK (op : BinOp) (b : Bool) (k : AV → Ω) (z : Ω) : Ω :=
  match op with
  | .eql => k (.bool b)
  | .neq => k (.bool (!b))
  | _ => z
def isConstO : Operand → Bool
  | .const _ => true
  | _ => false
def binK (P : Program) (op : BinOp) (t : TypeId) (ox oy : Operand) (x y : AV) (k : AV → Ω) (z : Ω) : Ω :=
  match x, y with
  | .int kd a, .int kd' b => ibinK op kd kd' a b k z
  | .bool a, .bool b => match P.underlying t with
    | some .bool => eqopK op (a == b) k z
    | _ => z
  | .agg xs, .agg ys => match P.underlying t, flatT P 8 t with
    | some (.struct _), some ks => cond (fitL ks xs ys && !P.eqGuardType P.depth t) (eqopK op (eqL xs ys) k z) z
    | _, _ => z
  | .nilp, .nilp => match P.underlying t with
    | some (.pointer _) => eqopK op true k z
    | _ => z
  | .nilp, .ptr _ _ | .ptr _ _, .nilp => match P.underlying t with
    | some (.pointer _) => eqopK op false k z
    | _ => z
  | .nilp, .iptr _ _ | .iptr _ _, .nilp => match P.underlying t with
    | some (.pointer _) => eqopK op false k z
    | _ => z
  | .niliface, .niliface => match P.underlying t with
    | some (.interface _) => cond (isConstO ox || isConstO oy) (eqopK op true k z) z
    | _ => z
  | .niliface, .iface _ _ | .iface _ _, .niliface => match P.underlying t with
    | some (.interface _) => eqopK op false k z
    | _ => z
  | .nilfn, .nilfn => match P.underlying t with
    | some (.func _ _ _) => eqopK op true k z
    | _ => z
  | .nilfn, .fn _ _ _ | .fn _ _ _, .nilfn => match P.underlying t with
    | some (.func _ _ _) => eqopK op false k z
    | _ => z
  | .nils, .nils => match P.underlying t with
    | some (.slice _) => eqopK op true k z
    | _ => z
  | .nils, .sl _ _ _ _ _ | .sl _ _ _ _ _, .nils => match P.underlying t with
    | some (.slice _) => eqopK op false k z
    | _ => z
  | .nils, .lst (_ :: _) _ | .lst (_ :: _) _, .nils => match P.underlying t with
    | some (.slice _) => eqopK op false k z
    | _ => z
  | .nils, .ns | .ns, .nils => match P.underlying t with
    | some (.slice _) => eqopK op false k z
    | _ => z
  | _, _ => z

def unK (op : UnOp) (x : AV) (k : AV → Ω) (z : Ω) : Ω :=
  match op, x with
  | .not, .bool b => k (.bool (!b))
  | .neg, .int kd n => k (.int kd (kd.wrap (0 - n)))
  | .xor, .int kd n => k (.int kd (ixor kd (if kd.signed then -1 else kd.max) n))
  | _, _ => z
def convK (P : Program) (src dst : TypeId) (x : AV) (k : AV → Ω) (z : Ω) : Ω :=
  match x with
  | .int _ n => match P.underlying src, P.underlying dst with
    | some _, some (.int kd) => k (.int kd (kd.wrap n))
    | _, _ => z
  | _ => z

def fieldOff (P : Program) (s : TypeId) (f : Nat) : Option (Nat × TypeId) :=
  match P.underlying s with
  | some (.struct fs) => match fs[f]? with
    | some fl => match P.info? fl.type with
      | some i => cond (Nat.beq i.size 0) none (some (fl.offset, fl.type))
      | none => none
    | none => none
  | _ => none
def fieldAddrK (P : Program) (s : TypeId) (x : AV) (f : Nat) (k : AV → Ω) (z : Ω) : Ω :=
  match fieldOff P s f with
  | some (o, _) => match x with
    | .ptr id off => k (.ptr id (off + o))
    | .iptr cells off => k (.iptr cells (off + o))
    | _ => z
  | none => z
/-- A part of a struct's or an array's value. -/
def partK (P : Program) (t : TypeId) (cs : List AV) (off : Nat) (k : AV → Ω) (z : Ω) : Ω :=
  match P.info? t, P.underlying t with
  | some i, some d => cond (aggD d) (cond (Nat.ble (off + i.size) cs.length) (k (.agg ((cs.drop off).take i.size))) z)
      (match cs[off]? with
        | some v => k v
        | none => z)
  | _, _ => z
def fieldK (P : Program) (t : TypeId) (x : AV) (f : Nat) (k : AV → Ω) (z : Ω) : Ω :=
  match P.underlying t, x with
  | some (.struct fs), .agg cs => match fs[f]? with
    | some fl => partK P fl.type cs fl.offset k z
    | none => z
  | _, _ => z
def inside (n : Int) (len : Nat) : Bool := decide (0 ≤ n) && decide (n < (len : Int))
def elemSize (P : Program) (e : TypeId) : Option Nat := (P.info? e).map (·.size)
def indexAddrK (P : Program) (t : TypeId) (x i : AV) (k : AV → Ω) (z : Ω) : Ω :=
  match i with
  | .int _ n => match P.underlying t with
    | some (.slice e) => match elemSize P e with
      | some sz => match x with
        | .lst cells len => cond (inside n len && Nat.beq cells.length (len * sz)) (k (.iptr cells (n.toNat * sz))) z
        | .sl id off len _ _ => cond (inside n len) (k (.ptr id (off + n.toNat * sz))) z
        | _ => z
      | none => z
    | some (.array len e) => match elemSize P e with
      | some sz => match x with
        | .iptr cells off => cond (inside n len) (k (.iptr cells (off + n.toNat * sz))) z
        | .ptr id off => cond (inside n len) (k (.ptr id (off + n.toNat * sz))) z
        | _ => z
      | none => z
    | _ => z
  | _ => z
def indexK (P : Program) (t : TypeId) (x i : AV) (k : AV → Ω) (z : Ω) : Ω :=
  match i, x with
  | .int _ n, .agg cs => match P.underlying t with
    | some (.array len e) => match elemSize P e with
      | some sz => cond (inside n len) (partK P e cs (n.toNat * sz) k z) z
      | none => z
    | _ => z
  | .int _ n, .str s => match P.underlying t with
    | some .string => cond (decide (0 ≤ n)) (match s[n.toNat]? with
      | some b => k (.int .u8 b.toNat)
      | none => z) z
    | _ => z
  | _, _ => z
def boundOf (o : Option AV) (d : Nat) : Option Int :=
  match o with
  | none => some d
  | some (.int _ n) => some n
  | some _ => none
def okBounds (lo hi : Int) (len : Nat) : Bool := decide (0 ≤ lo) && (decide (lo ≤ hi) && decide (hi ≤ (len : Int)))
def sliceK (P : Program) (t : TypeId) (x : AV) (lo hi mx : Option AV) (k : AV → Ω) (z : Ω) : Ω :=
  match P.underlying t with
  | some (.slice e) => match elemSize P e with
    | some sz => match x with
      | .lst cells len => match boundOf lo 0, boundOf hi len, mx with
        | some l, some h, none => cond (okBounds l h len && Nat.beq cells.length (len * sz)) (k (.lst ((cells.drop (l.toNat * sz)).take ((h.toNat - l.toNat) * sz)) (h.toNat - l.toNat))) z
        | some l, some h, some (.int _ m) => cond (hi.isSome && (decide (l = 0) && (decide (h = 0) && decide (m = 0)))) (k .es) z
        | _, _, _ => z
      | .sl id off len s app => match boundOf lo 0, boundOf hi len with
        | some l, some h => cond (okBounds l h len && Nat.beq s sz)
          (match mx with
            | none => cond (decide (l = 0)) (k (.sl id off h.toNat sz app)) (cond (decide (l = h)) (k (.lst [] 0)) (k (.sl id (off + l.toNat * sz) (h.toNat - l.toNat) sz false)))
            | some (.int _ m) => cond (hi.isSome && (decide (l = 0) && (decide (0 < m) && (decide (h ≤ m) && decide (m ≤ (len : Int)))))) (k (.sl id off h.toNat sz false)) z
            | some _ => z) z
        | _, _ => z
      | .nils => match boundOf lo 0, boundOf hi 0, mx with
        | some l, some h, none => cond (decide (l = 0) && decide (h = 0)) (k .nils) z
        | some l, some h, some (.int _ m) => cond (hi.isSome && (decide (l = 0) && (decide (h = 0) && decide (m = 0)))) (k .es) z
        | _, _, _ => z
      | _ => z
    | none => z
  | some (.array n e) => match elemSize P e with
    | some sz => match boundOf lo 0, boundOf hi n, mx with
      | some l, some h, none => cond (okBounds l h n)
        (match x with
          | .ptr id off => cond (decide (l = h)) (k (.lst [] 0)) (k (.sl id (off + l.toNat * sz) (h.toNat - l.toNat) sz false))
          | .iptr cells off => cond (Nat.ble (off + n * sz) cells.length) (k (.lst ((cells.drop (off + l.toNat * sz)).take ((h.toNat - l.toNat) * sz)) (h.toNat - l.toNat))) z
          | _ => z) z
      | _, _, _ => z
    | none => z
  | _ => z

/-- The cells of a slice, as many as it has. -/
noncomputable def srcK (h : Heap) (sz : Nat) (x : AV) (k : List AV → Nat → Bool → Ω) (z : Ω) : Ω :=
  match x with
  | .nils => k [] 0 true
  | .es => k [] 0 true
  | .ns => k [] 0 true
  | .lst cells n => cond (Nat.beq cells.length (n * sz)) (k cells n true) z
  | .sl id off n s _ => match hget h id with
    | some hb => cond (Nat.beq s sz && Nat.ble (off + n * sz) hb.cells.length) (k ((hb.cells.drop off).take (n * sz)) n hb.pure) z
    | none => z
  | _ => z
/-- A value of one cell. -/
def AV.one : AV → Bool
  | .agg _ => false
  | .tup _ => false
  | .any => false
  | _ => true
def okBytes (n bytes : Nat) : Bool := Nat.ble n maxLen && Nat.ble (n * bytes) 140737488355328

noncomputable def appendK (P : Program) (h : Heap) (nx : Nat) (t t' : TypeId) (s x : AV) (k : AV → Heap → Nat → Ω) (z : Ω) : Ω :=
  cond (Nat.beq t t') (match P.underlying t with
  | some (.slice e) => match P.info? e with
    | some i => cond (Nat.blt 0 i.size && (match i.zero with | some v => Nat.beq v.cells.size i.size | none => false))
      (srcK h i.size x (fun new m pn => cond (new.all AV.one) (match s with
        | .nils => cond (Nat.beq m 0) (k .nils h nx) (cond (okBytes m i.bytes) (k (.sl nx 0 m i.size true) ((nx, ⟨new, e, pn⟩) :: h) (nx + 1)) z)
        | .es => cond (Nat.beq m 0) (k .es h nx) (cond (okBytes m i.bytes) (k (.sl nx 0 m i.size true) ((nx, ⟨new, e, pn⟩) :: h) (nx + 1)) z)
        | .sl id 0 n sz true => match hget h id with
          | some hb => cond (Nat.beq sz i.size && (Nat.beq hb.elem e && (Nat.ble (n * sz) hb.cells.length && okBytes (n + m) i.bytes)))
              (k (.sl nx 0 (n + m) i.size true) ((nx, ⟨hb.cells.take (n * sz) ++ new, e, hb.pure && pn⟩) :: hdel h id) (nx + 1)) z
          | none => z
        | _ => z) z) z) z
    | none => z
  | _ => z) z
noncomputable def copyK (P : Program) (h : Heap) (t : TypeId) (d x : AV) (k : AV → Heap → Ω) (z : Ω) : Ω :=
  match P.underlying t with
  | some (.slice e) => match elemSize P e with
    | some sz => match d with
      | .sl id off n s _ => match hget h id with
        | some hb => cond (Nat.beq s sz && Nat.ble (off + n * sz) hb.cells.length)
          (srcK h sz x (fun new m pn => cond (new.all AV.one) (k (.int .i64 (Nat.min m n : Nat)) (hset h id ⟨hb.cells.take off ++ new.take (Nat.min m n * sz) ++ hb.cells.drop (off + Nat.min m n * sz), hb.elem, hb.pure && pn⟩)) z) z) z
        | none => z
      | _ => z
    | none => z
  | _ => z
def makeSliceK (P : Program) (h : Heap) (nx : Nat) (t : TypeId) (len cap : AV) (k : AV → Heap → Nat → Ω) (z : Ω) : Ω :=
  match P.underlying t, len, cap with
  | some (.slice e), .int _ l, .int _ c => match P.info? e, zeroCells P e with
    | some i, some zs => cond (decide (0 ≤ l) && (decide (l ≤ c) && okBytes c.toNat i.bytes))
        (k (.sl nx 0 l.toNat i.size true) ((nx, ⟨(List.replicate c.toNat zs).flatten, e, true⟩) :: h) (nx + 1)) z
    | _, _ => z
  | _, _, _ => z
def lenK (P : Program) (t : TypeId) (x : AV) (k : AV → Ω) (z : Ω) : Ω :=
  match P.underlying t with
  | some (.slice _) => match x with
    | .nils => k (.int .i64 0)
    | .es => k (.int .i64 0)
    | .ns => k (.int .i64 0)
    | .lst _ n => k (.int .i64 n)
    | .sl _ _ n _ _ => k (.int .i64 n)
    | _ => z
  | some (.array n _) => k (.int .i64 n)
  | _ => z
def imin (x y : Int) : Int := if y < x then y else x
def imax (x y : Int) : Int := if y > x then y else x
def foldIntK (f : Int → Int → Int) : IntKind → Int → List AV → (AV → Ω) → Ω → Ω
  | kd, n, [], k, _ => k (.int kd n)
  | kd, n, .int _ m :: r, k, z => foldIntK f kd (f n m) r k z
  | _, _, _ :: _, _, z => z
def minmaxK (f : Int → Int → Int) (args : List AV) (k : AV → Ω) (z : Ω) : Ω :=
  match args with
  | .int kd n :: r => foldIntK f kd n r k z
  | _ => z

/-- Whom a call leads to: a function, or a round of a loop over a function. -/
inductive Tgt where
  | fn (f : FuncId)
  | yld (id : Nat)
/-- A method of a value's type, and the receiver. -/
def methodK (P : Program) (t : TypeId) (v : AV) (name : String) : Option (FuncId × AV) :=
  match P.info? t with
  | some i => match i.methods.find? (·.name == name) with
    | some m => cond m.path.isEmpty (match m.func, P.underlying t with
      | some (f, true), some (.pointer _) => some (f, v)
      | some (f, false), some (.struct _) => some (f, v)
      | some (f, false), some (.int _) => some (f, v)
      | _, _ => none) none
    | none => none
  | none => none
/-- A concrete type asked of an interface's value. -/
def assertK (P : Program) (x : AV) (asserted : TypeId) (ok : Bool) (k : AV → Ω) (z : Ω) : Ω :=
  match P.underlying asserted, P.info? asserted with
  | some (.interface _), _ => z
  | some _, some i => match x, i.zero with
    | .iface t v, some zv => cond (Nat.beq t asserted) (k (cond ok (.tup [v, .bool true]) v)) (cond ok (k (.tup [ofV zv, .bool false])) z)
    | .niliface, some zv => cond ok (k (.tup [ofV zv, .bool false])) z
    | _, _ => z
  | _, _ => z

/-- Lists of operands' values. -/
def argsL (ρ : Operand → AV) (l : Array Operand) : List AV := l.toList.map ρ

noncomputable def callK (C : Cfg) (ρ : Operand → AV) (h : Heap) (nx : Nat) (c : Call) (kv : AV → Heap → Nat → Ω) (kc : Tgt → List AV → Ω) (kp : AV → Ω) (z : Ω) : Ω :=
  match c.callee with
  | .value f => match ρ f with
    | .fn (.func g) first cap => kc (.fn g) (first ++ argsL ρ c.args ++ cap)
    | .yld id => kc (.yld id) (argsL ρ c.args)
    | _ => z
  | .invoke recv name => match ρ recv with
    | .iface t v => match methodK C.P t v name with
      | some (f, r) => kc (.fn f) (r :: argsL ρ c.args)
      | none => z
    | _ => z
  | .builtin .panic => match argsL ρ c.args with
    | .iface t v :: _ => kp (.iface t v)
    | _ => z
  | .builtin .len => match argsL ρ c.args, c.argTypes.toList with
    | x :: _, t :: _ => lenK C.P t x (fun v => kv v h nx) z
    | _, _ => z
  | .builtin .append => match argsL ρ c.args, c.argTypes.toList with
    | [s, x], [t, t'] => appendK C.P h nx t t' s x kv z
    | _, _ => z
  | .builtin .copy => match argsL ρ c.args, c.argTypes.toList with
    | [d, x], t :: _ => copyK C.P h t d x (fun v h' => kv v h' nx) z
    | _, _ => z
  | .builtin .min => minmaxK imin (argsL ρ c.args) (fun v => kv v h nx) z
  | .builtin .max => minmaxK imax (argsL ρ c.args) (fun v => kv v h nx) z
  | _ => z

/-- One operation. 'kv': it has yielded a value; 'kc': it calls a function. -/
noncomputable def aop (C : Cfg) (ρ : Operand → AV) (h : Heap) (nx : Nat) (op : Op) (kv : AV → Heap → Nat → Ω) (kc : Tgt → List AV → Ω) (kp : AV → Ω) (z : Ω) : Ω :=
  match op with
  | .move x => kv (ρ x) h nx
  | .assign x => kv (ρ x) h nx
  | .pick c a b => match ρ c with
    | .bool t => cond t (kv (ρ a) h nx) (kv (ρ b) h nx)
    | _ => z
  | .alloc t => match zeroCells C.P t with
    | some cs => kv (.ptr nx 0) ((nx, ⟨cs, t, true⟩) :: h) (nx + 1)
    | none => z
  | .box t x => match (ρ x).cellsL with
    | some cs => kv (.ptr nx 0) ((nx, ⟨cs, t, cs.all (AV.noRef 2)⟩) :: h) (nx + 1)
    | none => z
  | .build t parts => buildK C.P t (parts.toList.map fun p => (p.1, ρ p.2)) (fun v => kv v h nx) z
  | .buildSlice t len parts => match C.P.underlying t with
    | some (.slice e) => match C.P.info? e, zeroCells C.P e with
      | some i, some zs => cond (Nat.ble (len * i.size) 16777216 && Nat.ble len maxLen) (fillK (fun j => some (j * i.size, i.size)) (List.replicate len zs).flatten (parts.toList.map fun p => (p.1, ρ p.2))
          (fun cs => kv (.sl nx 0 len i.size true) ((nx, ⟨cs, e, cs.all (AV.noRef 2)⟩) :: h) (nx + 1)) z) z
      | _, _ => z
    | _ => z
  | .load t x => match ρ x with
    | .ptr id off => match hget h id with
      | some hb => loadK C.P t (cond hb.pure 1 2) hb.cells off (fun v => kv v h nx) z
      | none => z
    | .iptr cells off => loadK C.P t 0 cells off (fun v => kv v h nx) z
    | _ => z
  | .store t x v => match ρ x, (ρ v).cellsL, C.P.info? t with
    | .ptr id off, some vs, some i => match hget h id with
      | some hb => cond (vs.all AV.one && (Nat.beq vs.length i.size && Nat.ble (off + vs.length) hb.cells.length)) (kv (.tup []) (hset h id ⟨setAt hb.cells off vs, hb.elem, hb.pure && vs.all (AV.noRef 2)⟩) nx) z
      | none => z
    | _, _, _ => z
  | .nilCheck x => match ρ x with
    | .ptr id off => kv (.ptr id off) h nx
    | .iptr c off => kv (.iptr c off) h nx
    | .fn (.func g) fs cs => kv (.fn (.func g) fs cs) h nx
    | _ => z
  | .binOp op t x y _ => binK C.P op t x y (ρ x) (ρ y) (fun v => kv v h nx) z
  | .unOp op _ x => unK op (ρ x) (fun v => kv v h nx) z
  | .convert src dst x => convK C.P src dst (ρ x) (fun v => kv v h nx) z
  | .makeInterface t x => match C.P.underlying t with
    | some (.interface _) => z
    | some _ => kv (.iface t (ρ x)) h nx
    | none => z
  | .makeFunc fn first cap => kv (.fn fn (argsL ρ first) (argsL ρ cap)) h nx
  | .makeSlice t l c => makeSliceK C.P h nx t (ρ l) (ρ c) kv z
  | .slice t x lo hi mx => sliceK C.P t (ρ x) (lo.map ρ) (hi.map ρ) (mx.map ρ) (fun v => kv v h nx) z
  | .fieldAddr s x f => fieldAddrK C.P s (ρ x) f (fun v => kv v h nx) z
  | .field t x f => fieldK C.P t (ρ x) f (fun v => kv v h nx) z
  | .indexAddr t x i => indexAddrK C.P t (ρ x) (ρ i) (fun v => kv v h nx) z
  | .index t x i => indexK C.P t (ρ x) (ρ i) (fun v => kv v h nx) z
  | .extract x i => match ρ x with
    | .tup vs => match vs[i]? with
      | some v => kv v h nx
      | none => z
    | _ => z
  | .typeAssert x _ asserted ok => assertK C.P (ρ x) asserted ok (fun v => kv v h nx) z
  | .panic x => match ρ x with
    | .iface t v => kp (.iface t v)
    | _ => z
  | .call c => callK C ρ h nx c kv kc kp z
  | _ => z
end
end Go.Bas
