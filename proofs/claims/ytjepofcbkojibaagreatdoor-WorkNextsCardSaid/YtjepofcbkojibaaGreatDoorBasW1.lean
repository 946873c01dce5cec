/- The engine, part A: abstract values and heaps, how they stand for the model's, and how that relation; The engine, part B: what each operation does to abstract values and own blocks, in the style of cont; The engine, part C: the operations of part B are the model's; The engine, part D: operations that yield values of numbers, addresses and parts. -/
import Derived.WalkKit
import Derived.WalkSpells
import Derived.WalkLawsBesides
import Derived.ProofKit
set_option maxRecDepth 100000
set_option maxHeartbeats 4000000
set_option linter.unusedVariables false
set_option linter.unusedSimpArgs false
section
namespace Go.Bas
theorem Nlb {n m:Nat} (h:Nat.ble n m=true):n ≤ m:=Nat.le_of_ble_eq_true h
theorem Bae (a b:Bool):((a&&b)=true)=(a=true ∧ b=true):=Bool.and_eq_true a b
theorem Dni {p:Prop} [i:Decidable p]:(decide p=false)=¬p:=by simp only [decide_eq_false_iff_not]
theorem Dte {p:Prop} [i:Decidable p]:(decide p=true)=p:=decide_eq_true_eq
theorem Odf {p:Prop} [i:Decidable p] (h:decide p=false):¬p:=of_decide_eq_false h
theorem Odt {p:Prop} [i:Decidable p] (h:decide p=true):p:=of_decide_eq_true h
theorem Ddf {p:Prop} [i:Decidable p] (h:¬p):decide p=false:=decide_eq_false h
theorem Ddt {p:Prop} [i:Decidable p] (h:p):decide p=true:=decide_eq_true h
noncomputable section
open Go.RowKit
inductive AV where
 | any
 | bool (b:Bool)
 | int (k:IntKind) (n:Int)
 | str (s:ByteArray)
 | nilp
 | ptr (id off:Nat)
 | iptr (cells:List AV) (off:Nat)
 | nils
 | es
 | ns
 | lst (cells:List AV) (n:Nat)
 | sl (id off n sz:Nat) (app:Bool)
 | fn (f:Fn) (first cap:List AV)
 | yld (id:Nat)
 | nilfn
 | iface (t:TypeId) (v:AV)
 | niliface
 | agg (cs:List AV)
 | tup (vs:List AV)
 deriving Inhabited
def AV.isB:AV->Bool | .bool _=>true | _=>false
def AV.toB:AV->Bool | .bool b=>b | _=>false
def G9:IntKind->IntKind->Bool
 | .i8,.i8 | .i16,.i16 | .i32,.i32 | .i64,.i64 | .u8,.u8 | .u16,.u16 | .u32,.u32 | .u64,.u64=>true
 | _,_=>false
theorem kindEq_eq {a b:IntKind} (h:G9 a b=true):a=b:=by
 cases a <;> cases b <;> first | rfl | exact absurd h (by decide)
def AV.isI (k:IntKind):AV->Bool | .int k' _=>G9 k' k | _=>false
def AV.toI:AV->Int | .int _ n=>n | _=>0
def AV.isL:AV->Bool | .lst _ _=>true | _=>false
def AV.lc:AV->List AV | .lst c _=>c | _=>[]
def AV.ln:AV->Nat | .lst _ n=>n | _=>0
theorem AV.of_isB {v:AV} (h:v.isB=true):v=.bool v.toB:=by cases v <;> first | rfl | cases h
theorem AV.of_isI {k:IntKind} {v:AV} (h:v.isI k=true):v=.int k v.toI:=by
 cases v <;> first | (rw [AV.isI] at h;rw [kindEq_eq h];rfl) | cases h
structure HB where
 cells:List AV
 elem:TypeId
 pure:Bool
abbrev Heap:=List (Nat × HB)
def Dl (h:Heap) (id:Nat):Option HB:=List.rec (motive:=fun _=>Option HB) none (fun p _ ih=>cond (Nat.beq p.1 id) (some p.2) ih) h
theorem Abc (id:Nat):Dl [] id=none:=rfl
theorem Ei (i:Nat) (b:HB) (r:Heap) (id:Nat):Dl ((i,b) :: r) id=cond (Nat.beq i id) (some b) (Dl r id):=rfl
def lget (l:List AV) (n:Nat):AV:=List.rec (motive:=fun _=>Nat->AV) (fun _=>.any) (fun a _ ih n=>Nat.rec (motive:=fun _=>AV) a (fun m _=>ih m) n) l n
def Va (l:List AV) (n:Nat) (v:AV):List AV:=List.rec (motive:=fun _=>Nat->List AV) (fun _=>[]) (fun a r ih n=>Nat.rec (motive:=fun _=>List AV) (v :: r) (fun m _=>a :: ih m) n) l n
theorem Ja:∀ (l:List AV) (n:Nat),lget l n=l.getD n .any
 | [],n=>by cases n <;> rfl
 | a :: r,0=>rfl
 | a :: r,n + 1=>by show lget r n=_;rw [Ja r n];rfl
theorem Tn:∀ (l:List AV) (n:Nat) (v:AV),Va l n v=l.set n v
 | [],n,v=>by cases n <;> rfl
 | a :: r,0,v=>rfl
 | a :: r,n + 1,v=>by show a :: Va r n v=_;rw [Tn r n];rfl
def hset:Heap->Nat->HB->Heap
 | [],_,_=>[]
 | (i,b) :: r,id,x=>cond (Nat.beq i id) ((i,x) :: r) ((i,b) :: hset r id x)
def Aga:Heap->Nat->Heap
 | [],_=>[]
 | (i,b) :: r,id=>cond (Nat.beq i id) (Aga r id) ((i,b) :: Aga r id)
theorem Ea (a b:Nat):Nat.beq a b=true ↔ a=b:=Nat.beq_eq ▸ Iff.rfl
theorem Ajz (h:Heap) (id j:Nat) (x:HB):Dl (hset h id x) j=if j=id then (Dl h id).map (fun _=>x) else Dl h j:=by
 induction h with
 | nil=>simp [hset,Abc]
 | cons a r ih =>
  obtain ⟨i,b⟩:=a;simp only [hset];cases hi:Nat.beq i id with
  | true =>
   have hi':=(Ea i id).1 hi;subst hi';simp only [cond_true,Ei]
   by_cases hj:j=i
   ·subst hj;simp
   ·have:Nat.beq i j=false:=by
     cases h:Nat.beq i j with
     | false=>rfl
     | true=>exact absurd ((Ea i j).1 h).symm hj
    simp [this,hj]
  | false =>
   simp only [cond_false,Ei];cases hj:Nat.beq i j with
   | true =>
    have hj':=(Ea i j).1 hj;subst hj';have hne:¬ i=id:=fun e=>by subst e;rw [hi] at hj;cases hj
    simp [hne]
   | false =>
    simp only [cond_false,ih,hi]
theorem Aj0 (h:Heap) (id j:Nat):Dl (Aga h id) j=if j=id then none else Dl h j:=by
 induction h with
 | nil=>simp [Aga,Abc]
 | cons a r ih =>
  obtain ⟨i,b⟩:=a;simp only [Aga];cases hi:Nat.beq i id with
  | true =>
   have hi':=(Ea i id).1 hi;subst hi';simp only [cond_true,ih,Ei]
   by_cases hj:j=i
   ·simp [hj]
   ·have:Nat.beq i j=false:=by
     cases h:Nat.beq i j with
     | false=>rfl
     | true=>exact absurd ((Ea i j).1 h).symm hj
    simp [this,hj]
  | false =>
   simp only [cond_false,Ei,ih];cases hj:Nat.beq i j with
   | true =>
    have hj':=(Ea i j).1 hj;subst hj';have hne:¬ i=id:=fun e=>by subst e;rw [hi] at hj;cases hj
    simp [hne]
   | false=>simp
def rowSize (w:World) (b:Nat):Option Nat :=
 match w.heap[b]? with
 | some (.cells c _ _)=>some c.size
 | _=>none
inductive Rep (w:World) (B:Nat->Prop) (own:Nat->Prop) (ω:Nat->Option Nat):Nat->AV->Value->Prop
 | any (nx v):Rep w B own ω nx .any v
 | bool (nx b):Rep w B own ω nx (.bool b) (.bool b)
 | int (nx k n):Rep w B own ω nx (.int k n) (.int k n)
 | str (nx s):Rep w B own ω nx (.str s) (.string s)
 | nilp (nx):Rep w B own ω nx .nilp (.pointer none)
 | ptr (nx id off b):id < nx->ω id=some b->Rep w B own ω nx (.ptr id off) (.pointer (some ⟨b,off,none⟩))
 | iptr (nx) (cells:List AV) (off b o:Nat) (vs:Nat->Value):(cells ≠ []->b < w.heap.size/\¬ own b/\¬ B b) ->
   (∀ i,i < cells.length->w.cell? ⟨b,o + i,none⟩=some (vs i))->(∀ i (h:i < cells.length),Rep w B own ω 0 cells[i] (vs i)) ->
   Rep w B own ω nx (.iptr cells off) (.pointer (some ⟨b,o + off,none⟩))
 | nils (nx):Rep w B own ω nx .nils (.slice none 0 0)
 | es (nx a):Rep w B own ω nx .es (.slice a 0 0)
 | ns (nx p c):Rep w B own ω nx .ns (.slice (some p) 0 c)
 | lst (nx) (cells:List AV) (n cap b o:Nat) (vs:Nat->Value):(cells ≠ []->b < w.heap.size/\¬ own b/\¬ B b)->n<=cap ->
   (∀ i,i < cells.length->w.cell? ⟨b,o + i,none⟩=some (vs i))->(∀ i (h:i < cells.length),Rep w B own ω 0 cells[i] (vs i)) ->
   Rep w B own ω nx (.lst cells n) (.slice (some ⟨b,o,none⟩) n cap)
 | lstn (nx a c):Rep w B own ω nx (.lst [] 0) (.slice a 0 c)
 | sl (nx id off n sz cap b):id < nx->ω id=some b->n<=cap->Rep w B own ω nx (.sl id off n sz false) (.slice (some ⟨b,off,none⟩) n cap)
 | sla (nx id n sz cap b):id < nx->ω id=some b->n<=cap->cap<=maxLen->rowSize w b=some (cap * sz) ->
   Rep w B own ω nx (.sl id 0 n sz true) (.slice (some ⟨b,0,none⟩) n cap)
 | yld (nx id l):id < nx->ω id=some l->Rep w B own ω nx (.yld id) (.func (.yield l) #[] #[])
 | fn (nx f) (first cap:List AV) (fs cs:Array Value):first.length=fs.size->cap.length=cs.size ->
   (∀ i (h:i < first.length),Rep w B own ω nx first[i] (fs.getD i undef))->(∀ i (h:i < cap.length),Rep w B own ω nx cap[i] (cs.getD i undef)) ->
   Rep w B own ω nx (.fn f first cap) (.func f fs cs)
 | nilfn (nx):Rep w B own ω nx .nilfn .nilFunc
 | iface (nx t v u):Rep w B own ω nx v u->Rep w B own ω nx (.iface t v) (.iface t u)
 | niliface (nx):Rep w B own ω nx .niliface .nilIface
 | agg (nx) (cs:List AV) (vs:Array Value):cs.length=vs.size->(∀ i (h:i < cs.length),Rep w B own ω nx cs[i] (vs.getD i undef))->Rep w B own ω nx (.agg cs) (.agg vs)
 | tup (nx) (cs:List AV) (vs:Array Value):cs.length=vs.size->(∀ i (h:i < cs.length),Rep w B own ω nx cs[i] (vs.getD i undef))->Rep w B own ω nx (.tup cs) (.tuple vs)
structure Ext (w:World) (own:Nat->Prop) (ω:Nat->Option Nat) (nx:Nat) (w':World) (own':Nat->Prop) (ω':Nat->Option Nat) (nx':Nat):Prop where
 os:w'.os=w.os
 tape:w'.tape=w.tape
 output:w'.output=w.output
 size:w.heap.size<=w'.heap.size
 old:∀ b,b < w.heap.size->¬ own b->w'.heap[b]?=w.heap[b]?
 owns:∀ b,own' b->own b\/w.heap.size<=b
 nxle:nx<=nx'
 om:∀ id,id < nx->ω' id=ω id
 row:∀ b n,rowSize w b=some n->rowSize w' b=some n
theorem Ext.refl (w:World) (own:Nat->Prop) (ω:Nat->Option Nat) (nx:Nat):Ext w own ω nx w own ω nx :=
 ⟨rfl,rfl,rfl,Nat.le_refl _,fun _ _ _=>rfl,fun _ h=>.inl h,Nat.le_refl _,fun _ _=>rfl,fun _ _ h=>h⟩
theorem Ext.trans {w w1 w2:World} {own own1 own2:Nat->Prop} {ω ω1 ω2:Nat->Option Nat} {nx nx1 nx2:Nat}
  (h:Ext w own ω nx w1 own1 ω1 nx1) (h':Ext w1 own1 ω1 nx1 w2 own2 ω2 nx2):Ext w own ω nx w2 own2 ω2 nx2 where
 os:=h'.os.trans h.os
 tape:=h'.tape.trans h.tape
 output:=h'.output.trans h.output
 size:=Nat.le_trans h.size h'.size
 old b hb hn:=(h'.old b (Nat.lt_of_lt_of_le hb h.size) (fun ho=>(h.owns b ho).elim hn (by omega))).trans (h.old b hb hn)
 owns b hb:=(h'.owns b hb).elim (h.owns b) (fun hl=>.inr (Nat.le_trans h.size hl))
 nxle:=Nat.le_trans h.nxle h'.nxle
 om id hi:=(h'.om id (Nat.lt_of_lt_of_le hi h.nxle)).trans (h.om id hi)
 row b n hr:=h'.row b n (h.row b n hr)
theorem Rep.mono {w w':World} {B B':Nat->Prop} {own own':Nat->Prop} {ω ω':Nat->Option Nat} {nx nx':Nat} {v:AV} {u:Value}
  (h:Rep w B own ω nx v u) (hs:w.heap.size<=w'.heap.size) (ho:∀ b,b < w.heap.size->¬ own b->¬ B b->w'.heap[b]?=w.heap[b]?/\¬ own' b/\¬ B' b)
  (hm:∀ id b,id < nx->ω id=some b->id < nx'/\ω' id=some b) (hr:∀ b n,rowSize w b=some n->rowSize w' b=some n):Rep w' B' own' ω' nx' v u:=by
 induction h generalizing nx' with
 | any=>exact .any _ _
 | bool=>exact .bool _ _
 | int=>exact .int _ _ _
 | str=>exact .str _ _
 | nilp=>exact .nilp _
 | ptr nx id off b hi hw=>exact .ptr _ _ _ _ (hm id b hi hw).1 (hm id b hi hw).2
 | yld nx id l hi hw=>exact .yld _ _ _ (hm id l hi hw).1 (hm id l hi hw).2
 | iptr nx cells off b o vs hb hc _ ih =>
  refine .iptr _ _ _ b o vs (fun hne=>?_) (fun i hi=>?_) (fun i hi=>ih i hi (fun _ _ h=>absurd h (Nat.not_lt_zero _)))
  ·exact ⟨Nat.lt_of_lt_of_le (hb hne).1 hs,(ho b (hb hne).1 (hb hne).2.1 (hb hne).2.2).2⟩
  ·have hne:cells ≠ []:=fun e=>by subst e;exact absurd hi (Nat.not_lt_zero _)
   rw [<- hc i hi];exact World.cell?_of_block (ho b (hb hne).1 (hb hne).2.1 (hb hne).2.2).1
 | nils=>exact .nils _
 | es nx a=>exact .es _ _
 | ns nx p c=>exact .ns _ _ _
 | lst nx cells n cap b o vs hb hn hc _ ih =>
  refine .lst _ _ _ _ b o vs (fun hne=>?_) hn (fun i hi=>?_) (fun i hi=>ih i hi (fun _ _ h=>absurd h (Nat.not_lt_zero _)))
  ·exact ⟨Nat.lt_of_lt_of_le (hb hne).1 hs,(ho b (hb hne).1 (hb hne).2.1 (hb hne).2.2).2⟩
  ·have hne:cells ≠ []:=fun e=>by subst e;exact absurd hi (Nat.not_lt_zero _)
   rw [<- hc i hi];exact World.cell?_of_block (ho b (hb hne).1 (hb hne).2.1 (hb hne).2.2).1
 | lstn=>exact .lstn _ _ _
 | sl nx id off n sz cap b hi hw hn=>exact .sl _ _ _ _ _ _ _ (hm id b hi hw).1 (hm id b hi hw).2 hn
 | sla nx id n sz cap b hi hw hn hcm hrow=>exact .sla _ _ _ _ _ _ (hm id b hi hw).1 (hm id b hi hw).2 hn hcm (hr _ _ hrow)
 | fn nx f first cap fs cs h1 h2 _ _ ih1 ih2=>exact .fn _ _ _ _ _ _ h1 h2 (fun i hi=>ih1 i hi hm) (fun i hi=>ih2 i hi hm)
 | nilfn=>exact .nilfn _
 | iface nx t v u _ ih=>exact .iface _ _ _ _ (ih hm)
 | niliface=>exact .niliface _
 | agg nx cs vs h1 _ ih=>exact .agg _ _ _ h1 (fun i hi=>ih i hi hm)
 | tup nx cs vs h1 _ ih=>exact .tup _ _ _ h1 (fun i hi=>ih i hi hm)
theorem Ext.om' {w w':World} {own own':Nat->Prop} {ω ω':Nat->Option Nat} {nx nx':Nat} (h:Ext w own ω nx w' own' ω' nx') (id b:Nat) (hi:id < nx) (hb:ω id=some b):ω' id=some b:=(h.om id hi).trans hb
theorem Rep.ext {w w':World} {B:Nat->Prop} {own own':Nat->Prop} {ω ω':Nat->Option Nat} {nx nx':Nat} {v:AV} {u:Value}
  (h:Rep w B own ω nx v u) (e:Ext w own ω nx w' own' ω' nx'):Rep w' B own' ω' nx' v u :=
 h.mono e.size (fun b hb hn hB=>⟨e.old b hb hn,fun ho=>(e.owns b ho).elim hn (by omega),hB⟩) (fun id b hi hb=>⟨Nat.lt_of_lt_of_le hi e.nxle,(e.om id hi).trans hb⟩) e.row
theorem Rep.ext0 {w w':World} {B:Nat->Prop} {own own':Nat->Prop} {ω ω':Nat->Option Nat} {nx nx':Nat} {v:AV} {u:Value}
  (h:Rep w B own ω 0 v u) (e:Ext w own ω nx w' own' ω' nx'):Rep w' B own' ω' 0 v u :=
 h.mono e.size (fun b hb hn hB=>⟨e.old b hb hn,fun ho=>(e.owns b ho).elim hn (by omega),hB⟩) (fun _ _ hi=>absurd hi (Nat.not_lt_zero _)) e.row
theorem Rep.up {w:World} {B:Nat->Prop} {own:Nat->Prop} {ω:Nat->Option Nat} {nx nx':Nat} {v:AV} {u:Value}
  (h:Rep w B own ω nx v u) (hn:nx<=nx'):Rep w B own ω nx' v u :=
 h.mono (Nat.le_refl _) (fun _ _ hn hB=>⟨rfl,hn,hB⟩) (fun _ _ hi hb=>⟨Nat.lt_of_lt_of_le hi hn,hb⟩) (fun _ _ h=>h)
def AV.noRef:Nat->AV->Bool
 | 0,_=>false
 | _ + 1,.ptr _ _=>false
 | _ + 1,.sl _ _ _ _ _=>false
 | _ + 1,.yld _=>false
 | n + 1,.fn _ first cap=>first.all (AV.noRef n)&&cap.all (AV.noRef n)
 | n + 1,.iface _ v=>AV.noRef n v
 | n + 1,.agg cs=>cs.all (AV.noRef n)
 | n + 1,.tup cs=>cs.all (AV.noRef n)
 | _ + 1,_=>true
theorem Rep.down {w:World} {B:Nat->Prop} {own:Nat->Prop} {ω:Nat->Option Nat} {nx:Nat} {v:AV} {u:Value}
  (h:Rep w B own ω nx v u):∀ {d:Nat},v.noRef d=true->∀ nx',Rep w B own ω nx' v u:=by
 induction h with
 | any=>intro _ _ _;exact .any _ _
 | bool=>intro _ _ _;exact .bool _ _
 | int=>intro _ _ _;exact .int _ _ _
 | str=>intro _ _ _;exact .str _ _
 | nilp=>intro _ _ _;exact .nilp _
 | ptr=>intro d hd;cases d <;> simp [AV.noRef] at hd
 | iptr nx cells off b o vs hb hc hr _=>intro _ _ _;exact .iptr _ _ _ b o vs hb hc hr
 | nils=>intro _ _ _;exact .nils _
 | lst nx cells n cap b o vs hb hn hc hr _=>intro _ _ _;exact .lst _ _ _ _ b o vs hb hn hc hr
 | lstn=>intro _ _ _;exact .lstn _ _ _
 | es nx a=>intro _ _ _;exact .es _ _
 | ns nx p c=>intro _ _ _;exact .ns _ _ _
 | sl=>intro d hd;cases d <;> simp [AV.noRef] at hd
 | sla=>intro d hd;cases d <;> simp [AV.noRef] at hd
 | yld=>intro d hd;cases d <;> simp [AV.noRef] at hd
 | fn nx f first cap fs cs h1 h2 _ _ ih1 ih2 =>
  intro d hd nx';cases d with
  | zero=>simp [AV.noRef] at hd
  | succ d =>
   simp only [AV.noRef,Bool.and_eq_true,List.all_eq_true] at hd;exact .fn _ _ _ _ _ _ h1 h2 (fun i hi=>ih1 i hi (hd.1 _ (List.getElem_mem hi)) nx') (fun i hi=>ih2 i hi (hd.2 _ (List.getElem_mem hi)) nx')
 | nilfn=>intro _ _ _;exact .nilfn _
 | iface nx t v u _ ih =>
  intro d hd nx';cases d with
  | zero=>simp [AV.noRef] at hd
  | succ d=>exact .iface _ _ _ _ (ih (by simpa [AV.noRef] using hd) nx')
 | niliface=>intro _ _ _;exact .niliface _
 | agg nx cs vs h1 _ ih =>
  intro d hd nx';cases d with
  | zero=>simp [AV.noRef] at hd
  | succ d =>
   simp only [AV.noRef,List.all_eq_true] at hd;exact .agg _ _ _ h1 (fun i hi=>ih i hi (hd _ (List.getElem_mem hi)) nx')
 | tup nx cs vs h1 _ ih =>
  intro d hd nx';cases d with
  | zero=>simp [AV.noRef] at hd
  | succ d =>
   simp only [AV.noRef,List.all_eq_true] at hd;exact .tup _ _ _ h1 (fun i hi=>ih i hi (hd _ (List.getElem_mem hi)) nx')
def ofS:Value->AV
 | .bool b=>.bool b
 | .int k n=>.int k n
 | .string s=>.str s
 | .pointer none=>.nilp
 | .slice none 0 0=>.nils
 | .nilFunc=>.nilfn
 | .nilIface=>.niliface
 | _=>.any
def ofV:Value->AV
 | .agg cs=>.agg (cs.toList.map ofS)
 | .tuple vs=>.tup (vs.toList.map ofS)
 | v=>ofS v
theorem Vb (w:World) (B:Nat->Prop) (own:Nat->Prop) (ω:Nat->Option Nat) (nx:Nat) (v:Value):Rep w B own ω nx (ofS v) v:=by
 unfold ofS
 split <;> first | exact .bool _ _ | exact .int _ _ _ | exact .str _ _ | exact .nilp _ | exact .nils _ | exact .nilfn _ | exact .niliface _ | exact .any _ _
theorem Awd (w:World) (B:Nat->Prop) (own:Nat->Prop) (ω:Nat->Option Nat) (nx:Nat) (v:Value):Rep w B own ω nx (ofV v) v:=by
 unfold ofV
 split
 ·rename_i cs
  refine .agg _ _ _ (by simp) (fun i hi=>?_)
  have hi':i < cs.size:=by simpa using hi
  simp only [List.getElem_map,Array.getElem_toList,Array.getD_eq_getD_getElem?,Array.getElem?_eq_getElem hi',Option.getD_some];exact Vb _ _ _ _ _ _
 ·rename_i cs
  refine .tup _ _ _ (by simp) (fun i hi=>?_)
  have hi':i < cs.size:=by simpa using hi
  simp only [List.getElem_map,Array.getElem_toList,Array.getD_eq_getD_getElem?,Array.getElem?_eq_getElem hi',Option.getD_some];exact Vb _ _ _ _ _ _
 ·exact Vb _ _ _ _ _ _
def HRel (w:World) (B:Nat->Prop) (own:Nat->Prop) (ω:Nat->Option Nat) (nx:Nat) (h:Heap):Prop :=
 ∀ id hb,Dl h id=some hb->id < nx /\
  ∃ b arr,ω id=some b/\own b/\w.heap[b]?=some (.cells arr hb.elem (0,0))/\hb.cells.length<=arr.size /\
   ∀ i (hi:i < hb.cells.length),Rep w B own ω (cond hb.pure 0 nx) hb.cells[i] (arr.getD i undef)
def GOk (G:Nat->Option (List AV)) (w:World):Prop :=
 ∀ g cells,G g=some cells->g < w.heap.size/\∃ vs:Nat->Value,(∀ i,i < cells.length->w.cell? ⟨g,i,none⟩=some (vs i)) /\
  ∀ i (h:i < cells.length) w' B own ω nx,Rep w' B own ω nx cells[i] (vs i)
inductive Ex where
 | normal
 | exit (id:Nat)
 | goto (l:Nat)
 | ret
 | panic (v:AV)
inductive LB where
 | dfb
 | lop (state:Nat) (pend:Option Ex) (tmps:List AV) (params:List Nat) (assign body:Code) (d:Nat)
abbrev N7:=List (Nat × LB)
def Gw:N7->Nat->Option LB
 | [],_=>none
 | p :: r,id=>cond (Nat.beq p.1 id) (some p.2) (Gw r id)
def Ad2:N7->Nat->LB->N7
 | [],_,_=>[]
 | p :: r,id,x=>cond (Nat.beq p.1 id) ((p.1,x) :: r) (p :: Ad2 r id x)
def Zn:N7->Nat->N7
 | [],_=>[]
 | p :: r,id=>cond (Nat.beq p.1 id) (Zn r id) (p :: Zn r id)
structure Mem where
 heap:Heap
 nx:Nat
 lp:N7
inductive TrM where
 | leaf (v:AV) (m:Mem)
 | bad
 | br (b:Bool) (x y:TrM)
def TrM.ev {Ω:Type} (t:TrM) (k:AV->Mem->Ω) (z:Ω):Ω:=TrM.rec (motive:=fun _=>Ω) k z (fun b _ _ x y=>cond b x y) t
theorem TrM.ev_br {Ω:Type} (b:Bool) (x y:TrM) (k:AV->Mem->Ω) (z:Ω):(TrM.br b x y).ev k z=cond b (x.ev k z) (y.ev k z):=rfl
theorem TrM.ev_nat {Ω Ω':Type} (f:Ω->Ω') (k:AV->Mem->Ω) (z:Ω):∀ t:TrM,f (t.ev k z)=t.ev (fun v m=>f (k v m)) (f z)
 | .leaf v m=>rfl
 | .bad=>rfl
 | .br b x y=>by
  rw [TrM.ev_br,TrM.ev_br,<- TrM.ev_nat f k z x,<- TrM.ev_nat f k z y];cases b <;> rfl
end
end Go.Bas
end
section
namespace Go.Bas
noncomputable section
open Go.RowKit
structure Cfg where
 P:Program
 G:Nat->Option (List AV)
 S:FuncId->Option (List AV->Option (Bool × AV))
 Q:FuncId->Bool:=fun _=>false
 X:FuncId->Option (List AV->Mem->TrM):=fun _=>none
inductive CK where
 | b
 | i (k:IntKind)
 | s
 | o
def ckV:Value->CK
 | .bool _=>.b
 | .int k _=>.i k
 | .slice _ _ _=>.s
 | _=>.o
def AV.isNils:AV->Bool | .nils=>true | _=>false
def AV.isNs:AV->Bool | .ns=>true | _=>false
def AV.isEs:AV->Bool | .es=>true | _=>false
section
variable {Ω:Type}
def Tq (c:CK) (mode:Nat) (v:AV) (k:AV->Ω) (z:Ω):Ω :=
 match c with
 | .b=>cond v.isB (k (.bool v.toB)) z
 | .i kd=>cond (v.isI kd) (k (.int kd v.toI)) z
 | .s=>match mode with
  | 0=>cond v.isL (k (.lst v.lc v.ln)) (cond v.isNils (k .nils) (cond v.isNs (k .ns) (cond v.isEs (k .es) z)))
  | 1=>cond v.isL (k (.lst v.lc v.ln)) (cond v.isNils (k .nils) (cond v.isNs (k .ns) (cond v.isEs (k .es) z)))
  | _=>k v
 | .o=>k v
def Acy (mode:Nat) (cells:List AV):List CK->Nat->(List AV->Ω)->Ω->Ω
 | [],_,k,_=>k []
 | c :: cs,off,k,z=>Tq c mode (lget cells off) (fun v=>Acy mode cells cs (off + 1) (fun vs=>k (v :: vs)) z) z
def Bh8 (l:List AV):AV:=List.rec (motive:=fun _=>AV) .any (fun a _ _=>a) l
def Awe (l:List AV):List AV:=List.rec (motive:=fun _=>List AV) [] (fun _ r _=>r) l
def Acz (mode:Nat):List CK->List AV->(List AV->Ω)->Ω->Ω
 | [],_,k,_=>k []
 | c :: cs,l,k,z=>Tq c mode (Bh8 l) (fun v=>Acz mode cs (Awe l) (fun vs=>k (v :: vs)) z) z
def Ac0 (mode:Nat) (cells:List AV) (ks:List CK) (off:Nat) (k:List AV->Ω) (z:Ω):Ω:=cond (Nat.ble ks.length 13) (Acy mode cells ks off k z) (Acz mode ks (cells.drop off) k z)
def Apx:TypeDesc->Bool
 | .struct _=>true
 | .array _ _=>true
 | _=>false
def Afq (i:TypeInfo):List CK :=
 match i.zero with
 | some v=>v.cells.toList.map ckV
 | none=>[]
def Ad3 (P:Program) (t:TypeId) (mode:Nat) (cells:List AV) (off:Nat) (k:AV->Ω) (z:Ω):Ω :=
 match P.info? t,P.underlying t with
 | some i,some d=>cond (Nat.beq (Afq i).length i.size)
   (cond (Apx d) (cond (Nat.ble (off + i.size) cells.length) (Ac0 mode cells (Afq i) off (fun vs=>k (.agg vs)) z) z)
    (cond (Nat.ble (off + 1) cells.length) (match Afq i with
     | c :: _=>Tq c mode (lget cells off) k z
     | []=>z) z)) z
 | _,_=>z
def AV.cellsL:AV->Option (List AV)
 | .agg cs=>some cs
 | .any=>none
 | v=>some [v]
def Jb:List AV->Nat->List AV->List AV
 | cells,_,[]=>cells
 | cells,off,v :: r=>Jb (cells.set off v) (off + 1) r
def Afr (cells:List AV) (off:Nat) (vs:List AV):List AV:=List.rec (motive:=fun _=>Nat->List AV->List AV) (fun _ _=>[]) (fun a r ih n vs=>Nat.rec (motive:=fun _=>List AV) (match vs with
 | []=>a :: r
 | v :: w=>v :: ih 0 w) (fun m _=>a :: ih m vs) n) cells off vs
def Agb (cells:List AV) (off:Nat) (vs:List AV):List AV:=match vs with
 | []=>cells
 | [v]=>cells.set off v
 | v :: w :: r=>Afr cells off (v :: w :: r)
def zeroCells (P:Program) (t:TypeId):Option (List AV) :=
 match P.info? t with
 | some i=>match i.zero with
  | some v=>cond (Nat.beq v.cells.size i.size) (some (v.cells.toList.map ofS)) none
  | none=>none
 | none=>none
def Zo (place:Nat->Option (Nat × Nat)):List AV->List (Nat × AV)->(List AV->Ω)->Ω->Ω
 | cells,[],k,_=>k cells
 | cells,(i,v) :: rest,k,z =>
  match place i,v.cellsL with
  | some (off,size),some vs=>cond (Nat.beq vs.length size&&Nat.ble (off + vs.length) cells.length) (Zo place (Agb cells off vs) rest k z) z
  | _,_=>z
def Tt (P:Program) (fs:Array Field):Nat->Option (Nat × Nat):=fun j =>
 match fs[j]? with
 | some f=>match P.info? f.type with
  | some i=>some (f.offset,i.size)
  | none=>none
 | none=>none
def A9x (P:Program) (fs:Array Field):Bool:=fs.toList.all fun f=>(P.info? f.type).isSome
def Ac1 (P:Program) (t:TypeId) (parts:List (Nat × AV)) (k:AV->Ω) (z:Ω):Ω :=
 match zeroCells P t,P.underlying t with
 | some zs,some (.struct fs)=>cond (A9x P fs) (Zo (Tt P fs) zs parts (fun cs=>k (.agg cs)) z) z
 | some zs,some (.array _ e)=>match P.info? e with
  | some i=>Zo (fun j=>some (j * i.size,i.size)) zs parts (fun cs=>k (.agg cs)) z
  | none=>z
 | _,_=>z
def held (x y:Int) (a:Int):Int:=match x with
 | .ofNat _=>match y with
  | .ofNat _=>a
  | .negSucc _=>a
 | .negSucc _=>match y with
  | .ofNat _=>a
  | .negSucc _=>a
theorem Y3 (x y a:Int):held x y a=a:=by cases x <;> cases y <;> rfl
def iand (k:IntKind) (x y:Int):Int:=held x y (k.wrap ((BitVec.ofInt k.bits x &&& BitVec.ofInt k.bits y).toNat:Int))
def ior (k:IntKind) (x y:Int):Int:=held x y (k.wrap ((BitVec.ofInt k.bits x ||| BitVec.ofInt k.bits y).toNat:Int))
def A9y (k:IntKind) (x y:Int):Int:=held x y (k.wrap ((BitVec.ofInt k.bits x ^^^ BitVec.ofInt k.bits y).toNat:Int))
def Qv (k:IntKind) (x y:Int):Int:=held x y (k.wrap ((BitVec.ofInt k.bits x &&& ~~~ BitVec.ofInt k.bits y).toNat:Int))
def Gz (k:IntKind) (x y:Int):Int:=k.wrap (x * 2 ^ (min y.toNat k.bits))
def ishr (k:IntKind) (x y:Int):Int:=x.fdiv (2 ^ (min y.toNat k.bits))
def Aj1 (op:BinOp) (kd kd':IntKind) (x y:Int) (k:AV->Ω) (z:Ω):Ω :=
 match op with
 | .shl=>cond (decide (y < 0)) z (k (.int kd (Gz kd x y)))
 | .shr=>cond (decide (y < 0)) z (k (.int kd (ishr kd x y)))
 | .add=>cond (G9 kd kd') (k (.int kd (kd.wrap (x + y)))) z
 | .sub=>cond (G9 kd kd') (k (.int kd (kd.wrap (x - y)))) z
 | .mul=>cond (G9 kd kd') (k (.int kd (kd.wrap (x * y)))) z
 | .quo=>cond (G9 kd kd') (cond (decide (y=0)) z (k (.int kd (kd.wrap (x.tdiv y))))) z
 | .rem=>cond (G9 kd kd') (cond (decide (y=0)) z (k (.int kd (x.tmod y)))) z
 | .and=>cond (G9 kd kd') (k (.int kd (iand kd x y))) z
 | .or=>cond (G9 kd kd') (k (.int kd (ior kd x y))) z
 | .xor=>cond (G9 kd kd') (k (.int kd (A9y kd x y))) z
 | .andNot=>cond (G9 kd kd') (k (.int kd (Qv kd x y))) z
 | .eql=>cond (G9 kd kd') (k (.bool (x == y))) z
 | .neq=>cond (G9 kd kd') (k (.bool (x != y))) z
 | .lss=>cond (G9 kd kd') (k (.bool (decide (x < y)))) z
 | .leq=>cond (G9 kd kd') (k (.bool (decide (x<=y)))) z
 | .gtr=>cond (G9 kd kd') (k (.bool (decide (x > y)))) z
 | .geq=>cond (G9 kd kd') (k (.bool (decide (x>=y)))) z
def Xc (P:Program) (g:TypeId->Option (List CK)):List Field->List CK->Option (List CK)
 | [],ks=>some ks
 | f :: r,ks=>cond (Nat.beq f.offset ks.length&&f.name != "_") (match g f.type,P.info? f.type with
  | some ms,some i=>cond (Nat.beq i.size ms.length) (Xc P g r (ks ++ ms)) none
  | _,_=>none) none
def Pq (P:Program):Nat->TypeId->Option (List CK)
 | 0,_=>none
 | d + 1,t =>
  match P.underlying t with
  | some .bool=>some [.b]
  | some (.int k)=>some [.i k]
  | some (.struct fs)=>cond (P.stoodInHeld t) none (Xc P (Pq P d) fs.toList [])
  | _=>none
def fit1:CK->AV->AV->Bool
 | .b,.bool _,.bool _=>true
 | .i k,.int k1 _,.int k2 _=>G9 k k1&&G9 k k2
 | _,_,_=>false
def Rt:List CK->List AV->List AV->Bool
 | [],[],[]=>true
 | k :: ks,a :: r,b :: s=>fit1 k a b&&Rt ks r s
 | _,_,_=>false
def eq1:AV->AV->Bool
 | .int _ a,.int _ b=>a == b
 | .bool a,.bool b=>a == b
 | _,_=>false
def eqL:List AV->List AV->Bool
 | a :: r,b :: s=>eq1 a b&&eqL r s
 | _,_=>true
def eqopK (op:BinOp) (b:Bool) (k:AV->Ω) (z:Ω):Ω :=
 match op with
 | .eql=>k (.bool b)
 | .neq=>k (.bool (!b))
 | _=>z
def isConstO:Operand->Bool
 | .const _=>true
 | _=>false
def Ayy (P:Program) (op:BinOp) (t:TypeId) (ox oy:Operand) (x y:AV) (k:AV->Ω) (z:Ω):Ω :=
 match x,y with
 | .int kd a,.int kd' b=>Aj1 op kd kd' a b k z
 | .bool a,.bool b=>match P.underlying t with
  | some .bool=>eqopK op (a == b) k z
  | _=>z
 | .agg xs,.agg ys=>match P.underlying t,Pq P 8 t with
  | some (.struct _),some ks=>cond (Rt ks xs ys&&!P.eqGuardType P.depth t) (eqopK op (eqL xs ys) k z) z
  | _,_=>z
 | .nilp,.nilp=>match P.underlying t with
  | some (.pointer _)=>eqopK op true k z
  | _=>z
 | .nilp,.ptr _ _ | .ptr _ _,.nilp=>match P.underlying t with
  | some (.pointer _)=>eqopK op false k z
  | _=>z
 | .nilp,.iptr _ _ | .iptr _ _,.nilp=>match P.underlying t with
  | some (.pointer _)=>eqopK op false k z
  | _=>z
 | .niliface,.niliface=>match P.underlying t with
  | some (.interface _)=>cond (isConstO ox || isConstO oy) (eqopK op true k z) z
  | _=>z
 | .niliface,.iface _ _ | .iface _ _,.niliface=>match P.underlying t with
  | some (.interface _)=>eqopK op false k z
  | _=>z
 | .nilfn,.nilfn=>match P.underlying t with
  | some (.func _ _ _)=>eqopK op true k z
  | _=>z
 | .nilfn,.fn _ _ _ | .fn _ _ _,.nilfn=>match P.underlying t with
  | some (.func _ _ _)=>eqopK op false k z
  | _=>z
 | .nils,.nils=>match P.underlying t with
  | some (.slice _)=>eqopK op true k z
  | _=>z
 | .nils,.sl _ _ _ _ _ | .sl _ _ _ _ _,.nils=>match P.underlying t with
  | some (.slice _)=>eqopK op false k z
  | _=>z
 | .nils,.lst (_ :: _) _ | .lst (_ :: _) _,.nils=>match P.underlying t with
  | some (.slice _)=>eqopK op false k z
  | _=>z
 | .nils,.ns | .ns,.nils=>match P.underlying t with
  | some (.slice _)=>eqopK op false k z
  | _=>z
 | _,_=>z
def unK (op:UnOp) (x:AV) (k:AV->Ω) (z:Ω):Ω :=
 match op,x with
 | .not,.bool b=>k (.bool (!b))
 | .neg,.int kd n=>k (.int kd (kd.wrap (0 - n)))
 | .xor,.int kd n=>k (.int kd (A9y kd (if kd.signed then -1 else kd.max) n))
 | _,_=>z
def Aj2 (P:Program) (src dst:TypeId) (x:AV) (k:AV->Ω) (z:Ω):Ω :=
 match x with
 | .int _ n=>match P.underlying src,P.underlying dst with
  | some _,some (.int kd)=>k (.int kd (kd.wrap n))
  | _,_=>z
 | _=>z
def Apy (P:Program) (s:TypeId) (f:Nat):Option (Nat × TypeId) :=
 match P.underlying s with
 | some (.struct fs)=>match fs[f]? with
  | some fl=>match P.info? fl.type with
   | some i=>cond (Nat.beq i.size 0) none (some (fl.offset,fl.type))
   | none=>none
  | none=>none
 | _=>none
def Oy (P:Program) (s:TypeId) (x:AV) (f:Nat) (k:AV->Ω) (z:Ω):Ω :=
 match Apy P s f with
 | some (o,_)=>match x with
  | .ptr id off=>k (.ptr id (off + o))
  | .iptr cells off=>k (.iptr cells (off + o))
  | _=>z
 | none=>z
def Agc (P:Program) (t:TypeId) (cs:List AV) (off:Nat) (k:AV->Ω) (z:Ω):Ω :=
 match P.info? t,P.underlying t with
 | some i,some d=>cond (Apx d) (cond (Nat.ble (off + i.size) cs.length) (k (.agg ((cs.drop off).take i.size))) z)
   (match cs[off]? with
    | some v=>k v
    | none=>z)
 | _,_=>z
def Ac2 (P:Program) (t:TypeId) (x:AV) (f:Nat) (k:AV->Ω) (z:Ω):Ω :=
 match P.underlying t,x with
 | some (.struct fs),.agg cs=>match fs[f]? with
  | some fl=>Agc P fl.type cs fl.offset k z
  | none=>z
 | _,_=>z
def Ju (n:Int) (len:Nat):Bool:=decide (0<=n)&&decide (n < (len:Int))
def Pv (P:Program) (e:TypeId):Option Nat:=(P.info? e).map (·.size)
def Oz (P:Program) (t:TypeId) (x i:AV) (k:AV->Ω) (z:Ω):Ω :=
 match i with
 | .int _ n=>match P.underlying t with
  | some (.slice e)=>match Pv P e with
   | some sz=>match x with
    | .lst cells len=>cond (Ju n len&&Nat.beq cells.length (len * sz)) (k (.iptr cells (n.toNat * sz))) z
    | .sl id off len _ _=>cond (Ju n len) (k (.ptr id (off + n.toNat * sz))) z
    | _=>z
   | none=>z
  | some (.array len e)=>match Pv P e with
   | some sz=>match x with
    | .iptr cells off=>cond (Ju n len) (k (.iptr cells (off + n.toNat * sz))) z
    | .ptr id off=>cond (Ju n len) (k (.ptr id (off + n.toNat * sz))) z
    | _=>z
   | none=>z
  | _=>z
 | _=>z
def Ac3 (P:Program) (t:TypeId) (x i:AV) (k:AV->Ω) (z:Ω):Ω :=
 match i,x with
 | .int _ n,.agg cs=>match P.underlying t with
  | some (.array len e)=>match Pv P e with
   | some sz=>cond (Ju n len) (Agc P e cs (n.toNat * sz) k z) z
   | none=>z
  | _=>z
 | _,_=>z
def J9 (o:Option AV) (d:Nat):Option Int :=
 match o with
 | none=>some d
 | some (.int _ n)=>some n
 | some _=>none
def Xd (lo hi:Int) (len:Nat):Bool:=decide (0<=lo)&&(decide (lo<=hi)&&decide (hi<=(len:Int)))
def Ac4 (P:Program) (t:TypeId) (x:AV) (lo hi mx:Option AV) (k:AV->Ω) (z:Ω):Ω :=
 match P.underlying t with
 | some (.slice e)=>match Pv P e with
  | some sz=>match x with
   | .lst cells len=>match J9 lo 0,J9 hi len,mx with
    | some l,some h,none=>cond (Xd l h len&&Nat.beq cells.length (len * sz)) (k (.lst ((cells.drop (l.toNat * sz)).take ((h.toNat - l.toNat) * sz)) (h.toNat - l.toNat))) z
    | some l,some h,some (.int _ m)=>cond (hi.isSome&&(decide (l=0)&&(decide (h=0)&&decide (m=0)))) (k .es) z
    | _,_,_=>z
   | .sl id off len s app=>match J9 lo 0,J9 hi len with
    | some l,some h=>cond (Xd l h len&&Nat.beq s sz)
     (match mx with
      | none=>cond (decide (l=0)) (k (.sl id off h.toNat sz app)) (cond (decide (l=h)) (k (.lst [] 0)) (k (.sl id (off + l.toNat * sz) (h.toNat - l.toNat) sz false)))
      | some (.int _ m)=>cond (hi.isSome&&(decide (l=0)&&(decide (0 < m)&&(decide (h<=m)&&decide (m<=(len:Int)))))) (k (.sl id off h.toNat sz false)) z
      | some _=>z) z
    | _,_=>z
   | .nils=>match J9 lo 0,J9 hi 0,mx with
    | some l,some h,none=>cond (decide (l=0)&&decide (h=0)) (k .nils) z
    | some l,some h,some (.int _ m)=>cond (hi.isSome&&(decide (l=0)&&(decide (h=0)&&decide (m=0)))) (k .es) z
    | _,_,_=>z
   | _=>z
  | none=>z
 | some (.array n e)=>match Pv P e with
  | some sz=>match J9 lo 0,J9 hi n,mx with
   | some l,some h,none=>cond (Xd l h n)
    (match x with
     | .ptr id off=>cond (decide (l=h)) (k (.lst [] 0)) (k (.sl id (off + l.toNat * sz) (h.toNat - l.toNat) sz false))
     | .iptr cells off=>cond (Nat.ble (off + n * sz) cells.length) (k (.lst ((cells.drop (off + l.toNat * sz)).take ((h.toNat - l.toNat) * sz)) (h.toNat - l.toNat))) z
     | _=>z) z
   | _,_,_=>z
  | none=>z
 | _=>z
def As9 (h:Heap) (sz:Nat) (x:AV) (k:List AV->Nat->Bool->Ω) (z:Ω):Ω :=
 match x with
 | .nils=>k [] 0 true
 | .es=>k [] 0 true
 | .ns=>k [] 0 true
 | .lst cells n=>cond (Nat.beq cells.length (n * sz)) (k cells n true) z
 | .sl id off n s _=>match Dl h id with
  | some hb=>cond (Nat.beq s sz&&Nat.ble (off + n * sz) hb.cells.length) (k ((hb.cells.drop off).take (n * sz)) n hb.pure) z
  | none=>z
 | _=>z
def AV.one:AV->Bool
 | .agg _=>false
 | .tup _=>false
 | .any=>false
 | _=>true
def Y4 (n bytes:Nat):Bool:=Nat.ble n maxLen&&Nat.ble (n * bytes) 140737488355328
def Y5 (P:Program) (h:Heap) (nx:Nat) (t t':TypeId) (s x:AV) (k:AV->Heap->Nat->Ω) (z:Ω):Ω :=
 cond (Nat.beq t t') (match P.underlying t with
 | some (.slice e)=>match P.info? e with
  | some i=>cond (Nat.blt 0 i.size&&(match i.zero with | some v=>Nat.beq v.cells.size i.size | none=>false))
   (As9 h i.size x (fun new m pn=>cond (new.all AV.one) (match s with
    | .nils=>cond (Nat.beq m 0) (k .nils h nx) (cond (Y4 m i.bytes) (k (.sl nx 0 m i.size true) ((nx,⟨new,e,pn⟩) :: h) (nx + 1)) z)
    | .es=>cond (Nat.beq m 0) (k .es h nx) (cond (Y4 m i.bytes) (k (.sl nx 0 m i.size true) ((nx,⟨new,e,pn⟩) :: h) (nx + 1)) z)
    | .sl id 0 n sz true=>match Dl h id with
     | some hb=>cond (Nat.beq sz i.size&&(Nat.beq hb.elem e&&(Nat.ble (n * sz) hb.cells.length&&Y4 (n + m) i.bytes)))
       (k (.sl nx 0 (n + m) i.size true) ((nx,⟨hb.cells.take (n * sz) ++ new,e,hb.pure&&pn⟩) :: Aga h id) (nx + 1)) z
     | none=>z
    | _=>z) z) z) z
  | none=>z
 | _=>z) z
def Aj3 (P:Program) (h:Heap) (t:TypeId) (d x:AV) (k:AV->Heap->Ω) (z:Ω):Ω :=
 match P.underlying t with
 | some (.slice e)=>match Pv P e with
  | some sz=>match d with
   | .sl id off n s _=>match Dl h id with
    | some hb=>cond (Nat.beq s sz&&Nat.ble (off + n * sz) hb.cells.length)
     (As9 h sz x (fun new m pn=>cond (new.all AV.one) (k (.int .i64 (Nat.min m n:Nat)) (hset h id ⟨hb.cells.take off ++ new.take (Nat.min m n * sz) ++ hb.cells.drop (off + Nat.min m n * sz),hb.elem,hb.pure&&pn⟩)) z) z) z
    | none=>z
   | _=>z
  | none=>z
 | _=>z
def O0 (P:Program) (h:Heap) (nx:Nat) (t:TypeId) (len cap:AV) (k:AV->Heap->Nat->Ω) (z:Ω):Ω :=
 match P.underlying t,len,cap with
 | some (.slice e),.int _ l,.int _ c=>match P.info? e,zeroCells P e with
  | some i,some zs=>cond (decide (0<=l)&&(decide (l<=c)&&Y4 c.toNat i.bytes))
    (k (.sl nx 0 l.toNat i.size true) ((nx,⟨(List.replicate c.toNat zs).flatten,e,true⟩) :: h) (nx + 1)) z
  | _,_=>z
 | _,_,_=>z
def Ayz (P:Program) (t:TypeId) (x:AV) (k:AV->Ω) (z:Ω):Ω :=
 match P.underlying t with
 | some (.slice _)=>match x with
  | .nils=>k (.int .i64 0)
  | .es=>k (.int .i64 0)
  | .ns=>k (.int .i64 0)
  | .lst _ n=>k (.int .i64 n)
  | .sl _ _ n _ _=>k (.int .i64 n)
  | _=>z
 | some (.array n _)=>k (.int .i64 n)
 | _=>z
def A9z (x y:Int):Int:=if y < x then y else x
def Dc (x y:Int):Int:=if y > x then y else x
def Ul (f:Int->Int->Int):IntKind->Int->List AV->(AV->Ω)->Ω->Ω
 | kd,n,[],k,_=>k (.int kd n)
 | kd,n,.int _ m :: r,k,z=>Ul f kd (f n m) r k z
 | _,_,_ :: _,_,z=>z
def Vd (f:Int->Int->Int) (args:List AV) (k:AV->Ω) (z:Ω):Ω :=
 match args with
 | .int kd n :: r=>Ul f kd n r k z
 | _=>z
inductive Tgt where
 | fn (f:FuncId)
 | yld (id:Nat)
def Al8 (P:Program) (t:TypeId) (v:AV) (name:String):Option (FuncId × AV) :=
 match P.info? t with
 | some i=>match i.methods.find? (·.name == name) with
  | some m=>cond m.path.isEmpty (match m.func,P.underlying t with
   | some (f,true),some (.pointer _)=>some (f,v)
   | some (f,false),some (.struct _)=>some (f,v)
   | some (f,false),some (.int _)=>some (f,v)
   | _,_=>none) none
  | none=>none
 | none=>none
def Y6 (P:Program) (x:AV) (asserted:TypeId) (ok:Bool) (k:AV->Ω) (z:Ω):Ω :=
 match P.underlying asserted,P.info? asserted with
 | some (.interface _),_=>z
 | some _,some i=>match x,i.zero with
  | .iface t v,some zv=>cond (Nat.beq t asserted) (k (cond ok (.tup [v,.bool true]) v)) (cond ok (k (.tup [ofV zv,.bool false])) z)
  | .niliface,some zv=>cond ok (k (.tup [ofV zv,.bool false])) z
  | _,_=>z
 | _,_=>z
def Kt (ρ:Operand->AV) (l:Array Operand):List AV:=l.toList.map ρ
def Ru (C:Cfg) (ρ:Operand->AV) (h:Heap) (nx:Nat) (c:Call) (kv:AV->Heap->Nat->Ω) (kc:Tgt->List AV->Ω) (kp:AV->Ω) (z:Ω):Ω :=
 match c.callee with
 | .value f=>match ρ f with
  | .fn (.func g) first cap=>kc (.fn g) (first ++ Kt ρ c.args ++ cap)
  | .yld id=>kc (.yld id) (Kt ρ c.args)
  | _=>z
 | .invoke recv name=>match ρ recv with
  | .iface t v=>match Al8 C.P t v name with
   | some (f,r)=>kc (.fn f) (r :: Kt ρ c.args)
   | none=>z
  | _=>z
 | .builtin .panic=>match Kt ρ c.args with
  | .iface t v :: _=>kp (.iface t v)
  | _=>z
 | .builtin .len=>match Kt ρ c.args,c.argTypes.toList with
  | x :: _,t :: _=>Ayz C.P t x (fun v=>kv v h nx) z
  | _,_=>z
 | .builtin .append=>match Kt ρ c.args,c.argTypes.toList with
  | [s,x],[t,t']=>Y5 C.P h nx t t' s x kv z
  | _,_=>z
 | .builtin .copy=>match Kt ρ c.args,c.argTypes.toList with
  | [d,x],t :: _=>Aj3 C.P h t d x (fun v h'=>kv v h' nx) z
  | _,_=>z
 | .builtin .min=>Vd A9z (Kt ρ c.args) (fun v=>kv v h nx) z
 | .builtin .max=>Vd Dc (Kt ρ c.args) (fun v=>kv v h nx) z
 | _=>z
def aop (C:Cfg) (ρ:Operand->AV) (h:Heap) (nx:Nat) (op:Op) (kv:AV->Heap->Nat->Ω) (kc:Tgt->List AV->Ω) (kp:AV->Ω) (z:Ω):Ω :=
 match op with
 | .move x=>kv (ρ x) h nx
 | .assign x=>kv (ρ x) h nx
 | .pick c a b=>match ρ c with
  | .bool t=>cond t (kv (ρ a) h nx) (kv (ρ b) h nx)
  | _=>z
 | .alloc t=>match zeroCells C.P t with
  | some cs=>kv (.ptr nx 0) ((nx,⟨cs,t,true⟩) :: h) (nx + 1)
  | none=>z
 | .box t x=>match (ρ x).cellsL with
  | some cs=>kv (.ptr nx 0) ((nx,⟨cs,t,cs.all (AV.noRef 2)⟩) :: h) (nx + 1)
  | none=>z
 | .build t parts=>Ac1 C.P t (parts.toList.map fun p=>(p.1,ρ p.2)) (fun v=>kv v h nx) z
 | .buildSlice t len parts=>match C.P.underlying t with
  | some (.slice e)=>match C.P.info? e,zeroCells C.P e with
   | some i,some zs=>cond (Nat.ble (len * i.size) 16777216&&Nat.ble len maxLen) (Zo (fun j=>some (j * i.size,i.size)) (List.replicate len zs).flatten (parts.toList.map fun p=>(p.1,ρ p.2))
     (fun cs=>kv (.sl nx 0 len i.size true) ((nx,⟨cs,e,cs.all (AV.noRef 2)⟩) :: h) (nx + 1)) z) z
   | _,_=>z
  | _=>z
 | .load t x=>match ρ x with
  | .ptr id off=>match Dl h id with
   | some hb=>Ad3 C.P t (cond hb.pure 1 2) hb.cells off (fun v=>kv v h nx) z
   | none=>z
  | .iptr cells off=>Ad3 C.P t 0 cells off (fun v=>kv v h nx) z
  | _=>z
 | .store t x v=>match ρ x,(ρ v).cellsL,C.P.info? t with
  | .ptr id off,some vs,some i=>match Dl h id with
   | some hb=>cond (vs.all AV.one&&(Nat.beq vs.length i.size&&Nat.ble (off + vs.length) hb.cells.length)) (kv (.tup []) (hset h id ⟨Agb hb.cells off vs,hb.elem,hb.pure&&vs.all (AV.noRef 2)⟩) nx) z
   | none=>z
  | _,_,_=>z
 | .nilCheck x=>match ρ x with
  | .ptr id off=>kv (.ptr id off) h nx
  | .iptr c off=>kv (.iptr c off) h nx
  | .fn (.func g) fs cs=>kv (.fn (.func g) fs cs) h nx
  | _=>z
 | .binOp op t x y _=>Ayy C.P op t x y (ρ x) (ρ y) (fun v=>kv v h nx) z
 | .unOp op _ x=>unK op (ρ x) (fun v=>kv v h nx) z
 | .convert src dst x=>Aj2 C.P src dst (ρ x) (fun v=>kv v h nx) z
 | .makeInterface t x=>match C.P.underlying t with
  | some (.interface _)=>z
  | some _=>kv (.iface t (ρ x)) h nx
  | none=>z
 | .makeFunc fn first cap=>kv (.fn fn (Kt ρ first) (Kt ρ cap)) h nx
 | .makeSlice t l c=>O0 C.P h nx t (ρ l) (ρ c) kv z
 | .slice t x lo hi mx=>Ac4 C.P t (ρ x) (lo.map ρ) (hi.map ρ) (mx.map ρ) (fun v=>kv v h nx) z
 | .fieldAddr s x f=>Oy C.P s (ρ x) f (fun v=>kv v h nx) z
 | .field t x f=>Ac2 C.P t (ρ x) f (fun v=>kv v h nx) z
 | .indexAddr t x i=>Oz C.P t (ρ x) (ρ i) (fun v=>kv v h nx) z
 | .index t x i=>Ac3 C.P t (ρ x) (ρ i) (fun v=>kv v h nx) z
 | .extract x i=>match ρ x with
  | .tup vs=>match vs[i]? with
   | some v=>kv v h nx
   | none=>z
  | _=>z
 | .typeAssert x _ asserted ok=>Y6 C.P (ρ x) asserted ok (fun v=>kv v h nx) z
 | .panic x=>match ρ x with
  | .iface t v=>kp (.iface t v)
  | _=>z
 | .call c=>Ru C ρ h nx c kv kc kp z
 | _=>z
end
end
end Go.Bas
end
section
namespace Go.Bas
open Go.RowKit
theorem Bo {b:Bool} {x:Bool} (h:cond b x false=true):b=true/\x=true:=by cases b <;> simp_all
theorem Dt {b x y:Bool} (h:cond b x y=true):(b=true/\x=true)\/(b=false/\y=true):=by cases b <;> simp_all
theorem Abd {b x:Bool} (h:cond b false x=true):b=false/\x=true:=by cases b <;> simp_all
theorem En {a b:Bool} (h:(a&&b)=true):a=true/\b=true:=by simpa using h
theorem Dw {a b:Nat} (h:Nat.beq a b=true):a=b:=(Ea a b).1 h
theorem I8 {a b:Nat} (h:Nat.ble a b=true):a<=b:=Nlb h
theorem F8 (b o j:Nat):(⟨b,o,none⟩:Addr).add j=⟨b,o + j,none⟩:=by unfold Addr.add;split <;> simp_all
theorem Aj4 {v:AV} {k:AV->Bool} (h:cond v.isL (k (.lst v.lc v.ln)) (cond v.isNils (k .nils) (cond v.isNs (k .ns) (cond v.isEs (k .es) false)))=true):k v=true:=by
 cases v <;> first | exact h | cases h
theorem Ug {c:CK} {mode:Nat} {v:AV} {k:AV->Bool} (h:Tq c mode v k false=true):k v=true:=by
 unfold Tq at h
 split at h
 ·obtain ⟨h1,h2⟩:=Bo h;rw [AV.of_isB h1];exact h2
 ·obtain ⟨h1,h2⟩:=Bo h;rw [AV.of_isI h1];exact h2
 ·split at h
  ·exact Aj4 h
  ·exact Aj4 h
  ·exact h
 ·exact h
theorem Abe {mode:Nat} {cells:List AV}:∀ {ks:List CK} {off:Nat} {k:List AV->Bool},Acy mode cells ks off k false=true ->
  k ((List.range ks.length).map fun j=>cells.getD (off + j) .any)=true
 | [],off,k,h=>h
 | c :: cs,off,k,h=>by
  have h1:=Ug h;have h2:=Abe h1;rw [Ja] at h2;simp only [List.length_cons,List.range_succ_eq_map,List.map_cons,List.map_map,Nat.add_zero];rw [show (fun j=>cells.getD (off + j) AV.any) ∘ Nat.succ=fun j=>cells.getD (off + 1 + j) AV.any from funext fun j=>by simp [Nat.add_assoc,Nat.add_comm 1 j]]
  exact h2
theorem A22 (l:List AV):Bh8 l=l.getD 0 .any:=by cases l <;> rfl
theorem Abf {mode:Nat}:∀ {ks:List CK} {l:List AV} {k:List AV->Bool},Acz mode ks l k false=true->k ((List.range ks.length).map fun j=>l.getD j .any)=true
 | [],l,k,h=>h
 | c :: cs,l,k,h=>by
  have h1:=Ug h;have h2:=Abf h1;rw [A22] at h2;simp only [List.length_cons,List.range_succ_eq_map,List.map_cons,List.map_map];have e:((fun j=>l.getD j AV.any) ∘ Nat.succ)=fun j=>(Awe l).getD j AV.any:=funext fun j=>by cases l <;> simp [Awe]
  rw [e];exact h2
theorem Al9 {mode:Nat} {cells:List AV} {ks:List CK} {off:Nat} {k:List AV->Bool} (h:Ac0 mode cells ks off k false=true):k ((List.range ks.length).map fun j=>cells.getD (off + j) .any)=true:=by
 unfold Ac0 at h
 rcases Dt h with ⟨_,h⟩ | ⟨_,h⟩
 ·exact Abe h
 ·have h2:=Abf h
  have e:(fun j=>(cells.drop off).getD j AV.any)=fun j=>cells.getD (off + j) AV.any:=funext fun j=>by
   rw [List.getD_eq_getElem?_getD,List.getD_eq_getElem?_getD,List.getElem?_drop]
  rw [e] at h2;exact h2
def Lies (w:World) (B:Nat->Prop) (own:Nat->Prop) (ω:Nat->Option Nat) (nx b o:Nat) (cells:List AV):Prop :=
 ∃ vs:Nat->Value,(∀ i,i < cells.length->w.cell? ⟨b,o + i,none⟩=some (vs i))/\∀ i (h:i < cells.length),Rep w B own ω nx cells[i] (vs i)
section
variable {w:World} {B:Nat->Prop} {own:Nat->Prop} {ω:Nat->Option Nat} {nx:Nat} {P:Program}
def Same (w w':World):Prop:=∀ a v,w.cell? a=some v->w'.cell? a=some v
theorem Same.refl (w:World):Same w w:=fun _ _ h=>h
theorem Xe {t:TypeId} {mode:Nat} {cells:List AV} {off b o:Nat} {k:AV->Bool} (hl:Lies w B own ω nx b o cells) (h:Ad3 P t mode cells off k false=true) :
  ∃ v u,(∀ w',Same w w'->(loadVar t ⟨b,o + off,none⟩).run P w'=.ok u w')/\Rep w B own ω nx v u/\k v=true:=by
 obtain ⟨vs,hv,hr⟩:=hl
 unfold Ad3 at h
 split at h
 ·rename_i i d hi hd
  obtain ⟨hk,h⟩:=Bo h;have hk:=Dw hk;have hu:=fun w=>run_underlying hd w
  rcases Dt h with ⟨ha,h⟩ | ⟨ha,h⟩
  ·obtain ⟨hb,h⟩:=Bo h
   have hb:=I8 hb;have h2:=Al9 h;refine ⟨_,.agg ((List.range i.size).map fun j=>vs (off + j)).toArray,fun w' hw=>?_,?_,h2⟩
   ·have hrun:=run_loadCells (P:=P) w' ⟨b,o + off,none⟩ i.size (fun j=>vs (off + j)) (fun j hj=>by rw [F8,Nat.add_assoc];exact hw _ _ (hv _ (by omega)))
    have hag:(isAgg t).run P w'=.ok true w':=by
     unfold isAgg;cases d <;> simp [Apx] at ha <;> simp [hu]
    simp [loadVar,hag,sizeOf,typeInfo,hi,hrun,Result.andThen]
   ·refine .agg _ _ _ (by simp [hk]) (fun j hj=>?_)
    simp only [List.length_map,List.length_range,hk] at hj;have hjl:off + j < cells.length:=by omega
    have e1:(((List.range (Afq i).length).map fun j=>cells.getD (off + j) AV.any)[j]'(by simpa [hk] using hj))=cells[off + j]:=by simp [hjl]
    have e2:(((List.range i.size).map fun j=>vs (off + j)).toArray.getD j undef)=vs (off + j):=by simp [hj]
    rw [e1,e2];exact hr _ hjl
  ·obtain ⟨hb,h⟩:=Bo h
   have hb:=I8 hb;have hlt:off < cells.length:=by omega
   have hag:∀ w,(isAgg t).run P w=.ok false w:=fun w=>by
    unfold isAgg;cases d <;> simp [Apx] at ha <;> simp [hu]
   split at h
   ·have h2:=Ug h
    rw [Ja] at h2;have e:cells.getD off AV.any=cells[off]:=by simp [hlt]
    rw [e] at h2;refine ⟨_,vs off,fun w' hw=>?_,hr off hlt,h2⟩
    have hc:=hw _ _ (hv off hlt);simp [loadVar,hag,load,Sem.run,hc,Result.andThen]
   ·cases h
 ·cases h
end
structure Hp (w:World) (B:Nat->Prop) (own:Nat->Prop) (ω:Nat->Option Nat) (nx:Nat) (h:Heap):Prop where
 rel:HRel w B own ω nx h
 inj:∀ i j b,(Dl h i).isSome=true->(Dl h j).isSome=true->ω i=some b->ω j=some b->i=j
 ob:∀ b,own b->b < w.heap.size
section
variable {w w':World} {B:Nat->Prop} {own:Nat->Prop} {ω:Nat->Option Nat} {nx:Nat} {h h':Heap}
theorem N8 {own':Nat->Prop} {ω':Nat->Option Nat} {nx':Nat} {p:Bool} {v:AV} {u:Value} (hr:Rep w B own ω (cond p 0 nx) v u) (e:Ext w own ω nx w' own' ω' nx'):Rep w' B own' ω' (cond p 0 nx') v u:=by
 cases p
 ·exact hr.ext e
 ·exact hr.ext0 e
theorem Hp.put (H:Hp w B own ω nx h) {b:Nat} {arr:Array Value} {hb:HB} (hos:w'.os=w.os) (htape:w'.tape=w.tape) (hout:w'.output=w.output) (hsz:w.heap.size<=w'.heap.size)
  (hold:∀ k,k < w.heap.size->k ≠ b->w'.heap[k]?=w.heap[k]?) (hb':w'.heap[b]?=some (.cells arr hb.elem (0,0)))
  (hnew:w.heap.size<=b\/(own b/\∀ j,(Dl h' j).isSome=true->ω j ≠ some b)) (hrow:∀ n,rowSize w b=some n->n=arr.size)
  (hsub:∀ j x,Dl h' j=some x->Dl h j=some x) (hlen:hb.cells.length<=arr.size)
  (hcell:∀ i (hi:i < hb.cells.length),Rep w B own ω (cond hb.pure 0 nx) hb.cells[i] (arr.getD i undef)) :
  Ext w own ω nx w' (fun x=>own x\/x=b) (fun i=>if i=nx then some b else ω i) (nx + 1) /\
  Hp w' B (fun x=>own x\/x=b) (fun i=>if i=nx then some b else ω i) (nx + 1) ((nx,hb) :: h'):=by
 have hblt:b < w'.heap.size:=(Array.getElem?_eq_some_iff.1 hb').1
 have E:Ext w own ω nx w' (fun x=>own x\/x=b) (fun i=>if i=nx then some b else ω i) (nx + 1):=by
  refine ⟨hos,htape,hout,hsz,fun k hk hn=>hold k hk (fun e=>?_),fun k hk=>?_,by omega,fun id hi=>if_neg (by omega),fun k n hr=>?_⟩
  ·subst e
   exact hnew.elim (fun h=>by omega) (fun h=>hn h.1)
  ·rcases hk with hk | rfl
   ·exact .inl hk
   ·exact hnew.elim .inr (fun h=>.inl h.1)
  ·by_cases e:k=b
   ·subst e
    have:=hrow n hr;simp [rowSize,hb',this]
   ·have hk:k < w.heap.size:=by
     rcases Nat.lt_or_ge k w.heap.size with h | h
     ·exact h
     ·simp [rowSize,Array.getElem?_eq_none h] at hr
    simpa [rowSize,hold k hk e] using hr
 refine ⟨E,⟨fun id x hx=>?_,fun i j c hi hj h1 h2=>?_,fun c hc=>?_⟩⟩
 ·simp only [Ei] at hx
  cases he:Nat.beq nx id with
  | true =>
   have:=Dw he;subst this;simp only [he,cond_true,Option.some.injEq] at hx;subst hx;exact ⟨by omega,b,arr,by simp,.inr rfl,hb',hlen,fun i hi=>N8 (hcell i hi) E⟩
  | false =>
   simp only [he,cond_false] at hx;have hne:id ≠ nx:=fun e=>by subst e;exact absurd he (by simp [(Ea id id).2 rfl])
   obtain ⟨h1,c,arr',h2,h3,h4,h5,h6⟩:=H.rel id x (hsub id x hx);refine ⟨by omega,?_⟩
   have hcb:c ≠ b:=fun e=>by
    subst e
    rcases hnew with hn | hn
    ·have:=H.ob c h3;omega
    ·exact hn.2 id (by simp [hx]) h2
   refine ⟨c,arr',by simp [hne,h2],.inl h3,?_,h5,fun i hi=>N8 (h6 i hi) E⟩
   rw [hold c (H.ob c h3) hcb];exact h4
 ·have key:∀ i,(Dl ((nx,hb) :: h') i).isSome=true->i ≠ nx->(Dl h' i).isSome=true:=fun i hi hne=>by
   simp only [Ei] at hi;cases he:Nat.beq nx i with
   | true=>exact absurd (Dw he).symm hne
   | false=>simpa [he] using hi
  have up:∀ i,(Dl h' i).isSome=true->(Dl h i).isSome=true:=fun i hi=>by
   obtain ⟨x,hx⟩:=Option.isSome_iff_exists.1 hi;simp [hsub i x hx]
  have fresh:∀ i,(Dl h' i).isSome=true->ω i=some b->False:=fun i hi hw=>by
   rcases hnew with hn | hn
   ·obtain ⟨x,hx⟩:=Option.isSome_iff_exists.1 (up i hi)
    obtain ⟨_,c,_,h2,h3,_⟩:=H.rel i x hx;rw [h2] at hw;cases hw;have:=H.ob b h3;omega
   ·exact hn.2 i hi hw
  by_cases ei:i=nx
  ·by_cases ej:j=nx
   ·rw [ei,ej]
   ·simp only [ei,if_true,Option.some.injEq] at h1
    simp only [ej,if_false] at h2;subst h1;exact (fresh j (key j hj ej) h2).elim
  ·by_cases ej:j=nx
   ·simp only [ej,if_true,Option.some.injEq] at h2
    simp only [ei,if_false] at h1;subst h2;exact (fresh i (key i hi ei) h1).elim
   ·simp only [ei,ej,if_false] at h1 h2
    exact H.inj i j c (up i (key i hi ei)) (up j (key j hj ej)) h1 h2
 ·rcases hc with hc | rfl
  ·exact Nat.lt_of_lt_of_le (H.ob c hc) hsz
  ·exact hblt
theorem Hp.write (H:Hp w B own ω nx h) {id b:Nat} {arr:Array Value} {hb hb2:HB} (hid:Dl h id=some hb) (hω:ω id=some b) (hos:w'.os=w.os) (htape:w'.tape=w.tape) (hout:w'.output=w.output)
  (hsz:w'.heap.size=w.heap.size) (hold:∀ k,k ≠ b->w'.heap[k]?=w.heap[k]?) (hb':w'.heap[b]?=some (.cells arr hb2.elem (0,0)))
  (hrow:∀ n,rowSize w b=some n->n=arr.size) (hlen:hb2.cells.length<=arr.size)
  (hcell:∀ i (hi:i < hb2.cells.length),Rep w B own ω (cond hb2.pure 0 nx) hb2.cells[i] (arr.getD i undef)) :
  Ext w own ω nx w' own ω nx/\Hp w' B own ω nx (hset h id hb2):=by
 obtain ⟨hidn,hrel⟩:=H.rel id hb hid
 have hown:own b:=by
  obtain ⟨c,_,h2,h3,_⟩:=hrel;rw [h2] at hω;cases hω;exact h3
 have E:Ext w own ω nx w' own ω nx:=by
  refine ⟨hos,htape,hout,by omega,fun k _ hn=>hold k (fun e=>hn (e ▸ hown)),fun k hk=>.inl hk,Nat.le_refl _,fun _ _=>rfl,fun k n hr=>?_⟩
  by_cases e:k=b
  ·subst e
   simp [rowSize,hb',hrow n hr]
  ·simpa [rowSize,hold k e] using hr
 refine ⟨E,⟨fun j x hx=>?_,fun i j c hi hj h1 h2=>?_,fun c hc=>(by have:=H.ob c hc;omega)⟩⟩
 ·rw [Ajz] at hx
  split at hx
  ·rename_i e
   subst e;simp only [hid,Option.map_some,Option.some.injEq] at hx;subst hx;exact ⟨hidn,b,arr,hω,hown,hb',hlen,fun i hi=>N8 (hcell i hi) E⟩
  ·rename_i hne
   obtain ⟨h1,c,arr',h2,h3,h4,h5,h6⟩:=H.rel j x hx;refine ⟨h1,?_⟩
   have hcb:c ≠ b:=fun e=>by
    subst e;exact hne (H.inj j id c (by simp [hx]) (by simp [hid]) h2 hω)
   exact ⟨c,arr',h2,h3,by rw [hold c hcb];exact h4,h5,fun i hi=>N8 (h6 i hi) E⟩
 ·have key:∀ i,(Dl (hset h id hb2) i).isSome=true->(Dl h i).isSome=true:=fun i hi=>by
   rw [Ajz] at hi;split at hi
   ·rename_i e;subst e;simp [hid]
   ·exact hi
  exact H.inj i j c (key i hi) (key j hj) h1 h2
end
end Go.Bas
end
section
namespace Go.Bas
open Go.RowKit
section
variable {w:World} {B:Nat->Prop} {own:Nat->Prop} {ω:Nat->Option Nat} {nx:Nat} {P:Program}
def Gt (P:Program) (w:World) (B:Nat->Prop) (own:Nat->Prop) (ω:Nat->Option Nat) (nx:Nat) (s:Sem Value) (k:AV->Bool):Prop :=
 ∃ v u,(∀ w',Same w w'->s.run P w'=.ok u w')/\Rep w B own ω nx v u/\k v=true
theorem Apz {op:BinOp} {t:TypeId} {kd kd':IntKind} {a b:Int} {k:AV->Bool} (h:Aj1 op kd kd' a b k false=true) :
  Gt P w B own ω nx (binOp op t (.int kd a) (.int kd' b)) k:=by
 cases op <;> simp only [Aj1] at h
 case shl=>obtain ⟨h1,h2⟩:=Abd h;exact ⟨_,_,fun w _=>by simp at h1;simp [binOp,Op.shift,show ¬ b < 0 by omega,Gz,Sem.run],.int _ _ _,h2⟩
 case shr=>obtain ⟨h1,h2⟩:=Abd h;exact ⟨_,_,fun w _=>by simp at h1;simp [binOp,Op.shift,show ¬ b < 0 by omega,ishr,Sem.run],.int _ _ _,h2⟩
 all_goals (obtain ⟨h1,h2⟩:=Bo h;have h1:=kindEq_eq h1;subst h1)
 case quo=>obtain ⟨h3,h4⟩:=Abd h2;exact ⟨_,_,fun w _=>by simp at h3;simp [binOp,Op.intDiv,h3,Sem.run],.int _ _ _,h4⟩
 case rem=>obtain ⟨h3,h4⟩:=Abd h2;exact ⟨_,_,fun w _=>by simp at h3;simp [binOp,Op.intDiv,h3,Sem.run],.int _ _ _,h4⟩
 case add=>exact ⟨_,_,fun w _=>by simp [binOp,Op.intArith,Sem.run],.int _ _ _,h2⟩
 case sub=>exact ⟨_,_,fun w _=>by simp [binOp,Op.intArith,Sem.run],.int _ _ _,h2⟩
 case mul=>exact ⟨_,_,fun w _=>by simp [binOp,Op.intArith,Sem.run],.int _ _ _,h2⟩
 case and=>exact ⟨_,_,fun w _=>by simp [binOp,Op.intBits,iand,Y3,Sem.run],.int _ _ _,h2⟩
 case or=>exact ⟨_,_,fun w _=>by simp [binOp,Op.intBits,ior,Y3,Sem.run],.int _ _ _,h2⟩
 case xor=>exact ⟨_,_,fun w _=>by simp [binOp,Op.intBits,A9y,Y3,Sem.run],.int _ _ _,h2⟩
 case andNot=>exact ⟨_,_,fun w _=>by simp [binOp,Op.intBits,Qv,Y3,Sem.run],.int _ _ _,h2⟩
 case eql=>exact ⟨_,_,fun w _=>by simp [binOp,Op.intCmp,Sem.run],.bool _ _,h2⟩
 case neq=>exact ⟨_,_,fun w _=>by simp [binOp,Op.intCmp,Sem.run],.bool _ _,h2⟩
 case lss=>exact ⟨_,_,fun w _=>by simp [binOp,Op.intCmp,Sem.run],.bool _ _,h2⟩
 case leq=>exact ⟨_,_,fun w _=>by simp [binOp,Op.intCmp,Sem.run],.bool _ _,h2⟩
 case gtr=>exact ⟨_,_,fun w _=>by simp [binOp,Op.intCmp,Sem.run],.bool _ _,h2⟩
 case geq=>exact ⟨_,_,fun w _=>by simp [binOp,Op.intCmp,Sem.run],.bool _ _,h2⟩
theorem Ay0 {op:UnOp} {x:AV} {u:Value} {k:AV->Bool} (hx:Rep w B own ω nx x u) (h:unK op x k false=true):Gt P w B own ω nx (Op.unary op u) k:=by
 unfold unK at h
 split at h
 ·cases hx;exact ⟨_,_,fun w _=>by simp [Op.unary,Sem.run],.bool _ _,h⟩
 ·cases hx;exact ⟨_,_,fun w _=>by simp [Op.unary,Op.intArith,Sem.run],.int _ _ _,h⟩
 ·cases hx;exact ⟨_,_,fun w _=>by simp [Op.unary,Op.intBits,A9y,Y3,Sem.run],.int _ _ _,h⟩
 ·cases h
theorem Ap0 {src dst:TypeId} {x:AV} {u:Value} {k:AV->Bool} (hx:Rep w B own ω nx x u) (h:Aj2 P src dst x k false=true):Gt P w B own ω nx (convert src dst u) k:=by
 unfold Aj2 at h
 split at h
 ·split at h
  ·rename_i hs hd
   cases hx;exact ⟨_,_,fun w _=>by simp [convert,run_underlying hs,run_underlying hd,Conv.intToInt,Sem.run],.int _ _ _,h⟩
  ·cases h
 ·cases h
theorem Ac5 {s:TypeId} {x:AV} {u:Value} {f:Nat} {k:AV->Bool} (hx:Rep w B own ω nx x u) (h:Oy P s x f k false=true):Gt P w B own ω nx (Instr.fieldAt s u f) k:=by
 unfold Oy Apy at h
 split at h
 ·rename_i o t' heq
  split at heq
  ·rename_i fs hfs
   split at heq
   ·rename_i fl hfl
    split at heq
    ·rename_i i hi
     have hne:¬ i.size=0:=fun e=>by rw [e] at heq;simp [(Ea 0 0).2 rfl] at heq
     have:Nat.beq i.size 0=false:=by
      cases hb:Nat.beq i.size 0 with
      | false=>rfl
      | true=>exact absurd (Dw hb) hne
     rw [this] at heq;simp only [cond_false,Option.some.injEq,Prod.mk.injEq] at heq;obtain ⟨rfl,rfl⟩:=heq
     have run:∀ b o' (w:World),(Instr.fieldAt s (.pointer (some ⟨b,o',none⟩)) f).run P w=.ok (.pointer (some ⟨b,o' + fl.offset,none⟩)) w:=fun b o' w=>by
      simp [Instr.fieldAt,run_underlying hfs,hfl,Instr.sureAddr,fieldPlace,sizeOf,typeInfo,hi,hne,F8,Sem.run,Result.andThen]
     split at h
     ·cases hx with
      | ptr _ _ _ b h1 h2=>exact ⟨_,_,fun w _=>run _ _ w,.ptr _ _ _ _ h1 h2,h⟩
     ·cases hx with
      | iptr _ _ _ b o' vs h1 h2 h3=>exact ⟨_,_,fun w _=>run _ _ w,by rw [Nat.add_assoc];exact .iptr _ _ _ b o' vs h1 h2 h3,h⟩
     ·cases h
    ·cases heq
   ·cases heq
  ·cases heq
 ·cases h
theorem Ad4 {t:TypeId} {cs:List AV} {vs:Array Value} {off:Nat} {k:AV->Bool} (hlen:cs.length=vs.size) (hx:∀ i (h:i < cs.length),Rep w B own ω nx cs[i] (vs.getD i undef)) (h:Agc P t cs off k false=true) :
  Gt P w B own ω nx (part t vs off) k:=by
 unfold Agc at h
 split at h
 ·rename_i i d hi hd
  have hu:=fun w=>run_underlying hd w
  rcases Dt h with ⟨ha,h⟩ | ⟨ha,h⟩
  ·obtain ⟨hb,h⟩:=Bo h
   have hb:=I8 hb
   have hag:∀ w,(isAgg t).run P w=.ok true w:=fun w=>by
    unfold isAgg;cases d <;> simp [Apx] at ha <;> simp [hu]
   refine ⟨_,.agg (vs.extract off (off + i.size)),fun w _=>?_,?_,h⟩
   ·simp [part,hag,sizeOf,typeInfo,hi,Sem.run,Result.andThen]
   ·refine .agg _ _ _ (by simp;omega) (fun j hj=>?_)
    simp only [List.length_take,List.length_drop] at hj;have hj':off + j < cs.length:=by omega
    have e1:((cs.drop off).take i.size)[j]'(by simp;omega)=cs[off + j]:=by simp
    have e2:(vs.extract off (off + i.size)).getD j undef=vs.getD (off + j) undef:=by
     simp only [Array.getD_eq_getD_getElem?,Array.getElem?_extract];rw [if_pos (by omega)]
    rw [e1,e2];exact hx _ hj'
  ·have hag:∀ w,(isAgg t).run P w=.ok false w:=fun w=>by
    unfold isAgg;cases d <;> simp [Apx] at ha <;> simp [hu]
   split at h
   ·rename_i v hv
    obtain ⟨hlt,e⟩:=List.getElem?_eq_some_iff.1 hv;have hlt':off < vs.size:=by omega
    refine ⟨v,vs[off],fun w _=>?_,?_,h⟩
    ·simp [part,hag,hlt',Sem.run,Result.andThen]
    ·have:=hx off hlt
     rw [e] at this
     simpa [hlt'] using this
   ·cases h
 ·cases h
theorem Ama {t:TypeId} {x:AV} {u:Value} {f:Nat} {k:AV->Bool} (hx:Rep w B own ω nx x u) (h:Ac2 P t x f k false=true):Gt P w B own ω nx (Instr.field t u f) k:=by
 unfold Ac2 at h
 split at h
 ·rename_i fs cs hfs
  split at h
  ·rename_i fl hfl
   cases hx with
   | agg _ _ vs h1 h2 =>
    obtain ⟨v,u,hr,hrep,hk⟩:=Ad4 h1 h2 h;exact ⟨v,u,fun w' hw=>by simp [Instr.field,run_underlying hfs,hfl,asAgg,hr w' hw,Sem.run,Result.andThen],hrep,hk⟩
  ·cases h
 ·cases h
theorem Rw {n:Int} {len:Nat} (h:Ju n len=true):0<=n/\n < (len:Int):=by simpa [Ju] using h
theorem Jj {e:TypeId} {sz:Nat} (h:Pv P e=some sz):∃ i,P.info? e=some i/\i.size=sz:=by
 simpa [Pv,Option.map_eq_some_iff] using h
theorem Ac6 {t:TypeId} {x i:AV} {u ui:Value} {k:AV->Bool} (hx:Rep w B own ω nx x u) (hi:Rep w B own ω nx i ui) (h:Oz P t x i k false=true):Gt P w B own ω nx (Instr.indexAt t u ui) k:=by
 unfold Oz at h
 split at h
 ·rename_i kd n
  cases hi;split at h
  ·rename_i e he
   split at h
   ·rename_i sz hsz
    obtain ⟨inf,hinf,rfl⟩:=Jj hsz;split at h
    ·rename_i cells len
     obtain ⟨h1,h2⟩:=Bo h;obtain ⟨h1,h3⟩:=En h1;have hin:=Rw h1;have h3:=Dw h3;cases hx with
     | lst _ _ _ cap b o vs g1 g3 g4 g5 =>
      refine ⟨_,.pointer (some ⟨b,o + n.toNat * inf.size,none⟩),fun w _=>?_,.iptr _ _ _ b o vs g1 g4 g5,h2⟩
      simp [Instr.indexAt,run_underlying he,asIntOf,hin,sizeOf,typeInfo,hinf,F8,Sem.run,Result.andThen]
     | lstn _ _ _=>have h0:=hin.2;simp at h0;omega
    ·rename_i id off len s app
     obtain ⟨h1,h2⟩:=Bo h;have hin:=Rw h1;cases hx with
     | sl _ _ _ _ _ cap b g1 g2 g3 =>
      refine ⟨_,.pointer (some ⟨b,off + n.toNat * inf.size,none⟩),fun w _=>?_,.ptr _ _ _ b g1 g2,h2⟩
      simp [Instr.indexAt,run_underlying he,asIntOf,hin,sizeOf,typeInfo,hinf,F8,Sem.run,Result.andThen]
     | sla _ _ _ _ cap b g1 g2 g3 g4 g5 =>
      refine ⟨_,.pointer (some ⟨b,0 + n.toNat * inf.size,none⟩),fun w _=>?_,.ptr _ _ _ b g1 g2,h2⟩
      simp [Instr.indexAt,run_underlying he,asIntOf,hin,sizeOf,typeInfo,hinf,F8,Sem.run,Result.andThen]
    ·cases h
   ·cases h
  ·rename_i len e he
   split at h
   ·rename_i sz hsz
    obtain ⟨inf,hinf,rfl⟩:=Jj hsz;split at h
    ·rename_i cells off
     obtain ⟨h1,h2⟩:=Bo h;have hin:=Rw h1;cases hx with
     | iptr _ _ _ b o vs g1 g2 g3 =>
      refine ⟨_,.pointer (some ⟨b,o + (off + n.toNat * inf.size),none⟩),fun w _=>?_,.iptr _ _ _ b o vs g1 g2 g3,h2⟩
      simp [Instr.indexAt,run_underlying he,asIntOf,hin,sizeOf,typeInfo,hinf,F8,Instr.sureAddr,Sem.run,Result.andThen,Nat.add_assoc]
    ·obtain ⟨h1,h2⟩:=Bo h
     have hin:=Rw h1;cases hx with
     | ptr _ _ _ b g1 g2 =>
      refine ⟨_,_,fun w _=>?_,.ptr _ _ _ b g1 g2,h2⟩
      simp [Instr.indexAt,run_underlying he,asIntOf,hin,sizeOf,typeInfo,hinf,F8,Instr.sureAddr,Sem.run,Result.andThen]
    ·cases h
   ·cases h
  ·cases h
 ·cases h
theorem Amb {t:TypeId} {x i:AV} {u ui:Value} {k:AV->Bool} (hx:Rep w B own ω nx x u) (hi:Rep w B own ω nx i ui) (h:Ac3 P t x i k false=true):Gt P w B own ω nx (Instr.index t u ui) k:=by
 unfold Ac3 at h
 split at h
 ·rename_i kd n cs
  cases hi;split at h
  ·rename_i len e he
   split at h
   ·rename_i sz hsz
    obtain ⟨inf,hinf,rfl⟩:=Jj hsz;obtain ⟨h1,h2⟩:=Bo h;have hin:=Rw h1;cases hx with
    | agg _ _ vs g1 g2 =>
     obtain ⟨v,u,hr,hrep,hk⟩:=Ad4 g1 g2 h2;exact ⟨v,u,fun w' hw=>by simp [Instr.index,run_underlying he,asIntOf,hin,sizeOf,typeInfo,hinf,hr w' hw,Sem.run,Result.andThen],hrep,hk⟩
   ·cases h
  ·cases h
 ·cases h
theorem Ve {l h:Int} {len:Nat} (hh:Xd l h len=true):0<=l/\l<=h/\h<=(len:Int):=by simpa [Xd] using hh
theorem Abg {cells:List AV} {cap b o d m:Nat} {vs:Nat->Value} (g1:cells ≠ []->b < w.heap.size/\¬ own b/\¬ B b) (hm:m<=cap)
  (g4:∀ i,i < cells.length->w.cell? ⟨b,o + i,none⟩=some (vs i)) (g5:∀ i (h:i < cells.length),Rep w B own ω 0 cells[i] (vs i)) (c:Nat) :
  Rep w B own ω nx (.lst ((cells.drop d).take c) m) (.slice (some ⟨b,o + d,none⟩) m cap):=by
 refine .lst _ _ _ _ b (o + d) (fun i=>vs (d + i)) (fun hne=>g1 (fun e=>by subst e;simp at hne)) hm (fun i hi=>?_) (fun i hi=>?_)
 ·simp only [List.length_take,List.length_drop] at hi
  rw [Nat.add_assoc];exact g4 _ (by omega)
 ·simp only [List.length_take,List.length_drop] at hi
  simp only [List.getElem_take,List.getElem_drop];exact g5 _ (by omega)
theorem Abh (a:Addr) (cap:Nat) (hs:a.spot=none):Rep w B own ω nx (.lst [] 0) (.slice (some a) 0 cap):=by
 exact .lstn _ _ _
def Pg (w:World) (B:Nat->Prop) (own:Nat->Prop) (ω:Nat->Option Nat) (nx:Nat):Option AV->Option Value->Prop
 | none,none=>True
 | some a,some v=>Rep w B own ω nx a v
 | _,_=>False
theorem Jk {oa:Option AV} {ov:Option Value} {d:Nat} {l:Int} (hb:Pg w B own ω nx oa ov) (h:J9 oa d=some l):(ov=none/\l=d)\/∃ kd,ov=some (.int kd l):=by
 cases oa with
 | none=>cases ov with
  | none=>simp only [J9,Option.some.injEq] at h;exact .inl ⟨rfl,h.symm⟩
  | some v=>exact hb.elim
 | some a=>cases ov with
  | none=>exact hb.elim
  | some v =>
   simp only [Pg] at hb;cases hb <;> simp only [J9] at h <;> try cases h
   exact .inr ⟨_,rfl⟩
theorem Vf {ov:Option Value} (hb:Pg w B own ω nx none ov):ov=none:=by
 cases ov with
 | none=>rfl
 | some v=>exact hb.elim
theorem Aaj {kd:IntKind} {m:Int} {ov:Option Value} (hb:Pg w B own ω nx (some (.int kd m)) ov):ov=some (.int kd m):=by
 cases ov with
 | none=>exact hb.elim
 | some v=>cases hb;rfl
theorem Rx {isS:Bool} {len cap:Nat} {olo ohi:Option Value} {l h:Int} (hlo:(olo=none/\l=(0:Nat))\/∃ kd,olo=some (.int kd l)) (hhi:(ohi=none/\h=len)\/∃ kd,ohi=some (.int kd h))
  (h1:0<=l) (h2:l<=h) (h3:h<=cap):(Instr.sliceBounds isS len cap olo ohi none).run P w=.ok (l.toNat,h.toNat,cap) w:=by
 rcases hlo with ⟨rfl,rfl⟩ | ⟨kd,rfl⟩ <;> rcases hhi with ⟨rfl,rfl⟩ | ⟨kd',rfl⟩
 ·simp [Instr.sliceBounds,Sem.run,Result.andThen]
 ·simp [Instr.sliceBounds,Instr.sliceBound,asIntOf,show 0<=h/\h<=(cap:Int) from ⟨by omega,h3⟩,Sem.run,Result.andThen]
 ·simp [Instr.sliceBounds,Instr.sliceBound,asIntOf,h1,h2,Sem.run,Result.andThen]
 ·simp [Instr.sliceBounds,Instr.sliceBound,asIntOf,show 0<=h/\h<=(cap:Int) from ⟨by omega,h3⟩,h1,show l<=max h 0 by omega,Sem.run,Result.andThen]
theorem Ad5 {len cap:Nat} {olo ohi:Option Value} {h m:Int} {km:IntKind} (hlo:(olo=none/\(0:Int)=(0:Nat))\/∃ kd,olo=some (.int kd 0)) (hhi:∃ kd,ohi=some (.int kd h))
  (h2:0<=h) (h3:h<=m) (h4:m<=cap):(Instr.sliceBounds true len cap olo ohi (some (.int km m))).run P w=.ok (0,h.toNat,m.toNat) w:=by
 obtain ⟨kd',rfl⟩:=hhi
 rcases hlo with ⟨rfl,_⟩ | ⟨kd,rfl⟩
 ·simp [Instr.sliceBounds,Instr.sliceBound,asIntOf,show 0<=m/\m<=(cap:Int) from ⟨by omega,h4⟩,show 0<=h/\h<=max m 0 from ⟨h2,by omega⟩,Sem.run,Result.andThen]
 ·simp [Instr.sliceBounds,Instr.sliceBound,asIntOf,show 0<=m/\m<=(cap:Int) from ⟨by omega,h4⟩,show 0<=h/\h<=max m 0 from ⟨h2,by omega⟩,Sem.run,Result.andThen]
theorem Q8 {t e:TypeId} {inf:TypeInfo} (he:P.underlying t=some (.slice e)) (hinf:P.info? e=some inf) {a:Option Addr} {len cap:Nat} {vlo vhi vmx:Option Value} {l h m:Nat}
  (rb:(Instr.sliceBounds true len cap vlo vhi vmx).run P w=.ok (l,h,m) w) :
  (Instr.sliceAt t (.slice a len cap) vlo vhi vmx).run P w=.ok (.slice (if m=l then a else a.map (·.add (l * inf.size))) (h - l) (m - l)) w:=by
 simp [Instr.sliceAt,Instr.slice,run_underlying he,rb,sizeOf,typeInfo,hinf,Sem.run,Result.andThen]
theorem Amc {t e:TypeId} {n:Nat} {inf:TypeInfo} (he:P.underlying t=some (.array n e)) (hinf:P.info? e=some inf) {a:Addr} {vlo vhi:Option Value} {l h m:Nat}
  (rb:(Instr.sliceBounds false n n vlo vhi none).run P w=.ok (l,h,m) w) :
  (Instr.sliceAt t (.pointer (some a)) vlo vhi none).run P w=.ok (.slice (some (if m=l then a else a.add (l * inf.size))) (h - l) (m - l)) w:=by
 simp [Instr.sliceAt,run_underlying he,Instr.sureAddr,rb,sizeOf,typeInfo,hinf,Sem.run,Result.andThen]
theorem Ap1 {w':World} {t e:TypeId} {inf:TypeInfo} (he:P.underlying t=some (.slice e)) (hinf:P.info? e=some inf) {a:Option Addr} {len cap d:Nat} {lo hi:Option AV} {vlo vhi:Option Value} {km:IntKind} (hlo:Pg w B own ω nx lo vlo) (hhi:Pg w B own ω nx hi vhi)
  (e1:J9 lo 0=some 0) (e2:J9 hi d=some 0) (c0:hi.isSome=true):(Instr.sliceAt t (.slice a len cap) vlo vhi (some (.int km 0))).run P w'=.ok (.slice a 0 0) w':=by
 have p1:=Jk hlo e1
 have p2:∃ kd,vhi=some (.int kd 0):=by
  rcases Jk hhi e2 with ⟨h,_⟩ | h
  ·subst h
   cases hi with
   | none=>cases c0
   | some a=>exact hhi.elim
  ·exact h
 have rb:=Q8 (w:=w') he hinf (a:=a) (len:=len) (Ad5 (P:=P) (w:=w') (len:=len) (cap:=cap) (km:=km) (h:=0) (m:=0) p1 p2 (Int.le_refl _) (Int.le_refl _) (by omega))
 simpa using rb
theorem Amd {t:TypeId} {x:AV} {u:Value} {lo hi mx:Option AV} {vlo vhi vmx:Option Value} {k:AV->Bool} (hx:Rep w B own ω nx x u)
  (hlo:Pg w B own ω nx lo vlo) (hhi:Pg w B own ω nx hi vhi) (hmx:Pg w B own ω nx mx vmx) (hk:Ac4 P t x lo hi mx k false=true):Gt P w B own ω nx (Instr.sliceAt t u vlo vhi vmx) k:=by
 unfold Ac4 at hk
 split at hk
 ·rename_i e he
  split at hk
  ·rename_i sz hsz
   obtain ⟨inf,hinf,rfl⟩:=Jj hsz;split at hk
   ·-- a slice that nobody writes
    rename_i cells len;split at hk
    ·rename_i l hh e1 e2
     replace hk:=Bo hk;obtain ⟨hok,hk⟩:=hk
     replace hok:=En hok;obtain ⟨hok,hln⟩:=hok
     obtain ⟨b1,b2,b3⟩:=Ve hok
     replace hln:=Dw hln
     obtain rfl:=Vf hmx;have p1:=Jk hlo e1;have p2:=Jk hhi e2;cases hx with
     | lst _ _ _ cap b o vs g1 g3 g4 g5 =>
      have rb:=fun w=>Q8 (w:=w) he hinf (a:=some ⟨b,o,none⟩) (Rx (P:=P) (w:=w) (isS:=true) (cap:=cap) p1 p2 b1 b2 (by omega))
      refine ⟨_,_,fun w _=>rb w,?_,hk⟩
      by_cases hz:cap=l.toNat
      ·have h0:hh.toNat - l.toNat=0:=by omega
       rw [h0,if_pos hz];simp only [Nat.zero_mul,List.take_zero];exact Abh _ _ rfl
      ·rw [if_neg hz]
       simp only [Option.map_some,F8];exact Abg g1 (by omega) g4 g5 _
     | lstn _ a c =>
      have rb:=fun w=>Q8 (w:=w) he hinf (a:=a) (Rx (P:=P) (w:=w) (isS:=true) (len:=0) (cap:=c) p1 p2 b1 b2 (by omega))
      refine ⟨_,_,fun w _=>rb w,?_,hk⟩
      have h0:l.toNat=0:=by omega
      have h1:hh.toNat=0:=by omega
      simp only [h0,h1,Nat.sub_self,Nat.zero_mul,List.take_zero];exact .lstn _ _ _
    ·rename_i l hh km m e1 e2
     replace hk:=Bo hk;obtain ⟨hc,hk⟩:=hk
     replace hc:=En hc;obtain ⟨c0,c1⟩:=hc
     replace c1:=En c1;obtain ⟨c1,c2⟩:=c1
     replace c2:=En c2;obtain ⟨c2,c3⟩:=c2
     replace c1:l=0:=by simpa using c1
     replace c2:hh=0:=by simpa using c2
     replace c3:m=0:=by simpa using c3
     subst c1 c2 c3;obtain rfl:=Aaj hmx;cases hx <;> exact ⟨_,_,fun w' _=>Ap1 (w:=w) (w':=w') he hinf hlo hhi e1 e2 c0,.es _ _,hk⟩
    ·cases hk
   ·-- an own slice
    rename_i id off len s app;split at hk
    ·rename_i l hh e1 e2
     replace hk:=Bo hk;obtain ⟨hok,hk⟩:=hk
     replace hok:=En hok;obtain ⟨hok,hs⟩:=hok
     obtain ⟨b1,b2,b3⟩:=Ve hok
     replace hs:=Dw hs
     subst hs;have p1:=Jk hlo e1;have p2:=Jk hhi e2;split at hk
     ·-- no third bound
      obtain rfl:=Vf hmx;have rb:∀ (a:Option Addr) (cap:Nat),len<=cap->∀ w:World,_:=fun a cap hc w=>Q8 (w:=w) he hinf (a:=a) (Rx (P:=P) (w:=w) (isS:=true) (len:=len) (cap:=cap) p1 p2 b1 b2 (by omega))
      replace hk:=Dt hk;rcases hk with ⟨hl,hk⟩ | ⟨hl,hk⟩
      ·replace hl:l=0:=by simpa using hl
       subst hl;have az:∀ (a:Addr) (c:Nat),(if c=Int.toNat 0 then some a else (some a).map (·.add (Int.toNat 0 * inf.size)))=some a:=fun a c=>by simp [Addr.add]
       cases hx with
       | sl _ _ _ _ _ cap b g1 g2 g3 =>
        refine ⟨_,_,fun w _=>rb _ cap g3 w,?_,hk⟩
        rw [az];exact .sl _ _ _ _ _ _ _ g1 g2 (by simp;omega)
       | sla _ _ _ _ cap b g1 g2 g3 g4 g5 =>
        refine ⟨_,_,fun w _=>rb _ cap g3 w,?_,hk⟩
        rw [az];exact .sla _ _ _ _ _ _ g1 g2 (by simp;omega) (by simpa using g4) (by simpa using g5)
      ·replace hl:¬ l=0:=by simpa using hl
       replace hk:=Dt hk;rcases hk with ⟨hq,hk⟩ | ⟨hq,hk⟩
       ·replace hq:l=hh:=by simpa using hq
        subst hq;have sub0:l.toNat - l.toNat=0:=Nat.sub_self _
        have az:∀ (b off' c:Nat),∃ a:Addr,a.spot=none/\(if c=l.toNat then some (⟨b,off',none⟩:Addr) else (some (⟨b,off',none⟩:Addr)).map (·.add (l.toNat * inf.size)))=some a:=fun b off' c=>by
         split
         ·exact ⟨_,rfl,rfl⟩
         ·exact ⟨⟨b,off' + l.toNat * inf.size,none⟩,rfl,by simp [F8]⟩
        cases hx with
        | sl _ _ _ _ _ cap b g1 g2 g3 =>
         obtain ⟨a,ha,hE⟩:=az b off cap;exact ⟨_,_,fun w _=>rb _ cap g3 w,by rw [hE,sub0];exact Abh _ _ ha,hk⟩
        | sla _ _ _ _ cap b g1 g2 g3 g4 g5 =>
         obtain ⟨a,ha,hE⟩:=az b 0 cap;exact ⟨_,_,fun w _=>rb _ cap g3 w,by rw [hE,sub0];exact Abh _ _ ha,hk⟩
       ·replace hq:¬ l=hh:=by simpa using hq
        cases hx with
        | sl _ _ _ _ _ cap b g1 g2 g3 =>
         refine ⟨_,_,fun w _=>rb _ cap g3 w,?_,hk⟩
         rw [if_neg (by omega)]
         simp only [Option.map_some,F8];exact .sl _ _ _ _ _ _ _ g1 g2 (by omega)
        | sla _ _ _ _ cap b g1 g2 g3 g4 g5 =>
         refine ⟨_,_,fun w _=>rb _ cap g3 w,?_,hk⟩
         rw [if_neg (by omega)]
         simp only [Option.map_some,F8];exact .sl _ _ _ _ _ _ _ g1 g2 (by omega)
     ·-- three bounds
      rename_i km m;obtain rfl:=Aaj hmx
      replace hk:=Bo hk;obtain ⟨hc,hk⟩:=hk
      replace hc:=En hc;obtain ⟨c0,c1⟩:=hc
      replace c1:=En c1;obtain ⟨c1,c4⟩:=c1
      replace c4:=En c4;obtain ⟨c4,c2⟩:=c4
      replace c2:=En c2;obtain ⟨c2,c3⟩:=c2
      replace c4:0 < m:=by simpa using c4
      replace c1:l=0:=by simpa using c1
      replace c2:hh<=m:=by simpa using c2
      replace c3:m<=(len:Int):=by simpa using c3
      subst c1
      rcases p2 with ⟨rfl,rfl⟩ | ⟨kd2,rfl⟩
      ·cases hi with
       | none=>cases c0
       | some a=>exact hhi.elim
      ·have rb:∀ (a:Option Addr) (cap:Nat),len<=cap->∀ w:World,_:=fun a cap hc w=>Q8 (w:=w) he hinf (a:=a) (len:=len) (Ad5 (P:=P) (w:=w) (len:=len) (cap:=cap) (km:=km) p1 ⟨kd2,rfl⟩ b2 c2 (by omega))
       have az:∀ (a:Addr) (c:Nat),(if c=0 then some a else (some a).map (·.add (0 * inf.size)))=some a:=fun a c=>by simp [Addr.add]
       cases hx with
       | sl _ _ _ _ _ cap b g1 g2 g3 =>
        refine ⟨_,_,fun w _=>rb _ cap g3 w,?_,hk⟩
        rw [az];exact .sl _ _ _ _ _ _ _ g1 g2 (by omega)
       | sla _ _ _ _ cap b g1 g2 g3 g4 g5 =>
        refine ⟨_,_,fun w _=>rb _ cap g3 w,?_,hk⟩
        rw [az];exact .sl _ _ _ _ _ _ _ g1 g2 (by omega)
     ·cases hk
    ·cases hk
   ·split at hk
    ·rename_i l hh e1 e2
     replace hk:=Bo hk;obtain ⟨hc,hk⟩:=hk
     replace hc:=En hc;obtain ⟨c1,c2⟩:=hc
     replace c1:l=0:=by simpa using c1
     replace c2:hh=0:=by simpa using c2
     subst c1 c2;obtain rfl:=Vf hmx;have p1:=Jk hlo e1;have p2:=Jk hhi e2;cases hx;have rb:=fun w=>Q8 (w:=w) he hinf (a:=none) (Rx (P:=P) (w:=w) (isS:=true) (len:=0) (cap:=0) p1 p2 (by omega) (by omega) (by omega))
     refine ⟨_,_,fun w _=>rb w,?_,hk⟩
     simp only [Option.map_none,ite_self,Int.toNat_zero,Nat.sub_self];exact .nils _
    ·rename_i l hh km m e1 e2
     replace hk:=Bo hk;obtain ⟨hc,hk⟩:=hk
     replace hc:=En hc;obtain ⟨c0,c1⟩:=hc
     replace c1:=En c1;obtain ⟨c1,c2⟩:=c1
     replace c2:=En c2;obtain ⟨c2,c3⟩:=c2
     replace c1:l=0:=by simpa using c1
     replace c2:hh=0:=by simpa using c2
     replace c3:m=0:=by simpa using c3
     subst c1 c2 c3;obtain rfl:=Aaj hmx;cases hx <;> exact ⟨_,_,fun w' _=>Ap1 (w:=w) (w':=w') he hinf hlo hhi e1 e2 c0,.es _ _,hk⟩
    ·cases hk
   ·cases hk
  ·cases hk
 ·rename_i n e he
  split at hk
  ·rename_i sz hsz
   obtain ⟨inf,hinf,rfl⟩:=Jj hsz;split at hk
   ·rename_i l hh e1 e2
    replace hk:=Bo hk;obtain ⟨hok,hk⟩:=hk
    obtain ⟨b1,b2,b3⟩:=Ve hok;obtain rfl:=Vf hmx;have p1:=Jk hlo e1;have p2:=Jk hhi e2;have rb:∀ (a:Addr) (w:World),_:=fun a w=>Amc (w:=w) he hinf (a:=a) (Rx (P:=P) (w:=w) (isS:=false) (cap:=n) p1 p2 b1 b2 (by omega))
    split at hk
    ·rename_i id off
     cases hx with
     | ptr _ _ _ b g1 g2 =>
      replace hk:=Dt hk;rcases hk with ⟨hq,hk⟩ | ⟨hq,hk⟩
      ·replace hq:l=hh:=by simpa using hq
       subst hq;refine ⟨_,_,fun w _=>rb _ w,?_,hk⟩
       rw [Nat.sub_self];refine Abh _ _ ?_;split
       ·rfl
       ·simp [F8]
      ·replace hq:¬ l=hh:=by simpa using hq
       refine ⟨_,_,fun w _=>rb _ w,?_,hk⟩
       rw [if_neg (by omega),F8]
       exact .sl _ _ _ _ _ _ _ g1 g2 (by omega)
    ·rename_i cells off
     replace hk:=Bo hk;obtain ⟨hb,hk⟩:=hk
     replace hb:=I8 hb
     cases hx with
     | iptr _ _ _ b o vs g1 g2 g3 =>
      refine ⟨_,_,fun w _=>rb _ w,?_,hk⟩
      by_cases hz:n=l.toNat
      ·have h0:hh.toNat - l.toNat=0:=by omega
       rw [h0,if_pos hz];simp only [Nat.zero_mul,List.take_zero];exact Abh _ _ rfl
      ·rw [if_neg hz,F8,Nat.add_assoc]
       exact Abg g1 (by omega) g2 g3 _
    ·cases hk
   ·cases hk
  ·cases hk
 ·cases hk
end
end Go.Bas
end
