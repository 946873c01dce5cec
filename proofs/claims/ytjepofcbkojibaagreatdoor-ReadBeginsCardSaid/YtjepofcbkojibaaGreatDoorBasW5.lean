/- The engine, part M: pieces of code put together by hand: sequences, blocks, loops with a family of s; The engine, part Ma: a function's code with known loops: pieces at a function's own level, what is k; The engine, part Mb: blocks let go; The engine, part Mc: runs Apw code some pieces of which are known; regions with calls that are walke; The engine, part Md: loops gone through round by round, in stretches: a closed run is cut where one; The engine, part Z: package-level tables that are listed with what they hold: their cells, for the r; The engine, part Tr: trees of conditions asv values, and what a function answers by the parts of its; What the functions answer, asv plain Lean: configs, stages, cells; The engine, part Ts: summaries read off arguments of known shapes; the shapes of chapters 1 to 25; The engine, part Tx: the shapes of chapters 26 to 28: looks, readers, writers; The engine, part Ty: the shape of a writer, with its lists; The engine, part Wk: what says less of a value; summaries that take more arguments, or say less of t; The engine, part Tz: the shape of a thread; The engine, part Thx: the shape of a thread whose lists are left asv they are; The engine, part Opn: a row's argument that is a struct with slices in it, seen abstractly; The engine, part RdO: a row's argument that is a reader, seen abstractly. -/
import Derived.Test.YtjepofcbkojibaaGreatDoorBasW4
import Derived.LoopNIn
import Derived.LaidMore
import Derived.OpenShut
import Derived.Stop.Joined
import Derived.SizedLaws
set_option maxRecDepth 100000
set_option maxHeartbeats 4000000
set_option linter.unusedVariables false
set_option linter.unusedSimpArgs false
section
namespace Go.Bas
noncomputable section
open Go.RowKit
def AWp (C:Cfg) (inr:Option Nat) (code:Code) (st:St) (K:Ex->St->Prop):Prop :=
 ∀ (w:World) (B oC oL:Nat->Prop) (ω:Nat->Option Nat) (a:Act) (Q:Exit->Act->World->Prop) (ro:Option Nat),Sim C w B oC oL ω st a->InR ω st.m.nx inr ro ->
  (∀ e st' a' w' oC' oL' ω' out,Sim C w' B oC' oL' ω' st' a'->ExtR w oC oL ω st.m.nx w' oC' oL' ω' st'.m.nx->K e st'->Agv w' B oC' oL' ω' st'.m.nx e out->Q out a' w')->code.wpIn (Fr ro) 0 C.P Q a w
section
variable {C:Cfg} {K K':Ex->St->Prop} {st:St} {inr:Option Nat}
theorem AWp.mono {code:Code} (hk:∀ e s,K e s->K' e s) (h:AWp C inr code st K):AWp C inr code st K':=fun w B oC oL ω a Q ro S hI hQ =>
 h w B oC oL ω a Q ro S hI (fun e st' a' w' oC' oL' ω' out S' E k ho=>hQ e st' a' w' oC' oL' ω' out S' E (hk e st' k) ho)
theorem AWp.run (hC:C.Ok) {n:Nat} {code:Code} (h:∀ k:Ex->St->Bool,(∀ e s,K e s->k e s=true)->Bas.run C n inr none code st k false=true):AWp C inr code st K:=fun w B oC oL ω a Q ro S hI hQ=>by
 classical
 exact (Rh hC n).1 inr code st _ w B oC oL ω a Q ro (h (fun e s=>decide (K e s)) (fun e s hk=>Ddt hk)) S hI (fun e st' a' w' oC' oL' ω' out S' E hk ho=>hQ e st' a' w' oC' oL' ω' out S' E (Odt hk) ho)
theorem AWp.seq {x y:Code} (h:AWp C inr x st (fun e s=>match e with | .normal=>AWp C inr y s K | e=>K e s)):AWp C inr (.seq x y) st K:=fun w B oC oL ω a Q ro S hI hQ=>by
 refine wpIn_seq (h w B oC oL ω a _ ro S hI (fun e st' a' w' oC' oL' ω' out S' E hk ho=>?_))
 cases e with
 | normal=>subst ho;exact hk w' B oC' oL' ω' a' Q ro S' (hI.ext E) (fun e2 st2 a2 w2 oC2 oL2 ω2 out2 S2 E2 hk2 ho2=>hQ e2 st2 a2 w2 oC2 oL2 ω2 out2 S2 (E.trans E2) hk2 ho2)
 | exit id=>have h2:=hQ _ st' a' w' oC' oL' ω' out S' E hk ho;subst ho;exact h2
 | goto l=>have h2:=hQ _ st' a' w' oC' oL' ω' out S' E hk ho;subst ho;exact h2
 | ret=>have h2:=hQ _ st' a' w' oC' oL' ω' out S' E hk ho;subst ho;exact h2
 | panic v=>have h2:=hQ _ st' a' w' oC' oL' ω' out S' E hk ho;obtain ⟨u,rfl,_⟩:=ho;exact h2
theorem AWp.block {id:Nat} {body:Code} (h:AWp C inr body st (fun e s=>match e with | .exit id'=>(id'=id->K .normal s)/\(id' ≠ id->K (.exit id') s) | e=>K e s)):AWp C inr (.block id body) st K:=fun w B oC oL ω a Q ro S hI hQ=>by
 refine wpIn_block (h w B oC oL ω a _ ro S hI (fun e st' a' w' oC' oL' ω' out S' E hk ho=>?_))
 cases e with
 | normal=>exact hQ .normal _ _ _ _ _ _ out S' E hk ho |> fun h2=>by subst ho;exact h2
 | exit id' =>
  subst ho;simp only [Exit.inBlock]
  by_cases h:id'=id
  ·rw [if_pos h];exact hQ .normal _ _ _ _ _ _ _ S' E (hk.1 h) rfl
  ·rw [if_neg h];exact hQ (.exit id') _ _ _ _ _ _ _ S' E (hk.2 h) rfl
 | goto l=>have h2:=hQ _ st' a' w' oC' oL' ω' out S' E hk ho;subst ho;exact h2
 | ret=>have h2:=hQ _ st' a' w' oC' oL' ω' out S' E hk ho;subst ho;exact h2
 | panic v=>have h2:=hQ _ st' a' w' oC' oL' ω' out S' E hk ho;obtain ⟨u,rfl,_⟩:=ho;exact h2
theorem AWp.cond {c:Operand} {x y:Code} {t:Bool} (hc:evO C st.tmps c=.bool t) (hx:t=true->AWp C inr x st K) (hy:t=false->AWp C inr y st K):AWp C inr (.cond c x y) st K:=fun w B oC oL ω a Q ro S hI hQ=>by
 have hev:=S.ev c
 rw [hc] at hev
 generalize hv:a.eval c=u at hev
 cases hev
 cases t with
 | true=>exact wpIn_cond_true hv (hx rfl w B oC oL ω a Q ro S hI hQ)
 | false=>exact wpIn_cond_false hv (hy rfl w B oC oL ω a Q ro S hI hQ)
theorem AWp.loop {ι:Type} {body:Code} (I:ι->St) (μ:ι->Nat) (h:∀ i,AWp C inr body (I i) (fun e s=>match e with | .normal=>∃ j,s=I j/\μ j < μ i | e=>K e s)) (i:ι):AWp C inr (.loop body) (I i) K:=fun w B oC oL ω a Q ro S hI hQ=>by
 have key:∀ (m:Nat) (i:ι) (a:Act) (w:World) (oC oL:Nat->Prop) (ω:Nat->Option Nat),μ i < m->Sim C w B oC oL ω (I i) a->InR ω (I i).m.nx inr ro ->
   (∀ e st' a' w' oC' oL' ω' out,Sim C w' B oC' oL' ω' st' a'->ExtR w oC oL ω (I i).m.nx w' oC' oL' ω' st'.m.nx->K e st'->Agv w' B oC' oL' ω' st'.m.nx e out->Q out a' w')->Code.roundsIn (Fr ro) 0 C.P body Q m a w:=by
  intro m
  induction m with
  | zero=>intro i a w oC oL ω h;exact absurd h (Nat.not_lt_zero _)
  | succ m ih =>
   intro i a w oC oL ω hm S hI hQ;rw [roundsIn_succ];refine h i w B oC oL ω a _ ro S hI (fun e st' a' w' oC' oL' ω' out S' E hk ho=>?_)
   cases e with
   | normal =>
    obtain ⟨j,rfl,hj⟩:=hk;subst ho;exact ih j a' w' oC' oL' ω' (by omega) S' (hI.ext E) (fun e2 st2 a2 w2 oC2 oL2 ω2 out2 S2 E2 hk2 ho2=>hQ e2 st2 a2 w2 oC2 oL2 ω2 out2 S2 (E.trans E2) hk2 ho2)
   | exit id=>have h2:=hQ _ st' a' w' oC' oL' ω' out S' E hk ho;subst ho;exact h2
   | goto l=>have h2:=hQ _ st' a' w' oC' oL' ω' out S' E hk ho;subst ho;exact h2
   | ret=>have h2:=hQ _ st' a' w' oC' oL' ω' out S' E hk ho;subst ho;exact h2
   | panic v=>have h2:=hQ _ st' a' w' oC' oL' ω' out S' E hk ho;obtain ⟨u,rfl,_⟩:=ho;exact h2
 exact wpIn_loop_rounds (μ i + 1) (key (μ i + 1) i a w oC oL ω (Nat.lt_succ_self _) S hI hQ)
open Classical in
def goA (C:Cfg):Ur Bool:=fun inr sc code st k _=>match sc with
 | none=>decide (AWp C inr code st (fun e s=>k e s=true))
 | some _=>false
open Classical in
theorem Aty:Akp C (goA C):=fun inr code st k w B oC oL ω a Q ro hk S hI hQ =>
 (show AWp C inr code st (fun e s=>k e s=true) from Odt hk) w B oC oL ω a Q ro S hI hQ
open Classical in
theorem A3p {code:Code} {k:Ex->St->Bool} {z:Bool} (h:AWp C inr code st (fun e s=>k e s=true)):goA C inr none code st k z=true:=Ddt h
theorem AWp.range (hC:C.Ok) {g:Operand} {f:FuncId} {first cap:List AV} {params:Array Tmp} {assign body:Code} {k:Ex->St->Bool} (hg:evO C st.tmps g=.fn (.func f) first cap)
  (h:Aec inr st params.toList assign body (fun id ds m=>Lu C (goA C) false (.fn f) (first ++ [.yld id] ++ cap) m (fun _ m'=>Ag2 C st k id ds m') (fun v m'=>k (.panic v) ⟨st.tmps,ds,m'⟩)) false=true) (hk:∀ e s,k e s=true->K e s) :
  AWp C inr (.rangeFunc g params assign body) st K:=fun w B oC oL ω a Q ro S hI hQ=>by
 have hev:=S.ev g
 rw [hg] at hev
 generalize hv:a.eval g=gv at hev
 cases hev with
 | fn _ _ _ _ fs cs h1 h2 h3 h4 =>
  exact Aei hC Aty S hI (fun e st' a' w' oC' oL' ω' out S' E hk' ho=>hQ e st' a' w' oC' oL' ω' out S' E (hk e st' hk') ho) hv h1 h2 h3 h4 h
def Ef (P:Program) (f:FuncId):Code:=((P.funcs[f]?).bind (·.body)).getD .skip
def st0 (P:Program) (f:FuncId) (args:List AV):St:=⟨Afe args (((P.funcs[f]?).map (·.ntmps)).getD 0),[],⟨[],0,[]⟩⟩
def Baa {Ω:Type} (C:Cfg) (f:FuncId) (st:St) (k:AV->Ω) (z:Ω):Ω :=
 match C.P.funcs[f]? with
 | some fn=>Iq st.ds st.m.lp (fun _=>Uo C fn st (fun v=>Iz st.m.heap 6 v k z) z) z
 | none=>z
end
end
end Go.Bas
end
section
namespace Go.Bas
noncomputable section
open Go.RowKit
def AWq (C:Cfg) (code:Code) (st:St) (K:Ex->St->Prop):Prop :=
 ∀ (w:World) (B oC oL:Nat->Prop) (ω:Nat->Option Nat) (a:Act) (Q:Exit->Act->World->Prop),Sim C w B oC oL ω st a ->
  (∀ e st' a' w' oC' oL' ω' out,Sim C w' B oC' oL' ω' st' a'->ExtR w oC oL (fun _=>none) 0 w' oC' oL' ω' st'.m.nx->K e st'->Agv w' B oC' oL' ω' st'.m.nx e out->Q out a' w')->code.wpIn (Fr none) 0 C.P Q a w
theorem ExtR.low {w w':World} {oC oL oC' oL':Nat->Prop} {ω ω':Nat->Option Nat} {nx nx':Nat} (E:ExtR w oC oL ω nx w' oC' oL' ω' nx'):ExtR w oC oL (fun _=>none) 0 w' oC' oL' ω' nx' :=
 ⟨E.os,E.tape,E.output,E.size,E.old,E.owns,Nat.zero_le _,fun _ h=>absurd h (Nat.not_lt_zero _),E.row⟩
theorem ExtR.then {w w1 w2:World} {oC oL oC1 oL1 oC2 oL2:Nat->Prop} {ω1 ω2:Nat->Option Nat} {nx1 nx2:Nat} (E:ExtR w oC oL (fun _=>none) 0 w1 oC1 oL1 ω1 nx1) (E2:ExtR w1 oC1 oL1 (fun _=>none) 0 w2 oC2 oL2 ω2 nx2):ExtR w oC oL (fun _=>none) 0 w2 oC2 oL2 ω2 nx2 :=
 have E':ExtR w oC oL (fun _=>none) 0 w1 oC1 oL1 (fun _=>none) 0:=⟨E.os,E.tape,E.output,E.size,E.old,E.owns,Nat.le_refl _,fun _ h=>absurd h (Nat.not_lt_zero _),E.row⟩
 E'.trans E2
section
variable {C:Cfg} {K K':Ex->St->Prop} {st:St}
theorem AWp.q {code:Code} (h:AWp C none code st K):AWq C code st K:=fun w B oC oL ω a Q S hQ =>
 h w B oC oL ω a Q none S trivial (fun e st' a' w' oC' oL' ω' out S' E hk ho=>hQ e st' a' w' oC' oL' ω' out S' E.low hk ho)
theorem AWq.mono {code:Code} (hk:∀ e s,K e s->K' e s) (h:AWq C code st K):AWq C code st K':=fun w B oC oL ω a Q S hQ =>
 h w B oC oL ω a Q S (fun e st' a' w' oC' oL' ω' out S' E k ho=>hQ e st' a' w' oC' oL' ω' out S' E (hk e st' k) ho)
theorem AWq.run (hC:C.Ok) {n:Nat} {code:Code} (h:∀ k:Ex->St->Bool,(∀ e s,K e s->k e s=true)->Bas.run C n none none code st k false=true):AWq C code st K:=(AWp.run hC h).q
theorem AWq.seq {x y:Code} (h:AWq C x st (fun e s=>match e with | .normal=>AWq C y s K | e=>K e s)):AWq C (.seq x y) st K:=fun w B oC oL ω a Q S hQ=>by
 refine wpIn_seq (h w B oC oL ω a _ S (fun e st' a' w' oC' oL' ω' out S' E hk ho=>?_))
 cases e with
 | normal=>subst ho;exact hk w' B oC' oL' ω' a' Q S' (fun e2 st2 a2 w2 oC2 oL2 ω2 out2 S2 E2 hk2 ho2=>hQ e2 st2 a2 w2 oC2 oL2 ω2 out2 S2 (E.then E2) hk2 ho2)
 | exit id=>have h2:=hQ _ st' a' w' oC' oL' ω' out S' E hk ho;subst ho;exact h2
 | goto l=>have h2:=hQ _ st' a' w' oC' oL' ω' out S' E hk ho;subst ho;exact h2
 | ret=>have h2:=hQ _ st' a' w' oC' oL' ω' out S' E hk ho;subst ho;exact h2
 | panic v=>have h2:=hQ _ st' a' w' oC' oL' ω' out S' E hk ho;obtain ⟨u,rfl,_⟩:=ho;exact h2
theorem AWq.block {id:Nat} {body:Code} (h:AWq C body st (fun e s=>match e with | .exit id'=>(id'=id->K .normal s)/\(id' ≠ id->K (.exit id') s) | e=>K e s)):AWq C (.block id body) st K:=fun w B oC oL ω a Q S hQ=>by
 refine wpIn_block (h w B oC oL ω a _ S (fun e st' a' w' oC' oL' ω' out S' E hk ho=>?_))
 cases e with
 | normal=>exact hQ .normal _ _ _ _ _ _ out S' E hk ho |> fun h2=>by subst ho;exact h2
 | exit id' =>
  subst ho;simp only [Exit.inBlock]
  by_cases h:id'=id
  ·rw [if_pos h];exact hQ .normal _ _ _ _ _ _ _ S' E (hk.1 h) rfl
  ·rw [if_neg h];exact hQ (.exit id') _ _ _ _ _ _ _ S' E (hk.2 h) rfl
 | goto l=>have h2:=hQ _ st' a' w' oC' oL' ω' out S' E hk ho;subst ho;exact h2
 | ret=>have h2:=hQ _ st' a' w' oC' oL' ω' out S' E hk ho;subst ho;exact h2
 | panic v=>have h2:=hQ _ st' a' w' oC' oL' ω' out S' E hk ho;obtain ⟨u,rfl,_⟩:=ho;exact h2
theorem AWq.cond {c:Operand} {x y:Code} {t:Bool} (hc:evO C st.tmps c=.bool t) (hx:t=true->AWq C x st K) (hy:t=false->AWq C y st K):AWq C (.cond c x y) st K:=fun w B oC oL ω a Q S hQ=>by
 have hev:=S.ev c
 rw [hc] at hev
 generalize hv:a.eval c=u at hev
 cases hev
 cases t with
 | true=>exact wpIn_cond_true hv (hx rfl w B oC oL ω a Q S hQ)
 | false=>exact wpIn_cond_false hv (hy rfl w B oC oL ω a Q S hQ)
def Less (C:Cfg) (st st':St):Prop:=∀ (w:World) (B oC oL:Nat->Prop) (ω:Nat->Option Nat) (a:Act),Sim C w B oC oL ω st a->∃ ω',Sim C w B oC oL ω' st' a
theorem Less.refl (st:St):Less C st st:=fun w B oC oL ω a S=>⟨ω,S⟩
theorem Less.trans {st st1 st2:St} (h:Less C st st1) (h':Less C st1 st2):Less C st st2:=fun w B oC oL ω a S =>
 let ⟨ω1,S1⟩:=h w B oC oL ω a S
 h' w B oC oL ω1 a S1
theorem AWq.less {code:Code} {st':St} (h:Less C st st') (hw:AWq C code st' K):AWq C code st K:=fun w B oC oL ω a Q S hQ=>by
 obtain ⟨ω',S'⟩:=h w B oC oL ω a S
 exact hw w B oC oL ω' a Q S' hQ
def LessS (C:Cfg) (st st':St):Prop:=st'.m.nx=st.m.nx/\∀ (w:World) (B oC oL:Nat->Prop) (ω:Nat->Option Nat) (a:Act),Sim C w B oC oL ω st a->Sim C w B oC oL ω st' a
theorem LessS.less {st st':St} (h:LessS C st st'):Less C st st':=fun w B oC oL ω a S=>⟨ω,h.2 w B oC oL ω a S⟩
theorem LessS.refl (st:St):LessS C st st:=⟨rfl,fun w B oC oL ω a S=>S⟩
theorem AWp.less {inr:Option Nat} {code:Code} {st':St} (h:LessS C st st') (hw:AWp C inr code st' K):AWp C inr code st K:=fun w B oC oL ω a Q ro S hI hQ =>
 hw w B oC oL ω a Q ro (h.2 w B oC oL ω a S) (h.1 ▸ hI) (fun e st2 a2 w2 oC2 oL2 ω2 out2 S2 E hk ho=>hQ e st2 a2 w2 oC2 oL2 ω2 out2 S2 (h.1 ▸ E) hk ho)
theorem AWp.post {inr:Option Nat} {code:Code} (h:AWp C inr code st K) (hk:∀ e s,K e s->∃ s',LessS C s s'/\K' e s'):AWp C inr code st K':=fun w B oC oL ω a Q ro S hI hQ =>
 h w B oC oL ω a Q ro S hI (fun e st' a' w' oC' oL' ω' out S' E hK ho=>by
  obtain ⟨s2,hl,hk'⟩:=hk e st' hK;refine hQ e s2 a' w' oC' oL' ω' out (hl.2 _ _ _ _ _ _ S') (hl.1 ▸ E) hk' ?_;cases e with
  | panic v=>obtain ⟨u,h1,h2⟩:=ho;exact ⟨u,h1,hl.1 ▸ h2⟩
  | _=>exact ho)
def wk:List Bool->List AV->List AV
 | true :: m,a :: r=>a :: wk m r
 | false :: m,_ :: r=>.any :: wk m r
 | [],r=>r
 | _ :: _,[]=>[]
theorem Zc:∀ (m:List Bool) (l:List AV),(wk m l).length=l.length
 | [],l=>by cases l <;> rfl
 | true :: m,[]=>rfl
 | false :: m,[]=>rfl
 | true :: m,a :: r=>by simp [wk,Zc m r]
 | false :: m,a :: r=>by simp [wk,Zc m r]
theorem Atz:∀ (m:List Bool) (l:List AV) (i:Nat) (h:i < (wk m l).length) (h':i < l.length),(wk m l)[i]=.any\/(wk m l)[i]=l[i]
 | [],l,i,h,h'=>by cases l <;> exact .inr rfl
 | true :: m,a :: r,0,h,h'=>.inr rfl
 | false :: m,a :: r,0,h,h'=>.inl rfl
 | true :: m,a :: r,i + 1,h,h'=>Atz m r i (by simpa [wk] using h) (by simpa using h')
 | false :: m,a :: r,i + 1,h,h'=>Atz m r i (by simpa [wk] using h) (by simpa using h')
 | true :: m,[],i,h,h'=>absurd h' (Nat.not_lt_zero _)
 | false :: m,[],i,h,h'=>absurd h' (Nat.not_lt_zero _)
theorem RepL.wk {w:World} {B own:Nat->Prop} {ω:Nat->Option Nat} {nx:Nat} {cs:List AV} {us:Array Value} (h:RepL w B own ω nx cs us) (m:List Bool):RepL w B own ω nx (Bas.wk m cs) us :=
 ⟨(Zc m cs).trans h.1,fun i hi=>by
  have hi':i < cs.length:=by rwa [Zc] at hi
  rcases Atz m cs i hi hi' with e | e
  ·rw [e];exact .any _ _
  ·rw [e];exact h.2 i hi'⟩
theorem Less.wk (m:List Bool) (st:St):Less C st ⟨Bas.wk m st.tmps,st.ds,st.m⟩:=fun w B oC oL ω a S=>⟨ω,S.tm.wk m,S.dn,S.ms⟩
theorem AWq.loop {ι:Type} {body:Code} (I:ι->St) (μ:ι->Nat) (h:∀ i,AWq C body (I i) (fun e s=>match e with | .normal=>∃ j,μ j < μ i/\Less C s (I j) | e=>∃ s',LessS C s s'/\K e s')) (i:ι):AWq C (.loop body) (I i) K:=fun w B oC oL ω a Q S hQ=>by
 have key:∀ (m:Nat) (i:ι) (a:Act) (w:World) (oC oL:Nat->Prop) (ω:Nat->Option Nat),μ i < m->Sim C w B oC oL ω (I i) a ->
   (∀ e st' a' w' oC' oL' ω' out,Sim C w' B oC' oL' ω' st' a'->ExtR w oC oL (fun _=>none) 0 w' oC' oL' ω' st'.m.nx->K e st'->Agv w' B oC' oL' ω' st'.m.nx e out->Q out a' w')->Code.roundsIn (Fr none) 0 C.P body Q m a w:=by
  intro m
  induction m with
  | zero=>intro i a w oC oL ω h;exact absurd h (Nat.not_lt_zero _)
  | succ m ih =>
   intro i a w oC oL ω hm S hQ;rw [roundsIn_succ];refine h i w B oC oL ω a _ S (fun e st' a' w' oC' oL' ω' out S' E hk ho=>?_)
   cases e with
   | normal =>
    obtain ⟨j,hj,hl⟩:=hk;obtain ⟨ω2,S2⟩:=hl w' B oC' oL' ω' a' S';subst ho;exact ih j a' w' oC' oL' ω2 (by omega) S2 (fun e2 st2 a2 w2 oC2 oL2 ω2 out2 S2 E2 hk2 ho2=>hQ e2 st2 a2 w2 oC2 oL2 ω2 out2 S2 (E.then E2) hk2 ho2)
   | exit id=>obtain ⟨s2,hl,hk⟩:=hk;have h2:=hQ _ s2 a' w' oC' oL' ω' out (hl.2 _ _ _ _ _ _ S') (hl.1 ▸ E) hk ho;subst ho;exact h2
   | goto l=>obtain ⟨s2,hl,hk⟩:=hk;have h2:=hQ _ s2 a' w' oC' oL' ω' out (hl.2 _ _ _ _ _ _ S') (hl.1 ▸ E) hk ho;subst ho;exact h2
   | ret=>obtain ⟨s2,hl,hk⟩:=hk;have h2:=hQ _ s2 a' w' oC' oL' ω' out (hl.2 _ _ _ _ _ _ S') (hl.1 ▸ E) hk ho;subst ho;exact h2
   | panic v=>obtain ⟨s2,hl,hk⟩:=hk;have h2:=hQ _ s2 a' w' oC' oL' ω' out (hl.2 _ _ _ _ _ _ S') (hl.1 ▸ E) hk (by obtain ⟨u,h1,h2⟩:=ho;exact ⟨u,h1,hl.1 ▸ h2⟩);obtain ⟨u,rfl,_⟩:=ho;exact h2
 exact wpIn_loop_rounds (μ i + 1) (key (μ i + 1) i a w oC oL ω (Nat.lt_succ_self _) S hQ)
theorem Ai4 {f:FuncId} {args:List AV} {k:AV->Bool} (hf:((C.P.funcs[f]?).bind (·.body)).isSome=true)
  (h:AWq C (Ef C.P f) (st0 C.P f args) (fun e s=>(e=.ret\/e=.normal)/\Baa C f s k false=true)):ACalls C.P C.G f args (fun v=>k v=true):=by
 obtain ⟨fn,hfn⟩:∃ fn,C.P.funcs[f]?=some fn:=by
  cases hq:C.P.funcs[f]? with
  | none=>rw [hq] at hf;cases hf
  | some fn=>exact ⟨fn,rfl⟩
 obtain ⟨c,hb⟩:∃ c,fn.body=some c:=by
  rw [hfn] at hf;exact Option.isSome_iff_exists.1 hf
 have ec:Ef C.P f=c:=by simp [Ef,hfn,hb]
 rw [ec] at h
 simp only [st0,hfn,Option.map_some,Option.getD_some,Baa] at h
 intro w us bad hg gb bl hr
 refine (Ph (ro:=none) (n:=0)).1 (callsIn_of_wp_marks hfn hb trivial ?_ rfl)
 have H0:Hp w (Or2 bad (fun _=>False)) (fun _=>False) (fun _=>none) 0 []:=⟨fun id hb h=>(by cases h),fun i j b h=>(by cases h),fun b (h:False)=>h.elim⟩
 have M0:MemSim C w bad (fun _=>False) (fun _=>False) (fun _=>none) ⟨[],0,[]⟩:=⟨H0,⟨fun id e h=>(by cases h),fun i j l h=>(by cases h),fun l (h:False)=>h.elim⟩,hg,fun g cells h=>⟨fun h=>h,fun h=>h,gb g cells h⟩,bl⟩
 have hl:RepL w (Or2 bad (fun _=>False)) (fun _=>False) (fun _=>none) 0 (Afe args fn.ntmps) (us ++ Array.replicate (fn.ntmps - us.size) undef) :=
  (Aml hr fn.ntmps).other fun b h1 h2=>⟨h1,fun h=>h.elim h2 (fun h=>h)⟩
 refine h w bad (fun _=>False) (fun _=>False) (fun _=>none) _ _ ⟨hl,trivial,M0⟩ (fun e st' a' w' oC' oL' ω' out S' E hk' ho=>?_)
 obtain ⟨he,hk'⟩:=hk'
 have fin:Iq st'.ds st'.m.lp (fun _=>Uo C fn st' (fun v=>Iz st'.m.heap 6 v k false) false) false=true->LeavesInM (Fr none) 0 C.P fn a'.tmps (fun e w'=>∃ v u,e=.returned u/\k v=true/\Still w w'/\Rep w' bad (fun _=>False) (fun _=>none) 0 v u) a'.defers .returning w':=fun hk'=>by
  refine Adf (k:=fun v _=>Iz st'.m.heap 6 v k false) S' hk' (fun v u lp' w2 h1 M E2 hr2=>?_)
  have hE:=E.then E2.low
  have hown:∀ b,oC' b->¬ Or2 bad oL' b:=fun b ho hbad=>by
   rcases hbad with hbad | hbad
   ·rcases hE.owns b (.inl ho) with h | h
    ·exact h.elim (fun h=>h) (fun h=>h)
    ·have:=bl b hbad;omega
   ·exact (M.lp.dis b hbad).2 ho
  obtain ⟨v',h3,h4⟩:=Uh M.hp hown 6 v k h1;refine ⟨v',u,rfl,h3,⟨hE.os,hE.tape,hE.output,hE.size,fun b hb _=>hE.old b hb (fun h=>h.elim (fun h=>h) (fun h=>h)),fun _ h=>.inl h,Nat.le_refl _,fun _ _=>rfl,hE.row⟩,?_⟩
  exact (h4 u hr2).other fun b _ h2=>⟨fun h=>h,fun h=>h2 (.inl h)⟩
 rcases he with rfl | rfl
 ·subst ho;exact fin hk'
 ·subst ho;exact fin hk'
inductive AC where
 | leaf (c:Code)
 | seq (a b:AC)
 | cond (o:Operand) (a b:AC)
 | block (id:Nat) (a:AC)
 | known (c:Code) (F:St->(Ex->St->Bool)->Bool)
def AC.code:AC->Code
 | .leaf c=>c
 | .seq a b=>.seq a.code b.code
 | .cond o a b=>.cond o a.code b.code
 | .block id a=>.block id a.code
 | .known c _=>c
def AC.Ok (C:Cfg):AC->Prop
 | .leaf _=>True
 | .seq a b=>a.Ok C/\b.Ok C
 | .cond _ a b=>a.Ok C/\b.Ok C
 | .block _ a=>a.Ok C
 | .known c F=>∀ st k,F st k=true->AWq C c st (fun e s=>k e s=true)
def Ai5 (C:Cfg) (n:Nat):AC->St->(Ex->St->Bool)->Bool
 | .leaf c,st,k=>run C n none none c st k false
 | .seq a b,st,k=>Ai5 C n a st (fun e s=>match e with
  | .normal=>Ai5 C n b s k
  | e=>k e s)
 | .cond o a b,st,k=>match evO C st.tmps o with
  | .bool t=>cond t (Ai5 C n a ⟨Ati st.tmps o (.bool true),st.ds,st.m⟩ k) (Ai5 C n b ⟨Ati st.tmps o (.bool false),st.ds,st.m⟩ k)
  | _=>false
 | .block id a,st,k=>Ai5 C n a st (fun e s=>match e with
  | .exit id'=>cond (Nat.beq id' id) (k .normal s) (k (.exit id') s)
  | e=>k e s)
 | .known _ F,st,k=>F st k
theorem Jw (hC:C.Ok) {n:Nat}:∀ (ac:AC) (st:St) (k:Ex->St->Bool),ac.Ok C->Ai5 C n ac st k=true->AWq C ac.code st (fun e s=>k e s=true)
 | .leaf c,st,k,_,h=>AWp.q (fun w B oC oL ω a Q ro S hI hQ=>(Rh hC n).1 none c st k w B oC oL ω a Q ro h S hI hQ)
 | .seq a b,st,k,hok,h=>AWq.seq ((Jw hC a st _ hok.1 h).mono fun e s hk=>by
   cases e with
   | normal=>exact Jw hC b s k hok.2 hk
   | exit id=>exact hk
   | goto l=>exact hk
   | ret=>exact hk
   | panic v=>exact hk)
 | .cond o a b,st,k,hok,h=>by
  simp only [Ai5] at h;split at h
  ·rename_i t ht
   have hset:∀ b,b=t->Ati st.tmps o (.bool b)=st.tmps:=fun b e=>by
    subst e;cases o with
    | tmp d=>exact Uu ht
    | _=>rfl
   refine AWq.cond ht (fun e=>?_) (fun e=>?_)
   ·subst e
    rw [hset true rfl] at h;exact Jw hC a st k hok.1 h
   ·subst e
    rw [hset false rfl] at h;exact Jw hC b st k hok.2 h
  ·cases h
 | .block id a,st,k,hok,h=>AWq.block ((Jw hC a st _ hok h).mono fun e s hk=>by
   cases e with
   | normal=>exact hk
   | exit id' =>
    rcases Dt hk with ⟨h1,h2⟩ | ⟨h1,h2⟩
    ·exact ⟨fun _=>h2,fun hn=>absurd (Dw h1) hn⟩
    ·exact ⟨fun he=>(by rw [(Ea _ _).2 he] at h1;cases h1),fun _=>h2⟩
   | goto l=>exact hk
   | ret=>exact hk
   | panic v=>exact hk)
 | .known c F,st,k,hok,h=>hok st k h
def Dx:Code->List Code
 | .seq a b=>Dx a ++ Dx b
 | .cond _ a b=>Dx a ++ Dx b
 | .block _ a=>Dx a
 | .loop b=>[.loop b]
 | .rangeFunc g ps asv b=>[.rangeFunc g ps asv b]
 | _=>[]
abbrev LF:=St->(Ex->St->Bool)->Bool
def mkA:Code->List LF->AC
 | .seq a b,l=>match Dx a with
  | []=>match Dx b with
   | []=>.leaf (.seq a b)
   | _=>.seq (.leaf a) (mkA b l)
  | x :: r=>.seq (mkA a l) (mkA b (l.drop (r.length + 1)))
 | .cond o a b,l=>match Dx a with
  | []=>match Dx b with
   | []=>.leaf (.cond o a b)
   | _=>.cond o (.leaf a) (mkA b l)
  | x :: r=>.cond o (mkA a l) (mkA b (l.drop (r.length + 1)))
 | .block id a,l=>.block id (mkA a l)
 | .loop b,F :: _=>.known (.loop b) F
 | .rangeFunc g ps asv b,F :: _=>.known (.rangeFunc g ps asv b) F
 | c,_=>.leaf c
theorem Jh:∀ (c:Code) (l:List LF),(mkA c l).code=c
 | .seq a b,l=>by
  unfold mkA;split
  ·split
   ·rfl
   ·show Code.seq a (mkA b l).code=_;rw [Jh b l]
  ·show Code.seq (mkA a l).code (mkA b _).code=_;rw [Jh a,Jh b]
 | .cond o a b,l=>by
  unfold mkA;split
  ·split
   ·rfl
   ·show Code.cond o a (mkA b l).code=_;rw [Jh b l]
  ·show Code.cond o (mkA a l).code (mkA b _).code=_;rw [Jh a,Jh b]
 | .block id a,l=>by show Code.block id (mkA a l).code=_;rw [Jh a]
 | .loop b,[]=>rfl
 | .loop b,_ :: _=>rfl
 | .rangeFunc g ps asv b,[]=>rfl
 | .rangeFunc g ps asv b,_ :: _=>rfl
 | .skip,_=>rfl
 | .label _,_=>rfl
 | .ret,_=>rfl
 | .exit _,_=>rfl
 | .goto _,_=>rfl
 | .scope _,_=>rfl
 | .region _ _ _,_=>rfl
 | .refuse _,_=>rfl
def LoopsOk (C:Cfg):List Code->List LF->Prop
 | c :: cs,F :: Fs=>(∀ st k,F st k=true->AWq C c st (fun e s=>k e s=true))/\LoopsOk C cs Fs
 | _,_=>True
theorem LoopsOk.left:∀ {a b:List Code} {l:List LF},LoopsOk C (a ++ b) l->LoopsOk C a l
 | [],_,[],_=>trivial
 | [],_,_ :: _,_=>trivial
 | _ :: _,_,[],_=>trivial
 | _ :: _,_,_ :: _,h=>⟨h.1,LoopsOk.left h.2⟩
theorem LoopsOk.right:∀ {a b:List Code} {l:List LF},LoopsOk C (a ++ b) l->LoopsOk C b (l.drop a.length)
 | [],_,l,h=>h
 | _ :: _,b,[],_=>by cases b <;> trivial
 | _ :: a,b,_ :: l,h=>LoopsOk.right (a:=a) (b:=b) (l:=l) h.2
theorem Ui:∀ (c:Code) (l:List LF),LoopsOk C (Dx c) l->(mkA c l).Ok C
 | .seq a b,l,h=>by
  unfold mkA;have h:LoopsOk C (Dx a ++ Dx b) l:=h;split
  ·rename_i ha
   split
   ·exact trivial
   ·rw [ha] at h;exact ⟨trivial,Ui b l h⟩
  ·rename_i x r ha
   have h2:=h.right;rw [ha] at h2;exact ⟨Ui a l h.left,Ui b _ h2⟩
 | .cond o a b,l,h=>by
  unfold mkA;have h:LoopsOk C (Dx a ++ Dx b) l:=h;split
  ·rename_i ha
   split
   ·exact trivial
   ·rw [ha] at h;exact ⟨trivial,Ui b l h⟩
  ·rename_i x r ha
   have h2:=h.right;rw [ha] at h2;exact ⟨Ui a l h.left,Ui b _ h2⟩
 | .block id a,l,h=>Ui a l h
 | .loop b,[],_=>trivial
 | .loop b,F :: _,h=>h.1
 | .rangeFunc g ps asv b,[],_=>trivial
 | .rangeFunc g ps asv b,F :: _,h=>h.1
 | .skip,_,_=>trivial
 | .label _,_,_=>trivial
 | .ret,_,_=>trivial
 | .exit _,_,_=>trivial
 | .goto _,_,_=>trivial
 | .scope _,_,_=>trivial
 | .region _ _ _,_,_=>trivial
 | .refuse _,_,_=>trivial
def Fv (c:Code):List Nat->Code
 | []=>c
 | n :: r=>match (Dx c)[n]? with
  | some (.loop b)=>Fv b r
  | some (.rangeFunc _ _ _ b)=>Fv b r
  | _=>.skip
def Aqr:Code->Code
 | .rangeFunc _ _ a _=>a
 | _=>.skip
def Akt (c:Code) (n:Nat):Code:=((Dx c)[n]?).getD .skip
def runM (C:Cfg) (n:Nat) (c:Code) (l:List LF) (st:St) (k:Ex->St->Bool):Bool:=Ai5 C n (mkA c l) st k
theorem AWq.runM (hC:C.Ok) {n:Nat} {c:Code} {l:List LF} (hl:LoopsOk C (Dx c) l) (h:∀ k:Ex->St->Bool,(∀ e s,K e s->k e s=true)->Bas.runM C n c l st k=true):AWq C c st K:=by
 classical
 have:=Jw hC (mkA c l) st _ (Ui c l hl) (h (fun e s=>decide (K e s)) (fun e s hk=>Ddt hk))
 rw [Jh] at this
 exact this.mono fun e s hk=>Odt hk
def Aqs (C:Cfg) (n:Nat) (f:FuncId) (l:List LF) (args:List AV) (k:AV->Bool):Bool :=
 runM C n (Ef C.P f) l (st0 C.P f args) (fun e s=>match e with
  | .ret=>Baa C f s k false
  | .normal=>Baa C f s k false
  | _=>false)
theorem Aqt (hC:C.Ok) {n:Nat} {f:FuncId} {l:List LF} {args:List AV} {k:AV->Bool} (hf:((C.P.funcs[f]?).bind (·.body)).isSome=true) (hok:LoopsOk C (Dx (Ef C.P f)) l) (h:Aqs C n f l args k=true):ACalls C.P C.G f args (fun v=>k v=true) :=
 Ai4 hf (by
  have:=Jw hC _ _ _ (Ui (Ef C.P f) l hok) h;rw [Jh] at this;refine this.mono fun e s hk=>?_
  cases e with
  | ret=>exact ⟨.inl rfl,hk⟩
  | normal=>exact ⟨.inr rfl,hk⟩
  | exit id=>cases hk
  | goto l=>cases hk
  | panic v=>cases hk)
theorem Aar {P:Program} {G:Nat->Option (List AV)} {q:FuncId->Bool} (h:Base P) {l:List Sum} (hl:∀ s ∈ l,Bc P G s) {f:FuncId} {fs:List LF} {args:List AV} {r:AV} {n:Nat} (hf:((P.funcs[f]?).bind (·.body)).isSome=true) (hok:LoopsOk ⟨P,G,Oa l,q,fun _=>none⟩ (Dx (Ef P f)) fs)
  (hrun:∀ k:AV->Bool,k r=true->Aqs ⟨P,G,Oa l,q,fun _=>none⟩ n f fs args k=true):ACalls P G f args (fun v=>v=r):=by
 classical
 have:=Aqt (Xx h hl) hf hok (hrun (fun v=>decide (v=r)) (by simp))
 exact this.mono fun v hv=>by simpa using hv
def AC.OkP (C:Cfg):AC->Prop
 | .leaf _=>True
 | .seq a b=>a.OkP C/\b.OkP C
 | .cond _ a b=>a.OkP C/\b.OkP C
 | .block _ a=>a.OkP C
 | .known c F=>∀ st k,F st k=true->AWp C none c st (fun e s=>k e s=true)
theorem Jy (hC:C.Ok) {n:Nat}:∀ (ac:AC) (st:St) (k:Ex->St->Bool),ac.OkP C->Ai5 C n ac st k=true->AWp C none ac.code st (fun e s=>k e s=true)
 | .leaf c,st,k,_,h=>fun w B oC oL ω a Q ro S hI hQ=>(Rh hC n).1 none c st k w B oC oL ω a Q ro h S hI hQ
 | .seq a b,st,k,hok,h=>AWp.seq ((Jy hC a st _ hok.1 h).mono fun e s hk=>by
   cases e with
   | normal=>exact Jy hC b s k hok.2 hk
   | exit id=>exact hk
   | goto l=>exact hk
   | ret=>exact hk
   | panic v=>exact hk)
 | .cond o a b,st,k,hok,h=>by
  simp only [Ai5] at h;split at h
  ·rename_i t ht
   have hset:∀ b,b=t->Ati st.tmps o (.bool b)=st.tmps:=fun b e=>by
    subst e;cases o with
    | tmp d=>exact Uu ht
    | _=>rfl
   refine AWp.cond ht (fun e=>?_) (fun e=>?_)
   ·subst e
    rw [hset true rfl] at h;exact Jy hC a st k hok.1 h
   ·subst e
    rw [hset false rfl] at h;exact Jy hC b st k hok.2 h
  ·cases h
 | .block id a,st,k,hok,h=>AWp.block ((Jy hC a st _ hok h).mono fun e s hk=>by
   cases e with
   | normal=>exact hk
   | exit id' =>
    rcases Dt hk with ⟨h1,h2⟩ | ⟨h1,h2⟩
    ·exact ⟨fun _=>h2,fun hn=>absurd (Dw h1) hn⟩
    ·exact ⟨fun he=>(by rw [(Ea _ _).2 he] at h1;cases h1),fun _=>h2⟩
   | goto l=>exact hk
   | ret=>exact hk
   | panic v=>exact hk)
 | .known c F,st,k,hok,h=>hok st k h
def LoopsOkP (C:Cfg):List Code->List LF->Prop
 | c :: cs,F :: Fs=>(∀ st k,F st k=true->AWp C none c st (fun e s=>k e s=true))/\LoopsOkP C cs Fs
 | _,_=>True
theorem LoopsOkP.left:∀ {a b:List Code} {l:List LF},LoopsOkP C (a ++ b) l->LoopsOkP C a l
 | [],_,[],_=>trivial
 | [],_,_ :: _,_=>trivial
 | _ :: _,_,[],_=>trivial
 | _ :: _,_,_ :: _,h=>⟨h.1,LoopsOkP.left h.2⟩
theorem LoopsOkP.right:∀ {a b:List Code} {l:List LF},LoopsOkP C (a ++ b) l->LoopsOkP C b (l.drop a.length)
 | [],_,l,h=>h
 | _ :: _,b,[],_=>by cases b <;> trivial
 | _ :: a,b,_ :: l,h=>LoopsOkP.right (a:=a) (b:=b) (l:=l) h.2
theorem Qy:∀ (c:Code) (l:List LF),LoopsOkP C (Dx c) l->(mkA c l).OkP C
 | .seq a b,l,h=>by
  unfold mkA;have h:LoopsOkP C (Dx a ++ Dx b) l:=h;split
  ·rename_i ha
   split
   ·exact trivial
   ·rw [ha] at h;exact ⟨trivial,Qy b l h⟩
  ·rename_i x r ha
   have h2:=h.right;rw [ha] at h2;exact ⟨Qy a l h.left,Qy b _ h2⟩
 | .cond o a b,l,h=>by
  unfold mkA;have h:LoopsOkP C (Dx a ++ Dx b) l:=h;split
  ·rename_i ha
   split
   ·exact trivial
   ·rw [ha] at h;exact ⟨trivial,Qy b l h⟩
  ·rename_i x r ha
   have h2:=h.right;rw [ha] at h2;exact ⟨Qy a l h.left,Qy b _ h2⟩
 | .block id a,l,h=>Qy a l h
 | .loop b,[],_=>trivial
 | .loop b,F :: _,h=>h.1
 | .rangeFunc g ps asv b,[],_=>trivial
 | .rangeFunc g ps asv b,F :: _,h=>h.1
 | .skip,_,_=>trivial
 | .label _,_,_=>trivial
 | .ret,_,_=>trivial
 | .exit _,_,_=>trivial
 | .goto _,_,_=>trivial
 | .scope _,_,_=>trivial
 | .region _ _ _,_,_=>trivial
 | .refuse _,_,_=>trivial
theorem AWp.runM (hC:C.Ok) {n:Nat} {c:Code} {l:List LF} (hl:LoopsOkP C (Dx c) l) (h:∀ k:Ex->St->Bool,(∀ e s,K e s->k e s=true)->Bas.runM C n c l st k=true):AWp C none c st K:=by
 classical
 have:=Jy hC (mkA c l) st _ (Qy c l hl) (h (fun e s=>decide (K e s)) (fun e s hk=>Ddt hk))
 rw [Jh] at this
 exact this.mono fun e s hk=>Odt hk
def Ag4:List (Nat × AV)->Nat->AV
 | [],_=>.any
 | p :: r,i=>cond (Nat.beq p.1 i) p.2 (Ag4 r i)
def Ab0 (live:List (Nat × AV)):Nat->Nat->List AV
 | 0,_=>[]
 | n + 1,i=>Ag4 live i :: Ab0 live n (i + 1)
def fill (n:Nat) (live:List (Nat × AV)):List AV:=Ab0 live n 0
theorem Vp (live:List (Nat × AV)):∀ (n i:Nat),(Ab0 live n i).length=n
 | 0,_=>rfl
 | n + 1,i=>by simp [Ab0,Vp live n]
theorem Aku (live:List (Nat × AV)):∀ (n i j:Nat) (h:j < (Ab0 live n i).length),(Ab0 live n i)[j]=Ag4 live (i + j)
 | 0,i,j,h=>absurd h (Nat.not_lt_zero _)
 | n + 1,i,0,h=>rfl
 | n + 1,i,j + 1,h=>by
  have:=Aku live n (i + 1) j (by simpa [Ab0] using h)
  rw [show i + (j + 1)=i + 1 + j by omega,<- this]
  rfl
def Aqu (tmps:List AV):List (Nat × AV)->Prop
 | []=>True
 | p :: r=>lget tmps p.1=p.2/\Aqu tmps r
theorem P6 {tmps:List AV}:Aqu tmps []:=trivial
theorem Bz {tmps:List AV} {i:Nat} {v:AV} {r:List (Nat × AV)} (h:lget tmps i=v) (hr:Aqu tmps r):Aqu tmps ((i,v) :: r):=⟨h,hr⟩
theorem Aqv (tmps:List AV):∀ (live:List (Nat × AV)),Aqu tmps live->∀ i,Ag4 live i=.any\/Ag4 live i=lget tmps i
 | [],_,_=>.inl rfl
 | p :: r,h,i=>by
  simp only [Ag4];cases hb:Nat.beq p.1 i with
  | true=>rw [<- Dw hb];exact .inr h.1.symm
  | false=>exact Aqv tmps r h.2 i
theorem LessS.fill {st:St} {n:Nat} {live:List (Nat × AV)} {ds:List Nat} {m:Mem} (hn:st.tmps.length=n) (hl:Aqu st.tmps live) (hd:st.ds=ds) (hm:st.m=m):LessS C st ⟨Bas.fill n live,ds,m⟩:=by
 subst hd hm
 refine ⟨rfl,fun w B oC oL ω a S=>⟨⟨(Vp live n 0).trans (hn.symm.trans S.tm.1),fun i hi=>?_⟩,S.dn,S.ms⟩⟩
 have hi':i < st.tmps.length:=by
  have:i < (Ab0 live n 0).length:=hi;rw [Vp] at this;omega
 have e:(Bas.fill n live)[i]=Ag4 live i:=by
  show (Ab0 live n 0)[i]=_;rw [Aku live n 0 i hi,Nat.zero_add]
 show Rep w (Or2 B oL) oC ω st.m.nx (Bas.fill n live)[i] _
 rw [e]
 rcases Aqv st.tmps live hl i with h | h
 ·rw [h];exact .any _ _
 ·rw [h,Ja,List.getD_eq_getElem?_getD,List.getElem?_eq_getElem hi']
  exact S.tm.2 i hi'
def A3q (p:Nat × HB) (h:Heap):Heap:=List.rec (motive:=fun _=>Heap) [p] (fun q r ih=>cond (Nat.ble q.1 p.1) (p :: q :: r) (q :: ih)) h
def A3r (h:Heap):Heap:=List.rec (motive:=fun _=>Heap) [] (fun p _ ih=>A3q p ih) h
theorem Akv (p:Nat × HB) (id:Nat):∀ h:Heap,Dl (A3q p h) id=cond (Nat.beq p.1 id) (some p.2) (Dl h id)
 | []=>rfl
 | q :: r=>by
  show Dl (cond (Nat.ble q.1 p.1) (p :: q :: r) (q :: A3q p r)) id=_;cases hb:Nat.ble q.1 p.1 with
  | true=>rfl
  | false =>
   show cond (Nat.beq q.1 id) (some q.2) (Dl (A3q p r) id)=cond (Nat.beq p.1 id) (some p.2) (cond (Nat.beq q.1 id) (some q.2) (Dl r id));rw [Akv p id r];cases h1:Nat.beq q.1 id with
   | false=>rfl
   | true =>
    cases h2:Nat.beq p.1 id with
    | false=>rfl
    | true =>
     have e1:=Dw h1;have e2:=Dw h2;rw [e1,e2,Nat.ble_eq_true_of_le (Nat.le_refl _)] at hb;cases hb
theorem Vq:∀ (h:Heap) (id:Nat),Dl (A3r h) id=Dl h id
 | [],_=>rfl
 | p :: r,id=>by
  show Dl (A3q p (A3r r)) id=cond (Nat.beq p.1 id) (some p.2) (Dl r id);rw [Akv,Vq r id]
def msort (m:Mem):Mem:=⟨A3r m.heap,m.nx,m.lp⟩
theorem LessS.sort (st:St):LessS C st ⟨st.tmps,st.ds,msort st.m⟩:=⟨rfl,fun w B oC oL ω a S=>⟨S.tm,S.dn,⟨⟨fun id hb h=>S.ms.hp.rel id hb ((Vq _ _).symm.trans h),fun i j b h1 h2=>S.ms.hp.inj i j b (by rwa [<- Vq]) (by rwa [<- Vq]),S.ms.hp.ob⟩,S.ms.lp,S.ms.gl,S.ms.gb,S.ms.bl⟩⟩⟩
theorem LessS.trans {st st1 st2:St} (h:LessS C st st1) (h':LessS C st1 st2):LessS C st st2:=⟨h'.1.trans h.1,fun w B oC oL ω a S=>h'.2 _ _ _ _ _ _ (h.2 _ _ _ _ _ _ S)⟩
theorem Less.fill {st:St} {n:Nat} {live:List (Nat × AV)} {ds:List Nat} {m:Mem} (hn:st.tmps.length=n) (hl:Aqu st.tmps live) (hd:st.ds=ds) (hm:st.m=m):Less C st ⟨Bas.fill n live,ds,m⟩:=(LessS.fill hn hl hd hm).less
theorem A3s {go:Ur Bool} {z:Bool} {f:FuncId} {fn:Func} {c:Code} {args:List AV} {m:Mem} {kk kp:AV->Mem->Bool} (hfn:C.P.funcs[f]?=some fn) (hb:fn.body=some c) (hX:C.X f=none) (hS:C.S f=none) (hQ:C.Q f=false) :
  Lu C go z (.fn f) args m kk kp=go none none c ⟨Afe args fn.ntmps,[],m⟩ (fun e st'=>match e with
    | .ret=>Iq st'.ds st'.m.lp (fun lp=>Uo C fn st' (fun v=>kk v ⟨st'.m.heap,st'.m.nx,lp⟩) z) z
    | .normal=>Iq st'.ds st'.m.lp (fun lp=>Uo C fn st' (fun v=>kk v ⟨st'.m.heap,st'.m.nx,lp⟩) z) z
    | .panic v=>Iq st'.ds st'.m.lp (fun lp=>kp v ⟨st'.m.heap,st'.m.nx,lp⟩) z
    | _=>z) z:=by
 simp only [Lu,hX,Xo,hfn,hb,hS,hQ,cond_false]
 congr 1
theorem fn_is {P:Program} {f:FuncId} {n r:Nat} (h:((P.funcs[f]?).map fun fn=>(fn.body.isSome,fn.ntmps,fn.results.toList.length))=some (true,n,r)) :
  ∃ fn,P.funcs[f]?=some fn/\fn.body=some (Ef P f)/\fn.ntmps=n/\fn.results.toList.length=r:=by
 cases hq:P.funcs[f]? with
 | none=>rw [hq] at h;cases h
 | some fn =>
  rw [hq] at h;simp only [Option.map_some,Option.some.injEq,Prod.mk.injEq] at h;obtain ⟨c,hb⟩:=Option.isSome_iff_exists.1 h.1;exact ⟨fn,rfl,by simp [Ef,hq,hb],h.2.1,h.2.2⟩
def Ag5 (ls:List Nat) (l:List AV):Nat->List AV:=List.rec (motive:=fun _=>Nat->List AV) (fun _=>[]) (fun a _ ih i=>(cond (Jl ls i) a .any) :: ih (i + 1)) l
theorem Qz (ls:List Nat):∀ (l:List AV) (i:Nat),(Ag5 ls l i).length=l.length
 | [],_=>rfl
 | a :: r,i=>congrArg (· + 1) (Qz ls r (i + 1))
theorem Akw (ls:List Nat):∀ (l:List AV) (i j:Nat) (h:j < (Ag5 ls l i).length) (h':j < l.length),(Ag5 ls l i)[j]=.any\/(Ag5 ls l i)[j]=l[j]
 | [],i,j,h,h'=>absurd h' (Nat.not_lt_zero _)
 | a :: r,i,0,h,h'=>by
  show cond (Jl ls i) a .any=.any\/cond (Jl ls i) a .any=a;cases Jl ls i
  ·exact .inl rfl
  ·exact .inr rfl
 | a :: r,i,j + 1,h,h'=>Akw ls r (i + 1) j (by rw [Qz] at *;simpa using h') (by simpa using h')
def Qj (ls:List Nat) (st:St):St:=⟨Ag5 ls st.tmps 0,st.ds,msort st.m⟩
theorem LessS.keep (ls:List Nat) (st:St):LessS C st (Qj ls st) :=
 (LessS.sort st).trans ⟨rfl,fun w B oC oL ω a S=>⟨⟨(Qz ls st.tmps 0).trans S.tm.1,fun i hi=>by
  have hi':i < st.tmps.length:=by
   have:i < (Ag5 ls st.tmps 0).length:=hi
   rwa [Qz] at this
  show Rep _ _ _ _ _ (Ag5 ls st.tmps 0)[i] _
  rcases Akw ls st.tmps 0 i hi hi' with e | e
  ·rw [e];exact .any _ _
  ·rw [e];exact S.tm.2 i hi'⟩,S.dn,S.ms⟩⟩
theorem AWp.runK (hC:C.Ok) (ls:List Nat) {inr:Option Nat} {n:Nat} {code:Code} (h:∀ k:Ex->St->Bool,(∀ e s,K e s->k e s=true)->Bas.run C n inr none code st (fun e s=>k e (Qj ls s)) false=true):AWp C inr code st K:=by
 classical
 have h1:=h (fun e s=>decide (K e s)) (fun e s h=>Ddt h)
 have h0:AWp C inr code st (fun e s=>decide (K e (Qj ls s))=true):=fun w B oC oL ω a Q ro S hI hQ=>(Rh hC n).1 inr code st _ w B oC oL ω a Q ro h1 S hI hQ
 exact h0.post fun e s hk=>⟨_,LessS.keep ls s,Odt hk⟩
theorem AWq.runK (hC:C.Ok) (ls:List Nat) {n:Nat} {code:Code} (h:∀ k:Ex->St->Bool,(∀ e s,K e s->k e s=true)->Bas.run C n none none code st (fun e s=>k e (Qj ls s)) false=true):AWq C code st K:=(AWp.runK hC ls h).q
end
end
end Go.Bas
end
section
namespace Go.Bas
noncomputable section
open Go.RowKit
def AV.under (n:Nat):Nat->AV->Bool
 | 0,_=>false
 | _ + 1,.ptr id _=>Nat.blt id n
 | _ + 1,.sl id _ _ _ _=>Nat.blt id n
 | _ + 1,.yld id=>Nat.blt id n
 | d + 1,.fn _ a b=>a.all (AV.under n d)&&b.all (AV.under n d)
 | d + 1,.iface _ v=>AV.under n d v
 | d + 1,.agg cs=>cs.all (AV.under n d)
 | d + 1,.tup cs=>cs.all (AV.under n d)
 | _ + 1,_=>true
theorem Xy {a b:Nat} (h:Nat.blt a b=true):a < b:=Nlb h
theorem Rep.lower {w:World} {B:Nat->Prop} {own:Nat->Prop} {ω:Nat->Option Nat} {nx:Nat} {v:AV} {u:Value}
  (h:Rep w B own ω nx v u):∀ {d n:Nat},v.under n d=true->Rep w B own ω n v u:=by
 induction h with
 | any=>intro _ _ _;exact .any _ _
 | bool=>intro _ _ _;exact .bool _ _
 | int=>intro _ _ _;exact .int _ _ _
 | str=>intro _ _ _;exact .str _ _
 | nilp=>intro _ _ _;exact .nilp _
 | ptr nx id off b hi hw =>
  intro d n hd;cases d with
  | zero=>cases hd
  | succ d=>exact .ptr _ _ _ _ (Xy hd) hw
 | iptr nx cells off b o vs hb hc hr _=>intro _ _ _;exact .iptr _ _ _ b o vs hb hc hr
 | nils=>intro _ _ _;exact .nils _
 | lst nx cells n cap b o vs hb hn hc hr _=>intro _ _ _;exact .lst _ _ _ _ b o vs hb hn hc hr
 | lstn=>intro _ _ _;exact .lstn _ _ _
 | es nx a=>intro _ _ _;exact .es _ _
 | ns nx p c=>intro _ _ _;exact .ns _ _ _
 | sl nx id off n sz cap b hi hw hn =>
  intro d m hd;cases d with
  | zero=>cases hd
  | succ d=>exact .sl _ _ _ _ _ _ _ (Xy hd) hw hn
 | sla nx id n sz cap b hi hw hn hcm hrow =>
  intro d m hd;cases d with
  | zero=>cases hd
  | succ d=>exact .sla _ _ _ _ _ _ (Xy hd) hw hn hcm hrow
 | yld nx id l hi hw =>
  intro d m hd;cases d with
  | zero=>cases hd
  | succ d=>exact .yld _ _ _ (Xy hd) hw
 | fn nx f first cap fs cs h1 h2 _ _ ih1 ih2 =>
  intro d m hd;cases d with
  | zero=>cases hd
  | succ d =>
   simp only [AV.under,Bae,List.all_eq_true] at hd;exact .fn _ _ _ _ _ _ h1 h2 (fun i hi=>ih1 i hi (hd.1 _ (List.getElem_mem hi))) (fun i hi=>ih2 i hi (hd.2 _ (List.getElem_mem hi)))
 | nilfn=>intro _ _ _;exact .nilfn _
 | iface nx t v u _ ih =>
  intro d m hd;cases d with
  | zero=>cases hd
  | succ d=>exact .iface _ _ _ _ (ih hd)
 | niliface=>intro _ _ _;exact .niliface _
 | agg nx cs vs h1 _ ih =>
  intro d m hd;cases d with
  | zero=>cases hd
  | succ d =>
   simp only [AV.under,List.all_eq_true] at hd;exact .agg _ _ _ h1 (fun i hi=>ih i hi (hd _ (List.getElem_mem hi)))
 | tup nx cs vs h1 _ ih =>
  intro d m hd;cases d with
  | zero=>cases hd
  | succ d =>
   simp only [AV.under,List.all_eq_true] at hd;exact .tup _ _ _ h1 (fun i hi=>ih i hi (hd _ (List.getElem_mem hi)))
def Aqw (n:Nat) (h:Heap):Heap:=List.rec (motive:=fun _=>Heap) [] (fun p _ ih=>cond (Nat.blt p.1 n) (p :: ih) ih) h
theorem L6 (n id:Nat) (hb:HB):∀ h:Heap,Dl (Aqw n h) id=some hb->id < n/\Dl h id=some hb
 | [],h=>by cases h
 | p :: r,h=>by
  have e:Aqw n (p :: r)=cond (Nat.blt p.1 n) (p :: Aqw n r) (Aqw n r):=rfl;rw [e] at h;rw [Ei p.1 p.2 r];cases h1:Nat.blt p.1 n with
  | true =>
   rw [h1] at h;have h:cond (Nat.beq p.1 id) (some p.2) (Dl (Aqw n r) id)=some hb:=h;cases h2:Nat.beq p.1 id with
   | true =>
    rw [h2] at h;exact ⟨Dw h2 ▸ Xy h1,h⟩
   | false =>
    rw [h2] at h;exact L6 n id hb r h
  | false =>
   rw [h1] at h;obtain ⟨a,b⟩:=L6 n id hb r h;cases h2:Nat.beq p.1 id with
   | true =>
    have:=Dw h2;subst this;have:Nat.blt p.1 n=true:=Nat.ble_eq_true_of_le a;rw [h1] at this;cases this
   | false=>exact ⟨a,b⟩
def Awn (n:Nat) (st:St):Bool:=st.tmps.all (AV.under n 8)&&((Aqw n st.m.heap).all (fun p=>p.2.pure || p.2.cells.all (AV.under n 8)))
theorem Aqx {h:Heap} {id:Nat} {hb:HB}:Dl h id=some hb->∃ p ∈ h,p.2=hb:=by
 induction h with
 | nil=>intro h;cases h
 | cons p r ih =>
  intro h;rw [Ei p.1 p.2 r] at h;cases hc:Nat.beq p.1 id with
  | true=>rw [hc] at h;exact ⟨p,List.mem_cons_self ..,Option.some.inj h⟩
  | false=>rw [hc] at h;obtain ⟨q,hq,e⟩:=ih h;exact ⟨q,List.mem_cons_of_mem _ hq,e⟩
theorem Less.drop {C:Cfg} {st:St} (n:Nat) (hn:n<=st.m.nx) (hds:st.ds=[]) (hlp:st.m.lp=[]) (hok:Awn n st=true):Less C st ⟨st.tmps,[],⟨Aqw n st.m.heap,n,[]⟩⟩:=fun w B oC oL ω a S=>by
 simp only [Awn,Bae,List.all_eq_true] at hok
 refine ⟨ω,⟨S.tm.1,fun i hi=>(S.tm.2 i hi).lower (hok.1 _ (List.getElem_mem hi))⟩,?_,⟨⟨fun id hb h=>?_,fun i j b h1 h2=>?_,S.ms.hp.ob⟩,⟨fun id e h=>(by cases h),fun i j l h=>(by cases h),S.ms.lp.dis⟩,S.ms.gl,S.ms.gb,S.ms.bl⟩⟩
 ·have:=S.dn
  rw [hds] at this;show Marks ω n [] a.defers;cases hq:a.defers with
  | nil=>exact trivial
  | cons x xs=>rw [hq] at this;exact this.elim
 ·obtain ⟨h1,h2⟩:=L6 n id hb _ h
  obtain ⟨q1,b,arr,q2,q3,q4,q5,q6⟩:=S.ms.hp.rel id hb h2;refine ⟨h1,b,arr,q2,q3,q4,q5,fun i hi=>?_⟩
  have:=q6 i hi;cases hp:hb.pure with
  | true=>rw [hp] at this;exact this
  | false =>
   rw [hp] at this;obtain ⟨p,hp1,hp2⟩:=Aqx h;have h3:=hok.2 p hp1;rw [hp2,hp,Bool.false_or,List.all_eq_true] at h3;exact this.lower (h3 _ (List.getElem_mem hi))
 ·obtain ⟨x1,e1⟩:=Option.isSome_iff_exists.1 h1
  obtain ⟨x2,e2⟩:=Option.isSome_iff_exists.1 h2;obtain ⟨_,e1⟩:=L6 n i x1 _ e1;obtain ⟨_,e2⟩:=L6 n j x2 _ e2;exact S.ms.hp.inj i j b (by rw [e1];rfl) (by rw [e2];rfl)
section
variable {C:Cfg} {K K':Ex->St->Prop} {st:St}
theorem AWq.runMK (hC:C.Ok) (ls:List Nat) {n:Nat} {c:Code} {l:List LF} (hl:LoopsOk C (Dx c) l) (h:∀ k:Ex->St->Bool,(∀ e s,K e s->k e s=true)->Bas.runM C n c l st (fun e s=>k e (Qj ls s))=true):AWq C c st K:=by
 classical
 have h1:=h (fun e s=>decide (K e s)) (fun e s h=>Ddt h)
 have:=Jw hC (mkA c l) st _ (Ui c l hl) h1
 rw [Jh] at this
 intro w B oC oL ω a Q S hQ
 refine this w B oC oL ω a Q S (fun e st' a' w' oC' oL' ω' out S' E hK ho=>?_)
 have hl:=LessS.keep (C:=C) ls st'
 refine hQ e (Qj ls st') a' w' oC' oL' ω' out (hl.2 _ _ _ _ _ _ S') (hl.1 ▸ E) (Odt hK) ?_
 cases e with
 | panic v=>obtain ⟨u,h1,h2⟩:=ho;exact ⟨u,h1,hl.1 ▸ h2⟩
 | _=>exact ho
end
end
end Go.Bas
end
section
namespace Go.Bas
noncomputable section
open Go.RowKit
section
variable {C:Cfg}
theorem AWp.region (hC:C.Ok) {inr:Option Nat} {id:Nat} {ops:Array Oper} {st:St} {k:Ex->St->Bool}
  (h:Ags C (Lu C (goA C) false) ops ops.toList st (fun st'=>k .normal st') (fun v st'=>k (.panic v) st') false=true) :
  AWp C inr (.region id ops false) st (fun e s=>k e s=true):=fun w B oC oL ω a Q ro S hI hQ=>by
 refine wpIn_region ?_
 have:=Adc (ro:=ro) (Q:=Q) (ops:=ops) (Sj hC Aty) ops.toList 0 rfl st a w oC oL ω h S (fun st' a' w' oC' oL' ω' S' E hk'=>hQ .normal _ _ _ _ _ _ _ S' E hk' rfl)
  (fun v u st' a' w' oC' oL' ω' S' E hk' hr=>hQ (.panic v) _ _ _ _ _ _ _ S' E hk' ⟨u,rfl,hr⟩)
 rw [List.range_eq_range']
 simpa using this
theorem At1 (hC:C.Ok) {f:FuncId} {fn:Func} {c:Code} (hfn:C.P.funcs[f]?=some fn) (hb:fn.body=some c) (hX:C.X f=none) (hS:C.S f=none) (hQ:C.Q f=false) {F:List AV->Mem->TrM}
  (h:∀ args m (kk:AV->Mem->Bool),(F args m).ev kk false=true->AWp C none c ⟨Afe args fn.ntmps,[],m⟩ (fun e st'=>(e=.ret\/e=.normal)/\Iq st'.ds st'.m.lp (fun lp=>Uo C fn st' (fun v=>kk v ⟨st'.m.heap,st'.m.nx,lp⟩) false) false=true)):InpOk C f F:=fun args m kk w B oC oL ω us hk M hr=>by
 refine Sj hC Aty (.fn f) args m kk (fun _ _=>false) w B oC oL ω us ?_ M hr
 rw [A3s hfn hb hX hS hQ]
 refine A3p ((h args m kk hk).mono fun e s he=>?_)
 rcases he with ⟨rfl | rfl,he⟩
 ·exact he
 ·exact he
def LessD (C:Cfg) (n:Nat) (st st':St):Prop:=n<=st'.m.nx/\st'.m.nx<=st.m.nx/\∀ (w:World) (B oC oL:Nat->Prop) (ω:Nat->Option Nat) (a:Act),Sim C w B oC oL ω st a->Sim C w B oC oL ω st' a
theorem LessS.d {st st':St} (h:LessS C st st'):LessD C st.m.nx st st':=⟨by rw [h.1];exact Nat.le_refl _,by rw [h.1];exact Nat.le_refl _,h.2⟩
theorem LessD.trans {n:Nat} {st st1 st2:St} (h:LessD C n st st1) (h':LessD C n st1 st2):LessD C n st st2:=⟨h'.1,Nat.le_trans h'.2.1 h.2.1,fun w B oC oL ω a S=>h'.2.2 _ _ _ _ _ _ (h.2.2 _ _ _ _ _ _ S)⟩
theorem ExtR.lowN {w w':World} {oC oL oC' oL':Nat->Prop} {ω ω':Nat->Option Nat} {nx nx' n':Nat} (E:ExtR w oC oL ω nx w' oC' oL' ω' nx') (h:nx<=n'):ExtR w oC oL ω nx w' oC' oL' ω' n' :=
 ⟨E.os,E.tape,E.output,E.size,E.old,E.owns,h,E.om,E.row⟩
def Bh9 (n:Nat) (st:St):Bool:=(st.m.lp.all fun p=>Nat.blt p.1 n&&(match p.2 with
 | .dfb=>true
 | .lop _ _ tmps _ _ _ d=>tmps.all (AV.under n 8)&&Nat.blt d n))&&st.ds.all (fun d=>Nat.blt d n)
theorem Azi {lp:N7} {id:Nat} {e:LB}:Gw lp id=some e->∃ p ∈ lp,p.1=id/\p.2=e:=by
 induction lp with
 | nil=>intro h;cases h
 | cons p r ih =>
  intro h;simp only [Gw] at h;cases hc:Nat.beq p.1 id with
  | true=>rw [hc] at h;exact ⟨p,List.mem_cons_self ..,Dw hc,Option.some.inj h⟩
  | false=>rw [hc] at h;obtain ⟨q,hq,e⟩:=ih h;exact ⟨q,List.mem_cons_of_mem _ hq,e⟩
theorem Marks.low {ω:Nat->Option Nat} {nx n:Nat}:∀ {ds:List Nat} {xs:List Deferred},Marks ω nx ds xs->(∀ d ∈ ds,Nat.blt d n=true)->Marks ω n ds xs
 | [],[],_,_=>trivial
 | d :: ds,x :: xs,h,hd=>⟨⟨Xy (hd d (List.mem_cons_self ..)),h.1.2⟩,Marks.low h.2 (fun e he=>hd e (List.mem_cons_of_mem _ he))⟩
 | [],_ :: _,h,_=>h.elim
 | _ :: _,[],h,_=>h.elim
theorem LessD.drop {st:St} (n base:Nat) (hb:base<=n) (hn:n<=st.m.nx) (hok:Awn n st=true) (hlp:Bh9 n st=true):LessD C base st ⟨st.tmps,st.ds,⟨Aqw n st.m.heap,n,st.m.lp⟩⟩:=⟨hb,hn,fun w B oC oL ω a S=>by
 simp only [Awn,Bae,List.all_eq_true] at hok
 simp only [Bh9,Bae,List.all_eq_true] at hlp
 refine ⟨⟨S.tm.1,fun i hi=>(S.tm.2 i hi).lower (hok.1 _ (List.getElem_mem hi))⟩,S.dn.low hlp.2,⟨⟨fun id hb h=>?_,fun i j b h1 h2=>?_,S.ms.hp.ob⟩,⟨fun id e h=>?_,S.ms.lp.inj,S.ms.lp.dis⟩,S.ms.gl,S.ms.gb,S.ms.bl⟩⟩
 ·obtain ⟨h1,h2⟩:=L6 n id hb _ h
  obtain ⟨q1,b,arr,q2,q3,q4,q5,q6⟩:=S.ms.hp.rel id hb h2;refine ⟨h1,b,arr,q2,q3,q4,q5,fun i hi=>?_⟩
  have:=q6 i hi;cases hp:hb.pure with
  | true=>rw [hp] at this;exact this
  | false =>
   rw [hp] at this;obtain ⟨p,hp1,hp2⟩:=Aqx h;have h3:=hok.2 p hp1;rw [hp2,hp,Bool.false_or,List.all_eq_true] at h3;exact this.lower (h3 _ (List.getElem_mem hi))
 ·obtain ⟨x1,e1⟩:=Option.isSome_iff_exists.1 h1
  obtain ⟨x2,e2⟩:=Option.isSome_iff_exists.1 h2;obtain ⟨_,e1⟩:=L6 n i x1 _ e1;obtain ⟨_,e2⟩:=L6 n j x2 _ e2;exact S.ms.hp.inj i j b (by rw [e1];rfl) (by rw [e2];rfl)
 ·obtain ⟨p,hp1,rfl,rfl⟩:=Azi h
  obtain ⟨g1,l,g2,g3,g4⟩:=S.ms.lp.rel p.1 p.2 h;obtain ⟨k1,k2⟩:=hlp.1 p hp1;refine ⟨Xy k1,l,g2,g3,?_⟩;cases hq:p.2 with
  | dfb=>rw [hq] at g4;exact g4
  | lop s pend tmps params asg body d =>
   rw [hq] at g4 k2;simp only [Bae,List.all_eq_true] at k2;obtain ⟨r,r1,r2,r3,r4,r5,r6,r7,r8,r9,r10⟩:=g4;exact ⟨r,r1,r2,r3,r4,⟨r5.1,fun i hi=>(r5.2 i hi).lower (k2.1 _ (List.getElem_mem hi))⟩,r6,r7,r8,Xy k2.2,r10⟩⟩
theorem AWp.loopD {K:Ex->St->Prop} {ι:Type} {inr:Option Nat} {body:Code} (I:ι->St) (n0:Nat) (hn0:∀ i,(I i).m.nx=n0) (μ:ι->Nat) (h:∀ i,AWp C inr body (I i) (fun e s=>match e with | .normal=>∃ j,μ j < μ i/\LessD C n0 s (I j) | .panic _=>False | e=>∃ s',LessD C n0 s s'/\K e s')) (i:ι):AWp C inr (.loop body) (I i) K:=fun w B oC oL ω a Q ro S hI hQ=>by
 have key:∀ (m:Nat) (i:ι) (a:Act) (w:World) (oC oL:Nat->Prop) (ω:Nat->Option Nat),μ i < m->Sim C w B oC oL ω (I i) a->InR ω (I i).m.nx inr ro ->
   (∀ e st' a' w' oC' oL' ω' out,Sim C w' B oC' oL' ω' st' a'->ExtR w oC oL ω (I i).m.nx w' oC' oL' ω' st'.m.nx->K e st'->Agv w' B oC' oL' ω' st'.m.nx e out->Q out a' w')->Code.roundsIn (Fr ro) 0 C.P body Q m a w:=by
  intro m
  induction m with
  | zero=>intro i a w oC oL ω h;exact absurd h (Nat.not_lt_zero _)
  | succ m ih =>
   intro i a w oC oL ω hm S hI hQ;rw [roundsIn_succ];refine h i w B oC oL ω a _ ro S hI (fun e st' a' w' oC' oL' ω' out S' E hk ho=>?_)
   cases e with
   | normal =>
    obtain ⟨j,hj,hl⟩:=hk;subst ho;have E1:ExtR w oC oL ω (I i).m.nx w' oC' oL' ω' (I j).m.nx:=E.lowN (by rw [hn0,hn0];exact Nat.le_refl _)
    exact ih j a' w' oC' oL' ω' (by omega) (hl.2.2 _ _ _ _ _ _ S') (hI.ext E1) (fun e2 st2 a2 w2 oC2 oL2 ω2 out2 S2 E2 hk2 ho2=>hQ e2 st2 a2 w2 oC2 oL2 ω2 out2 S2 (E1.trans E2) hk2 ho2)
   | exit id =>
    obtain ⟨s',hl,hk⟩:=hk;subst ho;exact hQ (.exit id) s' a' w' oC' oL' ω' _ (hl.2.2 _ _ _ _ _ _ S') (E.lowN (by rw [hn0];exact hl.1)) hk rfl
   | goto l =>
    obtain ⟨s',hl,hk⟩:=hk;subst ho;exact hQ (.goto l) s' a' w' oC' oL' ω' _ (hl.2.2 _ _ _ _ _ _ S') (E.lowN (by rw [hn0];exact hl.1)) hk rfl
   | ret =>
    obtain ⟨s',hl,hk⟩:=hk;subst ho;exact hQ .ret s' a' w' oC' oL' ω' _ (hl.2.2 _ _ _ _ _ _ S') (E.lowN (by rw [hn0];exact hl.1)) hk rfl
   | panic v=>exact hk.elim
 exact wpIn_loop_rounds (μ i + 1) (key (μ i + 1) i a w oC oL ω (Nat.lt_succ_self _) S hI hQ)
end
end
end Go.Bas
end
section
namespace Go.Bas
open Go.RowKit
section
variable {F:Fence} {n:Nat} {P:Program} {Q:Exit->Act->World->Prop} {a:Act} {w:World} {c:Code}
def Awo (F:Fence) (n:Nat) (P:Program) (c:Code) (Q:Exit->Act->World->Prop) (a:Act) (w:World):Prop :=
 ∀ (b:Frame) (k:List Item) (cs:List Frame),b.roundOf=F.round->F.fn b.fn->F.room (cs.length + 1 + n) ->
  ∃ e a' w',Q e a' w'/\ArrivesIn (Machine.fenced P F) P (lone (b.atR a (.code c :: .inLoop c :: k)) cs w) b k cs e a' w'
theorem A3t (h:Awo F n P c Q a w):(Code.loop c).wpIn F n P Q a w:=fun b k cs hro hb hr=>by
 obtain ⟨e,a',w',hq,harr⟩:=h b k cs hro hb hr
 exact ⟨e,a',w',hq,.of_steps (.one (fenced_calm hb hr rfl) stepR_loop) harr⟩
theorem At3 (h:c.wpIn F n P (Exit.then (Awo F n P c Q) Q) a w):Awo F n P c Q a w:=fun b k cs hro hb hr=>by
 obtain ⟨e,a₁,w₁,hq,harr⟩:=h b (.inLoop c :: k) cs hro hb hr
 cases e with
 | normal =>
  obtain ⟨e₂,a₂,w₂,hq₂,harr₂⟩:=hq b k cs hro hb hr;exact ⟨e₂,a₂,w₂,hq₂,.of_steps (StepsIn.trans harr (.one (fenced_calm hb hr rfl) stepR_inLoop)) harr₂⟩
 | exit id=>exact ⟨_,a₁,w₁,hq,.pass (x:=.inLoop c) rfl (fun _ _=>.inl (by simp)) harr⟩
 | goto l=>exact ⟨_,a₁,w₁,hq,.pass (x:=.inLoop c) rfl (fun _ _=>.inl (by simp)) harr⟩
 | ret=>exact ⟨_,a₁,w₁,hq,.pass (x:=.inLoop c) rfl (fun _ _=>.inl (by simp)) harr⟩
 | panic ch=>exact ⟨_,a₁,w₁,hq,.pass (x:=.inLoop c) rfl (fun _ _=>.inl (by simp)) harr⟩
 | outgrown=>exact ⟨_,a₁,w₁,hq,.pass (x:=.inLoop c) rfl (fun _ _=>.inl (by simp)) harr⟩
end
section
variable {C:Cfg} {K:Ex->St->Prop} {st:St} {inr:Option Nat} {body:Code}
def AWr (C:Cfg) (inr:Option Nat) (body:Code) (st:St) (K:Ex->St->Prop):Prop :=
 ∀ (w:World) (B oC oL:Nat->Prop) (ω:Nat->Option Nat) (a:Act) (Q:Exit->Act->World->Prop) (ro:Option Nat),Sim C w B oC oL ω st a->InR ω st.m.nx inr ro ->
  (∀ e st' a' w' oC' oL' ω' out,Sim C w' B oC' oL' ω' st' a'->ExtR w oC oL ω st.m.nx w' oC' oL' ω' st'.m.nx->K e st'->Agv w' B oC' oL' ω' st'.m.nx e out->Q out a' w')->Awo (Fr ro) 0 C.P body Q a w
theorem AWr.loop (h:AWr C inr body st K):AWp C inr (.loop body) st K:=fun w B oC oL ω a Q ro S hI hQ=>A3t (h w B oC oL ω a Q ro S hI hQ)
theorem AWr.step (h:AWp C inr body st (fun e s=>match e with | .normal=>AWr C inr body s K | e=>K e s)):AWr C inr body st K:=fun w B oC oL ω a Q ro S hI hQ=>by
 refine At3 (h w B oC oL ω a _ ro S hI (fun e st' a' w' oC' oL' ω' out S' E hk ho=>?_))
 cases e with
 | normal =>
  subst ho;exact hk w' B oC' oL' ω' a' Q ro S' (hI.ext E) (fun e2 st2 a2 w2 oC2 oL2 ω2 out2 S2 E2 hk2 ho2=>hQ e2 st2 a2 w2 oC2 oL2 ω2 out2 S2 (E.trans E2) hk2 ho2)
 | exit id=>have h2:=hQ _ st' a' w' oC' oL' ω' out S' E hk ho;subst ho;exact h2
 | goto l=>have h2:=hQ _ st' a' w' oC' oL' ω' out S' E hk ho;subst ho;exact h2
 | ret=>have h2:=hQ _ st' a' w' oC' oL' ω' out S' E hk ho;subst ho;exact h2
 | panic v=>have h2:=hQ _ st' a' w' oC' oL' ω' out S' E hk ho;obtain ⟨u,rfl,_⟩:=ho;exact h2
theorem AWr.less {st':St} (h:LessS C st st') (hw:AWr C inr body st' K):AWr C inr body st K:=fun w B oC oL ω a Q ro S hI hQ =>
 hw w B oC oL ω a Q ro (h.2 _ _ _ _ _ _ S) (h.1 ▸ hI) (fun e s a' w' oC' oL' ω' out S' E hk ho=>hQ e s a' w' oC' oL' ω' out S' (h.1 ▸ E) hk ho)
end
end Go.Bas
end
section
namespace Go.Bas
open Go.RowKit Go.ChangeShapes Go.WideShapes
def Aqy (f:DataW Unit->Option (List Value)):List (DataW Unit)->Option (List Value)
 | []=>some []
 | d :: r=>match f d,Aqy f r with
  | some a,some b=>some (a ++ b)
  | _,_=>none
def Akx:Nat->DataW Unit->Option (List Value)
 | 0,_=>none
 | n + 1,d=>match d with
  | .lit (.bool b)=>some [.bool b]
  | .lit (.int k n)=>some [.int k n]
  | .agg ds=>Aqy (Akx n) ds
  | _=>none
def Zw (P:Program):Nat->TypeId->Bool
 | 0,_=>false
 | n + 1,t=>match P.underlying t with
  | some .bool=>true
  | some (.int _)=>true
  | some (.array m e)=>cond (Nat.beq (P.cellsOf t) (m * P.cellsOf e)) (Zw P n e) false
  | _=>false
theorem A3u {α:Type}:∀ (n k:Nat) (cs:List α),cs.length=n * k->cs=((List.range n).map fun i=>(cs.drop (i * k)).take k).flatten
 | 0,k,cs,h=>by
  have:cs=[]:=List.eq_nil_of_length_eq_zero (by simpa using h)
  simp [this]
 | n + 1,k,cs,h=>by
  have hk:(cs.drop k).length=n * k:=by rw [List.length_drop,h,Nat.succ_mul];omega
  have ih:=A3u n k (cs.drop k) hk;rw [List.range_succ_eq_map];simp only [List.map_cons,Nat.zero_mul,List.drop_zero,List.flatten_cons,List.map_map]
  have e:((List.range n).map ((fun i=>(cs.drop (i * k)).take k) ∘ Nat.succ))=(List.range n).map fun i=>((cs.drop k).drop (i * k)).take k:=List.map_congr_left fun i _=>by
   simp only [Function.comp,List.drop_drop,Nat.succ_mul];rw [Nat.add_comm k (i * k)]
  rw [e,<- ih,List.take_append_drop]
theorem Ag6 {f:DataW Unit->Option (List Value)}:∀ {ds:List (DataW Unit)} {l:List Value},Aqy f ds=some l->∃ ls:List (List Value),l=ls.flatten/\ls.length=ds.length/\∀ (i:Nat) (d:DataW Unit),ds[i]?=some d->∃ a,ls[i]?=some a/\f d=some a
 | [],l,h=>⟨[],by simpa [Aqy] using h.symm,rfl,fun i d hd=>by simp at hd⟩
 | d :: r,l,h=>by
  simp only [Aqy] at h;split at h
  ·rename_i a b h1 h2
   obtain ⟨ls,e1,e2,e3⟩:=Ag6 h2;refine ⟨a :: ls,by simpa [e1] using h.symm,by simp [e2],fun i d' hd=>?_⟩
   cases i with
   | zero=>simp at hd;subst hd;exact ⟨a,rfl,h1⟩
   | succ i=>simpa using e3 i d' (by simpa using hd)
  ·cases h
variable {P:Program} {w:World} {base:Nat} {spare:Nat->Bool} {held:Bool}
theorem Aky:∀ (n:Nat) (t:TypeId) (fuel:Nat) (cs:List Value) (d:DataW Unit) (ps:List MemPlace) (l:List Value),Zw P n t=true->DataW.trod (fun _=>()) P w base spare held fuel t cs=some (d,ps)->Akx n d=some l->cs=l
 | 0,_,_,_,_,_,_,h,_,_=>by cases h
 | n + 1,t,fuel,cs,d,ps,l,h,hx,hl=>by
  simp only [Zw] at h;split at h
  ·rename_i hu
   obtain ⟨b,rfl,e⟩:=DataW.trod_bool hu hx;obtain ⟨rfl,_⟩:=Prod.mk.inj e
   simpa [Akx] using hl
  ·rename_i k hu
   obtain ⟨b,rfl,e,_⟩:=DataW.trod_int hu hx;obtain ⟨rfl,_⟩:=Prod.mk.inj e
   simpa [Akx] using hl
  ·rename_i m e hu
   rcases Dt h with ⟨h1,h2⟩ | ⟨_,h⟩
   ·replace h1:=Dw h1
    obtain ⟨xs,f1,rfl,ex,hlen,hn,hel⟩:=DataW.trod_array hu hx;obtain ⟨rfl,_⟩:=Prod.mk.inj ex;simp only [Akx] at hl;obtain ⟨ls,rfl,e2,e3⟩:=Ag6 hl;rw [A3u m (P.cellsOf e) cs (hlen.trans h1)]
    congr 1
    refine List.ext_getElem? fun i=>?_
    by_cases hi:i < m
    ·have h4:=hel i hi
     rw [List.getElem?_eq_getElem (by omega)] at h4
     obtain ⟨a,a1,a2⟩:=e3 i (xs[i]'(by omega)).1 (by simp [show i < xs.length by omega])
     have:=Aky n e f1 _ _ _ a h2 h4 a2;rw [a1,List.getElem?_map,List.getElem?_range hi,Option.map_some,this]
    ·rw [List.getElem?_eq_none (by simp;omega),List.getElem?_eq_none (by rw [e2];simp;omega)]
   ·cases h
  ·cases h
def GOk1 (g:Nat) (l:List Value) (w:World):Prop:=g < w.heap.size/\∀ i (hi:i < l.length),w.cell? ⟨g,i,none⟩=some l[i]
theorem Ag7 {P:Program} {w:World} {name:String} {g:Nat} {cs:Array Value} {fuel:Nat} {t t':TypeId} {d:DataW Unit} {ps:List MemPlace} {l:List Value} {g':Nat} (hg:P.globalNamed name=some g') (hg':P.globalNamed name=some g) (ht:(P.globals[g']?).map (·.type)=some t') (ht':(P.globals[g]?).map (·.type)=some t)
  (hv:w.var? P name=some cs) (hd:DataW.trod (fun _=>()) P w base spare held fuel t cs.toList=some (d,ps)) (hok:Zw P 8 t'=true) (hl:Akx 8 d=some l) (hpos:(match l with | []=>false | _=>true)=true):GOk1 g' l w:=by
 obtain rfl:=Option.some.inj (hg.symm.trans hg')
 obtain rfl:=Option.some.inj (ht.symm.trans ht')
 have e:=Aky 8 t' fuel cs.toList d ps l hok hd hl
 have cell:∀ i (hi:i < l.length),w.cell? ⟨g',i,none⟩=some l[i]:=fun i hi=>by
  rw [World.var?_cell hg hv i,<- Array.getElem?_toList,e,List.getElem?_eq_getElem hi]
 refine ⟨?_,cell⟩
 cases l with
 | nil=>cases hpos
 | cons x r =>
  have:=cell 0 (by simp)
  rcases Nat.lt_or_ge g' w.heap.size with h | h
  ·exact h
  ·simp [World.cell?,Array.getElem?_eq_none h] at this
def Cb:List (Nat × List AV)->Nat->Option (List AV)
 | [],_=>none
 | x :: r,g=>cond (Nat.beq x.1 g) (some x.2) (Cb r g)
def GsOk (w:World):List (Nat × List AV)->Prop
 | []=>True
 | x :: r=>(∃ l,x.2=l.map ofS/\GOk1 x.1 l w)/\GsOk w r
theorem A3v:∀ {gs:List (Nat × List AV)} {w:World},GsOk w gs->GOk (Cb gs) w
 | [],w,_=>fun g cells h=>by cases h
 | x :: r,w,h=>fun g cells hg=>by
  simp only [Cb] at hg
  rcases (show (Nat.beq x.1 g=true/\some x.2=some cells)\/(Nat.beq x.1 g=false/\Cb r g=some cells) by cases hb:Nat.beq x.1 g <;> rw [hb] at hg <;> simp_all) with ⟨h1,h2⟩ | ⟨h1,h2⟩
  ·obtain ⟨⟨l,e,k1,k2⟩,_⟩:=h
   have hx:=Dw h1;subst hx;obtain rfl:=Option.some.inj h2;rw [e];refine ⟨k1,fun i=>l.getD i undef,fun i hi=>?_,fun i hi w' B own ω nx=>?_⟩
   ·have hi':i < l.length:=by simpa using hi
    show _=some (l.getD i undef);rw [k2 i hi',List.getD_eq_getElem?_getD,List.getElem?_eq_getElem hi',Option.getD_some]
   ·have hi':i < l.length:=by simpa using hi
    show Rep w' B own ω nx _ (l.getD i undef);rw [List.getElem_map,List.getD_eq_getElem?_getD,List.getElem?_eq_getElem hi',Option.getD_some];exact Vb _ _ _ _ _ _
  ·exact A3v h.2 g cells h2
end Go.Bas
end
section
namespace Go.Bas
noncomputable section
open Go.RowKit
inductive Tr where
 | leaf (l:List AV)
 | bad
 | br (b:Bool) (x y:Tr)
section
variable {Ω:Type}
def Tr.ev (t:Tr) (k:List AV->Ω) (z:Ω):Ω:=Tr.rec (motive:=fun _=>Ω) k z (fun b _ _ x y=>cond b x y) t
theorem Tr.ev_br (b:Bool) (x y:Tr) (k:List AV->Ω) (z:Ω):(Tr.br b x y).ev k z=cond b (x.ev k z) (y.ev k z):=rfl
def Aqz:List CK->List AV->Bool
 | [],[]=>true
 | .b :: ks,.bool _ :: r=>Aqz ks r
 | .i k :: ks,.int k' _ :: r=>G9 k k'&&Aqz ks r
 | _,_=>false
def Tr.fits (ks:List CK):Tr->Bool
 | .leaf l=>Aqz ks l
 | .bad=>true
 | .br _ x y=>x.fits ks&&y.fits ks
def Tr.int (t:Tr) (j:Nat):Int:=t.ev (fun l=>(lget l j).toI) 0
def Tr.bool (t:Tr) (j:Nat):Bool:=t.ev (fun l=>(lget l j).toB) false
def Tr.ok (t:Tr):Bool:=t.ev (fun _=>true) false
def Tr.mgA (t:Tr):List CK->Nat->List AV
 | [],_=>[]
 | .b :: ks,j=>.bool (t.bool j) :: t.mgA ks (j + 1)
 | .i k :: ks,j=>.int k (t.int j) :: t.mgA ks (j + 1)
 | _ :: ks,j=>.any :: t.mgA ks (j + 1)
def Tr.mg (t:Tr) (ks:List CK):List AV:=t.mgA ks 0
theorem Azj (l:List AV):∀ (i j:Nat),lget (l.drop i) j=lget l (i + j):=fun i j=>by
 rw [Ja,Ja,List.getD_eq_getElem?_getD,List.getD_eq_getElem?_getD,List.getElem?_drop]
theorem Ag8 (l:List AV):∀ (ks:List CK) (j:Nat),Aqz ks (l.drop j)=true->(Tr.leaf l).mgA ks j=l.drop j
 | [],j,h=>by
  cases hd:l.drop j with
  | nil=>rfl
  | cons a r=>rw [hd] at h;cases h
 | c :: ks,j,h=>by
  cases hd:l.drop j with
  | nil=>rw [hd] at h;cases c <;> cases h
  | cons a r =>
   have e0:lget l j=a:=by
    have:=Azj l j 0;rw [hd] at this;exact this.symm
   have er:l.drop (j + 1)=r:=by
    have:(l.drop j).drop 1=l.drop (j + 1):=by rw [List.drop_drop]
    rw [<- this,hd];rfl
   rw [hd] at h;cases c with
   | b =>
    cases a <;> try (cases h)
    rename_i b;have ih:=Ag8 l ks (j + 1) (by rw [er];exact h)
    show AV.bool (lget l j).toB :: (Tr.leaf l).mgA ks (j + 1)=_;rw [ih,e0,er];rfl
   | i k =>
    cases a <;> try (cases h)
    rename_i k' n;simp only [Aqz,Bae] at h;have hk:=kindEq_eq h.1;subst hk;have ih:=Ag8 l ks (j + 1) (by rw [er];exact h.2)
    show AV.int k (lget l j).toI :: (Tr.leaf l).mgA ks (j + 1)=_;rw [ih,e0,er];rfl
   | s=>cases h
   | o=>cases h
theorem Xz (x y:Tr):∀ (ks:List CK) (j:Nat),(Tr.br true x y).mgA ks j=x.mgA ks j
 | [],_=>rfl
 | .b :: ks,j=>by show _ :: (Tr.br true x y).mgA ks (j + 1)=_;rw [Xz x y ks];rfl
 | .i k :: ks,j=>by show _ :: (Tr.br true x y).mgA ks (j + 1)=_;rw [Xz x y ks];rfl
 | .s :: ks,j=>by show _ :: (Tr.br true x y).mgA ks (j + 1)=_;rw [Xz x y ks];rfl
 | .o :: ks,j=>by show _ :: (Tr.br true x y).mgA ks (j + 1)=_;rw [Xz x y ks];rfl
theorem Uw (x y:Tr):∀ (ks:List CK) (j:Nat),(Tr.br false x y).mgA ks j=y.mgA ks j
 | [],_=>rfl
 | .b :: ks,j=>by show _ :: (Tr.br false x y).mgA ks (j + 1)=_;rw [Uw x y ks];rfl
 | .i k :: ks,j=>by show _ :: (Tr.br false x y).mgA ks (j + 1)=_;rw [Uw x y ks];rfl
 | .s :: ks,j=>by show _ :: (Tr.br false x y).mgA ks (j + 1)=_;rw [Uw x y ks];rfl
 | .o :: ks,j=>by show _ :: (Tr.br false x y).mgA ks (j + 1)=_;rw [Uw x y ks];rfl
theorem Tr.merge {ks:List CK} {k:List AV->Ω} {z:Ω}:∀ {t:Tr},t.fits ks=true->t.ok=true->t.ev k z=k (t.mg ks)
 | .leaf l,hf,_=>by
  have h:=Ag8 l ks 0 hf;show k l=k ((Tr.leaf l).mgA ks 0);rw [h];rfl
 | .bad,_,h=>by cases h
 | .br b x y,hf,h=>by
  simp only [Tr.fits,Bae] at hf;cases b with
  | true =>
   show x.ev k z=k ((Tr.br true x y).mgA ks 0);rw [Xz];exact Tr.merge hf.1 h
  | false =>
   show y.ev k z=k ((Tr.br false x y).mgA ks 0);rw [Uw];exact Tr.merge hf.2 h
def Tr.eqv (t u:Tr):Prop:=∀ (Ω:Type) (k:List AV->Ω) (z:Ω),t.ev k z=u.ev k z
theorem Tr.eqv.int {t u:Tr} (h:t.eqv u) (j:Nat):t.int j=u.int j:=h Int _ 0
theorem Tr.eqv.bool {t u:Tr} (h:t.eqv u) (j:Nat):t.bool j=u.bool j:=h Bool _ false
theorem Tr.eqv.ok {t u:Tr} (h:t.eqv u):t.ok=u.ok:=h Bool _ false
theorem Tr.eqv.mgA {t u:Tr} (h:t.eqv u):∀ (ks:List CK) (j:Nat),t.mgA ks j=u.mgA ks j
 | [],_=>rfl
 | .b :: ks,j=>by show AV.bool _ :: _=AV.bool _ :: _;rw [h.bool,h.mgA ks]
 | .i k :: ks,j=>by show AV.int k _ :: _=AV.int k _ :: _;rw [h.int,h.mgA ks]
 | .s :: ks,j=>by show AV.any :: _=AV.any :: _;rw [h.mgA ks]
 | .o :: ks,j=>by show AV.any :: _=AV.any :: _;rw [h.mgA ks]
theorem Tr.eqv.mg {t u:Tr} (h:t.eqv u) (ks:List CK):t.mg ks=u.mg ks:=h.mgA ks 0
end
end
end Go.Bas
end
section
namespace Go.Bas
open Go.RowKit
theorem condI {b x y:Bool} (h1:b=true->x=true) (h2:b=false->y=true):cond b x y=true:=by cases b <;> simp_all
theorem andI {b x:Bool} (h1:b=true) (h2:x=true):(b&&x)=true:=by simp_all
structure Conf where
 (ob ins thr kind str bits cap node batch chunk limit most:Int)
def Conf.av (c:Conf):AV:=.agg [.int .u8 c.ob,.int .i64 c.ins,.int .i64 c.thr,.int .u8 c.kind,.int .i64 c.str,.int .i64 c.bits,.int .i64 c.cap,.int .i64 c.node,.int .i64 c.batch,.int .i64 c.chunk,.int .u64 c.limit,.int .u64 c.most]
def Conf.cells (c:Conf):List AV:=[.int .u8 c.ob,.int .i64 c.ins,.int .i64 c.thr,.int .u8 c.kind,.int .i64 c.str,.int .i64 c.bits,.int .i64 c.cap,.int .i64 c.node,.int .i64 c.batch,.int .i64 c.chunk,.int .u64 c.limit,.int .u64 c.most]
def X0:AV->Option Conf
 | .agg [.int .u8 ob,.int .i64 ins,.int .i64 thr,.int .u8 kind,.int .i64 str,.int .i64 bits,.int .i64 cap,.int .i64 node,.int .i64 batch,.int .i64 chunk,.int .u64 limit,.int .u64 most]=>some ⟨ob,ins,thr,kind,str,bits,cap,node,batch,chunk,limit,most⟩
 | _=>none
theorem L8 {a:AV} {c:Conf} (h:X0 a=some c):a=c.av:=by
 unfold X0 at h
 split at h
 ·simp only [Option.some.injEq] at h
  subst h;rfl
 ·cases h
structure Stg where
 (batch number mask frm:Int)
def Stg.av (s:Stg):AV:=.agg [.int .u64 s.batch,.int .i64 s.number,.int .u64 s.mask,.int .i64 s.frm]
def A3w:AV->Option Stg
 | .agg [.int .u64 b,.int .i64 n,.int .u64 m,.int .i64 f]=>some ⟨b,n,m,f⟩
 | _=>none
theorem At4 {a:AV} {c:Stg} (h:A3w a=some c):a=c.av:=by
 unfold A3w at h
 split at h
 ·simp only [Option.some.injEq] at h
  subst h;rfl
 ·cases h
structure Cel where
 (tag a b c:Int)
def Cel.av (l:Cel):AV:=.agg [.int .u64 l.tag,.int .u64 l.a,.int .u64 l.b,.int .u64 l.c]
def Adg (g:Conf->AV):List AV->Option (Bool × AV)
 | [a]=>match X0 a with
  | some c=>some (true,g c)
  | none=>none
 | _=>none
def Amm {β:Type} (r:AV->Option β) (p:Conf->β->Bool) (g:Conf->β->AV):List AV->Option (Bool × AV)
 | [a,b]=>match X0 a,r b with
  | some c,some s=>some (p c s,g c s)
  | _,_=>none
 | _=>none
section
variable {P:Program} {G:Nat->Option (List AV)} {f:FuncId}
theorem Vr {g:Conf->AV} (h:∀ c:Conf,ACalls P G f [c.av] (fun v=>v=g c)):Bc P G (f,Adg g):=fun args r hr=>by
 simp only at hr
 unfold Adg at hr
 split at hr
 ·split at hr
  ·rename_i c hc
   cases L8 hc;simp only [Option.some.injEq,Prod.mk.injEq,true_and] at hr;subst hr;exact h c
  ·cases hr
 ·cases hr
theorem Aq0 {β:Type} {rd:AV->Option β} {av:β->AV} (hrd:∀ a s,rd a=some s->a=av s) {p:Conf->β->Bool} {g:Conf->β->AV} (h:∀ (c:Conf) (s:β),p c s=true->ACalls P G f [c.av,av s] (fun v=>v=g c s)):Bc P G (f,Amm rd p g):=fun args r hr=>by
 simp only at hr
 unfold Amm at hr
 split at hr
 ·split at hr
  ·rename_i c s hc hs
   cases L8 hc;cases hrd _ _ hs;simp only [Option.some.injEq,Prod.mk.injEq] at hr;obtain ⟨hp,hr⟩:=hr;subst hr;exact h c s hp
  ·cases hr
 ·cases hr
end
def Jm (is:Bool) (n l m:Int):Bool:=cond is (decide (n>=l)&&decide (n<=m)) (n == 0)
theorem Aek {b:Bool} {n l m:Int}:Jm b n l m=true ↔ (b=true/\l<=n/\n<=m)\/(b=false/\n=0):=by cases b <;> simp [Jm]
theorem Ab1 {b:Bool} {n l m:Int}:Jm b n l m=false ↔ (b=true/\(n < l\/m < n))\/(b=false/\¬ n=0):=by
 cases b
 ·simp [Jm]
 ·simp [Jm];omega
def Awp:List AV->Option (Bool × AV)
 | [.bool b,.int .i64 n,.int .i64 l,.int .i64 m]=>some (true,.bool (Jm b n l m))
 | _=>none
def Ag9 (n:Int):Bool:=decide (n>=2)&&decide (n<=4)
theorem Aha {n:Int}:Ag9 n=true ↔ 2<=n/\n<=4:=by simp [Ag9]
theorem Ael {n:Int}:Ag9 n=false ↔ n < 2\/4 < n:=by simp [Ag9];omega
def Bia:List AV->Option (Bool × AV)
 | [.int .i64 n]=>some (true,.bool (Ag9 n))
 | _=>none
def Conf.OkP (c:Conf):Prop:=1<=c.ob/\c.ob<=4/\(c.kind=1/\c.str=0/\c.most=0\/c.kind=2/\1<=c.str/\c.str<=4/\1<=c.most/\c.most<=4611686018427387904)/\2<=c.ins/\c.ins<=4/\1<=c.thr/\c.thr<=16 /\
 (c.ob=1/\1<=c.bits/\c.bits<=6\/¬ c.ob=1/\c.bits=0)/\1<=c.cap/\c.cap<=32/\(c.ob=2/\2<=c.node/\c.node<=4/\1<=c.chunk/\c.chunk<=8\/¬ c.ob=2/\c.node=0/\c.chunk=0) /\
 1<=c.batch/\c.batch<=16/\131072<=c.limit/\c.limit<=4611686018427387904
instance (c:Conf):Decidable c.OkP:=by unfold Conf.OkP;infer_instance
def Conf.ok (c:Conf):Bool:=decide c.OkP
theorem Hy {c:Conf}:c.ok=true ↔ c.OkP:=decide_eq_true_iff
def Ahb (c:Conf):Int:=IntKind.wrap .i64 (c.ins + 5)
def Afy (c:Conf):Int:=IntKind.wrap .u64 (c.limit.tdiv 65536)
def lastS (c:Conf):Int:=IntKind.wrap .u64 (IntKind.wrap .u64 (c.limit.tdiv 65536) - 1)
def mayP (c:Conf) (s:Stg):Bool:=decide (1<=s.number/\s.number<=Ahb c/\s.batch < Afy c/\ishr .u64 s.mask c.thr=0/\0<=s.frm/\s.frm < c.thr/\(s.batch=0/\s.number=Ahb c\/¬ s.batch=0/\¬ s.mask=0))
theorem Akz {c:Conf} {s:Stg}:mayP c s=true ↔ (1<=s.number/\s.number<=Ahb c/\s.batch < Afy c/\ishr .u64 s.mask c.thr=0/\0<=s.frm/\s.frm < c.thr/\(s.batch=0/\s.number=Ahb c\/¬ s.batch=0/\¬ s.mask=0)):=decide_eq_true_iff
def Az (c:Conf):Int:=cond c.ok 0 40
end Go.Bas
namespace Go.Bas
def zif (e x:Int):Int:=cond (decide (e=0)) x 0
end Go.Bas
end
section
namespace Go.Bas
open Go.RowKit
def Tr.total:Tr->Bool
 | .leaf _=>true
 | .bad=>false
 | .br _ x y=>x.total&&y.total
theorem Tr.ok_of_total:∀ {t:Tr},t.total=true->t.ok=true
 | .leaf _,_=>rfl
 | .bad,h=>by cases h
 | .br b x y,h=>by
  simp only [Tr.total,Bae] at h;cases b
  ·exact Tr.ok_of_total (t:=y) h.2
  ·exact Tr.ok_of_total (t:=x) h.1
structure Rd (α:Type) where
 rd:AV->Option α
 av:α->AV
 ok:∀ a x,rd a=some x->a=av x
def rI (k:IntKind):Rd Int:=⟨fun a=>match a with
 | .int k' n=>cond (G9 k' k) (some n) none
 | _=>none,fun n=>.int k n,fun a x h=>by
  split at h
  ·rename_i k' n
   cases hk:G9 k' k with
   | true =>
    rw [hk] at h;cases kindEq_eq hk;cases h;rfl
   | false=>rw [hk] at h;cases h
  ·cases h⟩
def Dp:Rd Conf:=⟨X0,Conf.av,fun _ _=>L8⟩
section
variable {α β γ δ ε:Type}
def on1 (a:Rd α) (p:α->Bool) (g:α->AV):List AV->Option (Bool × AV)
 | [x]=>match a.rd x with
  | some x=>some (p x,g x)
  | _=>none
 | _=>none
def on2 (a:Rd α) (b:Rd β) (p:α->β->Bool) (g:α->β->AV):List AV->Option (Bool × AV)
 | [x,y]=>match a.rd x,b.rd y with
  | some x,some y=>some (p x y,g x y)
  | _,_=>none
 | _=>none
def on3 (a:Rd α) (b:Rd β) (c:Rd γ) (p:α->β->γ->Bool) (g:α->β->γ->AV):List AV->Option (Bool × AV)
 | [x,y,z]=>match a.rd x,b.rd y,c.rd z with
  | some x,some y,some z=>some (p x y z,g x y z)
  | _,_,_=>none
 | _=>none
def on4 (a:Rd α) (b:Rd β) (c:Rd γ) (d:Rd δ) (p:α->β->γ->δ->Bool) (g:α->β->γ->δ->AV):List AV->Option (Bool × AV)
 | [x,y,z,u]=>match a.rd x,b.rd y,c.rd z,d.rd u with
  | some x,some y,some z,some u=>some (p x y z u,g x y z u)
  | _,_,_,_=>none
 | _=>none
variable {P:Program} {G:Nat->Option (List AV)} {f:FuncId}
theorem Fg {a:Rd α} {p:α->Bool} {g:α->AV} (h:∀ x,p x=true->ACalls P G f [a.av x] (fun v=>v=g x)):Bc P G (f,on1 a p g):=fun args r hr=>by
 simp only at hr
 unfold on1 at hr
 split at hr
 ·split at hr
  ·rename_i x hx
   cases a.ok _ _ hx;simp only [Option.some.injEq,Prod.mk.injEq] at hr;obtain ⟨hp,rfl⟩:=hr;exact h x hp
  ·cases hr
 ·cases hr
theorem Cm {a:Rd α} {b:Rd β} {p:α->β->Bool} {g:α->β->AV} (h:∀ x y,p x y=true->ACalls P G f [a.av x,b.av y] (fun v=>v=g x y)):Bc P G (f,on2 a b p g):=fun args r hr=>by
 simp only at hr
 unfold on2 at hr
 split at hr
 ·split at hr
  ·rename_i x y hx hy
   cases a.ok _ _ hx;cases b.ok _ _ hy;simp only [Option.some.injEq,Prod.mk.injEq] at hr;obtain ⟨hp,rfl⟩:=hr;exact h x y hp
  ·cases hr
 ·cases hr
theorem Hz {a:Rd α} {b:Rd β} {c:Rd γ} {p:α->β->γ->Bool} {g:α->β->γ->AV} (h:∀ x y z,p x y z=true->ACalls P G f [a.av x,b.av y,c.av z] (fun v=>v=g x y z)):Bc P G (f,on3 a b c p g):=fun args r hr=>by
 simp only at hr
 unfold on3 at hr
 split at hr
 ·split at hr
  ·rename_i x y z hx hy hz
   cases a.ok _ _ hx;cases b.ok _ _ hy;cases c.ok _ _ hz;simp only [Option.some.injEq,Prod.mk.injEq] at hr;obtain ⟨hp,rfl⟩:=hr;exact h x y z hp
  ·cases hr
 ·cases hr
theorem Awq {a:Rd α} {b:Rd β} {c:Rd γ} {d:Rd δ} {p:α->β->γ->δ->Bool} {g:α->β->γ->δ->AV} (h:∀ x y z u,p x y z u=true->ACalls P G f [a.av x,b.av y,c.av z,d.av u] (fun v=>v=g x y z u)):Bc P G (f,on4 a b c d p g):=fun args r hr=>by
 simp only at hr
 unfold on4 at hr
 split at hr
 ·split at hr
  ·rename_i x y z u hx hy hz hu
   cases a.ok _ _ hx;cases b.ok _ _ hy;cases c.ok _ _ hz;cases d.ok _ _ hu;simp only [Option.some.injEq,Prod.mk.injEq] at hr;obtain ⟨hp,rfl⟩:=hr;exact h x y z u hp
  ·cases hr
 ·cases hr
end
structure Opr where
 (kind a b c:Int)
def Opr.av (o:Opr):AV:=.agg [.int .u8 o.kind,.int .u32 o.a,.int .u32 o.b,.int .u32 o.c]
def A3x:AV->Option Opr
 | .agg [.int .u8 k,.int .u32 a,.int .u32 b,.int .u32 c]=>some ⟨k,a,b,c⟩
 | _=>none
theorem At5 {a:AV} {c:Opr} (h:A3x a=some c):a=c.av:=by
 unfold A3x at h
 split at h
 ·simp only [Option.some.injEq] at h
  subst h;rfl
 ·cases h
def Ab2:Rd Opr:=⟨A3x,Opr.av,fun _ _=>At5⟩
structure Plc where
 (part a b:Int)
def Plc.av (o:Plc):AV:=.agg [.int .u8 o.part,.int .i64 o.a,.int .i64 o.b]
def A3y:AV->Option Plc
 | .agg [.int .u8 k,.int .i64 a,.int .i64 b]=>some ⟨k,a,b⟩
 | _=>none
theorem At6 {a:AV} {c:Plc} (h:A3y a=some c):a=c.av:=by
 unfold A3y at h
 split at h
 ·simp only [Option.some.injEq] at h
  subst h;rfl
 ·cases h
def Bab:Rd Plc:=⟨A3y,Plc.av,fun _ _=>At6⟩
structure Frm where
 (kind a b pc i j n p h x y:Int)
def Frm.cells (f:Frm):List AV:=[.int .u8 f.kind,.int .u32 f.a,.int .u32 f.b,.int .u8 f.pc,.int .u8 f.i,.int .u8 f.j,.int .u8 f.n,.int .u8 f.p,.int .u8 f.h,.int .u32 f.x,.int .u32 f.y]
def Frm.av (f:Frm):AV:=.agg f.cells
def A3z:AV->Option Frm
 | .agg [.int .u8 kind,.int .u32 a,.int .u32 b,.int .u8 pc,.int .u8 i,.int .u8 j,.int .u8 n,.int .u8 p,.int .u8 h,.int .u32 x,.int .u32 y]=>some ⟨kind,a,b,pc,i,j,n,p,h,x,y⟩
 | _=>none
theorem At7 {a:AV} {c:Frm} (h:A3z a=some c):a=c.av:=by
 unfold A3z at h
 split at h
 ·simp only [Option.some.injEq] at h
  subst h;rfl
 ·cases h
def Ji:Rd Frm:=⟨A3z,Frm.av,fun _ _=>At7⟩
structure TRun where
 (f:Frm) (c:Conf)
def TRun.av (r:TRun):AV:=.iptr (r.f.cells ++ r.c.cells) 0
def At8:AV->Option TRun
 | .iptr [.int .u8 kind,.int .u32 a,.int .u32 b,.int .u8 pc,.int .u8 i,.int .u8 j,.int .u8 n,.int .u8 p,.int .u8 h,.int .u32 x,.int .u32 y,
  .int .u8 ob,.int .i64 ins,.int .i64 thr,.int .u8 ckind,.int .i64 str,.int .i64 bits,.int .i64 cap,.int .i64 node,.int .i64 batch,.int .i64 chunk,.int .u64 limit,.int .u64 most] 0=>some ⟨⟨kind,a,b,pc,i,j,n,p,h,x,y⟩,⟨ob,ins,thr,ckind,str,bits,cap,node,batch,chunk,limit,most⟩⟩
 | _=>none
theorem Aq1 {a:AV} {c:TRun} (h:At8 a=some c):a=c.av:=by
 unfold At8 at h
 split at h
 ·simp only [Option.some.injEq] at h
  subst h;rfl
 ·cases h
def A30:Rd TRun:=⟨At8,TRun.av,fun _ _=>Aq1⟩
structure Dsc where
 (tag k seq kind a b pc i j n p h x y:Int)
def Dsc.frm (d:Dsc):Frm:=⟨d.kind,d.a,d.b,d.pc,d.i,d.j,d.n,d.p,d.h,d.x,d.y⟩
def Dsc.av (f:Dsc):AV:=.agg [.int .u64 f.tag,.int .u8 f.k,.int .u8 f.seq,.int .u8 f.kind,.int .u32 f.a,.int .u32 f.b,.int .u8 f.pc,.int .u8 f.i,.int .u8 f.j,.int .u8 f.n,.int .u8 f.p,.int .u8 f.h,.int .u32 f.x,.int .u32 f.y]
end Go.Bas
end
section
namespace Go.Bas
open Go.RowKit
structure Lok where
 (tag:Int) (at':Int) (sum:Int)
def Lok.av (l:Lok):AV:=.agg [.int .u64 l.tag,.int .i64 l.at',.int .u64 l.sum]
structure Rdr where
 (pc ver inst batch:Int) (f:Frm) (code v:Int) (us:List AV) (m:Nat) (given:Int)
def Rdr.av (r:Rdr):AV:=.agg ([.int .u8 r.pc,.int .i64 r.ver,.int .i64 r.inst,.int .u64 r.batch] ++ r.f.cells ++ [.int .i64 r.code,.int .u32 r.v,.lst r.us r.m,.int .i64 r.given])
def A31:AV->Option Rdr
 | .agg [.int .u8 pc0,.int .i64 ver,.int .i64 inst,.int .u64 batch,.int .u8 kind,.int .u32 a,.int .u32 b,.int .u8 pc,.int .u8 i,.int .u8 j,.int .u8 n,.int .u8 p,.int .u8 h,.int .u32 x,.int .u32 y,.int .i64 code,.int .u32 v,.lst us m,.int .i64 given] =>
  some ⟨pc0,ver,inst,batch,⟨kind,a,b,pc,i,j,n,p,h,x,y⟩,code,v,us,m,given⟩
 | _=>none
theorem At9 {a:AV} {c:Rdr} (h:A31 a=some c):a=c.av:=by
 unfold A31 at h
 split at h
 ·simp only [Option.some.injEq] at h
  subst h;rfl
 ·cases h
def rRdr:Rd Rdr:=⟨A31,Rdr.av,fun _ _=>At9⟩
end Go.Bas
end
section
namespace Go.Bas
open Go.RowKit
structure Wtr where
 (pc seq:Int) (o:Opr) (told:Bool) (code v:Int) (us:List AV) (m:Nat) (batch:Int) (ctl dsc see:Cel) (ps:List AV) (q:Nat) (look:Lok)
def Wtr.cells (w:Wtr):List AV:=[.int .u8 w.pc,.int .u64 w.seq,.int .u8 w.o.kind,.int .u32 w.o.a,.int .u32 w.o.b,.int .u32 w.o.c,.bool w.told,.int .i64 w.code,.int .u32 w.v,.lst w.us w.m,.int .u64 w.batch,
 .int .u64 w.ctl.tag,.int .u64 w.ctl.a,.int .u64 w.ctl.b,.int .u64 w.ctl.c,.int .u64 w.dsc.tag,.int .u64 w.dsc.a,.int .u64 w.dsc.b,.int .u64 w.dsc.c,.int .u64 w.see.tag,.int .u64 w.see.a,.int .u64 w.see.b,.int .u64 w.see.c,.lst w.ps w.q,.int .u64 w.look.tag,.int .i64 w.look.at',.int .u64 w.look.sum]
def Wtr.av (w:Wtr):AV:=.agg w.cells
structure WRn where
 (w:Wtr) (c:Conf) (t:Int) (s:Stg) (jk jn:Int)
def WRn.av (r:WRn):AV:=.iptr (r.w.cells ++ r.c.cells ++ [.int .i64 r.t,.int .u64 r.s.batch,.int .i64 r.s.number,.int .u64 r.s.mask,.int .i64 r.s.frm,.int .u8 r.jk,.int .i64 r.jn]) 0
end Go.Bas
end
section
namespace Go.Bas
open Go.RowKit
inductive Wk:AV->AV->Prop
 | refl (v:AV):Wk v v
 | any (v:AV):Wk v .any
 | nils:Wk .nils (.lst [] 0)
 | ns:Wk .ns (.lst [] 0)
 | es:Wk .es (.lst [] 0)
 | agg (cs ds:List AV):cs.length=ds.length->(∀ i (h:i < cs.length) (h':i < ds.length),Wk cs[i] ds[i])->Wk (.agg cs) (.agg ds)
 | tup (cs ds:List AV):cs.length=ds.length->(∀ i (h:i < cs.length) (h':i < ds.length),Wk cs[i] ds[i])->Wk (.tup cs) (.tup ds)
def WkL (cs ds:List AV):Prop:=cs.length=ds.length/\∀ i (h:i < cs.length) (h':i < ds.length),Wk cs[i] ds[i]
theorem WkL.nil:WkL [] []:=⟨rfl,fun i h=>absurd h (Nat.not_lt_zero _)⟩
theorem WkL.cons {a b:AV} {cs ds:List AV} (h:Wk a b) (hs:WkL cs ds):WkL (a :: cs) (b :: ds):=by
 refine ⟨by simp [hs.1],fun i hi hi'=>?_⟩
 cases i with
 | zero=>exact h
 | succ i=>exact hs.2 i (by simpa using hi) (by simpa using hi')
theorem WkL.refl (cs:List AV):WkL cs cs:=⟨rfl,fun i h h'=>Wk.refl _⟩
theorem WkL.append {a b c d:List AV} (h:WkL a b) (h2:WkL c d):WkL (a ++ c) (b ++ d):=by
 refine ⟨by simp [h.1,h2.1],fun i hi hi'=>?_⟩
 by_cases hl:i < a.length
 ·have hl':i < b.length:=by rw [<- h.1];exact hl
  rw [List.getElem_append_left hl,List.getElem_append_left hl'];exact h.2 i hl hl'
 ·have hl':b.length<=i:=by rw [<- h.1];omega
  rw [List.getElem_append_right (by omega),List.getElem_append_right hl']
  have e:i - a.length=i - b.length:=by rw [h.1]
  have hc:i - a.length < c.length:=by simp at hi;omega
  have hd:i - b.length < d.length:=by rw [<- e,<- h2.1];exact hc
  have:=h2.2 (i - a.length) hc (by rw [e];exact hd)
  simpa only [e] using this
theorem Wk.ofAgg {cs ds:List AV} (h:WkL cs ds):Wk (.agg cs) (.agg ds):=.agg _ _ h.1 h.2
theorem Rep.wk {w:World} {B own:Nat->Prop} {ω:Nat->Option Nat} {nx:Nat} {v v':AV} (h:Wk v v'):∀ {u:Value},Rep w B own ω nx v u->Rep w B own ω nx v' u:=by
 induction h with
 | refl v=>exact fun h=>h
 | any v=>exact fun _=>.any _ _
 | nils=>intro u h;cases h;exact .lstn _ _ _
 | ns=>intro u h;cases h;exact .lstn _ _ _
 | es=>intro u h;cases h;exact .lstn _ _ _
 | agg cs ds hl hw ih =>
  intro u h;cases h with
  | agg _ _ vs hs hr=>exact .agg _ _ _ (by rw [<- hl];exact hs) (fun i hi=>ih i (by rw [hl];exact hi) hi (hr i (by rw [hl];exact hi)))
 | tup cs ds hl hw ih =>
  intro u h;cases h with
  | tup _ _ vs hs hr=>exact .tup _ _ _ (by rw [<- hl];exact hs) (fun i hi=>ih i (by rw [hl];exact hi) hi (hr i (by rw [hl];exact hi)))
theorem RepL.wkW {w:World} {B own:Nat->Prop} {ω:Nat->Option Nat} {nx:Nat} {cs ds:List AV} {us:Array Value} (h:WkL cs ds) (hr:RepL w B own ω nx cs us):RepL w B own ω nx ds us :=
 ⟨by rw [<- h.1];exact hr.1,fun i hi=>(hr.2 i (by rw [h.1];exact hi)).wk (h.2 i (by rw [h.1];exact hi) hi)⟩
theorem ACalls.wk {P:Program} {G:Nat->Option (List AV)} {f:FuncId} {args args':List AV} {r r':AV} (h:ACalls P G f args' (fun v=>v=r)) (ha:WkL args args') (hr:Wk r r'):ACalls P G f args (fun v=>v=r') :=
 fun w us bad hg hb hl hu=>(h w us bad hg hb hl (hu.wkW ha)).mono fun e w' hh=>by
  obtain ⟨v,u,he,rfl,hs,hp⟩:=hh;exact ⟨r',u,he,rfl,hs,hp.wk hr⟩
inductive Sd where
 | nil
 | ns
 | cons (a:AV) (r:List AV) (m:Nat)
def Sd.av:Sd->AV
 | .nil=>.nils
 | .ns=>.ns
 | .cons a r m=>.lst (a :: r) m
def Sd.list:Sd->List AV
 | .nil=>[]
 | .ns=>[]
 | .cons a r _=>a :: r
def Sd.len:Sd->Nat
 | .nil=>0
 | .ns=>0
 | .cons _ _ m=>m
theorem Sd.wk (s:Sd):Wk s.av (.lst s.list s.len):=by
 cases s
 ·exact .nils
 ·exact .ns
 ·exact .refl _
def Rdr.cellsW (r:Rdr) (s:AV):List AV:=[.int .u8 r.pc,.int .i64 r.ver,.int .i64 r.inst,.int .u64 r.batch] ++ r.f.cells ++ [.int .i64 r.code,.int .u32 r.v,s,.int .i64 r.given]
def Wtr.cellsW (w:Wtr) (s t:AV):List AV:=[.int .u8 w.pc,.int .u64 w.seq,.int .u8 w.o.kind,.int .u32 w.o.a,.int .u32 w.o.b,.int .u32 w.o.c,.bool w.told,.int .i64 w.code,.int .u32 w.v,s,.int .u64 w.batch,
 .int .u64 w.ctl.tag,.int .u64 w.ctl.a,.int .u64 w.ctl.b,.int .u64 w.ctl.c,.int .u64 w.dsc.tag,.int .u64 w.dsc.a,.int .u64 w.dsc.b,.int .u64 w.dsc.c,.int .u64 w.see.tag,.int .u64 w.see.a,.int .u64 w.see.b,.int .u64 w.see.c,t,.int .u64 w.look.tag,.int .i64 w.look.at',.int .u64 w.look.sum]
structure Thr where
 (nx run:Int) (r:Rdr) (w:Wtr) (seq:Int) (out:Bool) (s1 s2 s3:Sd)
def Thr.cellsW (t:Thr) (a b c:AV):List AV:=[.int .i64 t.nx,.int .u8 t.run] ++ (t.r.cellsW a ++ (t.w.cellsW b c ++ [.int .u64 t.seq,.bool t.out]))
def Thr.av (t:Thr):AV:=.agg (t.cellsW t.s1.av t.s2.av t.s3.av)
def Thr.avL (t:Thr):AV:=.agg (t.cellsW (.lst t.s1.list t.s1.len) (.lst t.s2.list t.s2.len) (.lst t.s3.list t.s3.len))
theorem Thr.wk (t:Thr):Wk t.av t.avL:=by
 refine Wk.ofAgg ?_
 unfold Thr.cellsW Rdr.cellsW Wtr.cellsW
 refine .append (.refl _) (.append (.append (.refl _) (.cons (.refl _) (.cons (.refl _) (.cons t.s1.wk (.refl _))))) (.append ?_ (.refl _)))
 iterate 9 refine .cons (.refl _) ?_
 refine .cons t.s2.wk ?_
 iterate 13 refine .cons (.refl _) ?_
 exact .cons t.s3.wk (.refl _)
end Go.Bas
end
section
namespace Go.Bas
open Go.RowKit
structure ThL where
 (nx run:Int) (r:Rdr) (w:Wtr) (seq:Int) (out:Bool)
def ThL.av (t:ThL):AV:=.agg ([.int .i64 t.nx,.int .u8 t.run] ++ (t.r.cellsW (.lst t.r.us t.r.m) ++ (t.w.cells ++ [.int .u64 t.seq,.bool t.out])))
end Go.Bas
end
section
namespace Go.Bas
open Go.RowKit
def AV.isSd:AV->Bool
 | .nils=>true
 | .ns=>true
 | .lst (_ :: _) _=>true
 | _=>false
def AV.sdL:AV->List AV
 | .lst (a :: r) _=>a :: r
 | _=>[]
def AV.sdN:AV->Nat
 | .lst (_ :: _) m=>m
 | _=>0
theorem Amn {v:AV} (h:v.isSd=true):Wk v (.lst v.sdL v.sdN):=by
 unfold AV.isSd at h
 split at h
 ·exact .nils
 ·exact .ns
 ·exact .refl _
 ·cases h
structure Thx where
 (nx run:Int) (r:Rdr) (w:Wtr) (seq:Int) (out:Bool) (x y z:AV)
def Thx.cellsW (t:Thx) (a b c:AV):List AV:=[.int .i64 t.nx,.int .u8 t.run] ++ (t.r.cellsW a ++ (t.w.cellsW b c ++ [.int .u64 t.seq,.bool t.out]))
def Thx.av (t:Thx):AV:=.agg (t.cellsW t.x t.y t.z)
def Thx.toL (t:Thx):ThL:=⟨t.nx,t.run,{ t.r with us:=t.x.sdL,m:=t.x.sdN },{ t.w with us:=t.y.sdL,m:=t.y.sdN,ps:=t.z.sdL,q:=t.z.sdN },t.seq,t.out⟩
theorem Thx.wk {t:Thx} (h:(t.x.isSd&&(t.y.isSd&&t.z.isSd))=true):Wk t.av t.toL.av:=by
 simp only [Bae] at h
 refine Wk.ofAgg ?_
 unfold Thx.cellsW Rdr.cellsW Wtr.cellsW
 refine .append (.refl _) (.append (.append (.refl _) (.cons (.refl _) (.cons (.refl _) (.cons (Amn h.1) (.refl _))))) (.append ?_ (.refl _)))
 iterate 9 refine .cons (.refl _) ?_
 refine .cons (Amn h.2.1) ?_
 iterate 13 refine .cons (.refl _) ?_
 exact .cons (Amn h.2.2) (.refl _)
structure Lst where
 (us:List AV) (m:Nat)
def Lst.av (l:Lst):AV:=.lst l.us l.m
end Go.Bas
end
section
namespace Go.Bas
open Go.RowKit Go.ChangeShapes Go.WideShapes
inductive DK where
 | b
 | i (k:IntKind)
 | s (ks:List CK) (bt:Nat)
def Amo (P:Program) (g:TypeId->Option (List DK)):List Field->List DK->Option (List DK)
 | [],ks=>some ks
 | f :: r,ks=>cond (Nat.beq f.offset ks.length&&f.name != "_") (match g f.type,P.info? f.type with
  | some ms,some i=>cond (Nat.beq i.size ms.length) (Amo P g r (ks ++ ms)) none
  | _,_=>none) none
def Aq2 (P:Program):Nat->TypeId->Option (List DK)
 | 0,_=>none
 | d + 1,t =>
  match P.underlying t with
  | some .bool=>some [.b]
  | some (.int k)=>some [.i k]
  | some (.slice e)=>match Pq P 8 e with
   | some ks=>cond (Nat.beq (P.cellsOf e) ks.length&&Nat.blt 0 ks.length) (some [.s ks (P.bytesOf e)]) none
   | none=>none
  | some (.struct fs)=>cond (P.stoodInHeld t) none (Amo P (Aq2 P d) fs.toList [])
  | _=>none
def Bac (ks:List CK) (bt:Nat):Sd->Prop
 | .nil=>True
 | .ns=>True
 | .cons a r m=>∃ rows:List (List Value),(∀ x ∈ rows,CellsOk ks x)/\rows.length=m/\m * bt<=reachBytes/\rows.flatten.map ofS=a :: r
def CellsD (w:World):List DK->List Value->Prop
 | [],cs=>cs=[]
 | .b :: ks,cs=>∃ (b:Bool) (r:List Value),cs=.bool b :: r/\CellsD w ks r
 | .i k :: ks,cs=>∃ (n:Int) (r:List Value),cs=.int k n :: r/\(Lit.int k n).wf=true/\CellsD w ks r
 | .s ms bt :: ks,cs=>∃ (v:Value) (s:Sd) (r:List Value),cs=v :: r/\Rep w (fun _=>False) (fun _=>False) (fun _=>none) 0 s.av v/\Bac ms bt s/\CellsD w ks r
section
variable {H:Type} {enc:TypeId × Value->H} {P:Program} {w:World} {base:Nat} {spare:Nat->Bool} {held:Bool}
theorem CellsD.append:∀ {ks ms:List DK} {a b:List Value},CellsD w ks a->CellsD w ms b->CellsD w (ks ++ ms) (a ++ b)
 | [],ms,a,b,h1,h2=>by
  obtain rfl:a=[]:=h1;exact h2
 | .b :: ks,ms,a,b,⟨x,r,e,h1⟩,h2=>⟨x,r ++ b,by rw [e];rfl,h1.append h2⟩
 | .i k :: ks,ms,a,b,⟨x,r,e,hw,h1⟩,h2=>⟨x,r ++ b,by rw [e];rfl,hw,h1.append h2⟩
 | .s k bt :: ks,ms,a,b,⟨v,s,r,e,hr,hs,h1⟩,h2=>⟨v,s,r ++ b,by rw [e];rfl,hr,hs,h1.append h2⟩
theorem Bad {fuel:Nat} {x:DataW H × List MemPlace} {t e:TypeId} {cs:List Value} {ks:List CK} (ht:P.underlying t=some (.slice e)) (hf:Pq P 8 e=some ks) (hc:P.cellsOf e=ks.length) (hpos:0 < ks.length)
  (hx:DataW.trod enc P w base spare held fuel t cs=some x) (hw:∀ n ∈ x.1.weights P t,n<=reachBytes) :
  ∃ (v:Value) (s:Sd),cs=[v]/\Rep w (fun _=>False) (fun _=>False) (fun _=>none) 0 s.av v/\Bac ks (P.bytesOf e) s:=by
 rcases DataW.trod_slice ht hx with ⟨h0,_⟩ | ⟨a,sn,sc,elems,rest,n,_,h0,hxe,hb,hl,hm,hlen,hel,hsp,hns⟩
 ·exact ⟨_,.nil,h0,.nils _,trivial⟩
 ·by_cases hz:sn=0
  ·subst hz
   exact ⟨_,.ns,h0,.ns _ _ _,trivial⟩
  have hwt:sn * P.bytesOf e<=reachBytes:=by
   have h1:=hw ((elems.length + rest.length) * P.bytesOf e) (by rw [hxe];simp [DataW.weights,ht])
   exact Nat.le_trans (Nat.mul_le_mul_right _ (by omega)) h1
  have each:∀ i,i < sn->∃ cs,w.cells? base (a.add (i * ks.length)) ks.length=some cs/\CellsOk ks cs:=fun i hi=>by
   have:=hel i hi;rw [List.getElem?_eq_getElem (by omega),hc] at this
   obtain ⟨cs,h1,h2⟩:=Option.bind_eq_some_iff.1 this;exact ⟨cs,h1,Aaq 8 e ks hf _ _ _ hc h2⟩
  let row:Nat->List Value:=fun i=>(w.cells? base (a.add (i * ks.length)) ks.length).getD []
  have hrow:∀ i,i < sn->w.cells? base (a.add (i * ks.length)) ks.length=some (row i)/\CellsOk ks (row i):=fun i hi=>by
   obtain ⟨cs,h1,h2⟩:=each i hi;simp only [row,h1,Option.getD_some];exact ⟨trivial,h2⟩
  have hmem:∀ x ∈ (List.range sn).map row,CellsOk ks x:=fun x hx=>by
   obtain ⟨i,hi,rfl⟩:=List.mem_map.1 hx;exact (hrow i (by simpa using hi)).2
  have hlens:∀ x ∈ (List.range sn).map row,x.length=ks.length:=fun x hx=>(hmem x hx).length
  have hspot:a.spot=none:=by
   have h1:=(cells?_get (hrow 0 (by omega)).1)
   have h2:=h1.2 0 (by omega)
   simp only [Nat.zero_mul] at h2
   have h3:((a.add 0).add 0).spot=none:=by
    cases hs:((a.add 0).add 0).spot with
    | none=>rfl
    | some s =>
     simp only [World.cell?,hs,Option.isSome_some,if_true] at h2;split at h2 <;> cases h2
   simpa [Addr.add] using h3
  obtain ⟨b,o,sp⟩:=a;simp only at hspot;subst hspot;have hfl:=Aej _ hlens;simp only [List.length_map,List.length_range] at hfl
  have hcell:∀ q (hq:q < ((List.range sn).map row).flatten.length),w.cell? ⟨b,o + q,none⟩=some ((List.range sn).map row).flatten[q]:=fun q hq=>by
   have hi:q / ks.length < sn:=(Nat.div_lt_iff_lt_mul hpos).2 (by omega)
   have hj:q % ks.length < ks.length:=Nat.mod_lt _ hpos;have h1:=cells?_get (hrow _ hi).1;have h2:=h1.2 (q % ks.length) (by omega)
   rw [F8,F8,Nat.add_assoc,Nat.mul_comm,Nat.div_add_mod] at h2;rw [h2];have h3:=Awl _ hlens (q / ks.length) (q % ks.length) (by simpa using hi) hj
   rw [Nat.mul_comm,Nat.div_add_mod,List.getElem?_eq_getElem hq] at h3;rw [h3];simp only [List.getD_eq_getElem?_getD,List.getElem?_map,List.getElem?_range hi,Option.map_some,Option.getD_some];exact (List.getElem?_eq_getElem (by omega)).symm
  have h1:0 < ((List.range sn).map row).flatten.length:=by rw [hfl];exact Nat.mul_pos (by omega) hpos
  have hll:((List.range sn).map row).length=sn:=by simp
  clear hlens;generalize (List.range sn).map row=rows at hcell h1 hmem hll;cases hav:rows.flatten.map ofS with
  | nil =>
   have h2:=congrArg List.length hav;rw [List.length_map,List.length_nil] at h2;omega
  | cons y r =>
   refine ⟨_,.cons y r sn,h0,?_,rows,hmem,hll,hwt,hav⟩;show Rep w _ _ _ 0 (.lst (y :: r) sn) _;rw [<- hav];generalize rows.flatten=fl at hcell h1;refine Rep.lst (B:=fun _=>False) (own:=fun _=>False) _ _ _ sc b o (fun q=>fl.getD q undef) (fun _=>⟨?_,fun h=>h,fun h=>h⟩) hl (fun q hq=>?_) (fun q hq=>?_)
   ·have:=hcell 0 h1
    rcases Nat.lt_or_ge b w.heap.size with h | h
    ·exact h
    ·simp [World.cell?,Array.getElem?_eq_none h] at this
   ·rw [List.length_map] at hq
    rw [hcell q hq,List.getD_eq_getElem?_getD,List.getElem?_eq_getElem hq,Option.getD_some]
   ·have hq':q < fl.length:=by rw [List.length_map] at hq;exact hq
    rw [List.getElem_map,List.getD_eq_getElem?_getD,List.getElem?_eq_getElem hq',Option.getD_some];exact Vb _ _ _ _ _ _
theorem Ab3 {g:TypeId->Option (List DK)} (hg:∀ t ks,g t=some ks->∀ fuel cs x,P.cellsOf t=ks.length->DataW.trod enc P w base spare held fuel t cs=some x->(∀ n ∈ x.1.weights P t,n<=reachBytes)->CellsD w ks cs) {cs:List Value} {n:Nat} :
  ∀ (r:List Field) (ks all:List DK),Amo P g r ks=some all->cs.length=all.length->(∀ f ∈ r,∃ y,DataW.trod enc P w base spare held n f.type ((cs.drop f.offset).take (P.cellsOf f.type))=some y/\∀ n ∈ y.1.weights P f.type,n<=reachBytes) ->
  ∃ rest,all=ks ++ rest/\CellsD w rest (cs.drop ks.length)
 | [],ks,all,h,hl,_=>by
  obtain rfl:=Option.some.inj h;exact ⟨[],by simp,List.drop_eq_nil_of_le (by omega)⟩
 | f :: r,ks,all,h,hl,hf=>by
  simp only [Amo] at h;cases hc:(Nat.beq f.offset ks.length&&f.name != "_") with
  | false=>rw [hc] at h;cases h
  | true =>
   rw [hc] at h;simp only [cond_true] at h;obtain ⟨c1,c2⟩:=En hc
   replace c1:=Dw c1
   split at h
   ·rename_i ms i hms hi
    cases hb:Nat.beq i.size ms.length with
    | false=>rw [hb] at h;cases h
    | true =>
     rw [hb] at h;simp only [cond_true] at h
     replace hb:=Dw hb
     have hco:P.cellsOf f.type=ms.length:=by simp [Program.cellsOf,hi,hb]
     obtain ⟨rest,e,h2⟩:=Ab3 hg r (ks ++ ms) all h hl (fun f hf'=>hf f (List.mem_cons_of_mem _ hf'))
     obtain ⟨y,hy,hyw⟩:=hf f (List.mem_cons_self ..);rw [c1,hco] at hy;have h1:=hg _ _ hms _ _ _ hco hy hyw;refine ⟨ms ++ rest,by rw [e,List.append_assoc],?_⟩
     have:=h1.append h2
     rwa [List.length_append,<- List.drop_drop,List.take_append_drop] at this
   ·cases h
theorem Ahc:∀ (d:Nat) (t:TypeId) (ks:List DK),Aq2 P d t=some ks->∀ fuel cs x,P.cellsOf t=ks.length->DataW.trod enc P w base spare held fuel t cs=some x->(∀ n ∈ x.1.weights P t,n<=reachBytes)->CellsD w ks cs
 | 0,_,_,h=>by cases h
 | d + 1,t,ks,h=>fun fuel cs x hc hx hw=>by
  simp only [Aq2] at h;split at h
  ·rename_i hu
   obtain rfl:=Option.some.inj h;obtain ⟨b,rfl,_⟩:=DataW.trod_bool hu hx;exact ⟨b,[],rfl,rfl⟩
  ·rename_i k hu
   obtain rfl:=Option.some.inj h;obtain ⟨n,rfl,_,hw⟩:=DataW.trod_int hu hx;exact ⟨n,[],rfl,hw,rfl⟩
  ·rename_i e hu
   split at h
   ·rename_i ms hms
    cases hb:(Nat.beq (P.cellsOf e) ms.length&&Nat.blt 0 ms.length) with
    | false=>rw [hb] at h;cases h
    | true =>
     rw [hb] at h;obtain rfl:=Option.some.inj h;obtain ⟨c1,c2⟩:=En hb;obtain ⟨v,s,rfl,h1,h2⟩:=Bad hu hms (Dw c1) (Nlb c2) hx hw;exact ⟨v,s,[],rfl,h1,h2,rfl⟩
   ·cases h
  ·rename_i fs hu
   cases hst:P.stoodInHeld t with
   | true=>rw [hst] at h;cases h
   | false =>
    rw [hst] at h;simp only [cond_false] at h;obtain ⟨xs,n,_,hxe,hl,hlen,hf⟩:=DataW.trod_struct hu hx
    obtain ⟨rest,e,h2⟩:=Ab3 (cs:=cs) (n:=n) (Ahc d) fs.toList [] ks h (by omega) (fun f hf'=>by
     obtain ⟨i,hi,e⟩:=List.mem_iff_getElem.1 hf';have hi':i < fs.size:=by simpa using hi
     have:=hf i f (by rw [<- e];simp)
     rw [this];have hx':i < xs.length:=by omega
     refine ⟨xs[i],List.getElem?_eq_getElem hx',fun n hn=>hw n ?_⟩
     rw [hxe];simp only [DataW.weights,hu];exact DataW.weights_mem_each (j:=i) (by rw [List.getElem?_map,List.getElem?_eq_getElem hi,e];rfl) (by rw [List.getElem?_map,List.getElem?_eq_getElem hx'];rfl) n hn)
    simp only [List.nil_append] at e;subst e
    simpa using h2
  ·cases h
theorem Azk {r:Reach} {b0:Nat} {t:TypeId} {v:Value} {d:DataW H} {ps:List MemPlace} {fs:Array Field} {ks:List DK} (ht:P.underlying t=some (.struct fs)) (hf:Aq2 P 8 t=some ks) (hc:P.cellsOf t=ks.length)
  (hval:Value.okWide P w r b0 t v) (hd:DataW.Trod enc P w base spare held t v d ps) (hw:∀ n ∈ d.weights P t,n<=reachBytes):∃ l,v=.agg (List.toArray l)/\CellsD w ks l:=by
 simp only [Value.okWide,ht] at hval
 obtain ⟨cs,rfl,_,_⟩:=hval
 obtain ⟨fuel,hx⟩:=hd
 exact ⟨cs.toList,by simp,Ahc 8 t ks hf _ _ _ hc (by simpa [Value.cells] using hx) hw⟩
end
theorem CellsOk.one:∀ {ks:List CK} {cs:List Value},CellsOk ks cs->∀ v ∈ cs,(ofS v).one=true
 | [],cs,h,v,hv=>by
  obtain rfl:cs=[]:=h;cases hv
 | .b :: ks,cs,⟨b,r,e,h⟩,v,hv=>by
  subst e
  rcases List.mem_cons.1 hv with rfl | hv
  ·rfl
  ·exact h.one v hv
 | .i k :: ks,cs,⟨n,r,e,hw,h⟩,v,hv=>by
  subst e
  rcases List.mem_cons.1 hv with rfl | hv
  ·rfl
  ·exact h.one v hv
 | .s :: _,_,h,_,_=>h.elim
 | .o :: _,_,h,_,_=>h.elim
theorem CellsOk.isB:∀ {ks:List CK} {cs:List Value},CellsOk ks cs->(∀ k ∈ ks,k=.b)->∀ v ∈ cs,(ofS v).isB=true
 | [],cs,h,_,v,hv=>by
  obtain rfl:cs=[]:=h;cases hv
 | .b :: ks,cs,⟨b,r,e,h⟩,hk,v,hv=>by
  subst e
  rcases List.mem_cons.1 hv with rfl | hv
  ·rfl
  ·exact h.isB (fun k hk'=>hk k (List.mem_cons_of_mem _ hk')) v hv
 | .i k :: ks,cs,⟨n,r,e,hw,h⟩,hk,v,hv=>by cases hk _ (List.mem_cons_self ..)
 | .s :: _,_,h,_,_,_=>h.elim
 | .o :: _,_,h,_,_,_=>h.elim
theorem Baf {w:World} {B:Nat->Prop} {own:Nat->Prop} {ω:Nat->Option Nat} {nx:Nat} {vs:List AV} {us:List Value} (h:RepL w B own ω nx vs us.toArray):Rep w B own ω nx (.agg vs) (.agg us.toArray):=.agg _ _ _ h.1 h.2
theorem CellsOk.get:∀ {ks:List CK} {cs:List Value},CellsOk ks cs->∀ (j:Nat) (k:IntKind),ks[j]?=some (.i k)->∃ n,cs[j]?=some (.int k n)/\(Lit.int k n).wf=true
 | [],cs,h,j,k,hj=>by simp at hj
 | .b :: ks,cs,⟨b,r,e,h⟩,j,k,hj=>by
  subst e;cases j with
  | zero=>simp at hj
  | succ j=>exact h.get j k (by simpa using hj)
 | .i k' :: ks,cs,⟨n,r,e,hw,h⟩,j,k,hj=>by
  subst e;cases j with
  | zero=>simp at hj;subst hj;exact ⟨n,rfl,hw⟩
  | succ j=>exact h.get j k (by simpa using hj)
 | .s :: _,_,h,_,_,_=>h.elim
 | .o :: _,_,h,_,_,_=>h.elim
end Go.Bas
end
section
namespace Go.Bas
open Go.RowKit
def rdrK:List DK:=[.i .u8,.i .i64,.i .i64,.i .u64,.i .u8,.i .u32,.i .u32,.i .u8,.i .u8,.i .u8,.i .u8,.i .u8,.i .u8,.i .u32,.i .u32,.i .i64,.i .u32,.s [.i .u64,.i .u64] 16,.i .i64]
structure RdrOk (r:Rdr) (s:Sd):Prop where
 f0:(Lit.int .u8 r.pc).wf=true
 f1:(Lit.int .i64 r.ver).wf=true
 f2:(Lit.int .i64 r.inst).wf=true
 f3:(Lit.int .u64 r.batch).wf=true
 f4:(Lit.int .u8 r.f.kind).wf=true
 f5:(Lit.int .u32 r.f.a).wf=true
 f6:(Lit.int .u32 r.f.b).wf=true
 f7:(Lit.int .u8 r.f.pc).wf=true
 f8:(Lit.int .u8 r.f.i).wf=true
 f9:(Lit.int .u8 r.f.j).wf=true
 f10:(Lit.int .u8 r.f.n).wf=true
 f11:(Lit.int .u8 r.f.p).wf=true
 f12:(Lit.int .u8 r.f.h).wf=true
 f13:(Lit.int .u32 r.f.x).wf=true
 f14:(Lit.int .u32 r.f.y).wf=true
 f15:(Lit.int .i64 r.code).wf=true
 f16:(Lit.int .u32 r.v).wf=true
 f17:Bac [.i .u64,.i .u64] 16 s
 f18:(Lit.int .i64 r.given).wf=true
theorem A32 {w:World} {l:List Value} (h:CellsD w rdrK l):∃ (r:Rdr) (s:Sd),
  Rep w (fun _=>False) (fun _=>False) (fun _=>none) 0 (.agg (r.cellsW s.av)) (.agg l.toArray)/\RdrOk r s:=by
 obtain ⟨x0,l0,e0,w0,x1,l1,e1,w1,x2,l2,e2,w2,x3,l3,e3,w3,x4,l4,e4,w4,x5,l5,e5,w5,x6,l6,e6,w6,x7,l7,e7,w7,x8,l8,e8,w8,x9,l9,e9,w9,x10,l10,e10,w10,x11,l11,e11,w11,x12,l12,e12,w12,x13,l13,e13,w13,x14,l14,e14,w14,x15,l15,e15,w15,x16,l16,e16,w16,v17,x17,l17,e17,r17,w17,x18,l18,e18,w18,z⟩:=h
 have e:l=[.int .u8 x0,.int .i64 x1,.int .i64 x2,.int .u64 x3,.int .u8 x4,.int .u32 x5,.int .u32 x6,.int .u8 x7,.int .u8 x8,.int .u8 x9,.int .u8 x10,.int .u8 x11,.int .u8 x12,.int .u32 x13,.int .u32 x14,.int .i64 x15,.int .u32 x16,v17,.int .i64 x18]:=by rw [e0,e1,e2,e3,e4,e5,e6,e7,e8,e9,e10,e11,e12,e13,e14,e15,e16,e17,e18,z]
 refine ⟨⟨x0,x1,x2,x3,⟨x4,x5,x6,x7,x8,x9,x10,x11,x12,x13,x14⟩,x15,x16,[],0,x18⟩,x17,?_,⟨w0,w1,w2,w3,w4,w5,w6,w7,w8,w9,w10,w11,w12,w13,w14,w15,w16,w17,w18⟩⟩
 rw [e]
 exact Baf (Ed (.int _ _ _) (Ed (.int _ _ _) (Ed (.int _ _ _) (Ed (.int _ _ _) (Ed (.int _ _ _) (Ed (.int _ _ _) (Ed (.int _ _ _) (Ed (.int _ _ _) (Ed (.int _ _ _) (Ed (.int _ _ _) (Ed (.int _ _ _) (Ed (.int _ _ _) (Ed (.int _ _ _) (Ed (.int _ _ _) (Ed (.int _ _ _) (Ed (.int _ _ _) (Ed (.int _ _ _) (Ed r17 (Ed (.int _ _ _) Aqq)))))))))))))))))))
theorem Rdr.wkL (r:Rdr) (s:Sd):Wk (.agg (r.cellsW s.av)) (Rdr.av { r with us:=s.list,m:=s.len }):=by
 refine Wk.ofAgg ?_
 unfold Rdr.cellsW
 exact .append (.refl _) (.cons (.refl _) (.cons (.refl _) (.cons s.wk (.refl _))))
end Go.Bas
end
