/- The engine, part M: pieces of code put together by hand: sequences, blocks, loops with a family of s; The engine, part Ma: a function's code with known loops: pieces at a function's own level, what is k; The engine, part Mb: blocks let go; The engine, part Mc: runs Apw code some pieces of which are known; regions with calls that are walke; The engine, part Md: loops gone through round by round, in stretches: a closed run is cut where one; The engine, part Z: package-level tables that are listed with what they hold: their cells, for the r; The engine, part Tr: trees of conditions asv values, and what a function answers by the parts of its; What the functions answer, asv plain Lean: configs, stages, cells; The engine, part Ts: summaries read off arguments of known shapes; the shapes of chapters 1 to 25; The engine, part Ex: what a function answers where nothing of it is printed: its run's one outcome,; The engine, part Ex2: small laws for trees whose paths are proved one by one; The engine, part Ex3: one function's run Ju another's: two that answer the same; Contracts: configs and stages; the variables. -/
import Derived.Test.YtjepofcbkojibaaGreatDoorBasW4
import Derived.LoopNIn
import Derived.LaidMore
import Derived.OpenShut
import Derived.Stop.Joined
import Derived.Test.YtjepofcbkojibaaGreatDoorProg
import Derived.KernelRfl
set_option maxRecDepth 100000
set_option maxHeartbeats 4000000
set_option linter.unusedVariables false
set_option linter.unusedSimpArgs false
section
namespace Go.Bas
noncomputable section
open Go.RowKit
def AWp (C:Cfg) (inr:Option Nat) (code:Code) (st:St) (K:Ex->St->Prop):Prop :=
 ∀ (w:World) (B oC oL:Nat->Prop) (ω:Nat->Option Nat) (a:Act) (Q:Exit->Act->World->Prop) (ro:Option Nat),Sim C w B oC oL ω st a->InR ω st.m.nx inr ro ->
  (∀ e st' a' w' oC' oL' ω' out,Sim C w' B oC' oL' ω' st' a'->ExtR w oC oL ω st.m.nx w' oC' oL' ω' st'.m.nx->K e st'->Agv w' B oC' oL' ω' st'.m.nx e out->Q out a' w')->code.wpIn (Fr ro) 0 C.P Q a w
section
variable {C:Cfg} {K K':Ex->St->Prop} {st:St} {inr:Option Nat}
theorem AWp.mono {code:Code} (hk:∀ e s,K e s->K' e s) (h:AWp C inr code st K):AWp C inr code st K':=fun w B oC oL ω a Q ro S hI hQ =>
 h w B oC oL ω a Q ro S hI (fun e st' a' w' oC' oL' ω' out S' E k ho=>hQ e st' a' w' oC' oL' ω' out S' E (hk e st' k) ho)
theorem AWp.run (hC:C.Ok) {n:Nat} {code:Code} (h:∀ k:Ex->St->Bool,(∀ e s,K e s->k e s=true)->Bas.run C n inr none code st k false=true):AWp C inr code st K:=fun w B oC oL ω a Q ro S hI hQ=>by
 classical
 exact (Rh hC n).1 inr code st _ w B oC oL ω a Q ro (h (fun e s=>decide (K e s)) (fun e s hk=>Ddt hk)) S hI (fun e st' a' w' oC' oL' ω' out S' E hk ho=>hQ e st' a' w' oC' oL' ω' out S' E (Odt hk) ho)
theorem AWp.seq {x y:Code} (h:AWp C inr x st (fun e s=>match e with | .normal=>AWp C inr y s K | e=>K e s)):AWp C inr (.seq x y) st K:=fun w B oC oL ω a Q ro S hI hQ=>by
 refine wpIn_seq (h w B oC oL ω a _ ro S hI (fun e st' a' w' oC' oL' ω' out S' E hk ho=>?_))
 cases e with
 | normal=>subst ho;exact hk w' B oC' oL' ω' a' Q ro S' (hI.ext E) (fun e2 st2 a2 w2 oC2 oL2 ω2 out2 S2 E2 hk2 ho2=>hQ e2 st2 a2 w2 oC2 oL2 ω2 out2 S2 (E.trans E2) hk2 ho2)
 | exit id=>have h2:=hQ _ st' a' w' oC' oL' ω' out S' E hk ho;subst ho;exact h2
 | goto l=>have h2:=hQ _ st' a' w' oC' oL' ω' out S' E hk ho;subst ho;exact h2
 | ret=>have h2:=hQ _ st' a' w' oC' oL' ω' out S' E hk ho;subst ho;exact h2
 | panic v=>have h2:=hQ _ st' a' w' oC' oL' ω' out S' E hk ho;obtain ⟨u,rfl,_⟩:=ho;exact h2
theorem AWp.block {id:Nat} {body:Code} (h:AWp C inr body st (fun e s=>match e with | .exit id'=>(id'=id->K .normal s)/\(id' ≠ id->K (.exit id') s) | e=>K e s)):AWp C inr (.block id body) st K:=fun w B oC oL ω a Q ro S hI hQ=>by
 refine wpIn_block (h w B oC oL ω a _ ro S hI (fun e st' a' w' oC' oL' ω' out S' E hk ho=>?_))
 cases e with
 | normal=>exact hQ .normal _ _ _ _ _ _ out S' E hk ho |> fun h2=>by subst ho;exact h2
 | exit id' =>
  subst ho;simp only [Exit.inBlock]
  by_cases h:id'=id
  ·rw [if_pos h];exact hQ .normal _ _ _ _ _ _ _ S' E (hk.1 h) rfl
  ·rw [if_neg h];exact hQ (.exit id') _ _ _ _ _ _ _ S' E (hk.2 h) rfl
 | goto l=>have h2:=hQ _ st' a' w' oC' oL' ω' out S' E hk ho;subst ho;exact h2
 | ret=>have h2:=hQ _ st' a' w' oC' oL' ω' out S' E hk ho;subst ho;exact h2
 | panic v=>have h2:=hQ _ st' a' w' oC' oL' ω' out S' E hk ho;obtain ⟨u,rfl,_⟩:=ho;exact h2
theorem AWp.cond {c:Operand} {x y:Code} {t:Bool} (hc:evO C st.tmps c=.bool t) (hx:t=true->AWp C inr x st K) (hy:t=false->AWp C inr y st K):AWp C inr (.cond c x y) st K:=fun w B oC oL ω a Q ro S hI hQ=>by
 have hev:=S.ev c
 rw [hc] at hev
 generalize hv:a.eval c=u at hev
 cases hev
 cases t with
 | true=>exact wpIn_cond_true hv (hx rfl w B oC oL ω a Q ro S hI hQ)
 | false=>exact wpIn_cond_false hv (hy rfl w B oC oL ω a Q ro S hI hQ)
theorem AWp.loop {ι:Type} {body:Code} (I:ι->St) (μ:ι->Nat) (h:∀ i,AWp C inr body (I i) (fun e s=>match e with | .normal=>∃ j,s=I j/\μ j < μ i | e=>K e s)) (i:ι):AWp C inr (.loop body) (I i) K:=fun w B oC oL ω a Q ro S hI hQ=>by
 have key:∀ (m:Nat) (i:ι) (a:Act) (w:World) (oC oL:Nat->Prop) (ω:Nat->Option Nat),μ i < m->Sim C w B oC oL ω (I i) a->InR ω (I i).m.nx inr ro ->
   (∀ e st' a' w' oC' oL' ω' out,Sim C w' B oC' oL' ω' st' a'->ExtR w oC oL ω (I i).m.nx w' oC' oL' ω' st'.m.nx->K e st'->Agv w' B oC' oL' ω' st'.m.nx e out->Q out a' w')->Code.roundsIn (Fr ro) 0 C.P body Q m a w:=by
  intro m
  induction m with
  | zero=>intro i a w oC oL ω h;exact absurd h (Nat.not_lt_zero _)
  | succ m ih =>
   intro i a w oC oL ω hm S hI hQ;rw [roundsIn_succ];refine h i w B oC oL ω a _ ro S hI (fun e st' a' w' oC' oL' ω' out S' E hk ho=>?_)
   cases e with
   | normal =>
    obtain ⟨j,rfl,hj⟩:=hk;subst ho;exact ih j a' w' oC' oL' ω' (by omega) S' (hI.ext E) (fun e2 st2 a2 w2 oC2 oL2 ω2 out2 S2 E2 hk2 ho2=>hQ e2 st2 a2 w2 oC2 oL2 ω2 out2 S2 (E.trans E2) hk2 ho2)
   | exit id=>have h2:=hQ _ st' a' w' oC' oL' ω' out S' E hk ho;subst ho;exact h2
   | goto l=>have h2:=hQ _ st' a' w' oC' oL' ω' out S' E hk ho;subst ho;exact h2
   | ret=>have h2:=hQ _ st' a' w' oC' oL' ω' out S' E hk ho;subst ho;exact h2
   | panic v=>have h2:=hQ _ st' a' w' oC' oL' ω' out S' E hk ho;obtain ⟨u,rfl,_⟩:=ho;exact h2
 exact wpIn_loop_rounds (μ i + 1) (key (μ i + 1) i a w oC oL ω (Nat.lt_succ_self _) S hI hQ)
open Classical in
def goA (C:Cfg):Ur Bool:=fun inr sc code st k _=>match sc with
 | none=>decide (AWp C inr code st (fun e s=>k e s=true))
 | some _=>false
open Classical in
theorem Aty:Akp C (goA C):=fun inr code st k w B oC oL ω a Q ro hk S hI hQ =>
 (show AWp C inr code st (fun e s=>k e s=true) from Odt hk) w B oC oL ω a Q ro S hI hQ
open Classical in
theorem A3p {code:Code} {k:Ex->St->Bool} {z:Bool} (h:AWp C inr code st (fun e s=>k e s=true)):goA C inr none code st k z=true:=Ddt h
theorem AWp.range (hC:C.Ok) {g:Operand} {f:FuncId} {first cap:List AV} {params:Array Tmp} {assign body:Code} {k:Ex->St->Bool} (hg:evO C st.tmps g=.fn (.func f) first cap)
  (h:Aec inr st params.toList assign body (fun id ds m=>Lu C (goA C) false (.fn f) (first ++ [.yld id] ++ cap) m (fun _ m'=>Ag2 C st k id ds m') (fun v m'=>k (.panic v) ⟨st.tmps,ds,m'⟩)) false=true) (hk:∀ e s,k e s=true->K e s) :
  AWp C inr (.rangeFunc g params assign body) st K:=fun w B oC oL ω a Q ro S hI hQ=>by
 have hev:=S.ev g
 rw [hg] at hev
 generalize hv:a.eval g=gv at hev
 cases hev with
 | fn _ _ _ _ fs cs h1 h2 h3 h4 =>
  exact Aei hC Aty S hI (fun e st' a' w' oC' oL' ω' out S' E hk' ho=>hQ e st' a' w' oC' oL' ω' out S' E (hk e st' hk') ho) hv h1 h2 h3 h4 h
def Ef (P:Program) (f:FuncId):Code:=((P.funcs[f]?).bind (·.body)).getD .skip
def st0 (P:Program) (f:FuncId) (args:List AV):St:=⟨Afe args (((P.funcs[f]?).map (·.ntmps)).getD 0),[],⟨[],0,[]⟩⟩
def Baa {Ω:Type} (C:Cfg) (f:FuncId) (st:St) (k:AV->Ω) (z:Ω):Ω :=
 match C.P.funcs[f]? with
 | some fn=>Iq st.ds st.m.lp (fun _=>Uo C fn st (fun v=>Iz st.m.heap 6 v k z) z) z
 | none=>z
end
end
end Go.Bas
end
section
namespace Go.Bas
noncomputable section
open Go.RowKit
def AWq (C:Cfg) (code:Code) (st:St) (K:Ex->St->Prop):Prop :=
 ∀ (w:World) (B oC oL:Nat->Prop) (ω:Nat->Option Nat) (a:Act) (Q:Exit->Act->World->Prop),Sim C w B oC oL ω st a ->
  (∀ e st' a' w' oC' oL' ω' out,Sim C w' B oC' oL' ω' st' a'->ExtR w oC oL (fun _=>none) 0 w' oC' oL' ω' st'.m.nx->K e st'->Agv w' B oC' oL' ω' st'.m.nx e out->Q out a' w')->code.wpIn (Fr none) 0 C.P Q a w
theorem ExtR.low {w w':World} {oC oL oC' oL':Nat->Prop} {ω ω':Nat->Option Nat} {nx nx':Nat} (E:ExtR w oC oL ω nx w' oC' oL' ω' nx'):ExtR w oC oL (fun _=>none) 0 w' oC' oL' ω' nx' :=
 ⟨E.os,E.tape,E.output,E.size,E.old,E.owns,Nat.zero_le _,fun _ h=>absurd h (Nat.not_lt_zero _),E.row⟩
theorem ExtR.then {w w1 w2:World} {oC oL oC1 oL1 oC2 oL2:Nat->Prop} {ω1 ω2:Nat->Option Nat} {nx1 nx2:Nat} (E:ExtR w oC oL (fun _=>none) 0 w1 oC1 oL1 ω1 nx1) (E2:ExtR w1 oC1 oL1 (fun _=>none) 0 w2 oC2 oL2 ω2 nx2):ExtR w oC oL (fun _=>none) 0 w2 oC2 oL2 ω2 nx2 :=
 have E':ExtR w oC oL (fun _=>none) 0 w1 oC1 oL1 (fun _=>none) 0:=⟨E.os,E.tape,E.output,E.size,E.old,E.owns,Nat.le_refl _,fun _ h=>absurd h (Nat.not_lt_zero _),E.row⟩
 E'.trans E2
section
variable {C:Cfg} {K K':Ex->St->Prop} {st:St}
theorem AWp.q {code:Code} (h:AWp C none code st K):AWq C code st K:=fun w B oC oL ω a Q S hQ =>
 h w B oC oL ω a Q none S trivial (fun e st' a' w' oC' oL' ω' out S' E hk ho=>hQ e st' a' w' oC' oL' ω' out S' E.low hk ho)
theorem AWq.mono {code:Code} (hk:∀ e s,K e s->K' e s) (h:AWq C code st K):AWq C code st K':=fun w B oC oL ω a Q S hQ =>
 h w B oC oL ω a Q S (fun e st' a' w' oC' oL' ω' out S' E k ho=>hQ e st' a' w' oC' oL' ω' out S' E (hk e st' k) ho)
theorem AWq.run (hC:C.Ok) {n:Nat} {code:Code} (h:∀ k:Ex->St->Bool,(∀ e s,K e s->k e s=true)->Bas.run C n none none code st k false=true):AWq C code st K:=(AWp.run hC h).q
theorem AWq.seq {x y:Code} (h:AWq C x st (fun e s=>match e with | .normal=>AWq C y s K | e=>K e s)):AWq C (.seq x y) st K:=fun w B oC oL ω a Q S hQ=>by
 refine wpIn_seq (h w B oC oL ω a _ S (fun e st' a' w' oC' oL' ω' out S' E hk ho=>?_))
 cases e with
 | normal=>subst ho;exact hk w' B oC' oL' ω' a' Q S' (fun e2 st2 a2 w2 oC2 oL2 ω2 out2 S2 E2 hk2 ho2=>hQ e2 st2 a2 w2 oC2 oL2 ω2 out2 S2 (E.then E2) hk2 ho2)
 | exit id=>have h2:=hQ _ st' a' w' oC' oL' ω' out S' E hk ho;subst ho;exact h2
 | goto l=>have h2:=hQ _ st' a' w' oC' oL' ω' out S' E hk ho;subst ho;exact h2
 | ret=>have h2:=hQ _ st' a' w' oC' oL' ω' out S' E hk ho;subst ho;exact h2
 | panic v=>have h2:=hQ _ st' a' w' oC' oL' ω' out S' E hk ho;obtain ⟨u,rfl,_⟩:=ho;exact h2
theorem AWq.block {id:Nat} {body:Code} (h:AWq C body st (fun e s=>match e with | .exit id'=>(id'=id->K .normal s)/\(id' ≠ id->K (.exit id') s) | e=>K e s)):AWq C (.block id body) st K:=fun w B oC oL ω a Q S hQ=>by
 refine wpIn_block (h w B oC oL ω a _ S (fun e st' a' w' oC' oL' ω' out S' E hk ho=>?_))
 cases e with
 | normal=>exact hQ .normal _ _ _ _ _ _ out S' E hk ho |> fun h2=>by subst ho;exact h2
 | exit id' =>
  subst ho;simp only [Exit.inBlock]
  by_cases h:id'=id
  ·rw [if_pos h];exact hQ .normal _ _ _ _ _ _ _ S' E (hk.1 h) rfl
  ·rw [if_neg h];exact hQ (.exit id') _ _ _ _ _ _ _ S' E (hk.2 h) rfl
 | goto l=>have h2:=hQ _ st' a' w' oC' oL' ω' out S' E hk ho;subst ho;exact h2
 | ret=>have h2:=hQ _ st' a' w' oC' oL' ω' out S' E hk ho;subst ho;exact h2
 | panic v=>have h2:=hQ _ st' a' w' oC' oL' ω' out S' E hk ho;obtain ⟨u,rfl,_⟩:=ho;exact h2
theorem AWq.cond {c:Operand} {x y:Code} {t:Bool} (hc:evO C st.tmps c=.bool t) (hx:t=true->AWq C x st K) (hy:t=false->AWq C y st K):AWq C (.cond c x y) st K:=fun w B oC oL ω a Q S hQ=>by
 have hev:=S.ev c
 rw [hc] at hev
 generalize hv:a.eval c=u at hev
 cases hev
 cases t with
 | true=>exact wpIn_cond_true hv (hx rfl w B oC oL ω a Q S hQ)
 | false=>exact wpIn_cond_false hv (hy rfl w B oC oL ω a Q S hQ)
def Less (C:Cfg) (st st':St):Prop:=∀ (w:World) (B oC oL:Nat->Prop) (ω:Nat->Option Nat) (a:Act),Sim C w B oC oL ω st a->∃ ω',Sim C w B oC oL ω' st' a
theorem Less.refl (st:St):Less C st st:=fun w B oC oL ω a S=>⟨ω,S⟩
theorem Less.trans {st st1 st2:St} (h:Less C st st1) (h':Less C st1 st2):Less C st st2:=fun w B oC oL ω a S =>
 let ⟨ω1,S1⟩:=h w B oC oL ω a S
 h' w B oC oL ω1 a S1
theorem AWq.less {code:Code} {st':St} (h:Less C st st') (hw:AWq C code st' K):AWq C code st K:=fun w B oC oL ω a Q S hQ=>by
 obtain ⟨ω',S'⟩:=h w B oC oL ω a S
 exact hw w B oC oL ω' a Q S' hQ
def LessS (C:Cfg) (st st':St):Prop:=st'.m.nx=st.m.nx/\∀ (w:World) (B oC oL:Nat->Prop) (ω:Nat->Option Nat) (a:Act),Sim C w B oC oL ω st a->Sim C w B oC oL ω st' a
theorem LessS.less {st st':St} (h:LessS C st st'):Less C st st':=fun w B oC oL ω a S=>⟨ω,h.2 w B oC oL ω a S⟩
theorem LessS.refl (st:St):LessS C st st:=⟨rfl,fun w B oC oL ω a S=>S⟩
theorem AWp.less {inr:Option Nat} {code:Code} {st':St} (h:LessS C st st') (hw:AWp C inr code st' K):AWp C inr code st K:=fun w B oC oL ω a Q ro S hI hQ =>
 hw w B oC oL ω a Q ro (h.2 w B oC oL ω a S) (h.1 ▸ hI) (fun e st2 a2 w2 oC2 oL2 ω2 out2 S2 E hk ho=>hQ e st2 a2 w2 oC2 oL2 ω2 out2 S2 (h.1 ▸ E) hk ho)
theorem AWp.post {inr:Option Nat} {code:Code} (h:AWp C inr code st K) (hk:∀ e s,K e s->∃ s',LessS C s s'/\K' e s'):AWp C inr code st K':=fun w B oC oL ω a Q ro S hI hQ =>
 h w B oC oL ω a Q ro S hI (fun e st' a' w' oC' oL' ω' out S' E hK ho=>by
  obtain ⟨s2,hl,hk'⟩:=hk e st' hK;refine hQ e s2 a' w' oC' oL' ω' out (hl.2 _ _ _ _ _ _ S') (hl.1 ▸ E) hk' ?_;cases e with
  | panic v=>obtain ⟨u,h1,h2⟩:=ho;exact ⟨u,h1,hl.1 ▸ h2⟩
  | _=>exact ho)
theorem AWq.loop {ι:Type} {body:Code} (I:ι->St) (μ:ι->Nat) (h:∀ i,AWq C body (I i) (fun e s=>match e with | .normal=>∃ j,μ j < μ i/\Less C s (I j) | e=>∃ s',LessS C s s'/\K e s')) (i:ι):AWq C (.loop body) (I i) K:=fun w B oC oL ω a Q S hQ=>by
 have key:∀ (m:Nat) (i:ι) (a:Act) (w:World) (oC oL:Nat->Prop) (ω:Nat->Option Nat),μ i < m->Sim C w B oC oL ω (I i) a ->
   (∀ e st' a' w' oC' oL' ω' out,Sim C w' B oC' oL' ω' st' a'->ExtR w oC oL (fun _=>none) 0 w' oC' oL' ω' st'.m.nx->K e st'->Agv w' B oC' oL' ω' st'.m.nx e out->Q out a' w')->Code.roundsIn (Fr none) 0 C.P body Q m a w:=by
  intro m
  induction m with
  | zero=>intro i a w oC oL ω h;exact absurd h (Nat.not_lt_zero _)
  | succ m ih =>
   intro i a w oC oL ω hm S hQ;rw [roundsIn_succ];refine h i w B oC oL ω a _ S (fun e st' a' w' oC' oL' ω' out S' E hk ho=>?_)
   cases e with
   | normal =>
    obtain ⟨j,hj,hl⟩:=hk;obtain ⟨ω2,S2⟩:=hl w' B oC' oL' ω' a' S';subst ho;exact ih j a' w' oC' oL' ω2 (by omega) S2 (fun e2 st2 a2 w2 oC2 oL2 ω2 out2 S2 E2 hk2 ho2=>hQ e2 st2 a2 w2 oC2 oL2 ω2 out2 S2 (E.then E2) hk2 ho2)
   | exit id=>obtain ⟨s2,hl,hk⟩:=hk;have h2:=hQ _ s2 a' w' oC' oL' ω' out (hl.2 _ _ _ _ _ _ S') (hl.1 ▸ E) hk ho;subst ho;exact h2
   | goto l=>obtain ⟨s2,hl,hk⟩:=hk;have h2:=hQ _ s2 a' w' oC' oL' ω' out (hl.2 _ _ _ _ _ _ S') (hl.1 ▸ E) hk ho;subst ho;exact h2
   | ret=>obtain ⟨s2,hl,hk⟩:=hk;have h2:=hQ _ s2 a' w' oC' oL' ω' out (hl.2 _ _ _ _ _ _ S') (hl.1 ▸ E) hk ho;subst ho;exact h2
   | panic v=>obtain ⟨s2,hl,hk⟩:=hk;have h2:=hQ _ s2 a' w' oC' oL' ω' out (hl.2 _ _ _ _ _ _ S') (hl.1 ▸ E) hk (by obtain ⟨u,h1,h2⟩:=ho;exact ⟨u,h1,hl.1 ▸ h2⟩);obtain ⟨u,rfl,_⟩:=ho;exact h2
 exact wpIn_loop_rounds (μ i + 1) (key (μ i + 1) i a w oC oL ω (Nat.lt_succ_self _) S hQ)
theorem Ai4 {f:FuncId} {args:List AV} {k:AV->Bool} (hf:((C.P.funcs[f]?).bind (·.body)).isSome=true)
  (h:AWq C (Ef C.P f) (st0 C.P f args) (fun e s=>(e=.ret\/e=.normal)/\Baa C f s k false=true)):ACalls C.P C.G f args (fun v=>k v=true):=by
 obtain ⟨fn,hfn⟩:∃ fn,C.P.funcs[f]?=some fn:=by
  cases hq:C.P.funcs[f]? with
  | none=>rw [hq] at hf;cases hf
  | some fn=>exact ⟨fn,rfl⟩
 obtain ⟨c,hb⟩:∃ c,fn.body=some c:=by
  rw [hfn] at hf;exact Option.isSome_iff_exists.1 hf
 have ec:Ef C.P f=c:=by simp [Ef,hfn,hb]
 rw [ec] at h
 simp only [st0,hfn,Option.map_some,Option.getD_some,Baa] at h
 intro w us bad hg gb bl hr
 refine (Ph (ro:=none) (n:=0)).1 (callsIn_of_wp_marks hfn hb trivial ?_ rfl)
 have H0:Hp w (Or2 bad (fun _=>False)) (fun _=>False) (fun _=>none) 0 []:=⟨fun id hb h=>(by cases h),fun i j b h=>(by cases h),fun b (h:False)=>h.elim⟩
 have M0:MemSim C w bad (fun _=>False) (fun _=>False) (fun _=>none) ⟨[],0,[]⟩:=⟨H0,⟨fun id e h=>(by cases h),fun i j l h=>(by cases h),fun l (h:False)=>h.elim⟩,hg,fun g cells h=>⟨fun h=>h,fun h=>h,gb g cells h⟩,bl⟩
 have hl:RepL w (Or2 bad (fun _=>False)) (fun _=>False) (fun _=>none) 0 (Afe args fn.ntmps) (us ++ Array.replicate (fn.ntmps - us.size) undef) :=
  (Aml hr fn.ntmps).other fun b h1 h2=>⟨h1,fun h=>h.elim h2 (fun h=>h)⟩
 refine h w bad (fun _=>False) (fun _=>False) (fun _=>none) _ _ ⟨hl,trivial,M0⟩ (fun e st' a' w' oC' oL' ω' out S' E hk' ho=>?_)
 obtain ⟨he,hk'⟩:=hk'
 have fin:Iq st'.ds st'.m.lp (fun _=>Uo C fn st' (fun v=>Iz st'.m.heap 6 v k false) false) false=true->LeavesInM (Fr none) 0 C.P fn a'.tmps (fun e w'=>∃ v u,e=.returned u/\k v=true/\Still w w'/\Rep w' bad (fun _=>False) (fun _=>none) 0 v u) a'.defers .returning w':=fun hk'=>by
  refine Adf (k:=fun v _=>Iz st'.m.heap 6 v k false) S' hk' (fun v u lp' w2 h1 M E2 hr2=>?_)
  have hE:=E.then E2.low
  have hown:∀ b,oC' b->¬ Or2 bad oL' b:=fun b ho hbad=>by
   rcases hbad with hbad | hbad
   ·rcases hE.owns b (.inl ho) with h | h
    ·exact h.elim (fun h=>h) (fun h=>h)
    ·have:=bl b hbad;omega
   ·exact (M.lp.dis b hbad).2 ho
  obtain ⟨v',h3,h4⟩:=Uh M.hp hown 6 v k h1;refine ⟨v',u,rfl,h3,⟨hE.os,hE.tape,hE.output,hE.size,fun b hb _=>hE.old b hb (fun h=>h.elim (fun h=>h) (fun h=>h)),fun _ h=>.inl h,Nat.le_refl _,fun _ _=>rfl,hE.row⟩,?_⟩
  exact (h4 u hr2).other fun b _ h2=>⟨fun h=>h,fun h=>h2 (.inl h)⟩
 rcases he with rfl | rfl
 ·subst ho;exact fin hk'
 ·subst ho;exact fin hk'
inductive AC where
 | leaf (c:Code)
 | seq (a b:AC)
 | cond (o:Operand) (a b:AC)
 | block (id:Nat) (a:AC)
 | known (c:Code) (F:St->(Ex->St->Bool)->Bool)
def AC.code:AC->Code
 | .leaf c=>c
 | .seq a b=>.seq a.code b.code
 | .cond o a b=>.cond o a.code b.code
 | .block id a=>.block id a.code
 | .known c _=>c
def AC.Ok (C:Cfg):AC->Prop
 | .leaf _=>True
 | .seq a b=>a.Ok C/\b.Ok C
 | .cond _ a b=>a.Ok C/\b.Ok C
 | .block _ a=>a.Ok C
 | .known c F=>∀ st k,F st k=true->AWq C c st (fun e s=>k e s=true)
def Ai5 (C:Cfg) (n:Nat):AC->St->(Ex->St->Bool)->Bool
 | .leaf c,st,k=>run C n none none c st k false
 | .seq a b,st,k=>Ai5 C n a st (fun e s=>match e with
  | .normal=>Ai5 C n b s k
  | e=>k e s)
 | .cond o a b,st,k=>match evO C st.tmps o with
  | .bool t=>cond t (Ai5 C n a ⟨Ati st.tmps o (.bool true),st.ds,st.m⟩ k) (Ai5 C n b ⟨Ati st.tmps o (.bool false),st.ds,st.m⟩ k)
  | _=>false
 | .block id a,st,k=>Ai5 C n a st (fun e s=>match e with
  | .exit id'=>cond (Nat.beq id' id) (k .normal s) (k (.exit id') s)
  | e=>k e s)
 | .known _ F,st,k=>F st k
theorem Jw (hC:C.Ok) {n:Nat}:∀ (ac:AC) (st:St) (k:Ex->St->Bool),ac.Ok C->Ai5 C n ac st k=true->AWq C ac.code st (fun e s=>k e s=true)
 | .leaf c,st,k,_,h=>AWp.q (fun w B oC oL ω a Q ro S hI hQ=>(Rh hC n).1 none c st k w B oC oL ω a Q ro h S hI hQ)
 | .seq a b,st,k,hok,h=>AWq.seq ((Jw hC a st _ hok.1 h).mono fun e s hk=>by
   cases e with
   | normal=>exact Jw hC b s k hok.2 hk
   | exit id=>exact hk
   | goto l=>exact hk
   | ret=>exact hk
   | panic v=>exact hk)
 | .cond o a b,st,k,hok,h=>by
  simp only [Ai5] at h;split at h
  ·rename_i t ht
   have hset:∀ b,b=t->Ati st.tmps o (.bool b)=st.tmps:=fun b e=>by
    subst e;cases o with
    | tmp d=>exact Uu ht
    | _=>rfl
   refine AWq.cond ht (fun e=>?_) (fun e=>?_)
   ·subst e
    rw [hset true rfl] at h;exact Jw hC a st k hok.1 h
   ·subst e
    rw [hset false rfl] at h;exact Jw hC b st k hok.2 h
  ·cases h
 | .block id a,st,k,hok,h=>AWq.block ((Jw hC a st _ hok h).mono fun e s hk=>by
   cases e with
   | normal=>exact hk
   | exit id' =>
    rcases Dt hk with ⟨h1,h2⟩ | ⟨h1,h2⟩
    ·exact ⟨fun _=>h2,fun hn=>absurd (Dw h1) hn⟩
    ·exact ⟨fun he=>(by rw [(Ea _ _).2 he] at h1;cases h1),fun _=>h2⟩
   | goto l=>exact hk
   | ret=>exact hk
   | panic v=>exact hk)
 | .known c F,st,k,hok,h=>hok st k h
def Dx:Code->List Code
 | .seq a b=>Dx a ++ Dx b
 | .cond _ a b=>Dx a ++ Dx b
 | .block _ a=>Dx a
 | .loop b=>[.loop b]
 | .rangeFunc g ps asv b=>[.rangeFunc g ps asv b]
 | _=>[]
abbrev LF:=St->(Ex->St->Bool)->Bool
def mkA:Code->List LF->AC
 | .seq a b,l=>match Dx a with
  | []=>match Dx b with
   | []=>.leaf (.seq a b)
   | _=>.seq (.leaf a) (mkA b l)
  | x :: r=>.seq (mkA a l) (mkA b (l.drop (r.length + 1)))
 | .cond o a b,l=>match Dx a with
  | []=>match Dx b with
   | []=>.leaf (.cond o a b)
   | _=>.cond o (.leaf a) (mkA b l)
  | x :: r=>.cond o (mkA a l) (mkA b (l.drop (r.length + 1)))
 | .block id a,l=>.block id (mkA a l)
 | .loop b,F :: _=>.known (.loop b) F
 | .rangeFunc g ps asv b,F :: _=>.known (.rangeFunc g ps asv b) F
 | c,_=>.leaf c
theorem Jh:∀ (c:Code) (l:List LF),(mkA c l).code=c
 | .seq a b,l=>by
  unfold mkA;split
  ·split
   ·rfl
   ·show Code.seq a (mkA b l).code=_;rw [Jh b l]
  ·show Code.seq (mkA a l).code (mkA b _).code=_;rw [Jh a,Jh b]
 | .cond o a b,l=>by
  unfold mkA;split
  ·split
   ·rfl
   ·show Code.cond o a (mkA b l).code=_;rw [Jh b l]
  ·show Code.cond o (mkA a l).code (mkA b _).code=_;rw [Jh a,Jh b]
 | .block id a,l=>by show Code.block id (mkA a l).code=_;rw [Jh a]
 | .loop b,[]=>rfl
 | .loop b,_ :: _=>rfl
 | .rangeFunc g ps asv b,[]=>rfl
 | .rangeFunc g ps asv b,_ :: _=>rfl
 | .skip,_=>rfl
 | .label _,_=>rfl
 | .ret,_=>rfl
 | .exit _,_=>rfl
 | .goto _,_=>rfl
 | .scope _,_=>rfl
 | .region _ _ _,_=>rfl
 | .refuse _,_=>rfl
def LoopsOk (C:Cfg):List Code->List LF->Prop
 | c :: cs,F :: Fs=>(∀ st k,F st k=true->AWq C c st (fun e s=>k e s=true))/\LoopsOk C cs Fs
 | _,_=>True
theorem LoopsOk.left:∀ {a b:List Code} {l:List LF},LoopsOk C (a ++ b) l->LoopsOk C a l
 | [],_,[],_=>trivial
 | [],_,_ :: _,_=>trivial
 | _ :: _,_,[],_=>trivial
 | _ :: _,_,_ :: _,h=>⟨h.1,LoopsOk.left h.2⟩
theorem LoopsOk.right:∀ {a b:List Code} {l:List LF},LoopsOk C (a ++ b) l->LoopsOk C b (l.drop a.length)
 | [],_,l,h=>h
 | _ :: _,b,[],_=>by cases b <;> trivial
 | _ :: a,b,_ :: l,h=>LoopsOk.right (a:=a) (b:=b) (l:=l) h.2
theorem Ui:∀ (c:Code) (l:List LF),LoopsOk C (Dx c) l->(mkA c l).Ok C
 | .seq a b,l,h=>by
  unfold mkA;have h:LoopsOk C (Dx a ++ Dx b) l:=h;split
  ·rename_i ha
   split
   ·exact trivial
   ·rw [ha] at h;exact ⟨trivial,Ui b l h⟩
  ·rename_i x r ha
   have h2:=h.right;rw [ha] at h2;exact ⟨Ui a l h.left,Ui b _ h2⟩
 | .cond o a b,l,h=>by
  unfold mkA;have h:LoopsOk C (Dx a ++ Dx b) l:=h;split
  ·rename_i ha
   split
   ·exact trivial
   ·rw [ha] at h;exact ⟨trivial,Ui b l h⟩
  ·rename_i x r ha
   have h2:=h.right;rw [ha] at h2;exact ⟨Ui a l h.left,Ui b _ h2⟩
 | .block id a,l,h=>Ui a l h
 | .loop b,[],_=>trivial
 | .loop b,F :: _,h=>h.1
 | .rangeFunc g ps asv b,[],_=>trivial
 | .rangeFunc g ps asv b,F :: _,h=>h.1
 | .skip,_,_=>trivial
 | .label _,_,_=>trivial
 | .ret,_,_=>trivial
 | .exit _,_,_=>trivial
 | .goto _,_,_=>trivial
 | .scope _,_,_=>trivial
 | .region _ _ _,_,_=>trivial
 | .refuse _,_,_=>trivial
def Fv (c:Code):List Nat->Code
 | []=>c
 | n :: r=>match (Dx c)[n]? with
  | some (.loop b)=>Fv b r
  | some (.rangeFunc _ _ _ b)=>Fv b r
  | _=>.skip
def Aqr:Code->Code
 | .rangeFunc _ _ a _=>a
 | _=>.skip
def Akt (c:Code) (n:Nat):Code:=((Dx c)[n]?).getD .skip
def runM (C:Cfg) (n:Nat) (c:Code) (l:List LF) (st:St) (k:Ex->St->Bool):Bool:=Ai5 C n (mkA c l) st k
theorem AWq.runM (hC:C.Ok) {n:Nat} {c:Code} {l:List LF} (hl:LoopsOk C (Dx c) l) (h:∀ k:Ex->St->Bool,(∀ e s,K e s->k e s=true)->Bas.runM C n c l st k=true):AWq C c st K:=by
 classical
 have:=Jw hC (mkA c l) st _ (Ui c l hl) (h (fun e s=>decide (K e s)) (fun e s hk=>Ddt hk))
 rw [Jh] at this
 exact this.mono fun e s hk=>Odt hk
def Aqs (C:Cfg) (n:Nat) (f:FuncId) (l:List LF) (args:List AV) (k:AV->Bool):Bool :=
 runM C n (Ef C.P f) l (st0 C.P f args) (fun e s=>match e with
  | .ret=>Baa C f s k false
  | .normal=>Baa C f s k false
  | _=>false)
theorem Aqt (hC:C.Ok) {n:Nat} {f:FuncId} {l:List LF} {args:List AV} {k:AV->Bool} (hf:((C.P.funcs[f]?).bind (·.body)).isSome=true) (hok:LoopsOk C (Dx (Ef C.P f)) l) (h:Aqs C n f l args k=true):ACalls C.P C.G f args (fun v=>k v=true) :=
 Ai4 hf (by
  have:=Jw hC _ _ _ (Ui (Ef C.P f) l hok) h;rw [Jh] at this;refine this.mono fun e s hk=>?_
  cases e with
  | ret=>exact ⟨.inl rfl,hk⟩
  | normal=>exact ⟨.inr rfl,hk⟩
  | exit id=>cases hk
  | goto l=>cases hk
  | panic v=>cases hk)
theorem Aar {P:Program} {G:Nat->Option (List AV)} {q:FuncId->Bool} (h:Base P) {l:List Sum} (hl:∀ s ∈ l,Bc P G s) {f:FuncId} {fs:List LF} {args:List AV} {r:AV} {n:Nat} (hf:((P.funcs[f]?).bind (·.body)).isSome=true) (hok:LoopsOk ⟨P,G,Oa l,q,fun _=>none⟩ (Dx (Ef P f)) fs)
  (hrun:∀ k:AV->Bool,k r=true->Aqs ⟨P,G,Oa l,q,fun _=>none⟩ n f fs args k=true):ACalls P G f args (fun v=>v=r):=by
 classical
 have:=Aqt (Xx h hl) hf hok (hrun (fun v=>decide (v=r)) (by simp))
 exact this.mono fun v hv=>by simpa using hv
def AC.OkP (C:Cfg):AC->Prop
 | .leaf _=>True
 | .seq a b=>a.OkP C/\b.OkP C
 | .cond _ a b=>a.OkP C/\b.OkP C
 | .block _ a=>a.OkP C
 | .known c F=>∀ st k,F st k=true->AWp C none c st (fun e s=>k e s=true)
theorem Jy (hC:C.Ok) {n:Nat}:∀ (ac:AC) (st:St) (k:Ex->St->Bool),ac.OkP C->Ai5 C n ac st k=true->AWp C none ac.code st (fun e s=>k e s=true)
 | .leaf c,st,k,_,h=>fun w B oC oL ω a Q ro S hI hQ=>(Rh hC n).1 none c st k w B oC oL ω a Q ro h S hI hQ
 | .seq a b,st,k,hok,h=>AWp.seq ((Jy hC a st _ hok.1 h).mono fun e s hk=>by
   cases e with
   | normal=>exact Jy hC b s k hok.2 hk
   | exit id=>exact hk
   | goto l=>exact hk
   | ret=>exact hk
   | panic v=>exact hk)
 | .cond o a b,st,k,hok,h=>by
  simp only [Ai5] at h;split at h
  ·rename_i t ht
   have hset:∀ b,b=t->Ati st.tmps o (.bool b)=st.tmps:=fun b e=>by
    subst e;cases o with
    | tmp d=>exact Uu ht
    | _=>rfl
   refine AWp.cond ht (fun e=>?_) (fun e=>?_)
   ·subst e
    rw [hset true rfl] at h;exact Jy hC a st k hok.1 h
   ·subst e
    rw [hset false rfl] at h;exact Jy hC b st k hok.2 h
  ·cases h
 | .block id a,st,k,hok,h=>AWp.block ((Jy hC a st _ hok h).mono fun e s hk=>by
   cases e with
   | normal=>exact hk
   | exit id' =>
    rcases Dt hk with ⟨h1,h2⟩ | ⟨h1,h2⟩
    ·exact ⟨fun _=>h2,fun hn=>absurd (Dw h1) hn⟩
    ·exact ⟨fun he=>(by rw [(Ea _ _).2 he] at h1;cases h1),fun _=>h2⟩
   | goto l=>exact hk
   | ret=>exact hk
   | panic v=>exact hk)
 | .known c F,st,k,hok,h=>hok st k h
def LoopsOkP (C:Cfg):List Code->List LF->Prop
 | c :: cs,F :: Fs=>(∀ st k,F st k=true->AWp C none c st (fun e s=>k e s=true))/\LoopsOkP C cs Fs
 | _,_=>True
theorem LoopsOkP.left:∀ {a b:List Code} {l:List LF},LoopsOkP C (a ++ b) l->LoopsOkP C a l
 | [],_,[],_=>trivial
 | [],_,_ :: _,_=>trivial
 | _ :: _,_,[],_=>trivial
 | _ :: _,_,_ :: _,h=>⟨h.1,LoopsOkP.left h.2⟩
theorem LoopsOkP.right:∀ {a b:List Code} {l:List LF},LoopsOkP C (a ++ b) l->LoopsOkP C b (l.drop a.length)
 | [],_,l,h=>h
 | _ :: _,b,[],_=>by cases b <;> trivial
 | _ :: a,b,_ :: l,h=>LoopsOkP.right (a:=a) (b:=b) (l:=l) h.2
theorem Qy:∀ (c:Code) (l:List LF),LoopsOkP C (Dx c) l->(mkA c l).OkP C
 | .seq a b,l,h=>by
  unfold mkA;have h:LoopsOkP C (Dx a ++ Dx b) l:=h;split
  ·rename_i ha
   split
   ·exact trivial
   ·rw [ha] at h;exact ⟨trivial,Qy b l h⟩
  ·rename_i x r ha
   have h2:=h.right;rw [ha] at h2;exact ⟨Qy a l h.left,Qy b _ h2⟩
 | .cond o a b,l,h=>by
  unfold mkA;have h:LoopsOkP C (Dx a ++ Dx b) l:=h;split
  ·rename_i ha
   split
   ·exact trivial
   ·rw [ha] at h;exact ⟨trivial,Qy b l h⟩
  ·rename_i x r ha
   have h2:=h.right;rw [ha] at h2;exact ⟨Qy a l h.left,Qy b _ h2⟩
 | .block id a,l,h=>Qy a l h
 | .loop b,[],_=>trivial
 | .loop b,F :: _,h=>h.1
 | .rangeFunc g ps asv b,[],_=>trivial
 | .rangeFunc g ps asv b,F :: _,h=>h.1
 | .skip,_,_=>trivial
 | .label _,_,_=>trivial
 | .ret,_,_=>trivial
 | .exit _,_,_=>trivial
 | .goto _,_,_=>trivial
 | .scope _,_,_=>trivial
 | .region _ _ _,_,_=>trivial
 | .refuse _,_,_=>trivial
theorem AWp.runM (hC:C.Ok) {n:Nat} {c:Code} {l:List LF} (hl:LoopsOkP C (Dx c) l) (h:∀ k:Ex->St->Bool,(∀ e s,K e s->k e s=true)->Bas.runM C n c l st k=true):AWp C none c st K:=by
 classical
 have:=Jy hC (mkA c l) st _ (Qy c l hl) (h (fun e s=>decide (K e s)) (fun e s hk=>Ddt hk))
 rw [Jh] at this
 exact this.mono fun e s hk=>Odt hk
def Ag4:List (Nat × AV)->Nat->AV
 | [],_=>.any
 | p :: r,i=>cond (Nat.beq p.1 i) p.2 (Ag4 r i)
def Ab0 (live:List (Nat × AV)):Nat->Nat->List AV
 | 0,_=>[]
 | n + 1,i=>Ag4 live i :: Ab0 live n (i + 1)
def fill (n:Nat) (live:List (Nat × AV)):List AV:=Ab0 live n 0
theorem Vp (live:List (Nat × AV)):∀ (n i:Nat),(Ab0 live n i).length=n
 | 0,_=>rfl
 | n + 1,i=>by simp [Ab0,Vp live n]
theorem Aku (live:List (Nat × AV)):∀ (n i j:Nat) (h:j < (Ab0 live n i).length),(Ab0 live n i)[j]=Ag4 live (i + j)
 | 0,i,j,h=>absurd h (Nat.not_lt_zero _)
 | n + 1,i,0,h=>rfl
 | n + 1,i,j + 1,h=>by
  have:=Aku live n (i + 1) j (by simpa [Ab0] using h)
  rw [show i + (j + 1)=i + 1 + j by omega,<- this]
  rfl
def Aqu (tmps:List AV):List (Nat × AV)->Prop
 | []=>True
 | p :: r=>lget tmps p.1=p.2/\Aqu tmps r
theorem P6 {tmps:List AV}:Aqu tmps []:=trivial
theorem Bz {tmps:List AV} {i:Nat} {v:AV} {r:List (Nat × AV)} (h:lget tmps i=v) (hr:Aqu tmps r):Aqu tmps ((i,v) :: r):=⟨h,hr⟩
theorem Aqv (tmps:List AV):∀ (live:List (Nat × AV)),Aqu tmps live->∀ i,Ag4 live i=.any\/Ag4 live i=lget tmps i
 | [],_,_=>.inl rfl
 | p :: r,h,i=>by
  simp only [Ag4];cases hb:Nat.beq p.1 i with
  | true=>rw [<- Dw hb];exact .inr h.1.symm
  | false=>exact Aqv tmps r h.2 i
theorem LessS.fill {st:St} {n:Nat} {live:List (Nat × AV)} {ds:List Nat} {m:Mem} (hn:st.tmps.length=n) (hl:Aqu st.tmps live) (hd:st.ds=ds) (hm:st.m=m):LessS C st ⟨Bas.fill n live,ds,m⟩:=by
 subst hd hm
 refine ⟨rfl,fun w B oC oL ω a S=>⟨⟨(Vp live n 0).trans (hn.symm.trans S.tm.1),fun i hi=>?_⟩,S.dn,S.ms⟩⟩
 have hi':i < st.tmps.length:=by
  have:i < (Ab0 live n 0).length:=hi;rw [Vp] at this;omega
 have e:(Bas.fill n live)[i]=Ag4 live i:=by
  show (Ab0 live n 0)[i]=_;rw [Aku live n 0 i hi,Nat.zero_add]
 show Rep w (Or2 B oL) oC ω st.m.nx (Bas.fill n live)[i] _
 rw [e]
 rcases Aqv st.tmps live hl i with h | h
 ·rw [h];exact .any _ _
 ·rw [h,Ja,List.getD_eq_getElem?_getD,List.getElem?_eq_getElem hi']
  exact S.tm.2 i hi'
def A3q (p:Nat × HB) (h:Heap):Heap:=List.rec (motive:=fun _=>Heap) [p] (fun q r ih=>cond (Nat.ble q.1 p.1) (p :: q :: r) (q :: ih)) h
def A3r (h:Heap):Heap:=List.rec (motive:=fun _=>Heap) [] (fun p _ ih=>A3q p ih) h
theorem Akv (p:Nat × HB) (id:Nat):∀ h:Heap,Dl (A3q p h) id=cond (Nat.beq p.1 id) (some p.2) (Dl h id)
 | []=>rfl
 | q :: r=>by
  show Dl (cond (Nat.ble q.1 p.1) (p :: q :: r) (q :: A3q p r)) id=_;cases hb:Nat.ble q.1 p.1 with
  | true=>rfl
  | false =>
   show cond (Nat.beq q.1 id) (some q.2) (Dl (A3q p r) id)=cond (Nat.beq p.1 id) (some p.2) (cond (Nat.beq q.1 id) (some q.2) (Dl r id));rw [Akv p id r];cases h1:Nat.beq q.1 id with
   | false=>rfl
   | true =>
    cases h2:Nat.beq p.1 id with
    | false=>rfl
    | true =>
     have e1:=Dw h1;have e2:=Dw h2;rw [e1,e2,Nat.ble_eq_true_of_le (Nat.le_refl _)] at hb;cases hb
theorem Vq:∀ (h:Heap) (id:Nat),Dl (A3r h) id=Dl h id
 | [],_=>rfl
 | p :: r,id=>by
  show Dl (A3q p (A3r r)) id=cond (Nat.beq p.1 id) (some p.2) (Dl r id);rw [Akv,Vq r id]
def msort (m:Mem):Mem:=⟨A3r m.heap,m.nx,m.lp⟩
theorem LessS.sort (st:St):LessS C st ⟨st.tmps,st.ds,msort st.m⟩:=⟨rfl,fun w B oC oL ω a S=>⟨S.tm,S.dn,⟨⟨fun id hb h=>S.ms.hp.rel id hb ((Vq _ _).symm.trans h),fun i j b h1 h2=>S.ms.hp.inj i j b (by rwa [<- Vq]) (by rwa [<- Vq]),S.ms.hp.ob⟩,S.ms.lp,S.ms.gl,S.ms.gb,S.ms.bl⟩⟩⟩
theorem LessS.trans {st st1 st2:St} (h:LessS C st st1) (h':LessS C st1 st2):LessS C st st2:=⟨h'.1.trans h.1,fun w B oC oL ω a S=>h'.2 _ _ _ _ _ _ (h.2 _ _ _ _ _ _ S)⟩
theorem Less.fill {st:St} {n:Nat} {live:List (Nat × AV)} {ds:List Nat} {m:Mem} (hn:st.tmps.length=n) (hl:Aqu st.tmps live) (hd:st.ds=ds) (hm:st.m=m):Less C st ⟨Bas.fill n live,ds,m⟩:=(LessS.fill hn hl hd hm).less
theorem A3s {go:Ur Bool} {z:Bool} {f:FuncId} {fn:Func} {c:Code} {args:List AV} {m:Mem} {kk kp:AV->Mem->Bool} (hfn:C.P.funcs[f]?=some fn) (hb:fn.body=some c) (hX:C.X f=none) (hS:C.S f=none) (hQ:C.Q f=false) :
  Lu C go z (.fn f) args m kk kp=go none none c ⟨Afe args fn.ntmps,[],m⟩ (fun e st'=>match e with
    | .ret=>Iq st'.ds st'.m.lp (fun lp=>Uo C fn st' (fun v=>kk v ⟨st'.m.heap,st'.m.nx,lp⟩) z) z
    | .normal=>Iq st'.ds st'.m.lp (fun lp=>Uo C fn st' (fun v=>kk v ⟨st'.m.heap,st'.m.nx,lp⟩) z) z
    | .panic v=>Iq st'.ds st'.m.lp (fun lp=>kp v ⟨st'.m.heap,st'.m.nx,lp⟩) z
    | _=>z) z:=by
 simp only [Lu,hX,Xo,hfn,hb,hS,hQ,cond_false]
 congr 1
theorem fn_is {P:Program} {f:FuncId} {n r:Nat} (h:((P.funcs[f]?).map fun fn=>(fn.body.isSome,fn.ntmps,fn.results.toList.length))=some (true,n,r)) :
  ∃ fn,P.funcs[f]?=some fn/\fn.body=some (Ef P f)/\fn.ntmps=n/\fn.results.toList.length=r:=by
 cases hq:P.funcs[f]? with
 | none=>rw [hq] at h;cases h
 | some fn =>
  rw [hq] at h;simp only [Option.map_some,Option.some.injEq,Prod.mk.injEq] at h;obtain ⟨c,hb⟩:=Option.isSome_iff_exists.1 h.1;exact ⟨fn,rfl,by simp [Ef,hq,hb],h.2.1,h.2.2⟩
def Ag5 (ls:List Nat) (l:List AV):Nat->List AV:=List.rec (motive:=fun _=>Nat->List AV) (fun _=>[]) (fun a _ ih i=>(cond (Jl ls i) a .any) :: ih (i + 1)) l
theorem Qz (ls:List Nat):∀ (l:List AV) (i:Nat),(Ag5 ls l i).length=l.length
 | [],_=>rfl
 | a :: r,i=>congrArg (· + 1) (Qz ls r (i + 1))
theorem Akw (ls:List Nat):∀ (l:List AV) (i j:Nat) (h:j < (Ag5 ls l i).length) (h':j < l.length),(Ag5 ls l i)[j]=.any\/(Ag5 ls l i)[j]=l[j]
 | [],i,j,h,h'=>absurd h' (Nat.not_lt_zero _)
 | a :: r,i,0,h,h'=>by
  show cond (Jl ls i) a .any=.any\/cond (Jl ls i) a .any=a;cases Jl ls i
  ·exact .inl rfl
  ·exact .inr rfl
 | a :: r,i,j + 1,h,h'=>Akw ls r (i + 1) j (by rw [Qz] at *;simpa using h') (by simpa using h')
def Qj (ls:List Nat) (st:St):St:=⟨Ag5 ls st.tmps 0,st.ds,msort st.m⟩
theorem LessS.keep (ls:List Nat) (st:St):LessS C st (Qj ls st) :=
 (LessS.sort st).trans ⟨rfl,fun w B oC oL ω a S=>⟨⟨(Qz ls st.tmps 0).trans S.tm.1,fun i hi=>by
  have hi':i < st.tmps.length:=by
   have:i < (Ag5 ls st.tmps 0).length:=hi
   rwa [Qz] at this
  show Rep _ _ _ _ _ (Ag5 ls st.tmps 0)[i] _
  rcases Akw ls st.tmps 0 i hi hi' with e | e
  ·rw [e];exact .any _ _
  ·rw [e];exact S.tm.2 i hi'⟩,S.dn,S.ms⟩⟩
theorem AWp.runK (hC:C.Ok) (ls:List Nat) {inr:Option Nat} {n:Nat} {code:Code} (h:∀ k:Ex->St->Bool,(∀ e s,K e s->k e s=true)->Bas.run C n inr none code st (fun e s=>k e (Qj ls s)) false=true):AWp C inr code st K:=by
 classical
 have h1:=h (fun e s=>decide (K e s)) (fun e s h=>Ddt h)
 have h0:AWp C inr code st (fun e s=>decide (K e (Qj ls s))=true):=fun w B oC oL ω a Q ro S hI hQ=>(Rh hC n).1 inr code st _ w B oC oL ω a Q ro h1 S hI hQ
 exact h0.post fun e s hk=>⟨_,LessS.keep ls s,Odt hk⟩
theorem AWq.runK (hC:C.Ok) (ls:List Nat) {n:Nat} {code:Code} (h:∀ k:Ex->St->Bool,(∀ e s,K e s->k e s=true)->Bas.run C n none none code st (fun e s=>k e (Qj ls s)) false=true):AWq C code st K:=(AWp.runK hC ls h).q
end
end
end Go.Bas
end
section
namespace Go.Bas
noncomputable section
open Go.RowKit
def AV.under (n:Nat):Nat->AV->Bool
 | 0,_=>false
 | _ + 1,.ptr id _=>Nat.blt id n
 | _ + 1,.sl id _ _ _ _=>Nat.blt id n
 | _ + 1,.yld id=>Nat.blt id n
 | d + 1,.fn _ a b=>a.all (AV.under n d)&&b.all (AV.under n d)
 | d + 1,.iface _ v=>AV.under n d v
 | d + 1,.agg cs=>cs.all (AV.under n d)
 | d + 1,.tup cs=>cs.all (AV.under n d)
 | _ + 1,_=>true
theorem Xy {a b:Nat} (h:Nat.blt a b=true):a < b:=Nlb h
theorem Rep.lower {w:World} {B:Nat->Prop} {own:Nat->Prop} {ω:Nat->Option Nat} {nx:Nat} {v:AV} {u:Value}
  (h:Rep w B own ω nx v u):∀ {d n:Nat},v.under n d=true->Rep w B own ω n v u:=by
 induction h with
 | any=>intro _ _ _;exact .any _ _
 | bool=>intro _ _ _;exact .bool _ _
 | int=>intro _ _ _;exact .int _ _ _
 | str=>intro _ _ _;exact .str _ _
 | nilp=>intro _ _ _;exact .nilp _
 | ptr nx id off b hi hw =>
  intro d n hd;cases d with
  | zero=>cases hd
  | succ d=>exact .ptr _ _ _ _ (Xy hd) hw
 | iptr nx cells off b o vs hb hc hr _=>intro _ _ _;exact .iptr _ _ _ b o vs hb hc hr
 | nils=>intro _ _ _;exact .nils _
 | lst nx cells n cap b o vs hb hn hc hr _=>intro _ _ _;exact .lst _ _ _ _ b o vs hb hn hc hr
 | lstn=>intro _ _ _;exact .lstn _ _ _
 | es nx a=>intro _ _ _;exact .es _ _
 | ns nx p c=>intro _ _ _;exact .ns _ _ _
 | sl nx id off n sz cap b hi hw hn =>
  intro d m hd;cases d with
  | zero=>cases hd
  | succ d=>exact .sl _ _ _ _ _ _ _ (Xy hd) hw hn
 | sla nx id n sz cap b hi hw hn hcm hrow =>
  intro d m hd;cases d with
  | zero=>cases hd
  | succ d=>exact .sla _ _ _ _ _ _ (Xy hd) hw hn hcm hrow
 | yld nx id l hi hw =>
  intro d m hd;cases d with
  | zero=>cases hd
  | succ d=>exact .yld _ _ _ (Xy hd) hw
 | fn nx f first cap fs cs h1 h2 _ _ ih1 ih2 =>
  intro d m hd;cases d with
  | zero=>cases hd
  | succ d =>
   simp only [AV.under,Bae,List.all_eq_true] at hd;exact .fn _ _ _ _ _ _ h1 h2 (fun i hi=>ih1 i hi (hd.1 _ (List.getElem_mem hi))) (fun i hi=>ih2 i hi (hd.2 _ (List.getElem_mem hi)))
 | nilfn=>intro _ _ _;exact .nilfn _
 | iface nx t v u _ ih =>
  intro d m hd;cases d with
  | zero=>cases hd
  | succ d=>exact .iface _ _ _ _ (ih hd)
 | niliface=>intro _ _ _;exact .niliface _
 | agg nx cs vs h1 _ ih =>
  intro d m hd;cases d with
  | zero=>cases hd
  | succ d =>
   simp only [AV.under,List.all_eq_true] at hd;exact .agg _ _ _ h1 (fun i hi=>ih i hi (hd _ (List.getElem_mem hi)))
 | tup nx cs vs h1 _ ih =>
  intro d m hd;cases d with
  | zero=>cases hd
  | succ d =>
   simp only [AV.under,List.all_eq_true] at hd;exact .tup _ _ _ h1 (fun i hi=>ih i hi (hd _ (List.getElem_mem hi)))
def Aqw (n:Nat) (h:Heap):Heap:=List.rec (motive:=fun _=>Heap) [] (fun p _ ih=>cond (Nat.blt p.1 n) (p :: ih) ih) h
theorem L6 (n id:Nat) (hb:HB):∀ h:Heap,Dl (Aqw n h) id=some hb->id < n/\Dl h id=some hb
 | [],h=>by cases h
 | p :: r,h=>by
  have e:Aqw n (p :: r)=cond (Nat.blt p.1 n) (p :: Aqw n r) (Aqw n r):=rfl;rw [e] at h;rw [Ei p.1 p.2 r];cases h1:Nat.blt p.1 n with
  | true =>
   rw [h1] at h;have h:cond (Nat.beq p.1 id) (some p.2) (Dl (Aqw n r) id)=some hb:=h;cases h2:Nat.beq p.1 id with
   | true =>
    rw [h2] at h;exact ⟨Dw h2 ▸ Xy h1,h⟩
   | false =>
    rw [h2] at h;exact L6 n id hb r h
  | false =>
   rw [h1] at h;obtain ⟨a,b⟩:=L6 n id hb r h;cases h2:Nat.beq p.1 id with
   | true =>
    have:=Dw h2;subst this;have:Nat.blt p.1 n=true:=Nat.ble_eq_true_of_le a;rw [h1] at this;cases this
   | false=>exact ⟨a,b⟩
def Awn (n:Nat) (st:St):Bool:=st.tmps.all (AV.under n 8)&&((Aqw n st.m.heap).all (fun p=>p.2.pure || p.2.cells.all (AV.under n 8)))
theorem Aqx {h:Heap} {id:Nat} {hb:HB}:Dl h id=some hb->∃ p ∈ h,p.2=hb:=by
 induction h with
 | nil=>intro h;cases h
 | cons p r ih =>
  intro h;rw [Ei p.1 p.2 r] at h;cases hc:Nat.beq p.1 id with
  | true=>rw [hc] at h;exact ⟨p,List.mem_cons_self ..,Option.some.inj h⟩
  | false=>rw [hc] at h;obtain ⟨q,hq,e⟩:=ih h;exact ⟨q,List.mem_cons_of_mem _ hq,e⟩
theorem Less.drop {C:Cfg} {st:St} (n:Nat) (hn:n<=st.m.nx) (hds:st.ds=[]) (hlp:st.m.lp=[]) (hok:Awn n st=true):Less C st ⟨st.tmps,[],⟨Aqw n st.m.heap,n,[]⟩⟩:=fun w B oC oL ω a S=>by
 simp only [Awn,Bae,List.all_eq_true] at hok
 refine ⟨ω,⟨S.tm.1,fun i hi=>(S.tm.2 i hi).lower (hok.1 _ (List.getElem_mem hi))⟩,?_,⟨⟨fun id hb h=>?_,fun i j b h1 h2=>?_,S.ms.hp.ob⟩,⟨fun id e h=>(by cases h),fun i j l h=>(by cases h),S.ms.lp.dis⟩,S.ms.gl,S.ms.gb,S.ms.bl⟩⟩
 ·have:=S.dn
  rw [hds] at this;show Marks ω n [] a.defers;cases hq:a.defers with
  | nil=>exact trivial
  | cons x xs=>rw [hq] at this;exact this.elim
 ·obtain ⟨h1,h2⟩:=L6 n id hb _ h
  obtain ⟨q1,b,arr,q2,q3,q4,q5,q6⟩:=S.ms.hp.rel id hb h2;refine ⟨h1,b,arr,q2,q3,q4,q5,fun i hi=>?_⟩
  have:=q6 i hi;cases hp:hb.pure with
  | true=>rw [hp] at this;exact this
  | false =>
   rw [hp] at this;obtain ⟨p,hp1,hp2⟩:=Aqx h;have h3:=hok.2 p hp1;rw [hp2,hp,Bool.false_or,List.all_eq_true] at h3;exact this.lower (h3 _ (List.getElem_mem hi))
 ·obtain ⟨x1,e1⟩:=Option.isSome_iff_exists.1 h1
  obtain ⟨x2,e2⟩:=Option.isSome_iff_exists.1 h2;obtain ⟨_,e1⟩:=L6 n i x1 _ e1;obtain ⟨_,e2⟩:=L6 n j x2 _ e2;exact S.ms.hp.inj i j b (by rw [e1];rfl) (by rw [e2];rfl)
section
variable {C:Cfg} {K K':Ex->St->Prop} {st:St}
theorem AWq.runMK (hC:C.Ok) (ls:List Nat) {n:Nat} {c:Code} {l:List LF} (hl:LoopsOk C (Dx c) l) (h:∀ k:Ex->St->Bool,(∀ e s,K e s->k e s=true)->Bas.runM C n c l st (fun e s=>k e (Qj ls s))=true):AWq C c st K:=by
 classical
 have h1:=h (fun e s=>decide (K e s)) (fun e s h=>Ddt h)
 have:=Jw hC (mkA c l) st _ (Ui c l hl) h1
 rw [Jh] at this
 intro w B oC oL ω a Q S hQ
 refine this w B oC oL ω a Q S (fun e st' a' w' oC' oL' ω' out S' E hK ho=>?_)
 have hl:=LessS.keep (C:=C) ls st'
 refine hQ e (Qj ls st') a' w' oC' oL' ω' out (hl.2 _ _ _ _ _ _ S') (hl.1 ▸ E) (Odt hK) ?_
 cases e with
 | panic v=>obtain ⟨u,h1,h2⟩:=ho;exact ⟨u,h1,hl.1 ▸ h2⟩
 | _=>exact ho
end
end
end Go.Bas
end
section
namespace Go.Bas
noncomputable section
open Go.RowKit
section
variable {C:Cfg}
theorem AWp.region (hC:C.Ok) {inr:Option Nat} {id:Nat} {ops:Array Oper} {st:St} {k:Ex->St->Bool}
  (h:Ags C (Lu C (goA C) false) ops ops.toList st (fun st'=>k .normal st') (fun v st'=>k (.panic v) st') false=true) :
  AWp C inr (.region id ops false) st (fun e s=>k e s=true):=fun w B oC oL ω a Q ro S hI hQ=>by
 refine wpIn_region ?_
 have:=Adc (ro:=ro) (Q:=Q) (ops:=ops) (Sj hC Aty) ops.toList 0 rfl st a w oC oL ω h S (fun st' a' w' oC' oL' ω' S' E hk'=>hQ .normal _ _ _ _ _ _ _ S' E hk' rfl)
  (fun v u st' a' w' oC' oL' ω' S' E hk' hr=>hQ (.panic v) _ _ _ _ _ _ _ S' E hk' ⟨u,rfl,hr⟩)
 rw [List.range_eq_range']
 simpa using this
theorem At1 (hC:C.Ok) {f:FuncId} {fn:Func} {c:Code} (hfn:C.P.funcs[f]?=some fn) (hb:fn.body=some c) (hX:C.X f=none) (hS:C.S f=none) (hQ:C.Q f=false) {F:List AV->Mem->TrM}
  (h:∀ args m (kk:AV->Mem->Bool),(F args m).ev kk false=true->AWp C none c ⟨Afe args fn.ntmps,[],m⟩ (fun e st'=>(e=.ret\/e=.normal)/\Iq st'.ds st'.m.lp (fun lp=>Uo C fn st' (fun v=>kk v ⟨st'.m.heap,st'.m.nx,lp⟩) false) false=true)):InpOk C f F:=fun args m kk w B oC oL ω us hk M hr=>by
 refine Sj hC Aty (.fn f) args m kk (fun _ _=>false) w B oC oL ω us ?_ M hr
 rw [A3s hfn hb hX hS hQ]
 refine A3p ((h args m kk hk).mono fun e s he=>?_)
 rcases he with ⟨rfl | rfl,he⟩
 ·exact he
 ·exact he
def LessD (C:Cfg) (n:Nat) (st st':St):Prop:=n<=st'.m.nx/\st'.m.nx<=st.m.nx/\∀ (w:World) (B oC oL:Nat->Prop) (ω:Nat->Option Nat) (a:Act),Sim C w B oC oL ω st a->Sim C w B oC oL ω st' a
theorem LessS.d {st st':St} (h:LessS C st st'):LessD C st.m.nx st st':=⟨by rw [h.1];exact Nat.le_refl _,by rw [h.1];exact Nat.le_refl _,h.2⟩
theorem LessD.trans {n:Nat} {st st1 st2:St} (h:LessD C n st st1) (h':LessD C n st1 st2):LessD C n st st2:=⟨h'.1,Nat.le_trans h'.2.1 h.2.1,fun w B oC oL ω a S=>h'.2.2 _ _ _ _ _ _ (h.2.2 _ _ _ _ _ _ S)⟩
theorem ExtR.lowN {w w':World} {oC oL oC' oL':Nat->Prop} {ω ω':Nat->Option Nat} {nx nx' n':Nat} (E:ExtR w oC oL ω nx w' oC' oL' ω' nx') (h:nx<=n'):ExtR w oC oL ω nx w' oC' oL' ω' n' :=
 ⟨E.os,E.tape,E.output,E.size,E.old,E.owns,h,E.om,E.row⟩
def Bh9 (n:Nat) (st:St):Bool:=(st.m.lp.all fun p=>Nat.blt p.1 n&&(match p.2 with
 | .dfb=>true
 | .lop _ _ tmps _ _ _ d=>tmps.all (AV.under n 8)&&Nat.blt d n))&&st.ds.all (fun d=>Nat.blt d n)
theorem Azi {lp:N7} {id:Nat} {e:LB}:Gw lp id=some e->∃ p ∈ lp,p.1=id/\p.2=e:=by
 induction lp with
 | nil=>intro h;cases h
 | cons p r ih =>
  intro h;simp only [Gw] at h;cases hc:Nat.beq p.1 id with
  | true=>rw [hc] at h;exact ⟨p,List.mem_cons_self ..,Dw hc,Option.some.inj h⟩
  | false=>rw [hc] at h;obtain ⟨q,hq,e⟩:=ih h;exact ⟨q,List.mem_cons_of_mem _ hq,e⟩
theorem Marks.low {ω:Nat->Option Nat} {nx n:Nat}:∀ {ds:List Nat} {xs:List Deferred},Marks ω nx ds xs->(∀ d ∈ ds,Nat.blt d n=true)->Marks ω n ds xs
 | [],[],_,_=>trivial
 | d :: ds,x :: xs,h,hd=>⟨⟨Xy (hd d (List.mem_cons_self ..)),h.1.2⟩,Marks.low h.2 (fun e he=>hd e (List.mem_cons_of_mem _ he))⟩
 | [],_ :: _,h,_=>h.elim
 | _ :: _,[],h,_=>h.elim
theorem LessD.drop {st:St} (n base:Nat) (hb:base<=n) (hn:n<=st.m.nx) (hok:Awn n st=true) (hlp:Bh9 n st=true):LessD C base st ⟨st.tmps,st.ds,⟨Aqw n st.m.heap,n,st.m.lp⟩⟩:=⟨hb,hn,fun w B oC oL ω a S=>by
 simp only [Awn,Bae,List.all_eq_true] at hok
 simp only [Bh9,Bae,List.all_eq_true] at hlp
 refine ⟨⟨S.tm.1,fun i hi=>(S.tm.2 i hi).lower (hok.1 _ (List.getElem_mem hi))⟩,S.dn.low hlp.2,⟨⟨fun id hb h=>?_,fun i j b h1 h2=>?_,S.ms.hp.ob⟩,⟨fun id e h=>?_,S.ms.lp.inj,S.ms.lp.dis⟩,S.ms.gl,S.ms.gb,S.ms.bl⟩⟩
 ·obtain ⟨h1,h2⟩:=L6 n id hb _ h
  obtain ⟨q1,b,arr,q2,q3,q4,q5,q6⟩:=S.ms.hp.rel id hb h2;refine ⟨h1,b,arr,q2,q3,q4,q5,fun i hi=>?_⟩
  have:=q6 i hi;cases hp:hb.pure with
  | true=>rw [hp] at this;exact this
  | false =>
   rw [hp] at this;obtain ⟨p,hp1,hp2⟩:=Aqx h;have h3:=hok.2 p hp1;rw [hp2,hp,Bool.false_or,List.all_eq_true] at h3;exact this.lower (h3 _ (List.getElem_mem hi))
 ·obtain ⟨x1,e1⟩:=Option.isSome_iff_exists.1 h1
  obtain ⟨x2,e2⟩:=Option.isSome_iff_exists.1 h2;obtain ⟨_,e1⟩:=L6 n i x1 _ e1;obtain ⟨_,e2⟩:=L6 n j x2 _ e2;exact S.ms.hp.inj i j b (by rw [e1];rfl) (by rw [e2];rfl)
 ·obtain ⟨p,hp1,rfl,rfl⟩:=Azi h
  obtain ⟨g1,l,g2,g3,g4⟩:=S.ms.lp.rel p.1 p.2 h;obtain ⟨k1,k2⟩:=hlp.1 p hp1;refine ⟨Xy k1,l,g2,g3,?_⟩;cases hq:p.2 with
  | dfb=>rw [hq] at g4;exact g4
  | lop s pend tmps params asg body d =>
   rw [hq] at g4 k2;simp only [Bae,List.all_eq_true] at k2;obtain ⟨r,r1,r2,r3,r4,r5,r6,r7,r8,r9,r10⟩:=g4;exact ⟨r,r1,r2,r3,r4,⟨r5.1,fun i hi=>(r5.2 i hi).lower (k2.1 _ (List.getElem_mem hi))⟩,r6,r7,r8,Xy k2.2,r10⟩⟩
theorem AWp.loopD {K:Ex->St->Prop} {ι:Type} {inr:Option Nat} {body:Code} (I:ι->St) (n0:Nat) (hn0:∀ i,(I i).m.nx=n0) (μ:ι->Nat) (h:∀ i,AWp C inr body (I i) (fun e s=>match e with | .normal=>∃ j,μ j < μ i/\LessD C n0 s (I j) | .panic _=>False | e=>∃ s',LessD C n0 s s'/\K e s')) (i:ι):AWp C inr (.loop body) (I i) K:=fun w B oC oL ω a Q ro S hI hQ=>by
 have key:∀ (m:Nat) (i:ι) (a:Act) (w:World) (oC oL:Nat->Prop) (ω:Nat->Option Nat),μ i < m->Sim C w B oC oL ω (I i) a->InR ω (I i).m.nx inr ro ->
   (∀ e st' a' w' oC' oL' ω' out,Sim C w' B oC' oL' ω' st' a'->ExtR w oC oL ω (I i).m.nx w' oC' oL' ω' st'.m.nx->K e st'->Agv w' B oC' oL' ω' st'.m.nx e out->Q out a' w')->Code.roundsIn (Fr ro) 0 C.P body Q m a w:=by
  intro m
  induction m with
  | zero=>intro i a w oC oL ω h;exact absurd h (Nat.not_lt_zero _)
  | succ m ih =>
   intro i a w oC oL ω hm S hI hQ;rw [roundsIn_succ];refine h i w B oC oL ω a _ ro S hI (fun e st' a' w' oC' oL' ω' out S' E hk ho=>?_)
   cases e with
   | normal =>
    obtain ⟨j,hj,hl⟩:=hk;subst ho;have E1:ExtR w oC oL ω (I i).m.nx w' oC' oL' ω' (I j).m.nx:=E.lowN (by rw [hn0,hn0];exact Nat.le_refl _)
    exact ih j a' w' oC' oL' ω' (by omega) (hl.2.2 _ _ _ _ _ _ S') (hI.ext E1) (fun e2 st2 a2 w2 oC2 oL2 ω2 out2 S2 E2 hk2 ho2=>hQ e2 st2 a2 w2 oC2 oL2 ω2 out2 S2 (E1.trans E2) hk2 ho2)
   | exit id =>
    obtain ⟨s',hl,hk⟩:=hk;subst ho;exact hQ (.exit id) s' a' w' oC' oL' ω' _ (hl.2.2 _ _ _ _ _ _ S') (E.lowN (by rw [hn0];exact hl.1)) hk rfl
   | goto l =>
    obtain ⟨s',hl,hk⟩:=hk;subst ho;exact hQ (.goto l) s' a' w' oC' oL' ω' _ (hl.2.2 _ _ _ _ _ _ S') (E.lowN (by rw [hn0];exact hl.1)) hk rfl
   | ret =>
    obtain ⟨s',hl,hk⟩:=hk;subst ho;exact hQ .ret s' a' w' oC' oL' ω' _ (hl.2.2 _ _ _ _ _ _ S') (E.lowN (by rw [hn0];exact hl.1)) hk rfl
   | panic v=>exact hk.elim
 exact wpIn_loop_rounds (μ i + 1) (key (μ i + 1) i a w oC oL ω (Nat.lt_succ_self _) S hI hQ)
end
end
end Go.Bas
end
section
namespace Go.Bas
open Go.RowKit
section
variable {F:Fence} {n:Nat} {P:Program} {Q:Exit->Act->World->Prop} {a:Act} {w:World} {c:Code}
def Awo (F:Fence) (n:Nat) (P:Program) (c:Code) (Q:Exit->Act->World->Prop) (a:Act) (w:World):Prop :=
 ∀ (b:Frame) (k:List Item) (cs:List Frame),b.roundOf=F.round->F.fn b.fn->F.room (cs.length + 1 + n) ->
  ∃ e a' w',Q e a' w'/\ArrivesIn (Machine.fenced P F) P (lone (b.atR a (.code c :: .inLoop c :: k)) cs w) b k cs e a' w'
theorem A3t (h:Awo F n P c Q a w):(Code.loop c).wpIn F n P Q a w:=fun b k cs hro hb hr=>by
 obtain ⟨e,a',w',hq,harr⟩:=h b k cs hro hb hr
 exact ⟨e,a',w',hq,.of_steps (.one (fenced_calm hb hr rfl) stepR_loop) harr⟩
theorem At3 (h:c.wpIn F n P (Exit.then (Awo F n P c Q) Q) a w):Awo F n P c Q a w:=fun b k cs hro hb hr=>by
 obtain ⟨e,a₁,w₁,hq,harr⟩:=h b (.inLoop c :: k) cs hro hb hr
 cases e with
 | normal =>
  obtain ⟨e₂,a₂,w₂,hq₂,harr₂⟩:=hq b k cs hro hb hr;exact ⟨e₂,a₂,w₂,hq₂,.of_steps (StepsIn.trans harr (.one (fenced_calm hb hr rfl) stepR_inLoop)) harr₂⟩
 | exit id=>exact ⟨_,a₁,w₁,hq,.pass (x:=.inLoop c) rfl (fun _ _=>.inl (by simp)) harr⟩
 | goto l=>exact ⟨_,a₁,w₁,hq,.pass (x:=.inLoop c) rfl (fun _ _=>.inl (by simp)) harr⟩
 | ret=>exact ⟨_,a₁,w₁,hq,.pass (x:=.inLoop c) rfl (fun _ _=>.inl (by simp)) harr⟩
 | panic ch=>exact ⟨_,a₁,w₁,hq,.pass (x:=.inLoop c) rfl (fun _ _=>.inl (by simp)) harr⟩
 | outgrown=>exact ⟨_,a₁,w₁,hq,.pass (x:=.inLoop c) rfl (fun _ _=>.inl (by simp)) harr⟩
end
section
variable {C:Cfg} {K:Ex->St->Prop} {st:St} {inr:Option Nat} {body:Code}
def AWr (C:Cfg) (inr:Option Nat) (body:Code) (st:St) (K:Ex->St->Prop):Prop :=
 ∀ (w:World) (B oC oL:Nat->Prop) (ω:Nat->Option Nat) (a:Act) (Q:Exit->Act->World->Prop) (ro:Option Nat),Sim C w B oC oL ω st a->InR ω st.m.nx inr ro ->
  (∀ e st' a' w' oC' oL' ω' out,Sim C w' B oC' oL' ω' st' a'->ExtR w oC oL ω st.m.nx w' oC' oL' ω' st'.m.nx->K e st'->Agv w' B oC' oL' ω' st'.m.nx e out->Q out a' w')->Awo (Fr ro) 0 C.P body Q a w
theorem AWr.loop (h:AWr C inr body st K):AWp C inr (.loop body) st K:=fun w B oC oL ω a Q ro S hI hQ=>A3t (h w B oC oL ω a Q ro S hI hQ)
theorem AWr.step (h:AWp C inr body st (fun e s=>match e with | .normal=>AWr C inr body s K | e=>K e s)):AWr C inr body st K:=fun w B oC oL ω a Q ro S hI hQ=>by
 refine At3 (h w B oC oL ω a _ ro S hI (fun e st' a' w' oC' oL' ω' out S' E hk ho=>?_))
 cases e with
 | normal =>
  subst ho;exact hk w' B oC' oL' ω' a' Q ro S' (hI.ext E) (fun e2 st2 a2 w2 oC2 oL2 ω2 out2 S2 E2 hk2 ho2=>hQ e2 st2 a2 w2 oC2 oL2 ω2 out2 S2 (E.trans E2) hk2 ho2)
 | exit id=>have h2:=hQ _ st' a' w' oC' oL' ω' out S' E hk ho;subst ho;exact h2
 | goto l=>have h2:=hQ _ st' a' w' oC' oL' ω' out S' E hk ho;subst ho;exact h2
 | ret=>have h2:=hQ _ st' a' w' oC' oL' ω' out S' E hk ho;subst ho;exact h2
 | panic v=>have h2:=hQ _ st' a' w' oC' oL' ω' out S' E hk ho;obtain ⟨u,rfl,_⟩:=ho;exact h2
theorem AWr.less {st':St} (h:LessS C st st') (hw:AWr C inr body st' K):AWr C inr body st K:=fun w B oC oL ω a Q ro S hI hQ =>
 hw w B oC oL ω a Q ro (h.2 _ _ _ _ _ _ S) (h.1 ▸ hI) (fun e s a' w' oC' oL' ω' out S' E hk ho=>hQ e s a' w' oC' oL' ω' out S' (h.1 ▸ E) hk ho)
end
end Go.Bas
end
section
namespace Go.Bas
open Go.RowKit Go.ChangeShapes Go.WideShapes
def Aqy (f:DataW Unit->Option (List Value)):List (DataW Unit)->Option (List Value)
 | []=>some []
 | d :: r=>match f d,Aqy f r with
  | some a,some b=>some (a ++ b)
  | _,_=>none
def Akx:Nat->DataW Unit->Option (List Value)
 | 0,_=>none
 | n + 1,d=>match d with
  | .lit (.bool b)=>some [.bool b]
  | .lit (.int k n)=>some [.int k n]
  | .agg ds=>Aqy (Akx n) ds
  | _=>none
def Zw (P:Program):Nat->TypeId->Bool
 | 0,_=>false
 | n + 1,t=>match P.underlying t with
  | some .bool=>true
  | some (.int _)=>true
  | some (.array m e)=>cond (Nat.beq (P.cellsOf t) (m * P.cellsOf e)) (Zw P n e) false
  | _=>false
theorem A3u {α:Type}:∀ (n k:Nat) (cs:List α),cs.length=n * k->cs=((List.range n).map fun i=>(cs.drop (i * k)).take k).flatten
 | 0,k,cs,h=>by
  have:cs=[]:=List.eq_nil_of_length_eq_zero (by simpa using h)
  simp [this]
 | n + 1,k,cs,h=>by
  have hk:(cs.drop k).length=n * k:=by rw [List.length_drop,h,Nat.succ_mul];omega
  have ih:=A3u n k (cs.drop k) hk;rw [List.range_succ_eq_map];simp only [List.map_cons,Nat.zero_mul,List.drop_zero,List.flatten_cons,List.map_map]
  have e:((List.range n).map ((fun i=>(cs.drop (i * k)).take k) ∘ Nat.succ))=(List.range n).map fun i=>((cs.drop k).drop (i * k)).take k:=List.map_congr_left fun i _=>by
   simp only [Function.comp,List.drop_drop,Nat.succ_mul];rw [Nat.add_comm k (i * k)]
  rw [e,<- ih,List.take_append_drop]
theorem Ag6 {f:DataW Unit->Option (List Value)}:∀ {ds:List (DataW Unit)} {l:List Value},Aqy f ds=some l->∃ ls:List (List Value),l=ls.flatten/\ls.length=ds.length/\∀ (i:Nat) (d:DataW Unit),ds[i]?=some d->∃ a,ls[i]?=some a/\f d=some a
 | [],l,h=>⟨[],by simpa [Aqy] using h.symm,rfl,fun i d hd=>by simp at hd⟩
 | d :: r,l,h=>by
  simp only [Aqy] at h;split at h
  ·rename_i a b h1 h2
   obtain ⟨ls,e1,e2,e3⟩:=Ag6 h2;refine ⟨a :: ls,by simpa [e1] using h.symm,by simp [e2],fun i d' hd=>?_⟩
   cases i with
   | zero=>simp at hd;subst hd;exact ⟨a,rfl,h1⟩
   | succ i=>simpa using e3 i d' (by simpa using hd)
  ·cases h
variable {P:Program} {w:World} {base:Nat} {spare:Nat->Bool} {held:Bool}
theorem Aky:∀ (n:Nat) (t:TypeId) (fuel:Nat) (cs:List Value) (d:DataW Unit) (ps:List MemPlace) (l:List Value),Zw P n t=true->DataW.trod (fun _=>()) P w base spare held fuel t cs=some (d,ps)->Akx n d=some l->cs=l
 | 0,_,_,_,_,_,_,h,_,_=>by cases h
 | n + 1,t,fuel,cs,d,ps,l,h,hx,hl=>by
  simp only [Zw] at h;split at h
  ·rename_i hu
   obtain ⟨b,rfl,e⟩:=DataW.trod_bool hu hx;obtain ⟨rfl,_⟩:=Prod.mk.inj e
   simpa [Akx] using hl
  ·rename_i k hu
   obtain ⟨b,rfl,e,_⟩:=DataW.trod_int hu hx;obtain ⟨rfl,_⟩:=Prod.mk.inj e
   simpa [Akx] using hl
  ·rename_i m e hu
   rcases Dt h with ⟨h1,h2⟩ | ⟨_,h⟩
   ·replace h1:=Dw h1
    obtain ⟨xs,f1,rfl,ex,hlen,hn,hel⟩:=DataW.trod_array hu hx;obtain ⟨rfl,_⟩:=Prod.mk.inj ex;simp only [Akx] at hl;obtain ⟨ls,rfl,e2,e3⟩:=Ag6 hl;rw [A3u m (P.cellsOf e) cs (hlen.trans h1)]
    congr 1
    refine List.ext_getElem? fun i=>?_
    by_cases hi:i < m
    ·have h4:=hel i hi
     rw [List.getElem?_eq_getElem (by omega)] at h4
     obtain ⟨a,a1,a2⟩:=e3 i (xs[i]'(by omega)).1 (by simp [show i < xs.length by omega])
     have:=Aky n e f1 _ _ _ a h2 h4 a2;rw [a1,List.getElem?_map,List.getElem?_range hi,Option.map_some,this]
    ·rw [List.getElem?_eq_none (by simp;omega),List.getElem?_eq_none (by rw [e2];simp;omega)]
   ·cases h
  ·cases h
def GOk1 (g:Nat) (l:List Value) (w:World):Prop:=g < w.heap.size/\∀ i (hi:i < l.length),w.cell? ⟨g,i,none⟩=some l[i]
theorem Ag7 {P:Program} {w:World} {name:String} {g:Nat} {cs:Array Value} {fuel:Nat} {t t':TypeId} {d:DataW Unit} {ps:List MemPlace} {l:List Value} {g':Nat} (hg:P.globalNamed name=some g') (hg':P.globalNamed name=some g) (ht:(P.globals[g']?).map (·.type)=some t') (ht':(P.globals[g]?).map (·.type)=some t)
  (hv:w.var? P name=some cs) (hd:DataW.trod (fun _=>()) P w base spare held fuel t cs.toList=some (d,ps)) (hok:Zw P 8 t'=true) (hl:Akx 8 d=some l) (hpos:(match l with | []=>false | _=>true)=true):GOk1 g' l w:=by
 obtain rfl:=Option.some.inj (hg.symm.trans hg')
 obtain rfl:=Option.some.inj (ht.symm.trans ht')
 have e:=Aky 8 t' fuel cs.toList d ps l hok hd hl
 have cell:∀ i (hi:i < l.length),w.cell? ⟨g',i,none⟩=some l[i]:=fun i hi=>by
  rw [World.var?_cell hg hv i,<- Array.getElem?_toList,e,List.getElem?_eq_getElem hi]
 refine ⟨?_,cell⟩
 cases l with
 | nil=>cases hpos
 | cons x r =>
  have:=cell 0 (by simp)
  rcases Nat.lt_or_ge g' w.heap.size with h | h
  ·exact h
  ·simp [World.cell?,Array.getElem?_eq_none h] at this
def Cb:List (Nat × List AV)->Nat->Option (List AV)
 | [],_=>none
 | x :: r,g=>cond (Nat.beq x.1 g) (some x.2) (Cb r g)
def GsOk (w:World):List (Nat × List AV)->Prop
 | []=>True
 | x :: r=>(∃ l,x.2=l.map ofS/\GOk1 x.1 l w)/\GsOk w r
theorem A3v:∀ {gs:List (Nat × List AV)} {w:World},GsOk w gs->GOk (Cb gs) w
 | [],w,_=>fun g cells h=>by cases h
 | x :: r,w,h=>fun g cells hg=>by
  simp only [Cb] at hg
  rcases (show (Nat.beq x.1 g=true/\some x.2=some cells)\/(Nat.beq x.1 g=false/\Cb r g=some cells) by cases hb:Nat.beq x.1 g <;> rw [hb] at hg <;> simp_all) with ⟨h1,h2⟩ | ⟨h1,h2⟩
  ·obtain ⟨⟨l,e,k1,k2⟩,_⟩:=h
   have hx:=Dw h1;subst hx;obtain rfl:=Option.some.inj h2;rw [e];refine ⟨k1,fun i=>l.getD i undef,fun i hi=>?_,fun i hi w' B own ω nx=>?_⟩
   ·have hi':i < l.length:=by simpa using hi
    show _=some (l.getD i undef);rw [k2 i hi',List.getD_eq_getElem?_getD,List.getElem?_eq_getElem hi',Option.getD_some]
   ·have hi':i < l.length:=by simpa using hi
    show Rep w' B own ω nx _ (l.getD i undef);rw [List.getElem_map,List.getD_eq_getElem?_getD,List.getElem?_eq_getElem hi',Option.getD_some];exact Vb _ _ _ _ _ _
  ·exact A3v h.2 g cells h2
end Go.Bas
end
section
namespace Go.Bas
noncomputable section
open Go.RowKit
inductive Tr where
 | leaf (l:List AV)
 | bad
 | br (b:Bool) (x y:Tr)
section
variable {Ω:Type}
def Tr.ev (t:Tr) (k:List AV->Ω) (z:Ω):Ω:=Tr.rec (motive:=fun _=>Ω) k z (fun b _ _ x y=>cond b x y) t
theorem Tr.ev_br (b:Bool) (x y:Tr) (k:List AV->Ω) (z:Ω):(Tr.br b x y).ev k z=cond b (x.ev k z) (y.ev k z):=rfl
def Aqz:List CK->List AV->Bool
 | [],[]=>true
 | .b :: ks,.bool _ :: r=>Aqz ks r
 | .i k :: ks,.int k' _ :: r=>G9 k k'&&Aqz ks r
 | _,_=>false
def Tr.fits (ks:List CK):Tr->Bool
 | .leaf l=>Aqz ks l
 | .bad=>true
 | .br _ x y=>x.fits ks&&y.fits ks
def Tr.int (t:Tr) (j:Nat):Int:=t.ev (fun l=>(lget l j).toI) 0
def Tr.bool (t:Tr) (j:Nat):Bool:=t.ev (fun l=>(lget l j).toB) false
def Tr.ok (t:Tr):Bool:=t.ev (fun _=>true) false
def Tr.mgA (t:Tr):List CK->Nat->List AV
 | [],_=>[]
 | .b :: ks,j=>.bool (t.bool j) :: t.mgA ks (j + 1)
 | .i k :: ks,j=>.int k (t.int j) :: t.mgA ks (j + 1)
 | _ :: ks,j=>.any :: t.mgA ks (j + 1)
def Tr.mg (t:Tr) (ks:List CK):List AV:=t.mgA ks 0
theorem Azj (l:List AV):∀ (i j:Nat),lget (l.drop i) j=lget l (i + j):=fun i j=>by
 rw [Ja,Ja,List.getD_eq_getElem?_getD,List.getD_eq_getElem?_getD,List.getElem?_drop]
theorem Ag8 (l:List AV):∀ (ks:List CK) (j:Nat),Aqz ks (l.drop j)=true->(Tr.leaf l).mgA ks j=l.drop j
 | [],j,h=>by
  cases hd:l.drop j with
  | nil=>rfl
  | cons a r=>rw [hd] at h;cases h
 | c :: ks,j,h=>by
  cases hd:l.drop j with
  | nil=>rw [hd] at h;cases c <;> cases h
  | cons a r =>
   have e0:lget l j=a:=by
    have:=Azj l j 0;rw [hd] at this;exact this.symm
   have er:l.drop (j + 1)=r:=by
    have:(l.drop j).drop 1=l.drop (j + 1):=by rw [List.drop_drop]
    rw [<- this,hd];rfl
   rw [hd] at h;cases c with
   | b =>
    cases a <;> try (cases h)
    rename_i b;have ih:=Ag8 l ks (j + 1) (by rw [er];exact h)
    show AV.bool (lget l j).toB :: (Tr.leaf l).mgA ks (j + 1)=_;rw [ih,e0,er];rfl
   | i k =>
    cases a <;> try (cases h)
    rename_i k' n;simp only [Aqz,Bae] at h;have hk:=kindEq_eq h.1;subst hk;have ih:=Ag8 l ks (j + 1) (by rw [er];exact h.2)
    show AV.int k (lget l j).toI :: (Tr.leaf l).mgA ks (j + 1)=_;rw [ih,e0,er];rfl
   | s=>cases h
   | o=>cases h
theorem Xz (x y:Tr):∀ (ks:List CK) (j:Nat),(Tr.br true x y).mgA ks j=x.mgA ks j
 | [],_=>rfl
 | .b :: ks,j=>by show _ :: (Tr.br true x y).mgA ks (j + 1)=_;rw [Xz x y ks];rfl
 | .i k :: ks,j=>by show _ :: (Tr.br true x y).mgA ks (j + 1)=_;rw [Xz x y ks];rfl
 | .s :: ks,j=>by show _ :: (Tr.br true x y).mgA ks (j + 1)=_;rw [Xz x y ks];rfl
 | .o :: ks,j=>by show _ :: (Tr.br true x y).mgA ks (j + 1)=_;rw [Xz x y ks];rfl
theorem Uw (x y:Tr):∀ (ks:List CK) (j:Nat),(Tr.br false x y).mgA ks j=y.mgA ks j
 | [],_=>rfl
 | .b :: ks,j=>by show _ :: (Tr.br false x y).mgA ks (j + 1)=_;rw [Uw x y ks];rfl
 | .i k :: ks,j=>by show _ :: (Tr.br false x y).mgA ks (j + 1)=_;rw [Uw x y ks];rfl
 | .s :: ks,j=>by show _ :: (Tr.br false x y).mgA ks (j + 1)=_;rw [Uw x y ks];rfl
 | .o :: ks,j=>by show _ :: (Tr.br false x y).mgA ks (j + 1)=_;rw [Uw x y ks];rfl
theorem Tr.merge {ks:List CK} {k:List AV->Ω} {z:Ω}:∀ {t:Tr},t.fits ks=true->t.ok=true->t.ev k z=k (t.mg ks)
 | .leaf l,hf,_=>by
  have h:=Ag8 l ks 0 hf;show k l=k ((Tr.leaf l).mgA ks 0);rw [h];rfl
 | .bad,_,h=>by cases h
 | .br b x y,hf,h=>by
  simp only [Tr.fits,Bae] at hf;cases b with
  | true =>
   show x.ev k z=k ((Tr.br true x y).mgA ks 0);rw [Xz];exact Tr.merge hf.1 h
  | false =>
   show y.ev k z=k ((Tr.br false x y).mgA ks 0);rw [Uw];exact Tr.merge hf.2 h
def Tr.eqv (t u:Tr):Prop:=∀ (Ω:Type) (k:List AV->Ω) (z:Ω),t.ev k z=u.ev k z
theorem Tr.eqv.int {t u:Tr} (h:t.eqv u) (j:Nat):t.int j=u.int j:=h Int _ 0
theorem Tr.eqv.bool {t u:Tr} (h:t.eqv u) (j:Nat):t.bool j=u.bool j:=h Bool _ false
theorem Tr.eqv.ok {t u:Tr} (h:t.eqv u):t.ok=u.ok:=h Bool _ false
theorem Tr.eqv.mgA {t u:Tr} (h:t.eqv u):∀ (ks:List CK) (j:Nat),t.mgA ks j=u.mgA ks j
 | [],_=>rfl
 | .b :: ks,j=>by show AV.bool _ :: _=AV.bool _ :: _;rw [h.bool,h.mgA ks]
 | .i k :: ks,j=>by show AV.int k _ :: _=AV.int k _ :: _;rw [h.int,h.mgA ks]
 | .s :: ks,j=>by show AV.any :: _=AV.any :: _;rw [h.mgA ks]
 | .o :: ks,j=>by show AV.any :: _=AV.any :: _;rw [h.mgA ks]
theorem Tr.eqv.mg {t u:Tr} (h:t.eqv u) (ks:List CK):t.mg ks=u.mg ks:=h.mgA ks 0
end
end
end Go.Bas
end
section
namespace Go.Bas
open Go.RowKit
theorem condI {b x y:Bool} (h1:b=true->x=true) (h2:b=false->y=true):cond b x y=true:=by cases b <;> simp_all
theorem andI {b x:Bool} (h1:b=true) (h2:x=true):(b&&x)=true:=by simp_all
structure Conf where
 (ob ins thr kind str bits cap node batch chunk limit most:Int)
def Conf.av (c:Conf):AV:=.agg [.int .u8 c.ob,.int .i64 c.ins,.int .i64 c.thr,.int .u8 c.kind,.int .i64 c.str,.int .i64 c.bits,.int .i64 c.cap,.int .i64 c.node,.int .i64 c.batch,.int .i64 c.chunk,.int .u64 c.limit,.int .u64 c.most]
def Conf.cells (c:Conf):List AV:=[.int .u8 c.ob,.int .i64 c.ins,.int .i64 c.thr,.int .u8 c.kind,.int .i64 c.str,.int .i64 c.bits,.int .i64 c.cap,.int .i64 c.node,.int .i64 c.batch,.int .i64 c.chunk,.int .u64 c.limit,.int .u64 c.most]
def X0:AV->Option Conf
 | .agg [.int .u8 ob,.int .i64 ins,.int .i64 thr,.int .u8 kind,.int .i64 str,.int .i64 bits,.int .i64 cap,.int .i64 node,.int .i64 batch,.int .i64 chunk,.int .u64 limit,.int .u64 most]=>some ⟨ob,ins,thr,kind,str,bits,cap,node,batch,chunk,limit,most⟩
 | _=>none
theorem L8 {a:AV} {c:Conf} (h:X0 a=some c):a=c.av:=by
 unfold X0 at h
 split at h
 ·simp only [Option.some.injEq] at h
  subst h;rfl
 ·cases h
structure Stg where
 (batch number mask frm:Int)
def Stg.av (s:Stg):AV:=.agg [.int .u64 s.batch,.int .i64 s.number,.int .u64 s.mask,.int .i64 s.frm]
def A3w:AV->Option Stg
 | .agg [.int .u64 b,.int .i64 n,.int .u64 m,.int .i64 f]=>some ⟨b,n,m,f⟩
 | _=>none
theorem At4 {a:AV} {c:Stg} (h:A3w a=some c):a=c.av:=by
 unfold A3w at h
 split at h
 ·simp only [Option.some.injEq] at h
  subst h;rfl
 ·cases h
structure Cel where
 (tag a b c:Int)
def Cel.av (l:Cel):AV:=.agg [.int .u64 l.tag,.int .u64 l.a,.int .u64 l.b,.int .u64 l.c]
def By9:AV->Option Cel
 | .agg [.int .u64 t,.int .u64 a,.int .u64 b,.int .u64 c]=>some ⟨t,a,b,c⟩
 | _=>none
theorem Bwy {a:AV} {c:Cel} (h:By9 a=some c):a=c.av:=by
 unfold By9 at h
 split at h
 ·simp only [Option.some.injEq] at h
  subst h;rfl
 ·cases h
def Adg (g:Conf->AV):List AV->Option (Bool × AV)
 | [a]=>match X0 a with
  | some c=>some (true,g c)
  | none=>none
 | _=>none
def Amm {β:Type} (r:AV->Option β) (p:Conf->β->Bool) (g:Conf->β->AV):List AV->Option (Bool × AV)
 | [a,b]=>match X0 a,r b with
  | some c,some s=>some (p c s,g c s)
  | _,_=>none
 | _=>none
section
variable {P:Program} {G:Nat->Option (List AV)} {f:FuncId}
theorem Vr {g:Conf->AV} (h:∀ c:Conf,ACalls P G f [c.av] (fun v=>v=g c)):Bc P G (f,Adg g):=fun args r hr=>by
 simp only at hr
 unfold Adg at hr
 split at hr
 ·split at hr
  ·rename_i c hc
   cases L8 hc;simp only [Option.some.injEq,Prod.mk.injEq,true_and] at hr;subst hr;exact h c
  ·cases hr
 ·cases hr
theorem Aq0 {β:Type} {rd:AV->Option β} {av:β->AV} (hrd:∀ a s,rd a=some s->a=av s) {p:Conf->β->Bool} {g:Conf->β->AV} (h:∀ (c:Conf) (s:β),p c s=true->ACalls P G f [c.av,av s] (fun v=>v=g c s)):Bc P G (f,Amm rd p g):=fun args r hr=>by
 simp only at hr
 unfold Amm at hr
 split at hr
 ·split at hr
  ·rename_i c s hc hs
   cases L8 hc;cases hrd _ _ hs;simp only [Option.some.injEq,Prod.mk.injEq] at hr;obtain ⟨hp,hr⟩:=hr;subst hr;exact h c s hp
  ·cases hr
 ·cases hr
end
def Jm (is:Bool) (n l m:Int):Bool:=cond is (decide (n>=l)&&decide (n<=m)) (n == 0)
theorem Aek {b:Bool} {n l m:Int}:Jm b n l m=true ↔ (b=true/\l<=n/\n<=m)\/(b=false/\n=0):=by cases b <;> simp [Jm]
theorem Ab1 {b:Bool} {n l m:Int}:Jm b n l m=false ↔ (b=true/\(n < l\/m < n))\/(b=false/\¬ n=0):=by
 cases b
 ·simp [Jm]
 ·simp [Jm];omega
def Awp:List AV->Option (Bool × AV)
 | [.bool b,.int .i64 n,.int .i64 l,.int .i64 m]=>some (true,.bool (Jm b n l m))
 | _=>none
def Ag9 (n:Int):Bool:=decide (n>=2)&&decide (n<=4)
theorem Aha {n:Int}:Ag9 n=true ↔ 2<=n/\n<=4:=by simp [Ag9]
theorem Ael {n:Int}:Ag9 n=false ↔ n < 2\/4 < n:=by simp [Ag9];omega
def Bia:List AV->Option (Bool × AV)
 | [.int .i64 n]=>some (true,.bool (Ag9 n))
 | _=>none
def Bt2 (n:Int):Int:=2 ^ n.toNat
def Ftwo:List AV->Option (Bool × AV)
 | [.int .i64 n]=>some (decide (n<=16),.int .u64 (Bt2 n))
 | _=>none
def Conf.OkP (c:Conf):Prop:=1<=c.ob/\c.ob<=4/\(c.kind=1/\c.str=0/\c.most=0\/c.kind=2/\1<=c.str/\c.str<=4/\1<=c.most/\c.most<=4611686018427387904)/\2<=c.ins/\c.ins<=4/\1<=c.thr/\c.thr<=16 /\
 (c.ob=1/\1<=c.bits/\c.bits<=6\/¬ c.ob=1/\c.bits=0)/\1<=c.cap/\c.cap<=32/\(c.ob=2/\2<=c.node/\c.node<=4/\1<=c.chunk/\c.chunk<=8\/¬ c.ob=2/\c.node=0/\c.chunk=0) /\
 1<=c.batch/\c.batch<=16/\131072<=c.limit/\c.limit<=4611686018427387904
instance (c:Conf):Decidable c.OkP:=by unfold Conf.OkP;infer_instance
def Conf.ok (c:Conf):Bool:=decide c.OkP
theorem Hy {c:Conf}:c.ok=true ↔ c.OkP:=decide_eq_true_iff
def Ahb (c:Conf):Int:=IntKind.wrap .i64 (c.ins + 5)
def Afy (c:Conf):Int:=IntKind.wrap .u64 (c.limit.tdiv 65536)
def lastS (c:Conf):Int:=IntKind.wrap .u64 (IntKind.wrap .u64 (c.limit.tdiv 65536) - 1)
def mayP (c:Conf) (s:Stg):Bool:=decide (1<=s.number/\s.number<=Ahb c/\s.batch < Afy c/\ishr .u64 s.mask c.thr=0/\0<=s.frm/\s.frm < c.thr/\(s.batch=0/\s.number=Ahb c\/¬ s.batch=0/\¬ s.mask=0))
def Bvv (c:Conf) (s:Stg):Bool:=decide (1<=s.number/\s.number<=Ahb c/\s.batch<=lastS c/\0<=s.frm/\s.frm < c.thr/\s.mask < Bt2 c.thr/\(s.batch=0/\s.number=Ahb c\/¬ s.batch=0/\¬ s.mask=0))
theorem Akz {c:Conf} {s:Stg}:mayP c s=true ↔ (1<=s.number/\s.number<=Ahb c/\s.batch < Afy c/\ishr .u64 s.mask c.thr=0/\0<=s.frm/\s.frm < c.thr/\(s.batch=0/\s.number=Ahb c\/¬ s.batch=0/\¬ s.mask=0)):=decide_eq_true_iff
theorem Br5 {c:Conf} {s:Stg}:Bvv c s=true ↔ (1<=s.number/\s.number<=Ahb c/\s.batch<=lastS c/\0<=s.frm/\s.frm < c.thr/\s.mask < Bt2 c.thr/\(s.batch=0/\s.number=Ahb c\/¬ s.batch=0/\¬ s.mask=0)):=decide_eq_true_iff
def Az (c:Conf):Int:=cond c.ok 0 40
def chk (may:Conf->Stg->Bool) (c:Conf) (s:Stg):Int:=cond c.ok (cond (may c s) 0 2) 40
end Go.Bas
namespace Go.Bas
def zif (e x:Int):Int:=cond (decide (e=0)) x 0
end Go.Bas
end
section
namespace Go.Bas
open Go.RowKit
def Tr.total:Tr->Bool
 | .leaf _=>true
 | .bad=>false
 | .br _ x y=>x.total&&y.total
theorem Tr.ok_of_total:∀ {t:Tr},t.total=true->t.ok=true
 | .leaf _,_=>rfl
 | .bad,h=>by cases h
 | .br b x y,h=>by
  simp only [Tr.total,Bae] at h;cases b
  ·exact Tr.ok_of_total (t:=y) h.2
  ·exact Tr.ok_of_total (t:=x) h.1
structure Rd (α:Type) where
 rd:AV->Option α
 av:α->AV
 ok:∀ a x,rd a=some x->a=av x
def rI (k:IntKind):Rd Int:=⟨fun a=>match a with
 | .int k' n=>cond (G9 k' k) (some n) none
 | _=>none,fun n=>.int k n,fun a x h=>by
  split at h
  ·rename_i k' n
   cases hk:G9 k' k with
   | true =>
    rw [hk] at h;cases kindEq_eq hk;cases h;rfl
   | false=>rw [hk] at h;cases h
  ·cases h⟩
def Dp:Rd Conf:=⟨X0,Conf.av,fun _ _=>L8⟩
def rStg:Rd Stg:=⟨A3w,Stg.av,fun _ _=>At4⟩
def Bza:Rd Cel:=⟨By9,Cel.av,fun _ _=>Bwy⟩
section
variable {α β γ δ ε:Type}
def on1 (a:Rd α) (p:α->Bool) (g:α->AV):List AV->Option (Bool × AV)
 | [x]=>match a.rd x with
  | some x=>some (p x,g x)
  | _=>none
 | _=>none
def on2 (a:Rd α) (b:Rd β) (p:α->β->Bool) (g:α->β->AV):List AV->Option (Bool × AV)
 | [x,y]=>match a.rd x,b.rd y with
  | some x,some y=>some (p x y,g x y)
  | _,_=>none
 | _=>none
def on3 (a:Rd α) (b:Rd β) (c:Rd γ) (p:α->β->γ->Bool) (g:α->β->γ->AV):List AV->Option (Bool × AV)
 | [x,y,z]=>match a.rd x,b.rd y,c.rd z with
  | some x,some y,some z=>some (p x y z,g x y z)
  | _,_,_=>none
 | _=>none
def on4 (a:Rd α) (b:Rd β) (c:Rd γ) (d:Rd δ) (p:α->β->γ->δ->Bool) (g:α->β->γ->δ->AV):List AV->Option (Bool × AV)
 | [x,y,z,u]=>match a.rd x,b.rd y,c.rd z,d.rd u with
  | some x,some y,some z,some u=>some (p x y z u,g x y z u)
  | _,_,_,_=>none
 | _=>none
variable {P:Program} {G:Nat->Option (List AV)} {f:FuncId}
theorem Fg {a:Rd α} {p:α->Bool} {g:α->AV} (h:∀ x,p x=true->ACalls P G f [a.av x] (fun v=>v=g x)):Bc P G (f,on1 a p g):=fun args r hr=>by
 simp only at hr
 unfold on1 at hr
 split at hr
 ·split at hr
  ·rename_i x hx
   cases a.ok _ _ hx;simp only [Option.some.injEq,Prod.mk.injEq] at hr;obtain ⟨hp,rfl⟩:=hr;exact h x hp
  ·cases hr
 ·cases hr
theorem Cm {a:Rd α} {b:Rd β} {p:α->β->Bool} {g:α->β->AV} (h:∀ x y,p x y=true->ACalls P G f [a.av x,b.av y] (fun v=>v=g x y)):Bc P G (f,on2 a b p g):=fun args r hr=>by
 simp only at hr
 unfold on2 at hr
 split at hr
 ·split at hr
  ·rename_i x y hx hy
   cases a.ok _ _ hx;cases b.ok _ _ hy;simp only [Option.some.injEq,Prod.mk.injEq] at hr;obtain ⟨hp,rfl⟩:=hr;exact h x y hp
  ·cases hr
 ·cases hr
theorem Hz {a:Rd α} {b:Rd β} {c:Rd γ} {p:α->β->γ->Bool} {g:α->β->γ->AV} (h:∀ x y z,p x y z=true->ACalls P G f [a.av x,b.av y,c.av z] (fun v=>v=g x y z)):Bc P G (f,on3 a b c p g):=fun args r hr=>by
 simp only at hr
 unfold on3 at hr
 split at hr
 ·split at hr
  ·rename_i x y z hx hy hz
   cases a.ok _ _ hx;cases b.ok _ _ hy;cases c.ok _ _ hz;simp only [Option.some.injEq,Prod.mk.injEq] at hr;obtain ⟨hp,rfl⟩:=hr;exact h x y z hp
  ·cases hr
 ·cases hr
theorem Awq {a:Rd α} {b:Rd β} {c:Rd γ} {d:Rd δ} {p:α->β->γ->δ->Bool} {g:α->β->γ->δ->AV} (h:∀ x y z u,p x y z u=true->ACalls P G f [a.av x,b.av y,c.av z,d.av u] (fun v=>v=g x y z u)):Bc P G (f,on4 a b c d p g):=fun args r hr=>by
 simp only at hr
 unfold on4 at hr
 split at hr
 ·split at hr
  ·rename_i x y z u hx hy hz hu
   cases a.ok _ _ hx;cases b.ok _ _ hy;cases c.ok _ _ hz;cases d.ok _ _ hu;simp only [Option.some.injEq,Prod.mk.injEq] at hr;obtain ⟨hp,rfl⟩:=hr;exact h x y z u hp
  ·cases hr
 ·cases hr
end
structure Opr where
 (kind a b c:Int)
def Opr.av (o:Opr):AV:=.agg [.int .u8 o.kind,.int .u32 o.a,.int .u32 o.b,.int .u32 o.c]
def A3x:AV->Option Opr
 | .agg [.int .u8 k,.int .u32 a,.int .u32 b,.int .u32 c]=>some ⟨k,a,b,c⟩
 | _=>none
theorem At5 {a:AV} {c:Opr} (h:A3x a=some c):a=c.av:=by
 unfold A3x at h
 split at h
 ·simp only [Option.some.injEq] at h
  subst h;rfl
 ·cases h
def Ab2:Rd Opr:=⟨A3x,Opr.av,fun _ _=>At5⟩
structure Plc where
 (part a b:Int)
def Plc.av (o:Plc):AV:=.agg [.int .u8 o.part,.int .i64 o.a,.int .i64 o.b]
def A3y:AV->Option Plc
 | .agg [.int .u8 k,.int .i64 a,.int .i64 b]=>some ⟨k,a,b⟩
 | _=>none
theorem At6 {a:AV} {c:Plc} (h:A3y a=some c):a=c.av:=by
 unfold A3y at h
 split at h
 ·simp only [Option.some.injEq] at h
  subst h;rfl
 ·cases h
def Bab:Rd Plc:=⟨A3y,Plc.av,fun _ _=>At6⟩
structure Frm where
 (kind a b pc i j n p h x y:Int)
def Frm.cells (f:Frm):List AV:=[.int .u8 f.kind,.int .u32 f.a,.int .u32 f.b,.int .u8 f.pc,.int .u8 f.i,.int .u8 f.j,.int .u8 f.n,.int .u8 f.p,.int .u8 f.h,.int .u32 f.x,.int .u32 f.y]
def Frm.av (f:Frm):AV:=.agg f.cells
def A3z:AV->Option Frm
 | .agg [.int .u8 kind,.int .u32 a,.int .u32 b,.int .u8 pc,.int .u8 i,.int .u8 j,.int .u8 n,.int .u8 p,.int .u8 h,.int .u32 x,.int .u32 y]=>some ⟨kind,a,b,pc,i,j,n,p,h,x,y⟩
 | _=>none
theorem At7 {a:AV} {c:Frm} (h:A3z a=some c):a=c.av:=by
 unfold A3z at h
 split at h
 ·simp only [Option.some.injEq] at h
  subst h;rfl
 ·cases h
def Ji:Rd Frm:=⟨A3z,Frm.av,fun _ _=>At7⟩
structure TRun where
 (f:Frm) (c:Conf)
def TRun.av (r:TRun):AV:=.iptr (r.f.cells ++ r.c.cells) 0
def At8:AV->Option TRun
 | .iptr [.int .u8 kind,.int .u32 a,.int .u32 b,.int .u8 pc,.int .u8 i,.int .u8 j,.int .u8 n,.int .u8 p,.int .u8 h,.int .u32 x,.int .u32 y,
  .int .u8 ob,.int .i64 ins,.int .i64 thr,.int .u8 ckind,.int .i64 str,.int .i64 bits,.int .i64 cap,.int .i64 node,.int .i64 batch,.int .i64 chunk,.int .u64 limit,.int .u64 most] 0=>some ⟨⟨kind,a,b,pc,i,j,n,p,h,x,y⟩,⟨ob,ins,thr,ckind,str,bits,cap,node,batch,chunk,limit,most⟩⟩
 | _=>none
theorem Aq1 {a:AV} {c:TRun} (h:At8 a=some c):a=c.av:=by
 unfold At8 at h
 split at h
 ·simp only [Option.some.injEq] at h
  subst h;rfl
 ·cases h
def A30:Rd TRun:=⟨At8,TRun.av,fun _ _=>Aq1⟩
structure Dsc where
 (tag k seq kind a b pc i j n p h x y:Int)
def Dsc.frm (d:Dsc):Frm:=⟨d.kind,d.a,d.b,d.pc,d.i,d.j,d.n,d.p,d.h,d.x,d.y⟩
def Dsc.av (f:Dsc):AV:=.agg [.int .u64 f.tag,.int .u8 f.k,.int .u8 f.seq,.int .u8 f.kind,.int .u32 f.a,.int .u32 f.b,.int .u8 f.pc,.int .u8 f.i,.int .u8 f.j,.int .u8 f.n,.int .u8 f.p,.int .u8 f.h,.int .u32 f.x,.int .u32 f.y]
end Go.Bas
end
section
namespace Go.Bas
noncomputable section
open Go.RowKit
def AV.elems:AV->List AV
 | .tup l=>l
 | .agg l=>l
 | _=>[]
def AV.nth:Nat->List AV->AV
 | 0,l=>l.headD .any
 | j + 1,l=>AV.nth j l.tail
def AV.ix (v:AV) (j:Nat):AV:=AV.nth j v.elems
structure Sp where
 has:AV->Bool
 bd:AV->AV
 ok:∀ v,has v=true->v=bd v
def sI (k:IntKind):Sp:=⟨fun v=>match v with
 | .int k' _=>G9 k' k
 | _=>false,fun v=>.int k v.toI,fun v h=>by
  cases v <;> try (cases h)
  rename_i k' n;cases kindEq_eq (show G9 k' k=true from h)
  rfl⟩
def sB:Sp:=⟨fun v=>match v with
 | .bool _=>true
 | _=>false,fun v=>.bool v.toB,fun v h=>by
  cases v <;> try (cases h)
  rfl⟩
def Aua:List Sp->List AV->Bool
 | [],[]=>true
 | s :: r,v :: vs=>s.has v&&Aua r vs
 | _,_=>false
def bdL:List Sp->List AV->List AV
 | [],_=>[]
 | s :: r,vs=>s.bd (vs.headD .any) :: bdL r vs.tail
theorem Amq:∀ {l:List Sp} {vs:List AV},Aua l vs=true->vs=bdL l vs
 | [],[],_=>rfl
 | [],_ :: _,h=>by cases h
 | _ :: _,[],h=>by cases h
 | s :: r,v :: vs,h=>by
  have h:(s.has v&&Aua r vs)=true:=h;simp only [Bae] at h;show v :: vs=s.bd v :: bdL r vs;rw [<- s.ok v h.1,<- Amq h.2]
def sT (l:List Sp):Sp:=⟨fun v=>match v with
 | .tup vs=>Aua l vs
 | _=>false,fun v=>.tup (bdL l v.elems),fun v h=>by
  cases v <;> try (cases h)
  rename_i vs;exact congrArg AV.tup (Amq (show Aua l vs=true from h))⟩
def sG (l:List Sp):Sp:=⟨fun v=>match v with
 | .agg vs=>Aua l vs
 | _=>false,fun v=>.agg (bdL l v.elems),fun v h=>by
  cases v <;> try (cases h)
  rename_i vs;exact congrArg AV.agg (Amq (show Aua l vs=true from h))⟩
theorem A33 {Ω Ω':Type} (g:Ω->Ω') (C:Cfg) (n:Nat) (f:FuncId) (args:List AV) (k:AV->Ω) (z:Ω) :
  g (Ai C n f args k z)=Ai C n f args (fun v=>g (k v)) (g z):=by
 unfold Ai
 split
 ·split
  ·exact Vl (f:=g) (Abu C n) C z _ _ args k
  ·rfl
 ·rfl
def Wv (C:Cfg) (n:Nat) (f:FuncId) (args:List AV):AV:=Ai C n f args (fun v=>v) .any
theorem I4 {C:Cfg} {n:Nat} {f:FuncId} {args:List AV} {P:AV->Bool} (h:Ai C n f args P false=true) :
  P (Wv C n f args)=true/\∀ k:AV->Bool,Ai C n f args k false=k (Wv C n f args):=by
 have key:∀ {Ω:Type} (k:AV->Ω) (z:Ω),Ai C n f args k z=(match Ai C n f args some none with
  | some v=>k v
  | none=>z):=fun k z=>(A33 (fun o:Option AV=>match o with
  | some v=>k v
  | none=>z) C n f args some none).symm
 have h1:=key P false
 have h2:=key (fun v=>v) AV.any
 cases ho:Ai C n f args some none with
 | none=>rw [ho] at h1;rw [h] at h1;cases h1
 | some v =>
  rw [ho] at h1 h2;have e:Wv C n f args=v:=h2;refine ⟨by rw [e,<- h];exact h1.symm,fun k=>?_⟩
  have h3:=key k false;rw [ho] at h3;rw [e];exact h3
theorem H9 {P:Program} {G:Nat->Option (List AV)} (h:Base P) {l:List Sum} (hl:∀ s ∈ l,Bc P G s) {f:FuncId} {args:List AV} {n:Nat} (s:Sp)
  (hr:Ai ⟨P,G,Oa l,fun _=>false,fun _=>none⟩ n f args s.has false=true):ACalls P G f args (fun v=>v=s.bd (Wv ⟨P,G,Oa l,fun _=>false,fun _=>none⟩ n f args)) :=
 Aq h hl (n:=n) fun k hk=>((I4 hr).2 k).trans (by rw [s.ok _ (I4 hr).1];exact hk)
def br (b x y:Bool):Bool:=Bool.rec y x b
theorem btt {b x y:Bool} (hx:x=true) (hy:y=true):br b x y=true:=by
 cases b
 ·exact hy
 ·exact hx
theorem btb {b x y:Bool} (hb:b=true) (hx:x=true):br b x y=true:=by
 cases hb
 exact hx
theorem bdt {b x y:Bool} (hx:b=true->x=true) (hy:b=false->y=true):br b x y=true:=by
 cases b
 ·exact hy rfl
 ·exact hx rfl
theorem btf {b x y:Bool} (hb:b=false) (hy:y=true):br b x y=true:=by
 cases hb
 exact hy
def ba (b x:Bool):Bool:=Bool.rec false x b
theorem band {b x:Bool} (hb:b=true) (hx:x=true):ba b x=true:=by
 cases hb
 exact hx
end
end Go.Bas
end
section
namespace Go.Bas
open Go.RowKit
theorem Aw {b:Bool} (hb:b=true):(b&&true)=true:=by
 cases hb
 rfl
theorem cT {α:Type} {b:Bool} {x y z:α} (h:b=true) (k:x=z):cond b x y=z:=by
 cases h
 exact k
theorem cF {α:Type} {b:Bool} {x y z:α} (h:b=false) (k:y=z):cond b x y=z:=by
 cases h
 exact k
end Go.Bas
end
section
namespace Go.Bas
open Go.RowKit
theorem Aj {a b:Bool} (h:(a&&b)=true):a=true:=by
 cases a
 ·cases h
 ·rfl
theorem Af {a b:Bool} (h:(a&&b)=true):b=true:=by
 cases a
 ·cases h
 ·exact h
structure Se where
 eq:AV->AV->Bool
 ok:∀ a b,eq a b=true->b=a
theorem Bag {b:Bool} (h:cond b true false=true):b=true:=by
 cases b
 ·cases h
 ·rfl
def seI (k:IntKind):Se:=⟨fun a b=>match a,b with
 | .int k1 x,.int k2 y=>G9 k1 k&&(G9 k2 k&&cond (decide (x=y)) true false)
 | _,_=>false,fun a b h=>by
  split at h
  ·rw [Bae,Bae] at h
   rw [kindEq_eq h.1,kindEq_eq h.2.1,Odt (Bag h.2.2)]
  ·cases h⟩
def seB:Se:=⟨fun a b=>match a,b with
 | .bool x,.bool y=>cond x (cond y true false) (cond y false true)
 | _,_=>false,fun a b h=>by
  split at h
  ·rename_i x y
   cases x <;> cases y <;> first | rfl | cases h
  ·cases h⟩
def A34:List Se->List AV->List AV->Bool
 | [],[],[]=>true
 | s :: l,a :: as',b :: bs=>s.eq a b&&A34 l as' bs
 | _,_,_=>false
theorem Amr:∀ {l:List Se} {a b:List AV},A34 l a b=true->b=a
 | [],[],[],_=>rfl
 | s :: l,a :: as',b :: bs,h=>by
  have h:(s.eq a b&&A34 l as' bs)=true:=h;simp only [Bae] at h;rw [s.ok _ _ h.1,Amr h.2]
 | [],[],_ :: _,h=>by cases h
 | [],_ :: _,_,h=>by cases h
 | _ :: _,[],_,h=>by cases h
 | _ :: _,_ :: _,[],h=>by cases h
def seT (l:List Se):Se:=⟨fun a b=>match a,b with
 | .tup x,.tup y=>A34 l x y
 | _,_=>false,fun a b h=>by
  split at h
  ·rw [Amr h]
  ·cases h⟩
def seG (l:List Se):Se:=⟨fun a b=>match a,b with
 | .agg x,.agg y=>A34 l x y
 | _,_=>false,fun a b h=>by
  split at h
  ·rw [Amr h]
  ·cases h⟩
theorem Dh {C:Cfg} {n:Nat} {f:FuncId} {args:List AV} {P:AV->Bool} {r:AV} (h:Ai C n f args P false=true) (hr:∀ w,P w=true->w=r):∀ k:AV->Bool,Ai C n f args k false=k r:=fun k=>by
 have:=I4 h
 rw [this.2 k,hr _ this.1]
theorem Adh {C:Cfg} {n:Nat} {f:FuncId} {args:List AV} {X:AV} (h:∀ k:AV->Bool,Ai C n f args k false=k X):Wv C n f args=X:=by
 classical
 have h1:=(I4 (C:=C) (n:=n) (f:=f) (args:=args) (P:=fun _=>true) (h fun _=>true)).2
 have e:=(h1 fun v=>decide (v=X)).symm.trans (h fun v=>decide (v=X))
 have e:decide (Wv C n f args=X)=decide (X=X):=e
 simpa using e
theorem Fq {t a b:Int} (h:decide (t=a)=true) (hb:decide (a=b)=false):decide (t=b)=false:=by
 rw [Odt h]
 exact hb
theorem Ad {b:Bool} (h:b=true):(!b)=false:=by rw [h];rfl
theorem Am {b:Bool} (h:b=false):(!b)=true:=by rw [h];rfl
theorem Oc {b:Bool} (h:(!b)=true):b=false:=by cases b <;> first | rfl | cases h
theorem Ar {b:Bool} (h:(!b)=false):b=true:=by cases b <;> first | rfl | cases h
end Go.Bas
end
section
namespace Go.Bas.BasZBase
noncomputable section
open Go.RowKit Go.Proofs
def Bk6:List AV:=[.bool false,.bool true,.bool true,.bool false,.bool true,.bool true,.bool false,.bool false,.bool false,.bool true,.bool true,.bool false,.bool true,.bool true,.bool false]
def Bk7:List AV:=[.int .u8 0,.int .u8 1,.int .u8 1,.int .u8 1,.int .u8 2,.int .u8 2,.int .u8 2,.int .u8 2,.int .u8 2,.int .u8 3,.int .u8 3,.int .u8 3,.int .u8 4,.int .u8 4,.int .u8 4]
def Bk8:List AV:=[.int .u8 0,.int .u8 1,.int .u8 56,.int .u8 2,.int .u8 57,.int .u8 49,.int .u8 28,.int .u8 3,.int .u8 61,.int .u8 58,.int .u8 42,.int .u8 50,.int .u8 38,.int .u8 29,.int .u8 17,.int .u8 4,.int .u8 62,.int .u8 47,.int .u8 59,.int .u8 36,.int .u8 45,.int .u8 43,.int .u8 51,.int .u8 22,.int .u8 53,.int .u8 39,.int .u8 33,.int .u8 30,.int .u8 24,.int .u8 18,.int .u8 12,.int .u8 5,.int .u8 63,.int .u8 55,.int .u8 48,.int .u8 27,.int .u8 60,.int .u8 41,.int .u8 37,.int .u8 16,.int .u8 46,.int .u8 35,.int .u8 44,.int .u8 21,.int .u8 52,.int .u8 32,.int .u8 23,.int .u8 11,.int .u8 54,.int .u8 26,.int .u8 40,.int .u8 15,.int .u8 34,.int .u8 20,.int .u8 31,.int .u8 10,.int .u8 25,.int .u8 14,.int .u8 19,.int .u8 9,.int .u8 13,.int .u8 8,.int .u8 7,.int .u8 6]
def Bk9:List AV:=[.int .i64 1,.int .i64 2,.int .i64 4,.int .i64 8,.int .i64 16,.int .i64 1,.int .i64 3,.int .i64 9,.int .i64 27,.int .i64 81,.int .i64 1,.int .i64 4,.int .i64 16,.int .i64 64,.int .i64 256]
def gs:List (Nat × List AV):=[(0,Bk6),(1,Bk7),(2,Bk8),(3,Bk9)]
abbrev cfg (l:List Sum):Cfg:=⟨Tryz.prog,Cb gs,Oa l,fun _=>false,fun _=>none⟩
theorem base:Base Tryz.prog:=⟨by kernel_rfl,by kernel_rfl⟩
def Ahd:Sum:=(135,Awp)
theorem A35 (b:Bool) (n l m:Int) (k:AV->Bool):Ai (cfg []) 300 135 [.bool b,.int .i64 n,.int .i64 l,.int .i64 m] k false=(bif (!b) then (k (AV.bool (decide (n=0)))) else (bif decide (n>=l) then (k (AV.bool (decide (n<=m)))) else (k (AV.bool false)))):=by kernel_rfl
theorem A36:Bc Tryz.prog (Cb gs) Ahd:=fun args r hr=>by
    simp only [Ahd] at hr;unfold Awp at hr;split at hr
    · rename_i b n l m
      simp only [Option.some.injEq,Prod.mk.injEq,true_and] at hr;subst hr;refine Aq base Ap (n:=300) fun k hk=>?_
      refine (A35 _ _ _ _ _).trans ?_;cases b
      · exact hk
      · cases h:decide (n>=l) <;> simp_all [Jm]
    · cases hr
def Aub:Sum:=(137,Bia)
theorem Bla (n:Int) (k:AV->Bool):Ai (cfg []) 300 137 [.int .i64 n] k false=(bif decide (n>=2) then (k (AV.bool (decide (n<=4)))) else (k (AV.bool false))):=by kernel_rfl
theorem Blb:Bc Tryz.prog (Cb gs) Aub:=fun args r hr=>by
    simp only [Aub] at hr;unfold Bia at hr;split at hr
    · rename_i n
      simp only [Option.some.injEq,Prod.mk.injEq,true_and] at hr;subst hr;refine Aq base Ap (n:=300) fun k hk=>?_
      refine (Bla _ _).trans ?_;cases h:decide (n>=2) <;> simp_all [Ag9]
    · cases hr
def Bq:Sum:=(73,Adg fun c=>.int .i64 (Az c))
abbrev zbm0 (c:Conf) (k:AV->Bool):=bif (!decide (c.4=2)) then (bif (!decide (c.12=0)) then (k (AV.int .i64 40)) else (k (AV.int .i64 0))) else (k (AV.int .i64 0))
abbrev zbm1 (c:Conf) (k:AV->Bool):=bif (!(Jm true c.2 2 4)) then (k (AV.int .i64 40)) else (bif (!(Jm true c.3 1 16)) then (k (AV.int .i64 40)) else (bif (!(Jm (decide (c.4=2)) c.5 1 4)) then (k (AV.int .i64 40)) else (bif (!(Jm (decide (c.1=1)) c.6 1 6)) then (k (AV.int .i64 40)) else (bif (!(Jm true c.7 1 32)) then (k (AV.int .i64 40)) else (bif (!(Jm (decide (c.1=2)) c.8 2 4)) then (k (AV.int .i64 40)) else (bif (!(Jm (decide (c.1=2)) c.10 1 8)) then (k (AV.int .i64 40)) else (bif (!(Jm true c.9 1 16)) then (k (AV.int .i64 40)) else (bif decide (c.11 < 131072) then (k (AV.int .i64 40)) else (bif decide (c.11 > 4611686018427387904) then (k (AV.int .i64 40)) else (bif decide (c.4=2) then (bif decide (c.12 < 1) then (k (AV.int .i64 40)) else (bif decide (c.12 > 4611686018427387904) then (k (AV.int .i64 40)) else (zbm0 c k))) else (zbm0 c k)))))))))))
theorem Bah (c:Conf) (k:AV->Bool):Ai (cfg [Ahd]) 300 73 [c.av] k false=(bif decide (c.1 < 1) then (k (AV.int .i64 40)) else (bif decide (c.1 > 4) then (k (AV.int .i64 40)) else (bif (!decide (c.4=1)) then (bif (!decide (c.4=2)) then (k (AV.int .i64 40)) else (zbm1 c k)) else (zbm1 c k)))):=by kernel_rfl
theorem Jn:Bc Tryz.prog (Cb gs) Bq:=Vr fun c=>Aq base (Ah A36 Ap) (n:=300) fun k hk=>by
    rw [Bah];have h1:c.ok=true->k (.int .i64 0)=true:=fun h=>by rw [Az,h] at hk;exact hk
    have h2:c.ok=false->k (.int .i64 40)=true:=fun h=>by rw [Az,h] at hk;exact hk
    clear hk
    repeat' (first | refine condI (fun h=>?_) (fun h=>?_) | refine andI ?_ ?_)
    all_goals first
      | (refine h1 (Ddt ?_)
         clear h1 h2;simp only [Aek,Ab1,Dte,Dni,Bool.not_eq_true',Bool.not_eq_false',true_and,false_and,or_false,false_or,and_true,and_false,reduceCtorEq,ge_iff_le,gt_iff_lt] at *;unfold Conf.OkP;omega)
      | (refine h2 (Ddf ?_)
         clear h1 h2;simp only [Aek,Ab1,Dte,Dni,Bool.not_eq_true',Bool.not_eq_false',true_and,false_and,or_false,false_or,and_true,and_false,reduceCtorEq,ge_iff_le,gt_iff_lt] at *;unfold Conf.OkP;omega)
def Ia:Sum:=(76,Adg fun c=>.bool c.ok)
abbrev zbm2 (c:Conf) (k:AV->Bool):=bif decide (c.1=2) then (bif (Ag9 c.8) then (bif decide (c.10>=1) then (k (AV.bool (decide (c.10<=8)))) else (k (AV.bool false))) else (k (AV.bool false))) else (bif decide (c.8=0) then (k (AV.bool (decide (c.10=0)))) else (k (AV.bool false)))
abbrev zbm3 (c:Conf) (k:AV->Bool):=bif (!decide (c.1=1)) then (bif (!decide (c.6=0)) then (k (AV.bool false)) else (zbm2 c k)) else (zbm2 c k)
abbrev zbm4 (c:Conf) (k:AV->Bool):=bif decide (c.1=1) then (bif decide (c.6 < 1) then (k (AV.bool false)) else (bif decide (c.6 > 6) then (k (AV.bool false)) else (zbm3 c k))) else (zbm3 c k)
theorem Bai (c:Conf) (k:AV->Bool):Ai (cfg [Aub]) 300 76 [c.av] k false=(bif decide (c.1 < 1) then (k (AV.bool false)) else (bif decide (c.1 > 4) then (k (AV.bool false)) else (bif decide (c.2 < 2) then (k (AV.bool false)) else (bif decide (c.2 > 4) then (k (AV.bool false)) else (bif decide (c.3 < 1) then (k (AV.bool false)) else (bif decide (c.3 > 16) then (k (AV.bool false)) else (bif decide (c.7 < 1) then (k (AV.bool false)) else (bif decide (c.7 > 32) then (k (AV.bool false)) else (bif decide (c.9 < 1) then (k (AV.bool false)) else (bif decide (c.9 > 16) then (k (AV.bool false)) else (bif decide (c.11 < 131072) then (k (AV.bool false)) else (bif decide (c.11 > 4611686018427387904) then (k (AV.bool false)) else (bif decide (c.4=1) then (bif (!decide (c.5=0)) then (k (AV.bool false)) else (bif (!decide (c.12=0)) then (k (AV.bool false)) else (zbm4 c k))) else (bif (!decide (c.4=2)) then (k (AV.bool false)) else (bif decide (c.5 < 1) then (k (AV.bool false)) else (bif decide (c.5 > 4) then (k (AV.bool false)) else (bif decide (c.12 < 1) then (k (AV.bool false)) else (bif decide (c.12 > 4611686018427387904) then (k (AV.bool false)) else (zbm4 c k))))))))))))))))))):=by kernel_rfl
theorem Afz:Bc Tryz.prog (Cb gs) Ia:=Vr fun c=>Aq base (Ah Blb Ap) (n:=300) fun k hk=>by
    rw [Bai]
    repeat' (first | refine condI (fun h=>?_) (fun h=>?_) | refine andI ?_ ?_)
    all_goals first
      | (refine (congrArg k (congrArg AV.bool ?_)).trans hk
         clear hk;rw [Bool.eq_iff_iff];simp only [Hy,Aha,Ael,Dte,Dni,Bool.not_eq_true',Bool.not_eq_false',Bool.false_eq_true,false_iff,iff_false,true_and,false_and,or_false,false_or,and_true,and_false,reduceCtorEq,ge_iff_le,gt_iff_lt] at *
         try unfold Conf.OkP
         omega)
      | (clear hk
         simp only [Hy,Aha,Ael,Dte,Dni,Bool.not_eq_true',Bool.not_eq_false'] at *;omega)
def A37:Sum:=(184,Adg fun c=>.int .i64 (Ahb c))
theorem Blc (c:Conf) (k:AV->Bool):Ai (cfg []) 300 184 [c.av] k false=(k (AV.int .i64 (IntKind.wrap .i64 (c.2 + 5)))):=by kernel_rfl
theorem Bld:Bc Tryz.prog (Cb gs) A37:=Vr fun c=>Aq base Ap (n:=300) fun k hk=>by
    rw [Blc];exact hk
def Bxs:Sum:=(167,Adg fun c=>.int .i64 (Ahb c))
theorem B07 (c:Conf) (k:AV->Bool):Ai (cfg []) 300 167 [c.av] k false=(k (AV.int .i64 (IntKind.wrap .i64 (c.2 + 5)))):=by kernel_rfl
theorem B08:Bc Tryz.prog (Cb gs) Bxs:=Vr fun c=>Aq base Ap (n:=300) fun k hk=>by
    rw [B07];exact hk
def S_last:Sum:=(168,Adg fun c=>.int .u64 (lastS c))
theorem t_last (c:Conf) (k:AV->Bool):Ai (cfg []) 300 168 [c.av] k false=(k (AV.int .u64 (IntKind.wrap .u64 ((IntKind.wrap .u64 (Int.tdiv c.11 65536)) - 1)))):=by kernel_rfl
theorem s_last:Bc Tryz.prog (Cb gs) S_last:=Vr fun c=>Aq base Ap (n:=300) fun k hk=>by
    rw [t_last];exact hk
def Bzb:Sum:=(169,Ftwo)
theorem s_two:Bc Tryz.prog (Cb gs) Bzb:=fun args r hr=>by
    simp only [Bzb] at hr;unfold Ftwo at hr;split at hr
    · rename_i n
      simp only [Option.some.injEq,Prod.mk.injEq,Dte] at hr;obtain ⟨hn,hr⟩:=hr;subst hr;have all:((List.range 17).all fun i=>Ai (cfg []) 300 169 [.int .i64 (Int.ofNat i)] (fun v=>match v with | .int .u64 m=>decide (m=Bt2 (Int.ofNat i)) | _=>false) false)=true:=by kernel_rfl
      have fin:∀ m:Int,(Ai (cfg []) 300 169 [.int .i64 m] (fun v=>match v with | .int .u64 x=>decide (x=Bt2 m) | _=>false) false)=true->ACalls Tryz.prog (Cb gs) 169 [.int .i64 m] (fun v=>v=.int .u64 (Bt2 m)):=fun m h =>
        (Ag3 (Xx base Ap) h).mono fun v hv=>by
          split at hv
          · simp only [Dte] at hv;rw [hv]
          · cases hv
      by_cases h0:0<=n
      · have:=List.all_eq_true.1 all n.toNat (by simp;omega)
        rw [show Int.ofNat n.toNat=n from Int.toNat_of_nonneg h0] at this
        exact fin n this
      · have hneg:∀ (m:Nat) (k:AV->Bool),Ai (cfg []) 300 169 [.int .i64 (Int.negSucc m)] k false=k (.int .u64 1):=fun m k=>by kernel_rfl
        obtain ⟨m,rfl⟩:∃ m,n=Int.negSucc m:=⟨(-n - 1).toNat,by omega⟩
        refine fin _ ?_;rw [hneg];simp [Bt2]
    · cases hr
def S_may:Sum:=(224,Amm A3w (fun c _=>decide (0<=c.thr)) fun c s=>.bool (mayP c s))
abbrev zbm5 (c:Conf) (k:AV->Bool) (s:Stg):=bif decide (s.1=0) then (k (AV.bool (decide (s.2=(Ahb c))))) else (k (AV.bool (!decide (s.3=0))))
theorem t_may (c:Conf) (s:Stg) (k:AV->Bool):Ai (cfg [A37]) 300 224 [c.av,s.av] k false=(bif decide (s.2 < 1) then (k (AV.bool false)) else (bif decide (s.2 > (Ahb c)) then (k (AV.bool false)) else (bif decide (s.1>=(IntKind.wrap .u64 (Int.tdiv c.11 65536))) then (k (AV.bool false)) else (bif decide (c.3 < 0) then false else (bif (!decide ((ishr .u64 s.3 c.3)=0)) then (k (AV.bool false)) else (bif decide (s.4 < 0) then (k (AV.bool false)) else (bif decide (s.4>=c.3) then (k (AV.bool false)) else (zbm5 c k s)))))))):=by kernel_rfl
theorem s_may:Bc Tryz.prog (Cb gs) S_may:=Aq0 (fun _ _=>At4) fun c s hp=>Aq base (Ah Bld Ap) (n:=300) fun k hk=>by
    rw [t_may]
    repeat' (first | refine condI (fun h=>?_) (fun h=>?_) | refine andI ?_ ?_)
    all_goals first
      | (refine (congrArg k (congrArg AV.bool ?_)).trans hk
         clear hk;rw [Bool.eq_iff_iff];simp only [Akz,Afy,Dte,Dni,Bool.not_eq_true',Bool.not_eq_false',Bool.false_eq_true,false_iff,iff_false,true_and,false_and,or_false,false_or,and_true,and_false,reduceCtorEq,ge_iff_le,gt_iff_lt] at *
         try unfold Conf.OkP
         omega)
      | (clear hk
         simp only [Akz,Afy,Dte,Dni,Bool.not_eq_true',Bool.not_eq_false'] at *;omega)
def B3j:Sum:=(92,Amm A3w (fun c _=>decide (c.thr<=16)) fun c s=>.bool (Bvv c s))
theorem B3k (c:Conf) (s:Stg) (k:AV->Bool):Ai (cfg [Bxs,S_last,Bzb]) 300 92 [c.av,s.av] k false=(bif decide (s.2 < 1) then (k (AV.bool false)) else (bif decide (s.2 > (Ahb c)) then (k (AV.bool false)) else (bif decide (s.1 > (lastS c)) then (k (AV.bool false)) else (bif decide (s.4 < 0) then (k (AV.bool false)) else (bif decide (s.4>=c.3) then (k (AV.bool false)) else (decide (c.3<=16)&&(bif decide (s.3>=(Bt2 c.3)) then (k (AV.bool false)) else (zbm5 c k s)))))))):=by kernel_rfl
theorem B3l:Bc Tryz.prog (Cb gs) B3j:=Aq0 (fun _ _=>At4) fun c s hp=>Aq base (Ah B08 (Ah s_last (Ah s_two Ap))) (n:=300) fun k hk=>by
    rw [B3k]
    repeat' (first | refine condI (fun h=>?_) (fun h=>?_) | refine andI ?_ ?_)
    all_goals first
      | (refine (congrArg k (congrArg AV.bool ?_)).trans hk
         clear hk;rw [Bool.eq_iff_iff];simp only [Br5,Dte,Dni,Bool.not_eq_true',Bool.not_eq_false',Bool.false_eq_true,false_iff,iff_false,true_and,false_and,or_false,false_or,and_true,and_false,reduceCtorEq,ge_iff_le,gt_iff_lt] at *
         try unfold Conf.OkP
         omega)
      | (clear hk
         simp only [Br5,Dte,Dni,Bool.not_eq_true',Bool.not_eq_false'] at *;omega)
def B2c:Sum:=(156,Amm A3w (fun _ _=>true) fun c s=>.int .i64 (chk mayP c s))
theorem t_chk (c:Conf) (s:Stg) (k:AV->Bool):Ai (cfg [Bq,S_may]) 300 156 [c.av,s.av] k false=(bif (!decide ((Az c)=0)) then (k (AV.int .i64 (Az c))) else (decide (0<=c.3)&&(bif (!(mayP c s)) then (k (AV.int .i64 2)) else (k (AV.int .i64 0))))):=by kernel_rfl
theorem s_chk:Bc Tryz.prog (Cb gs) B2c:=Aq0 (fun _ _=>At4) fun c s hp=>Aq base (Ah Jn (Ah s_may Ap)) (n:=300) fun k hk=>by
    rw [t_chk];unfold chk at hk;unfold Az;cases ho:c.ok with
    | false=>rw [ho] at hk;exact hk
    | true =>
      rw [ho] at hk;have:0<=c.thr:=by have:=Odt ho;simp only [Conf.OkP] at this;omega
      cases hm:mayP c s <;> rw [hm] at hk <;> simpa [this] using hk
end
end Go.Bas.BasZBase
end
