/- R. -/
import Derived.Test.YtjepofcbkojibaaGreatDoorBasW5
import Derived.Test.YtjepofcbkojibaaGreatDoorBasW43
import Derived.Test.YtjepofcbkojibaaGreatDoorRows
import Derived.Test.YtjepofcbkojibaaGreatDoorCards
import Derived.Test.YtjepofcbkojibaaGreatDoorTie
import Derived.SevenTiedAt
set_option maxRecDepth 100000
set_option maxHeartbeats 4000000
set_option linter.unusedVariables false
set_option linter.unusedSimpArgs false
namespace Go.Proofs.YtjepofcbkojibaaGreatDoor.readBegins
open Go.ChangeShapes Go.WideShapes Go.ChangeAt Go.RowKit Go.Bas Go.Bas.BasZBase Go.Bas.BasZReads
theorem own:ownKnob Tryz.prog.godebug=none:=by kernel_rfl
theorem Bh5:laidOutB Tryz.prog=true:=by kernel_rfl
theorem Bp3:Pq Tryz.prog 8 24=some [.i .u8,.i .i64,.i .i64,.i .u8,.i .i64,.i .i64,.i .i64,.i .i64,.i .i64,.i .i64,.i .u64,.i .u64]:=by kernel_rfl
theorem Bp4:Pq Tryz.prog 8 27=some [.i .u8,.i .u32,.i .u32,.i .u32]:=by kernel_rfl
def As8:List (String × DataW Unit):=[("bascule/rank.powers", Rows.laid_bascule_rank_powers),("bascule/op.objects", Rows.laid_bascule_op_objects),("bascule/op.writers", Rows.laid_bascule_op_writers)]
def vals3:List Value:=[.int .i64 1,.int .i64 2,.int .i64 4,.int .i64 8,.int .i64 16,.int .i64 1,.int .i64 3,.int .i64 9,.int .i64 27,.int .i64 81,.int .i64 1,.int .i64 4,.int .i64 16,.int .i64 64,.int .i64 256]
theorem g3:Tryz.prog.globalNamed "bascule/rank.powers" = some 3:=by kernel_rfl
def vals1:List Value:=[.int .u8 0,.int .u8 1,.int .u8 1,.int .u8 1,.int .u8 2,.int .u8 2,.int .u8 2,.int .u8 2,.int .u8 2,.int .u8 3,.int .u8 3,.int .u8 3,.int .u8 4,.int .u8 4,.int .u8 4]
theorem g1:Tryz.prog.globalNamed "bascule/op.objects" = some 1:=by kernel_rfl
def vals0:List Value:=[.bool false,.bool true,.bool true,.bool false,.bool true,.bool true,.bool false,.bool false,.bool false,.bool true,.bool true,.bool false,.bool true,.bool true,.bool false]
theorem g0:Tryz.prog.globalNamed "bascule/op.writers" = some 0:=by kernel_rfl
theorem Bh6 {W:World} (h:laidMetH Tryz.prog As8 W):GsOk W gs:=by
 rw [MakeChecks.laidMetH_plain _ _ _ (by kernel_rfl)] at h
 obtain ⟨ps,⟨g0',t0,cs0,f0,p0,q0,hg0,ht0,hv0,hd0,⟨g1',t1,cs1,f1,p1,q1,hg1,ht1,hv1,hd1,⟨g2',t2,cs2,f2,p2,q2,hg2,ht2,hv2,hd2,_,_⟩,_⟩,_⟩,_⟩:=h
 obtain ⟨ty3,e3⟩:∃ t,(Tryz.prog.globals[3]?).map (·.type)=some t:=Option.isSome_iff_exists.1 (by kernel_rfl)
 have k3:Zw Tryz.prog 8 ty3=true:=by
  have:(((Tryz.prog.globals[3]?).map (·.type)).map (Zw Tryz.prog 8))=some true:=by kernel_rfl
  rw [e3] at this;exact Option.some.inj this
 obtain ⟨ty1,e1⟩:∃ t,(Tryz.prog.globals[1]?).map (·.type)=some t:=Option.isSome_iff_exists.1 (by kernel_rfl)
 have k1:Zw Tryz.prog 8 ty1=true:=by
  have:(((Tryz.prog.globals[1]?).map (·.type)).map (Zw Tryz.prog 8))=some true:=by kernel_rfl
  rw [e1] at this;exact Option.some.inj this
 obtain ⟨ty0,e0⟩:∃ t,(Tryz.prog.globals[0]?).map (·.type)=some t:=Option.isSome_iff_exists.1 (by kernel_rfl)
 have k0:Zw Tryz.prog 8 ty0=true:=by
  have:(((Tryz.prog.globals[0]?).map (·.type)).map (Zw Tryz.prog 8))=some true:=by kernel_rfl
  rw [e0] at this;exact Option.some.inj this
 exact ⟨⟨vals0,by kernel_rfl,Ag7 g0 hg2 e0 ht2 hv2 hd2 k0 (by kernel_rfl) rfl⟩,⟨⟨vals1,by kernel_rfl,Ag7 g1 hg1 e1 ht1 hv1 hd1 k1 (by kernel_rfl) rfl⟩,⟨⟨vals3,by kernel_rfl,Ag7 g3 hg0 e3 ht0 hv0 hd0 k3 (by kernel_rfl) rfl⟩,trivial⟩⟩⟩
theorem A9w (os:Os) (args:Array Value):laidMetH Tryz.prog As8 ((World.doorLaid Tryz.prog 32 os).forCall (fun _ _=>0) ⟨#[],args,[]⟩).memory :=
 laidMetH_of_parts3 (fuel:=8) (laidMet_of_run' 8 (by kernel_rfl) (by kernel_rfl)) (by kernel_rfl) (by kernel_rfl)
theorem Bp5:Aq2 Tryz.prog 8 35=some rdrK:=by kernel_rfl
set_option maxRecDepth 100000 in
theorem lifted (os:Os) (started:os.Started) (H:Type) (enc:TypeId × Value->H) :
  ReturnsInHanded {} Tryz.checked os 3 .any (fun w args=>(Rows.readBeginsSpec.pre enc Tryz.prog Tryz.f3 [] false w args/\laidMetH Tryz.prog As8 w)/\sizedMet enc Tryz.prog Tryz.f3 (OpenSpec.ofChange Rows.readBeginsSpec) false w args) (Rows.readBeginsSpec.post enc Tryz.prog Tryz.f3 false true false false):=by
 refine returnsInHanded_of_change_and (C:=Tryz.checked) (X:=fun w _=>laidMetH Tryz.prog As8 w) (fun _ _ _ hh h=>h.of_heap hh) own started (by kernel_rfl) Tryz.func3
  (ChangeSpec.witness_shaped (enc:=enc) (C:=Tryz.checked) (os:=os) (X:=fun w _=>laidMetH Tryz.prog As8 w) false (World.doorLaid Tryz.prog 32 os) #[.agg #[.int .u8 0,.int .i64 0,.int .i64 0,.int .u8 0,.int .i64 0,.int .i64 0,.int .i64 0,.int .i64 0,.int .i64 0,.int .i64 0,.int .u64 0,.int .u64 0],.agg #[.int .u8 0,.int .u32 0,.int .u32 0,.int .u32 0],.int .i64 0,.agg #[.int .u8 0,.int .i64 0,.int .i64 0,.int .u64 0,.int .u8 0,.int .u32 0,.int .u32 0,.int .u8 0,.int .u8 0,.int .u8 0,.int .u8 0,.int .u8 0,.int .u8 0,.int .u32 0,.int .u32 0,.int .i64 0,.int .u32 0,.slice none 0 0,.int .i64 0]] 8 rfl (World.shaped_of_RefB (by kernel_rfl) (by kernel_rfl)) (by kernel_rfl) (by kernel_rfl) (by kernel_rfl) (A9w os _)) ?_
 intro W base args ds gs0 before hval0 hW _ hwt hL _
 have hgs:=A3v (Bh6 hL)
 have hval:∀ (j:Nat) t v,Tryz.f3.params[j]?=some t->args[j]?=some v->Value.okWide Tryz.prog W .any base t v:=hval0
 have hW':=hW
 obtain ⟨p,q,hA0,hV,rfl,hfz,hnd⟩:=hW
 have hA:DataW.TrodAll enc Tryz.prog W 0 (fun _=>true) true Tryz.f3.params.toList args.toList ds p:=hA0
 rw [Tryz.params3] at hA hval
 rw [Tryz.params3] at hwt
 obtain ⟨v0,v1,v2,v3,d0,d1,d2,d3,p0,p1,p2,p3,rfl,rfl,rfl,h0,h1,h2,h3⟩:=trodAll_four hA
 obtain ⟨rfl,rfl⟩:=trodVars_none hV
 have hwts:∀ (j:Nat) (t:TypeId) (d:DataW H),_->_->∀ n ∈ d.weights Tryz.prog t,n<=reachBytes:=fun j t d h1 h2 n hn=>Odt (List.all_eq_true.1 hwt n (DataW.weights_mem_each (j:=j) h1 h2 n hn))
 obtain ⟨l0,rfl,c0⟩:=Akr Tryz.underlying24 Bp3 (by kernel_rfl) (hval 0 24 v0 rfl rfl) h0
 obtain ⟨x0_0,_,rfl,w0_0,x0_1,_,rfl,w0_1,x0_2,_,rfl,w0_2,x0_3,_,rfl,w0_3,x0_4,_,rfl,w0_4,x0_5,_,rfl,w0_5,x0_6,_,rfl,w0_6,x0_7,_,rfl,w0_7,x0_8,_,rfl,w0_8,x0_9,_,rfl,w0_9,x0_10,_,rfl,w0_10,x0_11,_,rfl,w0_11,rfl⟩:=c0
 obtain ⟨l1,rfl,c1⟩:=Akr Tryz.underlying27 Bp4 (by kernel_rfl) (hval 1 27 v1 rfl rfl) h1
 obtain ⟨x1_0,_,rfl,w1_0,x1_1,_,rfl,w1_1,x1_2,_,rfl,w1_2,x1_3,_,rfl,w1_3,rfl⟩:=c1
 obtain ⟨x2,rfl,rfl,rfl,w2⟩:=open_int Tryz.underlying3 (hval 2 3 v2 rfl rfl) h2
 obtain ⟨l3,rfl,c3⟩:=Azk Tryz.underlying35 Bp5 (by kernel_rfl) (hval 3 35 v3 rfl rfl) h3 (hwts 3 _ _ rfl rfl)
 obtain ⟨rd3,sd3,R3,K3⟩:=A32 c3
 refine (law ⟨x0_0,x0_1,x0_2,x0_3,x0_4,x0_5,x0_6,x0_7,x0_8,x0_9,x0_10,x0_11⟩ ⟨x1_0,x1_1,x1_2,x1_3⟩ x2 rd3 sd3 w0_0 w0_1 w0_2 w0_3 w0_4 w0_5 w0_6 w0_7 w0_8 w0_9 w0_10 w0_11 w1_0 w1_1 w1_2 w1_3 w2 K3.f0 K3.f1 K3.f2 K3.f3 K3.f4 K3.f5 K3.f6 K3.f7 K3.f8 K3.f9 K3.f10 K3.f11 K3.f12 K3.f13 K3.f14 K3.f15 K3.f16 K3.f17 K3.f18 W _ (fun _=>False) hgs (fun g cells h=>fun hb=>hb) (fun _ h=>h.elim) (Ed (Aks [.int .u8 x0_0,.int .i64 x0_1,.int .i64 x0_2,.int .u8 x0_3,.int .i64 x0_4,.int .i64 x0_5,.int .i64 x0_6,.int .i64 x0_7,.int .i64 x0_8,.int .i64 x0_9,.int .u64 x0_10,.int .u64 x0_11]) (Ed (Aks [.int .u8 x1_0,.int .u32 x1_1,.int .u32 x1_2,.int .u32 x1_3]) (Ed (.int _ _ _) (Ed R3 Aqq))))).mono fun e W' hh=>?_
 obtain ⟨v,u,rfl,rfl,E,R⟩:=hh
 cases R
 exact ⟨_,rfl,Azh Bh5 (by kernel_rfl) rfl hW' (Still.below E) (by kernel_rfl) Tryz.underlying4 rfl rfl rfl⟩
end Go.Proofs.YtjepofcbkojibaaGreatDoor.readBegins
