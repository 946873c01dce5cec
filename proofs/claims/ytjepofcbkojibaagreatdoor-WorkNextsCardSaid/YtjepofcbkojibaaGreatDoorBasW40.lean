/- WorkNexts: its row, lifted. -/
import Derived.Test.YtjepofcbkojibaaGreatDoorBasW5
import Derived.Test.YtjepofcbkojibaaGreatDoorBasW39
import Derived.Test.YtjepofcbkojibaaGreatDoorRows
import Derived.Test.YtjepofcbkojibaaGreatDoorCards
import Derived.Test.YtjepofcbkojibaaGreatDoorTie
import Derived.SevenTiedAt
set_option maxRecDepth 100000
set_option maxHeartbeats 4000000
set_option linter.unusedVariables false
set_option linter.unusedSimpArgs false
namespace Go.Proofs.YtjepofcbkojibaaGreatDoor.workNexts
open Go.ChangeShapes Go.WideShapes Go.ChangeAt Go.RowKit Go.Bas Go.Bas.BasZBase Go.Bas.BasZWNexts
theorem own:ownKnob Tryz.prog.godebug=none:=by kernel_rfl
theorem Bh5:laidOutB Tryz.prog=true:=by kernel_rfl
theorem B40:Pq Tryz.prog 8 41=some [.i .u64,.i .u64,.i .u64,.i .u64]:=by kernel_rfl
theorem Bp3:Pq Tryz.prog 8 24=some [.i .u8,.i .i64,.i .i64,.i .u8,.i .i64,.i .i64,.i .i64,.i .i64,.i .i64,.i .i64,.i .u64,.i .u64]:=by kernel_rfl
theorem B41:Pq Tryz.prog 8 51=some [.i .u64,.i .i64,.i .u64,.i .i64]:=by kernel_rfl
def As8:List (String × DataW Unit):=[("math/bits.deBruijn64tab", Rows.laid_math_bits_deBruijn64tab),("bascule/rank.powers", Rows.laid_bascule_rank_powers),("bascule/op.objects", Rows.laid_bascule_op_objects),("bascule/op.writers", Rows.laid_bascule_op_writers)]
def vals2:List Value:=[.int .u8 0,.int .u8 1,.int .u8 56,.int .u8 2,.int .u8 57,.int .u8 49,.int .u8 28,.int .u8 3,.int .u8 61,.int .u8 58,.int .u8 42,.int .u8 50,.int .u8 38,.int .u8 29,.int .u8 17,.int .u8 4,.int .u8 62,.int .u8 47,.int .u8 59,.int .u8 36,.int .u8 45,.int .u8 43,.int .u8 51,.int .u8 22,.int .u8 53,.int .u8 39,.int .u8 33,.int .u8 30,.int .u8 24,.int .u8 18,.int .u8 12,.int .u8 5,.int .u8 63,.int .u8 55,.int .u8 48,.int .u8 27,.int .u8 60,.int .u8 41,.int .u8 37,.int .u8 16,.int .u8 46,.int .u8 35,.int .u8 44,.int .u8 21,.int .u8 52,.int .u8 32,.int .u8 23,.int .u8 11,.int .u8 54,.int .u8 26,.int .u8 40,.int .u8 15,.int .u8 34,.int .u8 20,.int .u8 31,.int .u8 10,.int .u8 25,.int .u8 14,.int .u8 19,.int .u8 9,.int .u8 13,.int .u8 8,.int .u8 7,.int .u8 6]
theorem g2:Tryz.prog.globalNamed "math/bits.deBruijn64tab" = some 2:=by kernel_rfl
def vals3:List Value:=[.int .i64 1,.int .i64 2,.int .i64 4,.int .i64 8,.int .i64 16,.int .i64 1,.int .i64 3,.int .i64 9,.int .i64 27,.int .i64 81,.int .i64 1,.int .i64 4,.int .i64 16,.int .i64 64,.int .i64 256]
theorem g3:Tryz.prog.globalNamed "bascule/rank.powers" = some 3:=by kernel_rfl
def vals1:List Value:=[.int .u8 0,.int .u8 1,.int .u8 1,.int .u8 1,.int .u8 2,.int .u8 2,.int .u8 2,.int .u8 2,.int .u8 2,.int .u8 3,.int .u8 3,.int .u8 3,.int .u8 4,.int .u8 4,.int .u8 4]
theorem g1:Tryz.prog.globalNamed "bascule/op.objects" = some 1:=by kernel_rfl
def vals0:List Value:=[.bool false,.bool true,.bool true,.bool false,.bool true,.bool true,.bool false,.bool false,.bool false,.bool true,.bool true,.bool false,.bool true,.bool true,.bool false]
theorem g0:Tryz.prog.globalNamed "bascule/op.writers" = some 0:=by kernel_rfl
theorem Bh6 {W:World} (h:laidMetH Tryz.prog As8 W):GsOk W gs:=by
 rw [MakeChecks.laidMetH_plain _ _ _ (by kernel_rfl)] at h
 obtain ⟨ps,⟨g0',t0,cs0,f0,p0,q0,hg0,ht0,hv0,hd0,⟨g1',t1,cs1,f1,p1,q1,hg1,ht1,hv1,hd1,⟨g2',t2,cs2,f2,p2,q2,hg2,ht2,hv2,hd2,⟨g3',t3,cs3,f3,p3,q3,hg3,ht3,hv3,hd3,_,_⟩,_⟩,_⟩,_⟩,_⟩:=h
 obtain ⟨ty2,e2⟩:∃ t,(Tryz.prog.globals[2]?).map (·.type)=some t:=Option.isSome_iff_exists.1 (by kernel_rfl)
 have k2:Zw Tryz.prog 8 ty2=true:=by
  have:(((Tryz.prog.globals[2]?).map (·.type)).map (Zw Tryz.prog 8))=some true:=by kernel_rfl
  rw [e2] at this;exact Option.some.inj this
 obtain ⟨ty3,e3⟩:∃ t,(Tryz.prog.globals[3]?).map (·.type)=some t:=Option.isSome_iff_exists.1 (by kernel_rfl)
 have k3:Zw Tryz.prog 8 ty3=true:=by
  have:(((Tryz.prog.globals[3]?).map (·.type)).map (Zw Tryz.prog 8))=some true:=by kernel_rfl
  rw [e3] at this;exact Option.some.inj this
 obtain ⟨ty1,e1⟩:∃ t,(Tryz.prog.globals[1]?).map (·.type)=some t:=Option.isSome_iff_exists.1 (by kernel_rfl)
 have k1:Zw Tryz.prog 8 ty1=true:=by
  have:(((Tryz.prog.globals[1]?).map (·.type)).map (Zw Tryz.prog 8))=some true:=by kernel_rfl
  rw [e1] at this;exact Option.some.inj this
 obtain ⟨ty0,e0⟩:∃ t,(Tryz.prog.globals[0]?).map (·.type)=some t:=Option.isSome_iff_exists.1 (by kernel_rfl)
 have k0:Zw Tryz.prog 8 ty0=true:=by
  have:(((Tryz.prog.globals[0]?).map (·.type)).map (Zw Tryz.prog 8))=some true:=by kernel_rfl
  rw [e0] at this;exact Option.some.inj this
 exact ⟨⟨vals0,by kernel_rfl,Ag7 g0 hg3 e0 ht3 hv3 hd3 k0 (by kernel_rfl) rfl⟩,⟨⟨vals1,by kernel_rfl,Ag7 g1 hg2 e1 ht2 hv2 hd2 k1 (by kernel_rfl) rfl⟩,⟨⟨vals2,by kernel_rfl,Ag7 g2 hg0 e2 ht0 hv0 hd0 k2 (by kernel_rfl) rfl⟩,⟨⟨vals3,by kernel_rfl,Ag7 g3 hg1 e3 ht1 hv1 hd1 k3 (by kernel_rfl) rfl⟩,trivial⟩⟩⟩⟩
theorem A9w (os:Os) (args:Array Value):laidMetH Tryz.prog As8 ((World.doorLaid Tryz.prog 32 os).forCall (fun _ _=>0) ⟨#[],args,[]⟩).memory :=
 laidMetH_of_parts3 (fuel:=8) (laidMet_of_run' 8 (by kernel_rfl) (by kernel_rfl)) (by kernel_rfl) (by kernel_rfl)
set_option maxRecDepth 100000 in
theorem lifted (os:Os) (started:os.Started) (H:Type) (enc:TypeId × Value->H) :
  ReturnsInHanded {} Tryz.checked os 4 .any (fun w args=>(Rows.workNextsSpec.pre enc Tryz.prog Tryz.f4 [] false w args/\laidMetH Tryz.prog As8 w)/\sizedMet enc Tryz.prog Tryz.f4 (OpenSpec.ofChange Rows.workNextsSpec) false w args) (Rows.workNextsSpec.post enc Tryz.prog Tryz.f4 false true false false):=by
 refine returnsInHanded_of_change_and (C:=Tryz.checked) (X:=fun w _=>laidMetH Tryz.prog As8 w) (fun _ _ _ hh h=>h.of_heap hh) own started (by kernel_rfl) Tryz.func4
  (ChangeSpec.witness_shaped (enc:=enc) (C:=Tryz.checked) (os:=os) (X:=fun w _=>laidMetH Tryz.prog As8 w) false (World.doorLaid Tryz.prog 32 os) #[.agg #[.int .u8 0,.int .i64 0,.int .i64 0,.int .u8 0,.int .i64 0,.int .i64 0,.int .i64 0,.int .i64 0,.int .i64 0,.int .i64 0,.int .u64 0,.int .u64 0],.agg #[.int .u64 0,.int .i64 0,.int .u64 0,.int .i64 0],.agg #[.int .u64 0,.int .u64 0,.int .u64 0,.int .u64 0]] 8 rfl (World.shaped_of_RefB (by kernel_rfl) (by kernel_rfl)) (by kernel_rfl) (by kernel_rfl) (by kernel_rfl) (A9w os _)) ?_
 intro W base args ds gs0 before hval0 hW _ hwt hL _
 have hgs:=A3v (Bh6 hL)
 have hval:∀ (j:Nat) t v,Tryz.f4.params[j]?=some t->args[j]?=some v->Value.okWide Tryz.prog W .any base t v:=hval0
 have hW':=hW
 obtain ⟨p,q,hA0,hV,rfl,hfz,hnd⟩:=hW
 have hA:DataW.TrodAll enc Tryz.prog W 0 (fun _=>true) true Tryz.f4.params.toList args.toList ds p:=hA0
 rw [Tryz.params4] at hA hval
 obtain ⟨v0,v1,v2,d0,d1,d2,p0,p1,p2,rfl,rfl,rfl,h0,h1,h2⟩:=trodAll_three hA
 obtain ⟨rfl,rfl⟩:=trodVars_none hV
 obtain ⟨l0,rfl,c0⟩:=Akr Tryz.underlying24 Bp3 (by kernel_rfl) (hval 0 24 v0 rfl rfl) h0
 obtain ⟨x0_0,_,rfl,w0_0,x0_1,_,rfl,w0_1,x0_2,_,rfl,w0_2,x0_3,_,rfl,w0_3,x0_4,_,rfl,w0_4,x0_5,_,rfl,w0_5,x0_6,_,rfl,w0_6,x0_7,_,rfl,w0_7,x0_8,_,rfl,w0_8,x0_9,_,rfl,w0_9,x0_10,_,rfl,w0_10,x0_11,_,rfl,w0_11,rfl⟩:=c0
 obtain ⟨l1,rfl,c1⟩:=Akr Tryz.underlying51 B41 (by kernel_rfl) (hval 1 51 v1 rfl rfl) h1
 obtain ⟨x1_0,_,rfl,w1_0,x1_1,_,rfl,w1_1,x1_2,_,rfl,w1_2,x1_3,_,rfl,w1_3,rfl⟩:=c1
 obtain ⟨l2,rfl,c2⟩:=Akr Tryz.underlying41 B40 (by kernel_rfl) (hval 2 41 v2 rfl rfl) h2
 obtain ⟨x2_0,_,rfl,w2_0,x2_1,_,rfl,w2_1,x2_2,_,rfl,w2_2,x2_3,_,rfl,w2_3,rfl⟩:=c2
 refine (law ⟨x0_0,x0_1,x0_2,x0_3,x0_4,x0_5,x0_6,x0_7,x0_8,x0_9,x0_10,x0_11⟩ ⟨x1_0,x1_1,x1_2,x1_3⟩ ⟨x2_0,x2_1,x2_2,x2_3⟩ w0_0 w0_1 w0_2 w0_3 w0_4 w0_5 w0_6 w0_7 w0_8 w0_9 w0_10 w0_11 w1_0 w1_1 w1_2 w1_3 w2_0 w2_1 w2_2 w2_3 W _ (fun _=>False) hgs (fun g cells h=>fun hb=>hb) (fun _ h=>h.elim) (Ed (Aks [.int .u8 x0_0,.int .i64 x0_1,.int .i64 x0_2,.int .u8 x0_3,.int .i64 x0_4,.int .i64 x0_5,.int .i64 x0_6,.int .i64 x0_7,.int .i64 x0_8,.int .i64 x0_9,.int .u64 x0_10,.int .u64 x0_11]) (Ed (Aks [.int .u64 x1_0,.int .i64 x1_1,.int .u64 x1_2,.int .i64 x1_3]) (Ed (Aks [.int .u64 x2_0,.int .u64 x2_1,.int .u64 x2_2,.int .u64 x2_3]) Aqq)))).mono fun e W' hh=>?_
 obtain ⟨v,u,rfl,rfl,E,R⟩:=hh
 cases R
 exact ⟨_,rfl,Azh Bh5 (by kernel_rfl) rfl hW' (Still.below E) (by kernel_rfl) Tryz.underlying4 rfl rfl rfl⟩
end Go.Proofs.YtjepofcbkojibaaGreatDoor.workNexts
