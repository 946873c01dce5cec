/- Contracts with no law of their own: the program of routes; The engine, part Tw: more shapes of arguments; Contracts with no law of their own: the program of settings; The programs of routes, gates and settings answer always, where frames' numbers are such asv their t; The document's program of rules: may a frame be; The program of routes answers always, where frames' numbers are such asv their types have; The program of settings answers always, where frames' numbers are such asv their types have; Contracts of the four objects' programs, Apw frames whose numbers are such asv their types have; The document's programs, of rules: they answer what the program's do. -/
import Derived.Test.YtjepofcbkojibaaGreatDoorBasW5
import Derived.Test.YtjepofcbkojibaaGreatDoorBasW6
set_option maxRecDepth 100000
set_option maxHeartbeats 4000000
set_option linter.unusedVariables false
set_option linter.unusedSimpArgs false
section
namespace Go.Bas.BasZTrie
noncomputable section
open Go.RowKit Go.Proofs
open BasZBase BasZOp
section
variable (a0:Int) (a1:Int) (a2:Int) (a3:Int) (a4:Int) (a5:Int) (a6:Int) (a7:Int)
abbrev lf0:Tr:=.leaf [.int .u8 a0,.int .i64 a1,.int .u64 a2,.int .u64 a3,.int .u64 a4,.int .i64 a5,.int .u32 a6,.int .i64 a7]
abbrev lf1 (a8:Int) (a9:Int) (a10:Int) (a11:Int):Tr:=.leaf [.int .u8 a0,.int .u32 a1,.int .u32 a2,.int .u8 a3,.int .u8 a4,.int .u8 a5,.int .u8 a6,.int .u8 a7,.int .u8 a8,.int .u32 a9,.int .u32 a10,.int .i64 a11]
end
abbrev Bs8:Tr:=.leaf [.bool true]
abbrev Buk:Tr:=.leaf [.bool false]
abbrev Bzi (r:TRun):Tr:=.br (decide (r.1.4=6)) Bs8 (.br (!decide (r.1.1=3)) (.br (decide (r.1.4=0)) Bs8 (.br (decide (r.1.4=2)) Bs8 (.br (decide (r.1.4=3)) Bs8 Buk))) Buk)
abbrev Bw0 (r:TRun):Tr:=.br (decide (r.1.1=1)) (.br (decide (r.1.4=1)) Bs8 (.br (decide (r.1.4=5)) Bs8 (.br (decide (r.1.4=7)) Bs8 (Bzi r)))) (.br (decide (r.1.4=8)) Bs8 (Bzi r))
abbrev Bzj (r:TRun):Tr:=.br (decide ((IntKind.wrap .u32 r.1.9)<=r.1.3)) (.br (decide (r.1.1=3)) (.br (decide (r.1.4=0)) Bs8 (Bw0 r)) (Bw0 r)) Buk
def Sm (r:TRun):Tr:=(.br (decide (r.1.1=1)) (.br (D6 r.2 (Opr.mk r.1.1 r.1.2 r.1.3 r.1.11)) (.br (decide ((Ag r.2 (Opr.mk r.1.1 r.1.2 r.1.3 r.1.11))=0)) (Bzj r) Buk) .bad) (.br (decide (r.1.1=3)) (.br (D6 r.2 (Opr.mk r.1.1 r.1.2 r.1.3 0)) (.br (decide ((Ag r.2 (Opr.mk r.1.1 r.1.2 r.1.3 0))=0)) (.br (decide ((IntKind.wrap .u32 r.1.9)<=(IntKind.wrap .u32 r.2.6))) (.br (decide (r.1.1=3)) (.br (decide (r.1.4=0)) Bs8 (Bw0 r)) (Bw0 r)) Buk) Buk) .bad) (.br (D6 r.2 (Opr.mk r.1.1 r.1.2 r.1.3 0)) (.br (decide ((Ag r.2 (Opr.mk r.1.1 r.1.2 r.1.3 0))=0)) (Bzj r) Buk) .bad)))
def Bbv:List CK:=[.b]
def Aca (l:List AV):AV:=lget l 0
def Df (r:TRun):Bool:=(Sm r).bool 0
def Bma (r:TRun):AV:=.bool (Df r)
def Gu (r:TRun):Bool:=(Sm r).ok
def A5m:Sum:=(296,on1 A30 (fun r=>Gu r) (fun r=>Bma r))
theorem Bmb (r:TRun) (k:AV->Bool):Ai (cfg [Aws]) 300 296 [r.av] k false=(Sm r).ev (fun l=>k (Aca l)) false:=by kernel_rfl
theorem Adi (r:TRun):(Sm r).fits Bbv=true:=by kernel_rfl
theorem Bmc:Bc Tryz.prog (Cb gs) A5m:=Fg fun r hp=>Aq base (Ah Awt Ap) (n:=300) fun k hk=>(Bmb r k).trans ((Tr.merge (Adi r) hp).trans hk)
def Vx (r:TRun):Tr:=(.br (decide (r.1.3<0)) .bad (.leaf [.int .i64 (ior .i64 (Gz .i64 1 r.1.3) (IntKind.wrap .i64 r.1.2))]))
def A5n:List CK:=[.i .i64]
def A5o (l:List AV):AV:=lget l 0
def D9 (r:TRun):Int:=(Vx r).int 0
def Bbw (r:TRun):AV:=.int .i64 (D9 r)
def Kz (r:TRun):Bool:=(Vx r).ok
def Awy:Sum:=(341,on1 A30 (fun r=>Kz r) (fun r=>Bbw r))
theorem Bbx (r:TRun) (k:AV->Bool):Ai (cfg []) 300 341 [r.av] k false=(Vx r).ev (fun l=>k (A5o l)) false:=by kernel_rfl
theorem Auz (r:TRun):(Vx r).fits A5n=true:=by kernel_rfl
theorem Bby:Bc Tryz.prog (Cb gs) Awy:=Fg fun r hp=>Aq base Ap (n:=300) fun k hk=>(Bbx r k).trans ((Tr.merge (Auz r) hp).trans hk)
def Aho (r:TRun) (b:Int):Tr:=(.br (decide (b<0)) .bad (.br (decide ((IntKind.wrap .i64 (b-(IntKind.wrap .i64 r.1.9)))<0)) .bad (.leaf [.int .i64 (ishr .i64 (ior .i64 (Gz .i64 1 b) (IntKind.wrap .i64 r.1.2)) (IntKind.wrap .i64 (b-(IntKind.wrap .i64 r.1.9))))])))
def Bmd:List CK:=[.i .i64]
def Bme (l:List AV):AV:=lget l 0
def Di (r:TRun) (b:Int):Int:=(Aho r b).int 0
def o_tat (r:TRun) (b:Int):AV:=.int .i64 (Di r b)
def Ig (r:TRun) (b:Int):Bool:=(Aho r b).ok
def Bii:Sum:=(340,on2 A30 (rI .i64) (fun r b=>Ig r b) (fun r b=>o_tat r b))
theorem t_tat (r:TRun) (b:Int) (k:AV->Bool):Ai (cfg []) 300 340 [r.av,.int .i64 b] k false=(Aho r b).ev (fun l=>k (Bme l)) false:=by kernel_rfl
theorem A5p (r:TRun) (b:Int):(Aho r b).fits Bmd=true:=by kernel_rfl
theorem s_tat:Bc Tryz.prog (Cb gs) Bii:=Cm fun r b hp=>Aq base Ap (n:=300) fun k hk=>(t_tat r b k).trans ((Tr.merge (A5p r b) hp).trans hk)
abbrev Bw1 (c:Conf) (f:Frm):Tr:=.br (!decide (f.10=0)) (lf0 1 (Di (TRun.mk f c) c.6) 0 0 0 0 0 0) (lf0 1 (Di (TRun.mk f c) c.6) 0 0 0 0 0 0)
abbrev Bw2 (c:Conf) (f:Frm):Tr:=.br (decide (f.1=1)) (lf0 1 (D9 (TRun.mk f c)) 0 0 0 0 0 0) (lf0 1 (D9 (TRun.mk f c)) 0 0 0 0 0 0)
abbrev Br1 (c:Conf) (f:Frm):=Di (TRun.mk f c) (IntKind.wrap .i64 f.3)
abbrev Bsq (f:Frm):=decide ((IntKind.wrap .u32 f.9)=f.3)
section
variable (c:Conf) (f:Frm)
abbrev Bw3:Tr:=.br (Bsq f) (.br (Bsq f) (lf0 2 (Br1 c f) (IntKind.wrap .u64 ((IntKind.wrap .u64 f.11)+1)) (Int.tmod (IntKind.wrap .u64 (IntKind.wrap .u8 (f.7+63))) 64) 0 0 0 0) (lf0 2 (Br1 c f) (IntKind.wrap .u64 ((IntKind.wrap .u64 f.11)+1)) (Int.tmod (IntKind.wrap .u64 (IntKind.wrap .u8 (f.7+63))) 64) 0 0 0 0)) (.br (Bsq f) (lf0 2 (Br1 c f) (IntKind.wrap .u64 f.10) (Int.tmod (IntKind.wrap .u64 (IntKind.wrap .u8 (f.7+63))) 64) 0 0 0 0) (lf0 2 (Br1 c f) (IntKind.wrap .u64 f.10) (Int.tmod (IntKind.wrap .u64 (IntKind.wrap .u8 (f.7+63))) 64) 0 0 0 0))
abbrev Bt7:Tr:=.br (Bsq f) (.br (Bsq f) (lf0 2 (Br1 c f) (IntKind.wrap .u64 ((IntKind.wrap .u64 f.11)+1)) (Int.tmod (IntKind.wrap .u64 (IntKind.wrap .u8 (f.7+1))) 64) 0 0 0 0) (lf0 2 (Br1 c f) (IntKind.wrap .u64 ((IntKind.wrap .u64 f.11)+1)) (Int.tmod (IntKind.wrap .u64 (IntKind.wrap .u8 (f.7+1))) 64) 0 0 0 0)) (.br (Bsq f) (lf0 2 (Br1 c f) (IntKind.wrap .u64 f.10) (Int.tmod (IntKind.wrap .u64 (IntKind.wrap .u8 (f.7+1))) 64) 0 0 0 0) (lf0 2 (Br1 c f) (IntKind.wrap .u64 f.10) (Int.tmod (IntKind.wrap .u64 (IntKind.wrap .u8 (f.7+1))) 64) 0 0 0 0))
abbrev Bt8:Tr:=.br (decide (f.4=6)) (lf0 4 0 0 0 0 0 f.10 0) (.br (!decide (f.1=3)) (.br (decide (f.4=0)) (.br (Kz (TRun.mk f c)) (.br (decide (f.1=1)) (Bw2 c f) (Bw2 c f)) .bad) (.br (decide (f.4=2)) (.br (Ig (TRun.mk f c) (IntKind.wrap .i64 f.3)) (lf0 1 (Br1 c f) 0 0 0 0 0 0) .bad) (.br (decide (f.4=3)) (.br (Ig (TRun.mk f c) (IntKind.wrap .i64 f.3)) (.br (decide (f.1=2)) (.br (Bsq f) (.br (decide (f.1=2)) (.br (Bsq f) (lf0 2 (Br1 c f) 0 (Int.tmod (IntKind.wrap .u64 (IntKind.wrap .u8 (f.7+63))) 64) 0 0 0 0) (lf0 2 (Br1 c f) 0 (Int.tmod (IntKind.wrap .u64 (IntKind.wrap .u8 (f.7+63))) 64) 0 0 0 0)) (Bw3 c f)) (Bw3 c f)) (.br (Bsq f) (.br (decide (f.1=2)) (.br (Bsq f) (lf0 2 (Br1 c f) 0 (Int.tmod (IntKind.wrap .u64 (IntKind.wrap .u8 (f.7+1))) 64) 0 0 0 0) (lf0 2 (Br1 c f) 0 (Int.tmod (IntKind.wrap .u64 (IntKind.wrap .u8 (f.7+1))) 64) 0 0 0 0)) (Bt7 c f)) (Bt7 c f))) .bad) .bad))) .bad)
abbrev Bt9:Tr:=.br (decide (f.1=1)) (.br (decide (f.4=1)) (.br (decide (0>=(IntKind.wrap .u64 c.7))) (lf0 1 1 0 0 0 0 0 0) (lf0 1 1 0 0 0 0 0 0)) (.br (decide (f.4=5)) (.br (Kz (TRun.mk (Frm.mk f.1 f.2 f.3 6 f.5 f.6 f.7 f.8 f.9 f.10 f.11) c)) (lf0 2 (D9 (TRun.mk (Frm.mk f.1 f.2 f.3 6 f.5 f.6 f.7 f.8 f.9 f.10 f.11) c)) (IntKind.wrap .u64 ((IntKind.wrap .u64 f.11)+1)) (IntKind.wrap .u64 (Int.tmod f.7 64)) 0 0 0 0) .bad) (.br (decide (f.4=7)) (lf0 4 0 0 0 0 9 0 0) (Bt8 c f)))) (.br (decide (f.4=8)) (lf0 4 0 0 0 0 6 0 0) (Bt8 c f))
def Eh:Tr:=(.br (!decide ((Az c)=0)) (lf0 0 0 0 0 0 0 0 40) (.br (!decide (c.1=1)) (lf0 0 0 0 0 0 0 0 40) (.br (Gu (TRun.mk f c)) (.br (!(Df (TRun.mk f c))) (lf0 0 0 0 0 0 0 0 2) (.br (decide (f.1=3)) (.br (decide (f.4=0)) (.br (Ig (TRun.mk f c) c.6) (.br (decide ((IntKind.wrap .i64 f.9)<c.6)) (Bw1 c f) (Bw1 c f)) .bad) (Bt9 c f)) (Bt9 c f))) .bad)))
end
def A5q:List CK:=[.i .u8,.i .i64,.i .u64,.i .u64,.i .u64,.i .i64,.i .u32,.i .i64]
def A5r (l:List AV):AV:=.tup [.agg [lget l 0,lget l 1,lget l 2,lget l 3,lget l 4,lget l 5,lget l 6],lget l 7]
section
variable (c:Conf) (f:Frm)
def Nk:Int:=(Eh c f).int 0
def Ij:Int:=(Eh c f).int 1
def Nl:Int:=(Eh c f).int 2
def Np:Int:=(Eh c f).int 3
def Nq:Int:=(Eh c f).int 4
def Nr:Int:=(Eh c f).int 5
def Ns:Int:=(Eh c f).int 6
def O7:Int:=(Eh c f).int 7
def Af5:AV:=.tup [.agg [.int .u8 (Nk c f),.int .i64 (Ij c f),.int .u64 (Nl c f),.int .u64 (Np c f),.int .u64 (Nq c f),.int .i64 (Nr c f),.int .u32 (Ns c f)],.int .i64 (O7 c f)]
def Ahs:Bool:=(Eh c f).ok
end
def Bbz:Sum:=(200,on2 Dp Ji (fun c f=>Ahs c f) (fun c f=>Af5 c f))
theorem Bb0 (c:Conf) (f:Frm) (k:AV->Bool):Ai (cfg [Bq,A5m,Awy,Bii]) 400 200 [c.av,f.av] k false=(Eh c f).ev (fun l=>k (A5r l)) false:=by kernel_rfl
theorem Aht (c:Conf) (f:Frm):(Eh c f).fits A5q=true:=by kernel_rfl
theorem Bb1:Bc Tryz.prog (Cb gs) Bbz:=Cm fun c f hp=>Aq base (Ah Jn (Ah Bmc (Ah Bby (Ah s_tat Ap)))) (n:=400) fun k hk=>(Bb0 c f k).trans ((Tr.merge (Aht c f) hp).trans hk)
end
end Go.Bas.BasZTrie
end
section
namespace Go.Bas
structure Walk where
 (f:Frm) (size n0 n1 n2 many:Int)
def Walk.av (r:Walk):AV:=.iptr (r.f.cells ++ [.int .i64 r.size,.int .u32 r.n0,.int .u32 r.n1,.int .u32 r.n2,.int .i64 r.many]) 0
def Au3:AV->Option Walk
 | .iptr [.int .u8 kind,.int .u32 a,.int .u32 b,.int .u8 pc,.int .u8 i,.int .u8 j,.int .u8 n,.int .u8 p,.int .u8 h,.int .u32 x,.int .u32 y,
  .int .i64 size,.int .u32 n0,.int .u32 n1,.int .u32 n2,.int .i64 many] 0=>some ⟨⟨kind,a,b,pc,i,j,n,p,h,x,y⟩,size,n0,n1,n2,many⟩
 | _=>none
theorem Aq9 {a:AV} {c:Walk} (h:Au3 a=some c):a=c.av:=by
 unfold Au3 at h
 split at h
 ·simp only [Option.some.injEq] at h
  subst h;rfl
 ·cases h
def Awz:Rd Walk:=⟨Au3,Walk.av,fun _ _=>Aq9⟩
end Go.Bas
end
section
namespace Go.Bas.BasZBranch
noncomputable section
open Go.RowKit Go.Proofs
open BasZBase BasZOp
section
variable (a0:Int) (a1:Int) (a2:Int) (a3:Int) (a4:Int) (a5:Int) (a6:Int)
abbrev lf0:Tr:=.leaf [.int .u8 a0,.int .i64 a1,.int .u64 a2,.int .u64 a3,.int .u64 a4,.int .i64 a5,.int .u32 a6]
abbrev lf1 (a7:Int):Tr:=.leaf [.int .u8 a0,.int .i64 a1,.int .u64 a2,.int .u64 a3,.int .u64 a4,.int .i64 a5,.int .u32 a6,.int .i64 a7]
end
abbrev Bzk (w:Walk):Tr:=.leaf [.bool (decide (w.1.1=12))]
abbrev Br3:Tr:=.leaf [.bool false]
def Am4 (w:Walk):Tr:=(.br (decide (w.1.4=0)) (.leaf [.bool true]) (.br (decide (w.1.4=20)) (.leaf [.bool true]) (.br (decide (w.1.4=2)) (Bzk w) (.br (decide (w.1.4=3)) (Bzk w) (.br (decide (w.1.4=4)) (Bzk w) (.br (decide (w.1.4=22)) (Bzk w) (.br (decide (w.1.4=5)) (.leaf [.bool (decide (w.1.1=13))]) (.br (decide (w.1.4=6)) (.leaf [.bool (decide (w.1.1=13))]) (.br (decide (w.1.4=23)) (.leaf [.bool (decide (w.1.1=13))]) (.br (decide (w.1.4=21)) (.leaf [.bool (!decide (w.1.1=12))]) Br3))))))))))
def Bb2:List CK:=[.b]
def Bb3 (l:List AV):AV:=lget l 0
def Qa (w:Walk):Bool:=(Am4 w).bool 0
def Bmf (w:Walk):AV:=.bool (Qa w)
def A5s:Sum:=(327,on1 Awz (fun w=>true) (fun w=>Bmf w))
theorem Bmg (w:Walk) (k:AV->Bool):Ai (cfg []) 300 327 [w.av] k false=(Am4 w).ev (fun l=>k (Bb3 l)) false:=by kernel_rfl
theorem A0c (w:Walk):(Am4 w).fits Bb2=true:=by kernel_rfl
theorem Bmh:Bc Tryz.prog (Cb gs) A5s:=Fg fun w hp=>Aq base Ap (n:=300) fun k hk=>(Bmg w k).trans ((Tr.merge (A0c w) (Tr.ok_of_total (by kernel_rfl))).trans hk)
def A5t (w:Walk):Tr:=(.br (decide (w.1.4=0)) (.leaf [.int .i64 (IntKind.wrap .i64 w.1.5)]) (.br (decide (w.1.4=3)) (.leaf [.int .i64 (IntKind.wrap .i64 w.1.5)]) (.br (decide (w.1.4=5)) (.leaf [.int .i64 (IntKind.wrap .i64 w.1.5)]) (.br (decide (w.1.4=2)) (.leaf [.int .i64 (IntKind.wrap .i64 w.1.6)]) (.br (decide (w.1.4=4)) (.leaf [.int .i64 (IntKind.wrap .i64 ((IntKind.wrap .i64 w.1.8)-1))]) (.br (decide (w.1.4=6)) (.leaf [.int .i64 (IntKind.wrap .i64 ((IntKind.wrap .i64 w.1.8)-1))]) (.leaf [.int .i64 0])))))))
def Bmi:List CK:=[.i .i64]
def Bmj (l:List AV):AV:=lget l 0
def Jf (w:Walk):Int:=(A5t w).int 0
def o_wat (w:Walk):AV:=.int .i64 (Jf w)
def A5u:Sum:=(304,on1 Awz (fun w=>true) (fun w=>o_wat w))
theorem t_wat (w:Walk) (k:AV->Bool):Ai (cfg []) 300 304 [w.av] k false=(A5t w).ev (fun l=>k (Bmj l)) false:=by kernel_rfl
theorem A5v (w:Walk):(A5t w).fits Bmi=true:=by kernel_rfl
theorem Bij:Bc Tryz.prog (Cb gs) A5u:=Fg fun w hp=>Aq base Ap (n:=300) fun k hk=>(t_wat w k).trans ((Tr.merge (A5v w) (Tr.ok_of_total (by kernel_rfl))).trans hk)
abbrev Bvw (w:Walk):Tr:=.br (decide (w.1.4=0)) (.br (decide (w.1.7>w.1.5)) Br3 (.br (decide ((Jf w)>=0)) (.leaf [.bool (decide ((Jf w)<w.2))]) Br3)) (.br (decide ((Jf w)>=0)) (.leaf [.bool (decide ((Jf w)<w.2))]) Br3)
abbrev Bw4 (w:Walk):Tr:=.br (!(Qa w)) Br3 (.br (decide ((Dc (Dc (Dc w.1.5 w.1.6) w.1.7) w.1.8)>(IntKind.wrap .u8 w.2))) Br3 (.br (decide ((IntKind.wrap .i64 w.1.9)>w.6)) Br3 (.br (decide (w.1.4=0)) (.br (decide ((IntKind.wrap .i64 w.1.9)=w.6)) Br3 (Bvw w)) (.br (decide (w.1.4=2)) (.br (decide ((IntKind.wrap .i64 w.1.9)=w.6)) Br3 (Bvw w)) (Bvw w)))))
def Cj (w:Walk) (c:Conf):Tr:=(.br (decide (w.1.1=12)) (.br (D6 c (Opr.mk w.1.1 w.1.2 w.1.3 w.1.11)) (.br (!decide ((Ag c (Opr.mk w.1.1 w.1.2 w.1.3 w.1.11))=0)) Br3 (Bw4 w)) .bad) (.br (D6 c (Opr.mk w.1.1 w.1.2 w.1.3 0)) (.br (!decide ((Ag c (Opr.mk w.1.1 w.1.2 w.1.3 0))=0)) Br3 (Bw4 w)) .bad))
def Bb4:List CK:=[.b]
def Cc (l:List AV):AV:=lget l 0
def f_wmay_0 (w:Walk) (c:Conf):Bool:=(Cj w c).bool 0
def Bmk (w:Walk) (c:Conf):AV:=.bool (f_wmay_0 w c)
def Kr (w:Walk) (c:Conf):Bool:=(Cj w c).ok
def A5w:Sum:=(303,on2 Awz Dp (fun w c=>Kr w c) (fun w c=>Bmk w c))
theorem Bml (w:Walk) (c:Conf) (k:AV->Bool):Ai (cfg [Aws,A5s,A5u]) 300 303 [w.av,c.av] k false=(Cj w c).ev (fun l=>k (Cc l)) false:=by kernel_rfl
theorem Zf (w:Walk) (c:Conf):(Cj w c).fits Bb4=true:=by kernel_rfl
theorem Bmm:Bc Tryz.prog (Cb gs) A5w:=Cm fun w c hp=>Aq base (Ah Awt (Ah Bmh (Ah Bij Ap))) (n:=300) fun k hk=>(Bml w c k).trans ((Tr.merge (Zf w c) hp).trans hk)
abbrev Bu8 (w:Walk):List AV:=[.int .u8 w.1.1,.int .u32 w.1.2,.int .u32 w.1.3,.int .u8 w.1.4,.int .u8 w.1.5,.int .u8 w.1.6,.int .u8 w.1.7,.int .u8 w.1.8,.int .u8 w.1.9,.int .u32 w.1.10,.int .u32 w.1.11,.int .i64 w.2,.int .u32 w.3,.int .u32 w.4,.int .u32 w.5,.int .i64 w.6]
def Dy (w:Walk):Tr:=(.br (decide (w.1.4=0)) (lf0 1 (Jf w) 0 0 0 0 0) (.br (decide (w.1.4=3)) (lf0 1 (Jf w) 0 0 0 0 0) (.br (decide (w.1.4=5)) (lf0 1 (Jf w) 0 0 0 0 0) (.br (decide (w.1.4=6)) (lf0 2 (Jf w) 0 0 0 0 0) (.br (decide (w.1.4=2)) (.br (Ju w.1.9 3) (.br (Nat.ble ((12+((Int.toNat w.1.9)*1))+1) 16) (.br (AV.isI .u32 (lget (Bu8 w) (12+((Int.toNat w.1.9)*1)))) (.br (decide ((IntKind.wrap .i64 ((IntKind.wrap .i64 w.1.9)+1))=w.6)) (lf0 2 (Jf w) (IntKind.wrap .u64 ((IntKind.wrap .u64 w.1.8)+1)) (IntKind.wrap .u64 (AV.toI (lget (Bu8 w) (12+((Int.toNat w.1.9)*1))))) (IntKind.wrap .u64 ((IntKind.wrap .u64 w.1.11)+1)) 0 0) (lf0 2 (Jf w) (IntKind.wrap .u64 ((IntKind.wrap .u64 w.1.8)+1)) (IntKind.wrap .u64 (AV.toI (lget (Bu8 w) (12+((Int.toNat w.1.9)*1))))) 0 0 0)) .bad) .bad) .bad) (.br (decide (w.1.4=4)) (.br (Ju (IntKind.wrap .i64 (w.6-1)) 3) (.br (Nat.ble ((12+((Int.toNat (IntKind.wrap .i64 (w.6-1)))*1))+1) 16) (.br (AV.isI .u32 (lget (Bu8 w) (12+((Int.toNat (IntKind.wrap .i64 (w.6-1)))*1)))) (lf0 2 (Jf w) (IntKind.wrap .u64 ((IntKind.wrap .u64 w.1.6)+1)) (IntKind.wrap .u64 (AV.toI (lget (Bu8 w) (12+((Int.toNat (IntKind.wrap .i64 (w.6-1)))*1))))) (IntKind.wrap .u64 ((IntKind.wrap .u64 w.1.11)+1)) 0 0) .bad) .bad) .bad) (.br (decide (w.1.4=20)) (lf0 4 0 0 0 0 0 w.1.10) (.br (decide (w.1.4=21)) (lf0 4 0 0 0 0 6 0) (.br (decide (w.1.4=22)) (lf0 4 0 0 0 0 9 0) (.br (decide (w.1.4=23)) (lf0 4 0 0 0 0 90 0) (lf0 4 0 0 0 0 0 0)))))))))))
def Bb5:List CK:=[.i .u8,.i .i64,.i .u64,.i .u64,.i .u64,.i .i64,.i .u32]
def Bb6 (l:List AV):AV:=.agg [lget l 0,lget l 1,lget l 2,lget l 3,lget l 4,lget l 5,lget l 6]
section
variable (w:Walk)
def Ha:Int:=(Dy w).int 0
def Fa:Int:=(Dy w).int 1
def He:Int:=(Dy w).int 2
def Hf:Int:=(Dy w).int 3
def Hg:Int:=(Dy w).int 4
def Hl:Int:=(Dy w).int 5
def Hm:Int:=(Dy w).int 6
def Bmn:AV:=.agg [.int .u8 (Ha w),.int .i64 (Fa w),.int .u64 (He w),.int .u64 (Hf w),.int .u64 (Hg w),.int .i64 (Hl w),.int .u32 (Hm w)]
def I7:Bool:=(Dy w).ok
end
def A5x:Sum:=(274,on1 Awz (fun w=>I7 w) (fun w=>Bmn w))
theorem Bmo (w:Walk) (k:AV->Bool):Ai (cfg [A5u]) 300 274 [w.av] k false=(Dy w).ev (fun l=>k (Bb6 l)) false:=by kernel_rfl
theorem Zg (w:Walk):(Dy w).fits Bb5=true:=by kernel_rfl
theorem Bmp:Bc Tryz.prog (Cb gs) A5x:=Fg fun w hp=>Aq base (Ah Bij Ap) (n:=300) fun k hk=>(Bmo w k).trans ((Tr.merge (Zg w) hp).trans hk)
abbrev Btr (c:Conf) (f:Frm):=Walk.mk f c.7 (iand .u32 f.2 65535) (ishr .u32 f.2 16) f.3 3
abbrev Bts (c:Conf) (f:Frm):=Walk.mk f c.7 (iand .u32 f.2 65535) (ishr .u32 f.2 16) f.3 2
abbrev Bzl (c:Conf) (f:Frm):Tr:=.br (Kr (Bts c f) c) (.br (!(f_wmay_0 (Bts c f) c)) (lf1 0 0 0 0 0 0 0 2) (.br (I7 (Bts c f)) (lf1 (Ha (Bts c f)) (Fa (Bts c f)) (He (Bts c f)) (Hf (Bts c f)) (Hg (Bts c f)) (Hl (Bts c f)) (Hm (Bts c f)) 0) .bad)) .bad
abbrev Btt (c:Conf) (f:Frm):=Walk.mk f c.7 (iand .u32 f.2 65535) (ishr .u32 f.2 16) f.3 1
abbrev Bzm (c:Conf) (f:Frm):Tr:=.br (Kr (Btt c f) c) (.br (!(f_wmay_0 (Btt c f) c)) (lf1 0 0 0 0 0 0 0 2) (.br (I7 (Btt c f)) (lf1 (Ha (Btt c f)) (Fa (Btt c f)) (He (Btt c f)) (Hf (Btt c f)) (Hg (Btt c f)) (Hl (Btt c f)) (Hm (Btt c f)) 0) .bad)) .bad
abbrev Brw (c:Conf) (f:Frm):=Walk.mk f c.7 (iand .u32 f.2 65535) (ishr .u32 f.2 16) f.3 0
def Il (c:Conf) (f:Frm):Tr:=(.br (!decide ((Az c)=0)) (lf1 0 0 0 0 0 0 0 40) (.br (!decide (c.1=4)) (lf1 0 0 0 0 0 0 0 40) (.br (!decide ((iand .u32 f.2 65535)=0)) (.br (!decide ((ishr .u32 f.2 16)=0)) (.br (!decide (f.3=0)) (.br (Kr (Btr c f) c) (.br (!(f_wmay_0 (Btr c f) c)) (lf1 0 0 0 0 0 0 0 2) (.br (I7 (Btr c f)) (lf1 (Ha (Btr c f)) (Fa (Btr c f)) (He (Btr c f)) (Hf (Btr c f)) (Hg (Btr c f)) (Hl (Btr c f)) (Hm (Btr c f)) 0) .bad)) .bad) (Bzl c f)) (.br (!decide (f.3=0)) (Bzl c f) (Bzm c f))) (.br (!decide ((ishr .u32 f.2 16)=0)) (.br (!decide (f.3=0)) (Bzl c f) (Bzm c f)) (.br (!decide (f.3=0)) (Bzm c f) (.br (Kr (Brw c f) c) (.br (!(f_wmay_0 (Brw c f) c)) (lf1 0 0 0 0 0 0 0 2) (.br (I7 (Brw c f)) (lf1 (Ha (Brw c f)) (Fa (Brw c f)) (He (Brw c f)) (Hf (Brw c f)) (Hg (Brw c f)) (Hl (Brw c f)) (Hm (Brw c f)) 0) .bad)) .bad))))))
def A5y:List CK:=[.i .u8,.i .i64,.i .u64,.i .u64,.i .u64,.i .i64,.i .u32,.i .i64]
def A5z (l:List AV):AV:=.tup [.agg [lget l 0,lget l 1,lget l 2,lget l 3,lget l 4,lget l 5,lget l 6],lget l 7]
section
variable (c:Conf) (f:Frm)
def Ri:Int:=(Il c f).int 0
def Nu:Int:=(Il c f).int 1
def Rj:Int:=(Il c f).int 2
def Rk:Int:=(Il c f).int 3
def Rn:Int:=(Il c f).int 4
def Ro:Int:=(Il c f).int 5
def Rq:Int:=(Il c f).int 6
def O8:Int:=(Il c f).int 7
def Af6:AV:=.tup [.agg [.int .u8 (Ri c f),.int .i64 (Nu c f),.int .u64 (Rj c f),.int .u64 (Rk c f),.int .u64 (Rn c f),.int .i64 (Ro c f),.int .u32 (Rq c f)],.int .i64 (O8 c f)]
def Ahu:Bool:=(Il c f).ok
end
def Bb7:Sum:=(204,on2 Dp Ji (fun c f=>Ahu c f) (fun c f=>Af6 c f))
theorem Bb8 (c:Conf) (f:Frm) (k:AV->Bool):Ai (cfg [Bq,A5w,A5x]) 400 204 [c.av,f.av] k false=(Il c f).ev (fun l=>k (A5z l)) false:=by kernel_rfl
theorem Au5 (c:Conf) (f:Frm):(Il c f).fits A5y=true:=by kernel_rfl
theorem Bb9:Bc Tryz.prog (Cb gs) Bb7:=Cm fun c f hp=>Aq base (Ah Jn (Ah Bmm (Ah Bmp Ap))) (n:=400) fun k hk=>(Bb8 c f k).trans ((Tr.merge (Au5 c f) hp).trans hk)
end
end Go.Bas.BasZBranch
end
section
namespace Go.Bas.BasZOk2
open Go.RowKit Go.Proofs BasZOp BasZOk BasZGate BasZTrie
theorem Aw0 {c:Conf} {f:Frm} (h:Ep f=true) (x:Int):D6 c ⟨f.kind,f.a,f.b,x⟩=true:=by
 have q:=H7.1 h
 exact Vt q.1 q.2.1 q.2.2.1
theorem Ud {c:Conf} {f:Frm} (h:Ep f=true):Af0 c f=true:=by
 unfold Af0 Vu;try simp only [Bu5,Bzh]
 rw [Aw0 h,Aw0 h]
 repeat' (first|exact okleaf|refine okbr (fun h=>?_) (fun h=>?_))
 all_goals (first|(cases ‹true=false›)|skip)
theorem Ue {c:Conf} {f:Frm} (h:Ep f=true):Jd c f=true:=by
 unfold Jd Aav
 rw [Ud h]
 repeat' (first|exact okleaf|refine okbr (fun h=>?_) (fun h=>?_))
 all_goals (first|(cases ‹true=false›)|skip)
theorem Acb {c:Conf} {f:Frm} (h:Ep f=true):Ahh c f=true:=by
 unfold Ahh G5
 rw [Ue h]
 repeat' (first|exact okleaf|refine okbr (fun h=>?_) (fun h=>?_))
 all_goals (first|(cases ‹true=false›)|skip)
theorem Nv {c:Conf} {f:Frm} (h:Ep f=true):Gu ⟨f,c⟩=true:=by
 unfold Gu Sm;try simp only [Bs8,Buk,Bzi,Bw0,Bzj]
 simp only [Aw0 h]
 repeat' (first|exact okleaf|refine okbr (fun h=>?_) (fun h=>?_))
 all_goals (first|(cases ‹true=false›)|skip)
end Go.Bas.BasZOk2
end
section
namespace Go.Bas.BasZRef14
noncomputable section
open Go.RowKit Go.Proofs
open BasZOp BasZOk BasZRef5b
def Eu (f:Frm):Bool:=Ep f&&(decide (0<=f.a)&&(decide (f.a<4294967296)&&decide (f.b<4294967296)))
theorem Bg {f:Frm} {y:Int} (h:Eu f=true):posR ⟨f.kind,f.a,f.b,y⟩=true:=by
 unfold Eu at h
 simp only [Bae,Dte] at h
 have p:=H7.1 h.1
 exact H8.2 ⟨⟨p.1,p.2.1,p.2.2.1⟩,h.2.1,h.2.2.1,h.2.2.2⟩
theorem Ae {c:Conf} {f:Frm} {y:Int} (h:Eu f=true):D6 c ⟨f.kind,f.a,f.b,y⟩=true:=by
 have q:=H8.1 (Bg (y:=y) h)
 exact Vt q.1.1 q.1.2.1 q.1.2.2
end
end Go.Bas.BasZRef14
end
section
namespace Go.Bas.BasZOk3
open Go.RowKit Go.Proofs BasZOk BasZOk2 BasZTrie
theorem prb' {b:Bool} {x y:Tr} {P:Prop} (hx:b=true->x.bool 0=true->P) (hy:b=false->y.bool 0=true->P) (h:(Tr.br b x y).bool 0=true):P:=by
  cases b
  · exact hy rfl h
  · exact hx rfl h
def Ahv (kind pc hh b bits:Int):Prop:=(kind=3->hh<=bits/\(pc=0\/pc=6\/pc=8))/\(kind ≠ 3->hh<=b/\(kind=1/\(pc=1\/pc=5\/pc=7)\/kind ≠ 1/\pc=8\/pc=6\/pc=0\/pc=2\/pc=3))
theorem Adj {c:Conf} {f:Frm} (h:Df ⟨f,c⟩=true):Ahv f.kind f.pc (IntKind.wrap .u32 f.h) f.b (IntKind.wrap .u32 c.bits):=by
  unfold Df Sm at h;try simp only [Bs8,Buk,Bzi,Bw0,Bzj] at h
  revert h
  unfold Ahv
  repeat' (first|(intro h;cases h;done)|refine prb' (fun h=>?_) (fun h=>?_))
  all_goals
    intro _;simp only [Dte,Dni,Bool.not_eq_true',Bool.not_eq_false'] at *;omega
theorem Uz {n:Int} (h0:0<=n) (h1:n<=4294967295):IntKind.wrap .u32 n=n:=Uc (by simp [Lit.wf,IntKind.min,IntKind.max,IntKind.signed,IntKind.bits];omega)
theorem i64_mid {n:Int} (h0:-10000000000<=n) (h1:n<=10000000000):IntKind.wrap .i64 n=n:=Uc (by simp [Lit.wf,IntKind.min,IntKind.max,IntKind.signed,IntKind.bits];omega)
theorem Af7 {c:Conf} (he:Az c=0) (ho:c.ob=1):1<=c.bits/\c.bits<=6:=by
  have h:=Hy.1 (Og he)
  simp only [Conf.OkP] at h
  omega
theorem Vy {g:Frm} {c:Conf} (hb:0<=g.b):Kz ⟨g,c⟩=true:=by
  unfold Kz Vx
  exact okbr (fun h=>absurd (Odt h) (by show ¬ g.b<0;omega)) (fun _=>okleaf)
theorem ok_tat_pos {f:Frm} {c:Conf} {b:Int} (h0:0<=f.h) (h1:f.h<=255) (hb:0<=b) (hb2:b<=4294967295) (hh:f.h<=b):Ig ⟨f,c⟩ b=true:=by
  unfold Ig Aho
  refine okbr (fun h=>absurd (Odt h) (by omega)) (fun _=>okbr (fun h=>?_) (fun _=>okleaf))
  have h:=Odt h
  have h:IntKind.wrap .i64 (b-IntKind.wrap .i64 f.h)<0:=h
  rw [i64_mid (n:=f.h) (by omega) (by omega),i64_mid (by omega) (by omega)] at h
  omega
theorem Acd {c:Conf} {f:Frm} (h:Ep f=true):Ahs c f=true:=by
  have q:=H7.1 h
  have e1:=i64_mid (n:=f.b) (by omega) (by omega)
  have e2:=i64_mid (n:=f.h) (by omega) (by omega)
  have e3:=Uz (n:=f.h) (by omega) (by omega)
  have e4:=i64_mid (n:=f.b-f.h) (by omega) (by omega)
  unfold Ahs Eh;try simp only [Bt7,Bt8,Bt9,Bw1,Bw2,Br1,Bsq,Bw3]
  refine okbr (fun h=>okleaf) (fun he=>okbr (fun h=>okleaf) (fun ho=>?_))
  have he:Az c=0:=by simpa using he
  have ho:c.ob=1:=by simpa using ho
  have hb:=Af7 he ho
  have e5:=Uz (n:=c.bits) (by omega) (by omega)
  have e6:=i64_mid (n:=c.bits-f.h) (by omega) (by omega)
  rw [Nv h]
  simp only [e1,e2,e4,e6,Vy (g:=f) q.2.2.1,Vy (g:=⟨f.kind,f.a,f.b,6,f.i,f.j,f.n,f.p,f.h,f.x,f.y⟩) q.2.2.1]
  refine okbr (fun _=>okbr (fun h=>okleaf) (fun hm=>?_)) (fun h=>by cases h)
  have hm:=Adj (c:=c) (f:=f) (by simpa using hm)
  rw [e3,e5] at hm
  unfold Ahv at hm
  clear h
  repeat' (first|exact okleaf|refine okbr (fun h=>?_) (fun h=>?_))
  all_goals
    exfalso
    first
    | (exact Bool.noConfusion (show true=false by assumption))
    | (simp only [Dte,Dni,Bool.not_eq_true',Bool.not_eq_false'] at *
       first
       | omega
       | (have hx:=ok_tat_pos (f:=f) (c:=c) (b:=f.b) (by omega) (by omega) (by omega) (by omega) (by omega)
          have hy:Ig ⟨f,c⟩ f.b=false:=by assumption
          rw [hx] at hy;cases hy)
       | (have hx:=ok_tat_pos (f:=f) (c:=c) (b:=c.bits) (by omega) (by omega) (by omega) (by omega) (by omega)
          have hy:Ig ⟨f,c⟩ c.bits=false:=by assumption
          rw [hx] at hy;cases hy))
end Go.Bas.BasZOk3
end
section
namespace Go.Bas
theorem prb {b:Bool} {x y:Tr} {P:Prop} (hx:b=true->x.bool 0=true->P) (hy:b=false->y.bool 0=true->P) (h:(Tr.br b x y).bool 0=true):P:=by
  cases b
  · exact hy rfl h
  · exact hx rfl h
end Go.Bas
namespace Go.Bas.BasZOk4
open Go.RowKit Go.Proofs BasZOp BasZOk BasZOk2 BasZTreB BasZBranch
theorem lf {b:Bool} (h:(Tr.leaf [.bool b]).bool 0=true):b=true:=h
theorem fits_path {c:Conf} {o:Opr} (h:E9 c o=true):o.kind=12\/o.kind=13\/o.kind=14->Gv o.a o.b=true:=by
  unfold E9 Ic at h;try simp only [Bq3,Bze,Byl,Bzf,Bym] at h
  revert h
  repeat' (first|(intro h;cases h;done)|refine prb (fun h=>?_) (fun h=>?_))
  all_goals
    intro hv hk;have hv:=lf hv
    first
    | exact hv
    | (exfalso
       simp only [Dte,Dni] at *;omega)
theorem Bmq {a b:Int} (h:Gv a b=true):¬ iand .u32 a 65535=0:=by
  unfold Gv Aas at h;try simp only [Bq3] at h
  revert h
  repeat' (first|(intro h;cases h;done)|refine prb (fun h=>?_) (fun h=>?_))
  all_goals
    intro hv;simp only [Dte,Dni,Bool.not_eq_true',Bool.not_eq_false'] at *
    assumption
theorem Bik {n:Int} (h0:0<=n) (h1:n<=255) (h:Be n=4):n=12\/n=13\/n=14:=by
  by_cases hn:n<15
  · have t0:Be 0=0:=by kernel_rfl
    have t1:Be 1=1:=by kernel_rfl
    have t2:Be 2=1:=by kernel_rfl
    have t3:Be 3=1:=by kernel_rfl
    have t4:Be 4=2:=by kernel_rfl
    have t5:Be 5=2:=by kernel_rfl
    have t6:Be 6=2:=by kernel_rfl
    have t7:Be 7=2:=by kernel_rfl
    have t8:Be 8=2:=by kernel_rfl
    have t9:Be 9=3:=by kernel_rfl
    have t10:Be 10=3:=by kernel_rfl
    have t11:Be 11=3:=by kernel_rfl
    rcases Azo h0 hn with rfl|rfl|rfl|rfl|rfl|rfl|rfl|rfl|rfl|rfl|rfl|rfl|rfl|rfl|rfl<;>omega
  · have e:decide (IntKind.wrap .i64 n>=15)=true:=by rw [Du h0 h1];exact Ddt (by omega)
    have:Be n=0:=by
      unfold Be Ahe;rw [e];rfl
    omega
theorem Ard {c:Conf} {o:Opr} (h0:0<=o.kind) (h1:o.kind<=255) (hb:0<=o.b) (ho:c.ob=4) (h:Ag c o=0):¬ iand .u32 o.a 65535=0:=by
  have hf:Be o.kind=c.ob/\E9 c o=true:=by
    have e:Ag c o=(bif !decide (Az c=0) then Az c else bif Oe o.kind then bif !decide (Be o.kind=c.ob) then 50 else bif Jo c o then bif !(E9 c o) then 10 else 0 else 0 else 0):=by
      unfold Ag Zx;show cond _ _ _=_;cases (!decide (Az c=0)) with
      | true=>rfl
      | false =>
        cases Oe o.kind with
        | false=>rfl
        | true =>
          cases (!decide (Be o.kind=c.ob)) with
          | true=>rfl
          | false =>
            cases Jo c o with
            | false=>rfl
            | true=>cases (!(E9 c o))<;>rfl
    by_cases he:Az c=0
    · have hO:=Hy.1 (Og he)
      simp only [Conf.OkP] at hO;rw [h,Ddt he,Vs h0 h1] at e
      by_cases hk:Be o.kind=c.ob
      · rw [Ddt hk,P7 hb (fun h3=>by rw [h3,A4d] at hk;omega)] at e
        refine ⟨hk,?_⟩;cases hf:E9 c o with
        | true=>rfl
        | false =>
          rw [hf] at e;have e:(0:Int)=10:=e;omega
      · rw [Ddf hk] at e
        have e:(0:Int)=50:=e;omega
    · rw [h,Ddf he] at e
      exact absurd e.symm he
  exact Bmq (fits_path hf.2 (Bik h0 h1 (hf.1.trans ho)))
theorem U0 {w:Walk} {c:Conf} (h:f_wmay_0 w c=true):IntKind.wrap .i64 w.f.h<=w.many/\(w.f.pc=0\/w.f.pc=2->IntKind.wrap .i64 w.f.h ≠ w.many)/\(Ag c ⟨w.f.kind,w.f.a,w.f.b,w.f.y⟩=0\/Ag c ⟨w.f.kind,w.f.a,w.f.b,0⟩=0):=by
  unfold f_wmay_0 Cj at h;try simp only [Br3,Bvw,Bw4] at h
  revert h
  repeat' (first|(intro h;cases h;done)|refine prb (fun h=>?_) (fun h=>?_))
  all_goals
    intro hv;clear hv;simp only [Dte,Dni,Bool.not_eq_true',Bool.not_eq_false'] at *;omega
theorem Nw {w:Walk} {c:Conf} (h:Ep w.f=true):Kr w c=true:=by
  unfold Kr Cj;try simp only [Br3,Bvw,Bw4]
  simp only [Aw0 h]
  repeat' (first|exact okleaf|refine okbr (fun h=>?_) (fun h=>?_))
  all_goals (first|(cases ‹true=false›)|skip)
theorem Jz {f:Frm} {size n0 n1 n2 many:Int} (h2:f.pc=2->0<=f.h/\f.h<=2) (h4:1<=many/\many<=3):I7 ⟨f,size,n0,n1,n2,many⟩=true:=by
  obtain ⟨kind,a,b,pc,i,j,n,p,h,x,y⟩:=f
  by_cases hp:pc=2
  · subst hp
    have hh:=h2 rfl;have hh:0<=h/\h<=2:=hh
    rcases (show h=0\/h=1\/h=2 by omega) with rfl|rfl|rfl
    all_goals
      unfold I7 Dy;try simp only [Bu8]
      repeat' (first|exact okleaf|refine okbr (fun h=>?_) (fun h=>?_))
      all_goals (first|(exact absurd ‹_=false› (by decide))|(exact Bool.noConfusion (show true=false from ‹_=false›))|(exfalso;simp only [Dte,Dni] at *;omega))
  · rcases (show many=1\/many=2\/many=3 by omega) with rfl|rfl|rfl
    all_goals
      unfold I7 Dy;try simp only [Bu8]
      repeat' (first|exact okleaf|refine okbr (fun h=>?_) (fun h=>?_))
      all_goals (first|(exfalso;simp only [Dte,Dni] at *;omega)|(exact Bool.noConfusion (show true=false from ‹_=false›)))
theorem Arf {f:Frm} {c:Conf} {size n0 n1 n2 many:Int} (hp:Ep f=true) (hm:many<=3) (h:f_wmay_0 ⟨f,size,n0,n1,n2,many⟩ c=true):f.pc=2->0<=f.h/\f.h<=2:=fun h2=>by
  obtain ⟨q1,q2,_⟩:=U0 h
  have q1:IntKind.wrap .i64 f.h<=many:=q1
  have q2:IntKind.wrap .i64 f.h ≠ many:=q2 (.inr h2)
  have p:=H7.1 hp
  have e:IntKind.wrap .i64 f.h=f.h:=Du (by omega) (by omega)
  rw [e] at q1 q2
  omega
theorem Bil {f:Frm} {c:Conf} {size n0 n1 n2 many:Int} (hp:Ep f=true) (ho:c.ob=4) (h:f_wmay_0 ⟨f,size,n0,n1,n2,many⟩ c=true):¬ iand .u32 f.a 65535=0:=by
  have p:=H7.1 hp
  rcases (U0 h).2.2 with h1|h1
  · exact Ard (o:=⟨f.kind,f.a,f.b,f.y⟩) p.1 p.2.1 p.2.2.1 ho h1
  · exact Ard (o:=⟨f.kind,f.a,f.b,0⟩) p.1 p.2.1 p.2.2.1 ho h1
theorem Am5 {c:Conf} {f:Frm} (hpos:Ep f=true):Ahu c f=true:=by
  unfold Ahu Il;try simp only [Brw,Btr,Bts,Bzl,Btt,Bzm]
  refine okbr (fun h=>okleaf) (fun he=>okbr (fun h=>okleaf) (fun ho=>?_))
  have ho:c.ob=4:=by simpa using ho
  simp only [Nw (w:=⟨f,_,_,_,_,_⟩) hpos]
  repeat' (first|exact okleaf|(exact Bool.noConfusion (show true=false from ‹_=false›))|refine okbr (fun h=>?_) (fun h=>?_))
  all_goals
    exfalso
    first
    | (have hm:=nf (show (!(f_wmay_0 ⟨f,c.cap,iand .u32 f.a 65535,ishr .u32 f.a 16,f.b,0⟩ c))=false by assumption)
       have:=Bil hpos ho hm;simp only [Dte,Dni,Bool.not_eq_true',Bool.not_eq_false'] at *;omega)
    | (have hm:=nf (show (!(f_wmay_0 ⟨f,c.cap,iand .u32 f.a 65535,ishr .u32 f.a 16,f.b,1⟩ c))=false by assumption)
       have hx:=Jz (size:=c.cap) (n0:=iand .u32 f.a 65535) (n1:=ishr .u32 f.a 16) (n2:=f.b) (many:=1) (Arf hpos (by decide) hm) (by decide)
       have hy:I7 ⟨f,c.cap,iand .u32 f.a 65535,ishr .u32 f.a 16,f.b,1⟩=false:=by assumption
       rw [hx] at hy;cases hy)
    | (have hm:=nf (show (!(f_wmay_0 ⟨f,c.cap,iand .u32 f.a 65535,ishr .u32 f.a 16,f.b,2⟩ c))=false by assumption)
       have hx:=Jz (size:=c.cap) (n0:=iand .u32 f.a 65535) (n1:=ishr .u32 f.a 16) (n2:=f.b) (many:=2) (Arf hpos (by decide) hm) (by decide)
       have hy:I7 ⟨f,c.cap,iand .u32 f.a 65535,ishr .u32 f.a 16,f.b,2⟩=false:=by assumption
       rw [hx] at hy;cases hy)
    | (have hm:=nf (show (!(f_wmay_0 ⟨f,c.cap,iand .u32 f.a 65535,ishr .u32 f.a 16,f.b,3⟩ c))=false by assumption)
       have hx:=Jz (size:=c.cap) (n0:=iand .u32 f.a 65535) (n1:=ishr .u32 f.a 16) (n2:=f.b) (many:=3) (Arf hpos (by decide) hm) (by decide)
       have hy:I7 ⟨f,c.cap,iand .u32 f.a 65535,ishr .u32 f.a 16,f.b,3⟩=false:=by assumption
       rw [hx] at hy;cases hy)
end Go.Bas.BasZOk4
end
section
namespace Go.Bas.BasZOk6
noncomputable section
open Go.RowKit Go.Proofs BasZBase BasZOk BasZOk2 BasZOk3 BasZOk4 BasZTreB BasZGate BasZTrie BasZBranch
def Arh:Sum:=(202,on2 Dp Ji (fun _ f=>Ep f) (fun c f=>Af1 c f))
theorem s_gNp:Bc Tryz.prog (Cb gs) Arh:=Je (fun c f h=>⟨Acb h,rfl⟩) Bbh
def Ari:Sum:=(200,on2 Dp Ji (fun _ f=>Ep f) (fun c f=>Af5 c f))
theorem s_rNp:Bc Tryz.prog (Cb gs) Ari:=Je (fun c f h=>⟨Acd h,rfl⟩) Bb1
def Arj:Sum:=(204,on2 Dp Ji (fun _ f=>Ep f) (fun c f=>Af6 c f))
theorem s_bNp:Bc Tryz.prog (Cb gs) Arj:=Je (fun c f h=>⟨Am5 h,rfl⟩) Bb9
end
end Go.Bas.BasZOk6
end
section
namespace Go.Bas.BasZR14
noncomputable section
open Go.RowKit Go.Proofs
open BasZBase BasZOp BasZOk BasZRef5 BasZRef5b BasZRef5d BasZGate BasZOk2 BasZRef14
def posH (f:Frm):Bool:=Eu f&&(decide (0<=f.pc/\f.pc<=255)&&(decide (0<=f.i/\f.i<=255)&&(decide (0<=f.j/\f.j<=255)&&(decide (0<=f.n/\f.n<=255)&&(decide (0<=f.p/\f.p<=255)&&(decide (0<=f.x/\f.x<4294967296)&&decide (0<=f.y/\f.y<4294967296)))))))
theorem Ik {f:Frm}:posH f=true ↔ Eu f=true/\(0<=f.pc/\f.pc<=255)/\(0<=f.i/\f.i<=255)/\(0<=f.j/\f.j<=255)/\(0<=f.n/\f.n<=255)/\(0<=f.p/\f.p<=255)/\(0<=f.x/\f.x<4294967296)/\(0<=f.y/\f.y<4294967296):=by
 unfold posH
 simp only [Bae,Dte]
theorem Fz {f:Frm} (h:posH f=true):Eu f=true:=(Ik.1 h).1
theorem Dn {f:Frm} (h:posH f=true):Ep f=true:=Aj (Fz h)
theorem F5 {f:Frm} (h:posH f=true):(0<=f.kind/\f.kind<=255)/\(0<=f.a/\f.a<4294967296)/\(0<=f.b/\f.b<4294967296)/\(0<=f.h/\f.h<=255):=by
 have q:=H7.1 (Dn h)
 have g:=Fz h
 unfold Eu at g
 simp only [Bae,Dte] at g
 omega
theorem Aen {c:Conf} {o:Opr} (h0:0<=o.kind) (h1:o.kind<=255) (hb:0<=o.b) (h:Ag c o=0):Be o.kind=c.ob/\E9 c o=true/\c.ok=true:=by
 have e:Ag c o=(bif !decide (Az c=0) then Az c else bif Oe o.kind then bif !decide (Be o.kind=c.ob) then 50 else bif Jo c o then bif !(E9 c o) then 10 else 0 else 0 else 0):=by
  unfold Ag Zx;show cond _ _ _=_;cases (!decide (Az c=0)) with
  | true=>rfl
  | false =>
   cases Oe o.kind with
   | false=>rfl
   | true =>
    cases (!decide (Be o.kind=c.ob)) with
    | true=>rfl
    | false =>
     cases Jo c o with
     | false=>rfl
     | true=>cases (!(E9 c o))<;>rfl
 by_cases he:Az c=0
 ·have hO:=Hy.1 (Og he)
  simp only [Conf.OkP] at hO;rw [h,Ddt he,Vs h0 h1] at e
  by_cases hk:Be o.kind=c.ob
  ·rw [Ddt hk,P7 hb (fun h3=>by rw [h3,A4d] at hk;omega)] at e
   refine ⟨hk,?_,Og he⟩;cases hf:E9 c o with
   | true=>rfl
   | false =>
    rw [hf] at e;have e:(0:Int)=10:=e;omega
  ·rw [Ddf hk] at e
   have e:(0:Int)=50:=e;omega
 ·rw [h,Ddf he] at e
  exact absurd e.symm he
theorem Aa1 {n:Int} (h0:0<=n) (h1:n<=255):(Be n=0/\(n=0\/15<=n))\/(Be n=1/\1<=n/\n<=3)\/(Be n=2/\4<=n/\n<=8)\/(Be n=3/\9<=n/\n<=11)\/(Be n=4/\12<=n/\n<=14):=by
 by_cases hn:n<15
 ·have a0:Be 0=0:=by kernel_rfl
  have a1:Be 1=1:=by kernel_rfl
  have a2:Be 2=1:=by kernel_rfl
  have a3:Be 3=1:=by kernel_rfl
  have a4:Be 4=2:=by kernel_rfl
  have a5:Be 5=2:=by kernel_rfl
  have a6:Be 6=2:=by kernel_rfl
  have a7:Be 7=2:=by kernel_rfl
  have a8:Be 8=2:=by kernel_rfl
  have a9:Be 9=3:=by kernel_rfl
  have a10:Be 10=3:=by kernel_rfl
  have a11:Be 11=3:=by kernel_rfl
  have a12:Be 12=4:=by kernel_rfl
  have a13:Be 13=4:=by kernel_rfl
  have a14:Be 14=4:=by kernel_rfl
  rcases Azo h0 hn with rfl|rfl|rfl|rfl|rfl|rfl|rfl|rfl|rfl|rfl|rfl|rfl|rfl|rfl|rfl<;>omega
 ·have:=Amt (n:=n) (by omega) h0 h1
  omega
theorem A0d {C:Cfg} {n:Nat} {f:FuncId} {args:List AV} {P Q:AV->Bool} (e:∀ w,P w=Q w) (h:Ai C n f args Q false=true):Ai C n f args P false=true:=by
 rw [show P=Q from funext e]
 exact h
def Jp:Sum:=(36,on2 Dp Ab2 (fun c o=>posR o&&decide (Ag c o=0)) (fun c o=>.int .i64 0))
theorem Zh:Bc Tryz.prog (Cb gs) Jp:=Je (fun c o h=>⟨Aj h,by rw [Odt (Af h)]⟩) Aau
def Ace:Sum:=(36,on2 Dp Ab2 (fun c o=>posR o&&decide (Ag c o=10)) (fun c o=>.int .i64 10))
theorem Ark:Bc Tryz.prog (Cb gs) Ace:=Je (fun c o h=>⟨Aj h,by rw [Odt (Af h)]⟩) Aau
def Acf:Sum:=(36,on2 Dp Ab2 (fun c o=>posR o&&decide (Ag c o=40)) (fun c o=>.int .i64 40))
theorem Arl:Bc Tryz.prog (Cb gs) Acf:=Je (fun c o h=>⟨Aj h,by rw [Odt (Af h)]⟩) Aau
def Acg:Sum:=(36,on2 Dp Ab2 (fun c o=>posR o&&decide (Ag c o=50)) (fun c o=>.int .i64 50))
theorem Arm:Bc Tryz.prog (Cb gs) Acg:=Je (fun c o h=>⟨Aj h,by rw [Odt (Af h)]⟩) Aau
def opF (k:Int) (f:Frm):Opr:=⟨f.kind,f.a,f.b,cond (decide (f.kind=k)) f.y 0⟩
theorem Aw1 {k e:Int} {c:Conf} {f:Frm} (h:decide (f.kind=k)=true) (hop:decide (Ag c (opF k f)=e)=true):decide (Ag c ⟨f.kind,f.a,f.b,f.y⟩=e)=true:=by
 unfold opF at hop
 rw [h] at hop
 exact hop
theorem Aw2 {k e:Int} {c:Conf} {f:Frm} (h:decide (f.kind=k)=false) (hop:decide (Ag c (opF k f)=e)=true):decide (Ag c ⟨f.kind,f.a,f.b,0⟩=e)=true:=by
 unfold opF at hop
 rw [h] at hop
 exact hop
theorem A8 {a b:Bool} (h:a=true) (h':b=true):(a&&b)=true:=by rw [h,h'];rfl
theorem Aw3 {c:Conf} {o:Opr} (hr:Ie o=true):Ag c o=0\/Ag c o=10\/Ag c o=40\/Ag c o=50:=by
 unfold Ag Zx
 have ee:Az c=0\/Az c=40:=by unfold Az;cases c.ok<;>first|exact .inl rfl|exact .inr rfl
 show cond _ _ _=0\/cond _ _ _=10\/cond _ _ _=40\/cond _ _ _=50
 cases h1:(!decide (Az c=0)) with
 | true =>
  have:¬ Az c=0:=by simpa using h1
  exact .inr (.inr (.inl (by rcases ee with e|e;exact absurd e this;exact e)))
 | false =>
  cases Oe o.kind with
  | false=>exact .inl rfl
  | true =>
   cases (!decide (Be o.kind=c.ob)) with
   | true=>exact .inr (.inr (.inr rfl))
   | false =>
    cases Jo c o with
    | false=>exact .inl rfl
    | true=>cases (!(E9 c o))<;>first|exact .inl rfl|exact .inr (.inl rfl)
theorem D8 {c:Conf} {n:Int} (h:c.ob=n):c=⟨n,c.ins,c.thr,c.kind,c.str,c.bits,c.cap,c.node,c.batch,c.chunk,c.limit,c.most⟩:=by
 cases c
 cases h
 rfl
theorem prx {b:Bool} {x y:Tr} {P:Prop} (hx:b=true->x.bool 0=true->P) (hy:b=false->y.bool 0=true->P) (h:(Tr.br b x y).bool 0=true):P:=by
 cases b
 ·exact hy rfl h
 ·exact hx rfl h
theorem Bca {c:Conf} {f:Frm} (h:F9 c f=true):f.pc=0\/f.pc=2\/f.pc=20\/f.pc=21\/f.pc=22:=by
 unfold F9 Vu at h;try simp only [Bu5,Bzh] at h
 revert h
 repeat' (first|(intro h;cases h;done)|refine prx (fun h=>?_) (fun h=>?_))
 all_goals
  intro _;simp only [Dte,Dni,Bool.not_eq_true',Bool.not_eq_false'] at *;omega
theorem Bcb {c:Conf} {f:Frm} (h:F9 c f=true):IntKind.wrap .i64 f.i<c.cap/\IntKind.wrap .i64 f.j<c.cap:=by
 unfold F9 Vu at h;try simp only [Bu5,Bzh] at h
 revert h
 repeat' (first|(intro h;cases h;done)|refine prx (fun h=>?_) (fun h=>?_))
 all_goals
  intro _;simp only [Dte,Dni,Bool.not_eq_true',Bool.not_eq_false'] at *;omega
theorem A50 {c:Conf} {f:Frm} (he:decide (Az c=0)=true) (ho:c.ob=3) (hp:Ep f=true) (hm:F9 c f=true):Gf c f=0:=by
 unfold Gf Aav
 rw [he,Ddt ho,Ud hp,hm]
 rfl
theorem Bmr {c:Conf} {f:Frm} (he:decide (Az c=0)=true) (ho:c.ob=3) (hp:Ep f=true) (hm:F9 c f=false):Gf c f=2:=by
 unfold Gf Aav
 rw [he,Ddt ho,Ud hp,hm]
 rfl
def A51:Sum:=(144,on2 Dp Ji (fun c f=>(decide (c.ob=3)&&posH f)) (fun c f=>.bool (F9 c f)))
abbrev Brg (c:Conf):Conf:=⟨3,c.ins,c.thr,c.kind,c.str,c.bits,c.cap,c.node,c.batch,c.chunk,c.limit,c.most⟩
abbrev Am3 (c:Conf):=Conf.mk 3 c.2 c.3 c.4 c.5 c.6 c.7 c.8 c.9 c.10 c.11 c.12
abbrev Zl (c:Conf) (f:Frm):=!decide ((Ag (Am3 c) (Opr.mk f.1 f.2 f.3 f.11))=0)
abbrev Ara (c:Conf) (f:Frm):=decide ((IntKind.wrap .i64 f.5)>=c.7)
abbrev Au4 (c:Conf) (f:Frm):=decide ((IntKind.wrap .i64 f.6)>=c.7)
abbrev Ai6 (f:Frm):=!decide (f.1=9)
abbrev Aay (c:Conf) (f:Frm):Bool:=br (Ara c f) true (br (Au4 c f) true (br (decide (f.9>1)) true (br (decide (f.4=0)) false (br (decide (f.4=20)) false (br (decide (f.4=2)) (!(!decide (f.1=11))) (br (decide (f.4=21)) (!decide (f.1=10)) (br (decide (f.4=22)) (Ai6 f) true)))))))
abbrev Aaz (c:Conf) (f:Frm):=!decide ((Ag (Am3 c) (Opr.mk f.1 f.2 f.3 0))=0)
abbrev Arb (c:Conf) (f:Frm):Bool:=br (decide (f.1=9)) (ba (D6 (Am3 c) (Opr.mk f.1 f.2 f.3 f.11)) (br (Zl c f) true (Aay c f))) (ba (D6 (Am3 c) (Opr.mk f.1 f.2 f.3 0)) (br (Aaz c f) true (Aay c f)))
abbrev Aa0 (f:Frm):Bool:=ba (decide (f.1=9)) true
section
variable (c:Conf) (f:Frm)
abbrev Arc:Bool:=br (Ara c f) false (br (Au4 c f) false (br (decide (f.9>1)) false (br (decide (f.4=0)) true (br (decide (f.4=20)) true (br (decide (f.4=2)) (ba (!decide (f.1=11)) true) (br (decide (f.4=21)) (ba (decide (f.1=10)) true) (ba (decide (f.4=22)) (Aa0 f))))))))
abbrev Sr:Bool:=br (decide (f.1=9)) (ba (D6 (Am3 c) (Opr.mk f.1 f.2 f.3 f.11)) (br (Zl c f) false (Arc c f))) (ba (D6 (Am3 c) (Opr.mk f.1 f.2 f.3 0)) (br (Aaz c f) false (Arc c f)))
abbrev B2d:Bool:=br (Ara c f) (Ai6 f) (br (Au4 c f) (Ai6 f) (br (decide (f.9>1)) (Ai6 f) (br (decide (f.4=0)) (Aa0 f) (br (decide (f.4=20)) (Aa0 f) (br (decide (f.4=2)) (br (!decide (f.1=11)) (Aa0 f) (Ai6 f)) (br (decide (f.4=21)) (br (decide (f.1=10)) (Aa0 f) (Ai6 f)) (br (decide (f.4=22)) (br (decide (f.1=9)) (Aa0 f) (Ai6 f)) (Ai6 f))))))))
abbrev Bxu:Bool:=br (decide (f.4=22)) (br (decide (f.1=9)) (ba (D6 (Am3 c) (Opr.mk f.1 f.2 f.3 f.11)) (br (Zl c f) (Ai6 f) (B2d c f))) (ba (D6 (Am3 c) (Opr.mk f.1 f.2 f.3 0)) (br (Aaz c f) (Ai6 f) (B2d c f)))) (Arb c f)
abbrev B2e:Bool:=br (Ara c f) (Arb c f) (br (Au4 c f) (Arb c f) (br (decide (f.9>1)) (Arb c f) (br (decide (f.4=0)) (Sr c f) (br (decide (f.4=20)) (Sr c f) (br (decide (f.4=2)) (br (!decide (f.1=11)) (Sr c f) (br (decide (f.4=21)) (br (decide (f.1=10)) (Sr c f) (Bxu c f)) (Bxu c f))) (br (decide (f.4=21)) (br (decide (f.1=10)) (Sr c f) (Bxu c f)) (Bxu c f)))))))
theorem Bms (hg:Eu f=true):Ai (cfg [Sl]) 400 144 [(Brg c).av,f.av] (fun w_=>Tr.ev (Vu (Brg c) (f)) (fun l_=>seB.eq (Amx l_) w_) false) false=true:=Eq.trans (b:=(br (decide (f.1=9)) (ba (BasZRef5b.posR (Opr.mk f.1 f.2 f.3 f.11)) (br (Zl c f) (Arb c f) (B2e c f))) (ba (BasZRef5b.posR (Opr.mk f.1 f.2 f.3 0)) (br (Aaz c f) (Arb c f) (B2e c f))))) (by kernel_rfl) (bdt (fun h_1=>(band (Bg hg) (bdt (fun h_2=>(btb h_1 (band (Ae hg) (btb h_2 rfl)))) (fun h_2=>(bdt (fun h_3=>(btb h_1 (band (Ae hg) (btf h_2 (btb h_3 rfl))))) (fun h_3=>(bdt (fun h_4=>(btb h_1 (band (Ae hg) (btf h_2 (btf h_3 (btb h_4 rfl)))))) (fun h_4=>(bdt (fun h_5=>(btb h_1 (band (Ae hg) (btf h_2 (btf h_3 (btf h_4 (btb h_5 rfl))))))) (fun h_5=>(bdt (fun h_6=>(btb h_1 (band (Ae hg) (btf h_2 (btf h_3 (btf h_4 (btf h_5 (btb h_6 rfl)))))))) (fun h_6=>(bdt (fun h_7=>(btb h_1 (band (Ae hg) (btf h_2 (btf h_3 (btf h_4 (btf h_5 (btf h_6 (btb h_7 rfl))))))))) (fun h_7=>(bdt (fun h_8=>(btb (Am (Fq h_1 rfl)) (btb h_1 (band (Ae hg) (btf h_2 (btf h_3 (btf h_4 (btf h_5 (btf h_6 (btf h_7 (btb h_8 (band (Am (Fq h_1 rfl)) rfl)))))))))))) (fun h_8=>(bdt (fun h_9=>(btf (Fq h_1 rfl) (btf (Fq h_9 rfl) (btb h_1 (band (Ae hg) (btf h_2 (btf h_3 (btf h_4 (btf h_5 (btf h_6 (btf h_7 (btf h_8 (btb h_9 (Am (Fq h_1 rfl))))))))))))))) (fun h_9=>(bdt (fun h_10=>(btb h_1 (band (Ae hg) (btf h_2 (btf h_3 (btf h_4 (btf h_5 (btf h_6 (btf h_7 (btf h_8 (btf h_9 (btb h_10 (btb h_1 (band h_1 rfl)))))))))))))) (fun h_10=>(btb h_1 (band (Ae hg) (btf h_2 (btf h_3 (btf h_4 (btf h_5 (btf h_6 (btf h_7 (btf h_8 (btf h_9 (btf h_10 rfl))))))))))))))))))))))))))))))) (fun h_1=>(band (Bg hg) (bdt (fun h_2=>(btf h_1 (band (Ae hg) (btb h_2 rfl)))) (fun h_2=>(bdt (fun h_3=>(btf h_1 (band (Ae hg) (btf h_2 (btb h_3 rfl))))) (fun h_3=>(bdt (fun h_4=>(btf h_1 (band (Ae hg) (btf h_2 (btf h_3 (btb h_4 rfl)))))) (fun h_4=>(bdt (fun h_5=>(btf h_1 (band (Ae hg) (btf h_2 (btf h_3 (btf h_4 (btb h_5 rfl))))))) (fun h_5=>(bdt (fun h_6=>(btf h_1 (band (Ae hg) (btf h_2 (btf h_3 (btf h_4 (btf h_5 (btb h_6 rfl)))))))) (fun h_6=>(bdt (fun h_7=>(btf h_1 (band (Ae hg) (btf h_2 (btf h_3 (btf h_4 (btf h_5 (btf h_6 (btb h_7 rfl))))))))) (fun h_7=>(bdt (fun h_8=>(bdt (fun h_9=>(btf h_1 (band (Ae hg) (btf h_2 (btf h_3 (btf h_4 (btf h_5 (btf h_6 (btf h_7 (btb h_8 (band h_9 rfl))))))))))) (fun h_9=>(btf (Fq h_8 rfl) (btf (Fq h_8 rfl) (btf h_1 (band (Ae hg) (btf h_2 (btf h_3 (btf h_4 (btf h_5 (btf h_6 (btf h_7 (btb h_8 (Am h_9))))))))))))))) (fun h_8=>(bdt (fun h_9=>(bdt (fun h_10=>(btf h_1 (band (Ae hg) (btf h_2 (btf h_3 (btf h_4 (btf h_5 (btf h_6 (btf h_7 (btf h_8 (btb h_9 (band h_10 rfl)))))))))))) (fun h_10=>(btf (Fq h_9 rfl) (btf h_1 (band (Ae hg) (btf h_2 (btf h_3 (btf h_4 (btf h_5 (btf h_6 (btf h_7 (btf h_8 (btb h_9 (Am h_10))))))))))))))) (fun h_9=>(bdt (fun h_10=>(btf h_1 (band (Ae hg) (btf h_2 (btf h_3 (btf h_4 (btf h_5 (btf h_6 (btf h_7 (btf h_8 (btf h_9 (btb h_10 (btf h_1 (Am h_1)))))))))))))) (fun h_10=>(btf h_1 (band (Ae hg) (btf h_2 (btf h_3 (btf h_4 (btf h_5 (btf h_6 (btf h_7 (btf h_8 (btf h_9 (btf h_10 rfl))))))))))))))))))))))))))))))))
end
theorem A52 (c:Conf) (f:Frm) (h:(decide (c.ob=3)&&posH f)=true):Ai (cfg [Sl]) 400 144 [c.av,f.av] (fun w_=>Tr.ev (Vu c f) (fun l_=>seB.eq (Amx l_) w_) false) false=true:=by
 have ho:=Odt (Aj h)
 have hg:=Fz (Af h)
 rw [D8 ho]
 exact Bms c f hg
theorem Bmt:Bc Tryz.prog (Cb gs) A51:=Cm fun c f h=>Aq base (Ah Aau Ap) (n:=400) fun k hk=>(Dh (A52 c f h) (fun w_ hw=>(seB.ok _ _ ((Tr.merge (Alb c f) (Ud (Dn (Af h)))).symm.trans hw))) k).trans hk
def A53:Sum:=(87,on2 Dp Ji (fun c f=>(decide (Az c=0)&&(decide (c.ob=3)&&(posH f&&F9 c f)))) (fun c f=>.agg [.int .u8 (L9 c f),.int .i64 (Ii c f),.int .u64 (Na c f),.int .u64 (Nb c f),.int .u64 (Nc c f),.int .i64 (Nh c f),.int .u32 (Nj c f)]))
theorem A54 (c:Conf) (kind a b i j n p h x y:Int) (hk:Jd (Brg c) (⟨kind,a,b,0,i,j,n,p,h,x,y⟩:Frm)=true) (h0:decide (Gf (Brg c) (⟨kind,a,b,0,i,j,n,p,h,x,y⟩:Frm)=0)=true):Ai (cfg []) 400 87 [(Brg c).av,(⟨kind,a,b,0,i,j,n,p,h,x,y⟩:Frm).av] (fun w_=>Tr.ev (G5 (Brg c) (⟨kind,a,b,0,i,j,n,p,h,x,y⟩:Frm)) (fun l_=>(seG [(seI .u8),(seI .i64),(seI .u64),(seI .u64),(seI .u64),(seI .i64),(seI .u32)]).eq ((fun l_=>.agg [lget l_ 0,lget l_ 1,lget l_ 2,lget l_ 3,lget l_ 4,lget l_ 5,lget l_ 6]) l_) w_) false) false=true:=Eq.trans (b:=(ba (Jd (Am3 c) (Frm.mk kind a b 0 i j n p h x y)) (br (!decide ((Gf (Am3 c) (Frm.mk kind a b 0 i j n p h x y))=0)) false (ba (decide ((IntKind.wrap .i64 i)=(IntKind.wrap .i64 i))&&true) true)))) (by kernel_rfl) (band hk (btf (Ad h0) (band (Aw (Ddt rfl)) rfl)))
abbrev Bxv (j:Int):=decide ((IntKind.wrap .i64 j)=(IntKind.wrap .i64 j))&&true
theorem A55 (c:Conf) (kind a b i j n p h x y:Int) (hk:Jd (Brg c) (⟨kind,a,b,2,i,j,n,p,h,x,y⟩:Frm)=true) (h0:decide (Gf (Brg c) (⟨kind,a,b,2,i,j,n,p,h,x,y⟩:Frm)=0)=true):Ai (cfg []) 400 87 [(Brg c).av,(⟨kind,a,b,2,i,j,n,p,h,x,y⟩:Frm).av] (fun w_=>Tr.ev (G5 (Brg c) (⟨kind,a,b,2,i,j,n,p,h,x,y⟩:Frm)) (fun l_=>(seG [(seI .u8),(seI .i64),(seI .u64),(seI .u64),(seI .u64),(seI .i64),(seI .u32)]).eq ((fun l_=>.agg [lget l_ 0,lget l_ 1,lget l_ 2,lget l_ 3,lget l_ 4,lget l_ 5,lget l_ 6]) l_) w_) false) false=true:=Eq.trans (b:=(br (decide (kind=9)) (ba (Jd (Am3 c) (Frm.mk kind a b 2 i j n p h x y)) (br (!decide ((Gf (Am3 c) (Frm.mk kind a b 2 i j n p h x y))=0)) false (br (decide (kind=9)) (ba (Bxv j) (ba (decide ((IntKind.wrap .u64 y)=(IntKind.wrap .u64 y))&&true) (ba (decide ((IntKind.wrap .u64 a)=(IntKind.wrap .u64 a))&&true) (ba (decide ((IntKind.wrap .u64 b)=(IntKind.wrap .u64 b))&&true) true)))) (ba (Bxv j) (ba (decide (0=(IntKind.wrap .u64 y))&&true) (ba (decide (0=(IntKind.wrap .u64 a))&&true) (ba (decide (0=(IntKind.wrap .u64 b))&&true) true))))))) (ba (Jd (Am3 c) (Frm.mk kind a b 2 i j n p h x y)) (br (!decide ((Gf (Am3 c) (Frm.mk kind a b 2 i j n p h x y))=0)) false (br (decide (kind=9)) (ba (Bxv j) (ba (decide ((IntKind.wrap .u64 y)=0)&&true) (ba (decide ((IntKind.wrap .u64 a)=0)&&true) (ba (decide ((IntKind.wrap .u64 b)=0)&&true) true)))) (ba (Bxv j) true)))))) (by kernel_rfl) (bdt (fun h_1=>(band hk (btf (Ad h0) (btb h_1 (band (Aw (Ddt rfl)) (band (Aw (Ddt rfl)) (band (Aw (Ddt rfl)) (band (Aw (Ddt rfl)) rfl)))))))) (fun h_1=>(band hk (btf (Ad h0) (btf h_1 (band (Aw (Ddt rfl)) rfl))))))
theorem A0g (c:Conf) (kind a b i j n p h x y:Int) (hk:Jd (Brg c) (⟨kind,a,b,20,i,j,n,p,h,x,y⟩:Frm)=true) (h0:decide (Gf (Brg c) (⟨kind,a,b,20,i,j,n,p,h,x,y⟩:Frm)=0)=true):Ai (cfg []) 400 87 [(Brg c).av,(⟨kind,a,b,20,i,j,n,p,h,x,y⟩:Frm).av] (fun w_=>Tr.ev (G5 (Brg c) (⟨kind,a,b,20,i,j,n,p,h,x,y⟩:Frm)) (fun l_=>(seG [(seI .u8),(seI .i64),(seI .u64),(seI .u64),(seI .u64),(seI .i64),(seI .u32)]).eq ((fun l_=>.agg [lget l_ 0,lget l_ 1,lget l_ 2,lget l_ 3,lget l_ 4,lget l_ 5,lget l_ 6]) l_) w_) false) false=true:=Eq.trans (b:=(ba (Jd (Am3 c) (Frm.mk kind a b 20 i j n p h x y)) (br (!decide ((Gf (Am3 c) (Frm.mk kind a b 20 i j n p h x y))=0)) false (ba (decide (x=x)&&true) true)))) (by kernel_rfl) (band hk (btf (Ad h0) (band (Aw (Ddt rfl)) rfl)))
theorem A0h (c:Conf) (kind a b i j n p h x y:Int) (hk:Jd (Brg c) (⟨kind,a,b,21,i,j,n,p,h,x,y⟩:Frm)=true) (h0:decide (Gf (Brg c) (⟨kind,a,b,21,i,j,n,p,h,x,y⟩:Frm)=0)=true):Ai (cfg []) 400 87 [(Brg c).av,(⟨kind,a,b,21,i,j,n,p,h,x,y⟩:Frm).av] (fun w_=>Tr.ev (G5 (Brg c) (⟨kind,a,b,21,i,j,n,p,h,x,y⟩:Frm)) (fun l_=>(seG [(seI .u8),(seI .i64),(seI .u64),(seI .u64),(seI .u64),(seI .i64),(seI .u32)]).eq ((fun l_=>.agg [lget l_ 0,lget l_ 1,lget l_ 2,lget l_ 3,lget l_ 4,lget l_ 5,lget l_ 6]) l_) w_) false) false=true:=Eq.trans (b:=(ba (Jd (Am3 c) (Frm.mk kind a b 21 i j n p h x y)) (!(!decide ((Gf (Am3 c) (Frm.mk kind a b 21 i j n p h x y))=0))))) (by kernel_rfl) (band hk (Am (Ad h0)))
theorem A0i (c:Conf) (kind a b i j n p h x y:Int) (hk:Jd (Brg c) (⟨kind,a,b,22,i,j,n,p,h,x,y⟩:Frm)=true) (h0:decide (Gf (Brg c) (⟨kind,a,b,22,i,j,n,p,h,x,y⟩:Frm)=0)=true):Ai (cfg []) 400 87 [(Brg c).av,(⟨kind,a,b,22,i,j,n,p,h,x,y⟩:Frm).av] (fun w_=>Tr.ev (G5 (Brg c) (⟨kind,a,b,22,i,j,n,p,h,x,y⟩:Frm)) (fun l_=>(seG [(seI .u8),(seI .i64),(seI .u64),(seI .u64),(seI .u64),(seI .i64),(seI .u32)]).eq ((fun l_=>.agg [lget l_ 0,lget l_ 1,lget l_ 2,lget l_ 3,lget l_ 4,lget l_ 5,lget l_ 6]) l_) w_) false) false=true:=Eq.trans (b:=(ba (Jd (Am3 c) (Frm.mk kind a b 22 i j n p h x y)) (!(!decide ((Gf (Am3 c) (Frm.mk kind a b 22 i j n p h x y))=0))))) (by kernel_rfl) (band hk (Am (Ad h0)))
theorem A56 (c:Conf) (f:Frm) (h:(decide (Az c=0)&&(decide (c.ob=3)&&(posH f&&F9 c f)))=true):Ai (cfg []) 400 87 [c.av,f.av] (fun w_=>Tr.ev (G5 c f) (fun l_=>(seG [(seI .u8),(seI .i64),(seI .u64),(seI .u64),(seI .u64),(seI .i64),(seI .u32)]).eq ((fun l_=>.agg [lget l_ 0,lget l_ 1,lget l_ 2,lget l_ 3,lget l_ 4,lget l_ 5,lget l_ 6]) l_) w_) false) false=true:=by
 have he:=Aj h
 have ho:=Odt (Aj (Af h))
 have hg:=Fz (Aj (Af (Af h)))
 have hm:=Af (Af (Af h))
 have hk:=Ue (c:=c) (Aj hg)
 have h0:decide (Gf c f=0)=true:=Ddt (A50 he ho (Aj hg) hm)
 have hpc:=Bca hm
 obtain ⟨kind,a,b,pc,i,j,n,p,hh,x,y⟩:=f
 rw [D8 ho] at hk h0 ⊢
 have hpc:pc=0\/pc=2\/pc=20\/pc=21\/pc=22:=hpc
 rcases hpc with rfl|rfl|rfl|rfl|rfl
 ·exact A54 c kind a b i j n p hh x y hk h0
 ·exact A55 c kind a b i j n p hh x y hk h0
 ·exact A0g c kind a b i j n p hh x y hk h0
 ·exact A0h c kind a b i j n p hh x y hk h0
 ·exact A0i c kind a b i j n p hh x y hk h0
theorem Bmu:Bc Tryz.prog (Cb gs) A53:=Cm fun c f h=>Aq base Ap (n:=400) fun k hk=>(Dh (A56 c f h) (fun w_ hw=>((seG [(seI .u8),(seI .i64),(seI .u64),(seI .u64),(seI .u64),(seI .i64),(seI .u32)]).ok _ _ ((Tr.merge (Ahi c f) (Acb (Dn (Aj (Af (Af h)))))).symm.trans hw))) k).trans hk
end
end Go.Bas.BasZR14
end
