/- Contracts with no law of their own: operations, and frames' starts; Operations' checks answer always, where kinds and numbers are such asv their types have; The document's operations answer what the program's do; How many bits a word has: the sums of pairs, of fours, of bytes, and of bytes at once. Plain Lean; Masks and shifts of words, asv remainders and quotients; The document's check of operations answers what the program's does; The document's check of operations answers what the program's does: the check; The document's check of operations answers what the program's does; Contracts with no law of their own: the program of rules; The engine, part Tv: the program of an index, behind a pointer, its levels asv they are; Contracts with no law of their own: levels of an index, and how great an object is; Contracts: levels of an index, asv a list of known length; Counts of an index's levels answer always; and its levels are one to five; What the texts on an index's program have in common. -/
import Derived.Test.YtjepofcbkojibaaGreatDoorBasW5
set_option maxRecDepth 100000
set_option maxHeartbeats 4000000
set_option linter.unusedVariables false
set_option linter.unusedSimpArgs false
section
namespace Go.Bas.BasZOp
noncomputable section
open Go.RowKit Go.Proofs
open BasZBase
def Ahe (n:Int):Tr:=(.br (decide ((IntKind.wrap .i64 n)>=15)) (.leaf [.int .u8 0]) (.br (Ju n 15) (.br (Nat.ble ((0+((Int.toNat n)*1))+1) 15) (.br (AV.isI .u8 (lget [.int .u8 0,.int .u8 1,.int .u8 1,.int .u8 1,.int .u8 2,.int .u8 2,.int .u8 2,.int .u8 2,.int .u8 2,.int .u8 3,.int .u8 3,.int .u8 3,.int .u8 4,.int .u8 4,.int .u8 4] (0+((Int.toNat n)*1)))) (.leaf [.int .u8 (AV.toI (lget [.int .u8 0,.int .u8 1,.int .u8 1,.int .u8 1,.int .u8 2,.int .u8 2,.int .u8 2,.int .u8 2,.int .u8 2,.int .u8 3,.int .u8 3,.int .u8 3,.int .u8 4,.int .u8 4,.int .u8 4] (0+((Int.toNat n)*1))))]) .bad) .bad) .bad))
def Ble:List CK:=[.i .u8]
def Blf (l:List AV):AV:=lget l 0
def Be (n:Int):Int:=(Ahe n).int 0
def o_obj (n:Int):AV:=.int .u8 (Be n)
def Oe (n:Int):Bool:=(Ahe n).ok
def Bib:Sum:=(74,on1 (rI .u8) (fun n=>Oe n) (fun n=>o_obj n))
theorem t_obj (n:Int) (k:AV->Bool):Ai (cfg []) 300 74 [.int .u8 n] k false=(Ahe n).ev (fun l=>k (Blf l)) false:=by kernel_rfl
theorem A38 (n:Int):(Ahe n).fits Ble=true:=by kernel_rfl
theorem s_obj:Bc Tryz.prog (Cb gs) Bib:=Fg fun n hp=>Aq base Ap (n:=300) fun k hk=>(t_obj n k).trans ((Tr.merge (A38 n) hp).trans hk)
abbrev Bse:=AV.bool false
abbrev Br0:=AV.bool true
abbrev Bq3:Tr:=.leaf [.bool false]
def Azl (n:Int):Tr:=(.br (decide ((IntKind.wrap .i64 n)<15)) (.br (Ju n 15) (.br (Nat.ble ((0+((Int.toNat n)*1))+1) 15) (.br (AV.isB (lget [Bse,Br0,Br0,Bse,Br0,Br0,Bse,Bse,Bse,Br0,Br0,Bse,Br0,Br0,Bse] (0+((Int.toNat n)*1)))) (.leaf [.bool (AV.toB (lget [Bse,Br0,Br0,Bse,Br0,Br0,Bse,Bse,Bse,Br0,Br0,Bse,Br0,Br0,Bse] (0+((Int.toNat n)*1))))]) .bad) .bad) .bad) Bq3)
def ks_wr:List CK:=[.b]
def sh_wr (l:List AV):AV:=lget l 0
def Gs (n:Int):Bool:=(Azl n).bool 0
def Baj (n:Int):AV:=.bool (Gs n)
def Awr (n:Int):Bool:=(Azl n).ok
def S_wr:Sum:=(34,on1 (rI .u8) (fun n=>Awr n) (fun n=>Baj n))
theorem t_wr (n:Int) (k:AV->Bool):Ai (cfg []) 300 34 [.int .u8 n] k false=(Azl n).ev (fun l=>k (sh_wr l)) false:=by kernel_rfl
theorem Bak (n:Int):(Azl n).fits ks_wr=true:=by kernel_rfl
theorem s_wr:Bc Tryz.prog (Cb gs) S_wr:=Fg fun n hp=>Aq base Ap (n:=300) fun k hk=>(t_wr n k).trans ((Tr.merge (Bak n) hp).trans hk)
def Aas (a:Int) (b:Int):Tr:=(.br (!decide ((iand .u32 a 65535)=0)) (.br (!decide ((ishr .u32 a 16)=0)) (.leaf [.bool (decide (b<=65535))]) (.br (decide (b=0)) (.leaf [.bool (decide (b<=65535))]) Bq3)) Bq3)
def Bam:List CK:=[.b]
def Ams (l:List AV):AV:=lget l 0
def Gv (a:Int) (b:Int):Bool:=(Aas a b).bool 0
def Blg (a:Int) (b:Int):AV:=.bool (Gv a b)
def A39:Sum:=(136,on2 (rI .u32) (rI .u32) (fun a b=>true) (fun a b=>Blg a b))
theorem Blh (a:Int) (b:Int) (k:AV->Bool):Ai (cfg []) 300 136 [.int .u32 a,.int .u32 b] k false=(Aas a b).ev (fun l=>k (Ams l)) false:=by kernel_rfl
theorem fits_path (a:Int) (b:Int):(Aas a b).fits Bam=true:=by kernel_rfl
theorem Bli:Bc Tryz.prog (Cb gs) A39:=Cm fun a b hp=>Aq base Ap (n:=300) fun k hk=>(Blh a b k).trans ((Tr.merge (fits_path a b) (Tr.ok_of_total (by kernel_rfl))).trans hk)
def Boe (l:Cel):Tr:=(.leaf [.int .u64 l.1,.int .u8 (IntKind.wrap .u8 (iand .u64 (ishr .u64 l.2 0) 31)),.int .u8 (IntKind.wrap .u8 (iand .u64 (ishr .u64 l.2 5) 127)),.int .u8 (IntKind.wrap .u8 (iand .u64 (ishr .u64 l.2 12) 15)),.int .u32 (IntKind.wrap .u32 (iand .u64 (ishr .u64 l.3 0) 4294967295)),.int .u32 (IntKind.wrap .u32 (iand .u64 (ishr .u64 l.3 32) 4294967295)),.int .u8 (IntKind.wrap .u8 (iand .u64 (ishr .u64 l.2 16) 31)),.int .u8 (IntKind.wrap .u8 (iand .u64 (ishr .u64 l.2 21) 127)),.int .u8 (IntKind.wrap .u8 (iand .u64 (ishr .u64 l.2 28) 127)),.int .u8 (IntKind.wrap .u8 (iand .u64 (ishr .u64 l.2 35) 63)),.int .u8 (IntKind.wrap .u8 (iand .u64 (ishr .u64 l.2 41) 63)),.int .u8 (IntKind.wrap .u8 (iand .u64 (ishr .u64 l.2 47) 7)),.int .u32 (IntKind.wrap .u32 (iand .u64 (ishr .u64 l.4 0) 4294967295)),.int .u32 (IntKind.wrap .u32 (iand .u64 (ishr .u64 l.4 32) 4294967295))])
def Bzc:List CK:=[.i .u64,.i .u8,.i .u8,.i .u8,.i .u32,.i .u32,.i .u8,.i .u8,.i .u8,.i .u8,.i .u8,.i .u8,.i .u32,.i .u32]
def Bzd (l:List AV):AV:=.agg [lget l 0,lget l 1,lget l 2,lget l 3,lget l 4,lget l 5,lget l 6,lget l 7,lget l 8,lget l 9,lget l 10,lget l 11,lget l 12,lget l 13]
section
variable (l:Cel)
def Byk:Int:=(Boe l).int 0
def Brj:Int:=(Boe l).int 1
def Bq4:Int:=(Boe l).int 2
def Al6:Int:=(Boe l).int 3
def Br6:Int:=(Boe l).int 4
def Br7:Int:=(Boe l).int 5
def Br8:Int:=(Boe l).int 6
def Br9:Int:=(Boe l).int 7
def Bsa:Int:=(Boe l).int 8
def Bsb:Int:=(Boe l).int 9
def Brr:Int:=(Boe l).int 10
def Brs:Int:=(Boe l).int 11
def Brt:Int:=(Boe l).int 12
def Bru:Int:=(Boe l).int 13
def Bu3:AV:=.agg [.int .u64 (Byk l),.int .u8 (Brj l),.int .u8 (Bq4 l),.int .u8 (Al6 l),.int .u32 (Br6 l),.int .u32 (Br7 l),.int .u8 (Br8 l),.int .u8 (Br9 l),.int .u8 (Bsa l),.int .u8 (Bsb l),.int .u8 (Brr l),.int .u8 (Brs l),.int .u32 (Brt l),.int .u32 (Bru l)]
end
def Btz:Sum:=(90,on1 Bza (fun l=>true) (fun l=>Bu3 l))
theorem B09 (l:Cel) (k:AV->Bool):Ai (cfg []) 600 90 [l.av] k false=(Boe l).ev (fun l=>k (Bzd l)) false:=by kernel_rfl
theorem Bwz (l:Cel):(Boe l).fits Bzc=true:=by kernel_rfl
theorem B1a:Bc Tryz.prog (Cb gs) Btz:=Fg fun l hp=>Aq base Ap (n:=600) fun k hk=>(B09 l k).trans ((Tr.merge (Bwz l) (Tr.ok_of_total (by kernel_rfl))).trans hk)
abbrev Bze (c:Conf) (o:Opr):Tr:=.br (decide (o.3<=(IntKind.wrap .u32 c.6))) (.br (decide (o.3<0)) .bad (.leaf [.bool (decide (o.2<(Gz .u32 1 o.3)))])) Bq3
abbrev Byl (o:Opr):Tr:=.br (decide (o.4=0)) (.br (decide (o.3=0)) (.br (decide (o.2<=2147483647)) (.leaf [.bool (decide (o.3<=2147483647))]) Bq3) Bq3) Bq3
abbrev Bzf (o:Opr):Tr:=.br (decide (o.4=0)) (.br (decide (o.2<=2147483647)) (.leaf [.bool (decide (o.3<=2147483647))]) Bq3) Bq3
abbrev Bym (o:Opr):Tr:=.br (decide (o.2<=65535)) (.leaf [.bool (decide (o.3<=65535))]) Bq3
def Ic (c:Conf) (o:Opr):Tr:=(.br (decide (o.1=1)) (.br (decide (o.4<=2147483647)) (Bze c o) Bq3) (.br (decide (o.1=2)) (.br (decide (o.4=0)) (Bze c o) Bq3) (.br (decide (o.1=3)) (.br (decide (o.4=0)) (.br (decide (o.3=0)) (.br (decide (c.6<0)) .bad (.leaf [.bool (decide (o.2<(Gz .u32 1 c.6)))])) Bq3) Bq3) (.br (decide (o.1=5)) (Byl o) (.br (decide (o.1=6)) (Byl o) (.br (decide (o.1=7)) (Byl o) (.br (decide (o.1=4)) (Bzf o) (.br (decide (o.1=8)) (Bzf o) (.br (decide (o.1=11)) (.br (decide (o.4=0)) (.br (decide ((IntKind.wrap .u32 (o.2-1))<65535)) (.leaf [.bool (decide ((IntKind.wrap .u32 (o.3-1))<65535))]) Bq3) Bq3) (.br (decide (o.1=9)) (.br (decide (o.4=1)) (Bym o) (.br (decide (o.4=2)) (Bym o) Bq3)) (.br (decide (o.1=10)) (.br (decide (o.4=0)) (Bym o) Bq3) (.br (decide (o.1=12)) (.br (decide (o.4<=2147483647)) (.leaf [.bool (Gv o.2 o.3)]) Bq3) (.br (decide (o.4=0)) (.leaf [.bool (Gv o.2 o.3)]) Bq3)))))))))))))
def Baq:List CK:=[.b]
def I5 (l:List AV):AV:=lget l 0
def E9 (c:Conf) (o:Opr):Bool:=(Ic c o).bool 0
def Blj (c:Conf) (o:Opr):AV:=.bool (E9 c o)
def Jo (c:Conf) (o:Opr):Bool:=(Ic c o).ok
def A4c:Sum:=(75,on2 Dp Ab2 (fun c o=>Jo c o) (fun c o=>Blj c o))
theorem Blk (c:Conf) (o:Opr) (k:AV->Bool):Ai (cfg [A39]) 300 75 [c.av,o.av] k false=(Ic c o).ev (fun l=>k (I5 l)) false:=by kernel_rfl
theorem Ala (c:Conf) (o:Opr):(Ic c o).fits Baq=true:=by kernel_rfl
theorem Bll:Bc Tryz.prog (Cb gs) A4c:=Cm fun c o hp=>Aq base (Ah Bli Ap) (n:=300) fun k hk=>(Blk c o k).trans ((Tr.merge (Ala c o) hp).trans hk)
def Zx (c:Conf) (o:Opr):Tr:=(.br (!decide ((Az c)=0)) (.leaf [.int .i64 (Az c)]) (.br (Oe o.1) (.br (!decide ((Be o.1)=c.1)) (.leaf [.int .i64 50]) (.br (Jo c o) (.br (!(E9 c o)) (.leaf [.int .i64 10]) (.leaf [.int .i64 0])) .bad)) .bad))
def Blm:List CK:=[.i .i64]
def Auf (l:List AV):AV:=lget l 0
def Ag (c:Conf) (o:Opr):Int:=(Zx c o).int 0
def Aq3 (c:Conf) (o:Opr):AV:=.int .i64 (Ag c o)
def D6 (c:Conf) (o:Opr):Bool:=(Zx c o).ok
def Aws:Sum:=(33,on2 Dp Ab2 (fun c o=>D6 c o) (fun c o=>Aq3 c o))
theorem t_opc (c:Conf) (o:Opr) (k:AV->Bool):Ai (cfg [Bq,Bib,A4c]) 300 33 [c.av,o.av] k false=(Zx c o).ev (fun l=>k (Auf l)) false:=by kernel_rfl
theorem Aq4 (c:Conf) (o:Opr):(Zx c o).fits Blm=true:=by kernel_rfl
theorem Awt:Bc Tryz.prog (Cb gs) Aws:=Cm fun c o hp=>Aq base (Ah Jn (Ah s_obj (Ah Bll Ap))) (n:=300) fun k hk=>(t_opc c o k).trans ((Tr.merge (Aq4 c o) hp).trans hk)
end
end Go.Bas.BasZOp
end
section
namespace Go.Bas
theorem okbr {b:Bool} {x y:Tr} (hx:b=true->x.ok=true) (hy:b=false->y.ok=true):(Tr.br b x y).ok=true:=by
 cases b
 ·exact hy rfl
 ·exact hx rfl
theorem okleaf {l:List AV}:(Tr.leaf l).ok=true:=rfl
end Go.Bas
namespace Go.Bas.BasZOk
open Go.RowKit Go.Proofs BasZBase BasZOp
theorem Og {c:Conf} (h:Az c=0):c.ok=true:=by
 unfold Az at h
 cases ho:c.ok with
 | true=>rfl
 | false=>rw [ho] at h;cases h
theorem Du {n:Int} (h0:0<=n) (h1:n<=255):IntKind.wrap .i64 n=n:=Uc (by simp [Lit.wf,IntKind.min,IntKind.max,IntKind.signed,IntKind.bits];omega)
theorem Azo {n:Int} (h0:0<=n) (h1:n<15):n=0\/n=1\/n=2\/n=3\/n=4\/n=5\/n=6\/n=7\/n=8\/n=9\/n=10\/n=11\/n=12\/n=13\/n=14:=by omega
theorem Vs {n:Int} (h0:0<=n) (h1:n<=255):Oe n=true:=by
 by_cases h:n<15
 ·rcases Azo h0 h with rfl|rfl|rfl|rfl|rfl|rfl|rfl|rfl|rfl|rfl|rfl|rfl|rfl|rfl|rfl<;>kernel_rfl
 ·have e:decide (IntKind.wrap .i64 n>=15)=true:=by rw [Du h0 h1];exact Ddt (by omega)
  unfold Oe Ahe;rw [e];rfl
theorem Azp {n:Int} (h0:0<=n) (h1:n<=255):Awr n=true:=by
 by_cases h:n<15
 ·rcases Azo h0 h with rfl|rfl|rfl|rfl|rfl|rfl|rfl|rfl|rfl|rfl|rfl|rfl|rfl|rfl|rfl<;>kernel_rfl
 ·have e:decide (IntKind.wrap .i64 n<15)=false:=by rw [Du h0 h1];exact Ddf (by omega)
  unfold Awr Azl;try simp only [Bse,Br0,Bq3];rw [e];rfl
theorem P7 {c:Conf} {o:Opr} (hb:0<=o.b) (hc:o.kind=3->0<=c.bits):Jo c o=true:=by
 unfold Jo Ic;try simp only [Bq3,Bze,Byl,Bzf,Bym]
 repeat' (first|exact okleaf|refine okbr (fun h=>?_) (fun h=>?_))
 all_goals
  exfalso
  simp only [Dte,Dni] at *;omega
theorem A4d:Be 3=1:=by kernel_rfl
theorem Vt {c:Conf} {o:Opr} (h0:0<=o.kind) (h1:o.kind<=255) (hb:0<=o.b):D6 c o=true:=by
 unfold D6 Zx
 refine okbr (fun h=>okleaf) (fun he=>?_)
 rw [Vs h0 h1]
 refine okbr (fun _=>?_) (fun h=>by cases h)
 refine okbr (fun h=>okleaf) (fun hk=>?_)
 have he:Az c=0:=by simpa using he
 have hk:Be o.kind=c.ob:=by simpa using hk
 have hO:=Hy.1 (Og he)
 simp only [Conf.OkP] at hO
 rw [P7 hb (fun h3=>by rw [h3,A4d] at hk;omega)]
 refine okbr (fun _=>okbr (fun h=>okleaf) (fun h=>okleaf)) (fun h=>by cases h)
noncomputable def Ie (o:Opr):Bool:=decide (0<=o.kind)&&(decide (o.kind<=255)&&decide (0<=o.b))
noncomputable def Qk:Sum:=(33,on2 Dp Ab2 (fun c o=>Ie o) (fun c o=>Aq3 c o))
theorem Bic:Bc Tryz.prog (Cb gs) Qk:=Cm fun c o hp=>by
 unfold Ie at hp
 simp only [Bae,Dte] at hp
 have h:=Awt [c.av,o.av] (Aq3 c o) (by
  show on2 Dp Ab2 (fun c o=>D6 c o) (fun c o=>Aq3 c o) [c.av,o.av]=_
  show some (D6 c o,Aq3 c o)=_;rw [Vt hp.1 hp.2.1 hp.2.2])
 exact h
noncomputable def Qh (n:Int):Bool:=decide (0<=n)&&decide (n<=255)
noncomputable def Ab5:Sum:=(34,on1 (rI .u8) (fun n=>Qh n) (fun n=>Baj n))
theorem Bid:Bc Tryz.prog (Cb gs) Ab5:=Fg fun n hp=>by
 unfold Qh at hp
 simp only [Bae,Dte] at hp
 have h:=s_wr [.int .u8 n] (Baj n) (by
  show some (Awr n,Baj n)=_;rw [Azp hp.1 hp.2])
 exact h
noncomputable def Ep (f:Frm):Bool:=decide (0<=f.kind)&&(decide (f.kind<=255)&&(decide (0<=f.b)&&(decide (0<=f.h)&&(decide (f.h<=255)&&decide (f.b<=4294967295)))))
theorem H7 {f:Frm}:Ep f=true ↔ 0<=f.kind/\f.kind<=255/\0<=f.b/\0<=f.h/\f.h<=255/\f.b<=4294967295:=by
 unfold Ep
 simp only [Bae,Dte]
end Go.Bas.BasZOk
end
section
namespace Go.Bas.BasZRef5
noncomputable section
open Go.RowKit Go.Proofs
open BasZBase BasZOp BasZOk
theorem okP {c:Conf} (he:decide (Az c=0)=true):c.ok=true:=Og (Odt he)
theorem Amt {n:Int} (h15:15<=n) (h0:0<=n) (h1:n<=255):Be n=0:=by
 unfold Be Ahe
 rw [Du h0 h1,Ddt (show n>=15 from h15)]
 rfl
theorem Blo {n:Int} (h15:15<=n) (h0:0<=n) (h1:n<=255):Gs n=false:=by
 unfold Gs Azl;try simp only [Bse,Br0,Bq3]
 rw [Du h0 h1,Ddf (show ¬ n<15 by omega)]
 rfl
def Aug:Sum:=(77,on1 (rI .u8) (fun n=>(decide (0<=n)&&decide (n<=255))) (fun n=>.int .u8 (Be n)))
abbrev Bqp:=cfg []
abbrev zbp1:=seI .u8
theorem A4e  : Ai Bqp 300 77 [.int .u8 0] (fun w_=>zbp1.eq (.int .u8 (Be (0))) w_) false=true:=Eq.trans (b:=true) (by kernel_rfl) rfl
theorem A4f  : Ai Bqp 300 77 [.int .u8 1] (fun w_=>zbp1.eq (.int .u8 (Be (1))) w_) false=true:=Eq.trans (b:=true) (by kernel_rfl) rfl
theorem A4g  : Ai Bqp 300 77 [.int .u8 2] (fun w_=>zbp1.eq (.int .u8 (Be (2))) w_) false=true:=Eq.trans (b:=true) (by kernel_rfl) rfl
theorem A4h  : Ai Bqp 300 77 [.int .u8 3] (fun w_=>zbp1.eq (.int .u8 (Be (3))) w_) false=true:=Eq.trans (b:=true) (by kernel_rfl) rfl
theorem A4i  : Ai Bqp 300 77 [.int .u8 4] (fun w_=>zbp1.eq (.int .u8 (Be (4))) w_) false=true:=Eq.trans (b:=true) (by kernel_rfl) rfl
theorem A4j  : Ai Bqp 300 77 [.int .u8 5] (fun w_=>zbp1.eq (.int .u8 (Be (5))) w_) false=true:=Eq.trans (b:=true) (by kernel_rfl) rfl
theorem A4k  : Ai Bqp 300 77 [.int .u8 6] (fun w_=>zbp1.eq (.int .u8 (Be (6))) w_) false=true:=Eq.trans (b:=true) (by kernel_rfl) rfl
theorem A4l  : Ai Bqp 300 77 [.int .u8 7] (fun w_=>zbp1.eq (.int .u8 (Be (7))) w_) false=true:=Eq.trans (b:=true) (by kernel_rfl) rfl
theorem A4m  : Ai Bqp 300 77 [.int .u8 8] (fun w_=>zbp1.eq (.int .u8 (Be (8))) w_) false=true:=Eq.trans (b:=true) (by kernel_rfl) rfl
theorem A4n  : Ai Bqp 300 77 [.int .u8 9] (fun w_=>zbp1.eq (.int .u8 (Be (9))) w_) false=true:=Eq.trans (b:=true) (by kernel_rfl) rfl
theorem Azq  : Ai Bqp 300 77 [.int .u8 10] (fun w_=>zbp1.eq (.int .u8 (Be (10))) w_) false=true:=Eq.trans (b:=true) (by kernel_rfl) rfl
theorem Azr  : Ai Bqp 300 77 [.int .u8 11] (fun w_=>zbp1.eq (.int .u8 (Be (11))) w_) false=true:=Eq.trans (b:=true) (by kernel_rfl) rfl
theorem Azs  : Ai Bqp 300 77 [.int .u8 12] (fun w_=>zbp1.eq (.int .u8 (Be (12))) w_) false=true:=Eq.trans (b:=true) (by kernel_rfl) rfl
theorem Azt  : Ai Bqp 300 77 [.int .u8 13] (fun w_=>zbp1.eq (.int .u8 (Be (13))) w_) false=true:=Eq.trans (b:=true) (by kernel_rfl) rfl
theorem Azu  : Ai Bqp 300 77 [.int .u8 14] (fun w_=>zbp1.eq (.int .u8 (Be (14))) w_) false=true:=Eq.trans (b:=true) (by kernel_rfl) rfl
abbrev B1b (n:Int):Bool:=br (decide (n>=9)) (br (decide (n<=11)) false (br (decide (n>=12)) (!decide (n<=14)) true)) (br (decide (n>=12)) (!decide (n<=14)) true)
theorem Auh (n:Int) (h15:15<=n) (h0:0<=n) (h1:n<=255):Ai Bqp 300 77 [.int .u8 n] (fun w_=>zbp1.eq (.int .u8 0) w_) false=true:=Eq.trans (b:=(br (decide (n>=1)) (br (decide (n<=3)) false (br (decide (n>=4)) (br (decide (n<=8)) false (B1b n)) (B1b n))) (br (decide (n>=4)) (br (decide (n<=8)) false (B1b n)) (B1b n)))) (by kernel_rfl) (btb (Ddt (by omega)) (btf (Ddf (by omega)) (btb (Ddt (by omega)) (btf (Ddf (by omega)) (btb (Ddt (by omega)) (btf (Ddf (by omega)) (btb (Ddt (by omega)) (Am (Ddf (by omega))))))))))
theorem A4o (n:Int) (h:(decide (0<=n)&&decide (n<=255))=true):Ai Bqp 300 77 [.int .u8 n] (fun w_=>zbp1.eq (.int .u8 (Be n)) w_) false=true:=by
 simp only [Bae,Dte] at h
 by_cases hn:n<15
 ·rcases Azo h.1 hn with rfl|rfl|rfl|rfl|rfl|rfl|rfl|rfl|rfl|rfl|rfl|rfl|rfl|rfl|rfl
  ·exact A4e
  ·exact A4f
  ·exact A4g
  ·exact A4h
  ·exact A4i
  ·exact A4j
  ·exact A4k
  ·exact A4l
  ·exact A4m
  ·exact A4n
  ·exact Azq
  ·exact Azr
  ·exact Azs
  ·exact Azt
  ·exact Azu
 ·rw [Amt (by omega) h.1 h.2]
  exact Auh n (by omega) h.1 h.2
theorem Blp:Bc Tryz.prog (Cb gs) Aug:=Fg fun n h=>Aq base Ap (n:=300) fun k hk=>(Dh (A4o n h) (fun w_ hw=>((seI .u8).ok _ _ hw)) k).trans hk
def Uy:Sum:=(37,on1 (rI .u8) (fun n=>(decide (0<=n)&&decide (n<=255))) (fun n=>.bool (Gs n)))
theorem Bau  : Ai Bqp 300 37 [.int .u8 0] (fun w_=>seB.eq (.bool (Gs (0))) w_) false=true:=Eq.trans (b:=true) (by kernel_rfl) rfl
theorem Bav  : Ai Bqp 300 37 [.int .u8 1] (fun w_=>seB.eq (.bool (Gs (1))) w_) false=true:=Eq.trans (b:=true) (by kernel_rfl) rfl
theorem Baw  : Ai Bqp 300 37 [.int .u8 2] (fun w_=>seB.eq (.bool (Gs (2))) w_) false=true:=Eq.trans (b:=true) (by kernel_rfl) rfl
theorem Bax  : Ai Bqp 300 37 [.int .u8 3] (fun w_=>seB.eq (.bool (Gs (3))) w_) false=true:=Eq.trans (b:=true) (by kernel_rfl) rfl
theorem Bay  : Ai Bqp 300 37 [.int .u8 4] (fun w_=>seB.eq (.bool (Gs (4))) w_) false=true:=Eq.trans (b:=true) (by kernel_rfl) rfl
theorem Baz  : Ai Bqp 300 37 [.int .u8 5] (fun w_=>seB.eq (.bool (Gs (5))) w_) false=true:=Eq.trans (b:=true) (by kernel_rfl) rfl
theorem Ba0  : Ai Bqp 300 37 [.int .u8 6] (fun w_=>seB.eq (.bool (Gs (6))) w_) false=true:=Eq.trans (b:=true) (by kernel_rfl) rfl
theorem Ba1  : Ai Bqp 300 37 [.int .u8 7] (fun w_=>seB.eq (.bool (Gs (7))) w_) false=true:=Eq.trans (b:=true) (by kernel_rfl) rfl
theorem Ba2  : Ai Bqp 300 37 [.int .u8 8] (fun w_=>seB.eq (.bool (Gs (8))) w_) false=true:=Eq.trans (b:=true) (by kernel_rfl) rfl
theorem Ba3  : Ai Bqp 300 37 [.int .u8 9] (fun w_=>seB.eq (.bool (Gs (9))) w_) false=true:=Eq.trans (b:=true) (by kernel_rfl) rfl
theorem A4p  : Ai Bqp 300 37 [.int .u8 10] (fun w_=>seB.eq (.bool (Gs (10))) w_) false=true:=Eq.trans (b:=true) (by kernel_rfl) rfl
theorem A4q  : Ai Bqp 300 37 [.int .u8 11] (fun w_=>seB.eq (.bool (Gs (11))) w_) false=true:=Eq.trans (b:=true) (by kernel_rfl) rfl
theorem A4r  : Ai Bqp 300 37 [.int .u8 12] (fun w_=>seB.eq (.bool (Gs (12))) w_) false=true:=Eq.trans (b:=true) (by kernel_rfl) rfl
theorem A4s  : Ai Bqp 300 37 [.int .u8 13] (fun w_=>seB.eq (.bool (Gs (13))) w_) false=true:=Eq.trans (b:=true) (by kernel_rfl) rfl
theorem A4t  : Ai Bqp 300 37 [.int .u8 14] (fun w_=>seB.eq (.bool (Gs (14))) w_) false=true:=Eq.trans (b:=true) (by kernel_rfl) rfl
theorem Azv (n:Int) (h15:15<=n) (h0:0<=n) (h1:n<=255):Ai Bqp 300 37 [.int .u8 n] (fun w_=>seB.eq (.bool false) w_) false=true:=Eq.trans (b:=(br (decide (n=1)) false (br (decide (n=2)) false (br (decide (n=4)) false (br (decide (n=5)) false (br (decide (n=9)) false (br (decide (n=10)) false (br (decide (n=12)) false (!decide (n=13)))))))))) (by kernel_rfl) (btf (Ddf (by omega)) (btf (Ddf (by omega)) (btf (Ddf (by omega)) (btf (Ddf (by omega)) (btf (Ddf (by omega)) (btf (Ddf (by omega)) (btf (Ddf (by omega)) (Am (Ddf (by omega))))))))))
theorem Ba4 (n:Int) (h:(decide (0<=n)&&decide (n<=255))=true):Ai Bqp 300 37 [.int .u8 n] (fun w_=>seB.eq (.bool (Gs n)) w_) false=true:=by
 simp only [Bae,Dte] at h
 by_cases hn:n<15
 ·rcases Azo h.1 hn with rfl|rfl|rfl|rfl|rfl|rfl|rfl|rfl|rfl|rfl|rfl|rfl|rfl|rfl|rfl
  ·exact Bau
  ·exact Bav
  ·exact Baw
  ·exact Bax
  ·exact Bay
  ·exact Baz
  ·exact Ba0
  ·exact Ba1
  ·exact Ba2
  ·exact Ba3
  ·exact A4p
  ·exact A4q
  ·exact A4r
  ·exact A4s
  ·exact A4t
 ·rw [Blo (by omega) h.1 h.2]
  exact Azv n (by omega) h.1 h.2
theorem Bie:Bc Tryz.prog (Cb gs) Uy:=Fg fun n h=>Aq base Ap (n:=300) fun k hk=>(Dh (Ba4 n h) (fun w_ hw=>(seB.ok _ _ hw)) k).trans hk
end
end Go.Bas.BasZRef5
end
section
namespace Go.Bas
def cnt:Nat->Nat->Nat
 | 0,_=>0
 | f+1,x=>x % 2+cnt f (x / 2)
theorem Byn {k a b m c:Nat} (ha:a<2 ^ k) (hm:m<2 ^ k):(2 ^ k*b+a) &&& (2 ^ k*c+m)=2 ^ k*(b &&& c)+(a &&& m):=by
 apply Nat.eq_of_testBit_eq
 intro j
 rw [Nat.testBit_and,Nat.testBit_two_pow_mul_add b ha j,Nat.testBit_two_pow_mul_add c hm j,Nat.testBit_two_pow_mul_add (b &&& c) (Nat.lt_of_le_of_lt Nat.and_le_left ha) j]
 split<;>simp [Nat.testBit_and]
def rep:Nat->Nat->Nat
 | 0,_=>0
 | n+1,d=>256*rep n d+d
theorem Bt3 (n d:Nat):rep (n+1) d=256*rep n d+d:=rfl
def s1b (a:Nat):Nat:=(a / 2 &&& 85)+(a &&& 85)
def s2b (a:Nat):Nat:=(a / 4 &&& 51)+(a &&& 51)
def s3b (a:Nat):Nat:=(a / 16+a) &&& 15
def s1 (n x:Nat):Nat:=(x / 2 &&& rep n 85)+(x &&& rep n 85)
def s2 (n x:Nat):Nat:=(x / 4 &&& rep n 51)+(x &&& rep n 51)
def s3 (n x:Nat):Nat:=(x / 16+x) &&& rep n 15
theorem Bt4 {a b m c:Nat} (ha:a<256) (hm:m<256):(256*b+a) &&& (256*c+m)=256*(b &&& c)+(a &&& m):=Byn (k:=8) ha hm
theorem d1:∀ p,p<2->∀ q,q<128->(128*p+q) &&& 85=q &&& 85:=by decide +kernel
theorem d2:∀ p,p<4->∀ q,q<64->(64*p+q) &&& 51=q &&& 51:=by decide +kernel
theorem d3:∀ p,p<5->∀ a,a<69->(16*p+a / 16+a) &&& 15=(a / 16+a) &&& 15:=by decide +kernel
theorem d4:∀ a,a<256->s2b (s1b a)<69/\s2b (s1b a) % 16<5/\s1b a<256/\s3b (s2b (s1b a))=cnt 8 a/\cnt 8 a<=8:=by decide +kernel
theorem B1c {n a b:Nat} (ha:a<256):s1 (n+1) (256*b+a)=256*s1 n b+s1b a:=by
 unfold s1 s1b
 simp only [Bt3]
 rw [show (256*b+a) / 2=256*(b / 2)+(128*(b % 2)+a / 2) by omega,Bt4 (by omega) (by omega),Bt4 ha (by omega),d1 _ (by omega) _ (by omega)]
 omega
theorem B1d {n a b:Nat} (ha:a<256):s2 (n+1) (256*b+a)=256*s2 n b+s2b a:=by
 unfold s2 s2b
 simp only [Bt3]
 rw [show (256*b+a) / 4=256*(b / 4)+(64*(b % 4)+a / 4) by omega,Bt4 (by omega) (by omega),Bt4 ha (by omega),d2 _ (by omega) _ (by omega)]
 omega
theorem B1e {n a b:Nat} (ha:a<69) (hb:b % 16<5):s3 (n+1) (256*b+a)=256*s3 n b+s3b a:=by
 unfold s3 s3b
 simp only [Bt3]
 rw [show (256*b+a) / 16+(256*b+a)=256*(b / 16+b)+(16*(b % 16)+a / 16+a) by omega,Bt4 (by omega) (by omega),d3 _ hb _ ha]
def cb:Nat->Nat->Nat
 | 0,_=>0
 | n+1,x=>256*cb n (x / 256)+cnt 8 (x % 256)
theorem swar:∀ (n x:Nat),x<256 ^ n->s2 n (s1 n x) % 16<5/\s3 n (s2 n (s1 n x))=cb n x
 | 0,x,h=>by
  have:x=0:=by simpa using h
  subst this;decide
 | n+1,x,h=>by
  have hx:x=256*(x / 256)+x % 256:=by omega
  have hlt:x / 256<256 ^ n:=by rw [Nat.pow_succ] at h;omega
  have ha:x % 256<256:=Nat.mod_lt _ (by decide)
  obtain ⟨i1,i2⟩:=swar n (x / 256) hlt;obtain ⟨e1,e2,e3,e4,e5⟩:=d4 _ ha
  have h1:s1 (n+1) x=256*s1 n (x / 256)+s1b (x % 256):=by
   conv=>lhs;rw [hx]
   exact B1c ha
  rw [h1,B1d e3,B1e e1 i1,i2,e4];exact ⟨by omega,rfl⟩
theorem Bu4:∀ (m n x:Nat),cnt (m+n) x=cnt m x+cnt n (x / 2 ^ m)
 | 0,n,x=>by simp [cnt]
 | m+1,n,x=>by
  rw [show m+1+n=(m+n)+1 by omega]
  simp only [cnt,Bu4 m n (x / 2),Nat.pow_succ,Nat.div_div_eq_div_mul];rw [Nat.mul_comm 2 (2 ^ m)];omega
theorem Bxt:∀ (m x:Nat),cnt m (x % 2 ^ m)=cnt m x
 | 0,x=>rfl
 | m+1,x=>by
  simp only [cnt]
  have h1:x % 2 ^ (m+1) % 2=x % 2:=by
   rw [Nat.pow_succ,Nat.mod_mul_left_mod]
  have h2:x % 2 ^ (m+1) / 2=x / 2 % 2 ^ m:=by
   rw [Nat.pow_succ,Nat.mul_comm,Nat.mod_mul_right_div_self]
  rw [h1,h2,Bxt m (x / 2)]
theorem Bt5:∀ (m x:Nat),cnt m x<=m
 | 0,x=>Nat.le_refl _
 | m+1,x=>by
  have:=Bt5 m (x / 2);simp only [cnt];omega
theorem B3m {x:Nat}:let y:=cb 8 x
  let y1:=y+y / 256
  let y2:=y1+y1 / 65536
  (y2+y2 / 4294967296) % 128=cnt 64 x:=by
 have e:∀ k y,cnt 8 (y % 256)=cnt 8 y/\cnt (8+k) y=cnt 8 y+cnt k (y / 256):=fun k y=>⟨Bxt 8 y,Bu4 8 k y⟩
 have l:=Bt5 8
 simp only [cb]
 rw [(e 0 x).1,(e 0 _).1,(e 0 _).1,(e 0 _).1,(e 0 _).1,(e 0 _).1,(e 0 _).1,(e 0 _).1]
 have t:cnt 64 x=cnt 8 x+(cnt 8 (x / 256)+(cnt 8 (x / 256 / 256)+(cnt 8 (x / 256 / 256 / 256)+(cnt 8 (x / 256 / 256 / 256 / 256)+(cnt 8 (x / 256 / 256 / 256 / 256 / 256)+(cnt 8 (x / 256 / 256 / 256 / 256 / 256 / 256)+cnt 8 (x / 256 / 256 / 256 / 256 / 256 / 256 / 256))))))):=by
  rw [(e 56 x).2,(e 48 _).2,(e 40 _).2,(e 32 _).2,(e 24 _).2,(e 16 _).2,(e 8 _).2]
 rw [t]
 have l0:=l x
 have l1:=l (x / 256)
 have l2:=l (x / 256 / 256)
 have l3:=l (x / 256 / 256 / 256)
 have l4:=l (x / 256 / 256 / 256 / 256)
 have l5:=l (x / 256 / 256 / 256 / 256 / 256)
 have l6:=l (x / 256 / 256 / 256 / 256 / 256 / 256)
 have l7:=l (x / 256 / 256 / 256 / 256 / 256 / 256 / 256)
 generalize cnt 8 x=c0 at *
 generalize cnt 8 (x / 256)=c1 at *
 generalize cnt 8 (x / 256 / 256)=c2 at *
 generalize cnt 8 (x / 256 / 256 / 256)=c3 at *
 generalize cnt 8 (x / 256 / 256 / 256 / 256)=c4 at *
 generalize cnt 8 (x / 256 / 256 / 256 / 256 / 256)=c5 at *
 generalize cnt 8 (x / 256 / 256 / 256 / 256 / 256 / 256)=c6 at *
 generalize cnt 8 (x / 256 / 256 / 256 / 256 / 256 / 256 / 256)=c7 at *
 clear t e l
 have q1:(256*(256*(256*(256*(256*(256*(256*(256*0+c7)+c6)+c5)+c4)+c3)+c2)+c1)+c0) / 256=256*(256*(256*(256*(256*(256*c7+c6)+c5)+c4)+c3)+c2)+c1:=by omega
 rw [q1]
 clear q1
 have q2:(256*(256*(256*(256*(256*(256*(256*(256*0+c7)+c6)+c5)+c4)+c3)+c2)+c1)+c0+(256*(256*(256*(256*(256*(256*c7+c6)+c5)+c4)+c3)+c2)+c1)) / 65536=256*(256*(256*(256*(256*c7+(c6+c7))+(c5+c6))+(c4+c5))+(c3+c4))+(c2+c3):=by omega
 rw [q2]
 clear q2
 have q3:(256*(256*(256*(256*(256*(256*(256*(256*0+c7)+c6)+c5)+c4)+c3)+c2)+c1)+c0+(256*(256*(256*(256*(256*(256*c7+c6)+c5)+c4)+c3)+c2)+c1)+(256*(256*(256*(256*(256*c7+(c6+c7))+(c5+c6))+(c4+c5))+(c3+c4))+(c2+c3))) / 4294967296=256*(256*(256*c7+(c6+c7))+(c5+c6+c7))+(c4+c5+c6+c7):=by omega
 rw [q3]
 clear q3
 omega
end Go.Bas
namespace Go.Bas
def Bsp (x n:Int):Int:=(ishr .u64 x n).tmod 2
def Fbit:List AV->Option (Bool × AV)
 | [.int .u64 x,.int .i64 n]=>some (decide (0<=n),.int .u64 (Bsp x n))
 | _=>none
end Go.Bas
namespace Go.Bas
theorem Btj {a:Nat} (h:a<18446744073709551616):IntKind.wrap .u64 (a:Int)=(a:Int):=by
 unfold IntKind.wrap
 simp [IntKind.bits,IntKind.signed]
 omega
theorem Btk {a:Nat} (h:a<9223372036854775808):IntKind.wrap .i64 (a:Int)=(a:Int):=by
 unfold IntKind.wrap
 simp [IntKind.bits,IntKind.signed]
 omega
theorem Btl {a b:Nat} (ha:a<18446744073709551616) (hb:b<18446744073709551616):iand .u64 (a:Int) (b:Int)=((a &&& b:Nat):Int):=by
 unfold iand
 rw [Y3]
 have e:(BitVec.ofInt IntKind.u64.bits (a:Int) &&& BitVec.ofInt IntKind.u64.bits (b:Int)).toNat=a &&& b:=by
  show (BitVec.ofInt 64 (a:Int) &&& BitVec.ofInt 64 (b:Int)).toNat=a &&& b;rw [BitVec.toNat_and,BitVec.ofInt_natCast,BitVec.ofInt_natCast,BitVec.toNat_ofNat,BitVec.toNat_ofNat,Nat.mod_eq_of_lt ha,Nat.mod_eq_of_lt hb]
 rw [e]
 exact Btj (Nat.lt_of_le_of_lt Nat.and_le_left ha)
theorem iandS {a b:Nat} (ha:a<9223372036854775808) (hb:b<9223372036854775808):iand .i64 (a:Int) (b:Int)=((a &&& b:Nat):Int):=by
 unfold iand
 rw [Y3]
 have e:(BitVec.ofInt IntKind.i64.bits (a:Int) &&& BitVec.ofInt IntKind.i64.bits (b:Int)).toNat=a &&& b:=by
  show (BitVec.ofInt 64 (a:Int) &&& BitVec.ofInt 64 (b:Int)).toNat=a &&& b;rw [BitVec.toNat_and,BitVec.ofInt_natCast,BitVec.ofInt_natCast,BitVec.toNat_ofNat,BitVec.toNat_ofNat,Nat.mod_eq_of_lt (by omega),Nat.mod_eq_of_lt (by omega)]
 rw [e]
 exact Btk (Nat.lt_of_le_of_lt Nat.and_le_left ha)
theorem Bs3 {a k:Nat} (hk:k<=64):ishr .u64 (a:Int) (k:Int)=((a / 2 ^ k:Nat):Int):=by
 unfold ishr
 have h1:min (k:Int).toNat IntKind.u64.bits=k:=by simp [IntKind.bits];omega
 rw [h1,Int.fdiv_eq_ediv_of_nonneg _ (Int.le_of_lt (Int.pow_pos (by decide)))]
 rw [Int.natCast_ediv,Int.natCast_pow]
 rfl
def Bq0 (x:Int):Int:=(cnt 64 x.toNat:Nat)
theorem Brv {a b:Nat}:a &&& b<=b:=Nat.and_le_right
theorem B1f {x:Int} (h0:0<=x) (h1:x<18446744073709551616) :
  let A:=IntKind.wrap .u64 (iand .u64 (ishr .u64 x 1) 6148914691236517205+iand .u64 x 6148914691236517205)
  let B:=IntKind.wrap .u64 (iand .u64 (ishr .u64 A 2) 3689348814741910323+iand .u64 A 3689348814741910323)
  let D:=iand .u64 (IntKind.wrap .u64 (ishr .u64 B 4+B)) 1085102592571150095
  let E:=IntKind.wrap .u64 (D+ishr .u64 D 8)
  let F:=IntKind.wrap .u64 (E+ishr .u64 E 16)
  let H:=IntKind.wrap .u64 (F+ishr .u64 F 32)
  iand .i64 (IntKind.wrap .i64 H) 127=Bq0 x:=by
 obtain ⟨n,rfl⟩:=Int.eq_ofNat_of_zero_le h0
 have hn:n<18446744073709551616:=by omega
 intro A B D E F H
 have r1:rep 8 85=6148914691236517205:=by decide
 have r2:rep 8 51=3689348814741910323:=by decide
 have r3:rep 8 15=1085102592571150095:=by decide
 obtain ⟨_,hs⟩:=swar 8 n (by simpa using hn)
 have eA:A=(s1 8 n:Nat):=by
  show IntKind.wrap .u64 (iand .u64 (ishr .u64 (n:Int) ((1:Nat):Int)) ((6148914691236517205:Nat):Int)+iand .u64 (n:Int) ((6148914691236517205:Nat):Int))=_;have b1:(n / 2 ^ 1 &&& 6148914691236517205)<=6148914691236517205:=Brv;have b2:(n &&& 6148914691236517205)<=6148914691236517205:=Brv
  rw [Bs3 (by decide),Btl (by omega) (by decide),Btl hn (by decide),<- Int.natCast_add,Btj (by omega)]
  unfold s1;rw [r1]
 have bA:s1 8 n<18446744073709551616:=by
  unfold s1;rw [r1];have b1:(n / 2 &&& 6148914691236517205)<=6148914691236517205:=Brv;have b2:(n &&& 6148914691236517205)<=6148914691236517205:=Brv;omega
 have eB:B=(s2 8 (s1 8 n):Nat):=by
  show IntKind.wrap .u64 (iand .u64 (ishr .u64 A ((2:Nat):Int)) ((3689348814741910323:Nat):Int)+iand .u64 A ((3689348814741910323:Nat):Int))=_;rw [eA];generalize s1 8 n=m at *;have b1:(m / 2 ^ 2 &&& 3689348814741910323)<=3689348814741910323:=Brv;have b2:(m &&& 3689348814741910323)<=3689348814741910323:=Brv
  rw [Bs3 (by decide),Btl (by omega) (by decide),Btl bA (by decide),<- Int.natCast_add,Btj (by omega)]
  unfold s2;rw [r2]
 have bB:s2 8 (s1 8 n)<=7378697629483820646:=by
  unfold s2;rw [r2];have b1:(s1 8 n / 4 &&& 3689348814741910323)<=3689348814741910323:=Brv;have b2:(s1 8 n &&& 3689348814741910323)<=3689348814741910323:=Brv;omega
 have eD:D=(s3 8 (s2 8 (s1 8 n)):Nat):=by
  show iand .u64 (IntKind.wrap .u64 (ishr .u64 B ((4:Nat):Int)+B)) ((1085102592571150095:Nat):Int)=_;rw [eB];generalize s2 8 (s1 8 n)=m at *;rw [Bs3 (by decide),<- Int.natCast_add,Btj (by omega),Btl (by omega) (by decide)]
  unfold s3;rw [r3]
 have bD:s3 8 (s2 8 (s1 8 n))<=1085102592571150095:=by
  unfold s3;rw [r3];exact Brv
 rw [hs] at eD bD
 have hf:=@B3m n
 simp only at hf
 generalize cb 8 n=y at *
 have eE:E=(y+y / 256:Nat):=by
  show IntKind.wrap .u64 (D+ishr .u64 D ((8:Nat):Int))=_;rw [eD,Bs3 (by decide),<- Int.natCast_add,Btj (by omega)]
 have eF:F=(y+y / 256+(y+y / 256) / 65536:Nat):=by
  show IntKind.wrap .u64 (E+ishr .u64 E ((16:Nat):Int))=_;rw [eE,Bs3 (by decide),<- Int.natCast_add,Btj (by omega)]
 have eH:H=(y+y / 256+(y+y / 256) / 65536+(y+y / 256+(y+y / 256) / 65536) / 4294967296:Nat):=by
  show IntKind.wrap .u64 (F+ishr .u64 F ((32:Nat):Int))=_;rw [eF,Bs3 (by decide),<- Int.natCast_add,Btj (by omega)]
 show iand .i64 (IntKind.wrap .i64 H) ((127:Nat):Int)=_
 rw [eH,Btk (by omega),iandS (by omega) (by decide)]
 have:∀ q:Nat,q &&& 127=q % 128:=fun q=>Nat.and_two_pow_sub_one_eq_mod q 7
 rw [this,hf]
 simp [Bq0]
end Go.Bas
namespace Go.Bas
def B1g:List AV->Option (Bool × AV)
 | [.int .u64 x]=>some (decide (0<=x)&&decide (x<18446744073709551616),.int .i64 (Bq0 x))
 | _=>none
theorem Bt6 (t x:Nat):cnt (t+1) x=cnt t x+x / 2 ^ t % 2:=by
 rw [Bu4 t 1]
 simp [cnt]
theorem Bzg {x:Int} {t:Nat} (hx:0<=x) (ht:t<=64):Bsp x (t:Int)=((x.toNat / 2 ^ t % 2:Nat):Int):=by
 obtain ⟨n,rfl⟩:=Int.eq_ofNat_of_zero_le hx
 unfold Bsp
 rw [Bs3 ht]
 rw [Int.tmod_eq_emod_of_nonneg (Int.natCast_nonneg _)]
 show ((n / 2 ^ t:Nat):Int) % 2=((n / 2 ^ t % 2:Nat):Int)
 omega
end Go.Bas
end
section
namespace Go.Bas
open Go.RowKit
theorem Ba5 {a b:Nat} (ha:a<4294967296) (hb:b<4294967296):iand .u32 (a:Int) (b:Int)=((a &&& b:Nat):Int):=by
 unfold iand
 rw [Y3]
 have e:(BitVec.ofInt IntKind.u32.bits (a:Int) &&& BitVec.ofInt IntKind.u32.bits (b:Int)).toNat=a &&& b:=by
  show (BitVec.ofInt 32 (a:Int) &&& BitVec.ofInt 32 (b:Int)).toNat=a &&& b;rw [BitVec.toNat_and,BitVec.toNat_ofInt,BitVec.toNat_ofInt]
  congr 1<;>omega
 rw [e]
 have h:a &&& b<=a:=Nat.and_le_left
 have:a &&& b<4294967296:=by omega
 unfold IntKind.wrap
 simp [IntKind.bits,IntKind.signed]
 omega
theorem Blq {a:Int} {k:Nat} (h0:0<=a) (h1:a<4294967296) (hk:k<=32):iand .u32 a ((2 ^ k-1:Nat):Int)=Int.tmod a ((2 ^ k:Nat):Int):=by
 obtain ⟨n,rfl⟩:=Int.eq_ofNat_of_zero_le h0
 have hp:2 ^ k<=2 ^ 32:=Nat.pow_le_pow_right (by decide) hk
 have hp0:0<2 ^ k:=Nat.two_pow_pos k
 have e32:(2:Nat) ^ 32=4294967296:=by decide
 rw [Ba5 (by omega) (by omega),Nat.and_two_pow_sub_one_eq_mod]
 rfl
theorem B3n {a:Int} {k:Nat} (h0:0<=a) (h1:a<18446744073709551616) (hk:k<=64):iand .u64 a ((2 ^ k-1:Nat):Int)=Int.tmod a ((2 ^ k:Nat):Int):=by
 obtain ⟨n,rfl⟩:=Int.eq_ofNat_of_zero_le h0
 have hp:2 ^ k<=2 ^ 64:=Nat.pow_le_pow_right (by decide) hk
 have hp0:0<2 ^ k:=Nat.two_pow_pos k
 have e64:(2:Nat) ^ 64=18446744073709551616:=by decide
 rw [Btl (by omega) (by omega),Nat.and_two_pow_sub_one_eq_mod]
 rfl
theorem shr32 {a:Int} {k:Nat} (h0:0<=a) (hk:k<=32):ishr .u32 a (k:Int)=Int.tdiv a ((2 ^ k:Nat):Int):=by
 obtain ⟨n,rfl⟩:=Int.eq_ofNat_of_zero_le h0
 unfold ishr
 have h1:min (k:Int).toNat IntKind.u32.bits=k:=by simp [IntKind.bits];omega
 rw [h1,Int.fdiv_eq_ediv_of_nonneg _ (Int.le_of_lt (Int.pow_pos (by decide))),Int.natCast_pow]
 exact (Int.tdiv_eq_ediv_of_nonneg (Int.natCast_nonneg n)).symm
theorem shr64 {a:Int} {k:Nat} (h0:0<=a) (hk:k<=64):ishr .u64 a (k:Int)=Int.tdiv a ((2 ^ k:Nat):Int):=by
 obtain ⟨n,rfl⟩:=Int.eq_ofNat_of_zero_le h0
 rw [Bs3 hk]
 rfl
theorem Aui {a:Int} (h0:0<=a) (h1:a<4294967296):iand .u32 a 65535=Int.tmod a 65536:=Blq (k:=16) h0 h1 (by decide)
theorem A4u {a:Int} (h0:0<=a):ishr .u32 a 16=Int.tdiv a 65536:=shr32 (k:=16) h0 (by decide)
end Go.Bas
end
section
namespace Go.Bas.BasZRef5b
noncomputable section
open Go.RowKit Go.Proofs
open BasZBase BasZOp BasZOk
def posR (o:Opr):Bool:=Ie o&&(decide (0<=o.a)&&(decide (o.a<4294967296)&&decide (o.b<4294967296)))
theorem H8 {o:Opr}:posR o=true ↔ (0<=o.kind/\o.kind<=255/\0<=o.b)/\0<=o.a/\o.a<4294967296/\o.b<4294967296:=by
 unfold posR Ie
 simp only [Bae,Dte]
theorem Ba6 {n:Int} (h0:0<=n) (h1:n<4294967296):IntKind.wrap .u32 n=n:=Uc (by simp [Lit.wf,IntKind.min,IntKind.max,IntKind.signed,IntKind.bits];omega)
theorem A4v {a:Int} (h0:0<=a) (h1:a<4294967296):IntKind.wrap .u32 (Int.tdiv a 65536)=Int.tdiv a 65536:=by
 have e:Int.tdiv a 65536=a / 65536:=Int.tdiv_eq_ediv_of_nonneg h0
 rw [e]
 exact Ba6 (by omega) (by omega)
theorem Awu {a:Int} {b:Bool} (h0:0<=a) (h1:a<4294967296) (h:(!decide (Int.tmod a 65536=0))=b):(!decide (iand .u32 a 65535=0))=b:=by rw [Aui h0 h1];exact h
theorem Bif {a:Int} {b:Bool} (h0:0<=a) (h1:a<4294967296) (h:(!decide (IntKind.wrap .u32 (Int.tdiv a 65536)=0))=b):(!decide (ishr .u32 a 16=0))=b:=by rw [A4u h0,<- A4v h0 h1];exact h
def pPre (b0 a b:Int):Bool:=cond (decide (b<=IntKind.wrap .u32 b0)) (decide (a<Gz .u32 1 b)) false
theorem Blr {b0 a b:Int} (h:decide (b<=IntKind.wrap .u32 b0)=true):pPre b0 a b=decide (a<Gz .u32 1 b):=by unfold pPre;rw [h];rfl
theorem Bls {b0 a b:Int} (h:decide (b<=IntKind.wrap .u32 b0)=false):pPre b0 a b=false:=by unfold pPre;rw [h];rfl
def Awv:Sum:=(139,on1 Ab2 (fun o=>(decide (0<=o.a)&&decide (o.a<4294967296))) (fun o=>.bool (Gv o.a o.b)))
abbrev zbs0 (o:Opr):Bool:=br (!decide ((iand .u32 o.2 65535)=0)) (br (!decide ((ishr .u32 o.2 16)=0)) (!decide (o.3<=65535)) (br (decide (o.3=0)) (!decide (o.3<=65535)) true)) true
theorem Ba7 (o:Opr) (h0:0<=o.a) (h1:o.a<4294967296):Ai (cfg []) 300 139 [o.av] (fun w_=>Tr.ev (Aas o.a o.b) (fun l_=>seB.eq (Ams l_) w_) false) false=true:=Eq.trans (b:=(br (!decide ((Int.tmod o.2 65536)=0)) (br (decide (o.3<=65535)) (br (!decide ((IntKind.wrap .u32 (Int.tdiv o.2 65536))=0)) (ba (!decide ((iand .u32 o.2 65535)=0)) (br (!decide ((ishr .u32 o.2 16)=0)) (ba (decide (o.3<=65535)) true) (ba (decide (o.3=0)) (ba (decide (o.3<=65535)) true)))) (br (!decide ((iand .u32 o.2 65535)=0)) (br (!decide ((ishr .u32 o.2 16)=0)) (br (decide (o.3<=65535)) (ba (decide (o.3=0)) true) (!decide (o.3=0))) (br (decide (o.3=0)) (br (decide (o.3<=65535)) (ba (decide (o.3=0)) true) (!decide (o.3=0))) (!decide (o.3=0)))) (!decide (o.3=0)))) (zbs0 o)) (zbs0 o))) (by kernel_rfl) (bdt (fun h_1=>(bdt (fun h_2=>(bdt (fun h_3=>(band (Awu h0 h1 h_1) (btb (Bif h0 h1 h_3) (band h_2 rfl)))) (fun h_3=>(btb (Awu h0 h1 h_1) (btf (Bif h0 h1 h_3) (bdt (fun h_4=>(btb h_2 (band h_4 rfl))) (fun h_4=>(Am h_4)))))))) (fun h_2=>(btb (Awu h0 h1 h_1) (bdt (fun h_3=>(Am h_2)) (fun h_3=>(btf (Ddf (by have g0:=Odf h_2;omega)) rfl))))))) (fun h_1=>(btf (Awu h0 h1 h_1) rfl)))
theorem Azw (o:Opr) (h:(decide (0<=o.a)&&decide (o.a<4294967296))=true):Ai (cfg []) 300 139 [o.av] (fun w_=>Tr.ev (Aas o.a o.b) (fun l_=>seB.eq (Ams l_) w_) false) false=true:=Ba7 o (Odt (Aj h)) (Odt (Af h))
theorem Ba8:Bc Tryz.prog (Cb gs) Awv:=Fg fun o h=>Aq base Ap (n:=300) fun k hk=>(Dh (Azw o h) (fun w_ hw=>(seB.ok _ _ ((Tr.merge (fits_path o.a o.b) (Tr.ok_of_total (by kernel_rfl))).symm.trans hw))) k).trans hk
def A4w:Sum:=(138,on3 (rI .i64) (rI .u32) (rI .u32) (fun b0 a b=>(decide (0<=b0)&&(decide (b0<=6)&&decide (0<=b)))) (fun b0 a b=>.bool (pPre b0 a b)))
abbrev Tz (a:Int):=!decide (a<0)
theorem A4x (b0:Int) (a:Int) (b:Int) (hb:decide (b<=IntKind.wrap .u32 b0)=false):Ai (cfg []) 300 138 [.int .i64 b0,.int .u32 a,.int .u32 b] (fun w_=>seB.eq (.bool false) w_) false=true:=Eq.trans (b:=(br (decide (b>(IntKind.wrap .u32 b0))) true (br (decide (0<b)) (br (decide (1<b)) (br (decide (2<b)) (br (decide (3<b)) (br (decide (4<b)) (br (decide (5<b)) (br (decide (6<b)) (br (decide (7<b)) (br (decide (8<b)) (br (decide (9<b)) (br (decide (10<b)) (br (decide (11<b)) (br (decide (12<b)) (br (decide (13<b)) (br (decide (14<b)) (br (decide (15<b)) (br (decide (16<b)) (br (decide (17<b)) (br (decide (18<b)) (br (decide (19<b)) (br (decide (20<b)) (br (decide (21<b)) (br (decide (22<b)) (br (decide (23<b)) (br (decide (24<b)) (br (decide (25<b)) (br (decide (26<b)) (br (decide (27<b)) (br (decide (28<b)) (br (decide (29<b)) (br (decide (30<b)) (br (decide (31<b)) (br (decide (32<b)) (br (decide (33<b)) (br (decide (34<b)) (br (decide (35<b)) (br (decide (36<b)) (br (decide (37<b)) (br (decide (38<b)) (br (decide (39<b)) (br (decide (40<b)) (br (decide (41<b)) (br (decide (42<b)) (br (decide (43<b)) (br (decide (44<b)) (br (decide (45<b)) (br (decide (46<b)) (br (decide (47<b)) (br (decide (48<b)) (br (decide (49<b)) (br (decide (50<b)) (br (decide (51<b)) (br (decide (52<b)) (br (decide (53<b)) (br (decide (54<b)) (br (decide (55<b)) (br (decide (56<b)) (br (decide (57<b)) (br (decide (58<b)) (br (decide (59<b)) (br (decide (60<b)) (br (decide (61<b)) (br (decide (62<b)) (br (decide (63<b)) (br (decide (64<b)) (br (decide (65<b)) (br (decide (66<b)) (br (decide (67<b)) (br (decide (68<b)) (br (decide (69<b)) (br (decide (70<b)) (br (decide (71<b)) (br (decide (72<b)) (br (decide (73<b)) (br (decide (74<b)) (br (decide (75<b)) (br (decide (76<b)) (br (decide (77<b)) (br (decide (78<b)) (br (decide (79<b)) (br (decide (80<b)) (br (decide (81<b)) (br (decide (82<b)) (br (decide (83<b)) (br (decide (84<b)) (br (decide (85<b)) (br (decide (86<b)) (br (decide (87<b)) (br (decide (88<b)) (br (decide (89<b)) (br (decide (90<b)) (br (decide (91<b)) (br (decide (92<b)) (br (decide (93<b)) (br (decide (94<b)) (br (decide (95<b)) (br (decide (96<b)) (br (decide (97<b)) (br (decide (98<b)) (br (decide (99<b)) (br (decide (100<b)) (br (decide (101<b)) (br (decide (102<b)) (br (decide (103<b)) (br (decide (104<b)) (br (decide (105<b)) (br (decide (106<b)) (br (decide (107<b)) (br (decide (108<b)) (br (decide (109<b)) (br (decide (110<b)) (br (decide (111<b)) (br (decide (112<b)) (br (decide (113<b)) (br (decide (114<b)) (br (decide (115<b)) (br (decide (116<b)) (br (decide (117<b)) (br (decide (118<b)) (br (decide (119<b)) (br (decide (120<b)) (br (decide (121<b)) (br (decide (122<b)) (br (decide (123<b)) (br (decide (124<b)) (br (decide (125<b)) (br (decide (126<b)) (br (decide (127<b)) (br (decide (128<b)) (br (decide (129<b)) (br (decide (130<b)) (br (decide (131<b)) (br (decide (132<b)) (br (decide (133<b)) (br (decide (134<b)) (br (decide (135<b)) (br (decide (136<b)) (br (decide (137<b)) (br (decide (138<b)) (br (decide (139<b)) (br (decide (140<b)) (br (decide (141<b)) (br (decide (142<b)) (br (decide (143<b)) (br (decide (144<b)) (br (decide (145<b)) (br (decide (146<b)) (br (decide (147<b)) (br (decide (148<b)) (br (decide (149<b)) (br (decide (150<b)) (br (decide (151<b)) (br (decide (152<b)) (br (decide (153<b)) (br (decide (154<b)) (br (decide (155<b)) (br (decide (156<b)) (br (decide (157<b)) (br (decide (158<b)) (br (decide (159<b)) (br (decide (160<b)) (br (decide (161<b)) (br (decide (162<b)) (br (decide (163<b)) (br (decide (164<b)) (br (decide (165<b)) (br (decide (166<b)) (br (decide (167<b)) (br (decide (168<b)) (br (decide (169<b)) (br (decide (170<b)) (br (decide (171<b)) (br (decide (172<b)) (br (decide (173<b)) (br (decide (174<b)) (br (decide (175<b)) (br (decide (176<b)) (br (decide (177<b)) (br (decide (178<b)) (br (decide (179<b)) (br (decide (180<b)) (br (decide (181<b)) (br (decide (182<b)) (br (decide (183<b)) (br (decide (184<b)) (br (decide (185<b)) (br (decide (186<b)) (br (decide (187<b)) (br (decide (188<b)) (br (decide (189<b)) (br (decide (190<b)) (br (decide (191<b)) (br (decide (192<b)) (br (decide (193<b)) (br (decide (194<b)) (br (decide (195<b)) (br (decide (196<b)) (br (decide (197<b)) (br (decide (198<b)) (br (decide (199<b)) (br (decide (200<b)) (br (decide (201<b)) (br (decide (202<b)) (br (decide (203<b)) (br (decide (204<b)) (br (decide (205<b)) (br (decide (206<b)) (br (decide (207<b)) (br (decide (208<b)) (br (decide (209<b)) (br (decide (210<b)) (br (decide (211<b)) (br (decide (212<b)) (br (decide (213<b)) (br (decide (214<b)) (br (decide (215<b)) (br (decide (216<b)) (br (decide (217<b)) (br (decide (218<b)) (br (decide (219<b)) (br (decide (220<b)) (br (decide (221<b)) (br (decide (222<b)) (br (decide (223<b)) (br (decide (224<b)) (br (decide (225<b)) (br (decide (226<b)) (br (decide (227<b)) (br (decide (228<b)) (br (decide (229<b)) (br (decide (230<b)) (br (decide (231<b)) (br (decide (232<b)) (br (decide (233<b)) (br (decide (234<b)) (br (decide (235<b)) (br (decide (236<b)) (br (decide (237<b)) (br (decide (238<b)) (br (decide (239<b)) (br (decide (240<b)) (br (decide (241<b)) (br (decide (242<b)) (br (decide (243<b)) (br (decide (244<b)) (br (decide (245<b)) (br (decide (246<b)) (br (decide (247<b)) (br (decide (248<b)) (br (decide (249<b)) (br (decide (250<b)) (br (decide (251<b)) (br (decide (252<b)) (br (decide (253<b)) (br (decide (254<b)) (br (decide (255<b)) (br (decide (256<b)) (br (decide (257<b)) (br (decide (258<b)) (br (decide (259<b)) (br (decide (260<b)) (br (decide (261<b)) (br (decide (262<b)) (br (decide (263<b)) (br (decide (264<b)) (br (decide (265<b)) (br (decide (266<b)) (br (decide (267<b)) (br (decide (268<b)) (br (decide (269<b)) (br (decide (270<b)) (br (decide (271<b)) (br (decide (272<b)) (br (decide (273<b)) (br (decide (274<b)) (br (decide (275<b)) (br (decide (276<b)) (br (decide (277<b)) (br (decide (278<b)) (br (decide (279<b)) (br (decide (280<b)) (br (decide (281<b)) (br (decide (282<b)) (br (decide (283<b)) (br (decide (284<b)) (br (decide (285<b)) (br (decide (286<b)) (br (decide (287<b)) (br (decide (288<b)) (br (decide (289<b)) (ba (decide (290<b)) false) (Tz a)) (Tz a)) (Tz a)) (Tz a)) (Tz a)) (Tz a)) (Tz a)) (Tz a)) (Tz a)) (Tz a)) (Tz a)) (Tz a)) (Tz a)) (Tz a)) (Tz a)) (Tz a)) (Tz a)) (Tz a)) (Tz a)) (Tz a)) (Tz a)) (Tz a)) (Tz a)) (Tz a)) (Tz a)) (Tz a)) (Tz a)) (Tz a)) (Tz a)) (Tz a)) (Tz a)) (Tz a)) (Tz a)) (Tz a)) (Tz a)) (Tz a)) (Tz a)) (Tz a)) (Tz a)) (Tz a)) (Tz a)) (Tz a)) (Tz a)) (Tz a)) (Tz a)) (Tz a)) (Tz a)) (Tz a)) (Tz a)) (Tz a)) (Tz a)) (Tz a)) (Tz a)) (Tz a)) (Tz a)) (Tz a)) (Tz a)) (Tz a)) (Tz a)) (Tz a)) (Tz a)) (Tz a)) (Tz a)) (Tz a)) (Tz a)) (Tz a)) (Tz a)) (Tz a)) (Tz a)) (Tz a)) (Tz a)) (Tz a)) (Tz a)) (Tz a)) (Tz a)) (Tz a)) (Tz a)) (Tz a)) (Tz a)) (Tz a)) (Tz a)) (Tz a)) (Tz a)) (Tz a)) (Tz a)) (Tz a)) (Tz a)) (Tz a)) (Tz a)) (Tz a)) (Tz a)) (Tz a)) (Tz a)) (Tz a)) (Tz a)) (Tz a)) (Tz a)) (Tz a)) (Tz a)) (Tz a)) (Tz a)) (Tz a)) (Tz a)) (Tz a)) (Tz a)) (Tz a)) (Tz a)) (Tz a)) (Tz a)) (Tz a)) (Tz a)) (Tz a)) (Tz a)) (Tz a)) (Tz a)) (Tz a)) (Tz a)) (Tz a)) (Tz a)) (Tz a)) (Tz a)) (Tz a)) (Tz a)) (Tz a)) (Tz a)) (Tz a)) (Tz a)) (Tz a)) (Tz a)) (Tz a)) (Tz a)) (Tz a)) (Tz a)) (Tz a)) (Tz a)) (Tz a)) (Tz a)) (Tz a)) (Tz a)) (Tz a)) (Tz a)) (Tz a)) (Tz a)) (Tz a)) (Tz a)) (Tz a)) (Tz a)) (Tz a)) (Tz a)) (Tz a)) (Tz a)) (Tz a)) (Tz a)) (Tz a)) (Tz a)) (Tz a)) (Tz a)) (Tz a)) (Tz a)) (Tz a)) (Tz a)) (Tz a)) (Tz a)) (Tz a)) (Tz a)) (Tz a)) (Tz a)) (Tz a)) (Tz a)) (Tz a)) (Tz a)) (Tz a)) (Tz a)) (Tz a)) (Tz a)) (Tz a)) (Tz a)) (Tz a)) (Tz a)) (Tz a)) (Tz a)) (Tz a)) (Tz a)) (Tz a)) (Tz a)) (Tz a)) (Tz a)) (Tz a)) (Tz a)) (Tz a)) (Tz a)) (Tz a)) (Tz a)) (Tz a)) (Tz a)) (Tz a)) (Tz a)) (Tz a)) (Tz a)) (Tz a)) (Tz a)) (Tz a)) (Tz a)) (Tz a)) (Tz a)) (Tz a)) (Tz a)) (Tz a)) (Tz a)) (Tz a)) (Tz a)) (Tz a)) (Tz a)) (Tz a)) (Tz a)) (Tz a)) (Tz a)) (Tz a)) (Tz a)) (Tz a)) (Tz a)) (Tz a)) (Tz a)) (Tz a)) (Tz a)) (Tz a)) (Tz a)) (Tz a)) (Tz a)) (Tz a)) (Tz a)) (Tz a)) (Tz a)) (Tz a)) (Tz a)) (Tz a)) (Tz a)) (Tz a)) (Tz a)) (Tz a)) (Tz a)) (Tz a)) (Tz a)) (Tz a)) (Tz a)) (Tz a)) (Tz a)) (Tz a)) (Tz a)) (Tz a)) (Tz a)) (Tz a)) (Tz a)) (Tz a)) (Tz a)) (Tz a)) (Tz a)) (Tz a)) (!decide (a<2147483648))) (!decide (a<1073741824))) (!decide (a<536870912))) (!decide (a<268435456))) (!decide (a<134217728))) (!decide (a<67108864))) (!decide (a<33554432))) (!decide (a<16777216))) (!decide (a<8388608))) (!decide (a<4194304))) (!decide (a<2097152))) (!decide (a<1048576))) (!decide (a<524288))) (!decide (a<262144))) (!decide (a<131072))) (!decide (a<65536))) (!decide (a<32768))) (!decide (a<16384))) (!decide (a<8192))) (!decide (a<4096))) (!decide (a<2048))) (!decide (a<1024))) (!decide (a<512))) (!decide (a<256))) (!decide (a<128))) (!decide (a<64))) (!decide (a<32))) (!decide (a<16))) (!decide (a<8))) (!decide (a<4))) (!decide (a<2))) (!decide (a<1))))) (by kernel_rfl) (btb (Ddt (by have:=Odf hb;omega)) rfl)
section
variable (b0 a:Int)
theorem A4y (hb:decide (0<=IntKind.wrap .u32 b0)=true):Ai (cfg []) 300 138 [.int .i64 b0,.int .u32 a,.int .u32 0] (fun w_=>seB.eq (.bool (decide (a<Gz .u32 1 0))) w_) false=true:=Eq.trans (b:=(br (decide (0>(IntKind.wrap .u32 b0))) (!decide (a<1)) (br (decide (a<1)) (ba (decide (a<1)) true) (!decide (a<1))))) (by kernel_rfl) (btf (Ddf (by have:=Odt hb;omega)) (bdt (fun h_1=>(band h_1 rfl)) (fun h_1=>(Am h_1))))
theorem A4z (hb:decide (1<=IntKind.wrap .u32 b0)=true):Ai (cfg []) 300 138 [.int .i64 b0,.int .u32 a,.int .u32 1] (fun w_=>seB.eq (.bool (decide (a<Gz .u32 1 1))) w_) false=true:=Eq.trans (b:=(br (decide (1>(IntKind.wrap .u32 b0))) (!decide (a<2)) (br (decide (a<2)) (ba (decide (a<2)) true) (!decide (a<2))))) (by kernel_rfl) (btf (Ddf (by have:=Odt hb;omega)) (bdt (fun h_1=>(band h_1 rfl)) (fun h_1=>(Am h_1))))
theorem A40 (hb:decide (2<=IntKind.wrap .u32 b0)=true):Ai (cfg []) 300 138 [.int .i64 b0,.int .u32 a,.int .u32 2] (fun w_=>seB.eq (.bool (decide (a<Gz .u32 1 2))) w_) false=true:=Eq.trans (b:=(br (decide (2>(IntKind.wrap .u32 b0))) (!decide (a<4)) (br (decide (a<4)) (ba (decide (a<4)) true) (!decide (a<4))))) (by kernel_rfl) (btf (Ddf (by have:=Odt hb;omega)) (bdt (fun h_1=>(band h_1 rfl)) (fun h_1=>(Am h_1))))
theorem A41 (hb:decide (3<=IntKind.wrap .u32 b0)=true):Ai (cfg []) 300 138 [.int .i64 b0,.int .u32 a,.int .u32 3] (fun w_=>seB.eq (.bool (decide (a<Gz .u32 1 3))) w_) false=true:=Eq.trans (b:=(br (decide (3>(IntKind.wrap .u32 b0))) (!decide (a<8)) (br (decide (a<8)) (ba (decide (a<8)) true) (!decide (a<8))))) (by kernel_rfl) (btf (Ddf (by have:=Odt hb;omega)) (bdt (fun h_1=>(band h_1 rfl)) (fun h_1=>(Am h_1))))
theorem A42 (hb:decide (4<=IntKind.wrap .u32 b0)=true):Ai (cfg []) 300 138 [.int .i64 b0,.int .u32 a,.int .u32 4] (fun w_=>seB.eq (.bool (decide (a<Gz .u32 1 4))) w_) false=true:=Eq.trans (b:=(br (decide (4>(IntKind.wrap .u32 b0))) (!decide (a<16)) (br (decide (a<16)) (ba (decide (a<16)) true) (!decide (a<16))))) (by kernel_rfl) (btf (Ddf (by have:=Odt hb;omega)) (bdt (fun h_1=>(band h_1 rfl)) (fun h_1=>(Am h_1))))
theorem A43 (hb:decide (5<=IntKind.wrap .u32 b0)=true):Ai (cfg []) 300 138 [.int .i64 b0,.int .u32 a,.int .u32 5] (fun w_=>seB.eq (.bool (decide (a<Gz .u32 1 5))) w_) false=true:=Eq.trans (b:=(br (decide (5>(IntKind.wrap .u32 b0))) (!decide (a<32)) (br (decide (a<32)) (ba (decide (a<32)) true) (!decide (a<32))))) (by kernel_rfl) (btf (Ddf (by have:=Odt hb;omega)) (bdt (fun h_1=>(band h_1 rfl)) (fun h_1=>(Am h_1))))
theorem A44 (hb:decide (6<=IntKind.wrap .u32 b0)=true):Ai (cfg []) 300 138 [.int .i64 b0,.int .u32 a,.int .u32 6] (fun w_=>seB.eq (.bool (decide (a<Gz .u32 1 6))) w_) false=true:=Eq.trans (b:=(br (decide (6>(IntKind.wrap .u32 b0))) (!decide (a<64)) (br (decide (a<64)) (ba (decide (a<64)) true) (!decide (a<64))))) (by kernel_rfl) (btf (Ddf (by have:=Odt hb;omega)) (bdt (fun h_1=>(band h_1 rfl)) (fun h_1=>(Am h_1))))
end
theorem A45 (b0:Int) (a:Int) (b:Int) (h:(decide (0<=b0)&&(decide (b0<=6)&&decide (0<=b)))=true):Ai (cfg []) 300 138 [.int .i64 b0,.int .u32 a,.int .u32 b] (fun w_=>seB.eq (.bool (pPre b0 a b)) w_) false=true:=by
 simp only [Bae,Dte] at h
 cases hb:decide (b<=IntKind.wrap .u32 b0) with
 | false =>
  rw [Bls hb];exact A4x b0 a b hb
 | true =>
  rw [Blr hb];have hb2:=Odt hb;rw [Ba6 (by omega) (by omega)] at hb2
  rcases (show b=0\/b=1\/b=2\/b=3\/b=4\/b=5\/b=6 by omega) with rfl|rfl|rfl|rfl|rfl|rfl|rfl
  ·exact A4y b0 a hb
  ·exact A4z b0 a hb
  ·exact A40 b0 a hb
  ·exact A41 b0 a hb
  ·exact A42 b0 a hb
  ·exact A43 b0 a hb
  ·exact A44 b0 a hb
theorem Blu:Bc Tryz.prog (Cb gs) A4w:=Hz fun b0 a b h=>Aq base Ap (n:=300) fun k hk=>(Dh (A45 b0 a b h) (fun w_ hw=>(seB.ok _ _ hw)) k).trans hk
end
end Go.Bas.BasZRef5b
end
section
namespace Go.Bas.BasZRef5c
noncomputable section
open Go.RowKit Go.Proofs
open BasZBase BasZOp BasZOk BasZRef5b
theorem Aem {a:Int} (h0:0<=a) (h1:a<4294967296):decide (IntKind.wrap .u32 (a-1)<65535)=(decide (a>=1)&&decide (a<=65535)):=by
 have e:IntKind.wrap .u32 (a-1)=cond (decide (a>=1)) (a-1) 4294967295:=by
  by_cases h:a>=1
  ·rw [Ddt h]
   exact Ba6 (by omega) (by omega)
  ·have:a=0:=by omega
   subst this;rfl
 rw [e]
 by_cases h:a>=1
 ·rw [Ddt h]
  show decide (a-1<65535)=(true&&decide (a<=65535));rw [Bool.true_and];exact decide_eq_decide.2 (by omega)
 ·rw [Ddf h]
  rfl
theorem Ab6 {c:Conf} (h:c.ok=true):0<=c.bits/\c.bits<=6:=by
 have h:=Hy.1 h
 simp only [Conf.OkP] at h
 omega
theorem wb6 {c:Conf} (h:c.ok=true):IntKind.wrap .u32 c.bits=c.bits:=Ba6 (Ab6 h).1 (by have:=Ab6 h;omega)
theorem Auj {c:Conf} {b:Int} (h:c.ok=true) (hb:0<=b):(decide (0<=c.bits)&&(decide (c.bits<=6)&&decide (0<=b)))=true:=by
 rw [Ddt (Ab6 h).1,Ddt (Ab6 h).2,Ddt hb]
 rfl
theorem a_p {a:Int} (h0:0<=a) (h1:a<4294967296):(decide (0<=a)&&decide (a<4294967296))=true:=by
 rw [Ddt h0,Ddt h1]
 rfl
theorem Aq5 {b0 a b:Int} (h:pPre b0 a b=true):decide (b<=IntKind.wrap .u32 b0)=true/\decide (a<Gz .u32 1 b)=true:=by
 unfold pPre at h
 cases hb:decide (b<=IntKind.wrap .u32 b0) with
 | true=>rw [hb] at h;exact ⟨rfl,h⟩
 | false=>rw [hb] at h;cases h
theorem A46 {b0 a b:Int} (h:pPre b0 a b=false) (hb:decide (b<=IntKind.wrap .u32 b0)=true):decide (a<Gz .u32 1 b)=false:=by
 unfold pPre at h
 rw [hb] at h
 exact h
theorem wb_le {c:Conf} (h:c.ok=true):decide (IntKind.wrap .u32 c.bits<=IntKind.wrap .u32 c.bits)=true:=Ddt (Int.le_refl _)
def Amu:Sum:=(78,on2 Dp Ab2 (fun c o=>(c.ok&&(posR o&&(decide (1<=o.kind)&&decide (o.kind<=14))))) (fun c o=>.bool (E9 c o)))
abbrev zbt0:=cfg [A4w,Awv]
theorem Azx (c:Conf) (a b v:Int) (hc:c.ok=true) (ha:0<=a) (ha1:a<4294967296) (hb:0<=b) (hb1:b<4294967296):Ai zbt0 400 78 [c.av,(⟨1,a,b,v⟩:Opr).av] (fun w_=>Tr.ev (Ic (c) (⟨1,a,b,v⟩:Opr)) (fun l_=>seB.eq (I5 l_) w_) false) false=true:=Eq.trans (b:=(ba (decide (0<=c.6)&&(decide (c.6<=6)&&decide (0<=b))) (br (BasZRef5b.pPre c.6 a b) (br (decide (v<=2147483647)) (br (decide (b<=(IntKind.wrap .u32 c.6))) (br (decide (b<0)) false (br (decide (a<(Gz .u32 1 b))) (ba (decide (v<=2147483647)) true) (!decide (v<=2147483647)))) (!decide (v<=2147483647))) (!decide (v<=2147483647))) (br (decide (v<=2147483647)) (br (decide (b<=(IntKind.wrap .u32 c.6))) (br (decide (b<0)) false (!decide (a<(Gz .u32 1 b)))) true) true)))) (by kernel_rfl) (band (Auj hc hb) (bdt (fun h_1=>(bdt (fun h_2=>(btb (Aq5 h_1).1 (btf (Ddf (by omega)) (btb (Aq5 h_1).2 (band h_2 rfl))))) (fun h_2=>(Am h_2)))) (fun h_1=>(bdt (fun h_2=>(bdt (fun h_3=>(btf (Ddf (by omega)) (Am (A46 h_1 h_3)))) (fun h_3=>rfl))) (fun h_2=>rfl)))))
abbrev zbt1 (v:Int):Bool:=ba (decide (v=0)) true
theorem Azy (c:Conf) (a b v:Int) (hc:c.ok=true) (ha:0<=a) (ha1:a<4294967296) (hb:0<=b) (hb1:b<4294967296):Ai zbt0 400 78 [c.av,(⟨2,a,b,v⟩:Opr).av] (fun w_=>Tr.ev (Ic (c) (⟨2,a,b,v⟩:Opr)) (fun l_=>seB.eq (I5 l_) w_) false) false=true:=Eq.trans (b:=(ba (decide (0<=c.6)&&(decide (c.6<=6)&&decide (0<=b))) (br (BasZRef5b.pPre c.6 a b) (br (decide (v=0)) (br (decide (b<=(IntKind.wrap .u32 c.6))) (br (decide (b<0)) false (br (decide (a<(Gz .u32 1 b))) (zbt1 v) (!decide (v=0)))) (!decide (v=0))) (!decide (v=0))) (br (decide (v=0)) (br (decide (b<=(IntKind.wrap .u32 c.6))) (br (decide (b<0)) false (!decide (a<(Gz .u32 1 b)))) true) true)))) (by kernel_rfl) (band (Auj hc hb) (bdt (fun h_1=>(bdt (fun h_2=>(btb (Aq5 h_1).1 (btf (Ddf (by omega)) (btb (Aq5 h_1).2 (band h_2 rfl))))) (fun h_2=>(Am h_2)))) (fun h_1=>(bdt (fun h_2=>(bdt (fun h_3=>(btf (Ddf (by omega)) (Am (A46 h_1 h_3)))) (fun h_3=>rfl))) (fun h_2=>rfl)))))
theorem Azz (c:Conf) (a b v:Int) (hc:c.ok=true) (ha:0<=a) (ha1:a<4294967296) (hb:0<=b) (hb1:b<4294967296):Ai zbt0 400 78 [c.av,(⟨3,a,b,v⟩:Opr).av] (fun w_=>Tr.ev (Ic (c) (⟨3,a,b,v⟩:Opr)) (fun l_=>seB.eq (I5 l_) w_) false) false=true:=Eq.trans (b:=(ba (decide (0<=c.6)&&(decide (c.6<=6)&&decide (0<=(IntKind.wrap .u32 c.6)))) (br (BasZRef5b.pPre c.6 a (IntKind.wrap .u32 c.6)) (br (decide (b=0)) (br (decide (v=0)) (br (decide (b=0)) (br (decide (c.6<0)) false (br (decide (a<(Gz .u32 1 c.6))) (zbt1 v) (!decide (v=0)))) (!decide (v=0))) (!decide (v=0))) (br (decide (v=0)) (br (decide (b=0)) (br (decide (c.6<0)) false (!decide (a<(Gz .u32 1 c.6)))) true) true)) (br (decide (v=0)) (br (decide (b=0)) (br (decide (c.6<0)) false (!decide (a<(Gz .u32 1 c.6)))) true) true)))) (by kernel_rfl) (band (Auj hc (by rw [wb6 hc];exact (Ab6 hc).1)) (bdt (fun h_1=>(bdt (fun h_2=>(bdt (fun h_3=>(btb h_2 (btf (Ddf (by have:=Ab6 hc;omega)) (btb (by have:=(Aq5 h_1).2;rw [wb6 hc] at this;exact this) (band h_3 rfl))))) (fun h_3=>(Am h_3)))) (fun h_2=>(bdt (fun h_3=>(btf h_2 rfl)) (fun h_3=>rfl))))) (fun h_1=>(bdt (fun h_2=>(bdt (fun h_3=>(btf (Ddf (by have:=Ab6 hc;omega)) (Am (by have:=A46 h_1 (wb_le hc);rw [wb6 hc] at this;exact this)))) (fun h_3=>rfl))) (fun h_2=>rfl)))))
theorem Az0 (c:Conf) (a b v:Int) (hc:c.ok=true) (ha:0<=a) (ha1:a<4294967296) (hb:0<=b) (hb1:b<4294967296):Ai zbt0 400 78 [c.av,(⟨4,a,b,v⟩:Opr).av] (fun w_=>Tr.ev (Ic (c) (⟨4,a,b,v⟩:Opr)) (fun l_=>seB.eq (I5 l_) w_) false) false=true:=Eq.trans (b:=(br (decide (a<=2147483647)) (br (decide (b<=2147483647)) (br (decide (v=0)) (br (decide (a<=2147483647)) (br (decide (b<=2147483647)) (zbt1 v) (!decide (v=0))) (!decide (v=0))) (!decide (v=0))) (br (decide (v=0)) (br (decide (a<=2147483647)) (!decide (b<=2147483647)) true) true)) (br (decide (v=0)) (br (decide (a<=2147483647)) (!decide (b<=2147483647)) true) true))) (by kernel_rfl) (bdt (fun h_1=>(bdt (fun h_2=>(bdt (fun h_3=>(btb h_1 (btb h_2 (band h_3 rfl)))) (fun h_3=>(Am h_3)))) (fun h_2=>(bdt (fun h_3=>(btb h_1 (Am h_2))) (fun h_3=>rfl))))) (fun h_1=>(bdt (fun h_2=>(btf h_1 rfl)) (fun h_2=>rfl))))
abbrev zbt2 (a:Int) (b:Int) (v:Int):Bool:=br (decide (v=0)) (br (decide (b=0)) (br (decide (a<=2147483647)) (!decide (b<=2147483647)) true) true) true
section
variable (c:Conf) (a b v:Int)
theorem Az2 (hc:c.ok=true) (ha:0<=a) (ha1:a<4294967296) (hb:0<=b) (hb1:b<4294967296):Ai zbt0 400 78 [c.av,(⟨5,a,b,v⟩:Opr).av] (fun w_=>Tr.ev (Ic (c) (⟨5,a,b,v⟩:Opr)) (fun l_=>seB.eq (I5 l_) w_) false) false=true:=Eq.trans (b:=(br (decide (a<=2147483647)) (br (decide (b=0)) (br (decide (v=0)) (br (decide (b=0)) (br (decide (a<=2147483647)) (br (decide (b<=2147483647)) (zbt1 v) (!decide (v=0))) (!decide (v=0))) (!decide (v=0))) (!decide (v=0))) (zbt2 a b v)) (zbt2 a b v))) (by kernel_rfl) (bdt (fun h_1=>(bdt (fun h_2=>(bdt (fun h_3=>(btb h_2 (btb h_1 (btb (Ddt (by have g0:=Odt h_2;omega)) (band h_3 rfl))))) (fun h_3=>(Am h_3)))) (fun h_2=>(bdt (fun h_3=>(btf h_2 rfl)) (fun h_3=>rfl))))) (fun h_1=>(bdt (fun h_2=>(bdt (fun h_3=>(btf h_1 rfl)) (fun h_3=>rfl))) (fun h_2=>rfl))))
theorem Az3 (hc:c.ok=true) (ha:0<=a) (ha1:a<4294967296) (hb:0<=b) (hb1:b<4294967296):Ai zbt0 400 78 [c.av,(⟨6,a,b,v⟩:Opr).av] (fun w_=>Tr.ev (Ic (c) (⟨6,a,b,v⟩:Opr)) (fun l_=>seB.eq (I5 l_) w_) false) false=true:=Eq.trans (b:=(br (decide (a<=2147483647)) (br (decide (b=0)) (br (decide (v=0)) (br (decide (b=0)) (br (decide (a<=2147483647)) (br (decide (b<=2147483647)) (zbt1 v) (!decide (v=0))) (!decide (v=0))) (!decide (v=0))) (!decide (v=0))) (zbt2 a b v)) (zbt2 a b v))) (by kernel_rfl) (bdt (fun h_1=>(bdt (fun h_2=>(bdt (fun h_3=>(btb h_2 (btb h_1 (btb (Ddt (by have g0:=Odt h_2;omega)) (band h_3 rfl))))) (fun h_3=>(Am h_3)))) (fun h_2=>(bdt (fun h_3=>(btf h_2 rfl)) (fun h_3=>rfl))))) (fun h_1=>(bdt (fun h_2=>(bdt (fun h_3=>(btf h_1 rfl)) (fun h_3=>rfl))) (fun h_2=>rfl))))
theorem Az4 (hc:c.ok=true) (ha:0<=a) (ha1:a<4294967296) (hb:0<=b) (hb1:b<4294967296):Ai zbt0 400 78 [c.av,(⟨7,a,b,v⟩:Opr).av] (fun w_=>Tr.ev (Ic (c) (⟨7,a,b,v⟩:Opr)) (fun l_=>seB.eq (I5 l_) w_) false) false=true:=Eq.trans (b:=(br (decide (a<=2147483647)) (br (decide (b=0)) (br (decide (v=0)) (br (decide (b=0)) (br (decide (a<=2147483647)) (br (decide (b<=2147483647)) (zbt1 v) (!decide (v=0))) (!decide (v=0))) (!decide (v=0))) (!decide (v=0))) (zbt2 a b v)) (zbt2 a b v))) (by kernel_rfl) (bdt (fun h_1=>(bdt (fun h_2=>(bdt (fun h_3=>(btb h_2 (btb h_1 (btb (Ddt (by have g0:=Odt h_2;omega)) (band h_3 rfl))))) (fun h_3=>(Am h_3)))) (fun h_2=>(bdt (fun h_3=>(btf h_2 rfl)) (fun h_3=>rfl))))) (fun h_1=>(bdt (fun h_2=>(bdt (fun h_3=>(btf h_1 rfl)) (fun h_3=>rfl))) (fun h_2=>rfl))))
theorem Az5 (hc:c.ok=true) (ha:0<=a) (ha1:a<4294967296) (hb:0<=b) (hb1:b<4294967296):Ai zbt0 400 78 [c.av,(⟨8,a,b,v⟩:Opr).av] (fun w_=>Tr.ev (Ic (c) (⟨8,a,b,v⟩:Opr)) (fun l_=>seB.eq (I5 l_) w_) false) false=true:=Eq.trans (b:=(br (decide (a<=2147483647)) (br (decide (b<=2147483647)) (br (decide (v=0)) (br (decide (a<=2147483647)) (br (decide (b<=2147483647)) (zbt1 v) (!decide (v=0))) (!decide (v=0))) (!decide (v=0))) (br (decide (v=0)) (br (decide (a<=2147483647)) (!decide (b<=2147483647)) true) true)) (br (decide (v=0)) (br (decide (a<=2147483647)) (!decide (b<=2147483647)) true) true))) (by kernel_rfl) (bdt (fun h_1=>(bdt (fun h_2=>(bdt (fun h_3=>(btb h_1 (btb h_2 (band h_3 rfl)))) (fun h_3=>(Am h_3)))) (fun h_2=>(bdt (fun h_3=>(btb h_1 (Am h_2))) (fun h_3=>rfl))))) (fun h_1=>(bdt (fun h_2=>(btf h_1 rfl)) (fun h_2=>rfl))))
end
abbrev zbt3 (a:Int) (b:Int) (v:Int):Bool:=br (decide (a<=65535)) (br (decide (b<=65535)) (ba (decide (v=2)) true) (!decide (v=2))) (!decide (v=2))
abbrev zbt4 (a:Int) (b:Int) (v:Int):Bool:=br (decide (v=1)) (br (decide (a<=65535)) (!decide (b<=65535)) true) (br (decide (v=2)) (br (decide (a<=65535)) (!decide (b<=65535)) true) true)
theorem Az6 (c:Conf) (a b v:Int) (hc:c.ok=true) (ha:0<=a) (ha1:a<4294967296) (hb:0<=b) (hb1:b<4294967296):Ai zbt0 400 78 [c.av,(⟨9,a,b,v⟩:Opr).av] (fun w_=>Tr.ev (Ic (c) (⟨9,a,b,v⟩:Opr)) (fun l_=>seB.eq (I5 l_) w_) false) false=true:=Eq.trans (b:=(br (decide (a<=65535)) (br (decide (b<=65535)) (br (decide (v=1)) (br (decide (v=1)) (ba (decide (a<=65535)) (ba (decide (b<=65535)) true)) (ba (decide (v=2)) (ba (decide (a<=65535)) (ba (decide (b<=65535)) true)))) (br (decide (v=1)) (zbt3 a b v) (br (decide (v=2)) (zbt3 a b v) (!decide (v=2))))) (zbt4 a b v)) (zbt4 a b v))) (by kernel_rfl) (bdt (fun h_1=>(bdt (fun h_2=>(bdt (fun h_3=>(btb h_3 (band h_1 (band h_2 rfl)))) (fun h_3=>(btf h_3 (bdt (fun h_4=>(btb h_1 (btb h_2 (band h_4 rfl)))) (fun h_4=>(Am h_4))))))) (fun h_2=>(bdt (fun h_3=>(btb h_1 (Am h_2))) (fun h_3=>(bdt (fun h_4=>(btb h_1 (Am h_2))) (fun h_4=>rfl))))))) (fun h_1=>(bdt (fun h_2=>(btf h_1 rfl)) (fun h_2=>(bdt (fun h_3=>(btf h_1 rfl)) (fun h_3=>rfl))))))
theorem Auk (c:Conf) (a b v:Int) (hc:c.ok=true) (ha:0<=a) (ha1:a<4294967296) (hb:0<=b) (hb1:b<4294967296):Ai zbt0 400 78 [c.av,(⟨10,a,b,v⟩:Opr).av] (fun w_=>Tr.ev (Ic (c) (⟨10,a,b,v⟩:Opr)) (fun l_=>seB.eq (I5 l_) w_) false) false=true:=Eq.trans (b:=(br (decide (a<=65535)) (br (decide (b<=65535)) (br (decide (v=0)) (br (decide (a<=65535)) (br (decide (b<=65535)) (zbt1 v) (!decide (v=0))) (!decide (v=0))) (!decide (v=0))) (br (decide (v=0)) (br (decide (a<=65535)) (!decide (b<=65535)) true) true)) (br (decide (v=0)) (br (decide (a<=65535)) (!decide (b<=65535)) true) true))) (by kernel_rfl) (bdt (fun h_1=>(bdt (fun h_2=>(bdt (fun h_3=>(btb h_1 (btb h_2 (band h_3 rfl)))) (fun h_3=>(Am h_3)))) (fun h_2=>(bdt (fun h_3=>(btb h_1 (Am h_2))) (fun h_3=>rfl))))) (fun h_1=>(bdt (fun h_2=>(btf h_1 rfl)) (fun h_2=>rfl))))
abbrev B1h (a:Int) (b:Int) (v:Int):Bool:=br (decide (v=0)) (br (decide ((IntKind.wrap .u32 (a-1))<65535)) (!decide ((IntKind.wrap .u32 (b-1))<65535)) true) true
section
variable (c:Conf) (a b v:Int)
theorem Aul (hc:c.ok=true) (ha:0<=a) (ha1:a<4294967296) (hb:0<=b) (hb1:b<4294967296):Ai zbt0 400 78 [c.av,(⟨11,a,b,v⟩:Opr).av] (fun w_=>Tr.ev (Ic (c) (⟨11,a,b,v⟩:Opr)) (fun l_=>seB.eq (I5 l_) w_) false) false=true:=Eq.trans (b:=(br (decide (a>=1)) (br (decide (a<=65535)) (br (decide (b>=1)) (br (decide (b<=65535)) (br (decide (v=0)) (br (decide ((IntKind.wrap .u32 (a-1))<65535)) (br (decide ((IntKind.wrap .u32 (b-1))<65535)) (zbt1 v) (!decide (v=0))) (!decide (v=0))) (!decide (v=0))) (B1h a b v)) (B1h a b v)) (B1h a b v)) (B1h a b v))) (by kernel_rfl) (bdt (fun h_1=>(bdt (fun h_2=>(bdt (fun h_3=>(bdt (fun h_4=>(bdt (fun h_5=>(btb ((Aem ha ha1).trans (by rw [h_1,h_2];rfl)) (btb ((Aem hb hb1).trans (by rw [h_3,h_4];rfl)) (band h_5 rfl)))) (fun h_5=>(Am h_5)))) (fun h_4=>(bdt (fun h_5=>(btb ((Aem ha ha1).trans (by rw [h_1,h_2];rfl)) (Am ((Aem hb hb1).trans (by rw [h_3,h_4];rfl))))) (fun h_5=>rfl))))) (fun h_3=>(bdt (fun h_4=>(btb ((Aem ha ha1).trans (by rw [h_1,h_2];rfl)) (Am ((Aem hb hb1).trans (by rw [h_3];rfl))))) (fun h_4=>rfl))))) (fun h_2=>(bdt (fun h_3=>(btf ((Aem ha ha1).trans (by rw [h_1,h_2];rfl)) rfl)) (fun h_3=>rfl))))) (fun h_1=>(bdt (fun h_2=>(btf ((Aem ha ha1).trans (by rw [h_1];rfl)) rfl)) (fun h_2=>rfl))))
theorem Aum (hc:c.ok=true) (ha:0<=a) (ha1:a<4294967296) (hb:0<=b) (hb1:b<4294967296):Ai zbt0 400 78 [c.av,(⟨12,a,b,v⟩:Opr).av] (fun w_=>Tr.ev (Ic (c) (⟨12,a,b,v⟩:Opr)) (fun l_=>seB.eq (I5 l_) w_) false) false=true:=Eq.trans (b:=(ba (decide (0<=a)&&decide (a<4294967296)) (br (Gv a b) (br (decide (v<=2147483647)) (br (Gv a b) (ba (decide (v<=2147483647)) true) (!decide (v<=2147483647))) (!decide (v<=2147483647))) (br (decide (v<=2147483647)) (!(Gv a b)) true)))) (by kernel_rfl) (band (a_p ha ha1) (bdt (fun h_1=>(bdt (fun h_2=>(btb h_1 (band h_2 rfl))) (fun h_2=>(Am h_2)))) (fun h_1=>(bdt (fun h_2=>(Am h_1)) (fun h_2=>rfl)))))
theorem Aun (hc:c.ok=true) (ha:0<=a) (ha1:a<4294967296) (hb:0<=b) (hb1:b<4294967296):Ai zbt0 400 78 [c.av,(⟨13,a,b,v⟩:Opr).av] (fun w_=>Tr.ev (Ic (c) (⟨13,a,b,v⟩:Opr)) (fun l_=>seB.eq (I5 l_) w_) false) false=true:=Eq.trans (b:=(ba (decide (0<=a)&&decide (a<4294967296)) (br (Gv a b) (br (decide (v=0)) (br (Gv a b) (zbt1 v) (!decide (v=0))) (!decide (v=0))) (br (decide (v=0)) (!(Gv a b)) true)))) (by kernel_rfl) (band (a_p ha ha1) (bdt (fun h_1=>(bdt (fun h_2=>(btb h_1 (band h_2 rfl))) (fun h_2=>(Am h_2)))) (fun h_1=>(bdt (fun h_2=>(Am h_1)) (fun h_2=>rfl)))))
theorem Auo (hc:c.ok=true) (ha:0<=a) (ha1:a<4294967296) (hb:0<=b) (hb1:b<4294967296):Ai zbt0 400 78 [c.av,(⟨14,a,b,v⟩:Opr).av] (fun w_=>Tr.ev (Ic (c) (⟨14,a,b,v⟩:Opr)) (fun l_=>seB.eq (I5 l_) w_) false) false=true:=Eq.trans (b:=(ba (decide (0<=a)&&decide (a<4294967296)) (br (Gv a b) (br (decide (v=0)) (br (Gv a b) (zbt1 v) (!decide (v=0))) (!decide (v=0))) (br (decide (v=0)) (!(Gv a b)) true)))) (by kernel_rfl) (band (a_p ha ha1) (bdt (fun h_1=>(bdt (fun h_2=>(btb h_1 (band h_2 rfl))) (fun h_2=>(Am h_2)))) (fun h_1=>(bdt (fun h_2=>(Am h_1)) (fun h_2=>rfl)))))
end
theorem Az7 (c:Conf) (o:Opr) (h:(c.ok&&(posR o&&(decide (1<=o.kind)&&decide (o.kind<=14))))=true):Ai zbt0 400 78 [c.av,o.av] (fun w_=>Tr.ev (Ic c o) (fun l_=>seB.eq (I5 l_) w_) false) false=true:=by
 have hc:=Aj h
 have q:=H8.1 (Aj (Af h))
 have k0:=Odt (Aj (Af (Af h)))
 have k1:=Odt (Af (Af (Af h)))
 obtain ⟨kind,a,b,v⟩:=o
 have ha:0<=a:=q.2.1
 have ha1:a<4294967296:=q.2.2.1
 have hb:0<=b:=q.1.2.2
 have hb1:b<4294967296:=q.2.2.2
 have k0:1<=kind:=k0
 have k1:kind<=14:=k1
 clear q h
 rcases (show kind=1\/kind=2\/kind=3\/kind=4\/kind=5\/kind=6\/kind=7\/kind=8\/kind=9\/kind=10\/kind=11\/kind=12\/kind=13\/kind=14 by omega) with rfl|rfl|rfl|rfl|rfl|rfl|rfl|rfl|rfl|rfl|rfl|rfl|rfl|rfl
 ·exact Azx c a b v hc ha ha1 hb hb1
 ·exact Azy c a b v hc ha ha1 hb hb1
 ·exact Azz c a b v hc ha ha1 hb hb1
 ·exact Az0 c a b v hc ha ha1 hb hb1
 ·exact Az2 c a b v hc ha ha1 hb hb1
 ·exact Az3 c a b v hc ha ha1 hb hb1
 ·exact Az4 c a b v hc ha ha1 hb hb1
 ·exact Az5 c a b v hc ha ha1 hb hb1
 ·exact Az6 c a b v hc ha ha1 hb hb1
 ·exact Auk c a b v hc ha ha1 hb hb1
 ·exact Aul c a b v hc ha ha1 hb hb1
 ·exact Aum c a b v hc ha ha1 hb hb1
 ·exact Aun c a b v hc ha ha1 hb hb1
 ·exact Auo c a b v hc ha ha1 hb hb1
theorem Bba:Bc Tryz.prog (Cb gs) Amu:=Cm fun c o h=>Aq base (Ah Blu (Ah Ba8 Ap)) (n:=400) fun k hk=>(Dh (Az7 c o h) (fun w_ hw=>(seB.ok _ _ ((Tr.merge (Ala c o) (P7 (H8.1 (Aj (Af h))).1.2.2 (fun _=>(Ab6 (Aj h)).1))).symm.trans hw))) k).trans hk
end
end Go.Bas.BasZRef5c
end
section
namespace Go.Bas.BasZRef5d
noncomputable section
open Go.RowKit Go.Proofs
open BasZBase BasZOp BasZOk BasZRef5 BasZRef5b BasZRef5c
theorem Blv {c:Conf} (h:(!c.ok)=true):(!decide (Az c=0))=true:=by
 have h:c.ok=false:=Oc h
 unfold Az
 rw [h]
 rfl
theorem Amv {c:Conf} (h:(!c.ok)=false):(!decide (Az c=0))=false:=by
 have h:c.ok=true:=Ar h
 unfold Az
 rw [h]
 rfl
theorem Blw {c:Conf} (h:(!c.ok)=true):decide (Az c=40)=true:=by
 have h:c.ok=false:=Oc h
 unfold Az
 rw [h]
 rfl
theorem Blx {c:Conf} (h:c.ok=true):1<=c.ob/\c.ob<=4:=by
 have h:=Hy.1 h
 simp only [Conf.OkP] at h
 omega
theorem Bbb {c:Conf} {o:Opr} (hc:c.ok=true) (h0:0<=o.kind) (h1:o.kind<=255) (h:(!decide (Be o.kind=c.ob))=false):1<=o.kind/\o.kind<=14:=by
 have h:Be o.kind=c.ob:=Odt (Ar h)
 have hp:=Blx hc
 by_cases hn:o.kind<15
 ·refine ⟨?_,by omega⟩
  by_cases hz:o.kind=0
  ·have t0:Be 0=0:=by kernel_rfl
   rw [hz,t0] at h;omega
  ·omega
 ·rw [Amt (by omega) h0 h1] at h
  omega
theorem Bly {c:Conf} {o:Opr} (hc:(!c.ok)=false) (hr:posR o=true) (h:(!decide (Be o.kind=c.ob))=false):(c.ok&&(posR o&&(decide (1<=o.kind)&&decide (o.kind<=14))))=true:=by
 have q:=H8.1 hr
 have k:=Bbb (Ar hc) q.1.1 q.1.2.1 h
 rw [Ar hc,hr,Ddt k.1,Ddt k.2]
 rfl
theorem obj_p {o:Opr} (hr:posR o=true):(decide (0<=o.kind)&&decide (o.kind<=255))=true:=by
 have q:=H8.1 hr
 rw [Ddt q.1.1,Ddt q.1.2.1]
 rfl
theorem Aup {o:Opr} (hr:posR o=true):Oe o.kind=true:=by
 have q:=H8.1 hr
 exact Vs q.1.1 q.1.2.1
theorem Aww {c:Conf} {o:Opr} (hc:(!c.ok)=false) (hr:posR o=true):Jo c o=true :=
 P7 (H8.1 hr).1.2.2 (fun _=>(Ab6 (Ar hc)).1)
def Sl:Sum:=(36,on2 Dp Ab2 (fun c o=>posR o) (fun c o=>.int .i64 (Ag c o)))
theorem Blz (c:Conf) (o:Opr) (hr:posR o=true):Ai (cfg [Ia,Aug,Amu]) 400 36 [c.av,o.av] (fun w_=>Tr.ev (Zx c o) (fun l_=>(seI .i64).eq (Auf l_) w_) false) false=true:=Eq.trans (b:=(br (!(Conf.ok c)) (br (!decide ((Az c)=0)) (ba (decide ((Az c)=40)) true) (ba (Oe o.1) (br (!decide ((Be o.1)=c.1)) false (ba (Jo c o) (ba (!(E9 c o)) false))))) (ba (decide (0<=o.1)&&decide (o.1<=255)) (br (!decide ((Be o.1)=c.1)) (br (!decide ((Az c)=0)) (ba (decide ((Az c)=50)) true) (ba (Oe o.1) (br (!decide ((Be o.1)=c.1)) true (ba (Jo c o) (ba (!(E9 c o)) false))))) (ba ((Conf.ok c)&&((BasZRef5b.posR o)&&(decide (1<=o.1)&&decide (o.1<=14)))) (br (!(E9 c o)) (br (!decide ((Az c)=0)) (ba (decide ((Az c)=10)) true) (ba (Oe o.1) (br (!decide ((Be o.1)=c.1)) false (ba (Jo c o) (ba (!(E9 c o)) true))))) (br (!decide ((Az c)=0)) (ba (decide ((Az c)=0)) true) (ba (Oe o.1) (br (!decide ((Be o.1)=c.1)) false (ba (Jo c o) (!(!(E9 c o))))))))))))) (by kernel_rfl) (bdt (fun h_1=>(btb (Blv h_1) (band (Blw h_1) rfl))) (fun h_1=>(band (obj_p hr) (bdt (fun h_2=>(btf (Amv h_1) (band (Aup hr) (btb h_2 rfl)))) (fun h_2=>(band (Bly h_1 hr h_2) (bdt (fun h_3=>(btf (Amv h_1) (band (Aup hr) (btf h_2 (band (Aww h_1 hr) (band h_3 rfl)))))) (fun h_3=>(btf (Amv h_1) (band (Aup hr) (btf h_2 (band (Aww h_1 hr) (Am h_3)))))))))))))
theorem A47 (c:Conf) (o:Opr) (h:posR o=true):Ai (cfg [Ia,Aug,Amu]) 400 36 [c.av,o.av] (fun w_=>Tr.ev (Zx c o) (fun l_=>(seI .i64).eq (Auf l_) w_) false) false=true:=Blz c o h
theorem Aau:Bc Tryz.prog (Cb gs) Sl:=Cm fun c o h=>Aq base (Ah Afz (Ah Blp (Ah Bba Ap))) (n:=400) fun k hk=>(Dh (A47 c o h) (fun w_ hw=>((seI .i64).ok _ _ ((Tr.merge (Aq4 c o) (Vt (H8.1 h).1.1 (H8.1 h).1.2.1 (H8.1 h).1.2.2)).symm.trans hw))) k).trans hk
end
end Go.Bas.BasZRef5d
end
section
namespace Go.Bas.BasZGate
noncomputable section
open Go.RowKit Go.Proofs
open BasZBase BasZOp
section
variable (a0:Int) (a1:Int) (a2:Int) (a3:Int) (a4:Int) (a5:Int) (a6:Int) (a7:Int)
abbrev lf0 (a8:Int) (a9:Int) (a10:Int):Tr:=.leaf [.int .u8 a0,.int .u32 a1,.int .u32 a2,.int .u8 a3,.int .u8 a4,.int .u8 a5,.int .u8 a6,.int .u8 a7,.int .u8 a8,.int .u32 a9,.int .u32 a10]
abbrev lf1:Tr:=.leaf [.int .u8 a0,.int .i64 a1,.int .u64 a2,.int .u64 a3,.int .u64 a4,.int .i64 a5,.int .u32 a6,.int .i64 a7]
end
abbrev Bu5:Tr:=.leaf [.bool false]
abbrev Bzh (c:Conf) (f:Frm):Tr:=.br (decide ((IntKind.wrap .i64 f.5)>=c.7)) Bu5 (.br (decide ((IntKind.wrap .i64 f.6)>=c.7)) Bu5 (.br (decide (f.9>1)) Bu5 (.br (decide (f.4=0)) (.leaf [.bool true]) (.br (decide (f.4=20)) (.leaf [.bool true]) (.br (decide (f.4=2)) (.leaf [.bool (!decide (f.1=11))]) (.br (decide (f.4=21)) (.leaf [.bool (decide (f.1=10))]) (.br (decide (f.4=22)) (.leaf [.bool (decide (f.1=9))]) Bu5)))))))
def Vu (c:Conf) (f:Frm):Tr:=(.br (decide (f.1=9)) (.br (D6 c (Opr.mk f.1 f.2 f.3 f.11)) (.br (!decide ((Ag c (Opr.mk f.1 f.2 f.3 f.11))=0)) Bu5 (Bzh c f)) .bad) (.br (D6 c (Opr.mk f.1 f.2 f.3 0)) (.br (!decide ((Ag c (Opr.mk f.1 f.2 f.3 0))=0)) Bu5 (Bzh c f)) .bad))
def Bbc:List CK:=[.b]
def Amx (l:List AV):AV:=lget l 0
def F9 (c:Conf) (f:Frm):Bool:=(Vu c f).bool 0
def Bl0 (c:Conf) (f:Frm):AV:=.bool (F9 c f)
def Af0 (c:Conf) (f:Frm):Bool:=(Vu c f).ok
def A49:Sum:=(298,on2 Dp Ji (fun c f=>Af0 c f) (fun c f=>Bl0 c f))
theorem Bl1 (c:Conf) (f:Frm) (k:AV->Bool):Ai (cfg [Aws]) 300 298 [c.av,f.av] k false=(Vu c f).ev (fun l=>k (Amx l)) false:=by kernel_rfl
theorem Alb (c:Conf) (f:Frm):(Vu c f).fits Bbc=true:=by kernel_rfl
theorem Bl2:Bc Tryz.prog (Cb gs) A49:=Cm fun c f hp=>Aq base (Ah Awt Ap) (n:=300) fun k hk=>(Bl1 c f k).trans ((Tr.merge (Alb c f) hp).trans hk)
def Aav (c:Conf) (f:Frm):Tr:=(.br (!decide ((Az c)=0)) (.leaf [.int .i64 40]) (.br (!decide (c.1=3)) (.leaf [.int .i64 40]) (.br (Af0 c f) (.br (!(F9 c f)) (.leaf [.int .i64 2]) (.leaf [.int .i64 0])) .bad)))
def Bbd:List CK:=[.i .i64]
def Bbe (l:List AV):AV:=lget l 0
def Gf (c:Conf) (f:Frm):Int:=(Aav c f).int 0
def Bl3 (c:Conf) (f:Frm):AV:=.int .i64 (Gf c f)
def Jd (c:Conf) (f:Frm):Bool:=(Aav c f).ok
def A5a:Sum:=(271,on2 Dp Ji (fun c f=>Jd c f) (fun c f=>Bl3 c f))
theorem Bl4 (c:Conf) (f:Frm) (k:AV->Bool):Ai (cfg [Bq,A49]) 300 271 [c.av,f.av] k false=(Aav c f).ev (fun l=>k (Bbe l)) false:=by kernel_rfl
theorem Az8 (c:Conf) (f:Frm):(Aav c f).fits Bbd=true:=by kernel_rfl
theorem Bl5:Bc Tryz.prog (Cb gs) A5a:=Cm fun c f hp=>Aq base (Ah Jn (Ah Bl2 Ap)) (n:=300) fun k hk=>(Bl4 c f k).trans ((Tr.merge (Az8 c f) hp).trans hk)
def G5 (c:Conf) (f:Frm):Tr:=(.br (Jd c f) (.br (!decide ((Gf c f)=0)) (lf1 0 0 0 0 0 0 0 (Gf c f)) (.br (decide (f.4=0)) (lf1 1 (IntKind.wrap .i64 f.5) 0 0 0 0 0 0) (.br (decide (f.4=2)) (.br (decide (f.1=9)) (lf1 2 (IntKind.wrap .i64 f.6) (IntKind.wrap .u64 f.11) (IntKind.wrap .u64 f.2) (IntKind.wrap .u64 f.3) 0 0 0) (lf1 2 (IntKind.wrap .i64 f.6) 0 0 0 0 0 0)) (.br (decide (f.4=20)) (lf1 4 0 0 0 0 0 f.10 0) (.br (decide (f.4=21)) (lf1 4 0 0 0 0 6 0 0) (.br (decide (f.4=22)) (lf1 4 0 0 0 0 9 0 0) (lf1 4 0 0 0 0 0 0 0))))))) .bad)
def A5b:List CK:=[.i .u8,.i .i64,.i .u64,.i .u64,.i .u64,.i .i64,.i .u32,.i .i64]
def A5c (l:List AV):AV:=.tup [.agg [lget l 0,lget l 1,lget l 2,lget l 3,lget l 4,lget l 5,lget l 6],lget l 7]
section
variable (c:Conf) (f:Frm)
def L9:Int:=(G5 c f).int 0
def Ii:Int:=(G5 c f).int 1
def Na:Int:=(G5 c f).int 2
def Nb:Int:=(G5 c f).int 3
def Nc:Int:=(G5 c f).int 4
def Nh:Int:=(G5 c f).int 5
def Nj:Int:=(G5 c f).int 6
def O5:Int:=(G5 c f).int 7
def Af1:AV:=.tup [.agg [.int .u8 (L9 c f),.int .i64 (Ii c f),.int .u64 (Na c f),.int .u64 (Nb c f),.int .u64 (Nc c f),.int .i64 (Nh c f),.int .u32 (Nj c f)],.int .i64 (O5 c f)]
def Ahh:Bool:=(G5 c f).ok
end
def Bbf:Sum:=(202,on2 Dp Ji (fun c f=>Ahh c f) (fun c f=>Af1 c f))
theorem Bbg (c:Conf) (f:Frm) (k:AV->Bool):Ai (cfg [A5a]) 400 202 [c.av,f.av] k false=(G5 c f).ev (fun l=>k (A5c l)) false:=by kernel_rfl
theorem Ahi (c:Conf) (f:Frm):(G5 c f).fits A5b=true:=by kernel_rfl
theorem Bbh:Bc Tryz.prog (Cb gs) Bbf:=Cm fun c f hp=>Aq base (Ah Bl5 Ap) (n:=400) fun k hk=>(Bbg c f k).trans ((Tr.merge (Ahi c f) hp).trans hk)
end
end Go.Bas.BasZGate
end
section
namespace Go.Bas
structure TRa where
 (f:Frm) (c:Conf) (us:List AV) (m:Nat) (rk rv:Int) (told:Bool)
def TRa.av (r:TRa):AV:=.iptr (r.f.cells ++ r.c.cells ++ [.lst r.us r.m,.int .u64 r.rk,.int .u64 r.rv,.bool r.told]) 0
def A5d:AV->Option TRa
 | .iptr [.int .u8 kind,.int .u32 a,.int .u32 b,.int .u8 pc,.int .u8 i,.int .u8 j,.int .u8 n,.int .u8 p,.int .u8 h,.int .u32 x,.int .u32 y,.int .u8 ob,.int .i64 ins,.int .i64 thr,.int .u8 ckind,.int .i64 str,.int .i64 bits,.int .i64 cap,.int .i64 node,.int .i64 batch,.int .i64 chunk,.int .u64 limit,.int .u64 most,.lst us m,.int .u64 rk,.int .u64 rv,.bool told] 0 =>
  some ⟨⟨kind,a,b,pc,i,j,n,p,h,x,y⟩,⟨ob,ins,thr,ckind,str,bits,cap,node,batch,chunk,limit,most⟩,us,m,rk,rv,told⟩
 | _=>none
theorem Auq {a:AV} {c:TRa} (h:A5d a=some c):a=c.av:=by
 unfold A5d at h
 split at h
 ·simp only [Option.some.injEq] at h
  subst h;rfl
 ·cases h
def Aq6:Rd TRa:=⟨A5d,TRa.av,fun _ _=>Auq⟩
def Ey (us:List AV) (m:Nat):Bool:=Nat.ble 1 m&&(Nat.ble m 5&&(Nat.beq us.length m&&us.all (AV.isI .i64)))
theorem Ahj {us:List AV} {m:Nat} (h:Ey us m=true):1<=m/\m<=5:=by
 unfold Ey at h
 simp only [Bae] at h
 exact ⟨Nlb h.1,Nlb h.2.1⟩
theorem Ls {v:AV} (h:v.isI .i64=true):v=.int .i64 v.toI:=AV.of_isI h
theorem Aur {us:List AV} {m:Nat} (h:Ey us m=true):(∃ a,us=[.int .i64 a]/\m=1)\/(∃ a b,us=[.int .i64 a,.int .i64 b]/\m=2)\/(∃ a b c,us=[.int .i64 a,.int .i64 b,.int .i64 c]/\m=3) \/
  (∃ a b c d,us=[.int .i64 a,.int .i64 b,.int .i64 c,.int .i64 d]/\m=4)\/(∃ a b c d e,us=[.int .i64 a,.int .i64 b,.int .i64 c,.int .i64 d,.int .i64 e]/\m=5):=by
 have hn:=Ahj h
 unfold Ey at h
 simp only [Bae] at h
 obtain ⟨_,_,h3,h4⟩:=h
 have h3:us.length=m:=Nat.eq_of_beq_eq_true h3
 match us,h3,h4 with
 | [],h3,_=>simp only [List.length_nil] at h3;omega
 | [a],h3,h4 =>
  simp only [List.all_cons,List.all_nil,Bool.and_true] at h4;exact .inl ⟨a.toI,by rw [<- Ls h4],h3.symm⟩
 | [a,b],h3,h4 =>
  simp only [List.all_cons,List.all_nil,Bool.and_true,Bae] at h4;exact .inr (.inl ⟨a.toI,b.toI,by rw [<- Ls h4.1,<- Ls h4.2],h3.symm⟩)
 | [a,b,c],h3,h4 =>
  simp only [List.all_cons,List.all_nil,Bool.and_true,Bae] at h4;exact .inr (.inr (.inl ⟨a.toI,b.toI,c.toI,by rw [<- Ls h4.1,<- Ls h4.2.1,<- Ls h4.2.2],h3.symm⟩))
 | [a,b,c,d],h3,h4 =>
  simp only [List.all_cons,List.all_nil,Bool.and_true,Bae] at h4;exact .inr (.inr (.inr (.inl ⟨a.toI,b.toI,c.toI,d.toI,by rw [<- Ls h4.1,<- Ls h4.2.1,<- Ls h4.2.2.1,<- Ls h4.2.2.2],h3.symm⟩)))
 | [a,b,c,d,e],h3,h4 =>
  simp only [List.all_cons,List.all_nil,Bool.and_true,Bae] at h4;exact .inr (.inr (.inr (.inr ⟨a.toI,b.toI,c.toI,d.toI,e.toI,by rw [<- Ls h4.1,<- Ls h4.2.1,<- Ls h4.2.2.1,<- Ls h4.2.2.2.1,<- Ls h4.2.2.2.2],h3.symm⟩)))
 | _::_::_::_::_::_::_,h3,_=>simp only [List.length_cons] at h3;omega
end Go.Bas
end
section
namespace Go.Bas.BasZRank
noncomputable section
open Go.RowKit Go.Proofs
open BasZBase
def Amy (n:Int) (l:Int) (w:Int):Tr:=(.br (decide (n>=l)) (.br (decide (n<=32)) (.br (decide (w>=2)) (.leaf [.bool (decide (w<=4))]) (.leaf [.bool false])) (.leaf [.bool false])) (.leaf [.bool false]))
def A5e:List CK:=[.b]
def A5f (l:List AV):AV:=lget l 0
def Bf (n:Int) (l:Int) (w:Int):Bool:=(Amy n l w).bool 0
def Bbi (n:Int) (l:Int) (w:Int):AV:=.bool (Bf n l w)
def Ab7:Sum:=(278,on3 (rI .i64) (rI .i64) (rI .i64) (fun n l w=>true) (fun n l w=>Bbi n l w))
theorem Bbj (n:Int) (l:Int) (w:Int) (k:AV->Bool):Ai (cfg []) 300 278 [.int .i64 n,.int .i64 l,.int .i64 w] k false=(Amy n l w).ev (fun l=>k (A5f l)) false:=by kernel_rfl
theorem Aus (n:Int) (l:Int) (w:Int):(Amy n l w).fits A5e=true:=by kernel_rfl
theorem Af2:Bc Tryz.prog (Cb gs) Ab7:=Hz fun n l w hp=>Aq base Ap (n:=300) fun k hk=>(Bbj n l w k).trans ((Tr.merge (Aus n l w) (Tr.ok_of_total (by kernel_rfl))).trans hk)
def Bbk (n:Int) (w:Int) (h:Int):Tr:=(.br (Ju (IntKind.wrap .i64 (w-2)) 3) (.br (Ju h 5) (.br (Nat.ble (((0+((Int.toNat (IntKind.wrap .i64 (w-2)))*5))+((Int.toNat h)*1))+1) 15) (.br (AV.isI .i64 (lget [.int .i64 1,.int .i64 2,.int .i64 4,.int .i64 8,.int .i64 16,.int .i64 1,.int .i64 3,.int .i64 9,.int .i64 27,.int .i64 81,.int .i64 1,.int .i64 4,.int .i64 16,.int .i64 64,.int .i64 256] ((0+((Int.toNat (IntKind.wrap .i64 (w-2)))*5))+((Int.toNat h)*1)))) (.br (decide ((AV.toI (lget [.int .i64 1,.int .i64 2,.int .i64 4,.int .i64 8,.int .i64 16,.int .i64 1,.int .i64 3,.int .i64 9,.int .i64 27,.int .i64 81,.int .i64 1,.int .i64 4,.int .i64 16,.int .i64 64,.int .i64 256] ((0+((Int.toNat (IntKind.wrap .i64 (w-2)))*5))+((Int.toNat h)*1))))=0)) .bad (.leaf [.int .i64 (IntKind.wrap .i64 (Int.tdiv (IntKind.wrap .i64 ((IntKind.wrap .i64 (n+(AV.toI (lget [.int .i64 1,.int .i64 2,.int .i64 4,.int .i64 8,.int .i64 16,.int .i64 1,.int .i64 3,.int .i64 9,.int .i64 27,.int .i64 81,.int .i64 1,.int .i64 4,.int .i64 16,.int .i64 64,.int .i64 256] ((0+((Int.toNat (IntKind.wrap .i64 (w-2)))*5))+((Int.toNat h)*1))))))-1)) (AV.toI (lget [.int .i64 1,.int .i64 2,.int .i64 4,.int .i64 8,.int .i64 16,.int .i64 1,.int .i64 3,.int .i64 9,.int .i64 27,.int .i64 81,.int .i64 1,.int .i64 4,.int .i64 16,.int .i64 64,.int .i64 256] ((0+((Int.toNat (IntKind.wrap .i64 (w-2)))*5))+((Int.toNat h)*1))))))])) .bad) .bad) .bad) .bad)
def ks_up:List CK:=[.i .i64]
def sh_up (l:List AV):AV:=lget l 0
def Aa (n:Int) (w:Int) (h:Int):Int:=(Bbk n w h).int 0
def o_up (n:Int) (w:Int) (h:Int):AV:=.int .i64 (Aa n w h)
def Dq (n:Int) (w:Int) (h:Int):Bool:=(Bbk n w h).ok
def A5g:Sum:=(279,on3 (rI .i64) (rI .i64) (rI .i64) (fun n w h=>Dq n w h) (fun n w h=>o_up n w h))
theorem t_up (n:Int) (w:Int) (h:Int) (k:AV->Bool):Ai (cfg []) 300 279 [.int .i64 n,.int .i64 w,.int .i64 h] k false=(Bbk n w h).ev (fun l=>k (sh_up l)) false:=by kernel_rfl
theorem Bbl (n:Int) (w:Int) (h:Int):(Bbk n w h).fits ks_up=true:=by kernel_rfl
theorem Bbm:Bc Tryz.prog (Cb gs) A5g:=Hz fun n w h hp=>Aq base Ap (n:=300) fun k hk=>(t_up n w h k).trans ((Tr.merge (Bbl n w h) hp).trans hk)
abbrev Bu6:Tr:=.leaf [.int .i64 0,.int .i64 2]
def Zd (n:Int) (w:Int) (h:Int):Tr:=(.br (!(Bf n 0 w)) Bu6 (.br (decide (h<0)) Bu6 (.br (decide (h>4)) Bu6 (.br (Dq n w h) (.leaf [.int .i64 (Aa n w h),.int .i64 0]) .bad))))
def A5h:List CK:=[.i .i64,.i .i64]
def A5i (l:List AV):AV:=.tup [lget l 0,lget l 1]
section
variable (n:Int) (w:Int)
def Dz (h:Int):Int:=(Zd n w h).int 0
def Az9 (h:Int):Int:=(Zd n w h).int 1
def Af3 (h:Int):AV:=.tup [.int .i64 (Dz n w h),.int .i64 (Az9 n w h)]
def Ahk (h:Int):Bool:=(Zd n w h).ok
end
def Awx:Sum:=(331,on3 (rI .i64) (rI .i64) (rI .i64) (fun n w h=>Ahk n w h) (fun n w h=>Af3 n w h))
theorem Bbn (n:Int) (w:Int) (h:Int) (k:AV->Bool):Ai (cfg [Ab7,A5g]) 300 331 [.int .i64 n,.int .i64 w,.int .i64 h] k false=(Zd n w h).ev (fun l=>k (A5i l)) false:=by kernel_rfl
theorem Aut (n:Int) (w:Int) (h:Int):(Zd n w h).fits A5h=true:=by kernel_rfl
theorem Bbo:Bc Tryz.prog (Cb gs) Awx:=Hz fun n w h hp=>Aq base (Ah Af2 (Ah Bbm Ap)) (n:=300) fun k hk=>(Bbn n w h k).trans ((Tr.merge (Aut n w h) hp).trans hk)
def Ahl (n:Int) (w:Int) (h:Int) (i:Int):Tr:=(.br (!(Bf n 1 w)) Bu6 (.br (decide (h<1)) Bu6 (.br (decide (h>4)) Bu6 (.br (decide (i<0)) Bu6 (.br (Dq n w h) (.br (decide (i>=(Aa n w h))) Bu6 (.br (Dq n w (IntKind.wrap .i64 (h-1))) (.leaf [.int .i64 (IntKind.wrap .i64 ((A9z (IntKind.wrap .i64 ((IntKind.wrap .i64 (i+1))*w)) (Aa n w (IntKind.wrap .i64 (h-1))))-1)),.int .i64 0]) .bad)) .bad)))))
def Bbp:List CK:=[.i .i64,.i .i64]
def Bbq (l:List AV):AV:=.tup [lget l 0,lget l 1]
section
variable (n:Int) (w:Int)
def P8 (h:Int) (i:Int):Int:=(Ahl n w h i).int 0
def P9 (h:Int) (i:Int):Int:=(Ahl n w h i).int 1
def Amz (h:Int) (i:Int):AV:=.tup [.int .i64 (P8 n w h i),.int .i64 (P9 n w h i)]
def Am0 (h:Int) (i:Int):Bool:=(Ahl n w h i).ok
end
def S_last:Sum:=(313,on4 (rI .i64) (rI .i64) (rI .i64) (rI .i64) (fun n w h i=>Am0 n w h i) (fun n w h i=>Amz n w h i))
theorem t_last (n:Int) (w:Int) (h:Int) (i:Int) (k:AV->Bool):Ai (cfg [Ab7,A5g]) 300 313 [.int .i64 n,.int .i64 w,.int .i64 h,.int .i64 i] k false=(Ahl n w h i).ev (fun l=>k (Bbq l)) false:=by kernel_rfl
theorem A0a (n:Int) (w:Int) (h:Int) (i:Int):(Ahl n w h i).fits Bbp=true:=by kernel_rfl
theorem s_last:Bc Tryz.prog (Cb gs) S_last:=Awq fun n w h i hp=>Aq base (Ah Af2 (Ah Bbm Ap)) (n:=300) fun k hk=>(t_last n w h i k).trans ((Tr.merge (A0a n w h i) hp).trans hk)
abbrev Bu7 (c:Conf):Tr:=.leaf [.int .i64 (IntKind.wrap .i64 ((IntKind.wrap .i64 ((IntKind.wrap .i64 ((IntKind.wrap .i64 ((IntKind.wrap .i64 (1+(Aa c.7 c.8 0)))+(Aa c.7 c.8 1)))+(Aa c.7 c.8 2)))+(Aa c.7 c.8 3)))+(Aa c.7 c.8 4)))]
def Ir (c:Conf):Tr:=(.br (decide (c.1=1)) (.br (decide (c.6<0)) .bad (.leaf [.int .i64 (Gz .i64 2 c.6)])) (.br (decide (c.1=2)) (.br (!(Bf c.7 1 c.8)) (.leaf [.int .i64 1]) (.br (Dq c.7 c.8 0) (.br (decide ((Aa c.7 c.8 0)<=c.8)) (.leaf [.int .i64 (IntKind.wrap .i64 (1+(Aa c.7 c.8 0)))]) (.br (Dq c.7 c.8 1) (.br (decide ((Aa c.7 c.8 1)<=c.8)) (.leaf [.int .i64 (IntKind.wrap .i64 ((IntKind.wrap .i64 (1+(Aa c.7 c.8 0)))+(Aa c.7 c.8 1)))]) (.br (Dq c.7 c.8 2) (.br (decide ((Aa c.7 c.8 2)<=c.8)) (.leaf [.int .i64 (IntKind.wrap .i64 ((IntKind.wrap .i64 ((IntKind.wrap .i64 (1+(Aa c.7 c.8 0)))+(Aa c.7 c.8 1)))+(Aa c.7 c.8 2)))]) (.br (Dq c.7 c.8 3) (.br (decide ((Aa c.7 c.8 3)<=c.8)) (.leaf [.int .i64 (IntKind.wrap .i64 ((IntKind.wrap .i64 ((IntKind.wrap .i64 ((IntKind.wrap .i64 (1+(Aa c.7 c.8 0)))+(Aa c.7 c.8 1)))+(Aa c.7 c.8 2)))+(Aa c.7 c.8 3)))]) (.br (Dq c.7 c.8 4) (.br (decide ((Aa c.7 c.8 4)<=c.8)) (Bu7 c) (Bu7 c)) .bad)) .bad)) .bad)) .bad)) .bad)) (.leaf [.int .i64 c.7])))
def Bbr:List CK:=[.i .i64]
def Bbs (l:List AV):AV:=lget l 0
def f_size_0 (c:Conf):Int:=(Ir c).int 0
def Bl6 (c:Conf):AV:=.int .i64 (f_size_0 c)
def Af4 (c:Conf):Bool:=(Ir c).ok
def S_size:Sum:=(143,on1 Dp (fun c=>Af4 c) (fun c=>Bl6 c))
theorem t_size (c:Conf) (k:AV->Bool):Ai (cfg [Ab7,A5g]) 300 143 [c.av] k false=(Ir c).ev (fun l=>k (Bbs l)) false:=by kernel_rfl
theorem O6 (c:Conf):(Ir c).fits Bbr=true:=by kernel_rfl
theorem s_size:Bc Tryz.prog (Cb gs) S_size:=Fg fun c hp=>Aq base (Ah Af2 (Ah Bbm Ap)) (n:=300) fun k hk=>(t_size c k).trans ((Tr.merge (O6 c) hp).trans hk)
end
end Go.Bas.BasZRank
end
section
namespace Go.Bas.BasZLev
noncomputable section
open Go.RowKit Go.Proofs
open BasZBase BasZRank
theorem A5j (n w:Int) (k:AV->Bool):Ai (cfg [Ab7,A5g]) 300 207 [.int .i64 n,.int .i64 w] k false=(bif (!(Bf n 1 w)) then (k (AV.tup [AV.nils,.int .i64 2])) else ((Dq n w 0)&&(bif decide ((Aa n w 0)<=w) then (k (AV.tup [.lst [.int .i64 (Aa n w 0)] 1,.int .i64 0])) else ((Dq n w 1)&&(bif decide ((Aa n w 1)<=w) then (k (AV.tup [.lst [.int .i64 (Aa n w 0),.int .i64 (Aa n w 1)] 2,.int .i64 0])) else ((Dq n w 2)&&(bif decide ((Aa n w 2)<=w) then (k (AV.tup [.lst [.int .i64 (Aa n w 0),.int .i64 (Aa n w 1),.int .i64 (Aa n w 2)] 3,.int .i64 0])) else ((Dq n w 3)&&(bif decide ((Aa n w 3)<=w) then (k (AV.tup [.lst [.int .i64 (Aa n w 0),.int .i64 (Aa n w 1),.int .i64 (Aa n w 2),.int .i64 (Aa n w 3)] 4,.int .i64 0])) else ((Dq n w 4)&&(bif decide ((Aa n w 4)<=w) then (k (AV.tup [.lst [.int .i64 (Aa n w 0),.int .i64 (Aa n w 1),.int .i64 (Aa n w 2),.int .i64 (Aa n w 3),.int .i64 (Aa n w 4)] 5,.int .i64 0])) else (k (AV.tup [.lst [.int .i64 (Aa n w 0),.int .i64 (Aa n w 1),.int .i64 (Aa n w 2),.int .i64 (Aa n w 3),.int .i64 (Aa n w 4)] 5,.int .i64 0]))))))))))))):=by kernel_rfl
def levIs (n w:Int) (m:Nat):Bool:=(bif (!(Bf n 1 w)) then false else (Dq n w 0&&(bif decide (Aa n w 0<=w) then Nat.beq m 1 else (Dq n w 1&&(bif decide (Aa n w 1<=w) then Nat.beq m 2 else (Dq n w 2&&(bif decide (Aa n w 2<=w) then Nat.beq m 3 else (Dq n w 3&&(bif decide (Aa n w 3<=w) then Nat.beq m 4 else (Dq n w 4&&(bif decide (Aa n w 4<=w) then Nat.beq m 5 else Nat.beq m 5)))))))))))
def Bbt (n w:Int) (k:AV->Bool):Bool:=(bif (!(Bf n 1 w)) then k (.tup [.nils,.int .i64 2]) else (Dq n w 0&&(bif decide (Aa n w 0<=w) then k (.tup [.lst [.int .i64 (Aa n w 0)] 1,.int .i64 0]) else (Dq n w 1&&(bif decide (Aa n w 1<=w) then k (.tup [.lst [.int .i64 (Aa n w 0),.int .i64 (Aa n w 1)] 2,.int .i64 0]) else (Dq n w 2&&(bif decide (Aa n w 2<=w) then k (.tup [.lst [.int .i64 (Aa n w 0),.int .i64 (Aa n w 1),.int .i64 (Aa n w 2)] 3,.int .i64 0]) else (Dq n w 3&&(bif decide (Aa n w 3<=w) then k (.tup [.lst [.int .i64 (Aa n w 0),.int .i64 (Aa n w 1),.int .i64 (Aa n w 2),.int .i64 (Aa n w 3)] 4,.int .i64 0]) else (Dq n w 4&&(bif decide (Aa n w 4<=w) then k (.tup [.lst [.int .i64 (Aa n w 0),.int .i64 (Aa n w 1),.int .i64 (Aa n w 2),.int .i64 (Aa n w 3),.int .i64 (Aa n w 4)] 5,.int .i64 0]) else k (.tup [.lst [.int .i64 (Aa n w 0),.int .i64 (Aa n w 1),.int .i64 (Aa n w 2),.int .i64 (Aa n w 3),.int .i64 (Aa n w 4)] 5,.int .i64 0]))))))))))))
def Bbu (n w:Int) (m:Nat):AV:=.tup [.lst ((List.range m).map fun (i:Nat)=>AV.int .i64 (Aa n w (i:Int))) m,.int .i64 0]
theorem Ze {m L:Nat} {k:AV->Bool} {n w:Int} {v:AV} (h:Bbu n w L=v) (hm:Nat.beq m L=true) (hk:k (Bbu n w m)=true):k v=true:=by
 have:=Nat.eq_of_beq_eq_true hm
 subst this
 rw [<- h];exact hk
theorem Alc {b x y x' y':Bool} (h1:x=true->x'=true) (h2:y=true->y'=true) (h:(bif b then x else y)=true):(bif b then x' else y')=true:=by
 cases b
 ·exact h2 h
 ·exact h1 h
theorem Ahm {b y y':Bool} (h2:y=true->y'=true) (h:(b&&y)=true):(b&&y')=true:=by
 cases b
 ·exact h
 ·exact h2 h
theorem Auu {n w:Int} {m:Nat} {k:AV->Bool} (hp:levIs n w m=true) (hk:k (Bbu n w m)=true):Bbt n w k=true :=
 Alc (fun h=>Bool.noConfusion h) (Ahm (Alc (fun h=>Ze (L:=1) rfl h hk) (Ahm (Alc (fun h=>Ze (L:=2) rfl h hk) (Ahm (Alc (fun h=>Ze (L:=3) rfl h hk) (Ahm (Alc (fun h=>Ze (L:=4) rfl h hk) (Ahm (Alc (fun h=>Ze (L:=5) rfl h hk) (fun h=>Ze (L:=5) rfl h hk))))))))))) hp
theorem Auv {n w:Int} {m:Nat} (hp:levIs n w m=true):ACalls Tryz.prog (Cb gs) 207 [.int .i64 n,.int .i64 w] (fun v=>v=Bbu n w m) :=
 Aq base (Ah Af2 (Ah Bbm Ap)) (n:=300) fun k hk=>(A5j n w k).trans (Auu hp hk)
end
end Go.Bas.BasZLev
end
section
namespace Go.Bas.BasZRank3
noncomputable section
open Go.RowKit Go.Proofs BasZBase BasZRank BasZLev
theorem Ahn (n l w:Int):Bf n l w=(decide (n>=l)&&(decide (n<=32)&&(decide (w>=2)&&decide (w<=4)))):=by
 show (bif decide (n>=l) then bif decide (n<=32) then bif decide (w>=2) then decide (w<=4) else false else false else false)=_
 cases decide (n>=l)<;>cases decide (n<=32)<;>cases decide (w>=2)<;>rfl
theorem Gg {n l w:Int} (h:Bf n l w=true):l<=n/\n<=32/\2<=w/\w<=4:=by
 rw [Ahn] at h
 simp only [Bae,Dte] at h
 omega
theorem E8 {n w h:Int} (hw:2<=w/\w<=4) (hh:0<=h/\h<=4):Dq n w h=true:=by
 rcases (show w=2\/w=3\/w=4 by omega) with rfl|rfl|rfl<;>rcases (show h=0\/h=1\/h=2\/h=3\/h=4 by omega) with rfl|rfl|rfl|rfl|rfl<;>kernel_rfl
theorem A0b {n w h:Int} (hw:2<=w/\w<=4) (hh:1<=h/\h<=4):Dq n w (IntKind.wrap .i64 (h-1))=true:=by
 rcases (show w=2\/w=3\/w=4 by omega) with rfl|rfl|rfl<;>rcases (show h=1\/h=2\/h=3\/h=4 by omega) with rfl|rfl|rfl|rfl<;>kernel_rfl
theorem Am1 (n w h:Int):Ahk n w h=true:=by
 show (bif !(Bf n 0 w) then true else bif decide (h<0) then true else bif decide (h>4) then true else bif Dq n w h then true else false)=true
 cases hw:Bf n 0 w with
 | false=>rfl
 | true =>
  have:=Gg hw
  by_cases h0:h<0
  ·rw [Ddt h0];rfl
  ·by_cases h4:h>4
   ·rw [Ddf h0,Ddt h4];rfl
   ·rw [Ddf h0,Ddf h4,E8 (by omega) (by omega)];rfl
theorem Aq8 (n w h i:Int):Am0 n w h i=true:=by
 show (bif !(Bf n 1 w) then true else bif decide (h<1) then true else bif decide (h>4) then true else bif decide (i<0) then true else
  bif Dq n w h then bif decide (i>=Aa n w h) then true else bif Dq n w (IntKind.wrap .i64 (h-1)) then true else false else false)=true
 cases hw:Bf n 1 w with
 | false=>rfl
 | true =>
  have:=Gg hw
  by_cases h0:h<1
  ·rw [Ddt h0];rfl
  ·by_cases h4:h>4
   ·rw [Ddf h0,Ddt h4];rfl
   ·rw [Ddf h0,Ddf h4,E8 (by omega) (by omega),A0b (by omega) (by omega)]
    cases decide (i<0)<;>cases decide (i>=Aa n w h)<;>rfl
def Bih:Sum:=(331,on3 (rI .i64) (rI .i64) (rI .i64) (fun _ _ _=>true) (fun n w h=>Af3 n w h))
theorem s_cnt:Bc Tryz.prog (Cb gs) Bih:=fun args r hr=>by
 have e:Awx.2 args=some (true,r):=by
  have h2:on3 (rI .i64) (rI .i64) (rI .i64) (fun n w h=>Ahk n w h) (fun n w h=>Af3 n w h) args=on3 (rI .i64) (rI .i64) (rI .i64) (fun _ _ _=>true) (fun n w h=>Af3 n w h) args:=by
   congr 1
   funext n w h
   exact Am1 n w h
  exact h2.trans hr
 exact Bbo args r e
def Ald:Sum:=(313,on4 (rI .i64) (rI .i64) (rI .i64) (rI .i64) (fun _ _ _ _=>true) (fun n w h i=>Amz n w h i))
theorem s_lst:Bc Tryz.prog (Cb gs) Ald:=fun args r hr=>by
 have e:BasZRank.S_last.2 args=some (true,r):=by
  have h2:on4 (rI .i64) (rI .i64) (rI .i64) (rI .i64) (fun n w h i=>Am0 n w h i) (fun n w h i=>Amz n w h i) args=on4 (rI .i64) (rI .i64) (rI .i64) (rI .i64) (fun _ _ _ _=>true) (fun n w h i=>Amz n w h i) args:=by
   congr 1
   funext n w h i
   exact Aq8 n w h i
  exact h2.trans hr
 exact BasZRank.s_last args r e
theorem Ab8 {n w:Int} (hw:Bf n 1 w=true):levIs n w 1=true\/levIs n w 2=true\/levIs n w 3=true\/levIs n w 4=true\/levIs n w 5=true:=by
 have h:=Gg hw
 have h2:2<=w/\w<=4:=by omega
 unfold levIs
 rw [hw,E8 h2 (h:=0) (by omega),E8 h2 (h:=1) (by omega),E8 h2 (h:=2) (by omega),E8 h2 (h:=3) (by omega),E8 h2 (h:=4) (by omega)]
 cases decide (Aa n w 0<=w)<;>cases decide (Aa n w 1<=w)<;>cases decide (Aa n w 2<=w)<;>cases decide (Aa n w 3<=w)<;>cases decide (Aa n w 4<=w)<;>simp
end
end Go.Bas.BasZRank3
end
section
namespace Go.Bas
theorem A5k {a b:Bool} (h:(bif a then b else true)=true) (ha:a=true):b=true:=by
 cases ha
 exact h
theorem nn {a:Bool} (h:a=true):(!a)=false:=by rw [h];rfl
theorem nf {a:Bool} (h:(!a)=false):a=true:=by
 cases a
 ·cases h
 ·rfl
theorem Ab9 {P:Program} {G:Nat->Option (List AV)} {f:FuncId} {α:Type} {a:Rd α} {p p':α->Bool} {g g':α->AV} (hp:∀ x,p x=true->p' x=true/\g x=g' x) (hs:Bc P G (f,on1 a p' g')):Bc P G (f,on1 a p g):=fun args r hr=>by
 refine hs args r ?_
 simp only at hr ⊢
 unfold on1 at hr ⊢
 split at hr
 ·split at hr
  ·rename_i x hx
   simp only [Option.some.injEq,Prod.mk.injEq] at hr;obtain ⟨h1,h2⟩:=hr;obtain ⟨q1,q2⟩:=hp x h1;simp only [hx,q1,<- q2,h2]
  ·cases hr
 ·cases hr
theorem Je {P:Program} {G:Nat->Option (List AV)} {f:FuncId} {α β:Type} {a:Rd α} {b:Rd β} {p p':α->β->Bool} {g g':α->β->AV} (hp:∀ x y,p x y=true->p' x y=true/\g x y=g' x y) (hs:Bc P G (f,on2 a b p' g')):Bc P G (f,on2 a b p g):=fun args r hr=>by
 refine hs args r ?_
 simp only at hr ⊢
 unfold on2 at hr ⊢
 split at hr
 ·split at hr
  ·rename_i x y hx hy
   simp only [Option.some.injEq,Prod.mk.injEq] at hr;obtain ⟨h1,h2⟩:=hr;obtain ⟨q1,q2⟩:=hp x y h1;simp only [hx,hy,q1,<- q2,h2]
  ·cases hr
 ·cases hr
end Go.Bas
namespace Go.Bas.BasZTreB
open Go.RowKit Go.Proofs BasZBase BasZRank BasZLev BasZRank3 BasZOk
def inPc (pc:Int):Bool:=decide (pc=0) || decide (pc=1) || decide (pc=3) || decide (pc=4) || decide (pc=5) || decide (pc=6) || decide (pc=7) || decide (pc=8) || decide (pc=9) || decide (pc=11) || decide (pc=12) || decide (pc=13) || decide (pc=14) || decide (pc=15) || decide (pc=16) || decide (pc=17) || decide (pc=20) || decide (pc=21) || decide (pc=22) || decide (pc=23) || decide (pc=24) || decide (pc=25)
theorem Auw {pc:Int} (h:inPc pc=true):pc=0\/pc=1\/pc=3\/pc=4\/pc=5\/pc=6\/pc=7\/pc=8\/pc=9\/pc=11\/pc=12\/pc=13\/pc=14\/pc=15\/pc=16\/pc=17\/pc=20\/pc=21\/pc=22\/pc=23\/pc=24\/pc=25:=by
 unfold inPc at h
 simp only [Bool.or_eq_true,Dte] at h
 omega
def upK (pc kind:Int):Bool:=bif (decide (pc=8) || decide (pc=11)) then (decide (kind=4) || decide (kind=5)) else (bif decide (pc=12) then decide (kind=5) else true)
noncomputable def lvN (n w:Int):Nat:=bif levIs n w 1 then 1 else bif levIs n w 2 then 2 else bif levIs n w 3 then 3 else bif levIs n w 4 then 4 else 5
noncomputable def lvL (n w:Int):List AV:=(List.range (lvN n w)).map fun (i:Nat)=>AV.int .i64 (Aa n w (i:Int))
theorem X3 {n w:Int} (hw:Bf n 1 w=true):levIs n w (lvN n w)=true/\1<=lvN n w/\lvN n w<=5:=by
 unfold lvN
 rcases Ab8 hw with h|h|h|h|h
 ·rw [h];exact ⟨h,Nlb rfl,Nlb rfl⟩
 ·cases h1:levIs n w 1 with
  | true=>exact ⟨h1,Nlb rfl,Nlb rfl⟩
  | false=>rw [h];exact ⟨h,Nlb rfl,Nlb rfl⟩
 ·cases h1:levIs n w 1 with
  | true=>exact ⟨h1,Nlb rfl,Nlb rfl⟩
  | false =>
   cases h2:levIs n w 2 with
   | true=>exact ⟨h2,Nlb rfl,Nlb rfl⟩
   | false=>rw [h];exact ⟨h,Nlb rfl,Nlb rfl⟩
 ·cases h1:levIs n w 1 with
  | true=>exact ⟨h1,Nlb rfl,Nlb rfl⟩
  | false =>
   cases h2:levIs n w 2 with
   | true=>exact ⟨h2,Nlb rfl,Nlb rfl⟩
   | false =>
    cases h3:levIs n w 3 with
    | true=>exact ⟨h3,Nlb rfl,Nlb rfl⟩
    | false=>rw [h];exact ⟨h,Nlb rfl,Nlb rfl⟩
 ·cases h1:levIs n w 1 with
  | true=>exact ⟨h1,Nlb rfl,Nlb rfl⟩
  | false =>
   cases h2:levIs n w 2 with
   | true=>exact ⟨h2,Nlb rfl,Nlb rfl⟩
   | false =>
    cases h3:levIs n w 3 with
    | true=>exact ⟨h3,Nlb rfl,Nlb rfl⟩
    | false =>
     cases h4:levIs n w 4 with
     | true=>exact ⟨h4,Nlb rfl,Nlb rfl⟩
     | false=>exact ⟨h,Nlb rfl,Nlb rfl⟩
theorem H6 {n w:Int} (hw:Bf n 1 w=true):Ey (lvL n w) (lvN n w)=true:=by
 obtain ⟨_,h1,h2⟩:=X3 hw
 unfold Ey lvL
 simp only [Bae]
 refine ⟨Nat.ble_eq_true_of_le h1,Nat.ble_eq_true_of_le h2,?_,?_⟩
 ·simp
 ·rw [List.all_eq_true]
  intro v hv;obtain ⟨i,_,rfl⟩:=List.mem_map.1 hv;rfl
noncomputable def Vw:Sum:=(207,on2 (rI .i64) (rI .i64) (fun n w=>Bf n 1 w) (fun n w=>.tup [.lst (lvL n w) (lvN n w),.int .i64 0]))
theorem A5l:Bc Tryz.prog (Cb gs) Vw:=Cm fun n w hp=>Auv (X3 hp).1
theorem Ky {c:Conf} (he:decide (Az c=0)=true) (ho:decide (c.ob=2)=true):Bf c.cap 1 c.node=true:=by
 have h:=Hy.1 (Og (Odt he))
 have ho:=Odt ho
 simp only [Conf.OkP] at h
 rw [Ahn]
 simp only [Bae,Dte]
 omega
noncomputable def mkr (c:Conf) (f:Frm):TRa:=⟨f,c,lvL c.cap c.node,lvN c.cap c.node,0,0,false⟩
end Go.Bas.BasZTreB
end
