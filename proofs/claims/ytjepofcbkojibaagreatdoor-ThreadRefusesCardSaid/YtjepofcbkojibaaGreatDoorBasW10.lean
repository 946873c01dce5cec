/- How great an object is, of a config that may be; and the contract of 'At' with it; Contracts with no law of their own: operations, and frames' starts; Operations' checks answer always, where kinds and numbers are such asv their types have; Contracts by a run's outcome: indicators: arriving, departing, looks; The engine, part Tv: the program of an index, behind a pointer, its levels asv they are; Contracts: levels of an index, asv a list of known length; Counts of an index's levels answer always; and its levels are one to five; What the texts on an index's program have in common. -/
import Derived.Test.YtjepofcbkojibaaGreatDoorBasW6
import Derived.Test.YtjepofcbkojibaaGreatDoorBasW8
import Derived.Test.YtjepofcbkojibaaGreatDoorBasW9
set_option maxRecDepth 100000
set_option maxHeartbeats 4000000
set_option linter.unusedVariables false
set_option linter.unusedSimpArgs false
section
namespace Go.Bas.BasZRank2
noncomputable section
open Go.RowKit Go.Proofs BasZBase BasZRank BasZAt BasZAt2 BasZAt3 BasZAt4
def chkSz (c : Conf) : Bool := ok_size c && (decide (0 <= f_size_0 c) && decide (f_size_0 c <= 200))
theorem tab2 : ((List.range 33).all fun n => (List.range 5).all fun w => !(Nat.ble 1 n && Nat.ble 2 w) || chkSz ⟨2, 0, 0, 0, 0, 0, (n : Int), (w : Int), 0, 0, 0, 0⟩) = true := by kernel_rfl
theorem tab1 : ((List.range 7).all fun n => chkSz ⟨1, 0, 0, 0, 0, (n : Int), 0, 0, 0, 0, 0, 0⟩) = true := by kernel_rfl
theorem size_chk (c : Conf) (h : c.ok = true) : chkSz c = true := by
 have hO := ok_true.1 h
 clear h
 obtain ⟨ob, ins, thr, kind, str, bits, cap, node, batch, chunk, limit, most⟩ := c
 simp only [Conf.OkP] at hO
 rcases (show ob = 1 \/ ob = 2 \/ (ob = 3 \/ ob = 4) by omega) with rfl | rfl | ho
 ·have hb : 1 <= bits /\ bits <= 6 := by omega
  have := List.all_eq_true.1 tab1 bits.toNat (List.mem_range.2 (by omega))
  rw [show ((bits.toNat : Nat) : Int) = bits by omega] at this
  exact this
 ·have hc : 1 <= cap /\ cap <= 32 := by omega
  have hn : 2 <= node /\ node <= 4 := by omega
  have := List.all_eq_true.1 (List.all_eq_true.1 tab2 cap.toNat (List.mem_range.2 (by omega))) node.toNat (List.mem_range.2 (by omega))
  rw [show ((cap.toNat : Nat) : Int) = cap by omega, show ((node.toNat : Nat) : Int) = node by omega] at this
  have e1 : Nat.ble 1 cap.toNat = true := Nat.ble_eq_true_of_le (by omega)
  have e2 : Nat.ble 2 node.toNat = true := Nat.ble_eq_true_of_le (by omega)
  rw [e1, e2] at this; simp only [Bool.and_self, Bool.not_true, Bool.false_or] at this; exact this
 ·have hc : 1 <= cap /\ cap <= 32 := by omega
  have e : chkSz ⟨ob, ins, thr, kind, str, bits, cap, node, batch, chunk, limit, most⟩ = (decide (0 <= cap) && decide (cap <= 200)) := by
   rcases ho with rfl | rfl
   ·kernel_rfl
   ·kernel_rfl
  rw [e]; simp only [Bool.and_eq_true, decide_eq_true_eq]; omega
theorem size_ok (c : Conf) (h : c.ok = true) : ok_size c = true /\ 0 <= f_size_0 c /\ f_size_0 c <= 200 := by
 have := size_chk c h
 simp only [chkSz, Bool.and_eq_true, decide_eq_true_eq] at this
 exact this
def S_at : Sum := (40, on2 rConf rPlc (fun _ _ => true) (fun c p => .tup [.int .i64 (atN (f_size_0 c) c p), .int .i64 (atE (f_size_0 c) c p)]))
theorem s_at : SumOk Tryz.prog (gmap gs) S_at := at_sum (sz := f_size_0) (pr := ok_size) s_size (fun c h => (size_ok c h).1) (fun c h => (size_ok c h).2)
end
end Go.Bas.BasZRank2
end
section
namespace Go.Bas.BasZOp
noncomputable section
open Go.RowKit Go.Proofs
open BasZBase
def T_obj (n : Int) : Tr := (.br (decide ((IntKind.wrap .i64 n) >= 15)) (.leaf [.int .u8 0]) (.br (inside n 15) (.br (Nat.ble ((0 + ((Int.toNat n) * 1)) + 1) 15) (.br (AV.isI .u8 (lget [.int .u8 0, .int .u8 1, .int .u8 1, .int .u8 1, .int .u8 2, .int .u8 2, .int .u8 2, .int .u8 2, .int .u8 2, .int .u8 3, .int .u8 3, .int .u8 3, .int .u8 4, .int .u8 4, .int .u8 4] (0 + ((Int.toNat n) * 1)))) (.leaf [.int .u8 (AV.toI (lget [.int .u8 0, .int .u8 1, .int .u8 1, .int .u8 1, .int .u8 2, .int .u8 2, .int .u8 2, .int .u8 2, .int .u8 2, .int .u8 3, .int .u8 3, .int .u8 3, .int .u8 4, .int .u8 4, .int .u8 4] (0 + ((Int.toNat n) * 1))))]) .bad) .bad) .bad))
def ks_obj : List CK := [.i .u8]
def sh_obj (l : List AV) : AV := lget l 0
def f_obj_0 (n : Int) : Int := (T_obj n).int 0
def o_obj (n : Int) : AV := .int .u8 (f_obj_0 n)
def ok_obj (n : Int) : Bool := (T_obj n).ok
def S_obj : Sum := (74, on1 (rI .u8) (fun n => ok_obj n) (fun n => o_obj n))
theorem t_obj (n : Int) (k : AV -> Bool) : runF (cfg []) 300 74 [.int .u8 n] k false = (T_obj n).ev (fun l => k (sh_obj l)) false := by kernel_rfl
theorem fits_obj (n : Int) : (T_obj n).fits ks_obj = true := by kernel_rfl
theorem s_obj : SumOk Tryz.prog (gmap gs) S_obj := on1_sum fun n hp => acalls_eq base sums_nil (n := 300) fun k hk => (t_obj n k).trans ((Tr.merge (fits_obj n) hp).trans hk)
abbrev zcb0 := AV.bool Bool.false
abbrev zcb1 := AV.bool Bool.true
abbrev zcb2 : Tr := .leaf [.bool Bool.false]
def T_wr (n : Int) : Tr := (.br (decide ((IntKind.wrap .i64 n) < 15)) (.br (inside n 15) (.br (Nat.ble ((0 + ((Int.toNat n) * 1)) + 1) 15) (.br (AV.isB (lget [zcb0, zcb1, zcb1, zcb0, zcb1, zcb1, zcb0, zcb0, zcb0, zcb1, zcb1, zcb0, zcb1, zcb1, zcb0] (0 + ((Int.toNat n) * 1)))) (.leaf [.bool (AV.toB (lget [zcb0, zcb1, zcb1, zcb0, zcb1, zcb1, zcb0, zcb0, zcb0, zcb1, zcb1, zcb0, zcb1, zcb1, zcb0] (0 + ((Int.toNat n) * 1))))]) .bad) .bad) .bad) zcb2)
def ks_wr : List CK := [.b]
def sh_wr (l : List AV) : AV := lget l 0
def f_wr_0 (n : Int) : Bool := (T_wr n).bool 0
def o_wr (n : Int) : AV := .bool (f_wr_0 n)
def ok_wr (n : Int) : Bool := (T_wr n).ok
def S_wr : Sum := (34, on1 (rI .u8) (fun n => ok_wr n) (fun n => o_wr n))
theorem t_wr (n : Int) (k : AV -> Bool) : runF (cfg []) 300 34 [.int .u8 n] k false = (T_wr n).ev (fun l => k (sh_wr l)) false := by kernel_rfl
theorem fits_wr (n : Int) : (T_wr n).fits ks_wr = true := by kernel_rfl
theorem s_wr : SumOk Tryz.prog (gmap gs) S_wr := on1_sum fun n hp => acalls_eq base sums_nil (n := 300) fun k hk => (t_wr n k).trans ((Tr.merge (fits_wr n) hp).trans hk)
def T_path (a : Int) (b : Int) : Tr := (.br (!decide ((iand .u32 a 65535) = 0)) (.br (!decide ((ishr .u32 a 16) = 0)) (.leaf [.bool (decide (b <= 65535))]) (.br (decide (b = 0)) (.leaf [.bool (decide (b <= 65535))]) zcb2)) zcb2)
def ks_path : List CK := [.b]
def sh_path (l : List AV) : AV := lget l 0
def f_path_0 (a : Int) (b : Int) : Bool := (T_path a b).bool 0
def o_path (a : Int) (b : Int) : AV := .bool (f_path_0 a b)
def S_path : Sum := (136, on2 (rI .u32) (rI .u32) (fun a b => true) (fun a b => o_path a b))
theorem t_path (a : Int) (b : Int) (k : AV -> Bool) : runF (cfg []) 300 136 [.int .u32 a, .int .u32 b] k false = (T_path a b).ev (fun l => k (sh_path l)) false := by kernel_rfl
theorem fits_path (a : Int) (b : Int) : (T_path a b).fits ks_path = true := by kernel_rfl
theorem s_path : SumOk Tryz.prog (gmap gs) S_path := on2_sum fun a b hp => acalls_eq base sums_nil (n := 300) fun k hk => (t_path a b k).trans ((Tr.merge (fits_path a b) (Tr.ok_of_total (by kernel_rfl))).trans hk)
def T_start (o : Opr) : Tr := (.leaf [.int .u8 o.1, .int .u32 o.2, .int .u32 o.3, .int .u8 0, .int .u8 0, .int .u8 0, .int .u8 0, .int .u8 0, .int .u8 0, .int .u32 0, .int .u32 o.4])
def ks_start : List CK := [.i .u8, .i .u32, .i .u32, .i .u8, .i .u8, .i .u8, .i .u8, .i .u8, .i .u8, .i .u32, .i .u32]
def sh_start (l : List AV) : AV := .agg [lget l 0, lget l 1, lget l 2, lget l 3, lget l 4, lget l 5, lget l 6, lget l 7, lget l 8, lget l 9, lget l 10]
section
variable (o : Opr)
def f_start_0 : Int := (T_start o).int 0
def f_start_1 : Int := (T_start o).int 1
def f_start_2 : Int := (T_start o).int 2
def f_start_3 : Int := (T_start o).int 3
def f_start_4 : Int := (T_start o).int 4
def f_start_5 : Int := (T_start o).int 5
def f_start_6 : Int := (T_start o).int 6
def f_start_7 : Int := (T_start o).int 7
def f_start_8 : Int := (T_start o).int 8
def f_start_9 : Int := (T_start o).int 9
def f_start_10 : Int := (T_start o).int 10
def o_start : AV := .agg [.int .u8 (f_start_0 o), .int .u32 (f_start_1 o), .int .u32 (f_start_2 o), .int .u8 (f_start_3 o), .int .u8 (f_start_4 o), .int .u8 (f_start_5 o), .int .u8 (f_start_6 o), .int .u8 (f_start_7 o), .int .u8 (f_start_8 o), .int .u32 (f_start_9 o), .int .u32 (f_start_10 o)]
end
def S_start : Sum := (35, on1 rOpr (fun o => true) (fun o => o_start o))
theorem t_start (o : Opr) (k : AV -> Bool) : runF (cfg []) 300 35 [o.av] k false = (T_start o).ev (fun l => k (sh_start l)) false := by kernel_rfl
theorem fits_start (o : Opr) : (T_start o).fits ks_start = true := by kernel_rfl
theorem s_start : SumOk Tryz.prog (gmap gs) S_start := on1_sum fun o hp => acalls_eq base sums_nil (n := 300) fun k hk => (t_start o k).trans ((Tr.merge (fits_start o) (Tr.ok_of_total (by kernel_rfl))).trans hk)
def T_opof (l : Cel) : Tr := (.leaf [.int .u64 l.1, .int .u8 (IntKind.wrap .u8 (iand .u64 (ishr .u64 l.2 0) 255)), .int .u32 (IntKind.wrap .u32 (iand .u64 (ishr .u64 l.2 8) 4294967295)), .int .u32 (IntKind.wrap .u32 l.3), .int .u32 (IntKind.wrap .u32 l.4)])
def ks_opof : List CK := [.i .u64, .i .u8, .i .u32, .i .u32, .i .u32]
def sh_opof (l : List AV) : AV := .tup [lget l 0, .agg [lget l 1, lget l 2, lget l 3, lget l 4]]
def f_opof_0 (l : Cel) : Int := (T_opof l).int 0
def f_opof_1 (l : Cel) : Int := (T_opof l).int 1
def f_opof_2 (l : Cel) : Int := (T_opof l).int 2
def f_opof_3 (l : Cel) : Int := (T_opof l).int 3
def f_opof_4 (l : Cel) : Int := (T_opof l).int 4
def o_opof (l : Cel) : AV := .tup [.int .u64 (f_opof_0 l), .agg [.int .u8 (f_opof_1 l), .int .u32 (f_opof_2 l), .int .u32 (f_opof_3 l), .int .u32 (f_opof_4 l)]]
def S_opof : Sum := (231, on1 rCel (fun l => true) (fun l => o_opof l))
theorem t_opof (l : Cel) (k : AV -> Bool) : runF (cfg []) 400 231 [l.av] k false = (T_opof l).ev (fun l => k (sh_opof l)) false := by kernel_rfl
theorem fits_opof (l : Cel) : (T_opof l).fits ks_opof = true := by kernel_rfl
theorem s_opof : SumOk Tryz.prog (gmap gs) S_opof := on1_sum fun l hp => acalls_eq base sums_nil (n := 400) fun k hk => (t_opof l k).trans ((Tr.merge (fits_opof l) (Tr.ok_of_total (by kernel_rfl))).trans hk)
abbrev zcb3 (o : Opr) (s : Int) : Tr := .leaf [.int .u64 s, .int .u64 0, .int .u64 (IntKind.wrap .u64 o.3), .int .u64 (IntKind.wrap .u64 o.4)]
def T_oplaid (s : Int) (o : Opr) : Tr := (.br (decide ((IntKind.wrap .u64 o.1) > 255)) (.br (decide ((IntKind.wrap .u64 o.2) > 4294967295)) (zcb3 o s) (zcb3 o s)) (.br (decide ((IntKind.wrap .u64 o.2) > 4294967295)) (zcb3 o s) (.leaf [.int .u64 s, .int .u64 (ior .u64 (iandNot .u64 (ior .u64 0 (ishl .u64 (IntKind.wrap .u64 o.1) 0)) 1099511627520) (ishl .u64 (IntKind.wrap .u64 o.2) 8)), .int .u64 (IntKind.wrap .u64 o.3), .int .u64 (IntKind.wrap .u64 o.4)])))
def ks_oplaid : List CK := [.i .u64, .i .u64, .i .u64, .i .u64]
def sh_oplaid (l : List AV) : AV := .agg [lget l 0, lget l 1, lget l 2, lget l 3]
section
variable (s : Int) (o : Opr)
def f_oplaid_0 : Int := (T_oplaid s o).int 0
def f_oplaid_1 : Int := (T_oplaid s o).int 1
def f_oplaid_2 : Int := (T_oplaid s o).int 2
def f_oplaid_3 : Int := (T_oplaid s o).int 3
def o_oplaid : AV := .agg [.int .u64 (f_oplaid_0 s o), .int .u64 (f_oplaid_1 s o), .int .u64 (f_oplaid_2 s o), .int .u64 (f_oplaid_3 s o)]
end
def S_oplaid : Sum := (104, on2 (rI .u64) rOpr (fun s o => true) (fun s o => o_oplaid s o))
theorem t_oplaid (s : Int) (o : Opr) (k : AV -> Bool) : runF (cfg []) 400 104 [.int .u64 s, o.av] k false = (T_oplaid s o).ev (fun l => k (sh_oplaid l)) false := by kernel_rfl
theorem fits_oplaid (s : Int) (o : Opr) : (T_oplaid s o).fits ks_oplaid = true := by kernel_rfl
theorem s_oplaid : SumOk Tryz.prog (gmap gs) S_oplaid := on2_sum fun s o hp => acalls_eq base sums_nil (n := 400) fun k hk => (t_oplaid s o k).trans ((Tr.merge (fits_oplaid s o) (Tr.ok_of_total (by kernel_rfl))).trans hk)
def T_regof (l : Cel) : Tr := (.leaf [.int .u64 l.1, .int .u8 (IntKind.wrap .u8 (iand .u64 (ishr .u64 l.2 0) 31)), .int .u8 (IntKind.wrap .u8 (iand .u64 (ishr .u64 l.2 5) 127)), .int .u8 (IntKind.wrap .u8 (iand .u64 (ishr .u64 l.2 12) 15)), .int .u32 (IntKind.wrap .u32 (iand .u64 (ishr .u64 l.3 0) 4294967295)), .int .u32 (IntKind.wrap .u32 (iand .u64 (ishr .u64 l.3 32) 4294967295)), .int .u8 (IntKind.wrap .u8 (iand .u64 (ishr .u64 l.2 16) 31)), .int .u8 (IntKind.wrap .u8 (iand .u64 (ishr .u64 l.2 21) 127)), .int .u8 (IntKind.wrap .u8 (iand .u64 (ishr .u64 l.2 28) 127)), .int .u8 (IntKind.wrap .u8 (iand .u64 (ishr .u64 l.2 35) 63)), .int .u8 (IntKind.wrap .u8 (iand .u64 (ishr .u64 l.2 41) 63)), .int .u8 (IntKind.wrap .u8 (iand .u64 (ishr .u64 l.2 47) 7)), .int .u32 (IntKind.wrap .u32 (iand .u64 (ishr .u64 l.4 0) 4294967295)), .int .u32 (IntKind.wrap .u32 (iand .u64 (ishr .u64 l.4 32) 4294967295))])
def ks_regof : List CK := [.i .u64, .i .u8, .i .u8, .i .u8, .i .u32, .i .u32, .i .u8, .i .u8, .i .u8, .i .u8, .i .u8, .i .u8, .i .u32, .i .u32]
def sh_regof (l : List AV) : AV := .agg [lget l 0, lget l 1, lget l 2, lget l 3, lget l 4, lget l 5, lget l 6, lget l 7, lget l 8, lget l 9, lget l 10, lget l 11, lget l 12, lget l 13]
section
variable (l : Cel)
def f_regof_0 : Int := (T_regof l).int 0
def f_regof_1 : Int := (T_regof l).int 1
def f_regof_2 : Int := (T_regof l).int 2
def f_regof_3 : Int := (T_regof l).int 3
def f_regof_4 : Int := (T_regof l).int 4
def f_regof_5 : Int := (T_regof l).int 5
def f_regof_6 : Int := (T_regof l).int 6
def f_regof_7 : Int := (T_regof l).int 7
def f_regof_8 : Int := (T_regof l).int 8
def f_regof_9 : Int := (T_regof l).int 9
def f_regof_10 : Int := (T_regof l).int 10
def f_regof_11 : Int := (T_regof l).int 11
def f_regof_12 : Int := (T_regof l).int 12
def f_regof_13 : Int := (T_regof l).int 13
def o_regof : AV := .agg [.int .u64 (f_regof_0 l), .int .u8 (f_regof_1 l), .int .u8 (f_regof_2 l), .int .u8 (f_regof_3 l), .int .u32 (f_regof_4 l), .int .u32 (f_regof_5 l), .int .u8 (f_regof_6 l), .int .u8 (f_regof_7 l), .int .u8 (f_regof_8 l), .int .u8 (f_regof_9 l), .int .u8 (f_regof_10 l), .int .u8 (f_regof_11 l), .int .u32 (f_regof_12 l), .int .u32 (f_regof_13 l)]
end
def S_regof : Sum := (90, on1 rCel (fun l => true) (fun l => o_regof l))
theorem t_regof (l : Cel) (k : AV -> Bool) : runF (cfg []) 600 90 [l.av] k false = (T_regof l).ev (fun l => k (sh_regof l)) false := by kernel_rfl
theorem fits_regof (l : Cel) : (T_regof l).fits ks_regof = true := by kernel_rfl
theorem s_regof : SumOk Tryz.prog (gmap gs) S_regof := on1_sum fun l hp => acalls_eq base sums_nil (n := 600) fun k hk => (t_regof l k).trans ((Tr.merge (fits_regof l) (Tr.ok_of_total (by kernel_rfl))).trans hk)
abbrev zcb4 (c : Conf) (o : Opr) : Tr := .br (decide (o.3 <= (IntKind.wrap .u32 c.6))) (.br (decide (o.3 < 0)) .bad (.leaf [.bool (decide (o.2 < (ishl .u32 1 o.3)))])) zcb2
abbrev zcb5 (o : Opr) : Tr := .br (decide (o.4 = 0)) (.br (decide (o.3 = 0)) (.br (decide (o.2 <= 2147483647)) (.leaf [.bool (decide (o.3 <= 2147483647))]) zcb2) zcb2) zcb2
abbrev zcb6 (o : Opr) : Tr := .br (decide (o.4 = 0)) (.br (decide (o.2 <= 2147483647)) (.leaf [.bool (decide (o.3 <= 2147483647))]) zcb2) zcb2
abbrev zcb7 (o : Opr) : Tr := .br (decide (o.2 <= 65535)) (.leaf [.bool (decide (o.3 <= 65535))]) zcb2
def T_fits (c : Conf) (o : Opr) : Tr := (.br (decide (o.1 = 1)) (.br (decide (o.4 <= 2147483647)) (zcb4 c o) zcb2) (.br (decide (o.1 = 2)) (.br (decide (o.4 = 0)) (zcb4 c o) zcb2) (.br (decide (o.1 = 3)) (.br (decide (o.4 = 0)) (.br (decide (o.3 = 0)) (.br (decide (c.6 < 0)) .bad (.leaf [.bool (decide (o.2 < (ishl .u32 1 c.6)))])) zcb2) zcb2) (.br (decide (o.1 = 5)) (zcb5 o) (.br (decide (o.1 = 6)) (zcb5 o) (.br (decide (o.1 = 7)) (zcb5 o) (.br (decide (o.1 = 4)) (zcb6 o) (.br (decide (o.1 = 8)) (zcb6 o) (.br (decide (o.1 = 11)) (.br (decide (o.4 = 0)) (.br (decide ((IntKind.wrap .u32 (o.2 - 1)) < 65535)) (.leaf [.bool (decide ((IntKind.wrap .u32 (o.3 - 1)) < 65535))]) zcb2) zcb2) (.br (decide (o.1 = 9)) (.br (decide (o.4 = 1)) (zcb7 o) (.br (decide (o.4 = 2)) (zcb7 o) zcb2)) (.br (decide (o.1 = 10)) (.br (decide (o.4 = 0)) (zcb7 o) zcb2) (.br (decide (o.1 = 12)) (.br (decide (o.4 <= 2147483647)) (.leaf [.bool (f_path_0 o.2 o.3)]) zcb2) (.br (decide (o.4 = 0)) (.leaf [.bool (f_path_0 o.2 o.3)]) zcb2)))))))))))))
def ks_fits : List CK := [.b]
def sh_fits (l : List AV) : AV := lget l 0
def f_fits_0 (c : Conf) (o : Opr) : Bool := (T_fits c o).bool 0
def o_fits (c : Conf) (o : Opr) : AV := .bool (f_fits_0 c o)
def ok_fits (c : Conf) (o : Opr) : Bool := (T_fits c o).ok
def S_fits : Sum := (75, on2 rConf rOpr (fun c o => ok_fits c o) (fun c o => o_fits c o))
theorem t_fits (c : Conf) (o : Opr) (k : AV -> Bool) : runF (cfg [S_path]) 300 75 [c.av, o.av] k false = (T_fits c o).ev (fun l => k (sh_fits l)) false := by kernel_rfl
theorem fits_fits (c : Conf) (o : Opr) : (T_fits c o).fits ks_fits = true := by kernel_rfl
theorem s_fits : SumOk Tryz.prog (gmap gs) S_fits := on2_sum fun c o hp => acalls_eq base (sums_cons s_path sums_nil) (n := 300) fun k hk => (t_fits c o k).trans ((Tr.merge (fits_fits c o) hp).trans hk)
def T_opc (c : Conf) (o : Opr) : Tr := (.br (!decide ((errC c) = 0)) (.leaf [.int .i64 (errC c)]) (.br (ok_obj o.1) (.br (!decide ((f_obj_0 o.1) = c.1)) (.leaf [.int .i64 50]) (.br (ok_fits c o) (.br (!(f_fits_0 c o)) (.leaf [.int .i64 10]) (.leaf [.int .i64 0])) .bad)) .bad))
def ks_opc : List CK := [.i .i64]
def sh_opc (l : List AV) : AV := lget l 0
def f_opc_0 (c : Conf) (o : Opr) : Int := (T_opc c o).int 0
def o_opc (c : Conf) (o : Opr) : AV := .int .i64 (f_opc_0 c o)
def ok_opc (c : Conf) (o : Opr) : Bool := (T_opc c o).ok
def S_opc : Sum := (33, on2 rConf rOpr (fun c o => ok_opc c o) (fun c o => o_opc c o))
theorem t_opc (c : Conf) (o : Opr) (k : AV -> Bool) : runF (cfg [S_check, S_obj, S_fits]) 300 33 [c.av, o.av] k false = (T_opc c o).ev (fun l => k (sh_opc l)) false := by kernel_rfl
theorem fits_opc (c : Conf) (o : Opr) : (T_opc c o).fits ks_opc = true := by kernel_rfl
theorem s_opc : SumOk Tryz.prog (gmap gs) S_opc := on2_sum fun c o hp => acalls_eq base (sums_cons s_check (sums_cons s_obj (sums_cons s_fits sums_nil))) (n := 300) fun k hk => (t_opc c o k).trans ((Tr.merge (fits_opc c o) hp).trans hk)
end
end Go.Bas.BasZOp
end
section
namespace Go.Bas
theorem okbr {b : Bool} {x y : Tr} (hx : b = true -> x.ok = true) (hy : b = false -> y.ok = true) : (Tr.br b x y).ok = true := by
 cases b
 ·exact hy rfl
 ·exact hx rfl
theorem okleaf {l : List AV} : (Tr.leaf l).ok = true := rfl
end Go.Bas
namespace Go.Bas.BasZOk
open Go.RowKit Go.Proofs BasZBase BasZOp
theorem of_errC {c : Conf} (h : errC c = 0) : c.ok = true := by
 unfold errC at h
 cases ho : c.ok with
 | true => rfl
 | false => rw [ho] at h; cases h
theorem i64_small {n : Int} (h0 : 0 <= n) (h1 : n <= 255) : IntKind.wrap .i64 n = n := wrap_eq (by simp [Lit.wf, IntKind.min, IntKind.max, IntKind.signed, IntKind.bits]; omega)
theorem lt15 {n : Int} (h0 : 0 <= n) (h1 : n < 15) : n = 0 \/ n = 1 \/ n = 2 \/ n = 3 \/ n = 4 \/ n = 5 \/ n = 6 \/ n = 7 \/ n = 8 \/ n = 9 \/ n = 10 \/ n = 11 \/ n = 12 \/ n = 13 \/ n = 14 := by omega
theorem ok_obj_pos {n : Int} (h0 : 0 <= n) (h1 : n <= 255) : ok_obj n = true := by
 by_cases h : n < 15
 ·rcases lt15 h0 h with rfl | rfl | rfl | rfl | rfl | rfl | rfl | rfl | rfl | rfl | rfl | rfl | rfl | rfl | rfl <;> kernel_rfl
 ·have e : decide (IntKind.wrap .i64 n >= 15) = true := by rw [i64_small h0 h1]; exact decide_eq_true (by omega)
  unfold ok_obj T_obj; rw [e]; rfl
theorem ok_wr_pos {n : Int} (h0 : 0 <= n) (h1 : n <= 255) : ok_wr n = true := by
 by_cases h : n < 15
 ·rcases lt15 h0 h with rfl | rfl | rfl | rfl | rfl | rfl | rfl | rfl | rfl | rfl | rfl | rfl | rfl | rfl | rfl <;> kernel_rfl
 ·have e : decide (IntKind.wrap .i64 n < 15) = false := by rw [i64_small h0 h1]; exact decide_eq_false (by omega)
  unfold ok_wr T_wr; rw [e]; rfl
theorem ok_fits_pos {c : Conf} {o : Opr} (hb : 0 <= o.b) (hc : o.kind = 3 -> 0 <= c.bits) : ok_fits c o = true := by
 unfold ok_fits T_fits
 try simp only [zcb0, zcb1, zcb2, zcb3, zcb4, zcb5, zcb6, zcb7]
 repeat' (first | exact okleaf | refine okbr (fun h => ?_) (fun h => ?_))
 all_goals
  exfalso
  simp only [decide_eq_true_eq, decide_eq_false_iff_not] at *; omega
theorem obj_3 : f_obj_0 3 = 1 := by kernel_rfl
theorem ok_opc_pos {c : Conf} {o : Opr} (h0 : 0 <= o.kind) (h1 : o.kind <= 255) (hb : 0 <= o.b) : ok_opc c o = true := by
 unfold ok_opc T_opc
 try simp only [zcb0, zcb1, zcb2, zcb3, zcb4, zcb5, zcb6, zcb7]
 refine okbr (fun h => okleaf) (fun he => ?_)
 rw [ok_obj_pos h0 h1]
 refine okbr (fun _ => ?_) (fun h => by cases h)
 refine okbr (fun h => okleaf) (fun hk => ?_)
 have he : errC c = 0 := by simpa using he
 have hk : f_obj_0 o.kind = c.ob := by simpa using hk
 have hO := ok_true.1 (of_errC he)
 simp only [Conf.OkP] at hO
 rw [ok_fits_pos hb (fun h3 => by rw [h3, obj_3] at hk; omega)]
 refine okbr (fun _ => okbr (fun h => okleaf) (fun h => okleaf)) (fun h => by cases h)
noncomputable def posO (o : Opr) : Bool := decide (0 <= o.kind) && (decide (o.kind <= 255) && decide (0 <= o.b))
noncomputable def S_opp : Sum := (33, on2 rConf rOpr (fun c o => posO o) (fun c o => o_opc c o))
theorem s_opp : SumOk Tryz.prog (gmap gs) S_opp := on2_sum fun c o hp => by
 unfold posO at hp
 simp only [Bool.and_eq_true, decide_eq_true_eq] at hp
 have h := s_opc [c.av, o.av] (o_opc c o) (by
  show on2 rConf rOpr (fun c o => ok_opc c o) (fun c o => o_opc c o) [c.av, o.av] = _
  show some (ok_opc c o, o_opc c o) = _; rw [ok_opc_pos hp.1 hp.2.1 hp.2.2])
 exact h
noncomputable def posW (n : Int) : Bool := decide (0 <= n) && decide (n <= 255)
noncomputable def S_wrp : Sum := (34, on1 (rI .u8) (fun n => posW n) (fun n => o_wr n))
theorem s_wrp : SumOk Tryz.prog (gmap gs) S_wrp := on1_sum fun n hp => by
 unfold posW at hp
 simp only [Bool.and_eq_true, decide_eq_true_eq] at hp
 have h := s_wr [.int .u8 n] (o_wr n) (by
  show some (ok_wr n, o_wr n) = _; rw [ok_wr_pos hp.1 hp.2])
 exact h
noncomputable def posF (f : Frm) : Bool := decide (0 <= f.kind) && (decide (f.kind <= 255) && (decide (0 <= f.b) && (decide (0 <= f.h) && (decide (f.h <= 255) && decide (f.b <= 4294967295)))))
theorem posF_true {f : Frm} : posF f = true ↔ 0 <= f.kind /\ f.kind <= 255 /\ 0 <= f.b /\ 0 <= f.h /\ f.h <= 255 /\ f.b <= 4294967295 := by
 unfold posF
 simp only [Bool.and_eq_true, decide_eq_true_eq]
end Go.Bas.BasZOk
end
section
namespace Go.Bas.BasZSign
noncomputable section
open Go.RowKit Go.Proofs
open BasZBase BasZRank BasZRank2 BasZOk
theorem okP {c : Conf} (he : decide (errC c = 0) = true) : c.ok = true := of_errC (of_decide_eq_true he)
theorem errT {c : Conf} (h : (!decide (errC c = 0)) = false) : decide (errC c = 0) = true := by simpa using h
theorem str_pos {c : Conf} (he : decide (errC c = 0) = true) (hk : decide (c.kind = 1) = false) : 1 <= c.str /\ c.str <= 4 := by
 have h := ok_true.1 (okP he)
 have hk := of_decide_eq_false hk
 simp only [Conf.OkP] at h
 omega
theorem str_ne {c : Conf} (he : decide (errC c = 0) = true) (hk : decide (c.kind = 1) = false) : decide (c.str = 0) = false := decide_eq_false (by have := str_pos he hk; omega)
theorem str_14 {c : Conf} (he : decide (errC c = 0) = true) (hk : decide (c.kind = 1) = false) : (decide (1 <= c.str) && decide (c.str <= 4)) = true := by
 have := str_pos he hk
 rw [decide_eq_true this.1, decide_eq_true this.2]
 rfl
def sp_sarr : Sp := sT [sG [sI .u8, sI .i64, sI .u64, sI .u64, sI .u64, sI .u64, sI .u64, sI .u64, sI .u64, sI .u64], sI .i64]
section
variable (c : Conf) (v : Int) (t : Int)
def out_sarr : AV := outV (cfg [S_check, S_at]) 400 41 [c.av, .int .i64 v, .int .i64 t]
def f_sarr_0 : Int := AV.toI (AV.ix (AV.ix (out_sarr c v t) 0) 0)
def f_sarr_1 : Int := AV.toI (AV.ix (AV.ix (out_sarr c v t) 0) 1)
def f_sarr_2 : Int := AV.toI (AV.ix (AV.ix (out_sarr c v t) 0) 2)
def f_sarr_3 : Int := AV.toI (AV.ix (AV.ix (out_sarr c v t) 0) 3)
def f_sarr_4 : Int := AV.toI (AV.ix (AV.ix (out_sarr c v t) 0) 4)
def f_sarr_5 : Int := AV.toI (AV.ix (AV.ix (out_sarr c v t) 0) 5)
def f_sarr_6 : Int := AV.toI (AV.ix (AV.ix (out_sarr c v t) 0) 6)
def f_sarr_7 : Int := AV.toI (AV.ix (AV.ix (out_sarr c v t) 0) 7)
def f_sarr_8 : Int := AV.toI (AV.ix (AV.ix (out_sarr c v t) 0) 8)
def f_sarr_9 : Int := AV.toI (AV.ix (AV.ix (out_sarr c v t) 0) 9)
def f_sarr_10 : Int := AV.toI (AV.ix (out_sarr c v t) 1)
def o_sarr : AV := .tup [.agg [.int .u8 (f_sarr_0 c v t), .int .i64 (f_sarr_1 c v t), .int .u64 (f_sarr_2 c v t), .int .u64 (f_sarr_3 c v t), .int .u64 (f_sarr_4 c v t), .int .u64 (f_sarr_5 c v t), .int .u64 (f_sarr_6 c v t), .int .u64 (f_sarr_7 c v t), .int .u64 (f_sarr_8 c v t), .int .u64 (f_sarr_9 c v t)], .int .i64 (f_sarr_10 c v t)]
end
def S_sarr : Sum := (41, on3 rConf (rI .i64) (rI .i64) (fun c v t => true) (fun c v t => o_sarr c v t))
theorem oe_sarr (c : Conf) (v : Int) (t : Int) : sp_sarr.bd (out_sarr c v t) = o_sarr c v t := by kernel_rfl
abbrev zcd0 := cfg [S_check, S_at]
abbrev zcd1 (c : Conf) := !decide ((errC c) = 0)
abbrev zcd2 := true
abbrev zcd3 (c : Conf) (t : Int) (v : Int) : Bool := br (zcd1 c) zcd2 (br (!decide (c.4 = 1)) zcd2 (br (decide (v < 0)) zcd2 (br (decide (v >= 2)) zcd2 (br (decide (t < 0)) zcd2 (br (decide (t >= c.3)) zcd2 zcd2)))))
theorem t_sarr (c : Conf) (v : Int) (t : Int) : runF zcd0 400 41 [c.av, .int .i64 v, .int .i64 t] sp_sarr.has false = true := Eq.trans (b := (br (zcd1 c) (ba (zcd1 c) zcd2) (br (decide (c.4 = 1)) (zcd3 c t v) (br (decide ((errC c) = 0)) (br (!decide (c.4 = 2)) zcd2 (br (decide (t < 0)) zcd2 (br (decide (t >= c.3)) zcd2 (br (decide (c.5 = 0)) false (br (!decide ((BasZAt4.atE (f_size_0 c) c (Plc.mk 7 v (Int.tmod t c.5))) = 0)) zcd2 zcd2))))) zcd2)))) (by kernel_rfl) (bdt (fun h_1 => (band h_1 rfl)) (fun h_1 => (bdt (fun h_2 => (btf h_1 (bdt (fun h_3 => rfl) (fun h_3 => (bdt (fun h_4 => rfl) (fun h_4 => (bdt (fun h_5 => rfl) (fun h_5 => (bdt (fun h_6 => rfl) (fun h_6 => (bdt (fun h_7 => rfl) (fun h_7 => rfl)))))))))))) (fun h_2 => (bdt (fun h_3 => (bdt (fun h_4 => rfl) (fun h_4 => (bdt (fun h_5 => rfl) (fun h_5 => (bdt (fun h_6 => rfl) (fun h_6 => (btf (str_ne h_3 h_2) (bdt (fun h_7 => rfl) (fun h_7 => rfl)))))))))) (fun h_3 => rfl))))))
theorem run_sarr (c : Conf) (v : Int) (t : Int) (h : true = true) : runF zcd0 400 41 [c.av, .int .i64 v, .int .i64 t] sp_sarr.has false = true := t_sarr c v t
theorem s_sarr : SumOk Tryz.prog (gmap gs) S_sarr := on3_sum fun c v t hp => (acalls_out base (sums_cons s_check (sums_cons s_at sums_nil)) (n := 400) sp_sarr (run_sarr c v t hp)).mono fun v_ hv_ => hv_.trans (oe_sarr c v t)
def sp_sdep : Sp := sT [sG [sI .u8, sI .i64, sI .u64, sI .u64, sI .u64, sI .u64, sI .u64, sI .u64, sI .u64, sI .u64], sI .i64]
section
variable (c : Conf) (v : Int) (t : Int)
def out_sdep : AV := outV (cfg [S_check, S_at]) 400 42 [c.av, .int .i64 v, .int .i64 t]
def f_sdep_0 : Int := AV.toI (AV.ix (AV.ix (out_sdep c v t) 0) 0)
def f_sdep_1 : Int := AV.toI (AV.ix (AV.ix (out_sdep c v t) 0) 1)
def f_sdep_2 : Int := AV.toI (AV.ix (AV.ix (out_sdep c v t) 0) 2)
def f_sdep_3 : Int := AV.toI (AV.ix (AV.ix (out_sdep c v t) 0) 3)
def f_sdep_4 : Int := AV.toI (AV.ix (AV.ix (out_sdep c v t) 0) 4)
def f_sdep_5 : Int := AV.toI (AV.ix (AV.ix (out_sdep c v t) 0) 5)
def f_sdep_6 : Int := AV.toI (AV.ix (AV.ix (out_sdep c v t) 0) 6)
def f_sdep_7 : Int := AV.toI (AV.ix (AV.ix (out_sdep c v t) 0) 7)
def f_sdep_8 : Int := AV.toI (AV.ix (AV.ix (out_sdep c v t) 0) 8)
def f_sdep_9 : Int := AV.toI (AV.ix (AV.ix (out_sdep c v t) 0) 9)
def f_sdep_10 : Int := AV.toI (AV.ix (out_sdep c v t) 1)
def o_sdep : AV := .tup [.agg [.int .u8 (f_sdep_0 c v t), .int .i64 (f_sdep_1 c v t), .int .u64 (f_sdep_2 c v t), .int .u64 (f_sdep_3 c v t), .int .u64 (f_sdep_4 c v t), .int .u64 (f_sdep_5 c v t), .int .u64 (f_sdep_6 c v t), .int .u64 (f_sdep_7 c v t), .int .u64 (f_sdep_8 c v t), .int .u64 (f_sdep_9 c v t)], .int .i64 (f_sdep_10 c v t)]
end
def S_sdep : Sum := (42, on3 rConf (rI .i64) (rI .i64) (fun c v t => true) (fun c v t => o_sdep c v t))
section
variable (c : Conf) (v : Int) (t : Int)
theorem oe_sdep : sp_sdep.bd (out_sdep c v t) = o_sdep c v t := by kernel_rfl
theorem t_sdep : runF zcd0 400 42 [c.av, .int .i64 v, .int .i64 t] sp_sdep.has false = true := Eq.trans (b := (br (zcd1 c) (ba (zcd1 c) zcd2) (br (decide (c.4 = 1)) (zcd3 c t v) (br (decide ((errC c) = 0)) (br (!decide (c.4 = 2)) zcd2 (br (decide (t < 0)) zcd2 (br (decide (t >= c.3)) zcd2 (br (decide (c.5 = 0)) false (br (!decide ((BasZAt4.atE (f_size_0 c) c (Plc.mk 8 v (Int.tmod t c.5))) = 0)) zcd2 zcd2))))) zcd2)))) (by kernel_rfl) (bdt (fun h_1 => (band h_1 rfl)) (fun h_1 => (bdt (fun h_2 => (btf h_1 (bdt (fun h_3 => rfl) (fun h_3 => (bdt (fun h_4 => rfl) (fun h_4 => (bdt (fun h_5 => rfl) (fun h_5 => (bdt (fun h_6 => rfl) (fun h_6 => (bdt (fun h_7 => rfl) (fun h_7 => rfl)))))))))))) (fun h_2 => (bdt (fun h_3 => (bdt (fun h_4 => rfl) (fun h_4 => (bdt (fun h_5 => rfl) (fun h_5 => (bdt (fun h_6 => rfl) (fun h_6 => (btf (str_ne h_3 h_2) (bdt (fun h_7 => rfl) (fun h_7 => rfl)))))))))) (fun h_3 => rfl))))))
theorem run_sdep (h : true = true) : runF zcd0 400 42 [c.av, .int .i64 v, .int .i64 t] sp_sdep.has false = true := t_sdep c v t
end
theorem s_sdep : SumOk Tryz.prog (gmap gs) S_sdep := on3_sum fun c v t hp => (acalls_out base (sums_cons s_check (sums_cons s_at sums_nil)) (n := 400) sp_sdep (run_sdep c v t hp)).mono fun v_ hv_ => hv_.trans (oe_sdep c v t)
def sp_smany : Sp := sT [sI .i64, sI .i64]
def out_smany (c : Conf) : AV := outV (cfg [S_check]) 400 179 [c.av]
def f_smany_0 (c : Conf) : Int := AV.toI (AV.ix (out_smany c) 0)
def f_smany_1 (c : Conf) : Int := AV.toI (AV.ix (out_smany c) 1)
def o_smany (c : Conf) : AV := .tup [.int .i64 (f_smany_0 c), .int .i64 (f_smany_1 c)]
def S_smany : Sum := (179, on1 rConf (fun c => true) (fun c => o_smany c))
theorem oe_smany (c : Conf) : sp_smany.bd (out_smany c) = o_smany c := by kernel_rfl
theorem t_smany (c : Conf) : runF (cfg [S_check]) 400 179 [c.av] sp_smany.has false = true := Eq.trans (b := (br (zcd1 c) (ba (zcd1 c) zcd2) (br (decide (c.4 = 1)) zcd2 zcd2))) (by kernel_rfl) (bdt (fun h_1 => (band h_1 rfl)) (fun h_1 => (bdt (fun h_2 => rfl) (fun h_2 => rfl))))
theorem run_smany (c : Conf) (h : true = true) : runF (cfg [S_check]) 400 179 [c.av] sp_smany.has false = true := t_smany c
theorem s_smany : SumOk Tryz.prog (gmap gs) S_smany := on1_sum fun c hp => (acalls_out base (sums_cons s_check sums_nil) (n := 400) sp_smany (run_smany c hp)).mono fun v_ hv_ => hv_.trans (oe_smany c)
def sp_which : Sp := sT [sI .i64, sI .i64]
section
variable (c : Conf) (n : Int)
def out_which : AV := outV (cfg []) 400 391 [c.av, .int .i64 n]
def f_which_0 : Int := AV.toI (AV.ix (out_which c n) 0)
def f_which_1 : Int := AV.toI (AV.ix (out_which c n) 1)
def o_which : AV := .tup [.int .i64 (f_which_0 c n), .int .i64 (f_which_1 c n)]
end
def S_which : Sum := (391, on2 rConf (rI .i64) (fun c n => (decide (1 <= c.str) && decide (c.str <= 4))) (fun c n => o_which c n))
theorem oe_which (c : Conf) (n : Int) : sp_which.bd (out_which c n) = o_which c n := by kernel_rfl
section
variable (ob ins thr kind bits cap node batch chunk limit most n : Int)
theorem t_wh1 : runF (cfg []) 400 391 [(⟨ob, ins, thr, kind, 1, bits, cap, node, batch, chunk, limit, most⟩ : Conf).av, .int .i64 n] sp_which.has false = true := Eq.trans (b := (br (decide (0 = n)) zcd2 (br (decide (1 > n)) zcd2 (br (decide (1 = n)) zcd2 (br (decide (2 > n)) zcd2 zcd2))))) (by kernel_rfl) (bdt (fun h_1 => rfl) (fun h_1 => (bdt (fun h_2 => rfl) (fun h_2 => (bdt (fun h_3 => rfl) (fun h_3 => (bdt (fun h_4 => rfl) (fun h_4 => rfl))))))))
theorem t_wh2 : runF (cfg []) 400 391 [(⟨ob, ins, thr, kind, 2, bits, cap, node, batch, chunk, limit, most⟩ : Conf).av, .int .i64 n] sp_which.has false = true := Eq.trans (b := (br (decide (0 = n)) zcd2 (br (decide (1 > n)) zcd2 (br (decide (1 = n)) zcd2 (br (decide (2 > n)) zcd2 (br (decide (2 = n)) zcd2 (br (decide (3 > n)) zcd2 (br (decide (3 = n)) zcd2 (br (decide (4 > n)) zcd2 zcd2))))))))) (by kernel_rfl) (bdt (fun h_1 => rfl) (fun h_1 => (bdt (fun h_2 => rfl) (fun h_2 => (bdt (fun h_3 => rfl) (fun h_3 => (bdt (fun h_4 => rfl) (fun h_4 => (bdt (fun h_5 => rfl) (fun h_5 => (bdt (fun h_6 => rfl) (fun h_6 => (bdt (fun h_7 => rfl) (fun h_7 => (bdt (fun h_8 => rfl) (fun h_8 => rfl))))))))))))))))
theorem t_wh3 : runF (cfg []) 400 391 [(⟨ob, ins, thr, kind, 3, bits, cap, node, batch, chunk, limit, most⟩ : Conf).av, .int .i64 n] sp_which.has false = true := Eq.trans (b := (br (decide (0 = n)) zcd2 (br (decide (1 > n)) zcd2 (br (decide (1 = n)) zcd2 (br (decide (2 > n)) zcd2 (br (decide (2 = n)) zcd2 (br (decide (3 > n)) zcd2 (br (decide (3 = n)) zcd2 (br (decide (4 > n)) zcd2 (br (decide (4 = n)) zcd2 (br (decide (5 > n)) zcd2 (br (decide (5 = n)) zcd2 (br (decide (6 > n)) zcd2 zcd2))))))))))))) (by kernel_rfl) (bdt (fun h_1 => rfl) (fun h_1 => (bdt (fun h_2 => rfl) (fun h_2 => (bdt (fun h_3 => rfl) (fun h_3 => (bdt (fun h_4 => rfl) (fun h_4 => (bdt (fun h_5 => rfl) (fun h_5 => (bdt (fun h_6 => rfl) (fun h_6 => (bdt (fun h_7 => rfl) (fun h_7 => (bdt (fun h_8 => rfl) (fun h_8 => (bdt (fun h_9 => rfl) (fun h_9 => (bdt (fun h_10 => rfl) (fun h_10 => (bdt (fun h_11 => rfl) (fun h_11 => (bdt (fun h_12 => rfl) (fun h_12 => rfl))))))))))))))))))))))))
theorem t_wh4 : runF (cfg []) 400 391 [(⟨ob, ins, thr, kind, 4, bits, cap, node, batch, chunk, limit, most⟩ : Conf).av, .int .i64 n] sp_which.has false = true := Eq.trans (b := (br (decide (0 = n)) zcd2 (br (decide (1 > n)) zcd2 (br (decide (1 = n)) zcd2 (br (decide (2 > n)) zcd2 (br (decide (2 = n)) zcd2 (br (decide (3 > n)) zcd2 (br (decide (3 = n)) zcd2 (br (decide (4 > n)) zcd2 (br (decide (4 = n)) zcd2 (br (decide (5 > n)) zcd2 (br (decide (5 = n)) zcd2 (br (decide (6 > n)) zcd2 (br (decide (6 = n)) zcd2 (br (decide (7 > n)) zcd2 (br (decide (7 = n)) zcd2 (br (decide (8 > n)) zcd2 zcd2))))))))))))))))) (by kernel_rfl) (bdt (fun h_1 => rfl) (fun h_1 => (bdt (fun h_2 => rfl) (fun h_2 => (bdt (fun h_3 => rfl) (fun h_3 => (bdt (fun h_4 => rfl) (fun h_4 => (bdt (fun h_5 => rfl) (fun h_5 => (bdt (fun h_6 => rfl) (fun h_6 => (bdt (fun h_7 => rfl) (fun h_7 => (bdt (fun h_8 => rfl) (fun h_8 => (bdt (fun h_9 => rfl) (fun h_9 => (bdt (fun h_10 => rfl) (fun h_10 => (bdt (fun h_11 => rfl) (fun h_11 => (bdt (fun h_12 => rfl) (fun h_12 => (bdt (fun h_13 => rfl) (fun h_13 => (bdt (fun h_14 => rfl) (fun h_14 => (bdt (fun h_15 => rfl) (fun h_15 => (bdt (fun h_16 => rfl) (fun h_16 => rfl))))))))))))))))))))))))))))))))
end
theorem run_which (c : Conf) (n : Int) (h : (decide (1 <= c.str) && decide (c.str <= 4)) = true) : runF (cfg []) 400 391 [c.av, .int .i64 n] sp_which.has false = true := by
 obtain ⟨ob, ins, thr, kind, str, bits, cap, node, batch, chunk, limit, most⟩ := c
 simp only [Bool.and_eq_true, decide_eq_true_eq] at h
 rcases (show str = 1 \/ str = 2 \/ str = 3 \/ str = 4 by omega) with rfl | rfl | rfl | rfl
 ·exact t_wh1 ob ins thr kind bits cap node batch chunk limit most n
 ·exact t_wh2 ob ins thr kind bits cap node batch chunk limit most n
 ·exact t_wh3 ob ins thr kind bits cap node batch chunk limit most n
 ·exact t_wh4 ob ins thr kind bits cap node batch chunk limit most n
theorem s_which : SumOk Tryz.prog (gmap gs) S_which := on2_sum fun c n hp => (acalls_out base sums_nil (n := 400) sp_which (run_which c n hp)).mono fun v_ hv_ => hv_.trans (oe_which c n)
def sp_slook : Sp := sT [sG [sI .u8, sI .i64, sI .u64, sI .u64, sI .u64, sI .u64, sI .u64, sI .u64, sI .u64, sI .u64], sI .i64]
section
variable (c : Conf) (v : Int) (l : Lok)
def out_slook : AV := outV (cfg [S_check, S_at, S_which]) 400 114 [c.av, .int .i64 v, l.av]
def f_slook_0 : Int := AV.toI (AV.ix (AV.ix (out_slook c v l) 0) 0)
def f_slook_1 : Int := AV.toI (AV.ix (AV.ix (out_slook c v l) 0) 1)
def f_slook_2 : Int := AV.toI (AV.ix (AV.ix (out_slook c v l) 0) 2)
def f_slook_3 : Int := AV.toI (AV.ix (AV.ix (out_slook c v l) 0) 3)
def f_slook_4 : Int := AV.toI (AV.ix (AV.ix (out_slook c v l) 0) 4)
def f_slook_5 : Int := AV.toI (AV.ix (AV.ix (out_slook c v l) 0) 5)
def f_slook_6 : Int := AV.toI (AV.ix (AV.ix (out_slook c v l) 0) 6)
def f_slook_7 : Int := AV.toI (AV.ix (AV.ix (out_slook c v l) 0) 7)
def f_slook_8 : Int := AV.toI (AV.ix (AV.ix (out_slook c v l) 0) 8)
def f_slook_9 : Int := AV.toI (AV.ix (AV.ix (out_slook c v l) 0) 9)
def f_slook_10 : Int := AV.toI (AV.ix (out_slook c v l) 1)
def o_slook : AV := .tup [.agg [.int .u8 (f_slook_0 c v l), .int .i64 (f_slook_1 c v l), .int .u64 (f_slook_2 c v l), .int .u64 (f_slook_3 c v l), .int .u64 (f_slook_4 c v l), .int .u64 (f_slook_5 c v l), .int .u64 (f_slook_6 c v l), .int .u64 (f_slook_7 c v l), .int .u64 (f_slook_8 c v l), .int .u64 (f_slook_9 c v l)], .int .i64 (f_slook_10 c v l)]
end
def S_slook : Sum := (114, on3 rConf (rI .i64) rLok (fun c v l => true) (fun c v l => o_slook c v l))
section
variable (c : Conf) (v : Int) (l : Lok)
theorem oe_slook : sp_slook.bd (out_slook c v l) = o_slook c v l := by kernel_rfl
theorem t_slook : runF (cfg [S_check, S_at, S_which]) 400 114 [c.av, .int .i64 v, l.av] sp_slook.has false = true := Eq.trans (b := (br (zcd1 c) (ba (zcd1 c) zcd2) (br (decide (c.4 = 1)) (br (zcd1 c) zcd2 (br (!decide (c.4 = 1)) zcd2 (br (decide (v < 0)) zcd2 (br (decide (v >= 2)) zcd2 (br (decide (l.2 < 0)) zcd2 (br (decide (l.2 >= c.3)) zcd2 zcd2)))))) (br (decide ((errC c) = 0)) (br (!decide (c.4 = 2)) zcd2 (ba (decide (1 <= c.5) && decide (c.5 <= 4)) (br (decide ((f_which_0 c l.2) = 2)) zcd2 (br (decide ((f_which_0 c l.2) = 0)) (br (!decide ((BasZAt4.atE (f_size_0 c) c (Plc.mk 8 v (f_which_1 c l.2))) = 0)) zcd2 zcd2) (br (!decide ((BasZAt4.atE (f_size_0 c) c (Plc.mk 7 v (f_which_1 c l.2))) = 0)) zcd2 zcd2))))) zcd2)))) (by kernel_rfl) (bdt (fun h_1 => (band h_1 rfl)) (fun h_1 => (bdt (fun h_2 => (btf h_1 (bdt (fun h_3 => rfl) (fun h_3 => (bdt (fun h_4 => rfl) (fun h_4 => (bdt (fun h_5 => rfl) (fun h_5 => (bdt (fun h_6 => rfl) (fun h_6 => (bdt (fun h_7 => rfl) (fun h_7 => rfl)))))))))))) (fun h_2 => (bdt (fun h_3 => (bdt (fun h_4 => rfl) (fun h_4 => (band (str_14 h_3 h_2) (bdt (fun h_5 => rfl) (fun h_5 => (bdt (fun h_6 => (bdt (fun h_7 => rfl) (fun h_7 => rfl))) (fun h_6 => (bdt (fun h_7 => rfl) (fun h_7 => rfl)))))))))) (fun h_3 => rfl))))))
theorem run_slook (h : true = true) : runF (cfg [S_check, S_at, S_which]) 400 114 [c.av, .int .i64 v, l.av] sp_slook.has false = true := t_slook c v l
end
theorem s_slook : SumOk Tryz.prog (gmap gs) S_slook := on3_sum fun c v l hp => (acalls_out base (sums_cons s_check (sums_cons s_at (sums_cons s_which sums_nil))) (n := 400) sp_slook (run_slook c v l hp)).mono fun v_ hv_ => hv_.trans (oe_slook c v l)
end
end Go.Bas.BasZSign
end
section
namespace Go.Bas
structure TRa where
 (f : Frm) (c : Conf) (us : List AV) (m : Nat) (rk rv : Int) (told : Bool)
def TRa.av (r : TRa) : AV := .iptr (r.f.cells ++ r.c.cells ++ [.lst r.us r.m, .int .u64 r.rk, .int .u64 r.rv, .bool r.told]) 0
def traOf : AV -> Option TRa
 | .iptr [.int .u8 kind, .int .u32 a, .int .u32 b, .int .u8 pc, .int .u8 i, .int .u8 j, .int .u8 n, .int .u8 p, .int .u8 h, .int .u32 x, .int .u32 y, .int .u8 ob, .int .i64 ins, .int .i64 thr, .int .u8 ckind, .int .i64 str, .int .i64 bits, .int .i64 cap, .int .i64 node, .int .i64 batch, .int .i64 chunk, .int .u64 limit, .int .u64 most, .lst us m, .int .u64 rk, .int .u64 rv, .bool told] 0 =>
  some ⟨⟨kind, a, b, pc, i, j, n, p, h, x, y⟩, ⟨ob, ins, thr, ckind, str, bits, cap, node, batch, chunk, limit, most⟩, us, m, rk, rv, told⟩
 | _ => none
theorem traOf_some {a : AV} {c : TRa} (h : traOf a = some c) : a = c.av := by
 unfold traOf at h
 split at h
 ·simp only [Option.some.injEq] at h
  subst h; rfl
 ·cases h
def rTra : Rd TRa := ⟨traOf, TRa.av, fun _ _ => traOf_some⟩
def lvOk (us : List AV) (m : Nat) : Bool := Nat.ble 1 m && (Nat.ble m 5 && (Nat.beq us.length m && us.all (AV.isI .i64)))
theorem lvOk_num {us : List AV} {m : Nat} (h : lvOk us m = true) : 1 <= m /\ m <= 5 := by
 unfold lvOk at h
 simp only [Bool.and_eq_true] at h
 exact ⟨Nat.le_of_ble_eq_true h.1, Nat.le_of_ble_eq_true h.2.1⟩
theorem isI_is {v : AV} (h : v.isI .i64 = true) : v = .int .i64 v.toI := AV.of_isI h
theorem lvOk_cases {us : List AV} {m : Nat} (h : lvOk us m = true) : (∃ a, us = [.int .i64 a] /\ m = 1) \/ (∃ a b, us = [.int .i64 a, .int .i64 b] /\ m = 2) \/ (∃ a b c, us = [.int .i64 a, .int .i64 b, .int .i64 c] /\ m = 3) \/
  (∃ a b c d, us = [.int .i64 a, .int .i64 b, .int .i64 c, .int .i64 d] /\ m = 4) \/ (∃ a b c d e, us = [.int .i64 a, .int .i64 b, .int .i64 c, .int .i64 d, .int .i64 e] /\ m = 5) := by
 have hn := lvOk_num h
 unfold lvOk at h
 simp only [Bool.and_eq_true] at h
 obtain ⟨_, _, h3, h4⟩ := h
 have h3 : us.length = m := Nat.eq_of_beq_eq_true h3
 match us, h3, h4 with
 | [], h3, _ => simp only [List.length_nil] at h3; omega
 | [a], h3, h4 =>
  simp only [List.all_cons, List.all_nil, Bool.and_true] at h4; exact .inl ⟨a.toI, by rw [<- isI_is h4], h3.symm⟩
 | [a, b], h3, h4 =>
  simp only [List.all_cons, List.all_nil, Bool.and_true, Bool.and_eq_true] at h4; exact .inr (.inl ⟨a.toI, b.toI, by rw [<- isI_is h4.1, <- isI_is h4.2], h3.symm⟩)
 | [a, b, c], h3, h4 =>
  simp only [List.all_cons, List.all_nil, Bool.and_true, Bool.and_eq_true] at h4; exact .inr (.inr (.inl ⟨a.toI, b.toI, c.toI, by rw [<- isI_is h4.1, <- isI_is h4.2.1, <- isI_is h4.2.2], h3.symm⟩))
 | [a, b, c, d], h3, h4 =>
  simp only [List.all_cons, List.all_nil, Bool.and_true, Bool.and_eq_true] at h4; exact .inr (.inr (.inr (.inl ⟨a.toI, b.toI, c.toI, d.toI, by rw [<- isI_is h4.1, <- isI_is h4.2.1, <- isI_is h4.2.2.1, <- isI_is h4.2.2.2], h3.symm⟩)))
 | [a, b, c, d, e], h3, h4 =>
  simp only [List.all_cons, List.all_nil, Bool.and_true, Bool.and_eq_true] at h4; exact .inr (.inr (.inr (.inr ⟨a.toI, b.toI, c.toI, d.toI, e.toI, by rw [<- isI_is h4.1, <- isI_is h4.2.1, <- isI_is h4.2.2.1, <- isI_is h4.2.2.2.1, <- isI_is h4.2.2.2.2], h3.symm⟩)))
 | _ :: _ :: _ :: _ :: _ :: _ :: _, h3, _ => simp only [List.length_cons] at h3; omega
end Go.Bas
end
section
namespace Go.Bas.BasZLev
noncomputable section
open Go.RowKit Go.Proofs
open BasZBase BasZRank
theorem t_levels (n w : Int) (k : AV -> Bool) : runF (cfg [S_width, S_up]) 300 207 [.int .i64 n, .int .i64 w] k false = (bif (!(f_width_0 n 1 w)) then (k (AV.tup [AV.nils, .int .i64 2])) else ((ok_up n w 0) && (bif decide ((f_up_0 n w 0) <= w) then (k (AV.tup [.lst [.int .i64 (f_up_0 n w 0)] 1, .int .i64 0])) else ((ok_up n w 1) && (bif decide ((f_up_0 n w 1) <= w) then (k (AV.tup [.lst [.int .i64 (f_up_0 n w 0), .int .i64 (f_up_0 n w 1)] 2, .int .i64 0])) else ((ok_up n w 2) && (bif decide ((f_up_0 n w 2) <= w) then (k (AV.tup [.lst [.int .i64 (f_up_0 n w 0), .int .i64 (f_up_0 n w 1), .int .i64 (f_up_0 n w 2)] 3, .int .i64 0])) else ((ok_up n w 3) && (bif decide ((f_up_0 n w 3) <= w) then (k (AV.tup [.lst [.int .i64 (f_up_0 n w 0), .int .i64 (f_up_0 n w 1), .int .i64 (f_up_0 n w 2), .int .i64 (f_up_0 n w 3)] 4, .int .i64 0])) else ((ok_up n w 4) && (bif decide ((f_up_0 n w 4) <= w) then (k (AV.tup [.lst [.int .i64 (f_up_0 n w 0), .int .i64 (f_up_0 n w 1), .int .i64 (f_up_0 n w 2), .int .i64 (f_up_0 n w 3), .int .i64 (f_up_0 n w 4)] 5, .int .i64 0])) else (k (AV.tup [.lst [.int .i64 (f_up_0 n w 0), .int .i64 (f_up_0 n w 1), .int .i64 (f_up_0 n w 2), .int .i64 (f_up_0 n w 3), .int .i64 (f_up_0 n w 4)] 5, .int .i64 0]))))))))))))) := by kernel_rfl
def levIs (n w : Int) (m : Nat) : Bool := (bif (!(f_width_0 n 1 w)) then false else (ok_up n w 0 && (bif decide (f_up_0 n w 0 <= w) then Nat.beq m 1 else (ok_up n w 1 && (bif decide (f_up_0 n w 1 <= w) then Nat.beq m 2 else (ok_up n w 2 && (bif decide (f_up_0 n w 2 <= w) then Nat.beq m 3 else (ok_up n w 3 && (bif decide (f_up_0 n w 3 <= w) then Nat.beq m 4 else (ok_up n w 4 && (bif decide (f_up_0 n w 4 <= w) then Nat.beq m 5 else Nat.beq m 5)))))))))))
def levTree (n w : Int) (k : AV -> Bool) : Bool := (bif (!(f_width_0 n 1 w)) then k (.tup [.nils, .int .i64 2]) else (ok_up n w 0 && (bif decide (f_up_0 n w 0 <= w) then k (.tup [.lst [.int .i64 (f_up_0 n w 0)] 1, .int .i64 0]) else (ok_up n w 1 && (bif decide (f_up_0 n w 1 <= w) then k (.tup [.lst [.int .i64 (f_up_0 n w 0), .int .i64 (f_up_0 n w 1)] 2, .int .i64 0]) else (ok_up n w 2 && (bif decide (f_up_0 n w 2 <= w) then k (.tup [.lst [.int .i64 (f_up_0 n w 0), .int .i64 (f_up_0 n w 1), .int .i64 (f_up_0 n w 2)] 3, .int .i64 0]) else (ok_up n w 3 && (bif decide (f_up_0 n w 3 <= w) then k (.tup [.lst [.int .i64 (f_up_0 n w 0), .int .i64 (f_up_0 n w 1), .int .i64 (f_up_0 n w 2), .int .i64 (f_up_0 n w 3)] 4, .int .i64 0]) else (ok_up n w 4 && (bif decide (f_up_0 n w 4 <= w) then k (.tup [.lst [.int .i64 (f_up_0 n w 0), .int .i64 (f_up_0 n w 1), .int .i64 (f_up_0 n w 2), .int .i64 (f_up_0 n w 3), .int .i64 (f_up_0 n w 4)] 5, .int .i64 0]) else k (.tup [.lst [.int .i64 (f_up_0 n w 0), .int .i64 (f_up_0 n w 1), .int .i64 (f_up_0 n w 2), .int .i64 (f_up_0 n w 3), .int .i64 (f_up_0 n w 4)] 5, .int .i64 0]))))))))))))
def levO (n w : Int) (m : Nat) : AV := .tup [.lst ((List.range m).map fun (i : Nat) => AV.int .i64 (f_up_0 n w (i : Int))) m, .int .i64 0]
theorem lt_leaf {m L : Nat} {k : AV -> Bool} {n w : Int} {v : AV} (h : levO n w L = v) (hm : Nat.beq m L = true) (hk : k (levO n w m) = true) : k v = true := by
 have := Nat.eq_of_beq_eq_true hm
 subst this
 rw [<- h]; exact hk
theorem lt_br {b x y x' y' : Bool} (h1 : x = true -> x' = true) (h2 : y = true -> y' = true) (h : (bif b then x else y) = true) : (bif b then x' else y') = true := by
 cases b
 ·exact h2 h
 ·exact h1 h
theorem lt_and {b y y' : Bool} (h2 : y = true -> y' = true) (h : (b && y) = true) : (b && y') = true := by
 cases b
 ·exact h
 ·exact h2 h
theorem levTree_is {n w : Int} {m : Nat} {k : AV -> Bool} (hp : levIs n w m = true) (hk : k (levO n w m) = true) : levTree n w k = true :=
 lt_br (fun h => Bool.noConfusion h) (lt_and (lt_br (fun h => lt_leaf (L := 1) rfl h hk) (lt_and (lt_br (fun h => lt_leaf (L := 2) rfl h hk) (lt_and (lt_br (fun h => lt_leaf (L := 3) rfl h hk) (lt_and (lt_br (fun h => lt_leaf (L := 4) rfl h hk) (lt_and (lt_br (fun h => lt_leaf (L := 5) rfl h hk) (fun h => lt_leaf (L := 5) rfl h hk))))))))))) hp
theorem acalls_lev {n w : Int} {m : Nat} (hp : levIs n w m = true) : ACalls Tryz.prog (gmap gs) 207 [.int .i64 n, .int .i64 w] (fun v => v = levO n w m) :=
 acalls_eq base (sums_cons s_width (sums_cons s_up sums_nil)) (n := 300) fun k hk => (t_levels n w k).trans (levTree_is hp hk)
def S_lev1 : Sum := (207, on2 (rI .i64) (rI .i64) (fun n w => levIs n w 1) (fun n w => .tup [.lst [.int .i64 (f_up_0 n w 0)] 1, .int .i64 0]))
theorem s_lev1 : SumOk Tryz.prog (gmap gs) S_lev1 := on2_sum fun n w hp => acalls_lev hp
def S_lev2 : Sum := (207, on2 (rI .i64) (rI .i64) (fun n w => levIs n w 2) (fun n w => .tup [.lst [.int .i64 (f_up_0 n w 0), .int .i64 (f_up_0 n w 1)] 2, .int .i64 0]))
theorem s_lev2 : SumOk Tryz.prog (gmap gs) S_lev2 := on2_sum fun n w hp => acalls_lev hp
def S_lev3 : Sum := (207, on2 (rI .i64) (rI .i64) (fun n w => levIs n w 3) (fun n w => .tup [.lst [.int .i64 (f_up_0 n w 0), .int .i64 (f_up_0 n w 1), .int .i64 (f_up_0 n w 2)] 3, .int .i64 0]))
theorem s_lev3 : SumOk Tryz.prog (gmap gs) S_lev3 := on2_sum fun n w hp => acalls_lev hp
def S_lev4 : Sum := (207, on2 (rI .i64) (rI .i64) (fun n w => levIs n w 4) (fun n w => .tup [.lst [.int .i64 (f_up_0 n w 0), .int .i64 (f_up_0 n w 1), .int .i64 (f_up_0 n w 2), .int .i64 (f_up_0 n w 3)] 4, .int .i64 0]))
theorem s_lev4 : SumOk Tryz.prog (gmap gs) S_lev4 := on2_sum fun n w hp => acalls_lev hp
def S_lev5 : Sum := (207, on2 (rI .i64) (rI .i64) (fun n w => levIs n w 5) (fun n w => .tup [.lst [.int .i64 (f_up_0 n w 0), .int .i64 (f_up_0 n w 1), .int .i64 (f_up_0 n w 2), .int .i64 (f_up_0 n w 3), .int .i64 (f_up_0 n w 4)] 5, .int .i64 0]))
theorem s_lev5 : SumOk Tryz.prog (gmap gs) S_lev5 := on2_sum fun n w hp => acalls_lev hp
end
end Go.Bas.BasZLev
end
section
namespace Go.Bas.BasZRank3
noncomputable section
open Go.RowKit Go.Proofs BasZBase BasZRank BasZLev
theorem width_is (n l w : Int) : f_width_0 n l w = (decide (n >= l) && (decide (n <= 32) && (decide (w >= 2) && decide (w <= 4)))) := by
 show (bif decide (n >= l) then bif decide (n <= 32) then bif decide (w >= 2) then decide (w <= 4) else false else false else false) = _
 cases decide (n >= l) <;> cases decide (n <= 32) <;> cases decide (w >= 2) <;> rfl
theorem of_width {n l w : Int} (h : f_width_0 n l w = true) : l <= n /\ n <= 32 /\ 2 <= w /\ w <= 4 := by
 rw [width_is] at h
 simp only [Bool.and_eq_true, decide_eq_true_eq] at h
 omega
theorem ok_up_all {n w h : Int} (hw : 2 <= w /\ w <= 4) (hh : 0 <= h /\ h <= 4) : ok_up n w h = true := by
 rcases (show w = 2 \/ w = 3 \/ w = 4 by omega) with rfl | rfl | rfl <;> rcases (show h = 0 \/ h = 1 \/ h = 2 \/ h = 3 \/ h = 4 by omega) with rfl | rfl | rfl | rfl | rfl <;> kernel_rfl
theorem ok_up_dec {n w h : Int} (hw : 2 <= w /\ w <= 4) (hh : 1 <= h /\ h <= 4) : ok_up n w (IntKind.wrap .i64 (h - 1)) = true := by
 rcases (show w = 2 \/ w = 3 \/ w = 4 by omega) with rfl | rfl | rfl <;> rcases (show h = 1 \/ h = 2 \/ h = 3 \/ h = 4 by omega) with rfl | rfl | rfl | rfl <;> kernel_rfl
theorem ok_count_all (n w h : Int) : ok_count n w h = true := by
 show (bif !(f_width_0 n 0 w) then true else bif decide (h < 0) then true else bif decide (h > 4) then true else bif ok_up n w h then true else false) = true
 cases hw : f_width_0 n 0 w with
 | false => rfl
 | true =>
  have := of_width hw
  by_cases h0 : h < 0
  ·rw [decide_eq_true h0]; rfl
  ·by_cases h4 : h > 4
   ·rw [decide_eq_false h0, decide_eq_true h4]; rfl
   ·rw [decide_eq_false h0, decide_eq_false h4, ok_up_all (by omega) (by omega)]; rfl
theorem ok_last_all (n w h i : Int) : ok_last n w h i = true := by
 show (bif !(f_width_0 n 1 w) then true else bif decide (h < 1) then true else bif decide (h > 4) then true else bif decide (i < 0) then true else
  bif ok_up n w h then bif decide (i >= f_up_0 n w h) then true else bif ok_up n w (IntKind.wrap .i64 (h - 1)) then true else false else false) = true
 cases hw : f_width_0 n 1 w with
 | false => rfl
 | true =>
  have := of_width hw
  by_cases h0 : h < 1
  ·rw [decide_eq_true h0]; rfl
  ·by_cases h4 : h > 4
   ·rw [decide_eq_false h0, decide_eq_true h4]; rfl
   ·rw [decide_eq_false h0, decide_eq_false h4, ok_up_all (by omega) (by omega), ok_up_dec (by omega) (by omega)]
    cases decide (i < 0) <;> cases decide (i >= f_up_0 n w h) <;> rfl
def S_cnt : Sum := (331, on3 (rI .i64) (rI .i64) (rI .i64) (fun _ _ _ => true) (fun n w h => o_count n w h))
theorem s_cnt : SumOk Tryz.prog (gmap gs) S_cnt := fun args r hr => by
 have e : S_count.2 args = some (true, r) := by
  have h2 : on3 (rI .i64) (rI .i64) (rI .i64) (fun n w h => ok_count n w h) (fun n w h => o_count n w h) args = on3 (rI .i64) (rI .i64) (rI .i64) (fun _ _ _ => true) (fun n w h => o_count n w h) args := by
   congr 1
   funext n w h
   exact ok_count_all n w h
  exact h2.trans hr
 exact s_count args r e
def S_lst : Sum := (313, on4 (rI .i64) (rI .i64) (rI .i64) (rI .i64) (fun _ _ _ _ => true) (fun n w h i => o_last n w h i))
theorem s_lst : SumOk Tryz.prog (gmap gs) S_lst := fun args r hr => by
 have e : BasZRank.S_last.2 args = some (true, r) := by
  have h2 : on4 (rI .i64) (rI .i64) (rI .i64) (rI .i64) (fun n w h i => ok_last n w h i) (fun n w h i => o_last n w h i) args = on4 (rI .i64) (rI .i64) (rI .i64) (rI .i64) (fun _ _ _ _ => true) (fun n w h i => o_last n w h i) args := by
   congr 1
   funext n w h i
   exact ok_last_all n w h i
  exact h2.trans hr
 exact BasZRank.s_last args r e
theorem lev_some {n w : Int} (hw : f_width_0 n 1 w = true) : levIs n w 1 = true \/ levIs n w 2 = true \/ levIs n w 3 = true \/ levIs n w 4 = true \/ levIs n w 5 = true := by
 have h := of_width hw
 have h2 : 2 <= w /\ w <= 4 := by omega
 unfold levIs
 rw [hw, ok_up_all h2 (h := 0) (by omega), ok_up_all h2 (h := 1) (by omega), ok_up_all h2 (h := 2) (by omega), ok_up_all h2 (h := 3) (by omega), ok_up_all h2 (h := 4) (by omega)]
 cases decide (f_up_0 n w 0 <= w) <;> cases decide (f_up_0 n w 1 <= w) <;> cases decide (f_up_0 n w 2 <= w) <;> cases decide (f_up_0 n w 3 <= w) <;> cases decide (f_up_0 n w 4 <= w) <;> simp
end
end Go.Bas.BasZRank3
end
section
namespace Go.Bas
theorem of_bif {a b : Bool} (h : (bif a then b else true) = true) (ha : a = true) : b = true := by
 cases ha
 exact h
theorem nn {a : Bool} (h : a = true) : (!a) = false := by rw [h]; rfl
theorem nf {a : Bool} (h : (!a) = false) : a = true := by
 cases a
 ·cases h
 ·rfl
theorem on1_imp {P : Program} {G : Nat -> Option (List AV)} {f : FuncId} {α : Type} {a : Rd α} {p p' : α -> Bool} {g g' : α -> AV} (hp : ∀ x, p x = true -> p' x = true /\ g x = g' x) (hs : SumOk P G (f, on1 a p' g')) : SumOk P G (f, on1 a p g) := fun args r hr => by
 refine hs args r ?_
 simp only at hr ⊢
 unfold on1 at hr ⊢
 split at hr
 ·split at hr
  ·rename_i x hx
   simp only [Option.some.injEq, Prod.mk.injEq] at hr; obtain ⟨h1, h2⟩ := hr; obtain ⟨q1, q2⟩ := hp x h1; simp only [hx, q1, <- q2, h2]
  ·cases hr
 ·cases hr
theorem on2_imp {P : Program} {G : Nat -> Option (List AV)} {f : FuncId} {α β : Type} {a : Rd α} {b : Rd β} {p p' : α -> β -> Bool} {g g' : α -> β -> AV} (hp : ∀ x y, p x y = true -> p' x y = true /\ g x y = g' x y) (hs : SumOk P G (f, on2 a b p' g')) : SumOk P G (f, on2 a b p g) := fun args r hr => by
 refine hs args r ?_
 simp only at hr ⊢
 unfold on2 at hr ⊢
 split at hr
 ·split at hr
  ·rename_i x y hx hy
   simp only [Option.some.injEq, Prod.mk.injEq] at hr; obtain ⟨h1, h2⟩ := hr; obtain ⟨q1, q2⟩ := hp x y h1; simp only [hx, hy, q1, <- q2, h2]
  ·cases hr
 ·cases hr
theorem on3_imp {P : Program} {G : Nat -> Option (List AV)} {f : FuncId} {α β γ : Type} {a : Rd α} {b : Rd β} {c : Rd γ} {p p' : α -> β -> γ -> Bool} {g g' : α -> β -> γ -> AV} (hp : ∀ x y z, p x y z = true -> p' x y z = true /\ g x y z = g' x y z) (hs : SumOk P G (f, on3 a b c p' g')) : SumOk P G (f, on3 a b c p g) := fun args r hr => by
 refine hs args r ?_
 simp only at hr ⊢
 unfold on3 at hr ⊢
 split at hr
 ·split at hr
  ·rename_i x y z hx hy hz
   simp only [Option.some.injEq, Prod.mk.injEq] at hr; obtain ⟨h1, h2⟩ := hr; obtain ⟨q1, q2⟩ := hp x y z h1; simp only [hx, hy, hz, q1, <- q2, h2]
  ·cases hr
 ·cases hr
end Go.Bas
namespace Go.Bas.BasZTreB
open Go.RowKit Go.Proofs BasZBase BasZOp BasZRank BasZLev BasZRank3 BasZOk
def inPc (pc : Int) : Bool := decide (pc = 0) || decide (pc = 1) || decide (pc = 3) || decide (pc = 4) || decide (pc = 5) || decide (pc = 6) || decide (pc = 7) || decide (pc = 8) || decide (pc = 9) || decide (pc = 11) || decide (pc = 12) || decide (pc = 13) || decide (pc = 14) || decide (pc = 15) || decide (pc = 16) || decide (pc = 17) || decide (pc = 20) || decide (pc = 21) || decide (pc = 22) || decide (pc = 23) || decide (pc = 24) || decide (pc = 25)
theorem inPc_cases {pc : Int} (h : inPc pc = true) : pc = 0 \/ pc = 1 \/ pc = 3 \/ pc = 4 \/ pc = 5 \/ pc = 6 \/ pc = 7 \/ pc = 8 \/ pc = 9 \/ pc = 11 \/ pc = 12 \/ pc = 13 \/ pc = 14 \/ pc = 15 \/ pc = 16 \/ pc = 17 \/ pc = 20 \/ pc = 21 \/ pc = 22 \/ pc = 23 \/ pc = 24 \/ pc = 25 := by
 unfold inPc at h
 simp only [Bool.or_eq_true, decide_eq_true_eq] at h
 omega
def upK (pc kind : Int) : Bool := bif (decide (pc = 8) || decide (pc = 11)) then (decide (kind = 4) || decide (kind = 5)) else (bif decide (pc = 12) then decide (kind = 5) else true)
theorem upK_8 {pc kind : Int} (h : upK pc kind = true) (hp : pc = 8 \/ pc = 11) : kind = 4 \/ kind = 5 := by
 rcases hp with rfl | rfl
 ·have h : (decide (kind = 4) || decide (kind = 5)) = true := h
  simp only [Bool.or_eq_true, decide_eq_true_eq] at h; exact h
 ·have h : (decide (kind = 4) || decide (kind = 5)) = true := h
  simp only [Bool.or_eq_true, decide_eq_true_eq] at h; exact h
theorem upK_12 {kind : Int} (h : upK 12 kind = true) : kind = 5 := of_decide_eq_true (show decide (kind = 5) = true from h)
theorem nodeP {c : Conf} (he : decide (errC c = 0) = true) (ho : decide (c.ob = 2) = true) : 2 <= c.node /\ c.node <= 4 := by
 have h := ok_true.1 (of_errC (of_decide_eq_true he))
 have ho := of_decide_eq_true ho
 simp only [Conf.OkP] at h
 omega
theorem u8_small {n : Int} (h0 : 0 <= n) (h1 : n <= 255) : IntKind.wrap .u8 n = n := wrap_eq (by simp [Lit.wf, IntKind.min, IntKind.max, IntKind.signed, IntKind.bits]; omega)
theorem node8 {c : Conf} (he : decide (errC c = 0) = true) (ho : decide (c.ob = 2) = true) : decide (IntKind.wrap .u8 c.node = 0) = false := by
 have := nodeP he ho
 rw [u8_small (by omega) (by omega)]
 exact decide_eq_false (by omega)
theorem node64 {c : Conf} (he : decide (errC c = 0) = true) (ho : decide (c.ob = 2) = true) : decide (c.node = 0) = false := by
 have := nodeP he ho
 exact decide_eq_false (by omega)
noncomputable def lvN (n w : Int) : Nat := bif levIs n w 1 then 1 else bif levIs n w 2 then 2 else bif levIs n w 3 then 3 else bif levIs n w 4 then 4 else 5
noncomputable def lvL (n w : Int) : List AV := (List.range (lvN n w)).map fun (i : Nat) => AV.int .i64 (f_up_0 n w (i : Int))
theorem lvN_is {n w : Int} (hw : f_width_0 n 1 w = true) : levIs n w (lvN n w) = true /\ 1 <= lvN n w /\ lvN n w <= 5 := by
 unfold lvN
 rcases lev_some hw with h | h | h | h | h
 ·rw [h]; exact ⟨h, Nat.le_of_ble_eq_true rfl, Nat.le_of_ble_eq_true rfl⟩
 ·cases h1 : levIs n w 1 with
  | true => exact ⟨h1, Nat.le_of_ble_eq_true rfl, Nat.le_of_ble_eq_true rfl⟩
  | false => rw [h]; exact ⟨h, Nat.le_of_ble_eq_true rfl, Nat.le_of_ble_eq_true rfl⟩
 ·cases h1 : levIs n w 1 with
  | true => exact ⟨h1, Nat.le_of_ble_eq_true rfl, Nat.le_of_ble_eq_true rfl⟩
  | false =>
   cases h2 : levIs n w 2 with
   | true => exact ⟨h2, Nat.le_of_ble_eq_true rfl, Nat.le_of_ble_eq_true rfl⟩
   | false => rw [h]; exact ⟨h, Nat.le_of_ble_eq_true rfl, Nat.le_of_ble_eq_true rfl⟩
 ·cases h1 : levIs n w 1 with
  | true => exact ⟨h1, Nat.le_of_ble_eq_true rfl, Nat.le_of_ble_eq_true rfl⟩
  | false =>
   cases h2 : levIs n w 2 with
   | true => exact ⟨h2, Nat.le_of_ble_eq_true rfl, Nat.le_of_ble_eq_true rfl⟩
   | false =>
    cases h3 : levIs n w 3 with
    | true => exact ⟨h3, Nat.le_of_ble_eq_true rfl, Nat.le_of_ble_eq_true rfl⟩
    | false => rw [h]; exact ⟨h, Nat.le_of_ble_eq_true rfl, Nat.le_of_ble_eq_true rfl⟩
 ·cases h1 : levIs n w 1 with
  | true => exact ⟨h1, Nat.le_of_ble_eq_true rfl, Nat.le_of_ble_eq_true rfl⟩
  | false =>
   cases h2 : levIs n w 2 with
   | true => exact ⟨h2, Nat.le_of_ble_eq_true rfl, Nat.le_of_ble_eq_true rfl⟩
   | false =>
    cases h3 : levIs n w 3 with
    | true => exact ⟨h3, Nat.le_of_ble_eq_true rfl, Nat.le_of_ble_eq_true rfl⟩
    | false =>
     cases h4 : levIs n w 4 with
     | true => exact ⟨h4, Nat.le_of_ble_eq_true rfl, Nat.le_of_ble_eq_true rfl⟩
     | false => exact ⟨h, Nat.le_of_ble_eq_true rfl, Nat.le_of_ble_eq_true rfl⟩
theorem lv_ok {n w : Int} (hw : f_width_0 n 1 w = true) : lvOk (lvL n w) (lvN n w) = true := by
 obtain ⟨_, h1, h2⟩ := lvN_is hw
 unfold lvOk lvL
 simp only [Bool.and_eq_true]
 refine ⟨Nat.ble_eq_true_of_le h1, Nat.ble_eq_true_of_le h2, ?_, ?_⟩
 ·simp
 ·rw [List.all_eq_true]
  intro v hv; obtain ⟨i, _, rfl⟩ := List.mem_map.1 hv; rfl
noncomputable def S_levA : Sum := (207, on2 (rI .i64) (rI .i64) (fun n w => f_width_0 n 1 w) (fun n w => .tup [.lst (lvL n w) (lvN n w), .int .i64 0]))
theorem s_levA : SumOk Tryz.prog (gmap gs) S_levA := on2_sum fun n w hp => acalls_lev (lvN_is hp).1
theorem width_of {c : Conf} (he : decide (errC c = 0) = true) (ho : decide (c.ob = 2) = true) : f_width_0 c.cap 1 c.node = true := by
 have h := ok_true.1 (of_errC (of_decide_eq_true he))
 have ho := of_decide_eq_true ho
 simp only [Conf.OkP] at h
 rw [width_is]
 simp only [Bool.and_eq_true, decide_eq_true_eq]
 omega
noncomputable def mkr (c : Conf) (f : Frm) : TRa := ⟨f, c, lvL c.cap c.node, lvN c.cap c.node, 0, 0, false⟩
end Go.Bas.BasZTreB
end
