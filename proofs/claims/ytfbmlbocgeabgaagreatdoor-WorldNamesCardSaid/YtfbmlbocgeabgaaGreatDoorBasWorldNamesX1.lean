/- Known calls of a closed run, where they stand: states, rounds, ends. No conditions. -/
import Derived.Test.YtfbmlbocgeabgaaGreatDoorBasWorldNamesM1
import Derived.Test.YtfbmlbocgeabgaaGreatDoorBasXr
import Derived.Test.YtfbmlbocgeabgaaGreatDoorBasNMe
namespace Go.Proofs.YtfbmlbocgeabgaaGreatDoor.worldNames
open Go.ChangeShapes Go.WideShapes Go.ChangeAt Go.RowKit Go.Bas
set_option linter.unusedVariables false
set_option maxRecDepth 100000
noncomputable def zrep (z : List AV) : Nat → List AV
  | 0 => []
  | n + 1 => z ++ zrep z n
noncomputable abbrev lS : List Sum := [(11, memoH M11), (16, memoH M16), (17, memoH M17), (19, memoH M19)]
noncomputable abbrev cR : Cfg := ⟨Tryz.prog, gmap gs, lookS lS, fun _ => false, fun _ => none⟩
theorem sumsR : ∀ s ∈ lS, SumOk Tryz.prog (gmap gs) s := (sums_cons s11 (sums_cons s16 (sums_cons s17 (sums_cons s19 sums_nil))))
theorem hR : cR.Ok := cfg_ok base sumsR
noncomputable def zb0 : List AV := [u 0, u 0, u 0, u 0, u 0, u 0, u 0, u 0, u 7, u 0, u 0, u 0, u 0, u 0, u 0, u 0, u 0, u 0, u 0, u 0, u 0, u 0, u 0, u 0, u 0, u 0, u 0, u 0, u 0, u 0, u 0, u 0, u 0, u 0, u 0, u 0, u 0, u 0, u 0, u 0, u 0, u 0, u 0, u 0]
noncomputable def zb1 : List AV := [y 3, x 2, x 1, y 1, x 0, x 0, x 1, x 0, x 1, x 0, u 131072, u 0, .ptr 36 0, .sl 33 0 1 1 true, .sl 30 0 1 50 true]
noncomputable def zb2 : List AV := [x 0, y 0, y 0, x 0, x 0, u 0, y 0, w 0, w 0, y 0, y 0, y 0, y 0, y 0, y 0, w 0, w 0, x 0, w 0, .nils, x 0, y 0, u 0, y 0, w 0, w 0, w 0, .bool false, x 0, w 0, .nils, u 0, u 0, u 0, u 0, u 0, u 0, u 0, u 0, u 0, u 0, u 0, u 0, u 0, .nils, u 0, x 0, u 0, u 0, .bool false]
noncomputable def zb3 : List AV := [y 3, x 2, x 1, y 1, x 0, x 0, x 1, x 0, x 1, x 0, u 131072, u 0]
noncomputable def zb4 : List AV := [.sl 23 0 1 1 true, .sl 24 0 65536 1 true]
noncomputable def zp65536 : List AV := (List.replicate 65536 [x 0]).flatten
noncomputable def zl0 : Loops := [(40, .lop 0 none [.agg [y 3, x 2, x 1, y 1, x 0, x 0, x 1, x 0, x 1, x 0, u 131072, u 0], .agg [.sl 23 0 1 1 true, .sl 24 0 65536 1 true], .ptr 26 0, .ptr 27 0, .ptr 28 0, .nils, x 0, .ptr 31 0, .tup [], .tup [.ptr 31 0, x 0], .agg [y 3, x 2, x 1, y 1, x 0, x 0, x 1, x 0, x 1, x 0, u 131072, u 0], .ptr 27 0, .sl 23 0 1 1 true, .tup [.ptr 31 0, x 0], .ptr 31 0, x 0, x 0, .bool false, .tup [], .ptr 27 1, .sl 24 0 65536 1 true, x 65536, .bool false, .ptr 31 0, .ptr 27 1, .sl 24 0 65536 1 true, .fn (.func 25) [] [.ptr 38 0, .ptr 37 0], .tup [], .tup [], .tup [], .tup [], .tup [], .tup [], .tup [], .tup []] [27] (rfAssign (loopN (fcode Tryz.prog 6) 0)) (loopAt (fcode Tryz.prog 6) [0]) 39), (39, .dfb)]
noncomputable def zA0 : List AV := [.yld 40, .ptr 38 0, .ptr 37 0]
noncomputable def zM0 : Mem := ⟨[(38, ⟨[.sl 24 0 65536 1 true], 36, false⟩), (37, ⟨[.ptr 31 0], 22, false⟩), (36, ⟨[.sl 35 0 11 4 true], 94, false⟩), (35, ⟨zb0, 40, true⟩), (33, ⟨[.es], 30, true⟩), (31, ⟨zb1, 60, false⟩), (30, ⟨zb2, 80, true⟩), (32, ⟨[.es], 30, true⟩), (29, ⟨zb3, 28, true⟩), (28, ⟨[.nils], 32, true⟩), (27, ⟨zb4, 38, false⟩), (26, ⟨zb3, 28, true⟩), (24, ⟨zp65536, 3, true⟩), (23, ⟨[.nils], 30, true⟩)], 41, zl0⟩
noncomputable def zE0 : St := ⟨[.any, .any, .any, .any, .any, .any, .any, .any, .any, .any, .any, .any, .any, .any, .any, .any, .any, .any, .any, .any, .any, .any, .any, .any, .any, .any, .any, .any], [], ⟨[(38, ⟨[.sl 24 0 65536 1 true], 36, false⟩), (37, ⟨[.ptr 31 0], 22, false⟩), (36, ⟨[.sl 35 0 11 4 true], 94, false⟩), (35, ⟨zb0, 40, true⟩), (33, ⟨[.es], 30, true⟩), (32, ⟨[.es], 30, true⟩), (31, ⟨zb1, 60, false⟩), (30, ⟨zb2, 80, true⟩), (29, ⟨zb3, 28, true⟩), (28, ⟨[.nils], 32, true⟩), (27, ⟨zb4, 38, false⟩), (26, ⟨zb3, 28, true⟩), (24, ⟨zp65536, 3, true⟩), (23, ⟨[.nils], 30, true⟩)], 41, zl0⟩⟩
noncomputable def zV0 : AV := .tup []
noncomputable def zi0 : List Nat := [38, 37, 36, 35, 33, 32, 31, 30, 29, 28, 27, 26, 24, 23]
noncomputable def zr0 : List Nat := []
noncomputable def zK (pk : List AV) : Heap := [(38, ⟨[.sl 24 0 65536 1 true], 36, false⟩), (37, ⟨[.ptr 31 0], 22, false⟩), (36, ⟨[.sl 35 0 11 4 true], 94, false⟩), (35, ⟨zb0, 40, true⟩), (33, ⟨[.es], 30, true⟩), (32, ⟨[.es], 30, true⟩), (31, ⟨zb1, 60, false⟩), (30, ⟨zb2, 80, true⟩), (29, ⟨zb3, 28, true⟩), (28, ⟨[.nils], 32, true⟩), (27, ⟨zb4, 38, false⟩), (26, ⟨zb3, 28, true⟩), (24, ⟨pk, 3, true⟩), (23, ⟨[.nils], 30, true⟩)]
noncomputable def zJ (pk : List AV) (i : Int) : St := ⟨[.yld 40, .any, .ptr 37 0, .any, .any, .any, .any, .any, .sl 24 0 65536 1 true, x 65536, .int .i64 i, .any, .any, .any, .any, .any, .any, .any, .any, .any, .any, .any, .any, .any, .any, .any, .any, .any], [], ⟨zK pk, 41, zl0⟩⟩
noncomputable def zJ2 (pk : List AV) (i : Int) : St := ⟨[.yld 40, .any, .ptr 37 0, .any, .any, .any, .any, .any, .sl 24 0 65536 1 true, x 65536, .int .i64 i, .bool true, .any, .any, .any, .any, .any, .any, .any, .any, .any, .any, .any, .any, .any, .any, .any, .any], [], ⟨zK pk, 41, zl0⟩⟩
noncomputable def zJ3 (pk : List AV) (i : Int) (v : AV) : St := ⟨[.yld 40, .any, .ptr 37 0, .any, .any, v, .any, .any, .sl 24 0 65536 1 true, x 65536, .int .i64 i, .bool true, .ptr 24 (0 + i.toNat * 1), v, .any, .any, .any, .any, .any, .any, .any, .any, .any, .any, .any, .any, .any, .any], [], ⟨zK pk, 41, zl0⟩⟩
noncomputable abbrev zBody : Code := loopAt (fcode Tryz.prog 25) [0]
noncomputable abbrev zReg : Code := sel [true, true, false, false, false] zBody
noncomputable def zF (pk : List AV) : LF := fun st k => match lget st.tmps 10 with
  | .int _ n => cond (decide (0 ≤ n) && decide (n < 65536)) (cond (onP (st = zJ2 pk n)) (k .normal (zJ3 pk n (x 0))) false) false
  | _ => false
noncomputable def zm (pk : List AV) : Code → Option LF := fun c => match c with
  | .region 2 _ _ => some (zF pk)
  | _ => none
theorem t_ld (pk : List AV) (i : Int) (k : Ex → St → Bool) : run cR 3000 none none zReg (zJ2 pk i) (fun e s => k e s) false = cond (decide (0 ≤ i) && decide (i < Int.ofNat 65536)) (cond (Nat.ble (0 + i.toNat * 1 + 1) pk.length) (cond (AV.isI .i64 (lget pk (0 + i.toNat * 1))) (k .normal (zJ3 pk i (.int .i64 (lget pk (0 + i.toNat * 1)).toI))) false) false) false := by kernel_rfl
theorem t_body (pk : List AV) (i : Int) (k : Ex → St → Bool) : runB cR 3000 (zm pk) zBody (zJ pk i) (fun e s => dk 41 [0, 2, 8, 9, 10] e s k) = cond (decide (i < 65536)) (cond (decide (0 ≤ i) && decide (i < 65536)) (cond (onP (zJ2 pk i = zJ2 pk i)) (k .normal (zJ pk (IntKind.wrap .i64 (i + 1)))) false) false) (k (.exit 0) (zJ pk i)) := by kernel_rfl
theorem zmarks (pk : List AV) : marksOf (zm pk) zBody = [zReg] := by kernel_rfl
theorem zReg_is (pk : List AV) : zm pk zReg = some (zF pk) := by kernel_rfl
theorem wrapS {a : Nat} (h : a < 9223372036854775808) : IntKind.wrap .i64 (a : Int) = (a : Int) := by
  unfold IntKind.wrap
  simp [IntKind.bits, IntKind.signed]
  omega
theorem zF_ok {pk : List AV} (hl : pk.length = 65536) (hz : ∀ j, j < 65536 → lget pk j = .int .i64 0) : PieceOk cR zReg (zF pk) := fun st k h => by
  unfold zF at h
  split at h
  · rename_i kd n hn
    obtain ⟨h0, h1⟩ := of_cond h
    obtain ⟨h1, h2⟩ := of_cond h1
    rw [of_onP h1]
    simp only [Bool.and_eq_true, decide_eq_true_eq] at h0
    obtain ⟨a, rfl⟩ := Int.eq_ofNat_of_zero_le h0.1
    have ha : a < 65536 := by omega
    have e0 : 0 + Int.toNat ((a : Nat) : Int) * 1 = a := by omega
    have e1 : (decide (0 ≤ ((a : Nat) : Int)) && decide (((a : Nat) : Int) < Int.ofNat 65536)) = true := by
      simp only [Bool.and_eq_true, decide_eq_true_eq]
      exact ⟨h0.1, h0.2⟩
    have e2 : Nat.ble (0 + Int.toNat ((a : Nat) : Int) * 1 + 1) pk.length = true := Nat.ble_eq_true_of_le (by rw [e0, hl]; omega)
    have e3 : lget pk (0 + Int.toNat ((a : Nat) : Int) * 1) = .int .i64 0 := by rw [e0]; exact hz a ha
    have ht : run cR 3000 none none zReg (zJ2 pk (a : Int)) (fun e s => k e s) false = true := by
      refine (t_ld pk (a : Int) k).trans ?_
      rw [e1, e2, e3]
      exact h2
    exact fun w B oC oL ω a Q ro S hI hQ => (run_sound hR 3000).1 none zReg _ _ w B oC oL ω a Q ro ht S hI hQ
  · cases h
theorem zm_ok {pk : List AV} (hl : pk.length = 65536) (hz : ∀ j, j < 65536 → lget pk j = .int .i64 0) : ∀ c' ∈ marksOf (zm pk) zBody, ∀ F, zm pk c' = some F → PieceOk cR c' F := fun c' hc F hF => by
  rw [zmarks, List.mem_singleton] at hc
  subst hc
  rw [zReg_is] at hF
  cases hF
  exact zF_ok hl hz
theorem z_rounds {pk : List AV} (hl : pk.length = 65536) (hz : ∀ j, j < 65536 → lget pk j = .int .i64 0) {K : Ex → St → Prop} (hK : K (.exit 0) (zJ pk ((65536 : Nat) : Int))) : AWp cR none (.loop zBody) (zJ pk ((0 : Nat) : Int)) K := by
  classical
  refine AWp.loopD (K := K) (fun i : { i : Nat // i ≤ 65536 } => zJ pk ((i.1 : Nat) : Int)) 41 (fun _ => rfl) (fun i => 65536 - i.1) ?_ ⟨0, Nat.zero_le _⟩
  rintro ⟨i, hi⟩
  by_cases hlt : i < 65536
  · have e3 : IntKind.wrap .i64 (((i : Nat) : Int) + 1) = ((i + 1 : Nat) : Int) := wrapS (a := i + 1) (by omega)
    have ht := t_body pk ((i : Nat) : Int) (fun e s => decide (e = .normal ∧ s = zJ pk ((i + 1 : Nat) : Int)))
    rw [e3, show decide (((i : Nat) : Int) < 65536) = true from decide_eq_true (by omega), show decide ((0 : Int) ≤ ((i : Nat) : Int)) = true from decide_eq_true (by omega), onP_true rfl] at ht
    have ht := ht.trans (decide_eq_true ⟨rfl, rfl⟩)
    refine (runB_sound hR (zm_ok hl hz) ht).mono fun e s he => ?_
    obtain ⟨l, hk⟩ := dk_lessD (C := cR) he
    obtain ⟨rfl, hs⟩ := of_decide_eq_true hk
    refine ⟨⟨i + 1, hlt⟩, by show 65536 - (i + 1) < 65536 - i; omega, ?_⟩
    show LessD cR 41 s (zJ pk ((i + 1 : Nat) : Int))
    rw [← hs]; exact l
  · have hge : i = 65536 := by omega
    subst hge
    have ht := t_body pk ((65536 : Nat) : Int) (fun e s => decide (e = .exit 0 ∧ s = zJ pk ((65536 : Nat) : Int)))
    rw [show decide (((65536 : Nat) : Int) < 65536) = false from decide_eq_false (by omega)] at ht
    have ht := ht.trans (decide_eq_true ⟨rfl, rfl⟩)
    refine (runB_sound hR (zm_ok hl hz) ht).mono fun e s he => ?_
    obtain ⟨l, hk⟩ := dk_lessD (C := cR) he
    obtain ⟨rfl, hs⟩ := of_decide_eq_true hk
    exact ⟨_, l, by rw [hs]; exact hK⟩
theorem lget_rep (a : AV) : ∀ n j, j < n → lget (List.replicate n a) j = a := fun n j h => by
  rw [lget_eq, List.getD_eq_getElem?_getD, List.getElem?_replicate, if_pos h]
  rfl
theorem z_flat (n : Nat) (a : AV) : (List.replicate n [a]).flatten = List.replicate n a := by
  induction n with
  | zero => rfl
  | succ n ih => rw [List.replicate_succ, List.flatten_cons, ih, List.replicate_succ]; rfl
theorem zp_is : zp65536 = List.replicate 65536 (x 0) := by
  unfold zp65536
  exact z_flat _ _
theorem zp_len : (zp65536).length = 65536 := by rw [zp_is, List.length_replicate]
theorem zp_get : ∀ j, j < 65536 → lget zp65536 j = .int .i64 0 := fun j hj => by rw [zp_is]; exact lget_rep _ _ _ hj
noncomputable def zF0 : LF := fun st k => cond (onP (keepSH [0, 2, 8, 9, 10] zi0 st = zJ zp65536 ((0 : Nat) : Int))) (k (.exit 0) (zJ zp65536 ((65536 : Nat) : Int))) false
theorem zk0 : ∀ (st : St) (k : Ex → St → Bool), zF0 st k = true → AWp cR none (.loop zBody) st (fun e s => k e s = true) := fun st k h => by
  obtain ⟨h1, h2⟩ := of_cond h
  refine AWp.less (of_onP h1 ▸ LessS.keepSH [0, 2, 8, 9, 10] zi0 st) ?_
  exact z_rounds zp_len zp_get (K := fun e s => k e s = true) h2
theorem zcode0 : loopsOf (fcode Tryz.prog 25) = [.loop zBody] := by kernel_rfl
theorem zok0 : LoopsOkP cR (loopsOf (fcode Tryz.prog 25)) [zF0] := by
  rw [zcode0]
  exact ⟨zk0, trivial⟩
theorem zx0 (k : Ex → St → Bool) : runM cR 3000 (fcode Tryz.prog 25) [zF0] ⟨padL zA0 28, [], zM0⟩ (fun e s => k e (keepSH zr0 zi0 s)) = cond (onP (zJ zp65536 ((0 : Nat) : Int) = zJ zp65536 ((0 : Nat) : Int))) (k .normal zE0) false := by kernel_rfl
theorem zy0 : AWp cR none (fcode Tryz.prog 25) ⟨padL zA0 28, [], zM0⟩ (fun e s => e = .normal ∧ LessS cR s zE0) := awp_runM hR zok0 fun k hk => (zx0 k).trans (by rw [onP_true rfl]; exact hk)
noncomputable def zb6 : List AV := [y 11, w 0, w 0, w 0, y 11, w 1, w 7, w 0]
noncomputable def zb7 : List AV := [y 3, x 2, x 1, y 1, x 0, x 0, x 1, x 0, x 1, x 0, u 131072, u 0, .ptr 62 0, .sl 59 0 1 1 true, .sl 54 0 1 50 true]
noncomputable def zb8 : List AV := [.sl 46 0 1 1 true, .sl 47 0 7 1 true]
noncomputable def zb9 : List AV := [x 0, x 1, x 0, x 0, x 0, x 0, x 0]
noncomputable def zl1 : Loops := [(66, .lop 0 none [.agg [y 3, x 2, x 1, y 1, x 0, x 0, x 1, x 0, x 1, x 0, u 131072, u 0], .agg [.sl 46 0 1 1 true, .sl 47 0 7 1 true], .ptr 50 0, .ptr 51 0, .ptr 52 0, .nils, x 0, .ptr 55 0, .tup [], .tup [.ptr 55 0, x 0], .agg [y 3, x 2, x 1, y 1, x 0, x 0, x 1, x 0, x 1, x 0, u 131072, u 0], .ptr 51 0, .sl 46 0 1 1 true, .tup [.ptr 55 0, x 0], .ptr 55 0, x 0, x 0, .bool false, .tup [], .ptr 51 1, .sl 47 0 7 1 true, x 7, .bool false, .ptr 55 0, .ptr 51 1, .sl 47 0 7 1 true, .fn (.func 25) [] [.ptr 64 0, .ptr 63 0], .tup [], .tup [], .tup [], .tup [], .tup [], .tup [], .tup [], .tup []] [27] (rfAssign (loopN (fcode Tryz.prog 6) 0)) (loopAt (fcode Tryz.prog 6) [0]) 65), (65, .dfb)]
noncomputable def zt10 : List AV := [x 0, x 0, .bool true, .bool true, y 0, x 0, u 0, u 0, u 0, u 0, u 0, u 0, u 0, u 0, u 0, u 0, u 0, u 0, .bool false, x 10, w 0, .nils]
noncomputable def zt11 : List AV := [x 0, x 1, .bool true, .bool false, y 1, x 0, u 0, u 0, u 0, u 0, u 0, u 0, u 0, u 0, u 0, u 0, u 0, u 0, .bool true, x 0, w 0, .nils]
noncomputable def zt12 : List AV := [x 0, x 1, .bool false, .bool false, y 2, x 5, u 0, u 0, u 0, u 0, u 0, u 1, u 0, u 0, u 0, u 0, u 0, u 0, .bool true, x 0, w 0, .nils]
noncomputable def zt13 : List AV := [x 0, x 1, .bool false, .bool false, y 1, x 1, u 0, u 0, u 0, u 0, u 0, u 0, u 0, u 0, u 0, u 0, u 0, u 0, .bool true, x 0, w 0, .nils]
noncomputable def zt14 : List AV := [x 0, x 1, .bool false, .bool false, y 1, x 8, u 0, u 0, u 0, u 0, u 0, u 0, u 0, u 0, u 0, u 0, u 0, u 0, .bool true, x 0, w 0, .nils]
noncomputable def zt15 : List AV := [x 0, x 1, .bool false, .bool true, y 2, x 5, u 0, u 0, u 0, u 0, u 0, u 0, u 0, u 0, u 0, u 1, u 0, u 0, .bool true, x 0, w 0, .ns]
noncomputable def zb16 : List AV := [x 2, y 0, y 0, x 0, x 0, u 0, y 0, w 0, w 0, y 0, y 0, y 0, y 0, y 0, y 0, w 0, w 0, x 0, w 0, .nils, x 0, y 0, u 0, y 0, w 0, w 0, w 0, .bool false, x 0, w 0, .nils, u 0, u 0, u 0, u 0, u 0, u 0, u 0, u 0, u 0, u 0, u 0, u 0, u 0, .nils, u 0, x 0, u 0, u 0, .bool false]
noncomputable def zA1 : List AV := [.yld 66, .ptr 64 0, .ptr 63 0]
noncomputable def zM1 : Mem := ⟨[(64, ⟨[.sl 47 0 7 1 true], 36, false⟩), (63, ⟨[.ptr 55 0], 22, false⟩), (62, ⟨[.sl 61 0 11 4 true], 94, false⟩), (61, ⟨zb0, 40, true⟩), (59, ⟨[.sl 57 0 2 4 false], 30, false⟩), (57, ⟨zb6, 63, true⟩), (55, ⟨zb7, 60, false⟩), (54, ⟨zb2, 80, true⟩), (58, ⟨[.sl 57 0 2 4 false], 30, false⟩), (53, ⟨zb3, 28, true⟩), (52, ⟨[.nils], 32, true⟩), (51, ⟨zb8, 38, false⟩), (50, ⟨zb3, 28, true⟩), (47, ⟨zb9, 3, true⟩), (46, ⟨[.sl 45 0 2 4 true], 30, false⟩), (45, ⟨zb6, 63, true⟩)], 67, zl1⟩
noncomputable def zE1 : St := ⟨[.any, .any, .any, .any, .any, .any, .any, .any, .any, .any, .any, .any, .any, .any, .any, .any, .any, .any, .any, .any, .any, .any, .any, .any, .any, .any, .any, .any], [], ⟨[(124, ⟨(zt10 ++ (zt11 ++ (zt12 ++ (zt13 ++ (zt14 ++ (zt15)))))), 50, true⟩), (64, ⟨[.sl 47 0 7 1 true], 36, false⟩), (63, ⟨[.ptr 55 0], 22, false⟩), (62, ⟨[.sl 61 0 11 4 true], 94, false⟩), (61, ⟨zb0, 40, true⟩), (59, ⟨[.sl 57 0 2 4 false], 30, false⟩), (58, ⟨[.sl 57 0 2 4 false], 30, false⟩), (57, ⟨zb6, 63, true⟩), (55, ⟨zb7, 60, false⟩), (54, ⟨zb16, 80, true⟩), (53, ⟨zb3, 28, true⟩), (52, ⟨[.sl 124 0 6 22 true], 32, false⟩), (51, ⟨zb8, 38, false⟩), (50, ⟨zb3, 28, true⟩), (47, ⟨zb9, 3, true⟩), (46, ⟨[.sl 45 0 2 4 true], 30, false⟩), (45, ⟨zb6, 63, true⟩)], 125, zl1⟩⟩
noncomputable def zV1 : AV := .tup []
noncomputable def zi1 : List Nat := [124, 64, 63, 62, 61, 59, 58, 57, 55, 54, 53, 52, 51, 50, 47, 46, 45]
noncomputable def zr1 : List Nat := []
theorem zx1 (k : Ex → St → Bool) : run cR 3000 none none (fcode Tryz.prog 25) ⟨padL zA1 28, [], zM1⟩ (fun e s => k e (keepSH zr1 zi1 s)) false = k .normal zE1 := by kernel_rfl
theorem zy1 : AWp cR none (fcode Tryz.prog 25) ⟨padL zA1 28, [], zM1⟩ (fun e s => e = .normal ∧ LessS cR s zE1) := awp_run hR zx1
noncomputable def zX25 (args : List AV) (m : Mem) : TrM := cond (Nat.beq m.nx 41) (.br (onP (args = zA0 ∧ m = zM0)) (.leaf zV0 zE0.m) .bad) (cond (Nat.beq m.nx 67) (.br (onP (args = zA1 ∧ m = zM1)) (.leaf zV1 zE1.m) .bad) (.bad))
theorem zX25_ok : InpOk cR 25 zX25 := by
  obtain ⟨fn, hfn, hbd, hnt, hrs⟩ := fn_is (P := Tryz.prog) (f := 25) (n := 28) (r := 0) (by kernel_rfl)
  have hr : fn.results.toList = [] := by
    have : ((Tryz.prog.funcs[25]?).map fun fn => fn.results.toList) = some [] := by kernel_rfl
    rw [show Tryz.prog.funcs[25]? = some fn from hfn] at this
    exact Option.some.inj this
  refine inp_of_awp hR hfn hbd rfl rfl rfl fun args m kk h => ?_
  unfold zX25 at h
  rw [ev_cond] at h
  rcases of_cond2 h with ⟨_, h⟩ | ⟨_, h⟩
  · rw [TrM.ev_br] at h
    rcases of_cond2 h with ⟨hc, h9⟩ | ⟨_, h9⟩
    · obtain ⟨rfl, rfl⟩ := of_onP hc
      rw [hnt]
      exact AWp.inp zy0 (.inr rfl) hr rfl ((show resKs cR zE0 [] (fun vs => kk (tupOf vs) zE0.m) false = kk zV0 zE0.m by kernel_rfl).trans h9)
    · cases h9
  rw [ev_cond] at h
  rcases of_cond2 h with ⟨_, h⟩ | ⟨_, h⟩
  · rw [TrM.ev_br] at h
    rcases of_cond2 h with ⟨hc, h9⟩ | ⟨_, h9⟩
    · obtain ⟨rfl, rfl⟩ := of_onP hc
      rw [hnt]
      exact AWp.inp zy1 (.inr rfl) hr rfl ((show resKs cR zE1 [] (fun vs => kk (tupOf vs) zE1.m) false = kk zV1 zE1.m by kernel_rfl).trans h9)
    · cases h9
  cases h
noncomputable abbrev lX : List Inp := [(25, zX25)]
noncomputable abbrev cX : Cfg := ⟨Tryz.prog, gmap gs, lookS lS, fun _ => false, lookX lX⟩
theorem hX : cX.Ok := cfg_okX base sumsR (fun s hs => by
  rcases List.mem_cons.1 hs with rfl | hs
  · exact zX25_ok
  cases hs)
theorem t_run (k : AV → Bool) : runF cX 3000 3 [] k false = cond (onP (zA0 = zA0 ∧ zM0 = zM0)) (cond (onP (zA1 = zA1 ∧ zM1 = zM1)) (k (.bool true)) false) false := by kernel_rfl
end Go.Proofs.YtfbmlbocgeabgaaGreatDoor.worldNames
