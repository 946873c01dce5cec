/- The law BatchServes, walked: its loops, and the whole. -/
import Derived.Test.YtakdfjdpjggdkaaDoorBasServes
import Derived.Test.YtakdfjdpjggdkaaDoorBasChs2
import Derived.Test.YtakdfjdpjggdkaaDoorBasBits
import Derived.Test.YtakdfjdpjggdkaaDoorBasDAlive
namespace Go.Bas.BasServes2
open Go.RowKit Go.Proofs Go.Bas.BasDBase Go.Bas.BasDChoose Go.Bas.BasDChoose2 Go.Bas.BasServes Go.Bas.BasDAlive
set_option maxRecDepth 100000
set_option linter.unusedVariables false
set_option linter.unusedSimpArgs false
theorem s_aliveS : SumOk Tryd.prog (gmap gs) S_alive := fun args r hr => by
  cases args with
  | nil =>
    obtain rfl : AV.bool true = r := by simpa [S_alive] using hr
    exact s_alive
  | cons a b => simp [S_alive] at hr
theorem hC2 : (cfg [S_alive, S_ch]).Ok := cfg_ok base (sums_cons s_aliveS (sums_cons s_ch sums_nil))
theorem so_code : loopN (fcode Tryd.prog 7) 0 = .loop (loopAt (fcode Tryd.prog 7) [0]) := by kernel_rfl
theorem so_loops : loopsOf (fcode Tryd.prog 7) = [loopN (fcode Tryd.prog 7) 0] := by kernel_rfl
theorem si_loops : loopsOf (loopAt (fcode Tryd.prog 7) [0]) = [.loop (loopAt (fcode Tryd.prog 7) [0, 0])] := by kernel_rfl
theorem psF_len (f : Nat → Bool) (T i : Nat) : (psF f T i).length = T := by simp [psF]
theorem psF_get {f : Nat → Bool} {T i j : Nat} (h : j < T) : (psF f T i)[j]? = some (.bool (Nat.blt j i && f j)) := by simp [psF, h]
theorem psF_same {f : Nat → Bool} {T a b : Nat} (h : ∀ j, f j = false) : psF f T a = psF f T b := by
  unfold psF
  exact List.map_congr_left fun j _ => by rw [h j, Bool.and_false, Bool.and_false]
theorem psF_step {f : Nat → Bool} {T i : Nat} (h : i < T) : (psF f T i).set i (.bool (f i)) = psF f T (i + 1) := by
  refine List.ext_getElem? fun j => ?_
  rw [List.getElem?_set]
  by_cases hj : j < T
  · have e1 : (psF f T (i + 1))[j]? = some (.bool (Nat.blt j (i + 1) && f j)) := psF_get hj
    have e2 : (psF f T i)[j]? = some (.bool (Nat.blt j i && f j)) := psF_get hj
    rw [e1, e2, psF_len]
    by_cases e : i = j
    · subst e
      have : Nat.blt i (i + 1) = true := blt_iff.2 (Nat.lt_succ_self i)
      rw [if_pos rfl, if_pos h, this, Bool.true_and]
    · rw [if_neg e]
      have : Nat.blt j i = Nat.blt j (i + 1) := by rw [Bool.eq_iff_iff, blt_iff, blt_iff]; omega
      rw [this]
  · have e1 : (psF f T (i + 1))[j]? = none := List.getElem?_eq_none (by rw [psF_len]; omega)
    have e2 : (psF f T i)[j]? = none := List.getElem?_eq_none (by rw [psF_len]; omega)
    rw [e1, if_neg (by omega), e2]
theorem psF_isB (f : Nat → Bool) (T i : Nat) : (psF f T i).all AV.isB = true := by
  rw [List.all_eq_true]
  intro v hv
  simp only [psF, List.mem_map] at hv
  obtain ⟨j, _, rfl⟩ := hv
  rfl
theorem psF_zero (f : Nat → Bool) (T : Nat) : (List.replicate T [AV.bool false]).flatten = psF f T 0 := by
  have h1 : psF f T 0 = List.replicate T (AV.bool false) := by
    refine List.eq_replicate_iff.2 ⟨psF_len f T 0, fun v hv => ?_⟩
    simp only [psF, List.mem_map] at hv
    obtain ⟨j, _, rfl⟩ := hv
    rfl
  rw [h1]
  induction T with
  | zero => rfl
  | succ T ih =>
    rw [List.replicate_succ, List.replicate_succ, List.flatten_cons, ih]
    · rfl
    · refine List.eq_replicate_iff.2 ⟨psF_len f T 0, fun v hv => ?_⟩
      simp only [psF, List.mem_map] at hv
      obtain ⟨j, _, rfl⟩ := hv
      rfl

theorem G_si_ok : ∀ (f t : Int) (oc : List AV) (on : Nat) (ok : Bool) (n0 : Int) (pn : Nat) (i : Int) (ps : List AV) (e1 : TypeId) (cc : List AV) (e0 : TypeId) (pu pv ap : Bool) (k : Ex → St → Bool), G_si f t oc on ok n0 pn i ps e1 cc e0 pu pv ap k = true →
    AWq (cfg [S_alive, S_ch]) (.loop (loopAt (fcode Tryd.prog 7) [0, 0])) (I_si f t oc on ok n0 pn i ps e1 cc e0 pu pv ap) (fun e s => k e s = true) := by
  intro f t oc on ok n0 pn i ps e1 cc e0 pu pv ap k hG
  unfold G_si at hG
  split at hG
  case h_2 => cases hG
  rename_i c hc
  have hcc : cc = c.cells := AV.agg.inj (confOf_some hc)
  subst hcc
  rcases of_cond2 hG with ⟨hok, hG2⟩ | ⟨_, hG2⟩
  case inr => cases hG2
  clear hG
  simp only [Bool.and_eq_true, decide_eq_true_eq, sameL, siOk] at hok
  obtain ⟨rfl, ⟨hT1, hT2, hpn, rfl, hn0, hoc⟩, hu, rfl, rfl⟩ := hok
  obtain rfl : pn = c.thr.toNat := by omega
  refine AWq.loop (K := fun e s => k e s = true) (fun i : { i : Nat // i ≤ c.thr.toNat } => I_si f t oc on ok n0 c.thr.toNat ((i.1 : Nat) : Int) (psF (fO oc on n0) c.thr.toNat i.1) e1 c.cells e0 true true ap) (fun i => c.thr.toNat - i.1) ?_ ⟨0, Nat.zero_le _⟩
  rintro ⟨i, hi⟩
  refine AWq.runK hC2 [1, 2, 3, 4, 9, 10, 11, 12] (n := 100) fun k' hk => ?_
  refine (t_sib c f t oc on ok n0 c.thr.toNat ((i : Nat) : Int) (psF (fO oc on n0) c.thr.toNat i) e1 e0 ap k').trans ?_
  refine condI (fun h => condI (fun hon => condI (fun hz => ?_) (fun _ => ?_)) (fun hon => ?_)) (fun h => ?_)
  · have := of_decide_eq_true hz
    have := of_decide_eq_true hon
    omega
  · have hlt : i < c.thr.toNat := by have h := of_decide_eq_true h; have h : ((i : Nat) : Int) < c.thr := h; omega
    have hon0 : 0 < on := by have hon := of_decide_eq_true hon; have hon : ((on : Nat) : Int) > 0 := hon; omega
    have hm0 : 0 ≤ Int.tmod n0 (Int.ofNat on) := by rw [Int.tmod_eq_emod_of_nonneg hn0]; exact Int.emod_nonneg _ (by show ((on : Nat) : Int) ≠ 0; omega)
    have hm1 : Int.tmod n0 (Int.ofNat on) < (on : Int) := by rw [Int.tmod_eq_emod_of_nonneg hn0]; exact Int.emod_lt_of_pos _ (by show (0 : Int) < ((on : Nat) : Int); omega)
    obtain ⟨q, hq⟩ := Int.eq_ofNat_of_zero_le hm0
    have hqlt : q < on := by omega
    have hin : inside (Int.tmod n0 (Int.ofNat on)) on = true := by simp only [inside, Bool.and_eq_true, decide_eq_true_eq]; omega
    have hin2 : inside ((i : Nat) : Int) c.thr.toNat = true := by simp only [inside, Bool.and_eq_true, decide_eq_true_eq]; omega
    have hisu : (lget oc q).isI .u16 = true := by
      rw [lget_eq, List.getD_eq_getElem?_getD, List.getElem?_eq_getElem (by omega)]
      exact List.all_eq_true.1 hu _ (List.getElem_mem _)
    have hw : IntKind.wrap .i64 (((i : Nat) : Int) + 1) = ((i + 1 : Nat) : Int) := wrapS (a := i + 1) (by omega)
    have hfi : decide (Int.tmod (ishr .u16 (lget oc q).toI ((i : Nat) : Int)) 2 = 1) = fO oc on n0 i := by
      have hq' : Int.tmod n0 ((on : Nat) : Int) = (q : Int) := hq
      simp only [fO, hq', Int.toNat_natCast, decide_eq_true hon0, Bool.true_and]
    have e0' : 0 + (((i : Nat) : Int)).toNat * 1 = i := by rw [Int.toNat_natCast]; omega
    have eq' : (Int.tmod n0 (Int.ofNat on)).toNat * 1 = q := by rw [hq, Nat.mul_one]; exact Int.toNat_natCast q
    have b1 : Nat.beq oc.length (on * 1) = true := (beq_iff _ _).2 (by omega)
    have b2 : Nat.ble (q + 1) oc.length = true := Nat.ble_eq_true_of_le (by omega)
    have b3 : Nat.ble (i + 1) (psF (fO oc on n0) c.thr.toNat i).length = true := by rw [psF_len]; exact Nat.ble_eq_true_of_le (by omega)
    have b4 : decide (((i : Nat) : Int) < 0) = false := decide_eq_false (by omega)
    rw [e0', eq', hin, hin2, b1, b2, b3, hisu, hw, hfi, psF_step hlt, b4]
    exact hk .normal _ ⟨⟨i + 1, hlt⟩, by show c.thr.toNat - (i + 1) < c.thr.toNat - i; omega, Less.refl _⟩
  · have hon0 : on = 0 := by have hon := of_decide_eq_false hon; have hon : ¬ ((on : Nat) : Int) > 0 := hon; omega
    have hf : ∀ j, fO oc on n0 j = false := fun j => by simp [fO, hon0]
    rw [psF_same hf (a := c.thr.toNat) (b := i)] at hG2
    exact hk (.exit 2) _ ⟨_, LessS.fill rfl (AllL_cons rfl (AllL_cons rfl (AllL_cons rfl (AllL_cons rfl (AllL_cons rfl (AllL_cons rfl (AllL_cons rfl AllL_nil))))))) rfl rfl, hG2⟩
  · have hge : i = c.thr.toNat := by have h := of_decide_eq_false h; have h : ¬ ((i : Nat) : Int) < c.thr := h; omega
    subst hge
    exact hk (.exit 2) _ ⟨_, LessS.fill rfl (AllL_cons rfl (AllL_cons rfl (AllL_cons rfl (AllL_cons rfl (AllL_cons rfl (AllL_cons rfl (AllL_cons rfl AllL_nil))))))) rfl rfl, hG2⟩
theorem si_ok : LoopsOk (cfg [S_alive, S_ch]) (loopsOf (loopAt (fcode Tryd.prog 7) [0])) [F_si] := by
  rw [si_loops]
  exact ⟨fun st k h => P_si_ok G_si_ok st k h, trivial⟩

/-- The thread is so near that it is taken in time. -/
def Near (c : Conf) (t : Int) (n : Nat) (f : Int) : Prop := chErr c c.thr.toNat f = 0 → ∃ d, chp c.thr.toNat f.toNat d = t.toNat ∧ d + n * c.batch.toNat < c.thr.toNat
theorem G_so_ok : ∀ (f t : Int) (oc : List AV) (on : Nat) (ok : Bool) (n0 : Int) (cc : List AV) (e0 : TypeId) (pu : Bool) (k : Ex → St → Bool), G_so f t oc on ok n0 cc e0 pu k = true →
    AWq (cfg [S_alive, S_ch]) (loopN (fcode Tryd.prog 7) 0) (I_so f t oc on ok n0 cc e0 pu) (fun e s => k e s = true) := by
  intro f t oc on ok n0 cc e0 pu k hG
  unfold G_so at hG
  split at hG
  case h_2 => cases hG
  rename_i c hc
  have hcc : cc = c.cells := AV.agg.inj (confOf_some hc)
  subst hcc
  rcases of_cond2 hG with ⟨hok, hG2⟩ | ⟨_, hG2⟩
  case inr => cases hG2
  clear hG
  simp only [Bool.and_eq_true, decide_eq_true_eq, soOk] at hok
  obtain ⟨⟨hT1, hT2, hB, ht0, ht1, rfl, hoc, hon⟩, hu, rfl, rfl⟩ := hok
  have hTpos : 0 < c.thr.toNat := by omega
  have hBpos : 0 < c.batch.toNat := by omega
  rw [so_code]
  -- a place that is left over is ever nearer
  refine AWq.postL (K := fun e s => e = .ret ∧ ∃ s', Less (cfg [S_alive, S_ch]) s s' ∧ k .ret s' = true) ?_ (fun e s ⟨he, s', hl, hk⟩ => by subst he; exact ⟨rfl, s', hl, hk⟩)
  refine AWq.loop (K := fun e s => e = .ret ∧ ∃ s', Less (cfg [S_alive, S_ch]) s s' ∧ k .ret s' = true)
    (fun i : { p : Nat × Int // p.1 ≤ (c.thr.toNat - 1) / c.batch.toNat ∧ Near c t p.1 p.2 } => I_so i.1.2 t oc on true ((i.1.1 : Nat) : Int) c.cells e0 true)
    (fun i => c.thr.toNat - i.1.1) ?_ ⟨(0, f), Nat.zero_le _, fun he => ?_⟩
  case refine_2 =>
    have hf : 0 ≤ f ∧ f < c.thr := by
      cases ho : c.ok with
      | false => rw [chErr40 ho] at he; cases he
      | true =>
        rcases Decidable.em ((c.thr.toNat : Int) = c.thr ∧ 0 ≤ f ∧ f < c.thr) with hh | hh
        · exact hh.2
        · rw [chErr2 ho hh] at he; cases he
    refine ⟨(t.toNat + c.thr.toNat - f.toNat) % c.thr.toNat, ?_, ?_⟩
    · unfold chp
      rw [Nat.add_mod_mod, show f.toNat + (t.toNat + c.thr.toNat - f.toNat) = t.toNat + c.thr.toNat by omega, Nat.add_mod_right, Nat.mod_eq_of_lt (by omega)]
    · show _ + 0 * _ < _
      rw [Nat.zero_mul, Nat.add_zero]
      exact Nat.mod_lt _ hTpos
  rintro ⟨⟨n, f⟩, hn, hd⟩
  simp only at hn hd
  refine AWq.runMK hC2 [1, 2, 3, 4, 8, 9, 10] (n := 100) si_ok fun k' hk => ?_
  refine (t_sob c f t oc on true ((n : Nat) : Int) e0 k').trans ?_
  have hnT : n < c.thr.toNat := by have := Nat.div_le_self (c.thr.toNat - 1) c.batch.toNat; omega
  have hq : IntKind.wrap .i64 (Int.tdiv (IntKind.wrap .i64 (c.3 - 1)) c.9) = (((c.thr.toNat - 1) / c.batch.toNat : Nat) : Int) := by
    have e1 : c.3 - 1 = ((c.thr.toNat - 1 : Nat) : Int) := by show c.thr - 1 = _; omega
    have e2 : c.9 = ((c.batch.toNat : Nat) : Int) := by show c.batch = _; omega
    rw [e1, wrapS (by omega), e2, Int.tdiv_eq_ediv_of_nonneg (Int.natCast_nonneg _), ← Int.natCast_ediv]
    exact wrapS (by have := Nat.div_le_self (c.thr.toNat - 1) c.batch.toNat; omega)
  have hw : IntKind.wrap .i64 (((n : Nat) : Int) + 1) = ((n + 1 : Nat) : Int) := wrapS (a := n + 1) (by omega)
  rw [hq, hw]
  refine condI (fun h => ?_) (fun _ => condI (fun _ => ?_) (fun h => ?_))
  · have := of_decide_eq_true h; have : c.batch = 0 := this; omega
  case refine_3 => have := of_decide_eq_false h; omega
  -- the pending ones
  generalize hps : List.set (psF (fO oc on ((n : Nat) : Int)) c.thr.toNat c.thr.toNat) (0 + (Int.toNat t) * 1) (.bool true) = cells
  have hidx : 0 + (Int.toNat t) * 1 = t.toNat := by omega
  have hlen : cells.length = c.thr.toNat := by rw [← hps, List.length_set, psF_len]
  have hisB : cells.all AV.isB = true := by
    rw [← hps, List.all_eq_true]
    intro v hv
    rcases List.mem_or_eq_of_mem_set hv with h | h
    · exact List.all_eq_true.1 (psF_isB _ _ _) v h
    · rw [h]; rfl
  have hpt : cp cells t.toNat = true := by
    unfold cp
    rw [lget_eq, List.getD_eq_getElem?_getD, ← hps, hidx, List.getElem?_set_self (by rw [psF_len]; omega)]
    rfl
  have htake : List.take (c.thr.toNat * 1) cells = cells := List.take_of_length_le (by omega)
  have hps' : List.set (psF (fO oc on ((n : Nat) : Int)) (Int.toNat c.3) (Int.toNat c.3)) (0 + (Int.toNat t) * 1) (.bool true) = cells := hps
  have htake' : List.take (Int.toNat c.3 * 1) cells = cells := htake
  have hall : sameL (List.flatten (List.replicate (Int.toNat c.3) [.bool false])) (psF (fO oc on ((n : Nat) : Int)) (Int.toNat c.3) 0) = true := by
    rw [psF_zero (fO oc on ((n : Nat) : Int))]; simp [sameL]
  have c1 : decide (0 ≤ c.3) = true := decide_eq_true (by show 0 ≤ c.thr; omega)
  have c2 : decide (c.3 ≤ c.3) = true := decide_eq_true (Int.le_refl _)
  have c3 : Nat.ble (Int.toNat c.3) 9223372036854775807 = true := Nat.ble_eq_true_of_le (by show c.thr.toNat ≤ _; omega)
  have c4 : Nat.ble (Int.toNat c.3 * 1) 140737488355328 = true := Nat.ble_eq_true_of_le (by show c.thr.toNat * 1 ≤ _; omega)
  have c5 : siOk c (Int.toNat c.3) 0 ((n : Nat) : Int) oc on = true := decide_eq_true ⟨hT1, hT2, by show ((c.thr.toNat : Nat) : Int) = c.thr; omega, rfl, Int.natCast_nonneg _, hoc⟩
  have c6 : inside t (Int.toNat c.3) = true := by simp only [inside, Bool.and_eq_true, decide_eq_true_eq]; show 0 ≤ t ∧ t < ((c.thr.toNat : Nat) : Int); omega
  have c7 : Nat.ble ((0 + (Int.toNat t) * 1) + 1) (psF (fO oc on ((n : Nat) : Int)) (Int.toNat c.3) (Int.toNat c.3)).length = true := by rw [psF_len]; exact Nat.ble_eq_true_of_le (by show _ ≤ c.thr.toNat; omega)
  have c8 : Nat.ble (0 + (Int.toNat c.3) * 1) cells.length = true := Nat.ble_eq_true_of_le (by show 0 + c.thr.toNat * 1 ≤ _; omega)
  have c9 : Nat.beq cells.length (Int.toNat c.3) = true := (beq_iff _ _).2 hlen
  have leave : ∀ (f' : Int) (n' : Int) (v8 : AV) (ps : HB), Less (cfg [S_alive, S_ch]) ⟨fill 109 [(1, .int .i64 f'), (2, .int .i64 t), (3, .lst oc on), (4, .ptr 0 0), (8, .bool true), (9, .bool true), (10, .int .i64 n')], [], ⟨[(1, ps), (0, ⟨c.cells, e0, true⟩)], 2, []⟩⟩ ⟨fill 109 [(8, .bool true)], [], ⟨[], 0, []⟩⟩ := fun f' n' v8 ps =>
    (LessS.fill (n := 109) (live := [(8, .bool true)]) rfl ⟨rfl, trivial⟩ rfl rfl).less.trans ((Less.drop 0 (Nat.zero_le _) rfl rfl (by rfl)).trans (Less.of_eq rfl))
  rw [htake', hall, c1, c2, c3, c4, c5, c6, c7, c8, c9, hisB, hu]
  simp only [Bool.true_and]
  refine condI (fun h => ?_) (fun h => ?_)
  · exact hk .ret _ ⟨_, LessS.refl _, rfl, _, leave f ((n : Nat) : Int) .any _, hG2⟩
  · have he : chErr c c.thr.toNat f = 0 := by
      have : chErr c (Int.toNat c.3) f = 0 := by simpa using h
      exact this
    have he' : chErr c (Int.toNat c.3) f = 0 := he
    obtain ⟨d, hd1, hd2⟩ := hd he
    have hok : c.ok = true ∧ 0 ≤ f ∧ f < c.thr := by
      cases ho : c.ok with
      | false => rw [chErr40 ho] at he; cases he
      | true =>
        rcases Decidable.em ((c.thr.toNat : Int) = c.thr ∧ 0 ≤ f ∧ f < c.thr) with hh | hh
        · exact ⟨rfl, hh.2⟩
        · rw [chErr2 ho hh] at he; cases he
    rw [he', show ∀ x, zif 0 x = x from fun x => rfl]
    have hbit : Int.tmod (ishr .u64 (chMask c cells f (Int.toNat c.3)) t) 2 = (((chR c cells f c.thr.toNat).mask.testBit t.toNat).toNat : Int) := by
      have e1 : t = ((t.toNat : Nat) : Int) := by omega
      have := bit_int (m := (chR c cells f c.thr.toNat).mask) (i := t.toNat) (by omega)
      rw [← e1] at this
      exact this
    rw [hbit]
    refine condI (fun h => ?_) (fun _ => condI (fun _ => ?_) (fun hb => ?_))
    · have := of_decide_eq_true h; omega
    · exact hk .ret _ ⟨_, LessS.refl _, rfl, _, leave f ((n : Nat) : Int) .any _, hG2⟩
    · have hoff : (chR c cells f c.thr.toNat).mask.testBit t.toNat = false := by
        cases hq : (chR c cells f c.thr.toNat).mask.testBit t.toNat with
        | false => rfl
        | true => rw [hq] at hb; simp at hb
      obtain ⟨b1, b2, b3, b4, b5⟩ := chs_bits (p := cp cells) (f := f.toNat) (b := c.batch.toNat) hTpos c.thr.toNat (Nat.le_refl _)
      have hdT : d < c.thr.toNat := by have := Nat.zero_le (n * c.batch.toNat); omega
      have hge : (chR c cells f c.thr.toNat).last ≤ d := by
        rcases Nat.lt_or_ge d (chR c cells f c.thr.toNat).last with hl | hl
        · have := chs_on (p := cp cells) (f := f.toNat) (b := c.batch.toNat) hTpos hl (by rw [hd1]; exact hpt)
          rw [hd1] at this
          have hoff' : (chs (cp cells) c.thr.toNat f.toNat c.batch.toNat c.thr.toNat).mask.testBit t.toNat = false := hoff
          rw [hoff'] at this; cases this
        · exact hl
      have hfull : (chR c cells f c.thr.toNat).many = c.batch.toNat := b4 d hdT hge (by rw [hd1]; exact hpt)
      have hml : (chR c cells f c.thr.toNat).many ≤ (chR c cells f c.thr.toNat).last := b2
      have hmul : (n + 1) * c.batch.toNat = n * c.batch.toNat + c.batch.toNat := Nat.succ_mul _ _
      have hnx : chNext c cells f (Int.toNat c.3) = (((f.toNat + (chR c cells f c.thr.toNat).last) % c.thr.toNat : Nat) : Int) := rfl
      rw [hnx]
      refine hk .normal _ ⟨⟨(n + 1, (((f.toNat + (chR c cells f c.thr.toNat).last) % c.thr.toNat : Nat) : Int)), ?_, fun _ => ⟨d - (chR c cells f c.thr.toNat).last, ?_, ?_⟩⟩, ?_, ?_⟩
      · exact (Nat.le_div_iff_mul_le hBpos).2 (by show (n + 1) * _ ≤ _; omega)
      · show chp c.thr.toNat (Int.toNat (((f.toNat + (chR c cells f c.thr.toNat).last) % c.thr.toNat : Nat) : Int)) _ = _
        rw [Int.toNat_natCast]
        unfold chp at hd1 ⊢
        rw [Nat.mod_add_mod, show f.toNat + (chR c cells f c.thr.toNat).last + (d - (chR c cells f c.thr.toNat).last) = f.toNat + d by omega, hd1]
      · show _ + (n + 1) * _ < _
        omega
      · show c.thr.toNat - (n + 1) < c.thr.toNat - n
        omega
      · exact (Less.drop 1 (by show 1 ≤ 2; omega) rfl rfl (by rfl)).trans (Less.of_eq rfl)
theorem so_ok : LoopsOk (cfg [S_alive, S_ch]) (loopsOf (fcode Tryd.prog 7)) [F_so] := by
  rw [so_loops]
  exact ⟨fun st k h => P_so_ok G_so_ok st k h, trivial⟩
theorem walk (c : Conf) (f t : Int) (oc : List AV) (on : Nat) (hl : oc.length = on) (hu : oc.all isU16 = true) : ACalls Tryd.prog (gmap gs) 7 [c.av, .int .i64 f, .int .i64 t, .lst oc on] (fun v => v = .bool true) := by
  refine acalls_eqM base (sums_cons s_aliveS (sums_cons s_ch sums_nil)) (n := 300) (fs := [F_so]) (by kernel_rfl) so_ok fun k hk => ?_
  refine (t_serves c f t oc on k).trans ?_
  refine condI (fun _ => hk) (fun h1 => condI (fun _ => hk) (fun h2 => condI (fun _ => hk) (fun h3 => condI (fun _ => hk) (fun h4 => condI (fun _ => hk) (fun h5 => condI (fun _ => hk) (fun h6 => ?_))))))
  have h1 := of_decide_eq_false h1
  have h2 := of_decide_eq_false h2
  have h3 := of_decide_eq_false h3
  have h4 := of_decide_eq_false h4
  have h5 := of_decide_eq_false h5
  have h6 := of_decide_eq_false h6
  have h1 : ¬ ((on : Nat) : Int) > 100 := h1
  have h2 : ¬ c.thr < 1 := h2
  have h3 : ¬ c.thr > 16 := h3
  have h4 : ¬ c.batch < 1 := h4
  have h6 : ¬ t ≥ c.thr := h6
  have hs : soOk c t 0 oc on = true := decide_eq_true ⟨by omega, by omega, by omega, by omega, by omega, rfl, hl, by omega⟩
  rw [hs, hu]
  exact hk
theorem u16_cells : ∀ {rows : List (List Value)}, (∀ x ∈ rows, CellsOk [.i .u16] x) → (rows.flatten.map ofS).length = rows.length ∧ (rows.flatten.map ofS).all isU16 = true
  | [], _ => ⟨rfl, rfl⟩
  | x :: r, h => by
    obtain ⟨b, y, e, _, hy⟩ := h x (List.mem_cons_self ..)
    have hy : y = [] := hy
    subst hy
    obtain ⟨h1, h2⟩ := u16_cells (rows := r) (fun x hx => h x (List.mem_cons_of_mem _ hx))
    subst e
    refine ⟨?_, ?_⟩
    · show ((ofS (.int .u16 b)) :: (r.flatten.map ofS)).length = _
      rw [List.length_cons, h1]
      rfl
    · show ((ofS (.int .u16 b)) :: (r.flatten.map ofS)).all isU16 = true
      rw [List.all_cons, h2]
      rfl
theorem law (c : Conf) (f t : Int) (rows : List (List Value)) (c0 : (Lit.int .u8 c.ob).wf = true) (c1 : (Lit.int .i64 c.ins).wf = true) (c2 : (Lit.int .i64 c.thr).wf = true) (c3 : (Lit.int .u8 c.kind).wf = true) (c4 : (Lit.int .i64 c.str).wf = true) (c5 : (Lit.int .i64 c.bits).wf = true) (c6 : (Lit.int .i64 c.cap).wf = true) (c7 : (Lit.int .i64 c.node).wf = true) (c8 : (Lit.int .i64 c.batch).wf = true) (c9 : (Lit.int .i64 c.chunk).wf = true) (c10 : (Lit.int .u64 c.limit).wf = true) (c11 : (Lit.int .u64 c.most).wf = true) (wf : (Lit.int .i64 f).wf = true) (wt : (Lit.int .i64 t).wf = true) (w : ∀ x ∈ rows, CellsOk [.i .u16] x) (m : rows.length ≤ maxLen) : ACalls Tryd.prog (gmap gs) 7 [c.av, .int .i64 f, .int .i64 t, .lst (rows.flatten.map ofS) rows.length] (fun v => v = .bool true) :=
  walk c f t _ _ (u16_cells w).1 (u16_cells w).2
end Go.Bas.BasServes2
