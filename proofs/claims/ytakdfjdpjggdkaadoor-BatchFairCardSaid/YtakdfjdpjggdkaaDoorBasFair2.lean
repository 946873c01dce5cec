/- The law BatchFair, walked: its loops, and the whole. -/
import Derived.Test.YtakdfjdpjggdkaaDoorBasFair
import Derived.Test.YtakdfjdpjggdkaaDoorBasChs2
import Derived.Test.YtakdfjdpjggdkaaDoorBasBools
import Derived.Test.YtakdfjdpjggdkaaDoorBasDAlive
import Derived.Test.YtakdfjdpjggdkaaDoorBasBits
namespace Go.Bas.BasFair2
open Go.RowKit Go.Proofs Go.Bas.BasDBase Go.Bas.BasDChoose Go.Bas.BasDChoose2 Go.Bas.BasFair Go.Bas.BasDAlive
set_option maxRecDepth 100000
set_option linter.unusedVariables false
set_option linter.unusedSimpArgs false
theorem s_aliveS : SumOk Tryd.prog (gmap gs) S_alive := fun args r hr => by
  cases args with
  | nil =>
    obtain rfl : AV.bool true = r := by simpa [S_alive] using hr
    exact s_alive
  | cons a b => simp [S_alive] at hr
theorem hC : (cfg [S_alive, S_ch, SA_size popS prS]).Ok := cfg_ok base (sums_cons s_aliveS (sums_cons s_ch (sums_cons s_sizeA sums_nil)))
theorem fa_code : loopN (fcode Tryd.prog 5) 0 = .loop (loopAt (fcode Tryd.prog 5) [0]) := by kernel_rfl
theorem fb_code : loopN (fcode Tryd.prog 5) 1 = .loop (loopAt (fcode Tryd.prog 5) [1]) := by kernel_rfl
theorem fair_loops : loopsOf (fcode Tryd.prog 5) = [loopN (fcode Tryd.prog 5) 0, loopN (fcode Tryd.prog 5) 1] := by kernel_rfl

theorem cntT_le (p : Nat → Bool) : ∀ n, cntT p n ≤ n
  | 0 => Nat.le_refl _
  | n + 1 => by
    have := cntT_le p n
    unfold cntT
    cases p n <;> simp <;> omega
theorem G_fa_ok : ∀ (cells : List AV) (n : Nat) (f : Int) (b7 : Bool) (m x al i : Int) (cc : List AV) (e0 : TypeId) (pu : Bool) (k : Ex → St → Bool), G_fa cells n f b7 m x al i cc e0 pu k = true →
    AWq (cfg [S_alive, S_ch, SA_size popS prS]) (loopN (fcode Tryd.prog 5) 0) (I_fa cells n f b7 m x al i cc e0 pu) (fun e s => k e s = true) := by
  intro cells n f b7 m x al i cc e0 pu k hG
  unfold G_fa at hG
  split at hG
  case h_2 => cases hG
  rename_i c hc
  have hcc : cc = c.cells := AV.agg.inj (confOf_some hc)
  subst hcc
  rcases of_cond2 hG with ⟨hok, hG2⟩ | ⟨_, hG2⟩
  case inr => cases hG2
  clear hG
  simp only [Bool.and_eq_true, eqi, decide_eq_true_eq] at hok
  obtain ⟨hok, rfl, rfl, rfl, rfl⟩ := hok
  obtain ⟨ho, hl, hb, hn, hf0, hf⟩ := chOk_true.1 hok
  obtain rfl : n = c.thr.toNat := by omega
  simp only [Conf.OkP] at ho
  have h0 : 0 < c.thr.toNat := by omega
  rw [fa_code]
  refine AWq.loop (K := fun e s => k e s = true) (fun i : { i : Nat // i ≤ c.thr.toNat } => I_fa cells c.thr.toNat f b7 (chMask c cells f c.thr.toNat) x ((cntT (cp cells) i.1 : Nat) : Int) ((i.1 : Nat) : Int) c.cells e0 true) (fun i => c.thr.toNat - i.1) ?_ ⟨0, Nat.zero_le _⟩
  rintro ⟨i, hi⟩
  refine AWq.runK hC [1, 2, 3, 7, 8, 9, 11, 12] (n := 100) fun k' hk => ?_
  refine (t_fab c popS prS cells c.thr.toNat f b7 (chMask c cells f c.thr.toNat) x ((cntT (cp cells) i : Nat) : Int) ((i : Nat) : Int) e0 k').trans ?_
  refine condI (fun h => ?_) (fun h => ?_)
  · have hlt : i < c.thr.toNat := by have := of_decide_eq_true h; exact Int.ofNat_lt.1 this
    have hin : inside ((i : Nat) : Int) c.thr.toNat = true := by simp only [inside, Bool.and_eq_true, decide_eq_true_eq]; omega
    have hisb : (lget cells i).isB = true := lget_isB hb (by omega)
    have hw : IntKind.wrap .i64 (((i : Nat) : Int) + 1) = ((i + 1 : Nat) : Int) := wrapS (a := i + 1) (by omega)
    have hcl : cntT (cp cells) i ≤ i := cntT_le _ i
    simp only [Int.toNat_natCast, Nat.mul_one, hw, hin, hisb, Bool.true_and]
    refine andI ((beq_iff _ _).2 hl) (andI (Nat.ble_eq_true_of_le (by omega)) (condI (fun hp => ?_) (fun hp => ?_)))
    · have e1 : cntT (cp cells) (i + 1) = cntT (cp cells) i + 1 := by
        show cond (cp cells i) _ _ = _
        rw [show cp cells i = true from hp]; rfl
      have hw2 : IntKind.wrap .i64 (((cntT (cp cells) i : Nat) : Int) + 1) = ((cntT (cp cells) (i + 1) : Nat) : Int) := by
        rw [e1]; exact wrapS (a := cntT (cp cells) i + 1) (by omega)
      rw [hw2]
      exact hk .normal _ ⟨⟨i + 1, hlt⟩, by show c.thr.toNat - (i + 1) < c.thr.toNat - i; omega, Less.refl _⟩
    · have e1 : cntT (cp cells) (i + 1) = cntT (cp cells) i := by
        show cond (cp cells i) _ _ = _
        rw [show cp cells i = false from hp]; rfl
      have hoff : Int.tmod (ishr .u64 (chMask c cells f c.thr.toNat) ((i : Nat) : Int)) 2 = 0 := by
        unfold chMask
        rw [bit_int (by omega)]
        have : (chR c cells f c.thr.toNat).mask.testBit i = false := chs_off (p := cp cells) (f := f.toNat) (b := c.batch.toNat) h0 hp
        rw [this]; rfl
      rw [hoff]
      refine condI (fun h => ?_) (fun _ => condI (fun h => ?_) (fun _ => ?_))
      · have := of_decide_eq_true h; omega
      · cases h
      · refine hk .normal _ ⟨⟨i + 1, hlt⟩, by show c.thr.toNat - (i + 1) < c.thr.toNat - i; omega, ?_⟩
        show Less _ _ (I_fa cells c.thr.toNat f b7 (chMask c cells f c.thr.toNat) x ((cntT (cp cells) (i + 1) : Nat) : Int) ((i + 1 : Nat) : Int) c.cells e0 true)
        rw [e1]
        exact Less.refl _
  · have hge : i = c.thr.toNat := by have := of_decide_eq_false h; have : ¬ i < c.thr.toNat := fun hh => this (Int.ofNat_lt.2 hh); omega
    subst hge
    exact hk (.exit 0) _ ⟨_, LessS.refl _, hG2⟩
theorem G_fb_ok : ∀ (cells : List AV) (n : Nat) (b7 : Bool) (m x t : Int) (cc : List AV) (e0 : TypeId) (pu : Bool) (k : Ex → St → Bool), G_fb cells n b7 m x t cc e0 pu k = true →
    AWq (cfg [S_alive, S_ch, SA_size popS prS]) (loopN (fcode Tryd.prog 5) 1) (I_fb cells n b7 m x t cc e0 pu) (fun e s => k e s = true) := by
  intro cells n b7 m x f cc e0 pu k hG
  unfold G_fb at hG
  split at hG
  case h_2 => cases hG
  rename_i c hc
  have hcc : cc = c.cells := AV.agg.inj (confOf_some hc)
  subst hcc
  rcases of_cond2 hG with ⟨hok, hG2⟩ | ⟨_, hG2⟩
  case inr => cases hG2
  clear hG
  simp only [Bool.and_eq_true, eqi, decide_eq_true_eq] at hok
  obtain ⟨hok, rfl, rfl, rfl⟩ := hok
  obtain ⟨ho, hl, hb, hn, hf0, hf⟩ := chOk_true.1 hok
  obtain rfl : n = c.thr.toNat := by omega
  simp only [Conf.OkP] at ho
  have h0 : 0 < c.thr.toNat := by omega
  obtain ⟨b1, b2, b3, b4, b5⟩ := chs_bits (p := cp cells) (f := f.toNat) (b := c.batch.toNat) h0 c.thr.toNat (Nat.le_refl _)
  have hst : I_fb cells c.thr.toNat b7 (chMask c cells f c.thr.toNat) (chNext c cells f c.thr.toNat) f c.cells e0 true = I_fb cells c.thr.toNat b7 (chMask c cells f c.thr.toNat) (chNext c cells f c.thr.toNat) ((chp c.thr.toNat f.toNat 0 : Nat) : Int) c.cells e0 true := by
    have : ((chp c.thr.toNat f.toNat 0 : Nat) : Int) = f := by
      unfold chp
      rw [Nat.add_zero, Nat.mod_eq_of_lt (by omega)]
      omega
    rw [this]
  rw [fb_code, hst]
  have leave : ∀ (t : Int), LessS (cfg [S_alive, S_ch, SA_size popS prS]) (I_fb cells c.thr.toNat b7 (chMask c cells f c.thr.toNat) (chNext c cells f c.thr.toNat) t c.cells e0 true) ⟨fill 112 [(7, .bool b7)], [], ⟨[(0, ⟨c.cells, e0, true⟩)], 1, []⟩⟩ := fun t => LessS.fill rfl ⟨rfl, trivial⟩ rfl rfl
  by_cases hm : (chR c cells f c.thr.toNat).mask = 0
  · -- nothing is taken: no round
    refine AWq.loop (K := fun e s => k e s = true) (fun _ : Unit => I_fb cells c.thr.toNat b7 (chMask c cells f c.thr.toNat) (chNext c cells f c.thr.toNat) ((chp c.thr.toNat f.toNat 0 : Nat) : Int) c.cells e0 true) (fun _ => 0) ?_ ()
    rintro ⟨⟩
    refine AWq.runK hC [1, 3, 7, 8, 9, 13] (n := 100) fun k' hk => ?_
    refine (t_fbb c popS prS cells c.thr.toNat b7 (chMask c cells f c.thr.toNat) (chNext c cells f c.thr.toNat) ((chp c.thr.toNat f.toNat 0 : Nat) : Int) e0 k').trans ?_
    have hz : chMask c cells f c.thr.toNat = 0 := by unfold chMask; rw [hm]; rfl
    refine condI (fun h => ?_) (fun _ => ?_)
    · rw [hz] at h; simp at h
    · exact hk (.exit 2) _ ⟨_, leave _, hG2⟩
  · have hlast : 0 < (chR c cells f c.thr.toNat).last := chs_last_pos (p := cp cells) (f := f.toNat) (b := c.batch.toNat) h0 hm
    have b1 : (chR c cells f c.thr.toNat).last ≤ c.thr.toNat := b1
    refine AWq.loop (K := fun e s => k e s = true) (fun i : { i : Nat // i < (chR c cells f c.thr.toNat).last } => I_fb cells c.thr.toNat b7 (chMask c cells f c.thr.toNat) (chNext c cells f c.thr.toNat) ((chp c.thr.toNat f.toNat i.1 : Nat) : Int) c.cells e0 true) (fun i => c.thr.toNat - i.1) ?_ ⟨0, hlast⟩
    rintro ⟨i, hi⟩
    refine AWq.runK hC [1, 3, 7, 8, 9, 13] (n := 100) fun k' hk => ?_
    refine (t_fbb c popS prS cells c.thr.toNat b7 (chMask c cells f c.thr.toNat) (chNext c cells f c.thr.toNat) ((chp c.thr.toNat f.toNat i : Nat) : Int) e0 k').trans ?_
    have A := at_ hok (show i < c.thr.toNat by omega)
    have hnx := A.nx
    rw [hn] at hnx
    have hne : ¬ chMask c cells f c.thr.toNat = 0 := by unfold chMask; omega
    have hthr : ¬ c.3 = 0 := by show ¬ c.thr = 0; omega
    rw [hnx]
    simp only [hne, hthr, decide_false, Bool.not_false, cond_true, cond_false, Int.toNat_natCast, Nat.mul_one]
    refine condI (fun h => ?_) (fun h => ?_)
    · have hx : ¬ i + 1 = (chR c cells f c.thr.toNat).last := fun e => by
        have e2 : (((f.toNat + (i + 1)) % c.thr.toNat : Nat) : Int) = chNext c cells f c.thr.toNat := by unfold chNext; rw [e]
        rw [e2] at h
        simp at h
      refine andI (by rw [A.ins, Bool.true_and]; exact (beq_iff _ _).2 hl) (andI (Nat.ble_eq_true_of_le (by have := A.lt; omega)) (andI A.isb (condI (fun hp => ?_) (fun _ => ?_))))
      · have hon : Int.tmod (ishr .u64 (chMask c cells f c.thr.toNat) ((chp c.thr.toNat f.toNat i : Nat) : Int)) 2 = 1 := by
          unfold chMask
          rw [bit_int (by have := A.lt; omega)]
          have : (chR c cells f c.thr.toNat).mask.testBit (chp c.thr.toNat f.toNat i) = true := chs_on (p := cp cells) (f := f.toNat) (b := c.batch.toNat) h0 hi hp
          rw [this]; rfl
        rw [hon]
        refine condI (fun h => ?_) (fun _ => condI (fun h => by cases h) (fun _ => ?_))
        · have := of_decide_eq_true h; omega
        · exact hk .normal _ ⟨⟨i + 1, by omega⟩, by show c.thr.toNat - (i + 1) < c.thr.toNat - i; omega, Less.refl _⟩
      · exact hk .normal _ ⟨⟨i + 1, by omega⟩, by show c.thr.toNat - (i + 1) < c.thr.toNat - i; omega, Less.refl _⟩
    · exact hk (.exit 2) _ ⟨_, leave _, hG2⟩
theorem fair_ok : LoopsOk (cfg [S_alive, S_ch, SA_size popS prS]) (loopsOf (fcode Tryd.prog 5)) [F_fa, F_fb] := by
  rw [fair_loops]
  exact ⟨fun st k h => P_fa_ok G_fa_ok st k h, fun st k h => P_fb_ok G_fb_ok st k h, trivial⟩
theorem cntT_F (p : Nat → Bool) : ∀ n, cntT p n = cntF p 0 n
  | 0 => rfl
  | n + 1 => by
    show cond (p n) _ _ = cond (p (0 + n)) _ _
    rw [Nat.zero_add, cntT_F p n]
theorem walk (c : Conf) (cells : List AV) (n : Nat) (f : Int) (hl : cells.length = n) (hb : cells.all AV.isB = true) : ACalls Tryd.prog (gmap gs) 5 [c.av, .lst cells n, .int .i64 f] (fun v => v = .bool true) := by
  refine acalls_eqM base (sums_cons s_aliveS (sums_cons s_ch (sums_cons s_sizeA sums_nil))) (n := 300) (fs := [F_fa, F_fb]) (by kernel_rfl) fair_ok fun k hk => ?_
  refine (t_fair c popS prS cells n f k).trans ?_
  refine condI (fun _ => hk) (fun h => ?_)
  have b1 : Nat.beq cells.length n = true := (beq_iff _ _).2 hl
  rw [b1, hb, Bool.true_and, Bool.true_and]
  refine condI (fun h => ?_) (fun h => ?_)
  · have hne : ¬ chErr c n f = 0 := by simpa using h
    have z : ∀ x, zif (chErr c n f) x = 0 := fun x => by simp [zif, hne]
    rw [z, z]
    exact hk
  · have he : chErr c n f = 0 := by simpa using h
    have hok : c.ok = true ∧ (n : Int) = c.thr ∧ 0 ≤ f ∧ f < c.thr := by
      cases ho : c.ok with
      | false => rw [chErr40 ho] at he; cases he
      | true =>
        refine ⟨rfl, ?_⟩
        rcases Decidable.em ((n : Int) = c.thr ∧ 0 ≤ f ∧ f < c.thr) with hh | hh
        · exact hh
        · rw [chErr2 ho hh] at he; cases he
    obtain ⟨ho, hh⟩ := hok
    have hc : chOk c cells n f = true := chOk_true.2 ⟨ok_true.1 ho, hl, hb, hh⟩
    have hO := ok_true.1 ho
    obtain ⟨hn, hf0, hf⟩ := hh
    obtain rfl : n = c.thr.toNat := by omega
    simp only [Conf.OkP] at hO
    have h0 : 0 < c.thr.toNat := by omega
    rw [he]
    have z : ∀ x, zif 0 x = x := fun x => rfl
    simp only [z, hc, decide_true, Bool.true_and]
    have hlt : (chR c cells f c.thr.toNat).mask < 2 ^ c.thr.toNat := chs_lt (p := cp cells) (f := f.toNat) (b := c.batch.toNat) h0 (Nat.le_refl _)
    have h16 : 2 ^ c.thr.toNat ≤ 2 ^ 16 := Nat.pow_le_pow_right (by decide) (by omega)
    have hpr : prS (chMask c cells f c.thr.toNat) = true := by
      have h3 : (chR c cells f c.thr.toNat).mask < 65536 := by omega
      unfold prS chMask
      rw [Bool.and_eq_true, decide_eq_true_eq, decide_eq_true_eq]
      exact ⟨Int.natCast_nonneg _, by omega⟩
    have hpop : popS (chMask c cells f c.thr.toNat) = imin (Int.ofNat (cntT (cp cells) c.thr.toNat)) c.9 := by
      have h1 : popS (chMask c cells f c.thr.toNat) = (((chR c cells f c.thr.toNat).many : Nat) : Int) := by
        unfold popS chMask
        rw [Int.toNat_natCast, ch_cnt hc (Nat.le_refl _)]
      have h2 : (chR c cells f c.thr.toNat).many = min (cntT (cp cells) c.thr.toNat) c.batch.toNat := by
        rw [cntT_F, ← cntR_all (p := cp cells) (f := f.toNat) (thr := c.thr.toNat) (by omega)]
        exact chs_min c.thr.toNat
      rw [h1, h2]
      show _ = imin ((cntT (cp cells) c.thr.toNat : Nat) : Int) c.batch
      unfold imin
      split <;> omega
    have hn0 : 0 ≤ chNext c cells f c.thr.toNat := Int.natCast_nonneg _
    have hn1 : chNext c cells f c.thr.toNat < c.thr := by
      unfold chNext
      have := Nat.mod_lt (f.toNat + (chR c cells f c.thr.toNat).last) h0
      omega
    have hsh : ishr .u64 (chMask c cells f c.thr.toNat) c.3 = 0 := by
      refine (shr_zero' (Int.natCast_nonneg _) (by show 0 ≤ c.thr; omega) (by show c.thr ≤ 64; omega)).2 ?_
      have : ((2 ^ c.thr.toNat : Nat) : Int) = 2 ^ c.thr.toNat := Int.natCast_pow 2 _
      show ((chR c cells f c.thr.toNat).mask : Int) < 2 ^ c.thr.toNat
      rw [← this]
      omega
    have a1 : ¬ chNext c cells f c.thr.toNat < 0 := by omega
    have a2 : ¬ chNext c cells f c.thr.toNat ≥ c.3 := by show ¬ chNext c cells f c.thr.toNat ≥ c.thr; omega
    have a3 : ¬ c.3 < 0 := by show ¬ c.thr < 0; omega
    simp only [hpr, hpop, hsh, a1, a2, a3, decide_true, decide_false, Bool.not_true, cond_false, Bool.true_and, Bool.and_true]
    exact hk
theorem law (c : Conf) (rows : List (List Value)) (f : Int) (c0 : (Lit.int .u8 c.ob).wf = true) (c1 : (Lit.int .i64 c.ins).wf = true) (c2 : (Lit.int .i64 c.thr).wf = true) (c3 : (Lit.int .u8 c.kind).wf = true) (c4 : (Lit.int .i64 c.str).wf = true) (c5 : (Lit.int .i64 c.bits).wf = true) (c6 : (Lit.int .i64 c.cap).wf = true) (c7 : (Lit.int .i64 c.node).wf = true) (c8 : (Lit.int .i64 c.batch).wf = true) (c9 : (Lit.int .i64 c.chunk).wf = true) (c10 : (Lit.int .u64 c.limit).wf = true) (c11 : (Lit.int .u64 c.most).wf = true) (w : ∀ x ∈ rows, CellsOk [.b] x) (m : rows.length ≤ maxLen) (wf : (Lit.int .i64 f).wf = true) : ACalls Tryd.prog (gmap gs) 5 [c.av, .lst (rows.flatten.map ofS) rows.length, .int .i64 f] (fun v => v = .bool true) :=
  walk c _ _ f (bools_cells w).1 (bools_cells w).2
end Go.Bas.BasFair2
