/- Contracts: how a batch is chosen: the loops, and the functions. -/
import Derived.Test.YtakdfjdpjggdkaaDoorBasDChoose
namespace Go.Bas.BasDChoose2
open Go.RowKit Go.Proofs Go.Bas.BasDBase Go.Bas.BasDChoose
set_option maxRecDepth 100000
set_option maxHeartbeats 1000000
set_option linter.unusedVariables false
set_option linter.unusedSimpArgs false

theorem chOk_true {c : Conf} {cells : List AV} {n : Nat} {f : Int} : chOk c cells n f = true ↔ c.OkP ∧ cells.length = n ∧ cells.all AV.isB = true ∧ (n : Int) = c.thr ∧ 0 ≤ f ∧ f < c.thr := by
  simp only [chOk, Bool.and_eq_true, decide_eq_true_eq, beq_iff, ok_true]
theorem iorN {m t : Nat} (hm : m < 65536) (ht : t < 16) (h : m.testBit t = false) : ior .u64 (m : Int) (ishl .u64 1 (t : Int)) = ((m + 2 ^ t : Nat) : Int) := by
  have hp : 2 ^ t < 2 ^ 16 := Nat.pow_lt_pow_right (by decide) ht
  have e1 : ishl .u64 1 (t : Int) = ((2 ^ t : Nat) : Int) := by
    unfold ishl
    have h1 : min (t : Int).toNat IntKind.u64.bits = t := by simp [IntKind.bits]; omega
    rw [h1, Int.one_mul, ← wrapN (a := 2 ^ t) (by omega)]
    congr 1
  rw [e1]
  unfold ior
  rw [held_eq]
  have e : (BitVec.ofInt IntKind.u64.bits (m : Int) ||| BitVec.ofInt IntKind.u64.bits ((2 ^ t : Nat) : Int)).toNat = m ||| 2 ^ t := by
    show (BitVec.ofInt 64 (m : Int) ||| BitVec.ofInt 64 ((2 ^ t : Nat) : Int)).toNat = m ||| 2 ^ t
    rw [BitVec.toNat_or, BitVec.ofInt_natCast, BitVec.ofInt_natCast, BitVec.toNat_ofNat, BitVec.toNat_ofNat, Nat.mod_eq_of_lt (by omega), Nat.mod_eq_of_lt (by omega)]
  rw [e, or_bit h]
  exact wrapN (by omega)
theorem lget_isB {cells : List AV} (h : cells.all AV.isB = true) {t : Nat} (ht : t < cells.length) : (lget cells t).isB = true := by
  rw [lget_eq, List.getD_eq_getElem?_getD, List.getElem?_eq_getElem ht]
  exact List.all_eq_true.1 h _ (List.getElem_mem ht)

/-- What is known at a place of the way round. -/
structure At (c : Conf) (cells : List AV) (n : Nat) (f : Int) (i : Nat) : Prop where
  tm : Int.tmod (IntKind.wrap .i64 (f + (i : Int))) (n : Int) = ((chp n f.toNat i : Nat) : Int)
  lt : chp n f.toNat i < n
  wi : IntKind.wrap .i64 ((i : Int) + 1) = ((i + 1 : Nat) : Int)
  ins : inside ((chp n f.toNat i : Nat) : Int) n = true
  isb : (lget cells (chp n f.toNat i)).isB = true
  nx : Int.tmod (IntKind.wrap .i64 (((chp n f.toNat i : Nat) : Int) + 1)) (n : Int) = (((f.toNat + (i + 1)) % n : Nat) : Int)
theorem at_ {c : Conf} {cells : List AV} {n : Nat} {f : Int} (h : chOk c cells n f = true) {i : Nat} (hi : i < n) : At c cells n f i := by
  obtain ⟨ho, hl, hb, hn, hf0, hf⟩ := chOk_true.1 h
  simp only [Conf.OkP] at ho
  obtain ⟨F, rfl⟩ := Int.eq_ofNat_of_zero_le hf0
  have hn0 : 0 < n := by omega
  have hlt : chp n F i < n := Nat.mod_lt _ hn0
  have htn : (F : Int).toNat = F := Int.toNat_natCast F
  rw [← hn] at hf
  refine ⟨?_, by rw [htn]; exact hlt, wrapS (a := i + 1) (by omega), ?_, ?_, ?_⟩
  · have : (F : Int) + (i : Int) = ((F + i : Nat) : Int) := by omega
    rw [htn, this, wrapS (by omega), Int.tmod_eq_emod_of_nonneg (Int.natCast_nonneg _)]
    exact (Int.natCast_emod _ _).symm
  · rw [htn]
    simp only [inside, Bool.and_eq_true, decide_eq_true_eq]
    omega
  · rw [htn]
    exact lget_isB hb (by omega)
  · have : (((chp n F i : Nat) : Int)) + 1 = ((chp n F i + 1 : Nat) : Int) := by omega
    rw [htn, this, wrapS (by omega), Int.tmod_eq_emod_of_nonneg (Int.natCast_nonneg _), ← Int.natCast_emod]
    unfold chp
    rw [Nat.mod_add_mod, Nat.add_assoc]

def prS (x : Int) : Bool := decide (0 ≤ x) && decide (x < 18446744073709551616)
theorem s_sizeA : SumOk Tryd.prog (gmap gs) (SA_size popS prS) := fun args r h => s_size args r (by
  simp only [SA_size, FA] at h
  split at h
  · exact h
  · cases h)
theorem hC : (cfg [S_check, SA_size popS prS]).Ok := cfg_ok base (sums_cons s_check (sums_cons s_sizeA sums_nil))
theorem it_code : fcode Tryd.prog 51 = .seq (sel [false] (fcode Tryd.prog 51)) (.block 0 (.loop (loopAt (fcode Tryd.prog 51) [0]))) := by kernel_rfl
theorem ch_code : loopN (fcode Tryd.prog 17) 0 = .rangeFunc (.tmp 34) #[35, 36] chA chB := by kernel_rfl

section
variable {c : Conf} {cells : List AV} {f : Int}
theorem chR_take {i : Nat} (h1 : (lget cells (chp c.thr.toNat f.toNat i)).toB = true) (h2 : (chR c cells f i).many < c.batch.toNat) :
    (chR c cells f (i + 1)).mask = (chR c cells f i).mask + 2 ^ chp c.thr.toNat f.toNat i ∧ (chR c cells f (i + 1)).many = (chR c cells f i).many + 1 ∧ (chR c cells f (i + 1)).last = i + 1 := by
  have := chs_take (p := cp cells) (thr := c.thr.toNat) (f := f.toNat) (b := c.batch.toNat) (i := i) h1 h2
  unfold chR
  rw [this]
  exact ⟨rfl, rfl, rfl⟩
theorem chR_skip {i : Nat} (h : (lget cells (chp c.thr.toNat f.toNat i)).toB = false ∨ ¬ (chR c cells f i).many < c.batch.toNat) : chR c cells f (i + 1) = chR c cells f i := chs_skip h
/-- What is known of the chosen ones on the way. -/
theorem ch_facts (h : chOk c cells c.thr.toNat f = true) {i : Nat} (hi : i < c.thr.toNat) : (chR c cells f i).mask < 65536 ∧ chp c.thr.toNat f.toNat i < 16 ∧ (chR c cells f i).mask.testBit (chp c.thr.toNat f.toNat i) = false ∧ (chR c cells f i).many ≤ 16 := by
  obtain ⟨ho, hl, hb, hn, hf0, hf⟩ := chOk_true.1 h
  simp only [Conf.OkP] at ho
  have h0 : 0 < c.thr.toNat := by omega
  have h16 : c.thr.toNat ≤ 16 := by omega
  refine ⟨?_, ?_, chs_unset h0 hi, ?_⟩
  · have h1 : (chR c cells f i).mask < 2 ^ c.thr.toNat := chs_lt (p := cp cells) (f := f.toNat) (b := c.batch.toNat) h0 (Nat.le_of_lt hi)
    have h2 : 2 ^ c.thr.toNat ≤ 2 ^ 16 := Nat.pow_le_pow_right (by decide) h16
    omega
  · have := chp_lt (f := f.toNat) h0 i
    omega
  · have := (chs_bits (p := cp cells) (f := f.toNat) (b := c.batch.toNat) h0 i (Nat.le_of_lt hi))
    unfold chR
    omega
theorem ch_cnt (h : chOk c cells c.thr.toNat f = true) {i : Nat} (hi : i ≤ c.thr.toNat) : cnt 64 (chR c cells f i).mask = (chR c cells f i).many := by
  obtain ⟨ho, hl, hb, hn, hf0, hf⟩ := chOk_true.1 h
  simp only [Conf.OkP] at ho
  exact (chs_bits (p := cp cells) (f := f.toNat) (b := c.batch.toNat) (by omega) i hi).2.2.2.2 (by omega)
end

theorem G_ch_ok : ∀ (cc cells : List AV) (n : Nat) (f x m : Int) (e0 e1 e2 e3 e4 : TypeId) (k : Ex → St → Bool), G_ch cc cells n f x m e0 e1 e2 e3 e4 k = true →
    AWq (cfg [S_check, SA_size popS prS]) (loopN (fcode Tryd.prog 17) 0) (I_ch cc cells n f x m e0 e1 e2 e3 e4) (fun e s => k e s = true) := by
  intro cc cells n f x m e0 e1 e2 e3 e4 k hG
  unfold G_ch at hG
  split at hG
  case h_2 => cases hG
  rename_i c hc
  have hcc : cc = c.cells := AV.agg.inj (confOf_some hc)
  subst hcc
  rcases of_cond2 hG with ⟨hok, hG2⟩ | ⟨_, hG2⟩
  case inr => cases hG2
  clear hG
  simp only [Bool.and_eq_true, eqi, decide_eq_true_eq] at hok hG2
  obtain ⟨hok, rfl, rfl⟩ := hok
  obtain ⟨k1, k2⟩ := hG2
  obtain ⟨ho, hl, hb, hn, hf0, hf⟩ := chOk_true.1 hok
  obtain rfl : n = c.thr.toNat := by omega
  have ho' := ho
  simp only [Conf.OkP] at ho'
  have hb0 : 0 < c.batch.toNat := by omega
  obtain ⟨fn, hfn, hbd, hnt, hrs⟩ := fn_is (P := Tryd.prog) (f := 51) (n := 26) (r := 0) (by kernel_rfl)
  rw [ch_code]
  refine AWq.rangeF hC (f := 51) (first := []) (cap := [.ptr 3 0, .ptr 4 0]) rfl hfn hbd rfl rfl (List.eq_nil_of_length_eq_zero hrs) ?_
  rw [hnt, it_code]
  show AWp _ none _ ⟨padL [.yld 6, .ptr 3 0, .ptr 4 0] 26, [], M_it 0 none c.cells cells c.thr.toNat x x 0 e0 e1 e2 e3 e4⟩ _
  refine AWp.seq (AWp.runK hC [0, 1, 2, 7, 8] (n := 100) fun k' hk => ?_)
  refine (t_it0 c.cells popS prS cells c.thr.toNat x x 0 0 e0 e1 e2 e3 e4 k').trans ?_
  refine hk .normal _ ?_
  have hst : I_it c.cells cells c.thr.toNat x x 0 e0 e1 e2 e3 e4 0 = I_it c.cells cells c.thr.toNat x (chNext c cells x 0) (chMask c cells x 0) e0 e1 e2 e3 e4 ((0 : Nat) : Int) := by
    have : chNext c cells x 0 = x := by
      show (((x.toNat + 0) % c.thr.toNat : Nat) : Int) = x
      rw [Nat.add_zero, Nat.mod_eq_of_lt (by omega)]
      omega
    rw [this]
    rfl
  show AWp _ none _ (I_it c.cells cells c.thr.toNat x x 0 e0 e1 e2 e3 e4 0) _
  rw [hst]
  refine AWp.block (AWp.mono ?_ (AWp.loopL (K := fun e s => (e = .exit 0 ∨ e = .ret) ∧ s.ds = [] ∧ afterK (cfg [S_check, SA_size popS prS]) (I_ch c.cells cells c.thr.toNat x x 0 e0 e1 e2 e3 e4) k 6 [5] (msort s.m) = true)
    (fun i : { i : Nat // i ≤ c.thr.toNat ∧ (chR c cells x i).many < c.batch.toNat } => I_it c.cells cells c.thr.toNat x (chNext c cells x i.1) (chMask c cells x i.1) e0 e1 e2 e3 e4 ((i.1 : Nat) : Int)) (fun i => c.thr.toNat - i.1) ?_ ⟨0, Nat.zero_le _, hb0⟩))
  · rintro e s ⟨rfl | rfl, h1, h2⟩
    · exact ⟨fun _ => ⟨.inr rfl, h1, h2⟩, fun h => absurd rfl h⟩
    · exact ⟨.inl rfl, h1, h2⟩
  · rintro ⟨i, hi, hm⟩
    refine AWp.runK hC [0, 1, 2, 7, 8] (n := 100) fun k' hk => ?_
    refine (t_itb c popS prS cells c.thr.toNat x (chNext c cells x i) (chMask c cells x i) ((i : Nat) : Int) e0 e1 e2 e3 e4 k').trans ?_
    refine condI (fun h => ?_) (fun h => ?_)
    · have hlt : i < c.thr.toNat := by have := of_decide_eq_true h; exact Int.ofNat_lt.1 this
      have A := at_ hok hlt
      obtain ⟨f1, f2, f3, f4⟩ := ch_facts hok hlt
      have htm := A.tm
      rw [show Int.ofNat c.thr.toNat = ((c.thr.toNat : Nat) : Int) from rfl, htm]
      refine condI (fun h0 => ?_) (fun _ => ?_)
      · have := of_decide_eq_true h0; omega
      simp only [Int.toNat_natCast, Nat.mul_one]
      refine andI (by rw [A.ins, Bool.true_and]; exact (beq_iff _ _).2 (by omega)) (andI (Nat.ble_eq_true_of_le (by have := A.lt; omega)) (andI A.isb (condI (fun hp => ?_) (fun hp => ?_))))
      · have hp : (lget cells (chp c.thr.toNat x.toNat i)).toB = false := by simpa using hp
        have e := chR_skip (c := c) (cells := cells) (f := x) (i := i) (.inl hp)
        rw [A.wi]
        refine hk .normal _ ⟨⟨i + 1, hlt, by rw [e]; exact hm⟩, by show c.thr.toNat - (i + 1) < c.thr.toNat - i; omega, ?_⟩
        have q1 : chNext c cells x (i + 1) = chNext c cells x i := by unfold chNext; rw [e]
        have q2 : chMask c cells x (i + 1) = chMask c cells x i := by unfold chMask; rw [e]
        show LessS _ _ (I_it c.cells cells c.thr.toNat x (chNext c cells x (i + 1)) (chMask c cells x (i + 1)) e0 e1 e2 e3 e4 ((i + 1 : Nat) : Int))
        rw [q1, q2]
        exact LessS.refl _
      · have hp : (lget cells (chp c.thr.toNat x.toNat i)).toB = true := by simpa using hp
        obtain ⟨g1, g2, g3⟩ := chR_take hp hm
        have m1 : ior .u64 (chMask c cells x i) (ishl .u64 1 ((chp c.thr.toNat x.toNat i : Nat) : Int)) = chMask c cells x (i + 1) := by
          unfold chMask
          rw [g1]
          exact iorN f1 f2 f3
        have n1 : Int.tmod (IntKind.wrap .i64 (((chp c.thr.toNat x.toNat i : Nat) : Int) + 1)) c.3 = chNext c cells x (i + 1) := by
          unfold chNext
          rw [g3, ← A.nx, hn]
        have p1 : popS (chMask c cells x (i + 1)) = (((chR c cells x i).many + 1 : Nat) : Int) := by
          unfold popS chMask
          rw [Int.toNat_natCast, ch_cnt hok hlt, g2]
        have pr : (prS (chMask c cells x (i + 1))) = true := by
          have : (chR c cells x (i + 1)).mask < 2 ^ c.thr.toNat := chs_lt (p := cp cells) (f := x.toNat) (b := c.batch.toNat) (by omega) hlt
          have h2 : 2 ^ c.thr.toNat ≤ 2 ^ 16 := Nat.pow_le_pow_right (by decide) (by omega)
          have h3 : (chR c cells x (i + 1)).mask < 65536 := by omega
          unfold prS chMask
          rw [Bool.and_eq_true, decide_eq_true_eq, decide_eq_true_eq]
          exact ⟨Int.natCast_nonneg _, by omega⟩
        rw [m1, n1, p1, pr, A.wi]
        refine condI (fun h0 => ?_) (fun _ => condI (fun h0 => ?_) (fun _ => andI rfl (condI (fun hf => ?_) (fun hf => ?_))))
        · have := of_decide_eq_true h0; omega
        · have := of_decide_eq_true h0; omega
        · have hf := of_decide_eq_true hf
          have hfull : chR c cells x c.thr.toNat = chR c cells x (i + 1) := by
            have := chs_full (p := cp cells) (thr := c.thr.toNat) (f := x.toNat) (b := c.batch.toNat) (i := i + 1) (by show ¬ (chR c cells x (i + 1)).many < _; omega) (c.thr.toNat - (i + 1))
            rw [show i + 1 + (c.thr.toNat - (i + 1)) = c.thr.toNat by omega] at this
            exact this
          have q1 : chNext c cells x c.thr.toNat = chNext c cells x (i + 1) := by unfold chNext; rw [hfull]
          have q2 : chMask c cells x c.thr.toNat = chMask c cells x (i + 1) := by unfold chMask; rw [hfull]
          refine hk .ret _ ⟨_, LessS.refl _, .inr rfl, rfl, ?_⟩
          unfold J_ch at k2
          rw [q1, q2] at k2
          exact k2
        · have hf := of_decide_eq_false hf
          refine hk .normal _ ⟨⟨i + 1, hlt, by rw [g2]; omega⟩, by show c.thr.toNat - (i + 1) < c.thr.toNat - i; omega, ?_⟩
          exact LessS.refl _
    · have hge : i = c.thr.toNat := by have := of_decide_eq_false h; have : ¬ i < c.thr.toNat := fun hh => this (Int.ofNat_lt.2 hh); omega
      subst hge
      refine hk (.exit 0) _ ⟨_, LessS.refl _, .inl rfl, rfl, ?_⟩
      exact k1

theorem ch_loops : loopsOf (fcode Tryd.prog 17) = [loopN (fcode Tryd.prog 17) 0] := by kernel_rfl
theorem ch_ok : LoopsOk (cfg [S_check, SA_size popS prS]) (loopsOf (fcode Tryd.prog 17)) [F_ch] := by
  rw [ch_loops]
  exact ⟨fun st k h => P_ch_ok G_ch_ok st k h, trivial⟩
noncomputable def S_ch : Sum := (17, Fch)
theorem chErr0 {c : Conf} {n : Nat} {f : Int} (h1 : c.ok = true) (h2 : (n : Int) = c.thr ∧ 0 ≤ f ∧ f < c.thr) : chErr c n f = 0 := by simp [chErr, h1, h2]
theorem chErr2 {c : Conf} {n : Nat} {f : Int} (h1 : c.ok = true) (h2 : ¬ ((n : Int) = c.thr ∧ 0 ≤ f ∧ f < c.thr)) : chErr c n f = 2 := by simp [chErr, h1, h2]
theorem chErr40 {c : Conf} {n : Nat} {f : Int} (h1 : c.ok = false) : chErr c n f = 40 := by simp [chErr, h1]
theorem chAV_of {c : Conf} {cells : List AV} {n : Nat} {f e : Int} (h : chErr c n f = e) (he : ¬ e = 0) : chAV c cells n f = .tup [.int .u64 0, .int .i64 0, .int .i64 e] := by
  simp [chAV, zif, h, he]
theorem chAV_ok {c : Conf} {cells : List AV} {n : Nat} {f : Int} (h : chErr c n f = 0) : chAV c cells n f = .tup [.int .u64 (chMask c cells f c.thr.toNat), .int .i64 (chNext c cells f c.thr.toNat), .int .i64 0] := by
  simp [chAV, zif, h]
theorem s_ch : SumOk Tryd.prog (gmap gs) S_ch := fun args r hr => by
  simp only [S_ch] at hr
  unfold Fch at hr
  split at hr
  case h_2 => cases hr
  rename_i a b f
  split at hr
  case h_2 => cases hr
  rename_i c hc
  cases confOf_some hc
  split at hr
  · rename_i cells n
    simp only [Option.some.injEq, Prod.mk.injEq, Bool.and_eq_true, beq_iff] at hr
    obtain ⟨⟨h1, h2⟩, rfl⟩ := hr
    refine acalls_eqM base (sums_cons s_check (sums_cons s_sizeA sums_nil)) (n := 300) (fs := [F_ch]) (by kernel_rfl) ch_ok fun k hk => ?_
    refine (t_ch c popS prS cells n f k).trans ?_
    cases ho : c.ok with
    | false =>
      have he : errC c = 40 := by simp [errC, ho]
      rw [chAV_of (chErr40 ho) (by decide)] at hk
      rw [he]
      exact hk
    | true =>
      have he : errC c = 0 := by simp [errC, ho]
      rw [he]
      by_cases hh : (n : Int) = c.thr ∧ 0 ≤ f ∧ f < c.thr
      · rw [chAV_ok (chErr0 ho hh)] at hk
        have a1 : (Int.ofNat n) = c.3 := hh.1
        have a2 : ¬ f < 0 := by omega
        have a3 : ¬ f ≥ c.3 := by show ¬ f ≥ c.thr; omega
        have a4 : chOk c cells n f = true := chOk_true.2 ⟨ok_true.1 ho, h1, h2, hh⟩
        simp only [a1, a2, a3, a4, decide_true, decide_false, Bool.not_true, Bool.not_false, cond_true, cond_false, Bool.true_and, Bool.and_true]
        rw [Bool.and_self]
        exact hk
      · rw [chAV_of (chErr2 ho hh) (by decide)] at hk
        refine condI (fun h => by simp at h) (fun _ => condI (fun _ => hk) (fun a1 => condI (fun _ => hk) (fun a2 => condI (fun _ => hk) (fun a3 => absurd ?_ hh))))
        simp only [Bool.not_eq_false', decide_eq_true_eq, decide_eq_false_iff_not] at a1 a2 a3
        exact ⟨a1, by omega, by have : ¬ f ≥ c.thr := a3; omega⟩
  · simp only [Option.some.injEq, Prod.mk.injEq, true_and] at hr
    obtain rfl := hr
    refine acalls_eqM base (sums_cons s_check (sums_cons s_sizeA sums_nil)) (n := 300) (fs := [F_ch]) (by kernel_rfl) ch_ok fun k hk => ?_
    refine (t_ch0 c popS prS f k).trans ?_
    cases ho : c.ok with
    | false =>
      have he : errC c = 40 := by simp [errC, ho]
      rw [chAV_of (chErr40 ho) (by decide)] at hk
      rw [he]
      exact hk
    | true =>
      have he : errC c = 0 := by simp [errC, ho]
      have ht := ok_true.1 ho
      simp only [Conf.OkP] at ht
      rw [chAV_of (chErr2 ho (by omega)) (by decide)] at hk
      rw [he]
      have a1 : ¬ (0 : Int) = c.3 := by show ¬ (0 : Int) = c.thr; omega
      simp only [a1, decide_true, decide_false, Bool.not_true, Bool.not_false, cond_true, cond_false]
      exact hk
  · simp only [Option.some.injEq, Prod.mk.injEq, true_and] at hr
    obtain rfl := hr
    refine acalls_eqM base (sums_cons s_check (sums_cons s_sizeA sums_nil)) (n := 300) (fs := [F_ch]) (by kernel_rfl) ch_ok fun k hk => ?_
    refine (t_ch1 c popS prS f k).trans ?_
    cases ho : c.ok with
    | false =>
      have he : errC c = 40 := by simp [errC, ho]
      rw [chAV_of (chErr40 ho) (by decide)] at hk
      rw [he]
      exact hk
    | true =>
      have he : errC c = 0 := by simp [errC, ho]
      have ht := ok_true.1 ho
      simp only [Conf.OkP] at ht
      rw [chAV_of (chErr2 ho (by omega)) (by decide)] at hk
      rw [he]
      have a1 : ¬ (0 : Int) = c.3 := by show ¬ (0 : Int) = c.thr; omega
      simp only [a1, decide_true, decide_false, Bool.not_true, Bool.not_false, cond_true, cond_false]
      exact hk
  · cases hr
end Go.Bas.BasDChoose2
