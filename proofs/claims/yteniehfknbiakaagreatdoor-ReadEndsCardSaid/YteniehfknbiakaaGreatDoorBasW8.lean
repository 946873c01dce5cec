/- Plain law: what each act makes of a reading; Plain law: where the item stands that a reading of an index reads; it may be where it is; What a reading's act is, by where it is; when a frame of a reading may be; Plain law: what a frame of a reading is by its parts; settings' paths; The engine, part Tw: more shapes of arguments; Contracts with no law of their own: the program of settings. -/
import Derived.Test.YteniehfknbiakaaGreatDoorBasW6
import Derived.Test.YteniehfknbiakaaGreatDoorBasW7
section
namespace Go.Bas.BasZRdL
open Go.RowKit Go.Proofs
open Go.Bas.BasZBase Go.Bas.BasZRank Go.Bas.BasZLev Go.Bas.BasZRank3 Go.Bas.BasZTreB Go.Bas.BasZTre Go.Bas.BasEnds Go.Bas.BasZRdA
set_option maxRecDepth 100000
set_option linter.unusedVariables false
set_option linter.unusedSimpArgs false
theorem nfd {p : Prop} [Decidable p] (h : decide p = true) : (!decide p) = false := by rw [h]; rfl
theorem wi {i : Int} (h0 : 0 ≤ i) (h : i ≤ 255) : IntKind.wrap .i64 i = i := by
  simp only [IntKind.wrap, IntKind.signed, IntKind.bits]
  (try simp) <;> omega
theorem w8i {i : Int} (h0 : 0 ≤ i) (h : i ≤ 255) : IntKind.wrap .u8 i = i := by
  simp only [IntKind.wrap, IntKind.signed, IntKind.bits]
  (try simp) <;> omega
theorem w32i {i : Int} (h0 : 0 ≤ i) (h : i ≤ 255) : IntKind.wrap .u32 i = i := by
  simp only [IntKind.wrap, IntKind.signed, IntKind.bits]
  (try simp) <;> omega
theorem w64i {i : Int} (h0 : 0 ≤ i) (h : i ≤ 255) : IntKind.wrap .u64 i = i := by
  simp only [IntKind.wrap, IntKind.signed, IntKind.bits]
  (try simp) <;> omega
theorem capP {c : Conf} (hk : c.OkP) : 1 ≤ c.cap ∧ c.cap ≤ 32 := by unfold Conf.OkP at hk; omega
theorem bitP {c : Conf} (hk : c.OkP) (ho : c.ob = 1) : 1 ≤ c.bits ∧ c.bits ≤ 6 := by unfold Conf.OkP at hk; omega
theorem ixP {c : Conf} (hk : c.OkP) (ho : c.ob = 2) : 2 ≤ c.node ∧ c.node ≤ 4 ∧ 1 ≤ c.chunk ∧ c.chunk ≤ 8 := by unfold Conf.OkP at hk; omega
theorem ok_of {e : Int} {told : Bool} {k1 a1 b1 pc1 i1 j1 n1 p1 h1 : Int} {c : Conf} {k a b pc i j n p h : Int} (q : STEP c k a b pc i j n p h e told k1 a1 b1 pc1 i1 j1 n1 p1 h1) : okX e told k1 a1 b1 pc1 i1 j1 n1 p1 h1 c k a b pc i j n p h = true := @decide_eq_true _ (Classical.propDecidable _) q
/-! Routes. -/
theorem inv3 {c : Conf} {a b pc i j n p h : Int} (hI : INV c 3 a b pc i j n p h) : c.ob = 1 ∧ (pc = 0 ∨ pc = 6 ∨ pc = 8) ∧ 0 ≤ h ∧ h ≤ c.bits := by
  rcases hI with q | q | q | q
  · exact q.2
  · exact absurd q.1 (by decide)
  · exact absurd q.1 (by decide)
  · exact absurd q.1 (by decide)
theorem mu3_0 {c : Conf} {a b i j n p h : Int} : MU c 3 a b 0 i j n p h = c.bits - h + 1 := rfl
theorem mu3_e {c : Conf} {a b pc i j n p h : Int} (hp : pc ≠ 0) : MU c 3 a b pc i j n p h = 0 := by
  show cond (decide (pc = 0)) (c.bits - h + 1) 0 = 0
  rw [decide_eq_false hp]; rfl
theorem l3_e {c : Conf} {a b i j n p h pc i1 j1 n1 p1 : Int} (hI : INV c 3 a b 0 i j n p h) (hp : pc = 6 ∨ pc = 8) : okX 0 false 3 a b pc i1 j1 n1 p1 h c 3 a b 0 i j n p h = true := by
  have q := inv3 hI
  refine ok_of ⟨rfl, rfl, rfl, rfl, .inl ⟨rfl, q.1, .inr hp, q.2.2⟩, ?_, Int.le_refl 0⟩
  rw [mu3_0, mu3_e (by omega)]
  omega
theorem l3_0 {c : Conf} {a b i j n p h i1 j1 n1 p1 : Int} (hk : c.OkP) (hI : INV c 3 a b 0 i j n p h) (hn : decide (IntKind.wrap .i64 h < c.bits) = true) : okX 0 false 3 a b 0 i1 j1 n1 p1 (IntKind.wrap .u8 (h + 1)) c 3 a b 0 i j n p h = true := by
  have q := inv3 hI
  have hb := bitP hk q.1
  have hn := of_decide_eq_true hn
  rw [wi q.2.2.1 (by omega)] at hn
  rw [w8i (by omega) (by omega)]
  refine ok_of ⟨rfl, rfl, rfl, rfl, .inl ⟨rfl, q.1, .inl rfl, by omega, by omega⟩, ?_, Int.le_refl 0⟩
  rw [mu3_0, mu3_0]
  omega
theorem sub_nn {c : Conf} {a b i j n p h : Int} (hk : c.OkP) (hI : INV c 3 a b 0 i j n p h) : decide (IntKind.wrap .i64 (c.bits - IntKind.wrap .i64 h) < 0) = false := by
  have q := inv3 hI
  have hb := bitP hk q.1
  rw [wi q.2.2.1 (by omega), wi (by omega) (by omega)]
  exact decide_eq_false (by omega)
theorem bits_nn {c : Conf} {a b i j n p h : Int} (hk : c.OkP) (hI : INV c 3 a b 0 i j n p h) : decide (c.bits < 0) = false := by
  have hb := bitP hk (inv3 hI).1
  exact decide_eq_false (by omega)
theorem le_bits {c : Conf} {a b i j n p h : Int} (hk : c.OkP) (hI : INV c 3 a b 0 i j n p h) : decide (IntKind.wrap .u32 h ≤ IntKind.wrap .u32 c.bits) = true := by
  have q := inv3 hI
  have hb := bitP hk q.1
  rw [w32i q.2.2.1 (by omega), w32i (by omega) (by omega)]
  exact decide_eq_true (by omega)
/-! Rules. -/
theorem inv11 {c : Conf} {a b pc i j n p h : Int} (hI : INV c 11 a b pc i j n p h) : c.ob = 3 ∧ (pc = 0 ∨ pc = 20) ∧ 0 ≤ i ∧ i < c.cap ∧ j = 0 ∧ h = 0 := by
  rcases hI with q | q | q | q
  · exact absurd q.1 (by decide)
  · exact q.2
  · exact absurd q.1 (by decide)
  · exact absurd q.1 (by decide)
theorem l11_20 {c : Conf} {a b i j n p h n1 p1 : Int} (hI : INV c 11 a b 0 i j n p h) : okX 0 false 11 a b 20 i j n1 p1 h c 11 a b 0 i j n p h = true := by
  have q := inv11 hI
  refine ok_of ⟨rfl, rfl, rfl, rfl, .inr (.inl ⟨rfl, q.1, .inr rfl, q.2.2⟩), ?_, Int.le_refl 0⟩
  show (0 : Int) + 1 ≤ c.cap - i
  omega
theorem l11_0 {c : Conf} {a b i j n p h n1 p1 : Int} (hk : c.OkP) (hI : INV c 11 a b 0 i j n p h) (hn : decide (IntKind.wrap .i64 (IntKind.wrap .i64 i + 1) = c.cap) = false) : okX 0 false 11 a b 0 (IntKind.wrap .u8 (i + 1)) j n1 p1 h c 11 a b 0 i j n p h = true := by
  have q := inv11 hI
  have hc := capP hk
  have hn := of_decide_eq_false hn
  rw [wi q.2.2.1 (by omega), wi (by omega) (by omega)] at hn
  rw [w8i (by omega) (by omega)]
  refine ok_of ⟨rfl, rfl, rfl, rfl, .inr (.inl ⟨rfl, q.1, .inl rfl, by omega, by omega, q.2.2.2.2⟩), ?_, Int.le_refl 0⟩
  show c.cap - (i + 1) + 1 ≤ c.cap - i
  omega
theorem in_cap {c : Conf} {a b i j n p h : Int} (hk : c.OkP) (hI : INV c 11 a b 0 i j n p h) : decide (IntKind.wrap .i64 i ≥ c.cap) = false ∧ decide (IntKind.wrap .i64 j ≥ c.cap) = false ∧ decide (h > 1) = false := by
  have q := inv11 hI
  have hc := capP hk
  rw [wi q.2.2.1 (by omega), wi (by omega) (by omega)]
  exact ⟨decide_eq_false (by omega), decide_eq_false (by omega), decide_eq_false (by omega)⟩
/-! An index. -/
theorem invI {c : Conf} {k a b pc i j n p h : Int} (hk : k = 6 ∨ k = 7 ∨ k = 8) (hI : INV c k a b pc i j n p h) : c.ob = 2 ∧ IX c k pc i j n p h := by
  rcases hI with q | q | q | q
  · exact absurd q.1 (by omega)
  · exact absurd q.1 (by omega)
  · exact absurd q.1 (by omega)
  · exact q.2
theorem okI {c : Conf} {k a b pc i j n p h e : Int} {told : Bool} {pc1 i1 j1 n1 p1 h1 : Int} (hk : k = 6 ∨ k = 7 ∨ k = 8) (ho : c.ob = 2) (he : e = 0) (hx : IX c k pc1 i1 j1 n1 p1 h1) (hm : MU c k a b pc1 i1 j1 n1 p1 h1 + 1 ≤ MU c k a b pc i j n p h) (hr : RHO c k pc1 n1 p1 + cond told 1 0 ≤ RHO c k pc n p) : okX e told k a b pc1 i1 j1 n1 p1 h1 c k a b pc i j n p h = true :=
  ok_of ⟨he, rfl, rfl, rfl, .inr (.inr (.inr ⟨hk, ho, hx⟩)), hm, hr⟩
/-! What is left, by where a reading is. -/
theorem mu_0 {c : Conf} {k a b i j n p h : Int} (hk : k = 6 ∨ k = 7 ∨ k = 8) : MU c k a b 0 i j n p h = 1 + c.node * (lvN c.cap c.node : Int) + xI c k := by
  rcases hk with rfl | rfl | rfl <;> rfl
theorem mu_1 {c : Conf} {k a b i j n p h : Int} (hk : k = 6 ∨ k = 7 ∨ k = 8) : MU c k a b 1 i j n p h = muI c.node h i + xI c k := by
  rcases hk with rfl | rfl | rfl <;> rfl
theorem mu_3 {c : Conf} {a b i j n p h : Int} : MU c 7 a b 3 i j n p h = 1 := rfl
theorem mu_16 {c : Conf} {a b i j n p h : Int} : MU c 8 a b 16 i j n p h = 1 + nuI c.chunk 0 (n - p - 1) := rfl
theorem mu_17 {c : Conf} {a b i j n p h : Int} : MU c 8 a b 17 i j n p h = nuI c.chunk j (n - p) := rfl
theorem mu_e {c : Conf} {k a b pc i j n p h : Int} (hk : k = 6 ∨ k = 7 ∨ k = 8) (hp : pc = 20 ∨ pc = 21 ∨ pc = 23) : MU c k a b pc i j n p h = 0 := by
  rcases hk with rfl | rfl | rfl <;> rcases hp with rfl | rfl | rfl <;> rfl
theorem x_6 {c : Conf} : xI c 6 = 0 := rfl
theorem x_7 {c : Conf} : xI c 7 = 1 := rfl
theorem x_8 {c : Conf} : xI c 8 = ((c.cap.toNat + c.cap.toNat / c.chunk.toNat : Nat) : Int) := rfl
theorem x_nn {c : Conf} {k : Int} : 0 ≤ xI c k := by
  unfold xI
  cases decide (k = 8) with
  | true => exact Int.natCast_nonneg _
  | false => cases decide (k = 7) with
    | true => exact (by decide : (0 : Int) ≤ 1)
    | false => exact Int.le_refl 0
theorem mI_pos {w h i : Int} (hw : 2 ≤ w) : 1 ≤ muI w h i := by
  have := mu_pos (w := w.toNat) (h := h.toNat) (i := i.toNat) (by omega)
  unfold muI
  omega
theorem nI_nn {d j r : Int} : 0 ≤ nuI d j r := Int.natCast_nonneg _
theorem nI_pos {d j r : Int} (hr : 1 ≤ r) : 1 ≤ nuI d j r := by
  have h1 : 1 ≤ r.toNat := by omega
  unfold nuI nu
  generalize (j.toNat + r.toNat) / d.toNat = z
  omega
/-- A row that fills what is given out at once. -/
theorem nI_give {d j r : Int} (hd : 1 ≤ d) (hj : j + 1 = d) (hr : 1 ≤ r) : 2 + nuI d 0 (r - 1) ≤ nuI d j r := by
  obtain ⟨D, rfl⟩ := Int.eq_ofNat_of_zero_le (show 0 ≤ d by omega)
  obtain ⟨J, rfl⟩ : ∃ J : Nat, j = (J : Int) := ⟨j.toNat, by omega⟩
  obtain ⟨R, rfl⟩ : ∃ R : Nat, r = ((R + 1 : Nat) : Int) := ⟨(r - 1).toNat, by omega⟩
  unfold nuI
  have e1 : ((R + 1 : Nat) : Int).toNat = R + 1 := rfl
  have e2 : (((R + 1 : Nat) : Int) - 1).toNat = R := by omega
  have e3 : ((D : Nat) : Int).toNat = D := rfl
  have e4 : ((J : Nat) : Int).toNat = J := rfl
  rw [e1, e2, e3, e4]
  have h0 : (0 : Int).toNat = 0 := rfl
  rw [h0]
  unfold nu
  have h1 : J + (R + 1) = R + D := by omega
  rw [h1, Nat.add_div_right _ (by omega), Nat.zero_add]
  omega
theorem nI_next {d j r : Int} (hj0 : 0 ≤ j) (hj : j + 1 < d) (hr : 1 ≤ r) : nuI d (j + 1) (r - 1) + 1 ≤ nuI d j r := by
  have h := nu_next (d := d.toNat) (j := j.toNat) (r := r.toNat) (by omega) (by omega)
  unfold nuI
  have e1 : (j + 1).toNat = j.toNat + 1 := by omega
  have e2 : (r - 1).toNat = r.toNat - 1 := by omega
  rw [e1, e2]
  omega
theorem nI_le {c : Conf} {r : Int} (hr : r ≤ c.cap) (hc : 0 ≤ c.cap) : nuI c.chunk 0 r ≤ xI c 8 := by
  have h := nu_le (d := c.chunk.toNat) (r := r.toNat) (c := c.cap.toNat) (by omega)
  rw [x_8]
  unfold nuI
  have h0 : (0 : Int).toNat = 0 := rfl
  rw [h0]
  exact Int.ofNat_le.2 h
/-! Behind the first cell. -/
theorem n_is {c : Conf} {l : Int} (hk : c.OkP) (hl : 0 ≤ l) : IntKind.wrap .u8 (imin l (IntKind.wrap .u64 c.cap)) = imin l (IntKind.wrap .u64 c.cap) ∧ 0 ≤ imin l (IntKind.wrap .u64 c.cap) ∧ imin l (IntKind.wrap .u64 c.cap) ≤ c.cap := by
  have hc := capP hk
  rw [w64i (by omega) (by omega)]
  have h : 0 ≤ imin l c.cap ∧ imin l c.cap ≤ c.cap := by
    unfold imin
    split <;> omega
  exact ⟨w8i h.1 (by omega), h⟩
theorem rho_e {c : Conf} {k pc n p : Int} (hk : k = 6 ∨ k = 7 ∨ k = 8) (hp : pc = 20 ∨ pc = 21 ∨ pc = 23) : RHO c k pc n p = 0 := by
  rcases hk with rfl | rfl | rfl <;> rcases hp with rfl | rfl | rfl <;> rfl
theorem rho_01 {c : Conf} {k n p n1 p1 : Int} : RHO c k 1 n1 p1 = RHO c k 0 n p := by
  unfold RHO
  cases decide (k = 8) <;> cases decide (k = 7) <;> rfl
theorem rho_1 {c : Conf} {k n p : Int} (hk : k = 6 ∨ k = 7 ∨ k = 8) : RHO c k 1 n p = cond (decide (k = 8)) c.cap (cond (decide (k = 7)) 1 0) := by
  rcases hk with rfl | rfl | rfl <;> rfl
theorem rho_nn {c : Conf} {k n p : Int} (hk : k = 6 ∨ k = 7 ∨ k = 8) (hc : 1 ≤ c.cap) : 0 ≤ RHO c k 1 n p ∧ (k = 7 ∨ k = 8 → 1 ≤ RHO c k 1 n p) := by
  rw [rho_1 hk]
  rcases hk with rfl | rfl | rfl
  · exact ⟨Int.le_refl 0, fun h => absurd h (by omega)⟩
  · exact ⟨(by decide : (0 : Int) ≤ 1), fun _ => (by decide : (1 : Int) ≤ 1)⟩
  · exact ⟨show 0 ≤ c.cap by omega, fun _ => show 1 ≤ c.cap from hc⟩
theorem tl {t : Bool} : (cond t 1 0 : Int) ≤ 1 ∧ (0 : Int) ≤ cond t 1 0 := by cases t <;> simp
/-- Where it may be at an end. -/
def eP (k pc : Int) : Prop := pc = 20 ∧ (k = 7 ∨ k = 8) ∨ pc = 21 ∧ (k = 6 ∨ k = 7) ∨ pc = 23 ∧ k = 6
theorem eP_pc {k pc : Int} (h : eP k pc) : pc = 20 ∨ pc = 21 ∨ pc = 23 := by
  unfold eP at h
  omega
theorem ix_e {c : Conf} {k pc i j n p h pc1 p1 : Int} (hx : IX c k pc i j n p h) (hp : eP k pc1) (h1 : 0 ≤ p1 ∧ p1 ≤ c.cap) {j1 n1 : Int} (hj : 0 ≤ j1 ∧ j1 < c.chunk) (hn : 0 ≤ n1 ∧ n1 ≤ c.cap) : IX c k pc1 i j1 n1 p1 h := by
  refine ⟨⟨hx.1.1, hx.1.2.1, hj.1, hn.1, hn.2, h1.1, h1.2, hx.1.2.2.2.2.2.2.2⟩, ?_⟩
  rcases hp with ⟨rfl, q⟩ | ⟨rfl, q⟩ | ⟨rfl, q⟩
  · exact .inr (.inr (.inr (.inr (.inr (.inl ⟨rfl, q, hj.2⟩)))))
  · exact .inr (.inr (.inr (.inr (.inr (.inr (.inl ⟨rfl, q, hj.2⟩))))))
  · exact .inr (.inr (.inr (.inr (.inr (.inr (.inr ⟨rfl, q, hj.2⟩))))))
theorem ix_0 {c : Conf} {k i j n p h : Int} (hx : IX c k 0 i j n p h) : j = 0 := by
  obtain ⟨_, q⟩ := hx
  rcases q with q | q | q | q | q | q | q | q
  · exact q.2
  all_goals exact absurd q.1 (by decide)
theorem ix_1 {c : Conf} {k i j n p h : Int} (hx : IX c k 1 i j n p h) : j = 0 ∧ 1 ≤ n ∧ i < cI c.node n h := by
  obtain ⟨_, q⟩ := hx
  rcases q with q | q | q | q | q | q | q | q
  · exact absurd q.1 (by decide)
  · exact q.2
  all_goals exact absurd q.1 (by decide)
theorem ix_3 {c : Conf} {k i j n p h : Int} (hx : IX c k 3 i j n p h) : k = 7 ∧ j = 0 ∧ 1 ≤ p := by
  obtain ⟨_, q⟩ := hx
  rcases q with q | q | q | q | q | q | q | q
  · exact absurd q.1 (by decide)
  · exact absurd q.1 (by decide)
  · exact q.2
  all_goals exact absurd q.1 (by decide)
theorem ix_16 {c : Conf} {k i j n p h : Int} (hx : IX c k 16 i j n p h) : k = 8 ∧ j = c.chunk ∧ p < n := by
  obtain ⟨_, q⟩ := hx
  rcases q with q | q | q | q | q | q | q | q
  · exact absurd q.1 (by decide)
  · exact absurd q.1 (by decide)
  · exact absurd q.1 (by decide)
  · exact q.2
  all_goals exact absurd q.1 (by decide)
theorem ix_17 {c : Conf} {k i j n p h : Int} (hx : IX c k 17 i j n p h) : k = 8 ∧ j < c.chunk ∧ p < n := by
  obtain ⟨_, q⟩ := hx
  rcases q with q | q | q | q | q | q | q | q
  · exact absurd q.1 (by decide)
  · exact absurd q.1 (by decide)
  · exact absurd q.1 (by decide)
  · exact absurd q.1 (by decide)
  · exact q.2
  all_goals exact absurd q.1 (by decide)
theorem lvP {c : Conf} (hk : c.OkP) (ho : c.ob = 2) : 1 ≤ (lvN c.cap c.node : Int) ∧ (lvN c.cap c.node : Int) ≤ 5 := by
  have hc := capP hk
  have hx := ixP hk ho
  have q := lvN_is (n := c.cap) (w := c.node) (by rw [width_is]; simp only [Bool.and_eq_true, decide_eq_true_eq]; omega)
  omega
/-- Behind the first cell: there is nothing. -/
theorem li0_e {c : Conf} {k a b i j n p h N pc1 p1 : Int} (hK : k = 6 ∨ k = 7 ∨ k = 8) (hk : c.OkP) (hI : INV c k a b 0 i j n p h) (hN : 0 ≤ N ∧ N ≤ c.cap) (h1 : 0 ≤ p1 ∧ p1 ≤ c.cap) (hp : eP k pc1) : okX 0 false k a b pc1 i j N p1 h c k a b 0 i j n p h = true := by
  obtain ⟨ho, hx⟩ := invI hK hI
  have hc := capP hk
  have hxp := ixP hk ho
  have hj := ix_0 hx
  refine okI hK ho rfl (ix_e hx hp h1 (by omega) hN) ?_ ?_
  · rw [mu_e hK (eP_pc hp), mu_0 hK]
    have h1 : 0 ≤ c.node * (lvN c.cap c.node : Int) := Int.mul_nonneg (by omega) (Int.natCast_nonneg _)
    have h2 := x_nn (c := c) (k := k)
    omega
  · rw [rho_e hK (eP_pc hp), ← rho_01 (n1 := n) (p1 := p)]
    exact (rho_nn hK hc.1).1
/-- Behind the first cell: the way down begins. -/
theorem li0_1 {c : Conf} {k a b i j n p h N H : Int} (hK : k = 6 ∨ k = 7 ∨ k = 8) (hk : c.OkP) (hI : INV c k a b 0 i j n p h) (hN : 1 ≤ N ∧ N ≤ c.cap) (hH : H = (lvN c.cap c.node : Int) - 1) : okX 0 false k a b 1 0 j N p H c k a b 0 i j n p h = true := by
  obtain ⟨ho, hx⟩ := invI hK hI
  have hc := capP hk
  have hxp := ixP hk ho
  have hj := ix_0 hx
  have hl := lvP hk ho
  have hb := hx.1
  subst hH
  refine okI hK ho rfl ⟨⟨Int.le_refl 0, by decide, by omega, by omega, hN.2, hb.2.2.2.2.2.1, hb.2.2.2.2.2.2.1, by omega, by omega⟩, .inr (.inl ⟨rfl, hj, hN.1, ?_⟩)⟩ ?_ ?_
  · unfold cI
    have := cnt_pos (w := c.node.toNat) (n := N.toNat) (by omega) (by omega) ((lvN c.cap c.node : Int) - 1).toNat
    omega
  · rw [mu_1 hK, mu_0 hK]
    have h1 : muI c.node ((lvN c.cap c.node : Int) - 1) 0 = c.node * (lvN c.cap c.node : Int) := by
      unfold muI
      have e0 : (0 : Int).toNat = 0 := rfl
      rw [e0, mu_top]
      have e1 : ((lvN c.cap c.node : Int) - 1).toNat + 1 = lvN c.cap c.node := by omega
      rw [e1, Int.natCast_mul, Int.mul_comm, Int.toNat_of_nonneg (by omega)]
    rw [h1]
    omega
  · rw [rho_01 (n := n) (p := p)]
    exact Int.le_of_eq (Int.add_zero _)
/-- An item that is below another. -/
theorem li1_down {c : Conf} {k a b i j n p h : Int} (hK : k = 6 ∨ k = 7 ∨ k = 8) (hk : c.OkP) (hI : INV c k a b 1 i j n p h) (hn : decide (h = 0) = false) : okX 0 false k a b 1 (IntKind.wrap .u8 (i * IntKind.wrap .u8 c.node)) j n p (IntKind.wrap .u8 (h - 1)) c k a b 1 i j n p h = true := by
  obtain ⟨ho, hx⟩ := invI hK hI
  have hc := capP hk
  have hxp := ixP hk ho
  have hl := lvP hk ho
  have hq := ix_1 hx
  have hb := hx.1
  have hn := of_decide_eq_false hn
  obtain ⟨W, hW⟩ := Int.eq_ofNat_of_zero_le (show 0 ≤ c.node by omega)
  obtain ⟨N, rfl⟩ := Int.eq_ofNat_of_zero_le (show 0 ≤ n by omega)
  obtain ⟨I, rfl⟩ := Int.eq_ofNat_of_zero_le hb.1
  obtain ⟨H, rfl⟩ : ∃ H : Nat, h = ((H + 1 : Nat) : Int) := ⟨(h - 1).toNat, by omega⟩
  have hd : I < cnt W N (H + 1) := by
    have := hq.2.2
    rw [hW] at this
    exact Int.ofNat_lt.1 this
  have hd2 := cnt_down (w := W) (by omega) hd
  have hle : cnt W N H ≤ N := by
    have := (cnt_is (n := (N : Int)) (w := (W : Int)) (h := (H : Int)) (by omega) (by omega) (by omega)).2.2
    exact Int.ofNat_le.1 this
  have e1 : IntKind.wrap .u8 (((H + 1 : Nat) : Int) - 1) = (H : Int) := by
    rw [w8i (by omega) (by omega)]
    omega
  have e2 : IntKind.wrap .u8 ((I : Int) * IntKind.wrap .u8 c.node) = ((I * W : Nat) : Int) := by
    rw [w8i (i := c.node) (by omega) (by omega), hW, ← Int.natCast_mul, w8i (by omega) (by omega)]
  rw [e1, e2]
  refine okI hK ho rfl ⟨⟨by omega, by omega, by omega, by omega, hb.2.2.2.2.1, hb.2.2.2.2.2.1, hb.2.2.2.2.2.2.1, by omega, by omega⟩, .inr (.inl ⟨rfl, hq.1, hq.2.1, ?_⟩)⟩ ?_ ?_
  · rw [hW]
    exact Int.ofNat_lt.2 hd2
  · rw [mu_1 hK, mu_1 hK, hW]
    have h3 := mu_down (w := W) (h := H) (i := I) (by omega)
    have h4 : muI (W : Int) (H : Int) ((I * W : Nat) : Int) = ((mu W H (I * W) : Nat) : Int) := rfl
    have h5 : muI (W : Int) ((H + 1 : Nat) : Int) (I : Int) = ((mu W (H + 1) I : Nat) : Int) := rfl
    rw [h4, h5]
    omega
  · rw [rho_1 hK]
    exact Int.le_of_eq (Int.add_zero _)
/-- The next item. -/
theorem li1_next {c : Conf} {k a b i j n p h : Int} (hK : k = 6 ∨ k = 7 ∨ k = 8) (hk : c.OkP) (hI : INV c k a b 1 i j n p h) (h1 : decide ((IntKind.wrap .i64 (IntKind.wrap .u8 (i + 1))).tmod c.node = 0) = false) (h2 : decide (IntKind.wrap .i64 (IntKind.wrap .i64 i + 1) ≥ f_count_0 (IntKind.wrap .i64 n) c.node (IntKind.wrap .i64 h)) = false) : okX 0 false k a b 1 (IntKind.wrap .u8 (i + 1)) j n p h c k a b 1 i j n p h = true := by
  obtain ⟨ho, hx⟩ := invI hK hI
  have hc := capP hk
  have hxp := ixP hk ho
  have hl := lvP hk ho
  have hq := ix_1 hx
  have hb := hx.1
  have hcn := cnt_is (n := n) (w := c.node) (h := h) (by omega) (by omega) (by omega)
  have h1 := of_decide_eq_false h1
  have h2 := of_decide_eq_false h2
  rw [wi (i := n) (by omega) (by omega), wi (i := h) (by omega) (by omega), hcn.2.1, wi (i := i) (by omega) (by omega), wi (i := i + 1) (by omega) (by omega)] at h2
  rw [w8i (i := i + 1) (by omega) (by omega)] at h1 ⊢
  rw [wi (i := i + 1) (by omega) (by omega)] at h1
  refine okI hK ho rfl ⟨⟨by omega, by omega, by omega, by omega, hb.2.2.2.2.1, hb.2.2.2.2.2.1, hb.2.2.2.2.2.2.1, by omega, by omega⟩, .inr (.inl ⟨rfl, hq.1, hq.2.1, by omega⟩)⟩ ?_ ?_
  · rw [mu_1 hK, mu_1 hK]
    have h3 := mu_next (w := c.node.toNat) (h := h.toNat) (i := i.toNat) (by omega) (by
      intro h4
      apply h1
      have e1 : i + 1 = ((i.toNat + 1 : Nat) : Int) := by omega
      have e2 : c.node = ((c.node.toNat : Nat) : Int) := by omega
      rw [e1, e2]
      show ((i.toNat + 1) % c.node.toNat : Nat) = (0 : Int)
      exact congrArg Nat.cast h4)
    unfold muI
    have e1 : (i + 1).toNat = i.toNat + 1 := by omega
    rw [e1]
    omega
  · rw [rho_1 hK]
    exact Int.le_of_eq (Int.add_zero _)
/-- The end, on the way down. -/
theorem li1_e {c : Conf} {k a b i j n p h pc1 p1 : Int} {t : Bool} (hK : k = 6 ∨ k = 7 ∨ k = 8) (hk : c.OkP) (hI : INV c k a b 1 i j n p h) (h1 : 0 ≤ p1 ∧ p1 ≤ c.cap) (hp : eP k pc1) (ht : t = true → k = 7 ∨ k = 8) {j1 : Int} (hj : 0 ≤ j1 ∧ j1 < c.chunk) : okX 0 t k a b pc1 i j1 n p1 h c k a b 1 i j n p h = true := by
  obtain ⟨ho, hx⟩ := invI hK hI
  have hc := capP hk
  have hxp := ixP hk ho
  refine okI hK ho rfl (ix_e hx hp h1 hj ⟨hx.1.2.2.2.1, hx.1.2.2.2.2.1⟩) ?_ ?_
  · rw [mu_e hK (eP_pc hp), mu_1 hK]
    have h1 := mI_pos (w := c.node) (h := h) (i := i) (by omega)
    have h2 := x_nn (c := c) (k := k)
    omega
  · rw [rho_e hK (eP_pc hp)]
    have h3 := rho_nn (c := c) (n := n) (p := p) hK hc.1
    cases t with
    | false => show (0 : Int) + 0 ≤ _; omega
    | true => have := h3.2 (ht rfl); show (0 : Int) + 1 ≤ _; omega
/-- A floor below the item. -/
theorem li1_3 {c : Conf} {a b i j n p h p1 : Int} (hk : c.OkP) (hI : INV c 7 a b 1 i j n p h) (h1 : 1 ≤ p1 ∧ p1 ≤ c.cap) : okX 0 false 7 a b 3 i j n p1 h c 7 a b 1 i j n p h = true := by
  have hK : (7 : Int) = 6 ∨ (7 : Int) = 7 ∨ (7 : Int) = 8 := .inr (.inl rfl)
  obtain ⟨ho, hx⟩ := invI hK hI
  have hc := capP hk
  have hxp := ixP hk ho
  have hq := ix_1 hx
  have hb := hx.1
  refine okI hK ho rfl ⟨⟨hb.1, hb.2.1, hb.2.2.1, hb.2.2.2.1, hb.2.2.2.2.1, by omega, h1.2, hb.2.2.2.2.2.2.2⟩, .inr (.inr (.inl ⟨rfl, rfl, hq.1, h1.1⟩))⟩ ?_ ?_
  · rw [mu_3, mu_1 hK, x_7]
    have h1 := mI_pos (w := c.node) (h := h) (i := i) (by omega)
    omega
  · show (1 : Int) + 0 ≤ 1
    decide
theorem li3_20 {c : Conf} {a b i j n p h : Int} (hk : c.OkP) (hI : INV c 7 a b 3 i j n p h) : okX 0 true 7 a b 20 i j n p h c 7 a b 3 i j n p h = true := by
  have hK : (7 : Int) = 6 ∨ (7 : Int) = 7 ∨ (7 : Int) = 8 := .inr (.inl rfl)
  obtain ⟨ho, hx⟩ := invI hK hI
  have hc := capP hk
  have hxp := ixP hk ho
  have hq := ix_3 hx
  have hb := hx.1
  refine okI hK ho rfl (ix_e hx (.inl ⟨rfl, .inl rfl⟩) ⟨by omega, hb.2.2.2.2.2.2.1⟩ (by omega) ⟨hb.2.2.2.1, hb.2.2.2.2.1⟩) ?_ ?_
  · rw [mu_e hK (.inl rfl), mu_3]
    decide
  · show (0 : Int) + 1 ≤ 1
    decide
/-- A scan's row that fills what is given out at once. -/
theorem li1_16 {c : Conf} {a b i j n p h : Int} (hk : c.OkP) (hI : INV c 8 a b 1 i j n p h) (h0 : decide (h = 0) = true) (hj : decide (IntKind.wrap .i64 (IntKind.wrap .u8 (j + 1)) ≥ c.chunk) = true) : okX 0 true 8 a b 16 i (IntKind.wrap .u8 (j + 1)) n i h c 8 a b 1 i j n p h = true := by
  have hK : (8 : Int) = 6 ∨ (8 : Int) = 7 ∨ (8 : Int) = 8 := .inr (.inr rfl)
  obtain ⟨ho, hx⟩ := invI hK hI
  have hc := capP hk
  have hxp := ixP hk ho
  have hq := ix_1 hx
  have hb := hx.1
  have h0 := of_decide_eq_true h0
  subst h0
  have hj := of_decide_eq_true hj
  rw [w8i (by omega) (by omega)] at hj ⊢
  rw [wi (by omega) (by omega)] at hj
  have hin : i < n := by
    have h1 := hq.2.2
    rw [← (cnt_is (n := n) (w := c.node) (h := 0) (by omega) (by omega) (by omega)).1] at h1
    have h2 : f_up_0 n c.node 0 = n := by
      rw [(cnt_is (n := n) (w := c.node) (h := 0) (by omega) (by omega) (by omega)).1]
      show ((n.toNat : Nat) : Int) = n
      omega
    omega
  refine okI hK ho rfl ⟨⟨hb.1, hb.2.1, by omega, hb.2.2.2.1, hb.2.2.2.2.1, hb.1, by omega, hb.2.2.2.2.2.2.2⟩, .inr (.inr (.inr (.inl ⟨rfl, rfl, by omega, hin⟩)))⟩ ?_ ?_
  · rw [mu_16, mu_1 hK]
    have h1 := nI_give (d := c.chunk) (j := j) (r := n - i) (by omega) (by omega) (by omega)
    have h2 := nI_le (c := c) (r := n - i) (by omega) (by omega)
    have h3 := mI_pos (w := c.node) (h := 0) (i := i) (by omega)
    have h4 : j = 0 := hq.1
    subst h4
    omega
  · show n - i - 1 + 1 ≤ c.cap
    omega
theorem li1_17 {c : Conf} {a b i j n p h : Int} (hk : c.OkP) (hI : INV c 8 a b 1 i j n p h) (h0 : decide (h = 0) = true) (hj : decide (IntKind.wrap .i64 (IntKind.wrap .u8 (j + 1)) ≥ c.chunk) = false) (hp : decide (IntKind.wrap .u8 (i + 1) ≥ n) = false) : okX 0 true 8 a b 17 i (IntKind.wrap .u8 (j + 1)) n (IntKind.wrap .u8 (i + 1)) h c 8 a b 1 i j n p h = true := by
  have hK : (8 : Int) = 6 ∨ (8 : Int) = 7 ∨ (8 : Int) = 8 := .inr (.inr rfl)
  obtain ⟨ho, hx⟩ := invI hK hI
  have hc := capP hk
  have hxp := ixP hk ho
  have hl := lvP hk ho
  have hq := ix_1 hx
  have hb := hx.1
  have h0 := of_decide_eq_true h0
  subst h0
  have hj := of_decide_eq_false hj
  have hp := of_decide_eq_false hp
  have hcn := cnt_is (n := n) (w := c.node) (h := 0) (by omega) (by omega) (by omega)
  rw [w8i (i := j + 1) (by omega) (by omega)] at hj ⊢
  rw [wi (by omega) (by omega)] at hj
  rw [w8i (i := i + 1) (by omega) (by omega)] at hp ⊢
  have h4 : j = 0 := hq.1
  subst h4
  refine okI hK ho rfl ⟨⟨hb.1, hb.2.1, by omega, hb.2.2.2.1, hb.2.2.2.2.1, by omega, by omega, hb.2.2.2.2.2.2.2⟩, .inr (.inr (.inr (.inr (.inl ⟨rfl, rfl, by omega, by omega⟩))))⟩ ?_ ?_
  · rw [mu_17, mu_1 hK]
    have h1 := nI_next (d := c.chunk) (j := 0) (r := n - i) (by omega) (by omega) (by omega)
    have h2 := nI_le (c := c) (r := n - i) (by omega) (by omega)
    have h3 := mI_pos (w := c.node) (h := 0) (i := i) (by omega)
    have e : n - (i + 1) = n - i - 1 := by omega
    rw [e]
    omega
  · show n - (i + 1) + 1 ≤ c.cap
    omega
/-- A scan goes on behind what was given out. -/
theorem li16_20 {c : Conf} {a b i j n p h : Int} (hk : c.OkP) (hI : INV c 8 a b 16 i j n p h) : okX 0 false 8 a b 20 i 0 n p h c 8 a b 16 i j n p h = true := by
  have hK : (8 : Int) = 6 ∨ (8 : Int) = 7 ∨ (8 : Int) = 8 := .inr (.inr rfl)
  obtain ⟨ho, hx⟩ := invI hK hI
  have hc := capP hk
  have hxp := ixP hk ho
  have hq := ix_16 hx
  have hb := hx.1
  refine okI hK ho rfl (ix_e hx (.inl ⟨rfl, .inr rfl⟩) ⟨hb.2.2.2.2.2.1, hb.2.2.2.2.2.2.1⟩ (by omega) ⟨hb.2.2.2.1, hb.2.2.2.2.1⟩) ?_ ?_
  · rw [mu_e hK (.inl rfl), mu_16]
    have := nI_nn (d := c.chunk) (j := 0) (r := n - p - 1)
    omega
  · show (0 : Int) + 0 ≤ n - p - 1
    omega
theorem li16_17 {c : Conf} {a b i j n p h : Int} (hk : c.OkP) (hI : INV c 8 a b 16 i j n p h) (hp : decide (IntKind.wrap .u8 (p + 1) ≥ n) = false) : okX 0 false 8 a b 17 i 0 n (IntKind.wrap .u8 (p + 1)) h c 8 a b 16 i j n p h = true := by
  have hK : (8 : Int) = 6 ∨ (8 : Int) = 7 ∨ (8 : Int) = 8 := .inr (.inr rfl)
  obtain ⟨ho, hx⟩ := invI hK hI
  have hc := capP hk
  have hxp := ixP hk ho
  have hq := ix_16 hx
  have hb := hx.1
  have hp := of_decide_eq_false hp
  rw [w8i (by omega) (by omega)] at hp ⊢
  refine okI hK ho rfl ⟨⟨hb.1, hb.2.1, Int.le_refl 0, hb.2.2.2.1, hb.2.2.2.2.1, by omega, by omega, hb.2.2.2.2.2.2.2⟩, .inr (.inr (.inr (.inr (.inl ⟨rfl, rfl, by omega, by omega⟩))))⟩ ?_ ?_
  · rw [mu_17, mu_16]
    have e : n - (p + 1) = n - p - 1 := by omega
    rw [e]
    omega
  · show n - (p + 1) + 0 ≤ n - p - 1
    omega
/-- A scan's next row. -/
theorem li17_20 {c : Conf} {a b i j n p h j1 : Int} {t : Bool} (hk : c.OkP) (hI : INV c 8 a b 17 i j n p h) (hj : 0 ≤ j1 ∧ j1 < c.chunk) : okX 0 t 8 a b 20 i j1 n p h c 8 a b 17 i j n p h = true := by
  have hK : (8 : Int) = 6 ∨ (8 : Int) = 7 ∨ (8 : Int) = 8 := .inr (.inr rfl)
  obtain ⟨ho, hx⟩ := invI hK hI
  have hc := capP hk
  have hxp := ixP hk ho
  have hq := ix_17 hx
  have hb := hx.1
  refine okI hK ho rfl (ix_e hx (.inl ⟨rfl, .inr rfl⟩) ⟨hb.2.2.2.2.2.1, hb.2.2.2.2.2.2.1⟩ hj ⟨hb.2.2.2.1, hb.2.2.2.2.1⟩) ?_ ?_
  · rw [mu_e hK (.inl rfl), mu_17]
    have := nI_pos (d := c.chunk) (j := j) (r := n - p) (by omega)
    omega
  · show (0 : Int) + cond t 1 0 ≤ n - p
    have := tl (t := t)
    omega
theorem j_lt {c : Conf} {a b i j n p h pc : Int} (hk : c.OkP) (hI : INV c 8 a b pc i j n p h) (hp : pc = 1 ∨ pc = 17) (hj : decide (IntKind.wrap .i64 (IntKind.wrap .u8 (j + 1)) ≥ c.chunk) = false) : 0 ≤ IntKind.wrap .u8 (j + 1) ∧ IntKind.wrap .u8 (j + 1) < c.chunk := by
  have hK : (8 : Int) = 6 ∨ (8 : Int) = 7 ∨ (8 : Int) = 8 := .inr (.inr rfl)
  obtain ⟨ho, hx⟩ := invI hK hI
  have hxp := ixP hk ho
  have hj := of_decide_eq_false hj
  have hb := hx.1
  have hlt : j < c.chunk := by
    rcases hp with rfl | rfl
    · have := ix_1 hx; omega
    · have := ix_17 hx; omega
  rw [w8i (by omega) (by omega)] at hj ⊢
  rw [wi (by omega) (by omega)] at hj
  omega
theorem j_lt0 {c : Conf} {k a b i j n p h pc : Int} (hK : k = 6 ∨ k = 7 ∨ k = 8) (hk : c.OkP) (hI : INV c k a b pc i j n p h) (hp : pc = 1 ∨ pc = 17) : 0 ≤ j ∧ j < c.chunk := by
  obtain ⟨ho, hx⟩ := invI hK hI
  have hxp := ixP hk ho
  have hb := hx.1
  rcases hp with rfl | rfl
  · have := ix_1 hx; omega
  · have := ix_17 hx; omega
theorem li17_16 {c : Conf} {a b i j n p h : Int} (hk : c.OkP) (hI : INV c 8 a b 17 i j n p h) (hj : decide (IntKind.wrap .i64 (IntKind.wrap .u8 (j + 1)) ≥ c.chunk) = true) : okX 0 true 8 a b 16 i (IntKind.wrap .u8 (j + 1)) n p h c 8 a b 17 i j n p h = true := by
  have hK : (8 : Int) = 6 ∨ (8 : Int) = 7 ∨ (8 : Int) = 8 := .inr (.inr rfl)
  obtain ⟨ho, hx⟩ := invI hK hI
  have hc := capP hk
  have hxp := ixP hk ho
  have hq := ix_17 hx
  have hb := hx.1
  have hj := of_decide_eq_true hj
  rw [w8i (by omega) (by omega)] at hj ⊢
  rw [wi (by omega) (by omega)] at hj
  refine okI hK ho rfl ⟨⟨hb.1, hb.2.1, by omega, hb.2.2.2.1, hb.2.2.2.2.1, hb.2.2.2.2.2.1, hb.2.2.2.2.2.2.1, hb.2.2.2.2.2.2.2⟩, .inr (.inr (.inr (.inl ⟨rfl, rfl, by omega, hq.2.2⟩)))⟩ ?_ ?_
  · rw [mu_16, mu_17]
    have h1 := nI_give (d := c.chunk) (j := j) (r := n - p) (by omega) (by omega) (by omega)
    omega
  · show n - p - 1 + 1 ≤ n - p
    omega
theorem li17_17 {c : Conf} {a b i j n p h : Int} (hk : c.OkP) (hI : INV c 8 a b 17 i j n p h) (hj : decide (IntKind.wrap .i64 (IntKind.wrap .u8 (j + 1)) ≥ c.chunk) = false) (hp : decide (IntKind.wrap .u8 (p + 1) ≥ n) = false) : okX 0 true 8 a b 17 i (IntKind.wrap .u8 (j + 1)) n (IntKind.wrap .u8 (p + 1)) h c 8 a b 17 i j n p h = true := by
  have hK : (8 : Int) = 6 ∨ (8 : Int) = 7 ∨ (8 : Int) = 8 := .inr (.inr rfl)
  obtain ⟨ho, hx⟩ := invI hK hI
  have hc := capP hk
  have hxp := ixP hk ho
  have hq := ix_17 hx
  have hb := hx.1
  have hj := of_decide_eq_false hj
  have hp := of_decide_eq_false hp
  rw [w8i (i := j + 1) (by omega) (by omega)] at hj ⊢
  rw [wi (by omega) (by omega)] at hj
  rw [w8i (i := p + 1) (by omega) (by omega)] at hp ⊢
  refine okI hK ho rfl ⟨⟨hb.1, hb.2.1, by omega, hb.2.2.2.1, hb.2.2.2.2.1, by omega, by omega, hb.2.2.2.2.2.2.2⟩, .inr (.inr (.inr (.inr (.inl ⟨rfl, rfl, by omega, by omega⟩))))⟩ ?_ ?_
  · rw [mu_17, mu_17]
    have h1 := nI_next (d := c.chunk) (j := j) (r := n - p) (by omega) (by omega) (by omega)
    have e : n - (p + 1) = n - p - 1 := by omega
    rw [e]
    omega
  · show n - (p + 1) + 1 ≤ n - p
    omega
/-! Settings. -/
theorem inv14 {c : Conf} {a b pc i j n p h : Int} (hI : INV c 14 a b pc i j n p h) : c.ob = 4 ∧ (pc = 0 ∧ h < many a b ∧ n ≤ i ∨ (pc = 20 ∨ pc = 21) ∧ h ≤ many a b) ∧ 0 ≤ h ∧ 0 ≤ i ∧ i < c.cap ∧ 0 ≤ n ∧ n ≤ c.cap ∧ 0 ≤ j ∧ j ≤ c.cap ∧ 0 ≤ p ∧ p ≤ c.cap := by
  rcases hI with q | q | q | q
  · exact absurd q.1 (by decide)
  · exact absurd q.1 (by decide)
  · exact q.2
  · exact absurd q.1 (by decide)
theorem inv14_0 {c : Conf} {a b i j n p h : Int} (hI : INV c 14 a b 0 i j n p h) : c.ob = 4 ∧ h < many a b ∧ n ≤ i ∧ 0 ≤ h ∧ 0 ≤ i ∧ i < c.cap ∧ 0 ≤ n ∧ n ≤ c.cap ∧ 0 ≤ j ∧ j ≤ c.cap ∧ 0 ≤ p ∧ p ≤ c.cap := by
  obtain ⟨h1, h2, h3⟩ := inv14 hI
  rcases h2 with h2 | h2
  · exact ⟨h1, h2.2.1, h2.2.2, h3⟩
  · exact absurd h2.1 (by omega)
theorem mu14_0 {c : Conf} {a b i j n p h : Int} : MU c 14 a b 0 i j n p h = (many a b - h) * c.cap - i := rfl
theorem mu14_e {c : Conf} {a b pc i j n p h : Int} (hp : pc = 20 ∨ pc = 21) : MU c 14 a b pc i j n p h = 0 := by
  rcases hp with rfl | rfl <;> rfl
theorem l14_e {c : Conf} {a b i j n p h pc1 i1 j1 n1 p1 h1 : Int} (hk : c.OkP) (hI : INV c 14 a b 0 i j n p h) (hp : pc1 = 20 ∨ pc1 = 21) (hh : h1 = h ∨ h1 = h + 1) (hi : i1 = i) (hj : 0 ≤ j1 ∧ j1 ≤ c.cap) (hn : 0 ≤ n1 ∧ n1 ≤ c.cap) (hp1 : 0 ≤ p1 ∧ p1 ≤ c.cap) : okX 0 false 14 a b pc1 i1 j1 n1 p1 h1 c 14 a b 0 i j n p h = true := by
  have q := inv14_0 hI
  have hc := capP hk
  refine ok_of ⟨rfl, rfl, rfl, rfl, .inr (.inr (.inl ⟨rfl, q.1, .inr ⟨hp, by omega⟩, by omega, by omega, by omega, hn.1, hn.2, hj.1, hj.2, hp1.1, hp1.2⟩)), ?_, Int.le_refl 0⟩
  rw [mu14_e hp, mu14_0]
  have h2 := Int.mul_le_mul_of_nonneg_right (show 1 ≤ many a b - h by omega) (show 0 ≤ c.cap by omega)
  omega
theorem l14_n {c : Conf} {a b i j n p h j1 n1 : Int} (hk : c.OkP) (hI : INV c 14 a b 0 i j n p h) (h1 : decide (IntKind.wrap .i64 (IntKind.wrap .i64 i + 1) ≥ c.cap) = false) (hj : 0 ≤ j1 ∧ j1 ≤ c.cap) (hn : 0 ≤ n1 ∧ n1 ≤ i + 1) : okX 0 false 14 a b 0 (IntKind.wrap .u8 (i + 1)) j1 n1 p h c 14 a b 0 i j n p h = true := by
  have q := inv14_0 hI
  have hc := capP hk
  have h1 := of_decide_eq_false h1
  rw [wi (i := i) (by omega) (by omega), wi (by omega) (by omega)] at h1
  rw [w8i (by omega) (by omega)]
  refine ok_of ⟨rfl, rfl, rfl, rfl, .inr (.inr (.inl ⟨rfl, q.1, .inl ⟨rfl, q.2.1, hn.2⟩, q.2.2.2.1, by omega, by omega, hn.1, by omega, hj.1, hj.2, q.2.2.2.2.2.2.2.2.2.2.1, q.2.2.2.2.2.2.2.2.2.2.2⟩)), ?_, Int.le_refl 0⟩
  rw [mu14_0, mu14_0]
  omega
theorem l14_d {c : Conf} {a b i j n p h j1 p1 h1 : Int} (hk : c.OkP) (hI : INV c 14 a b 0 i j n p h) (hh : h1 = h + 1) (hm : h1 < many a b) (hj : 0 ≤ j1 ∧ j1 ≤ c.cap) (hp : 0 ≤ p1 ∧ p1 ≤ c.cap) : okX 0 false 14 a b 0 0 j1 0 p1 h1 c 14 a b 0 i j n p h = true := by
  have q := inv14_0 hI
  have hc := capP hk
  refine ok_of ⟨rfl, rfl, rfl, rfl, .inr (.inr (.inl ⟨rfl, q.1, .inl ⟨rfl, hm, Int.le_refl 0⟩, by omega, Int.le_refl 0, by omega, Int.le_refl 0, by omega, hj.1, hj.2, hp.1, hp.2⟩)), ?_, Int.le_refl 0⟩
  rw [mu14_0, mu14_0]
  have e : many a b - h = (many a b - h1) + 1 := by omega
  rw [e, Int.add_mul]
  omega
theorem b14_i {c : Conf} {a b i j n p h : Int} (hk : c.OkP) (hI : INV c 14 a b 0 i j n p h) : (0 ≤ i ∧ i ≤ c.cap) ∧ (0 ≤ j ∧ j ≤ c.cap) ∧ (0 ≤ n ∧ n ≤ c.cap) ∧ (0 ≤ p ∧ p ≤ c.cap) ∧ (0 ≤ n ∧ n ≤ i + 1) := by
  have q := inv14_0 hI
  omega
theorem b14_w {c : Conf} {a b i j n p h : Int} (hk : c.OkP) (hI : INV c 14 a b 0 i j n p h) : (0 ≤ IntKind.wrap .u8 (i + 1) ∧ IntKind.wrap .u8 (i + 1) ≤ c.cap) ∧ (0 ≤ IntKind.wrap .u8 (n + 1) ∧ IntKind.wrap .u8 (n + 1) ≤ c.cap) ∧ (0 ≤ IntKind.wrap .u8 (n + 1) ∧ IntKind.wrap .u8 (n + 1) ≤ i + 1) := by
  have q := inv14_0 hI
  have hc := capP hk
  rw [w8i (by omega) (by omega), w8i (by omega) (by omega)]
  omega
theorem many_1 {a b : Int} (h : (!decide (ishr .u32 a 16 = 0)) = false) : many a b = 1 := by
  unfold many
  cases hd : decide (ishr .u32 a 16 = 0) with
  | true => rfl
  | false => rw [hd] at h; cases h
theorem many_2 {a b : Int} (h : (!decide (ishr .u32 a 16 = 0)) = true) (h2 : (!decide (b = 0)) = false) : many a b = 2 := by
  unfold many
  cases hd : decide (ishr .u32 a 16 = 0) with
  | true => rw [hd] at h; cases h
  | false => cases he : decide (b = 0) with
    | true => rfl
    | false => rw [he] at h2; cases h2
theorem many_3 {a b : Int} (h : (!decide (ishr .u32 a 16 = 0)) = true) (h2 : (!decide (b = 0)) = true) : many a b = 3 := by
  unfold many
  cases hd : decide (ishr .u32 a 16 = 0) with
  | true => rw [hd] at h; cases h
  | false => cases he : decide (b = 0) with
    | true => rw [he] at h2; cases h2
    | false => rfl
/-! For the printed paths. -/
theorem nd64 {c : Conf} (hk : c.OkP) (ho : decide (c.ob = 2) = true) : decide (c.node = 0) = false := by
  have h := ixP hk (of_decide_eq_true ho)
  exact decide_eq_false (by omega)
theorem nP {c : Conf} {l : Int} (hk : c.OkP) (hl : 0 ≤ l) : 0 ≤ IntKind.wrap .u8 (imin l (IntKind.wrap .u64 c.cap)) ∧ IntKind.wrap .u8 (imin l (IntKind.wrap .u64 c.cap)) ≤ c.cap := by
  have h := n_is hk hl
  rw [h.1]
  exact h.2
theorem nQ {c : Conf} {l : Int} (hk : c.OkP) (hl : 0 ≤ l) (h : decide (IntKind.wrap .u8 (imin l (IntKind.wrap .u64 c.cap)) = 0) = false) : 1 ≤ IntKind.wrap .u8 (imin l (IntKind.wrap .u64 c.cap)) ∧ IntKind.wrap .u8 (imin l (IntKind.wrap .u64 c.cap)) ≤ c.cap := by
  have h1 := nP hk hl
  have h2 := of_decide_eq_false h
  omega
theorem pI {c : Conf} {k a b i j n p h : Int} (hK : k = 6 ∨ k = 7 ∨ k = 8) (hk : c.OkP) (hI : INV c k a b 1 i j n p h) (h0 : decide (h = 0) = true) : 0 ≤ i ∧ i ≤ c.cap := by
  obtain ⟨ho, hx⟩ := invI hK hI
  have hq := ix_1 hx
  have hb := hx.1
  have h0 := of_decide_eq_true h0
  subst h0
  have hc : cI c.node n 0 = n := by
    show ((n.toNat : Nat) : Int) = n
    omega
  omega
theorem pI3 {c : Conf} {k a b i j n p h : Int} (hK : k = 6 ∨ k = 7 ∨ k = 8) (hk : c.OkP) (hI : INV c k a b 1 i j n p h) (h0 : decide (h = 0) = true) (hi : decide (i = 0) = false) : 1 ≤ i ∧ i ≤ c.cap := by
  have h1 := pI hK hk hI h0
  have h2 := of_decide_eq_false hi
  omega
theorem pN {c : Conf} {k a b pc i j n p h : Int} (hK : k = 6 ∨ k = 7 ∨ k = 8) (hI : INV c k a b pc i j n p h) : 0 ≤ n ∧ n ≤ c.cap := by
  have hb := (invI hK hI).2.1
  omega
theorem pN1 {c : Conf} {k a b i j n p h : Int} (hK : k = 6 ∨ k = 7 ∨ k = 8) (hI : INV c k a b 1 i j n p h) : 1 ≤ n ∧ n ≤ c.cap := by
  have hx := (invI hK hI).2
  have hb := hx.1
  have hq := ix_1 hx
  omega
theorem e6_21 : eP 6 21 := .inr (.inl ⟨rfl, .inl rfl⟩)
theorem e7_21 : eP 7 21 := .inr (.inl ⟨rfl, .inr rfl⟩)
theorem e6_23 : eP 6 23 := .inr (.inr ⟨rfl, rfl⟩)
theorem e7_20 : eP 7 20 := .inl ⟨rfl, .inl rfl⟩
theorem e8_20 : eP 8 20 := .inl ⟨rfl, .inr rfl⟩
theorem lt_many {a b M h1 : Int} (h : many a b = M) (h2 : h1 < M) : h1 < many a b := by rw [h]; exact h2
theorem x14 {c : Conf} {a b i j n p h : Int} (hk : c.OkP) (hI : INV c 14 a b 0 i j n p h) : decide (imax (imax (imax i j) n) p > IntKind.wrap .u8 c.cap) = false := by
  have q := inv14_0 hI
  have hc := capP hk
  rw [w8i (by omega) (by omega)]
  refine decide_eq_false ?_
  unfold imax
  split <;> split <;> split <;> omega
theorem n14 {c : Conf} {a b i j n p h : Int} (hI : INV c 14 a b 0 i j n p h) : decide (n > i) = false := by
  have q := inv14_0 hI
  exact decide_eq_false (by omega)
theorem w14 {c : Conf} {a b i j n p h z : Int} (hk : c.OkP) (hI : INV c 14 a b 0 i j n p h) (hz : z = IntKind.wrap .i64 i) : decide (z ≥ 0) = true ∧ decide (z < c.cap) = true := by
  have q := inv14_0 hI
  have hc := capP hk
  rw [hz, wi (by omega) (by omega)]
  exact ⟨decide_eq_true (by omega), decide_eq_true (by omega)⟩
end Go.Bas.BasZRdL
end
section
namespace Go.Bas.BasZRdM
open Go.RowKit Go.Proofs
open Go.Bas.BasZBase Go.Bas.BasZOp Go.Bas.BasZRank Go.Bas.BasZLev Go.Bas.BasZRank3 Go.Bas.BasZOk Go.Bas.BasZTreB Go.Bas.BasZTre Go.Bas.BasEnds Go.Bas.BasZRdA Go.Bas.BasZRdL
set_option maxRecDepth 100000
set_option linter.unusedVariables false
set_option linter.unusedSimpArgs false
/-- An act of a kind, and of a code, that stands somewhere. -/
noncomputable def okA (kind at_ code k e : Int) : Bool := decide (kind = k) && (decide (0 ≤ at_) && decide (code = e))
theorem wi64 {i : Int} (h0 : 0 ≤ i) (h : i ≤ 1000) : IntKind.wrap .i64 i = i := by
  simp only [IntKind.wrap, IntKind.signed, IntKind.bits]
  (try simp) <;> omega
theorem lv_get {n w : Int} {k : Nat} (hk : k < lvN n w) : lget (lvL n w) k = .int .i64 (f_up_0 n w (k : Int)) := by
  rw [lget_eq]
  unfold lvL
  simp [hk]
theorem offB_in {c : Conf} (hk : c.OkP) (ho : c.ob = 2) : ∀ k : Nat, k ≤ lvN c.cap c.node → 1 ≤ offB (lvL c.cap c.node) k ∧ offB (lvL c.cap c.node) k ≤ 1 + 32 * (k : Int)
  | 0, _ => by
    show (1 : Int) ≤ 1 ∧ (1 : Int) ≤ 1 + 32 * ((0 : Nat) : Int)
    omega
  | k + 1, h => by
    have hi := offB_in hk ho k (by omega)
    have hc := capP hk
    have hx := ixP hk ho
    have hl := lvP hk ho
    have e : offB (lvL c.cap c.node) (k + 1) = IntKind.wrap .i64 (offB (lvL c.cap c.node) k + (lget (lvL c.cap c.node) k).toI) := rfl
    have hn := cnt_is (n := c.cap) (w := c.node) (h := (k : Int)) (by omega) (by omega) (by omega)
    have hp : 0 ≤ cI c.node c.cap (k : Int) := Int.natCast_nonneg _
    rw [e, lv_get (show k < lvN c.cap c.node by omega)]
    show 1 ≤ IntKind.wrap .i64 (offB (lvL c.cap c.node) k + f_up_0 c.cap c.node (k : Int)) ∧ IntKind.wrap .i64 (offB (lvL c.cap c.node) k + f_up_0 c.cap c.node (k : Int)) ≤ 1 + 32 * ((k + 1 : Nat) : Int)
    rw [hn.1, wi64 (by omega) (by omega)]
    omega
theorem off_nn {c : Conf} {q i : Int} (hk : c.OkP) (ho : c.ob = 2) (hq : 0 ≤ q ∧ q < (lvN c.cap c.node : Int)) (hi : 0 ≤ i ∧ i < cI c.node c.cap q) : 0 ≤ offT (lvL c.cap c.node) (lvN c.cap c.node) q i := by
  have hc := capP hk
  have hx := ixP hk ho
  have hl := lvP hk ho
  have hn := cnt_is (n := c.cap) (w := c.node) (h := q) (by omega) (by omega) (by omega)
  have hb := offB_in hk ho q.toNat (by omega)
  have e : (lget (lvL c.cap c.node) q.toNat).toI = f_up_0 c.cap c.node q := by
    rw [lv_get (show q.toNat < lvN c.cap c.node by omega)]
    show f_up_0 c.cap c.node (q.toNat : Int) = _
    rw [Int.toNat_of_nonneg hq.1]
  unfold offT T_off
  rw [e, hn.1]
  have e1 : decide (q ≥ Int.ofNat (lvN c.cap c.node)) = false := decide_eq_false (by have : (Int.ofNat (lvN c.cap c.node) : Int) = (lvN c.cap c.node : Int) := rfl; omega)
  have e2 : decide (i < 0) = false := decide_eq_false (by omega)
  have e3 : decide (i ≥ cI c.node c.cap q) = false := decide_eq_false (by omega)
  rw [e1, e2, e3]
  show 0 ≤ IntKind.wrap .i64 (offB (lvL c.cap c.node) q.toNat + i)
  rw [wi64 (by omega) (by omega)]
  omega
theorem cI_0 {w n : Int} (hn : 0 ≤ n) : cI w n 0 = n := by
  show ((n.toNat : Nat) : Int) = n
  omega
theorem cI_mono {w n m h : Int} (hnm : n ≤ m) : cI w n h ≤ cI w m h := Int.ofNat_le.2 (cnt_mono (Int.toNat_le_toNat hnm) _)
section
variable {c : Conf} {k a b i j n p h : Int}
theorem okA_k {x e : Int} {z : Int} (hz : 0 ≤ z) : okA x z e x e = true := by
  unfold okA
  rw [decide_eq_true rfl, decide_eq_true hz, decide_eq_true rfl]
  rfl
theorem q_h {pc : Int} (hk : c.OkP) (hK : k = 6 ∨ k = 7 ∨ k = 8) (hv : lvOk (lvL c.cap c.node) (lvN c.cap c.node) = true) (hI : INV c k a b pc i j n p h) : (lvOk (lvL c.cap c.node) (lvN c.cap c.node) && qOk (lvN c.cap c.node) h) = true := by
  obtain ⟨ho, hx⟩ := invI hK hI
  exact andb hv (qOk_of hx.1.2.2.2.2.2.2.2.1 hx.1.2.2.2.2.2.2.2.2)
theorem q_0 {pc : Int} (hk : c.OkP) (hK : k = 6 ∨ k = 7 ∨ k = 8) (hv : lvOk (lvL c.cap c.node) (lvN c.cap c.node) = true) (hI : INV c k a b pc i j n p h) : (lvOk (lvL c.cap c.node) (lvN c.cap c.node) && qOk (lvN c.cap c.node) 0) = true := by
  obtain ⟨ho, hx⟩ := invI hK hI
  have := lvP hk ho
  exact andb hv (qOk_of (Int.le_refl 0) (by omega))
theorem a_1 (hk : c.OkP) (hK : k = 6 ∨ k = 7 ∨ k = 8) (hI : INV c k a b 1 i j n p h) : okA 1 (offT (lvL c.cap c.node) (lvN c.cap c.node) h (IntKind.wrap .i64 i)) 0 1 0 = true := by
  obtain ⟨ho, hx⟩ := invI hK hI
  have hb := hx.1
  have hq := ix_1 hx
  rw [wi hb.1 hb.2.1]
  exact okA_k (off_nn hk ho ⟨hb.2.2.2.2.2.2.2.1, hb.2.2.2.2.2.2.2.2⟩ ⟨hb.1, by have := cI_mono (w := c.node) (h := h) hb.2.2.2.2.1; omega⟩)
theorem a_3 (hk : c.OkP) (hK : k = 6 ∨ k = 7 ∨ k = 8) (hI : INV c k a b 3 i j n p h) : okA 1 (offT (lvL c.cap c.node) (lvN c.cap c.node) 0 (IntKind.wrap .i64 (IntKind.wrap .i64 p - 1))) 0 1 0 = true := by
  obtain ⟨ho, hx⟩ := invI hK hI
  have hb := hx.1
  have hq := ix_3 hx
  have hc := capP hk
  have hl := lvP hk ho
  rw [wi (i := p) (by omega) (by omega), wi (by omega) (by omega)]
  exact okA_k (off_nn hk ho ⟨Int.le_refl 0, by omega⟩ ⟨by omega, by rw [cI_0 (by omega)]; omega⟩)
theorem a_17 (hk : c.OkP) (hK : k = 6 ∨ k = 7 ∨ k = 8) (hI : INV c k a b 17 i j n p h) : okA 1 (offT (lvL c.cap c.node) (lvN c.cap c.node) 0 (IntKind.wrap .i64 p)) 0 1 0 = true := by
  obtain ⟨ho, hx⟩ := invI hK hI
  have hb := hx.1
  have hq := ix_17 hx
  have hc := capP hk
  have hl := lvP hk ho
  rw [wi (i := p) (by omega) (by omega)]
  exact okA_k (off_nn hk ho ⟨Int.le_refl 0, by omega⟩ ⟨by omega, by rw [cI_0 (by omega)]; omega⟩)
variable {pc : Int}
theorem m_n (hk : c.OkP) (hK : k = 6 ∨ k = 7 ∨ k = 8) (hI : INV c k a b pc i j n p h) : decide (IntKind.wrap .i64 n > c.cap) = false := by
  have hb := (invI hK hI).2.1
  have hc := capP hk
  rw [wi (by omega) (by omega)]
  exact decide_eq_false (by omega)
theorem m_p (hk : c.OkP) (hK : k = 6 ∨ k = 7 ∨ k = 8) (hI : INV c k a b pc i j n p h) : decide (IntKind.wrap .i64 p > c.cap) = false := by
  have hb := (invI hK hI).2.1
  have hc := capP hk
  rw [wi (by omega) (by omega)]
  exact decide_eq_false (by omega)
theorem jP (hk : c.OkP) (hK : k = 6 ∨ k = 7 ∨ k = 8) (hI : INV c k a b pc i j n p h) : 0 ≤ j ∧ j ≤ c.chunk ∧ c.chunk ≤ 8 ∧ (pc ≠ 16 → j < c.chunk) := by
  obtain ⟨ho, hx⟩ := invI hK hI
  have hp := ixP hk ho
  have hb := hx.1
  obtain ⟨_, q⟩ := hx
  refine ⟨hb.2.2.1, ?_, by omega, ?_⟩
  · rcases q with q | q | q | q | q | q | q | q <;> omega
  · intro hne
    rcases q with q | q | q | q | q | q | q | q <;> omega
theorem m_j (hk : c.OkP) (hK : k = 6 ∨ k = 7 ∨ k = 8) (hI : INV c k a b pc i j n p h) : decide (IntKind.wrap .i64 j > c.chunk) = false := by
  have hb := jP hk hK hI
  rw [wi (by omega) (by omega)]
  exact decide_eq_false (by omega)
theorem m_je (hk : c.OkP) (hK : k = 6 ∨ k = 7 ∨ k = 8) (hI : INV c k a b pc i j n p h) (hp : pc ≠ 16) : decide (IntKind.wrap .i64 j = c.chunk) = false := by
  have hb := jP hk hK hI
  have h2 := hb.2.2.2 hp
  rw [wi (by omega) (by omega)]
  exact decide_eq_false (by omega)
theorem m_h (hk : c.OkP) (hK : k = 6 ∨ k = 7 ∨ k = 8) (hI : INV c k a b pc i j n p h) : decide (h > Int.ofNat (lvN c.cap c.node) - 1) = false := by
  have hb := (invI hK hI).2.1
  have e : (Int.ofNat (lvN c.cap c.node) : Int) = (lvN c.cap c.node : Int) := rfl
  exact decide_eq_false (by omega)
theorem m_l (hk : c.OkP) (hK : k = 6 ∨ k = 7 ∨ k = 8) (hv : lvOk (lvL c.cap c.node) (lvN c.cap c.node) = true) (hI : INV c k a b pc i j n p h) : (lvOk (lvL c.cap c.node) (lvN c.cap c.node) && (decide (0 ≤ h) && decide (h < Int.ofNat (lvN c.cap c.node)))) = true := by
  have hb := (invI hK hI).2.1
  have e : (Int.ofNat (lvN c.cap c.node) : Int) = (lvN c.cap c.node : Int) := rfl
  rw [hv, decide_eq_true (show 0 ≤ h by omega), decide_eq_true (show h < Int.ofNat (lvN c.cap c.node) by omega)]
  rfl
theorem m_a {x : Int} (h : 0 ≤ x) : decide (x ≥ 0) = true := decide_eq_true h
end
end Go.Bas.BasZRdM
end
section
namespace Go.Bas.BasZRdN
open Go.RowKit Go.Proofs
open Go.Bas.BasZBase Go.Bas.BasZOp Go.Bas.BasZRank Go.Bas.BasZLev Go.Bas.BasZRank3 Go.Bas.BasZOk Go.Bas.BasZTreB Go.Bas.BasZTre Go.Bas.BasEnds Go.Bas.BasZRdA Go.Bas.BasZRdL Go.Bas.BasZRdM
set_option maxRecDepth 100000
set_option linter.unusedVariables false
set_option linter.unusedSimpArgs false
/-- It reads, gives, or is done. -/
noncomputable def aK (pc : Int) : Int := cond (decide (pc = 0) || (decide (pc = 1) || (decide (pc = 3) || decide (pc = 17)))) 1 (cond (decide (pc = 16)) 3 4)
/-- What it answers. -/
noncomputable def aE (pc : Int) : Int := cond (decide (pc = 8) || decide (pc = 21)) 6 0
noncomputable def okN (e kd code pc : Int) : Bool := decide (e = 0 ∧ kd = aK pc ∧ code = aE pc)
/-- A frame of a reading. -/
def RdOk (c : Conf) (f : Frm) : Prop := errC c = 0 ∧ f_opc_0 c ⟨f.kind, f.a, f.b, 0⟩ = 0 ∧ posF f = true ∧ INV c f.kind f.a f.b f.pc f.i f.j f.n f.p f.h
theorem cO_is {c : Conf} {q : Int} (h : c.ob = q) : cO q c = c := by
  cases c
  cases h
  rfl
theorem le_bitsP {c : Conf} {a b pc i j n p h : Int} (hk : c.OkP) (hI : INV c 3 a b pc i j n p h) : decide (IntKind.wrap .u32 h ≤ IntKind.wrap .u32 c.bits) = true := by
  have q := inv3 hI
  have hb := bitP hk q.1
  rw [w32i q.2.2.1 (by omega), w32i (by omega) (by omega)]
  exact decide_eq_true (by omega)
theorem sub_nnP {c : Conf} {a b pc i j n p h : Int} (hk : c.OkP) (hI : INV c 3 a b pc i j n p h) : decide (IntKind.wrap .i64 (c.bits - IntKind.wrap .i64 h) < 0) = false := by
  have q := inv3 hI
  have hb := bitP hk q.1
  rw [wi q.2.2.1 (by omega), wi (by omega) (by omega)]
  exact decide_eq_false (by omega)
theorem in_capP {c : Conf} {a b pc i j n p h : Int} (hk : c.OkP) (hI : INV c 11 a b pc i j n p h) : decide (IntKind.wrap .i64 i ≥ c.cap) = false ∧ decide (IntKind.wrap .i64 j ≥ c.cap) = false ∧ decide (h > 1) = false := by
  have q := inv11 hI
  have hc := capP hk
  rw [wi q.2.2.1 (by omega), wi (by omega) (by omega)]
  exact ⟨decide_eq_false (by omega), decide_eq_false (by omega), decide_eq_false (by omega)⟩
theorem w14z {c : Conf} {z : Int} (hk : c.OkP) (hz : z = 0) : decide (z ≥ 0) = true ∧ decide (z < c.cap) = true := by
  have hc := capP hk
  rw [hz]
  exact ⟨decide_eq_true (by omega), decide_eq_true (by omega)⟩
theorem h14 {c : Conf} {a b pc i j n p h M : Int} (hk : c.OkP) (hI : INV c 14 a b pc i j n p h) (hm : many a b = M) : decide (IntKind.wrap .i64 h > M) = false := by
  have q := inv14 hI
  have hM : many a b ≤ 3 := by
    unfold many
    cases decide (ishr .u32 a 16 = 0) <;> cases decide (b = 0) <;> simp
  rw [hm] at hM q
  have h1 : h ≤ M := by
    rcases q.2.1 with r | r <;> omega
  rw [wi (by omega) (by omega)]
  exact decide_eq_false (by omega)
theorem h14e {c : Conf} {a b i j n p h M : Int} (hk : c.OkP) (hI : INV c 14 a b 0 i j n p h) (hm : many a b = M) : decide (IntKind.wrap .i64 h = M) = false := by
  have q := inv14_0 hI
  have hM : many a b ≤ 3 := by
    unfold many
    cases decide (ishr .u32 a 16 = 0) <;> cases decide (b = 0) <;> simp
  rw [hm] at hM q
  rw [wi (by omega) (by omega)]
  exact decide_eq_false (by omega)
theorem x14p {c : Conf} {a b pc i j n p h : Int} (hk : c.OkP) (hI : INV c 14 a b pc i j n p h) : decide (imax (imax (imax i j) n) p > IntKind.wrap .u8 c.cap) = false := by
  have q := inv14 hI
  have hc := capP hk
  rw [w8i (by omega) (by omega)]
  refine decide_eq_false ?_
  unfold imax
  split <;> split <;> split <;> omega
end Go.Bas.BasZRdN
end
section
namespace Go.Bas
theorem prb_ {b : Bool} {x y : Tr} {P : Prop} (hx : b = true → x.bool 0 = true → P) (hy : b = false → y.bool 0 = true → P) (h : (Tr.br b x y).bool 0 = true) : P := by
  cases b
  · exact hy rfl h
  · exact hx rfl h
end Go.Bas
namespace Go.Bas.BasZRdP
open Go.RowKit Go.Proofs
open Go.Bas.BasZBase Go.Bas.BasZOp Go.Bas.BasZRank Go.Bas.BasZLev Go.Bas.BasZRank3 Go.Bas.BasZOk Go.Bas.BasZTreB Go.Bas.BasZTre Go.Bas.BasEnds Go.Bas.BasZRdA Go.Bas.BasZRdL Go.Bas.BasZRdM Go.Bas.BasZRdN
set_option maxRecDepth 100000
set_option maxHeartbeats 4000000
set_option linter.unusedVariables false
set_option linter.unusedSimpArgs false
theorem lf {b : Bool} (h : (Tr.leaf [.bool b]).bool 0 = true) : b = true := h
theorem fits_path {c : Conf} {o : Opr} (h : f_fits_0 c o = true) : o.kind = 12 ∨ o.kind = 13 ∨ o.kind = 14 → f_path_0 o.a o.b = true := by
  unfold f_fits_0 T_fits at h
  revert h
  repeat' (first | (intro h; cases h; done) | refine prb_ (fun h => ?_) (fun h => ?_))
  all_goals
    intro hv hk
    have hv := lf hv
    first
    | exact hv
    | (exfalso
       simp only [decide_eq_true_eq, decide_eq_false_iff_not] at *
       omega)
theorem path_n {a b : Int} (h : f_path_0 a b = true) : (!decide (iand .u32 a 65535 = 0)) = true ∧ ((!decide (ishr .u32 a 16 = 0)) = true ∨ (!decide (b = 0)) = false) := by
  unfold f_path_0 T_path at h
  revert h
  repeat' (first | (intro h; cases h; done) | refine prb_ (fun h => ?_) (fun h => ?_))
  all_goals
    intro hv
    try have hv := lf hv
    simp only [decide_eq_true_eq, decide_eq_false_iff_not, Bool.not_eq_true', Bool.not_eq_false'] at *
    first | exact ⟨by assumption, .inl (by assumption)⟩ | exact ⟨by assumption, .inr (by assumption)⟩
/-- An operation that has no error: its kind is the object's, and it fits. -/
theorem opc_0 {c : Conf} {o : Opr} (h0 : 0 ≤ o.kind) (h1 : o.kind ≤ 255) (hb : 0 ≤ o.b) (h : f_opc_0 c o = 0) : f_obj_0 o.kind = c.ob ∧ f_fits_0 c o = true ∧ errC c = 0 := by
  have e : f_opc_0 c o = (bif !decide (errC c = 0) then errC c else bif ok_obj o.kind then bif !decide (f_obj_0 o.kind = c.ob) then 50 else bif ok_fits c o then bif !(f_fits_0 c o) then 10 else 0 else 0 else 0) := by
    unfold f_opc_0 T_opc
    show cond _ _ _ = _
    cases (!decide (errC c = 0)) with
    | true => rfl
    | false =>
      cases ok_obj o.kind with
      | false => rfl
      | true =>
        cases (!decide (f_obj_0 o.kind = c.ob)) with
        | true => rfl
        | false =>
          cases ok_fits c o with
          | false => rfl
          | true => cases (!(f_fits_0 c o)) <;> rfl
  by_cases he : errC c = 0
  · have hO := ok_true.1 (of_errC he)
    simp only [Conf.OkP] at hO
    rw [e, he, ok_obj_pos h0 h1] at h
    by_cases hk : f_obj_0 o.kind = c.ob
    · rw [hk, ok_fits_pos hb (fun h3 => by rw [h3, obj_3] at hk; omega)] at h
      cases hf : f_fits_0 c o with
      | true => exact ⟨hk, rfl, he⟩
      | false =>
        rw [hf] at h
        simp at h
    · exfalso
      rw [show (!decide (f_obj_0 o.kind = c.ob)) = true by simp [hk]] at h
      simp at h
  · exfalso
    rw [e, show (!decide (errC c = 0)) = true by simp [he]] at h
    exact he h
/-- A reading of settings: it has one name, or two, or three. -/
theorem path14 {c : Conf} {a b : Int} (hb : 0 ≤ b) (h : f_opc_0 c ⟨14, a, b, 0⟩ = 0) : (!decide (iand .u32 a 65535 = 0)) = true ∧ ((!decide (ishr .u32 a 16 = 0)) = false ∧ (!decide (b = 0)) = false ∨ (!decide (ishr .u32 a 16 = 0)) = true ∧ (!decide (b = 0)) = false ∨ (!decide (ishr .u32 a 16 = 0)) = true ∧ (!decide (b = 0)) = true) := by
  have q := opc_0 (o := ⟨14, a, b, 0⟩) (show (0 : Int) ≤ 14 by decide) (show (14 : Int) ≤ 255 by decide) hb h
  have r := path_n (fits_path q.2.1 (.inr (.inr rfl)))
  refine ⟨r.1, ?_⟩
  rcases r.2 with r2 | r2
  · have r2 : (!decide (ishr .u32 a 16 = 0)) = true := r2
    cases hb : (!decide (b = 0)) with
    | true => exact .inr (.inr ⟨r2, rfl⟩)
    | false => exact .inr (.inl ⟨r2, rfl⟩)
  · have r2 : (!decide (b = 0)) = false := r2
    cases hs : (!decide (ishr .u32 a 16 = 0)) with
    | true => exact .inr (.inl ⟨rfl, r2⟩)
    | false => exact .inl ⟨rfl, r2⟩
end Go.Bas.BasZRdP
end
section
namespace Go.Bas
set_option linter.unusedVariables false
/-- A frame of settings on its way, behind a pointer. -/
structure Walk where
  (f : Frm) (size n0 n1 n2 many : Int)
def Walk.av (r : Walk) : AV := .iptr (r.f.cells ++ [.int .i64 r.size, .int .u32 r.n0, .int .u32 r.n1, .int .u32 r.n2, .int .i64 r.many]) 0
def walkOf : AV → Option Walk
  | .iptr [.int .u8 kind, .int .u32 a, .int .u32 b, .int .u8 pc, .int .u8 i, .int .u8 j, .int .u8 n, .int .u8 p, .int .u8 h, .int .u32 x, .int .u32 y,
    .int .i64 size, .int .u32 n0, .int .u32 n1, .int .u32 n2, .int .i64 many] 0 => some ⟨⟨kind, a, b, pc, i, j, n, p, h, x, y⟩, size, n0, n1, n2, many⟩
  | _ => none
theorem walkOf_some {a : AV} {c : Walk} (h : walkOf a = some c) : a = c.av := by
  unfold walkOf at h
  split at h
  · simp only [Option.some.injEq] at h
    subst h
    rfl
  · cases h
def rWalk : Rd Walk := ⟨walkOf, Walk.av, fun _ _ => walkOf_some⟩
end Go.Bas
end
section
namespace Go.Bas.BasZBranch
open Go.RowKit Go.Proofs
open Go.Bas.BasZBase Go.Bas.BasZOp
set_option maxRecDepth 100000
set_option maxHeartbeats 4000000
set_option linter.unusedVariables false
set_option linter.unusedSimpArgs false
noncomputable def T_wat (w : Walk) : Tr := (.br (decide (w.1.4 = 0)) (.leaf [.int .i64 (IntKind.wrap .i64 w.1.5)]) (.br (decide (w.1.4 = 3)) (.leaf [.int .i64 (IntKind.wrap .i64 w.1.5)]) (.br (decide (w.1.4 = 5)) (.leaf [.int .i64 (IntKind.wrap .i64 w.1.5)]) (.br (decide (w.1.4 = 2)) (.leaf [.int .i64 (IntKind.wrap .i64 w.1.6)]) (.br (decide (w.1.4 = 4)) (.leaf [.int .i64 (IntKind.wrap .i64 ((IntKind.wrap .i64 w.1.8) - 1))]) (.br (decide (w.1.4 = 6)) (.leaf [.int .i64 (IntKind.wrap .i64 ((IntKind.wrap .i64 w.1.8) - 1))]) (.leaf [.int .i64 0])))))))
def ks_wat : List CK := [.i .i64]
noncomputable def sh_wat (l : List AV) : AV := lget l 0
noncomputable def f_wat_0 (w : Walk) : Int := (T_wat w).int 0
noncomputable def o_wat (w : Walk) : AV := .int .i64 (f_wat_0 w)
noncomputable def S_wat : Sum := (90, on1 rWalk (fun w => true) (fun w => o_wat w))
theorem t_wat (w : Walk) (k : AV → Bool) : runF (cfg []) 300 90 [w.av] k false = (T_wat w).ev (fun l => k (sh_wat l)) false := by kernel_rfl
theorem fits_wat (w : Walk) : (T_wat w).fits ks_wat = true := by kernel_rfl
theorem s_wat : SumOk Tryz.prog (gmap gs) S_wat := on1_sum fun w hp => acalls_eq base sums_nil (n := 300) fun k hk => (t_wat w k).trans ((Tr.merge (fits_wat w) (Tr.ok_of_total (by kernel_rfl))).trans hk)
end Go.Bas.BasZBranch
end
