/- The laws StageGoes and StageRises, out of their trees. -/
import Derived.Test.YtakdfjdpjggdkaaBasStage6
import Derived.Test.YtakdfjdpjggdkaaBasBools
namespace Go.Bas.BasStage7
open Go.RowKit Go.Proofs Go.Bas.BasStage Go.Bas.BasStage2 Go.Bas.BasStage3 Go.Bas.BasChoose Go.Bas.BasChoose2 Go.Bas.BasStage5 Go.Bas.BasStage6 Go.Bas.BasBack
set_option maxRecDepth 100000
set_option linter.unusedVariables false
set_option linter.unusedSimpArgs false
section
variable {c : Conf} {s : Stg} {cells : List AV} {n : Nat}
theorem goes (hb : 0 ≤ s.batch) (hm : 0 ≤ s.mask) (hl : cells.length = n) (hi : cells.all AV.isB = true) : ACalls Try.prog (fun _ => none) 5 [c.av, s.av, .lst cells n] (fun v => v = .bool true) :=
  acalls_eq base (sums_cons s_what (sums_cons s_whatR (sums_cons s_next (sums_cons s_nextR (sums_cons s_begin (sums_cons s_beginR sums_nil)))))) (n := 300) fun k hk => by
    rw [t_goes]
    have b1 : Nat.beq cells.length n = true := (beq_iff _ _).2 hl
    have p1 : pS s = true := pS_true.2 ⟨hb, hm⟩
    simp only [b1, p1, hi, decide_true, Bool.true_and, Bool.and_true, cond_true]
    exact condI (fun _ => hk) (fun _ => hk)
/-- What is known of a choice that is over. -/
theorem ch_end (h : chOk c cells n s.frm = true) : 0 ≤ chMask c cells s.frm c.thr.toNat ∧ chMask c cells s.frm c.thr.toNat < pow2 c.thr ∧ 0 ≤ chNext c cells s.frm c.thr.toNat ∧ chNext c cells s.frm c.thr.toNat < c.thr := by
  obtain ⟨ho, hl, hb, hn, hf0, hf⟩ := chOk_true.1 h
  simp only [Conf.OkP] at ho
  have h0 : 0 < c.thr.toNat := by omega
  have h1 : (chR c cells s.frm c.thr.toNat).mask < 2 ^ c.thr.toNat := chs_lt (p := cp cells) (f := s.frm.toNat) (b := c.batch.toNat) h0 (Nat.le_refl _)
  refine ⟨Int.natCast_nonneg _, ?_, Int.natCast_nonneg _, ?_⟩
  · unfold chMask pow2
    have : ((2 ^ c.thr.toNat : Nat) : Int) = 2 ^ c.thr.toNat := Int.natCast_pow 2 _
    rw [← this]
    omega
  · unfold chNext
    have := Nat.mod_lt (s.frm.toNat + (chR c cells s.frm c.thr.toNat).last) h0
    omega
theorem next_ok (h : chk mayP c s = 0) (hn : ¬ s.number = c.ins + 5) : chk mayP c ⟨s.batch, s.number + 1, s.mask, s.frm⟩ = 0 := by
  have S := sok h
  obtain ⟨h1, h2⟩ := chk0.1 h
  refine chk0.2 ⟨h1, ?_⟩
  rw [mayP_true, restS_eq S.ok] at h2 ⊢
  obtain ⟨a1, a2, a3, a4, a5, a6, a7⟩ := h2
  refine ⟨by show 1 ≤ s.number + 1; omega, by show s.number + 1 ≤ c.ins + 5; omega, a3, a4, a5, a6, ?_⟩
  rcases a7 with ⟨b1, b2⟩ | b
  · exact absurd b2 hn
  · exact .inr b
theorem begin_ok (h : chk mayP c s = 0) (hb : 0 ≤ s.batch) (hc : chOk c cells n s.frm = true) (hlim : ¬ s.batch + 1 ≥ c.limit / 65536) (hm : ¬ chMask c cells s.frm c.thr.toNat = 0) : chk mayP c ⟨s.batch + 1, 1, chMask c cells s.frm c.thr.toNat, chNext c cells s.frm c.thr.toNat⟩ = 0 := by
  have S := sok h
  obtain ⟨h1, h2⟩ := chk0.1 h
  have ho := S.ok
  simp only [Conf.OkP] at ho
  refine chk0.2 ⟨h1, ?_⟩
  obtain ⟨q1, q2, q3, q4⟩ := ch_end hc
  rw [mayP_true, restS_eq S.ok, batches_eq S.ok]
  exact ⟨by show (1 : Int) ≤ 1; omega, by show 1 ≤ c.ins + 5; omega, by show s.batch + 1 < c.limit / 65536; omega, (shr_zero q1 (by omega) (by omega)).2 q2, q3, q4, .inr ⟨by show ¬ s.batch + 1 = 0; omega, hm⟩⟩
theorem bg_or (hn : s.number = c.ins + 5) : (bgErr 0 c s cells n = 0 ∧ (n : Int) = c.thr ∧ ¬ s.batch + 1 ≥ c.limit / 65536 ∧ ¬ chMask c cells s.frm c.thr.toNat = 0) ∨ bgErr 0 c s cells n = 2 ∨ bgErr 0 c s cells n = 230 := by
  by_cases g1 : (n : Int) = c.thr
  case neg => exact .inr (.inl (by simp [bgErr, g1]))
  by_cases g2 : s.batch + 1 ≥ c.limit / 65536
  case pos => exact .inr (.inr (by simp [bgErr, g1, hn, g2]))
  by_cases g3 : chMask c cells s.frm c.thr.toNat = 0
  case pos => exact .inr (.inl (by simp [bgErr, g1, hn, g2, g3]))
  exact .inl ⟨by simp [bgErr, g1, hn, g2, g3], g1, g2, g3⟩
theorem rises (hb : 0 ≤ s.batch) (hm : 0 ≤ s.mask) (hl : cells.length = n) (hi : cells.all AV.isB = true) : ACalls Try.prog (fun _ => none) 8 [c.av, s.av, .lst cells n] (fun v => v = .bool true) :=
  acalls_eq base (sums_cons s_alive (sums_cons s_laid (sums_cons s_next (sums_cons s_begin sums_nil)))) (n := 300) fun k hk => by
    rw [t_rises]
    have b1 : Nat.beq cells.length n = true := (beq_iff _ _).2 hl
    have p1 : pS s = true := pS_true.2 ⟨hb, hm⟩
    simp only [b1, p1, hi, Bool.true_and, Bool.and_true]
    refine condI (fun _ => hk) (fun _ => condI (fun _ => hk) (fun h => ?_))
    have h0 : chk mayP c s = 0 := by simpa using h
    have S := sok h0
    rw [h0, zif_ok (e := 0) rfl]
    by_cases hn : s.number = c.ins + 5
    · have e1 : nxErr 0 c s = 2 := by simp [nxErr, hn]
      rw [e1]
      refine condI (fun _ => ?_) (fun h => by simp at h)
      rcases bg_or hn with ⟨hq, g1, g2, g3⟩ | hq | hq
      case inr.inl => rw [hq]; exact hk
      case inr.inr => rw [hq]; exact hk
      case inl =>
        have hc : chOk c cells n s.frm = true := chOk_true.2 ⟨S.ok, hl, hi, g1, S.f1, S.f2⟩
        have ht := begin_ok h0 hb hc g2 g3
        have hS := sok ht
        have hlt := (tag_lt S hS hb (by show 0 ≤ s.batch + 1; omega)).2 (.inl (by show s.batch < s.batch + 1; omega))
        have hle := tag_le hS (by show 0 ≤ s.batch + 1; omega)
        rw [hq, zif_ok (e := 0) rfl, zif_ok (e := 0) rfl, zif_ok (e := 0) rfl, zif_ok (e := 0) rfl]
        have ht' : chk mayP c (Stg.mk (s.1 + 1) 1 (chMask c cells s.4 (Int.toNat c.3)) (chNext c cells s.4 (Int.toNat c.3))) = 0 := ht
        have hlt' : tagS (Stg.mk (s.1 + 1) 1 (chMask c cells s.4 (Int.toNat c.3)) (chNext c cells s.4 (Int.toNat c.3))) > tagS s := hlt
        have hle' : tagS (Stg.mk (s.1 + 1) 1 (chMask c cells s.4 (Int.toNat c.3)) (chNext c cells s.4 (Int.toNat c.3))) ≤ c.11 := hle
        rw [ht', zif_ok (e := 0) rfl]
        simp only [hlt', hle', decide_true, Bool.not_true, cond_true, cond_false]
        exact hk
    · have e1 : nxErr 0 c s = 0 := by simp [nxErr, hn]
      have ht := next_ok h0 hn
      have hS := sok ht
      have hlt := (tag_lt S hS hb hb).2 (.inr ⟨rfl, by show s.number < s.number + 1; omega⟩)
      have hle := tag_le hS hb
      rw [e1, zif_ok (e := 0) rfl, zif_ok (e := 0) rfl, zif_ok (e := 0) rfl, zif_ok (e := 0) rfl]
      have ht' : chk mayP c (Stg.mk s.1 (s.2 + 1) s.3 s.4) = 0 := ht
      have hlt' : tagS (Stg.mk s.1 (s.2 + 1) s.3 s.4) > tagS s := hlt
      have hle' : tagS (Stg.mk s.1 (s.2 + 1) s.3 s.4) ≤ c.11 := hle
      rw [ht', zif_ok (e := 0) rfl]
      simp only [hlt', hle', decide_true, Bool.not_true, cond_true, cond_false]
      exact hk
end
theorem lawGoes (c : Conf) (s : Stg) (rows : List (List Value)) (c0 : (Lit.int .u8 c.ob).wf = true) (c1 : (Lit.int .i64 c.ins).wf = true) (c2 : (Lit.int .i64 c.thr).wf = true) (c3 : (Lit.int .u8 c.kind).wf = true) (c4 : (Lit.int .i64 c.str).wf = true) (c5 : (Lit.int .i64 c.bits).wf = true) (c6 : (Lit.int .i64 c.cap).wf = true) (c7 : (Lit.int .i64 c.node).wf = true) (c8 : (Lit.int .i64 c.batch).wf = true) (c9 : (Lit.int .i64 c.chunk).wf = true) (c10 : (Lit.int .u64 c.limit).wf = true) (c11 : (Lit.int .u64 c.most).wf = true) (s0 : (Lit.int .u64 s.batch).wf = true) (s1 : (Lit.int .i64 s.number).wf = true) (s2 : (Lit.int .u64 s.mask).wf = true) (s3 : (Lit.int .i64 s.frm).wf = true) (w : ∀ x ∈ rows, CellsOk [.b] x) (m : rows.length ≤ maxLen) : ACalls Try.prog (fun _ => none) 5 [c.av, s.av, .lst (rows.flatten.map ofS) rows.length] (fun v => v = .bool true) := goes (wf_iff.1 s0).1 (wf_iff.1 s2).1 (bools_cells w).1 (bools_cells w).2
theorem lawRises (c : Conf) (s : Stg) (rows : List (List Value)) (c0 : (Lit.int .u8 c.ob).wf = true) (c1 : (Lit.int .i64 c.ins).wf = true) (c2 : (Lit.int .i64 c.thr).wf = true) (c3 : (Lit.int .u8 c.kind).wf = true) (c4 : (Lit.int .i64 c.str).wf = true) (c5 : (Lit.int .i64 c.bits).wf = true) (c6 : (Lit.int .i64 c.cap).wf = true) (c7 : (Lit.int .i64 c.node).wf = true) (c8 : (Lit.int .i64 c.batch).wf = true) (c9 : (Lit.int .i64 c.chunk).wf = true) (c10 : (Lit.int .u64 c.limit).wf = true) (c11 : (Lit.int .u64 c.most).wf = true) (s0 : (Lit.int .u64 s.batch).wf = true) (s1 : (Lit.int .i64 s.number).wf = true) (s2 : (Lit.int .u64 s.mask).wf = true) (s3 : (Lit.int .i64 s.frm).wf = true) (w : ∀ x ∈ rows, CellsOk [.b] x) (m : rows.length ≤ maxLen) : ACalls Try.prog (fun _ => none) 8 [c.av, s.av, .lst (rows.flatten.map ofS) rows.length] (fun v => v = .bool true) := rises (wf_iff.1 s0).1 (wf_iff.1 s2).1 (bools_cells w).1 (bools_cells w).2
end Go.Bas.BasStage7
