/- Operations' checks answer always, where kinds and numbers are such asv their types have; What the texts on an index's program have in common. -/
import Derived.Test.YtckjogkjfhajcaaGreatDoorBasW8
section
namespace Go.Bas
/-- A tree ends well if both its branches do. -/
theorem okbr {b : Bool} {x y : Tr} (hx : b = true → x.ok = true) (hy : b = false → y.ok = true) : (Tr.br b x y).ok = true := by
  cases b
  · exact hy rfl
  · exact hx rfl
theorem okleaf {l : List AV} : (Tr.leaf l).ok = true := rfl
end Go.Bas
namespace Go.Bas.BasZOk
open Go.RowKit Go.Proofs Go.Bas.BasZBase Go.Bas.BasZOp
set_option maxRecDepth 100000
set_option linter.unusedVariables false
set_option linter.unusedSimpArgs false
theorem of_errC {c : Conf} (h : errC c = 0) : c.ok = true := by
  unfold errC at h
  cases ho : c.ok with
  | true => rfl
  | false => rw [ho] at h; cases h
theorem i64_small {n : Int} (h0 : 0 ≤ n) (h1 : n ≤ 255) : IntKind.wrap .i64 n = n := wrap_eq (by simp [Lit.wf, IntKind.min, IntKind.max, IntKind.signed, IntKind.bits]; omega)
theorem lt15 {n : Int} (h0 : 0 ≤ n) (h1 : n < 15) : n = 0 ∨ n = 1 ∨ n = 2 ∨ n = 3 ∨ n = 4 ∨ n = 5 ∨ n = 6 ∨ n = 7 ∨ n = 8 ∨ n = 9 ∨ n = 10 ∨ n = 11 ∨ n = 12 ∨ n = 13 ∨ n = 14 := by omega
theorem ok_obj_pos {n : Int} (h0 : 0 ≤ n) (h1 : n ≤ 255) : ok_obj n = true := by
  by_cases h : n < 15
  · rcases lt15 h0 h with rfl | rfl | rfl | rfl | rfl | rfl | rfl | rfl | rfl | rfl | rfl | rfl | rfl | rfl | rfl <;> kernel_rfl
  · have e : decide (IntKind.wrap .i64 n ≥ 15) = true := by rw [i64_small h0 h1]; exact decide_eq_true (by omega)
    unfold ok_obj T_obj
    rw [e]
    rfl
theorem ok_wr_pos {n : Int} (h0 : 0 ≤ n) (h1 : n ≤ 255) : ok_wr n = true := by
  by_cases h : n < 15
  · rcases lt15 h0 h with rfl | rfl | rfl | rfl | rfl | rfl | rfl | rfl | rfl | rfl | rfl | rfl | rfl | rfl | rfl <;> kernel_rfl
  · have e : decide (IntKind.wrap .i64 n < 15) = false := by rw [i64_small h0 h1]; exact decide_eq_false (by omega)
    unfold ok_wr T_wr
    rw [e]
    rfl
theorem ok_fits_pos {c : Conf} {o : Opr} (hb : 0 ≤ o.b) (hc : o.kind = 3 → 0 ≤ c.bits) : ok_fits c o = true := by
  unfold ok_fits T_fits
  repeat' (first | exact okleaf | refine okbr (fun h => ?_) (fun h => ?_))
  all_goals
    exfalso
    simp only [decide_eq_true_eq, decide_eq_false_iff_not] at *
    omega
theorem obj_3 : f_obj_0 3 = 1 := by kernel_rfl
theorem ok_opc_pos {c : Conf} {o : Opr} (h0 : 0 ≤ o.kind) (h1 : o.kind ≤ 255) (hb : 0 ≤ o.b) : ok_opc c o = true := by
  unfold ok_opc T_opc
  refine okbr (fun h => okleaf) (fun he => ?_)
  rw [ok_obj_pos h0 h1]
  refine okbr (fun _ => ?_) (fun h => by cases h)
  refine okbr (fun h => okleaf) (fun hk => ?_)
  have he : errC c = 0 := by simpa using he
  have hk : f_obj_0 o.kind = c.ob := by simpa using hk
  have hO := ok_true.1 (of_errC he)
  simp only [Conf.OkP] at hO
  rw [ok_fits_pos hb (fun h3 => by rw [h3, obj_3] at hk; omega)]
  refine okbr (fun _ => okbr (fun h => okleaf) (fun h => okleaf)) (fun h => by cases h)
noncomputable def posO (o : Opr) : Bool := decide (0 ≤ o.kind) && (decide (o.kind ≤ 255) && decide (0 ≤ o.b))
noncomputable def S_opp : Sum := (14, on2 rConf rOpr (fun c o => posO o) (fun c o => o_opc c o))
theorem s_opp : SumOk Tryz.prog (gmap gs) S_opp := on2_sum fun c o hp => by
  unfold posO at hp
  simp only [Bool.and_eq_true, decide_eq_true_eq] at hp
  have h := s_opc [c.av, o.av] (o_opc c o) (by
    show on2 rConf rOpr (fun c o => ok_opc c o) (fun c o => o_opc c o) [c.av, o.av] = _
    show some (ok_opc c o, o_opc c o) = _
    rw [ok_opc_pos hp.1 hp.2.1 hp.2.2])
  exact h
noncomputable def posW (n : Int) : Bool := decide (0 ≤ n) && decide (n ≤ 255)
noncomputable def S_wrp : Sum := (15, on1 (rI .u8) (fun n => posW n) (fun n => o_wr n))
theorem s_wrp : SumOk Tryz.prog (gmap gs) S_wrp := on1_sum fun n hp => by
  unfold posW at hp
  simp only [Bool.and_eq_true, decide_eq_true_eq] at hp
  have h := s_wr [.int .u8 n] (o_wr n) (by
    show some (ok_wr n, o_wr n) = _
    rw [ok_wr_pos hp.1 hp.2])
  exact h
/-- A frame's numbers are such asv their types have. -/
noncomputable def posF (f : Frm) : Bool := decide (0 ≤ f.kind) && (decide (f.kind ≤ 255) && (decide (0 ≤ f.b) && (decide (0 ≤ f.h) && (decide (f.h ≤ 255) && decide (f.b ≤ 4294967295)))))
theorem posF_true {f : Frm} : posF f = true ↔ 0 ≤ f.kind ∧ f.kind ≤ 255 ∧ 0 ≤ f.b ∧ 0 ≤ f.h ∧ f.h ≤ 255 ∧ f.b ≤ 4294967295 := by
  unfold posF
  simp only [Bool.and_eq_true, decide_eq_true_eq]
end Go.Bas.BasZOk
end
section
namespace Go.Bas
set_option linter.unusedSimpArgs false
theorem and_left {a b : Bool} (h : (a && b) = true) : a = true := by
  cases a
  · cases h
  · rfl
theorem and_right {a b : Bool} (h : (a && b) = true) : b = true := by
  cases a
  · cases h
  · exact h
theorem of_bif {a b : Bool} (h : (bif a then b else true) = true) (ha : a = true) : b = true := by
  cases ha
  exact h
theorem nn {a : Bool} (h : a = true) : (!a) = false := by rw [h]; rfl
theorem nf {a : Bool} (h : (!a) = false) : a = true := by
  cases a
  · cases h
  · rfl
theorem on1_imp {P : Program} {G : Nat → Option (List AV)} {f : FuncId} {α : Type} {a : Rd α} {p p' : α → Bool} {g g' : α → AV} (hp : ∀ x, p x = true → p' x = true ∧ g x = g' x) (hs : SumOk P G (f, on1 a p' g')) : SumOk P G (f, on1 a p g) := fun args r hr => by
  refine hs args r ?_
  simp only at hr ⊢
  unfold on1 at hr ⊢
  split at hr
  · split at hr
    · rename_i x hx
      simp only [Option.some.injEq, Prod.mk.injEq] at hr
      obtain ⟨h1, h2⟩ := hr
      obtain ⟨q1, q2⟩ := hp x h1
      simp only [hx, q1, ← q2, h2]
    · cases hr
  · cases hr
theorem on2_imp {P : Program} {G : Nat → Option (List AV)} {f : FuncId} {α β : Type} {a : Rd α} {b : Rd β} {p p' : α → β → Bool} {g g' : α → β → AV} (hp : ∀ x y, p x y = true → p' x y = true ∧ g x y = g' x y) (hs : SumOk P G (f, on2 a b p' g')) : SumOk P G (f, on2 a b p g) := fun args r hr => by
  refine hs args r ?_
  simp only at hr ⊢
  unfold on2 at hr ⊢
  split at hr
  · split at hr
    · rename_i x y hx hy
      simp only [Option.some.injEq, Prod.mk.injEq] at hr
      obtain ⟨h1, h2⟩ := hr
      obtain ⟨q1, q2⟩ := hp x y h1
      simp only [hx, hy, q1, ← q2, h2]
    · cases hr
  · cases hr
theorem on3_imp {P : Program} {G : Nat → Option (List AV)} {f : FuncId} {α β γ : Type} {a : Rd α} {b : Rd β} {c : Rd γ} {p p' : α → β → γ → Bool} {g g' : α → β → γ → AV} (hp : ∀ x y z, p x y z = true → p' x y z = true ∧ g x y z = g' x y z) (hs : SumOk P G (f, on3 a b c p' g')) : SumOk P G (f, on3 a b c p g) := fun args r hr => by
  refine hs args r ?_
  simp only at hr ⊢
  unfold on3 at hr ⊢
  split at hr
  · split at hr
    · rename_i x y z hx hy hz
      simp only [Option.some.injEq, Prod.mk.injEq] at hr
      obtain ⟨h1, h2⟩ := hr
      obtain ⟨q1, q2⟩ := hp x y z h1
      simp only [hx, hy, hz, q1, ← q2, h2]
    · cases hr
  · cases hr
end Go.Bas
namespace Go.Bas.BasZTreB
open Go.RowKit Go.Proofs Go.Bas.BasZBase Go.Bas.BasZOp Go.Bas.BasZRank Go.Bas.BasZLev Go.Bas.BasZRank3 Go.Bas.BasZOk
set_option linter.unusedVariables false
def inPc (pc : Int) : Bool := decide (pc = 0) || decide (pc = 1) || decide (pc = 3) || decide (pc = 4) || decide (pc = 5) || decide (pc = 6) || decide (pc = 7) || decide (pc = 8) || decide (pc = 9) || decide (pc = 11) || decide (pc = 12) || decide (pc = 13) || decide (pc = 14) || decide (pc = 15) || decide (pc = 16) || decide (pc = 17) || decide (pc = 20) || decide (pc = 21) || decide (pc = 22) || decide (pc = 23) || decide (pc = 24) || decide (pc = 25)
theorem inPc_cases {pc : Int} (h : inPc pc = true) : pc = 0 ∨ pc = 1 ∨ pc = 3 ∨ pc = 4 ∨ pc = 5 ∨ pc = 6 ∨ pc = 7 ∨ pc = 8 ∨ pc = 9 ∨ pc = 11 ∨ pc = 12 ∨ pc = 13 ∨ pc = 14 ∨ pc = 15 ∨ pc = 16 ∨ pc = 17 ∨ pc = 20 ∨ pc = 21 ∨ pc = 22 ∨ pc = 23 ∨ pc = 24 ∨ pc = 25 := by
  unfold inPc at h
  simp only [Bool.or_eq_true, decide_eq_true_eq] at h
  omega
/-- Of which kinds an operation is on its way up. -/
def upK (pc kind : Int) : Bool := bif (decide (pc = 8) || decide (pc = 11)) then (decide (kind = 4) || decide (kind = 5)) else (bif decide (pc = 12) then decide (kind = 5) else true)
theorem upK_8 {pc kind : Int} (h : upK pc kind = true) (hp : pc = 8 ∨ pc = 11) : kind = 4 ∨ kind = 5 := by
  rcases hp with rfl | rfl
  · have h : (decide (kind = 4) || decide (kind = 5)) = true := h
    simp only [Bool.or_eq_true, decide_eq_true_eq] at h
    exact h
  · have h : (decide (kind = 4) || decide (kind = 5)) = true := h
    simp only [Bool.or_eq_true, decide_eq_true_eq] at h
    exact h
theorem upK_12 {kind : Int} (h : upK 12 kind = true) : kind = 5 := of_decide_eq_true (show decide (kind = 5) = true from h)
theorem nodeP {c : Conf} (he : decide (errC c = 0) = true) (ho : decide (c.ob = 2) = true) : 2 ≤ c.node ∧ c.node ≤ 4 := by
  have h := ok_true.1 (of_errC (of_decide_eq_true he))
  have ho := of_decide_eq_true ho
  simp only [Conf.OkP] at h
  omega
theorem u8_small {n : Int} (h0 : 0 ≤ n) (h1 : n ≤ 255) : IntKind.wrap .u8 n = n := wrap_eq (by simp [Lit.wf, IntKind.min, IntKind.max, IntKind.signed, IntKind.bits]; omega)
theorem node8 {c : Conf} (he : decide (errC c = 0) = true) (ho : decide (c.ob = 2) = true) : decide (IntKind.wrap .u8 c.node = 0) = false := by
  have := nodeP he ho
  rw [u8_small (by omega) (by omega)]
  exact decide_eq_false (by omega)
theorem node64 {c : Conf} (he : decide (errC c = 0) = true) (ho : decide (c.ob = 2) = true) : decide (c.node = 0) = false := by
  have := nodeP he ho
  exact decide_eq_false (by omega)
/-- How many levels there are, and how many items each has. -/
noncomputable def lvN (n w : Int) : Nat := bif levIs n w 1 then 1 else bif levIs n w 2 then 2 else bif levIs n w 3 then 3 else bif levIs n w 4 then 4 else 5
noncomputable def lvL (n w : Int) : List AV := (List.range (lvN n w)).map fun (i : Nat) => AV.int .i64 (f_up_0 n w (i : Int))
theorem lvN_is {n w : Int} (hw : f_width_0 n 1 w = true) : levIs n w (lvN n w) = true ∧ 1 ≤ lvN n w ∧ lvN n w ≤ 5 := by
  unfold lvN
  rcases lev_some hw with h | h | h | h | h
  · rw [h]; exact ⟨h, Nat.le_of_ble_eq_true rfl, Nat.le_of_ble_eq_true rfl⟩
  · cases h1 : levIs n w 1 with
    | true => exact ⟨h1, Nat.le_of_ble_eq_true rfl, Nat.le_of_ble_eq_true rfl⟩
    | false => rw [h]; exact ⟨h, Nat.le_of_ble_eq_true rfl, Nat.le_of_ble_eq_true rfl⟩
  · cases h1 : levIs n w 1 with
    | true => exact ⟨h1, Nat.le_of_ble_eq_true rfl, Nat.le_of_ble_eq_true rfl⟩
    | false =>
      cases h2 : levIs n w 2 with
      | true => exact ⟨h2, Nat.le_of_ble_eq_true rfl, Nat.le_of_ble_eq_true rfl⟩
      | false => rw [h]; exact ⟨h, Nat.le_of_ble_eq_true rfl, Nat.le_of_ble_eq_true rfl⟩
  · cases h1 : levIs n w 1 with
    | true => exact ⟨h1, Nat.le_of_ble_eq_true rfl, Nat.le_of_ble_eq_true rfl⟩
    | false =>
      cases h2 : levIs n w 2 with
      | true => exact ⟨h2, Nat.le_of_ble_eq_true rfl, Nat.le_of_ble_eq_true rfl⟩
      | false =>
        cases h3 : levIs n w 3 with
        | true => exact ⟨h3, Nat.le_of_ble_eq_true rfl, Nat.le_of_ble_eq_true rfl⟩
        | false => rw [h]; exact ⟨h, Nat.le_of_ble_eq_true rfl, Nat.le_of_ble_eq_true rfl⟩
  · cases h1 : levIs n w 1 with
    | true => exact ⟨h1, Nat.le_of_ble_eq_true rfl, Nat.le_of_ble_eq_true rfl⟩
    | false =>
      cases h2 : levIs n w 2 with
      | true => exact ⟨h2, Nat.le_of_ble_eq_true rfl, Nat.le_of_ble_eq_true rfl⟩
      | false =>
        cases h3 : levIs n w 3 with
        | true => exact ⟨h3, Nat.le_of_ble_eq_true rfl, Nat.le_of_ble_eq_true rfl⟩
        | false =>
          cases h4 : levIs n w 4 with
          | true => exact ⟨h4, Nat.le_of_ble_eq_true rfl, Nat.le_of_ble_eq_true rfl⟩
          | false => exact ⟨h, Nat.le_of_ble_eq_true rfl, Nat.le_of_ble_eq_true rfl⟩
theorem lv_ok {n w : Int} (hw : f_width_0 n 1 w = true) : lvOk (lvL n w) (lvN n w) = true := by
  obtain ⟨_, h1, h2⟩ := lvN_is hw
  unfold lvOk lvL
  simp only [Bool.and_eq_true]
  refine ⟨Nat.ble_eq_true_of_le h1, Nat.ble_eq_true_of_le h2, ?_, ?_⟩
  · simp
  · rw [List.all_eq_true]
    intro v hv
    obtain ⟨i, _, rfl⟩ := List.mem_map.1 hv
    rfl
noncomputable def S_levA : Sum := (116, on2 (rI .i64) (rI .i64) (fun n w => f_width_0 n 1 w) (fun n w => .tup [.lst (lvL n w) (lvN n w), .int .i64 0]))
theorem s_levA : SumOk Tryz.prog (gmap gs) S_levA := on2_sum fun n w hp => acalls_lev (lvN_is hp).1
theorem width_of {c : Conf} (he : decide (errC c = 0) = true) (ho : decide (c.ob = 2) = true) : f_width_0 c.cap 1 c.node = true := by
  have h := ok_true.1 (of_errC (of_decide_eq_true he))
  have ho := of_decide_eq_true ho
  simp only [Conf.OkP] at h
  rw [width_is]
  simp only [Bool.and_eq_true, decide_eq_true_eq]
  omega
/-- The program that begins at a frame. -/
noncomputable def mkr (c : Conf) (f : Frm) : TRa := ⟨f, c, lvL c.cap c.node, lvN c.cap c.node, 0, 0, false⟩
end Go.Bas.BasZTreB
end
