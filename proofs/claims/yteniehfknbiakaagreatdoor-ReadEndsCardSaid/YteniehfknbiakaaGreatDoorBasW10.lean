/- A reading of an index may be where it is; what its act is; Contracts: a reading's program behind an act; an index's reading may be where it is. -/
import Derived.Test.YteniehfknbiakaaGreatDoorBasW6
import Derived.Test.YteniehfknbiakaaGreatDoorBasW8
import Derived.Test.YteniehfknbiakaaGreatDoorBasW9
section
namespace Go.Bas.BasZRm
open Go.RowKit Go.Proofs
open Go.Bas.BasZBase Go.Bas.BasZOp Go.Bas.BasZRank Go.Bas.BasZLev Go.Bas.BasZRank3 Go.Bas.BasZOk Go.Bas.BasZTreB Go.Bas.BasZTre Go.Bas.BasZRdA Go.Bas.BasZRdL Go.Bas.BasZRdM
set_option maxRecDepth 100000
set_option maxHeartbeats 4000000
set_option linter.unusedVariables false
set_option linter.unusedSimpArgs false
def sp_ract : Sp := sG [sI .u8, sI .i64, sI .u64, sI .u64, sI .u64, sI .i64, sI .u32]
theorem t_ract0 (c : Conf) (k a b i j n p h x y : Int) (hk : c.OkP) (hK : (k : Int) = 6 ∨ (k : Int) = 7 ∨ (k : Int) = 8) (hv : lvOk (lvL c.cap c.node) (lvN c.cap c.node) = true) (hI : INV c k a b 0 i j n p h) : runF (cfg [S_rcnt, S_lst, S_off]) 400 70 [(TRa.av (⟨⟨k, a, b, 0, i, j, n, p, h, x, y⟩, c, lvL c.cap c.node, lvN c.cap c.node, 0, 0, false⟩ : TRa))] (fun v => sp_ract.has v && (bif okA (AV.toI (AV.ix v 0)) (AV.toI (AV.ix v 1)) (AV.toI (AV.ix v 5)) 1 0 then true else false)) false = true := Eq.trans (b := true) (by kernel_rfl) rfl
theorem t_ract1 (c : Conf) (k a b i j n p h x y : Int) (hk : c.OkP) (hK : (k : Int) = 6 ∨ (k : Int) = 7 ∨ (k : Int) = 8) (hv : lvOk (lvL c.cap c.node) (lvN c.cap c.node) = true) (hI : INV c k a b 1 i j n p h) : runF (cfg [S_rcnt, S_lst, S_off]) 400 70 [(TRa.av (⟨⟨k, a, b, 1, i, j, n, p, h, x, y⟩, c, lvL c.cap c.node, lvN c.cap c.node, 0, 0, false⟩ : TRa))] (fun v => sp_ract.has v && (bif okA (AV.toI (AV.ix v 0)) (AV.toI (AV.ix v 1)) (AV.toI (AV.ix v 5)) 1 0 then true else false)) false = true := Eq.trans (b := (ba (((lvOk (lvL c.7 c.8) (lvN c.7 c.8)) && (BasZTre.qOk (lvN c.7 c.8) h))) ((ba ((BasZRdM.okA 1 (BasZTre.offT (lvL c.7 c.8) (lvN c.7 c.8) h (IntKind.wrap .i64 i)) 0 1 0)) (true))))) (by kernel_rfl) (band (q_h hk hK hv hI) (band (a_1 hk hK hI) rfl))
theorem t_ract3 (c : Conf) (k a b i j n p h x y : Int) (hk : c.OkP) (hK : (k : Int) = 6 ∨ (k : Int) = 7 ∨ (k : Int) = 8) (hv : lvOk (lvL c.cap c.node) (lvN c.cap c.node) = true) (hI : INV c k a b 3 i j n p h) : runF (cfg [S_rcnt, S_lst, S_off]) 400 70 [(TRa.av (⟨⟨k, a, b, 3, i, j, n, p, h, x, y⟩, c, lvL c.cap c.node, lvN c.cap c.node, 0, 0, false⟩ : TRa))] (fun v => sp_ract.has v && (bif okA (AV.toI (AV.ix v 0)) (AV.toI (AV.ix v 1)) (AV.toI (AV.ix v 5)) 1 0 then true else false)) false = true := Eq.trans (b := (ba (((lvOk (lvL c.7 c.8) (lvN c.7 c.8)) && (BasZTre.qOk (lvN c.7 c.8) 0))) ((ba ((BasZRdM.okA 1 (BasZTre.offT (lvL c.7 c.8) (lvN c.7 c.8) 0 (IntKind.wrap .i64 ((IntKind.wrap .i64 p) - 1))) 0 1 0)) (true))))) (by kernel_rfl) (band (q_0 hk hK hv hI) (band (a_3 hk hK hI) rfl))
theorem t_ract16 (c : Conf) (k a b i j n p h x y : Int) (hk : c.OkP) (hK : (k : Int) = 6 ∨ (k : Int) = 7 ∨ (k : Int) = 8) (hv : lvOk (lvL c.cap c.node) (lvN c.cap c.node) = true) (hI : INV c k a b 16 i j n p h) : runF (cfg [S_rcnt, S_lst, S_off]) 400 70 [(TRa.av (⟨⟨k, a, b, 16, i, j, n, p, h, x, y⟩, c, lvL c.cap c.node, lvN c.cap c.node, 0, 0, false⟩ : TRa))] (fun v => sp_ract.has v && (bif okA (AV.toI (AV.ix v 0)) (AV.toI (AV.ix v 1)) (AV.toI (AV.ix v 5)) 3 0 then true else false)) false = true := Eq.trans (b := true) (by kernel_rfl) rfl
theorem t_ract17 (c : Conf) (k a b i j n p h x y : Int) (hk : c.OkP) (hK : (k : Int) = 6 ∨ (k : Int) = 7 ∨ (k : Int) = 8) (hv : lvOk (lvL c.cap c.node) (lvN c.cap c.node) = true) (hI : INV c k a b 17 i j n p h) : runF (cfg [S_rcnt, S_lst, S_off]) 400 70 [(TRa.av (⟨⟨k, a, b, 17, i, j, n, p, h, x, y⟩, c, lvL c.cap c.node, lvN c.cap c.node, 0, 0, false⟩ : TRa))] (fun v => sp_ract.has v && (bif okA (AV.toI (AV.ix v 0)) (AV.toI (AV.ix v 1)) (AV.toI (AV.ix v 5)) 1 0 then true else false)) false = true := Eq.trans (b := (ba (((lvOk (lvL c.7 c.8) (lvN c.7 c.8)) && (BasZTre.qOk (lvN c.7 c.8) 0))) ((ba ((BasZRdM.okA 1 (BasZTre.offT (lvL c.7 c.8) (lvN c.7 c.8) 0 (IntKind.wrap .i64 p)) 0 1 0)) (true))))) (by kernel_rfl) (band (q_0 hk hK hv hI) (band (a_17 hk hK hI) rfl))
theorem t_ract20 (c : Conf) (k a b i j n p h x y : Int) (hk : c.OkP) (hK : (k : Int) = 6 ∨ (k : Int) = 7 ∨ (k : Int) = 8) (hv : lvOk (lvL c.cap c.node) (lvN c.cap c.node) = true) (hI : INV c k a b 20 i j n p h) : runF (cfg [S_rcnt, S_lst, S_off]) 400 70 [(TRa.av (⟨⟨k, a, b, 20, i, j, n, p, h, x, y⟩, c, lvL c.cap c.node, lvN c.cap c.node, 0, 0, false⟩ : TRa))] (fun v => sp_ract.has v && (bif okA (AV.toI (AV.ix v 0)) (AV.toI (AV.ix v 1)) (AV.toI (AV.ix v 5)) 4 0 then true else false)) false = true := Eq.trans (b := true) (by kernel_rfl) rfl
theorem t_ract21 (c : Conf) (k a b i j n p h x y : Int) (hk : c.OkP) (hK : (k : Int) = 6 ∨ (k : Int) = 7 ∨ (k : Int) = 8) (hv : lvOk (lvL c.cap c.node) (lvN c.cap c.node) = true) (hI : INV c k a b 21 i j n p h) : runF (cfg [S_rcnt, S_lst, S_off]) 400 70 [(TRa.av (⟨⟨k, a, b, 21, i, j, n, p, h, x, y⟩, c, lvL c.cap c.node, lvN c.cap c.node, 0, 0, false⟩ : TRa))] (fun v => sp_ract.has v && (bif okA (AV.toI (AV.ix v 0)) (AV.toI (AV.ix v 1)) (AV.toI (AV.ix v 5)) 4 6 then true else false)) false = true := Eq.trans (b := true) (by kernel_rfl) rfl
theorem t_ract23 (c : Conf) (k a b i j n p h x y : Int) (hk : c.OkP) (hK : (k : Int) = 6 ∨ (k : Int) = 7 ∨ (k : Int) = 8) (hv : lvOk (lvL c.cap c.node) (lvN c.cap c.node) = true) (hI : INV c k a b 23 i j n p h) : runF (cfg [S_rcnt, S_lst, S_off]) 400 70 [(TRa.av (⟨⟨k, a, b, 23, i, j, n, p, h, x, y⟩, c, lvL c.cap c.node, lvN c.cap c.node, 0, 0, false⟩ : TRa))] (fun v => sp_ract.has v && (bif okA (AV.toI (AV.ix v 0)) (AV.toI (AV.ix v 1)) (AV.toI (AV.ix v 5)) 4 0 then true else false)) false = true := Eq.trans (b := true) (by kernel_rfl) rfl
def sp_rmay : Sp := sB
theorem t_rmay6_0 (c : Conf) (a b i j n p h x y : Int) (hk : c.OkP) (hK : (6 : Int) = 6 ∨ (6 : Int) = 7 ∨ (6 : Int) = 8) (hv : lvOk (lvL c.cap c.node) (lvN c.cap c.node) = true) (hI : INV c 6 a b 0 i j n p h) (hp : posO ⟨6, a, b, 0⟩ = true) (hc : decide (f_opc_0 c ⟨6, a, b, 0⟩ = 0) = true) (hA : 0 ≤ f_act_1 (⟨⟨6, a, b, 0, i, j, n, p, h, x, y⟩, c, lvL c.cap c.node, lvN c.cap c.node, 0, 0, false⟩ : TRa)) : runF (cfg [S_opp, S_has, S_rcnt, S_top, S_act]) 400 71 [(TRa.av (⟨⟨6, a, b, 0, i, j, n, p, h, x, y⟩, c, lvL c.cap c.node, lvN c.cap c.node, 0, 0, false⟩ : TRa))] (fun v => sp_rmay.has v && (bif v.toB then true else false)) false = true := Eq.trans (b := (ba ((posO (Opr.mk 6 a b 0))) ((br ((!decide ((f_opc_0 c (Opr.mk 6 a b 0)) = 0))) (false) ((br (decide ((IntKind.wrap .i64 n) > c.7)) (false) ((br (decide ((IntKind.wrap .i64 p) > c.7)) (false) ((br (decide ((IntKind.wrap .i64 j) > c.10)) (false) ((ba ((lvOk (lvL c.7 c.8) (lvN c.7 c.8))) ((br (decide (h > ((Int.ofNat (lvN c.7 c.8)) - 1))) (false) ((br (decide ((IntKind.wrap .i64 j) = c.10)) (false) ((ba (((lvOk (lvL c.7 c.8) (lvN c.7 c.8)) && (decide (0 ≤ h) && decide (h < (Int.ofNat (lvN c.7 c.8)))))) (true))))))))))))))))))) (by kernel_rfl) (band hp (btf (nfd hc) (btf (m_n hk hK hI) (btf (m_p hk hK hI) (btf (m_j hk hK hI) (band hv (btf (m_h hk hK hI) (btf (m_je hk hK hI (by decide)) (band (m_l hk hK hv hI) rfl)))))))))
theorem t_rmay6_1 (c : Conf) (a b i j n p h x y : Int) (hk : c.OkP) (hK : (6 : Int) = 6 ∨ (6 : Int) = 7 ∨ (6 : Int) = 8) (hv : lvOk (lvL c.cap c.node) (lvN c.cap c.node) = true) (hI : INV c 6 a b 1 i j n p h) (hp : posO ⟨6, a, b, 0⟩ = true) (hc : decide (f_opc_0 c ⟨6, a, b, 0⟩ = 0) = true) (hA : 0 ≤ f_act_1 (⟨⟨6, a, b, 1, i, j, n, p, h, x, y⟩, c, lvL c.cap c.node, lvN c.cap c.node, 0, 0, false⟩ : TRa)) : runF (cfg [S_opp, S_has, S_rcnt, S_top, S_act]) 400 71 [(TRa.av (⟨⟨6, a, b, 1, i, j, n, p, h, x, y⟩, c, lvL c.cap c.node, lvN c.cap c.node, 0, 0, false⟩ : TRa))] (fun v => sp_rmay.has v && (bif v.toB then true else false)) false = true := Eq.trans (b := (ba ((posO (Opr.mk 6 a b 0))) ((br ((!decide ((f_opc_0 c (Opr.mk 6 a b 0)) = 0))) (false) ((br (decide ((IntKind.wrap .i64 n) > c.7)) (false) ((br (decide ((IntKind.wrap .i64 p) > c.7)) (false) ((br (decide ((IntKind.wrap .i64 j) > c.10)) (false) ((ba ((lvOk (lvL c.7 c.8) (lvN c.7 c.8))) ((br (decide (h > ((Int.ofNat (lvN c.7 c.8)) - 1))) (false) ((br (decide ((IntKind.wrap .i64 j) = c.10)) (false) ((ba (((lvOk (lvL c.7 c.8) (lvN c.7 c.8)) && (decide (0 ≤ h) && decide (h < (Int.ofNat (lvN c.7 c.8)))))) ((ba (decide ((f_act_1 (TRa.mk (Frm.mk 6 a b 1 i j n p h x y) c (lvL c.7 c.8) (lvN c.7 c.8) 0 0 Bool.false)) ≥ 0)) (true))))))))))))))))))))) (by kernel_rfl) (band hp (btf (nfd hc) (btf (m_n hk hK hI) (btf (m_p hk hK hI) (btf (m_j hk hK hI) (band hv (btf (m_h hk hK hI) (btf (m_je hk hK hI (by decide)) (band (m_l hk hK hv hI) (band (m_a hA) rfl))))))))))
theorem t_rmay6_21 (c : Conf) (a b i j n p h x y : Int) (hk : c.OkP) (hK : (6 : Int) = 6 ∨ (6 : Int) = 7 ∨ (6 : Int) = 8) (hv : lvOk (lvL c.cap c.node) (lvN c.cap c.node) = true) (hI : INV c 6 a b 21 i j n p h) (hp : posO ⟨6, a, b, 0⟩ = true) (hc : decide (f_opc_0 c ⟨6, a, b, 0⟩ = 0) = true) (hA : 0 ≤ f_act_1 (⟨⟨6, a, b, 21, i, j, n, p, h, x, y⟩, c, lvL c.cap c.node, lvN c.cap c.node, 0, 0, false⟩ : TRa)) : runF (cfg [S_opp, S_has, S_rcnt, S_top, S_act]) 400 71 [(TRa.av (⟨⟨6, a, b, 21, i, j, n, p, h, x, y⟩, c, lvL c.cap c.node, lvN c.cap c.node, 0, 0, false⟩ : TRa))] (fun v => sp_rmay.has v && (bif v.toB then true else false)) false = true := Eq.trans (b := (ba ((posO (Opr.mk 6 a b 0))) ((br ((!decide ((f_opc_0 c (Opr.mk 6 a b 0)) = 0))) (false) ((br (decide ((IntKind.wrap .i64 n) > c.7)) (false) ((br (decide ((IntKind.wrap .i64 p) > c.7)) (false) ((br (decide ((IntKind.wrap .i64 j) > c.10)) (false) ((ba ((lvOk (lvL c.7 c.8) (lvN c.7 c.8))) ((br (decide (h > ((Int.ofNat (lvN c.7 c.8)) - 1))) (false) ((br (decide ((IntKind.wrap .i64 j) = c.10)) (false) ((ba (((lvOk (lvL c.7 c.8) (lvN c.7 c.8)) && (decide (0 ≤ h) && decide (h < (Int.ofNat (lvN c.7 c.8)))))) (true))))))))))))))))))) (by kernel_rfl) (band hp (btf (nfd hc) (btf (m_n hk hK hI) (btf (m_p hk hK hI) (btf (m_j hk hK hI) (band hv (btf (m_h hk hK hI) (btf (m_je hk hK hI (by decide)) (band (m_l hk hK hv hI) rfl)))))))))
theorem t_rmay6_23 (c : Conf) (a b i j n p h x y : Int) (hk : c.OkP) (hK : (6 : Int) = 6 ∨ (6 : Int) = 7 ∨ (6 : Int) = 8) (hv : lvOk (lvL c.cap c.node) (lvN c.cap c.node) = true) (hI : INV c 6 a b 23 i j n p h) (hp : posO ⟨6, a, b, 0⟩ = true) (hc : decide (f_opc_0 c ⟨6, a, b, 0⟩ = 0) = true) (hA : 0 ≤ f_act_1 (⟨⟨6, a, b, 23, i, j, n, p, h, x, y⟩, c, lvL c.cap c.node, lvN c.cap c.node, 0, 0, false⟩ : TRa)) : runF (cfg [S_opp, S_has, S_rcnt, S_top, S_act]) 400 71 [(TRa.av (⟨⟨6, a, b, 23, i, j, n, p, h, x, y⟩, c, lvL c.cap c.node, lvN c.cap c.node, 0, 0, false⟩ : TRa))] (fun v => sp_rmay.has v && (bif v.toB then true else false)) false = true := Eq.trans (b := (ba ((posO (Opr.mk 6 a b 0))) ((br ((!decide ((f_opc_0 c (Opr.mk 6 a b 0)) = 0))) (false) ((br (decide ((IntKind.wrap .i64 n) > c.7)) (false) ((br (decide ((IntKind.wrap .i64 p) > c.7)) (false) ((br (decide ((IntKind.wrap .i64 j) > c.10)) (false) ((ba ((lvOk (lvL c.7 c.8) (lvN c.7 c.8))) ((br (decide (h > ((Int.ofNat (lvN c.7 c.8)) - 1))) (false) ((br (decide ((IntKind.wrap .i64 j) = c.10)) (false) ((ba (((lvOk (lvL c.7 c.8) (lvN c.7 c.8)) && (decide (0 ≤ h) && decide (h < (Int.ofNat (lvN c.7 c.8)))))) (true))))))))))))))))))) (by kernel_rfl) (band hp (btf (nfd hc) (btf (m_n hk hK hI) (btf (m_p hk hK hI) (btf (m_j hk hK hI) (band hv (btf (m_h hk hK hI) (btf (m_je hk hK hI (by decide)) (band (m_l hk hK hv hI) rfl)))))))))
theorem t_rmay7_0 (c : Conf) (a b i j n p h x y : Int) (hk : c.OkP) (hK : (7 : Int) = 6 ∨ (7 : Int) = 7 ∨ (7 : Int) = 8) (hv : lvOk (lvL c.cap c.node) (lvN c.cap c.node) = true) (hI : INV c 7 a b 0 i j n p h) (hp : posO ⟨7, a, b, 0⟩ = true) (hc : decide (f_opc_0 c ⟨7, a, b, 0⟩ = 0) = true) (hA : 0 ≤ f_act_1 (⟨⟨7, a, b, 0, i, j, n, p, h, x, y⟩, c, lvL c.cap c.node, lvN c.cap c.node, 0, 0, false⟩ : TRa)) : runF (cfg [S_opp, S_has, S_rcnt, S_top, S_act]) 400 71 [(TRa.av (⟨⟨7, a, b, 0, i, j, n, p, h, x, y⟩, c, lvL c.cap c.node, lvN c.cap c.node, 0, 0, false⟩ : TRa))] (fun v => sp_rmay.has v && (bif v.toB then true else false)) false = true := Eq.trans (b := (ba ((posO (Opr.mk 7 a b 0))) ((br ((!decide ((f_opc_0 c (Opr.mk 7 a b 0)) = 0))) (false) ((br (decide ((IntKind.wrap .i64 n) > c.7)) (false) ((br (decide ((IntKind.wrap .i64 p) > c.7)) (false) ((br (decide ((IntKind.wrap .i64 j) > c.10)) (false) ((ba ((lvOk (lvL c.7 c.8) (lvN c.7 c.8))) ((br (decide (h > ((Int.ofNat (lvN c.7 c.8)) - 1))) (false) ((br (decide ((IntKind.wrap .i64 j) = c.10)) (false) ((ba (((lvOk (lvL c.7 c.8) (lvN c.7 c.8)) && (decide (0 ≤ h) && decide (h < (Int.ofNat (lvN c.7 c.8)))))) (true))))))))))))))))))) (by kernel_rfl) (band hp (btf (nfd hc) (btf (m_n hk hK hI) (btf (m_p hk hK hI) (btf (m_j hk hK hI) (band hv (btf (m_h hk hK hI) (btf (m_je hk hK hI (by decide)) (band (m_l hk hK hv hI) rfl)))))))))
theorem t_rmay7_1 (c : Conf) (a b i j n p h x y : Int) (hk : c.OkP) (hK : (7 : Int) = 6 ∨ (7 : Int) = 7 ∨ (7 : Int) = 8) (hv : lvOk (lvL c.cap c.node) (lvN c.cap c.node) = true) (hI : INV c 7 a b 1 i j n p h) (hp : posO ⟨7, a, b, 0⟩ = true) (hc : decide (f_opc_0 c ⟨7, a, b, 0⟩ = 0) = true) (hA : 0 ≤ f_act_1 (⟨⟨7, a, b, 1, i, j, n, p, h, x, y⟩, c, lvL c.cap c.node, lvN c.cap c.node, 0, 0, false⟩ : TRa)) : runF (cfg [S_opp, S_has, S_rcnt, S_top, S_act]) 400 71 [(TRa.av (⟨⟨7, a, b, 1, i, j, n, p, h, x, y⟩, c, lvL c.cap c.node, lvN c.cap c.node, 0, 0, false⟩ : TRa))] (fun v => sp_rmay.has v && (bif v.toB then true else false)) false = true := Eq.trans (b := (ba ((posO (Opr.mk 7 a b 0))) ((br ((!decide ((f_opc_0 c (Opr.mk 7 a b 0)) = 0))) (false) ((br (decide ((IntKind.wrap .i64 n) > c.7)) (false) ((br (decide ((IntKind.wrap .i64 p) > c.7)) (false) ((br (decide ((IntKind.wrap .i64 j) > c.10)) (false) ((ba ((lvOk (lvL c.7 c.8) (lvN c.7 c.8))) ((br (decide (h > ((Int.ofNat (lvN c.7 c.8)) - 1))) (false) ((br (decide ((IntKind.wrap .i64 j) = c.10)) (false) ((ba (((lvOk (lvL c.7 c.8) (lvN c.7 c.8)) && (decide (0 ≤ h) && decide (h < (Int.ofNat (lvN c.7 c.8)))))) ((ba (decide ((f_act_1 (TRa.mk (Frm.mk 7 a b 1 i j n p h x y) c (lvL c.7 c.8) (lvN c.7 c.8) 0 0 Bool.false)) ≥ 0)) (true))))))))))))))))))))) (by kernel_rfl) (band hp (btf (nfd hc) (btf (m_n hk hK hI) (btf (m_p hk hK hI) (btf (m_j hk hK hI) (band hv (btf (m_h hk hK hI) (btf (m_je hk hK hI (by decide)) (band (m_l hk hK hv hI) (band (m_a hA) rfl))))))))))
theorem t_rmay7_3 (c : Conf) (a b i j n p h x y : Int) (hk : c.OkP) (hK : (7 : Int) = 6 ∨ (7 : Int) = 7 ∨ (7 : Int) = 8) (hv : lvOk (lvL c.cap c.node) (lvN c.cap c.node) = true) (hI : INV c 7 a b 3 i j n p h) (hp : posO ⟨7, a, b, 0⟩ = true) (hc : decide (f_opc_0 c ⟨7, a, b, 0⟩ = 0) = true) (hA : 0 ≤ f_act_1 (⟨⟨7, a, b, 3, i, j, n, p, h, x, y⟩, c, lvL c.cap c.node, lvN c.cap c.node, 0, 0, false⟩ : TRa)) : runF (cfg [S_opp, S_has, S_rcnt, S_top, S_act]) 400 71 [(TRa.av (⟨⟨7, a, b, 3, i, j, n, p, h, x, y⟩, c, lvL c.cap c.node, lvN c.cap c.node, 0, 0, false⟩ : TRa))] (fun v => sp_rmay.has v && (bif v.toB then true else false)) false = true := Eq.trans (b := (ba ((posO (Opr.mk 7 a b 0))) ((br ((!decide ((f_opc_0 c (Opr.mk 7 a b 0)) = 0))) (false) ((br (decide ((IntKind.wrap .i64 n) > c.7)) (false) ((br (decide ((IntKind.wrap .i64 p) > c.7)) (false) ((br (decide ((IntKind.wrap .i64 j) > c.10)) (false) ((ba ((lvOk (lvL c.7 c.8) (lvN c.7 c.8))) ((br (decide (h > ((Int.ofNat (lvN c.7 c.8)) - 1))) (false) ((br (decide ((IntKind.wrap .i64 j) = c.10)) (false) ((ba (((lvOk (lvL c.7 c.8) (lvN c.7 c.8)) && (decide (0 ≤ h) && decide (h < (Int.ofNat (lvN c.7 c.8)))))) ((ba (decide ((f_act_1 (TRa.mk (Frm.mk 7 a b 3 i j n p h x y) c (lvL c.7 c.8) (lvN c.7 c.8) 0 0 Bool.false)) ≥ 0)) (true))))))))))))))))))))) (by kernel_rfl) (band hp (btf (nfd hc) (btf (m_n hk hK hI) (btf (m_p hk hK hI) (btf (m_j hk hK hI) (band hv (btf (m_h hk hK hI) (btf (m_je hk hK hI (by decide)) (band (m_l hk hK hv hI) (band (m_a hA) rfl))))))))))
theorem t_rmay7_20 (c : Conf) (a b i j n p h x y : Int) (hk : c.OkP) (hK : (7 : Int) = 6 ∨ (7 : Int) = 7 ∨ (7 : Int) = 8) (hv : lvOk (lvL c.cap c.node) (lvN c.cap c.node) = true) (hI : INV c 7 a b 20 i j n p h) (hp : posO ⟨7, a, b, 0⟩ = true) (hc : decide (f_opc_0 c ⟨7, a, b, 0⟩ = 0) = true) (hA : 0 ≤ f_act_1 (⟨⟨7, a, b, 20, i, j, n, p, h, x, y⟩, c, lvL c.cap c.node, lvN c.cap c.node, 0, 0, false⟩ : TRa)) : runF (cfg [S_opp, S_has, S_rcnt, S_top, S_act]) 400 71 [(TRa.av (⟨⟨7, a, b, 20, i, j, n, p, h, x, y⟩, c, lvL c.cap c.node, lvN c.cap c.node, 0, 0, false⟩ : TRa))] (fun v => sp_rmay.has v && (bif v.toB then true else false)) false = true := Eq.trans (b := (ba ((posO (Opr.mk 7 a b 0))) ((br ((!decide ((f_opc_0 c (Opr.mk 7 a b 0)) = 0))) (false) ((br (decide ((IntKind.wrap .i64 n) > c.7)) (false) ((br (decide ((IntKind.wrap .i64 p) > c.7)) (false) ((br (decide ((IntKind.wrap .i64 j) > c.10)) (false) ((ba ((lvOk (lvL c.7 c.8) (lvN c.7 c.8))) ((br (decide (h > ((Int.ofNat (lvN c.7 c.8)) - 1))) (false) ((br (decide ((IntKind.wrap .i64 j) = c.10)) (false) ((ba (((lvOk (lvL c.7 c.8) (lvN c.7 c.8)) && (decide (0 ≤ h) && decide (h < (Int.ofNat (lvN c.7 c.8)))))) (true))))))))))))))))))) (by kernel_rfl) (band hp (btf (nfd hc) (btf (m_n hk hK hI) (btf (m_p hk hK hI) (btf (m_j hk hK hI) (band hv (btf (m_h hk hK hI) (btf (m_je hk hK hI (by decide)) (band (m_l hk hK hv hI) rfl)))))))))
theorem t_rmay7_21 (c : Conf) (a b i j n p h x y : Int) (hk : c.OkP) (hK : (7 : Int) = 6 ∨ (7 : Int) = 7 ∨ (7 : Int) = 8) (hv : lvOk (lvL c.cap c.node) (lvN c.cap c.node) = true) (hI : INV c 7 a b 21 i j n p h) (hp : posO ⟨7, a, b, 0⟩ = true) (hc : decide (f_opc_0 c ⟨7, a, b, 0⟩ = 0) = true) (hA : 0 ≤ f_act_1 (⟨⟨7, a, b, 21, i, j, n, p, h, x, y⟩, c, lvL c.cap c.node, lvN c.cap c.node, 0, 0, false⟩ : TRa)) : runF (cfg [S_opp, S_has, S_rcnt, S_top, S_act]) 400 71 [(TRa.av (⟨⟨7, a, b, 21, i, j, n, p, h, x, y⟩, c, lvL c.cap c.node, lvN c.cap c.node, 0, 0, false⟩ : TRa))] (fun v => sp_rmay.has v && (bif v.toB then true else false)) false = true := Eq.trans (b := (ba ((posO (Opr.mk 7 a b 0))) ((br ((!decide ((f_opc_0 c (Opr.mk 7 a b 0)) = 0))) (false) ((br (decide ((IntKind.wrap .i64 n) > c.7)) (false) ((br (decide ((IntKind.wrap .i64 p) > c.7)) (false) ((br (decide ((IntKind.wrap .i64 j) > c.10)) (false) ((ba ((lvOk (lvL c.7 c.8) (lvN c.7 c.8))) ((br (decide (h > ((Int.ofNat (lvN c.7 c.8)) - 1))) (false) ((br (decide ((IntKind.wrap .i64 j) = c.10)) (false) ((ba (((lvOk (lvL c.7 c.8) (lvN c.7 c.8)) && (decide (0 ≤ h) && decide (h < (Int.ofNat (lvN c.7 c.8)))))) (true))))))))))))))))))) (by kernel_rfl) (band hp (btf (nfd hc) (btf (m_n hk hK hI) (btf (m_p hk hK hI) (btf (m_j hk hK hI) (band hv (btf (m_h hk hK hI) (btf (m_je hk hK hI (by decide)) (band (m_l hk hK hv hI) rfl)))))))))
theorem t_rmay8_0 (c : Conf) (a b i j n p h x y : Int) (hk : c.OkP) (hK : (8 : Int) = 6 ∨ (8 : Int) = 7 ∨ (8 : Int) = 8) (hv : lvOk (lvL c.cap c.node) (lvN c.cap c.node) = true) (hI : INV c 8 a b 0 i j n p h) (hp : posO ⟨8, a, b, 0⟩ = true) (hc : decide (f_opc_0 c ⟨8, a, b, 0⟩ = 0) = true) (hA : 0 ≤ f_act_1 (⟨⟨8, a, b, 0, i, j, n, p, h, x, y⟩, c, lvL c.cap c.node, lvN c.cap c.node, 0, 0, false⟩ : TRa)) : runF (cfg [S_opp, S_has, S_rcnt, S_top, S_act]) 400 71 [(TRa.av (⟨⟨8, a, b, 0, i, j, n, p, h, x, y⟩, c, lvL c.cap c.node, lvN c.cap c.node, 0, 0, false⟩ : TRa))] (fun v => sp_rmay.has v && (bif v.toB then true else false)) false = true := Eq.trans (b := (ba ((posO (Opr.mk 8 a b 0))) ((br ((!decide ((f_opc_0 c (Opr.mk 8 a b 0)) = 0))) (false) ((br (decide ((IntKind.wrap .i64 n) > c.7)) (false) ((br (decide ((IntKind.wrap .i64 p) > c.7)) (false) ((br (decide ((IntKind.wrap .i64 j) > c.10)) (false) ((ba ((lvOk (lvL c.7 c.8) (lvN c.7 c.8))) ((br (decide (h > ((Int.ofNat (lvN c.7 c.8)) - 1))) (false) ((br (decide ((IntKind.wrap .i64 j) = c.10)) (false) ((ba (((lvOk (lvL c.7 c.8) (lvN c.7 c.8)) && (decide (0 ≤ h) && decide (h < (Int.ofNat (lvN c.7 c.8)))))) (true))))))))))))))))))) (by kernel_rfl) (band hp (btf (nfd hc) (btf (m_n hk hK hI) (btf (m_p hk hK hI) (btf (m_j hk hK hI) (band hv (btf (m_h hk hK hI) (btf (m_je hk hK hI (by decide)) (band (m_l hk hK hv hI) rfl)))))))))
theorem t_rmay8_1 (c : Conf) (a b i j n p h x y : Int) (hk : c.OkP) (hK : (8 : Int) = 6 ∨ (8 : Int) = 7 ∨ (8 : Int) = 8) (hv : lvOk (lvL c.cap c.node) (lvN c.cap c.node) = true) (hI : INV c 8 a b 1 i j n p h) (hp : posO ⟨8, a, b, 0⟩ = true) (hc : decide (f_opc_0 c ⟨8, a, b, 0⟩ = 0) = true) (hA : 0 ≤ f_act_1 (⟨⟨8, a, b, 1, i, j, n, p, h, x, y⟩, c, lvL c.cap c.node, lvN c.cap c.node, 0, 0, false⟩ : TRa)) : runF (cfg [S_opp, S_has, S_rcnt, S_top, S_act]) 400 71 [(TRa.av (⟨⟨8, a, b, 1, i, j, n, p, h, x, y⟩, c, lvL c.cap c.node, lvN c.cap c.node, 0, 0, false⟩ : TRa))] (fun v => sp_rmay.has v && (bif v.toB then true else false)) false = true := Eq.trans (b := (ba ((posO (Opr.mk 8 a b 0))) ((br ((!decide ((f_opc_0 c (Opr.mk 8 a b 0)) = 0))) (false) ((br (decide ((IntKind.wrap .i64 n) > c.7)) (false) ((br (decide ((IntKind.wrap .i64 p) > c.7)) (false) ((br (decide ((IntKind.wrap .i64 j) > c.10)) (false) ((ba ((lvOk (lvL c.7 c.8) (lvN c.7 c.8))) ((br (decide (h > ((Int.ofNat (lvN c.7 c.8)) - 1))) (false) ((br (decide ((IntKind.wrap .i64 j) = c.10)) (false) ((ba (((lvOk (lvL c.7 c.8) (lvN c.7 c.8)) && (decide (0 ≤ h) && decide (h < (Int.ofNat (lvN c.7 c.8)))))) ((ba (decide ((f_act_1 (TRa.mk (Frm.mk 8 a b 1 i j n p h x y) c (lvL c.7 c.8) (lvN c.7 c.8) 0 0 Bool.false)) ≥ 0)) (true))))))))))))))))))))) (by kernel_rfl) (band hp (btf (nfd hc) (btf (m_n hk hK hI) (btf (m_p hk hK hI) (btf (m_j hk hK hI) (band hv (btf (m_h hk hK hI) (btf (m_je hk hK hI (by decide)) (band (m_l hk hK hv hI) (band (m_a hA) rfl))))))))))
theorem t_rmay8_16 (c : Conf) (a b i j n p h x y : Int) (hk : c.OkP) (hK : (8 : Int) = 6 ∨ (8 : Int) = 7 ∨ (8 : Int) = 8) (hv : lvOk (lvL c.cap c.node) (lvN c.cap c.node) = true) (hI : INV c 8 a b 16 i j n p h) (hp : posO ⟨8, a, b, 0⟩ = true) (hc : decide (f_opc_0 c ⟨8, a, b, 0⟩ = 0) = true) (hA : 0 ≤ f_act_1 (⟨⟨8, a, b, 16, i, j, n, p, h, x, y⟩, c, lvL c.cap c.node, lvN c.cap c.node, 0, 0, false⟩ : TRa)) : runF (cfg [S_opp, S_has, S_rcnt, S_top, S_act]) 400 71 [(TRa.av (⟨⟨8, a, b, 16, i, j, n, p, h, x, y⟩, c, lvL c.cap c.node, lvN c.cap c.node, 0, 0, false⟩ : TRa))] (fun v => sp_rmay.has v && (bif v.toB then true else false)) false = true := Eq.trans (b := (ba ((posO (Opr.mk 8 a b 0))) ((br ((!decide ((f_opc_0 c (Opr.mk 8 a b 0)) = 0))) (false) ((br (decide ((IntKind.wrap .i64 n) > c.7)) (false) ((br (decide ((IntKind.wrap .i64 p) > c.7)) (false) ((br (decide ((IntKind.wrap .i64 j) > c.10)) (false) ((ba ((lvOk (lvL c.7 c.8) (lvN c.7 c.8))) ((br (decide (h > ((Int.ofNat (lvN c.7 c.8)) - 1))) (false) ((ba (((lvOk (lvL c.7 c.8) (lvN c.7 c.8)) && (decide (0 ≤ h) && decide (h < (Int.ofNat (lvN c.7 c.8)))))) (true))))))))))))))))) (by kernel_rfl) (band hp (btf (nfd hc) (btf (m_n hk hK hI) (btf (m_p hk hK hI) (btf (m_j hk hK hI) (band hv (btf (m_h hk hK hI) (band (m_l hk hK hv hI) rfl))))))))
theorem t_rmay8_17 (c : Conf) (a b i j n p h x y : Int) (hk : c.OkP) (hK : (8 : Int) = 6 ∨ (8 : Int) = 7 ∨ (8 : Int) = 8) (hv : lvOk (lvL c.cap c.node) (lvN c.cap c.node) = true) (hI : INV c 8 a b 17 i j n p h) (hp : posO ⟨8, a, b, 0⟩ = true) (hc : decide (f_opc_0 c ⟨8, a, b, 0⟩ = 0) = true) (hA : 0 ≤ f_act_1 (⟨⟨8, a, b, 17, i, j, n, p, h, x, y⟩, c, lvL c.cap c.node, lvN c.cap c.node, 0, 0, false⟩ : TRa)) : runF (cfg [S_opp, S_has, S_rcnt, S_top, S_act]) 400 71 [(TRa.av (⟨⟨8, a, b, 17, i, j, n, p, h, x, y⟩, c, lvL c.cap c.node, lvN c.cap c.node, 0, 0, false⟩ : TRa))] (fun v => sp_rmay.has v && (bif v.toB then true else false)) false = true := Eq.trans (b := (ba ((posO (Opr.mk 8 a b 0))) ((br ((!decide ((f_opc_0 c (Opr.mk 8 a b 0)) = 0))) (false) ((br (decide ((IntKind.wrap .i64 n) > c.7)) (false) ((br (decide ((IntKind.wrap .i64 p) > c.7)) (false) ((br (decide ((IntKind.wrap .i64 j) > c.10)) (false) ((ba ((lvOk (lvL c.7 c.8) (lvN c.7 c.8))) ((br (decide (h > ((Int.ofNat (lvN c.7 c.8)) - 1))) (false) ((br (decide ((IntKind.wrap .i64 j) = c.10)) (false) ((ba (((lvOk (lvL c.7 c.8) (lvN c.7 c.8)) && (decide (0 ≤ h) && decide (h < (Int.ofNat (lvN c.7 c.8)))))) ((ba (decide ((f_act_1 (TRa.mk (Frm.mk 8 a b 17 i j n p h x y) c (lvL c.7 c.8) (lvN c.7 c.8) 0 0 Bool.false)) ≥ 0)) (true))))))))))))))))))))) (by kernel_rfl) (band hp (btf (nfd hc) (btf (m_n hk hK hI) (btf (m_p hk hK hI) (btf (m_j hk hK hI) (band hv (btf (m_h hk hK hI) (btf (m_je hk hK hI (by decide)) (band (m_l hk hK hv hI) (band (m_a hA) rfl))))))))))
theorem t_rmay8_20 (c : Conf) (a b i j n p h x y : Int) (hk : c.OkP) (hK : (8 : Int) = 6 ∨ (8 : Int) = 7 ∨ (8 : Int) = 8) (hv : lvOk (lvL c.cap c.node) (lvN c.cap c.node) = true) (hI : INV c 8 a b 20 i j n p h) (hp : posO ⟨8, a, b, 0⟩ = true) (hc : decide (f_opc_0 c ⟨8, a, b, 0⟩ = 0) = true) (hA : 0 ≤ f_act_1 (⟨⟨8, a, b, 20, i, j, n, p, h, x, y⟩, c, lvL c.cap c.node, lvN c.cap c.node, 0, 0, false⟩ : TRa)) : runF (cfg [S_opp, S_has, S_rcnt, S_top, S_act]) 400 71 [(TRa.av (⟨⟨8, a, b, 20, i, j, n, p, h, x, y⟩, c, lvL c.cap c.node, lvN c.cap c.node, 0, 0, false⟩ : TRa))] (fun v => sp_rmay.has v && (bif v.toB then true else false)) false = true := Eq.trans (b := (ba ((posO (Opr.mk 8 a b 0))) ((br ((!decide ((f_opc_0 c (Opr.mk 8 a b 0)) = 0))) (false) ((br (decide ((IntKind.wrap .i64 n) > c.7)) (false) ((br (decide ((IntKind.wrap .i64 p) > c.7)) (false) ((br (decide ((IntKind.wrap .i64 j) > c.10)) (false) ((ba ((lvOk (lvL c.7 c.8) (lvN c.7 c.8))) ((br (decide (h > ((Int.ofNat (lvN c.7 c.8)) - 1))) (false) ((br (decide ((IntKind.wrap .i64 j) = c.10)) (false) ((ba (((lvOk (lvL c.7 c.8) (lvN c.7 c.8)) && (decide (0 ≤ h) && decide (h < (Int.ofNat (lvN c.7 c.8)))))) (true))))))))))))))))))) (by kernel_rfl) (band hp (btf (nfd hc) (btf (m_n hk hK hI) (btf (m_p hk hK hI) (btf (m_j hk hK hI) (band hv (btf (m_h hk hK hI) (btf (m_je hk hK hI (by decide)) (band (m_l hk hK hv hI) rfl)))))))))
end Go.Bas.BasZRm
end
section
namespace Go.Bas.BasZRb
open Go.RowKit Go.Proofs
open Go.Bas.BasZBase Go.Bas.BasZOp Go.Bas.BasZRank Go.Bas.BasZLev Go.Bas.BasZRank3 Go.Bas.BasZOk Go.Bas.BasZTreB Go.Bas.BasZTre Go.Bas.BasZBranch Go.Bas.BasEnds Go.Bas.BasZRdA Go.Bas.BasZRdL Go.Bas.BasZRdM Go.Bas.BasZRdN Go.Bas.BasZRdP Go.Bas.BasZRa Go.Bas.BasZRm
set_option maxRecDepth 100000
set_option maxHeartbeats 4000000
set_option linter.unusedVariables false
set_option linter.unusedSimpArgs false
theorem act_of {kd at_ code K E pc : Int} (h : okA kd at_ code K E = true) (h1 : aK pc = K) (h2 : aE pc = E) : 0 ≤ at_ ∧ okN 0 kd code pc = true := by
  unfold okA at h
  simp only [Bool.and_eq_true, decide_eq_true_eq] at h
  exact ⟨h.2.1, decide_eq_true ⟨rfl, h.1.trans h1.symm, h.2.2.trans h2.symm⟩⟩
theorem mayP_ {k b : Int} (hK : k = 6 ∨ k = 7 ∨ k = 8) (hb : 0 ≤ b) {a : Int} : posO ⟨k, a, b, 0⟩ = true := by
  unfold posO
  simp only [Bool.and_eq_true, decide_eq_true_eq]
  omega
theorem act0 {c : Conf} {k a b i j n p h : Int} (x y : Int) (hk : c.OkP) (hK : k = 6 ∨ k = 7 ∨ k = 8) (hv : lvOk (lvL c.cap c.node) (lvN c.cap c.node) = true) (hI : INV c k a b 0 i j n p h) : 0 ≤ f_act_1 (mkr c ⟨k, a, b, 0, i, j, n, p, h, x, y⟩) ∧ okN 0 (f_act_0 (mkr c ⟨k, a, b, 0, i, j, n, p, h, x, y⟩)) (f_act_5 (mkr c ⟨k, a, b, 0, i, j, n, p, h, x, y⟩)) 0 = true := act_of (of_cond (and_right (run_out (t_ract0 c k a b i j n p h x y hk hK hv hI)).1)).1 rfl rfl
theorem act1 {c : Conf} {k a b i j n p h : Int} (x y : Int) (hk : c.OkP) (hK : k = 6 ∨ k = 7 ∨ k = 8) (hv : lvOk (lvL c.cap c.node) (lvN c.cap c.node) = true) (hI : INV c k a b 1 i j n p h) : 0 ≤ f_act_1 (mkr c ⟨k, a, b, 1, i, j, n, p, h, x, y⟩) ∧ okN 0 (f_act_0 (mkr c ⟨k, a, b, 1, i, j, n, p, h, x, y⟩)) (f_act_5 (mkr c ⟨k, a, b, 1, i, j, n, p, h, x, y⟩)) 1 = true := act_of (of_cond (and_right (run_out (t_ract1 c k a b i j n p h x y hk hK hv hI)).1)).1 rfl rfl
theorem act3 {c : Conf} {k a b i j n p h : Int} (x y : Int) (hk : c.OkP) (hK : k = 6 ∨ k = 7 ∨ k = 8) (hv : lvOk (lvL c.cap c.node) (lvN c.cap c.node) = true) (hI : INV c k a b 3 i j n p h) : 0 ≤ f_act_1 (mkr c ⟨k, a, b, 3, i, j, n, p, h, x, y⟩) ∧ okN 0 (f_act_0 (mkr c ⟨k, a, b, 3, i, j, n, p, h, x, y⟩)) (f_act_5 (mkr c ⟨k, a, b, 3, i, j, n, p, h, x, y⟩)) 3 = true := act_of (of_cond (and_right (run_out (t_ract3 c k a b i j n p h x y hk hK hv hI)).1)).1 rfl rfl
theorem act16 {c : Conf} {k a b i j n p h : Int} (x y : Int) (hk : c.OkP) (hK : k = 6 ∨ k = 7 ∨ k = 8) (hv : lvOk (lvL c.cap c.node) (lvN c.cap c.node) = true) (hI : INV c k a b 16 i j n p h) : 0 ≤ f_act_1 (mkr c ⟨k, a, b, 16, i, j, n, p, h, x, y⟩) ∧ okN 0 (f_act_0 (mkr c ⟨k, a, b, 16, i, j, n, p, h, x, y⟩)) (f_act_5 (mkr c ⟨k, a, b, 16, i, j, n, p, h, x, y⟩)) 16 = true := act_of (of_cond (and_right (run_out (t_ract16 c k a b i j n p h x y hk hK hv hI)).1)).1 rfl rfl
theorem act17 {c : Conf} {k a b i j n p h : Int} (x y : Int) (hk : c.OkP) (hK : k = 6 ∨ k = 7 ∨ k = 8) (hv : lvOk (lvL c.cap c.node) (lvN c.cap c.node) = true) (hI : INV c k a b 17 i j n p h) : 0 ≤ f_act_1 (mkr c ⟨k, a, b, 17, i, j, n, p, h, x, y⟩) ∧ okN 0 (f_act_0 (mkr c ⟨k, a, b, 17, i, j, n, p, h, x, y⟩)) (f_act_5 (mkr c ⟨k, a, b, 17, i, j, n, p, h, x, y⟩)) 17 = true := act_of (of_cond (and_right (run_out (t_ract17 c k a b i j n p h x y hk hK hv hI)).1)).1 rfl rfl
theorem act20 {c : Conf} {k a b i j n p h : Int} (x y : Int) (hk : c.OkP) (hK : k = 6 ∨ k = 7 ∨ k = 8) (hv : lvOk (lvL c.cap c.node) (lvN c.cap c.node) = true) (hI : INV c k a b 20 i j n p h) : 0 ≤ f_act_1 (mkr c ⟨k, a, b, 20, i, j, n, p, h, x, y⟩) ∧ okN 0 (f_act_0 (mkr c ⟨k, a, b, 20, i, j, n, p, h, x, y⟩)) (f_act_5 (mkr c ⟨k, a, b, 20, i, j, n, p, h, x, y⟩)) 20 = true := act_of (of_cond (and_right (run_out (t_ract20 c k a b i j n p h x y hk hK hv hI)).1)).1 rfl rfl
theorem act21 {c : Conf} {k a b i j n p h : Int} (x y : Int) (hk : c.OkP) (hK : k = 6 ∨ k = 7 ∨ k = 8) (hv : lvOk (lvL c.cap c.node) (lvN c.cap c.node) = true) (hI : INV c k a b 21 i j n p h) : 0 ≤ f_act_1 (mkr c ⟨k, a, b, 21, i, j, n, p, h, x, y⟩) ∧ okN 0 (f_act_0 (mkr c ⟨k, a, b, 21, i, j, n, p, h, x, y⟩)) (f_act_5 (mkr c ⟨k, a, b, 21, i, j, n, p, h, x, y⟩)) 21 = true := act_of (of_cond (and_right (run_out (t_ract21 c k a b i j n p h x y hk hK hv hI)).1)).1 rfl rfl
theorem act23 {c : Conf} {k a b i j n p h : Int} (x y : Int) (hk : c.OkP) (hK : k = 6 ∨ k = 7 ∨ k = 8) (hv : lvOk (lvL c.cap c.node) (lvN c.cap c.node) = true) (hI : INV c k a b 23 i j n p h) : 0 ≤ f_act_1 (mkr c ⟨k, a, b, 23, i, j, n, p, h, x, y⟩) ∧ okN 0 (f_act_0 (mkr c ⟨k, a, b, 23, i, j, n, p, h, x, y⟩)) (f_act_5 (mkr c ⟨k, a, b, 23, i, j, n, p, h, x, y⟩)) 23 = true := act_of (of_cond (and_right (run_out (t_ract23 c k a b i j n p h x y hk hK hv hI)).1)).1 rfl rfl
/-- An index's reading may be where it is; what its act is. -/
theorem may_at {c : Conf} {k a b pc i j n p h : Int} (x y : Int) (hk : c.OkP) (hb : 0 ≤ b) (hK : k = 6 ∨ k = 7 ∨ k = 8) (hv : lvOk (lvL c.cap c.node) (lvN c.cap c.node) = true) (hc : decide (f_opc_0 c ⟨k, a, b, 0⟩ = 0) = true) (hI : INV c k a b pc i j n p h) : f_may_0 (mkr c ⟨k, a, b, pc, i, j, n, p, h, x, y⟩) = true ∧ okN 0 (f_act_0 (mkr c ⟨k, a, b, pc, i, j, n, p, h, x, y⟩)) (f_act_5 (mkr c ⟨k, a, b, pc, i, j, n, p, h, x, y⟩)) pc = true := by
  obtain ⟨ho, hx⟩ := invI hK hI
  have hp := mayP_ (a := a) hK hb
  rcases hx.2 with q | q | q | q | q | q | q | q
  · have hpc := q.1
    subst hpc
    have hA := act0 x y hk hK hv hI
    refine ⟨?_, hA.2⟩
    rcases hK with hK1 | hK1 | hK1
    · subst hK1
      exact (of_cond (and_right (run_out (t_rmay6_0 c a b i j n p h x y hk (by decide) hv hI hp hc hA.1)).1)).1
    · subst hK1
      exact (of_cond (and_right (run_out (t_rmay7_0 c a b i j n p h x y hk (by decide) hv hI hp hc hA.1)).1)).1
    · subst hK1
      exact (of_cond (and_right (run_out (t_rmay8_0 c a b i j n p h x y hk (by decide) hv hI hp hc hA.1)).1)).1
  · have hpc := q.1
    subst hpc
    have hA := act1 x y hk hK hv hI
    refine ⟨?_, hA.2⟩
    rcases hK with hK1 | hK1 | hK1
    · subst hK1
      exact (of_cond (and_right (run_out (t_rmay6_1 c a b i j n p h x y hk (by decide) hv hI hp hc hA.1)).1)).1
    · subst hK1
      exact (of_cond (and_right (run_out (t_rmay7_1 c a b i j n p h x y hk (by decide) hv hI hp hc hA.1)).1)).1
    · subst hK1
      exact (of_cond (and_right (run_out (t_rmay8_1 c a b i j n p h x y hk (by decide) hv hI hp hc hA.1)).1)).1
  · have hpc := q.1
    subst hpc
    have hA := act3 x y hk hK hv hI
    refine ⟨?_, hA.2⟩
    have hK1 := q.2.1
    subst hK1
    exact (of_cond (and_right (run_out (t_rmay7_3 c a b i j n p h x y hk (by decide) hv hI hp hc hA.1)).1)).1
  · have hpc := q.1
    subst hpc
    have hA := act16 x y hk hK hv hI
    refine ⟨?_, hA.2⟩
    have hK1 := q.2.1
    subst hK1
    exact (of_cond (and_right (run_out (t_rmay8_16 c a b i j n p h x y hk (by decide) hv hI hp hc hA.1)).1)).1
  · have hpc := q.1
    subst hpc
    have hA := act17 x y hk hK hv hI
    refine ⟨?_, hA.2⟩
    have hK1 := q.2.1
    subst hK1
    exact (of_cond (and_right (run_out (t_rmay8_17 c a b i j n p h x y hk (by decide) hv hI hp hc hA.1)).1)).1
  · have hpc := q.1
    subst hpc
    have hA := act20 x y hk hK hv hI
    refine ⟨?_, hA.2⟩
    rcases q.2.1 with hK1 | hK1
    · subst hK1
      exact (of_cond (and_right (run_out (t_rmay7_20 c a b i j n p h x y hk (by decide) hv hI hp hc hA.1)).1)).1
    · subst hK1
      exact (of_cond (and_right (run_out (t_rmay8_20 c a b i j n p h x y hk (by decide) hv hI hp hc hA.1)).1)).1
  · have hpc := q.1
    subst hpc
    have hA := act21 x y hk hK hv hI
    refine ⟨?_, hA.2⟩
    rcases q.2.1 with hK1 | hK1
    · subst hK1
      exact (of_cond (and_right (run_out (t_rmay6_21 c a b i j n p h x y hk (by decide) hv hI hp hc hA.1)).1)).1
    · subst hK1
      exact (of_cond (and_right (run_out (t_rmay7_21 c a b i j n p h x y hk (by decide) hv hI hp hc hA.1)).1)).1
  · have hpc := q.1
    subst hpc
    have hA := act23 x y hk hK hv hI
    refine ⟨?_, hA.2⟩
    have hK1 := q.2.1
    subst hK1
    exact (of_cond (and_right (run_out (t_rmay6_23 c a b i j n p h x y hk (by decide) hv hI hp hc hA.1)).1)).1
theorem lvk {c : Conf} (hk : c.OkP) (ho : c.ob = 2) : f_width_0 c.cap 1 c.node = true ∧ lvOk (lvL c.cap c.node) (lvN c.cap c.node) = true := by
  have hc := capP hk
  have hx := ixP hk ho
  have hw : f_width_0 c.cap 1 c.node = true := by
    rw [width_is]
    simp only [Bool.and_eq_true, decide_eq_true_eq]
    omega
  exact ⟨hw, lv_ok hw⟩
theorem posF_of {k a b pc i j n p h x y : Int} (hk : 0 ≤ k ∧ k ≤ 255) (hb : 0 ≤ b ∧ b ≤ 4294967295) (hh : 0 ≤ h ∧ h ≤ 255) : posF ⟨k, a, b, pc, i, j, n, p, h, x, y⟩ = true := posF_true.2 ⟨hk.1, hk.2, hb.1, hh.1, hh.2, hb.2⟩
/-- What is asked of an act: it is none at the end; a cell's number is not below 0. -/
def RdAct (c : Conf) (f : Frm) (l : Cel) : Prop := RdOk c f ∧ aK f.pc ≠ 4 ∧ 0 ≤ l.a
noncomputable abbrev postA (c : Conf) (f : Frm) : AV → Bool := fun v => sp_rpa.has v && (bif okX (AV.toI (AV.ix v 3)) (AV.toB (AV.ix v 2)) (AV.toI (AV.ix (AV.ix v 0) 0)) (AV.toI (AV.ix (AV.ix v 0) 1)) (AV.toI (AV.ix (AV.ix v 0) 2)) (AV.toI (AV.ix (AV.ix v 0) 3)) (AV.toI (AV.ix (AV.ix v 0) 4)) (AV.toI (AV.ix (AV.ix v 0) 5)) (AV.toI (AV.ix (AV.ix v 0) 6)) (AV.toI (AV.ix (AV.ix v 0) 7)) (AV.toI (AV.ix (AV.ix v 0) 8)) c f.kind f.a f.b f.pc f.i f.j f.n f.p f.h then true else false)
theorem opc_ok {c : Conf} {k a b : Int} (hk : 0 ≤ k ∧ k ≤ 255) (hb : 0 ≤ b) : ok_opc c ⟨k, a, b, 0⟩ = true := ok_opc_pos (o := ⟨k, a, b, 0⟩) hk.1 hk.2 hb
theorem run_rpb (c : Conf) (f : Frm) (l : Cel) (hA : RdAct c f l) : runF (cfg [S_check, S_opc, S_wat, S_levA, S_mayT, S_rcnt, S_top]) 800 39 [c.av, f.av, l.av] (postA c f) false = true := by
  obtain ⟨⟨he, hc, hp, hI⟩, hd, hl⟩ := hA
  obtain ⟨k, a, b, pc, i, j, n, p, h, x, y⟩ := f
  have hk := ok_true.1 (of_errC he)
  have hc : f_opc_0 c ⟨k, a, b, 0⟩ = 0 := hc
  have hd : aK pc ≠ 4 := hd
  have hI : INV c k a b pc i j n p h := hI
  have hP := posF_true.1 hp
  have hb : 0 ≤ b := hP.2.2.1
  have hI0 := hI
  rcases hI with q | q | q | q
  · have hq := q.1
    subst hq
    have hpc : pc = 0 := by
      rcases q.2.2.1 with r | r | r
      · exact r
      · subst r; exact absurd rfl hd
      · subst r; exact absurd rfl hd
    subst hpc
    have e := cO_is q.2.1
    have t := t_pa3 c a b i j n p h x y l
    rw [e] at t
    exact t (decide_eq_true he) hk (opc_ok (by decide) hb) (decide_eq_true hc) hI0
  · have hq := q.1
    subst hq
    have hpc : pc = 0 := by
      rcases q.2.2.1 with r | r
      · exact r
      · subst r; exact absurd rfl hd
    subst hpc
    have e := cO_is q.2.1
    have t := t_pa11 c a b i j n p h x y l
    rw [e] at t
    exact t (decide_eq_true he) hk (opc_ok (by decide) hb) (decide_eq_true hc) hI0
  · have hq := q.1
    subst hq
    have hpc : pc = 0 ∧ h < many a b := by
      rcases q.2.2.1 with r | r
      · exact ⟨r.1, r.2.1⟩
      · rcases r.1 with r | r
        · subst r; exact absurd rfl hd
        · subst r; exact absurd rfl hd
    obtain ⟨hpc, hm⟩ := hpc
    subst hpc
    have e := cO_is q.2.1
    have h0 : 0 ≤ h := q.2.2.2.1
    obtain ⟨hA, hB⟩ := path14 hb hc
    rcases hB with ⟨hB, hC⟩ | ⟨hB, hC⟩ | ⟨hB, hC⟩
    · rw [many_1 hB] at hm
      rcases (show h = 0 by omega) with hh
      subst hh
      have t := t_pa14_10 c a b i j n p x y l
      rw [e] at t
      exact t (decide_eq_true he) hk (opc_ok (by decide) hb) (decide_eq_true hc) hA hB hC hI0
    · rw [many_2 hB hC] at hm
      rcases (show h = 0 ∨ h = 1 by omega) with hh | hh
      · subst hh
        have t := t_pa14_20 c a b i j n p x y l
        rw [e] at t
        exact t (decide_eq_true he) hk (opc_ok (by decide) hb) (decide_eq_true hc) hA hB hC hI0
      · subst hh
        have t := t_pa14_21 c a b i j n p x y l
        rw [e] at t
        exact t (decide_eq_true he) hk (opc_ok (by decide) hb) (decide_eq_true hc) hA hB hC hI0
    · rw [many_3 hB hC] at hm
      rcases (show h = 0 ∨ h = 1 ∨ h = 2 by omega) with hh | hh | hh
      · subst hh
        have t := t_pa14_30 c a b i j n p x y l
        rw [e] at t
        exact t (decide_eq_true he) hk (opc_ok (by decide) hb) (decide_eq_true hc) hA hB hC hI0
      · subst hh
        have t := t_pa14_31 c a b i j n p x y l
        rw [e] at t
        exact t (decide_eq_true he) hk (opc_ok (by decide) hb) (decide_eq_true hc) hA hB hC hI0
      · subst hh
        have t := t_pa14_32 c a b i j n p x y l
        rw [e] at t
        exact t (decide_eq_true he) hk (opc_ok (by decide) hb) (decide_eq_true hc) hA hB hC hI0
  · obtain ⟨hK, ho, hx⟩ := q
    have hv := lvk hk ho
    have hm := may_at x y hk hb hK hv.2 (decide_eq_true hc) hI0
    have e := cO_is ho
    have hM : ((posF ⟨k, a, b, pc, i, j, n, p, h, x, y⟩ && lvOk (lvL c.cap c.node) (lvN c.cap c.node)) && f_may_0 (mkr c ⟨k, a, b, pc, i, j, n, p, h, x, y⟩)) = true := by rw [hp, hv.2, hm.1]; rfl
    rcases hx.2 with q | q | q | q | q | q | q | q
    · have hpc := q.1
      subst hpc
      rcases hK with hK1 | hK1 | hK1
      · subst hK1
        have t := t_pa6_0 c a b i j n p h x y l
        rw [e] at t
        exact t (decide_eq_true he) hk hv.1 hv.2 hM (decide_eq_true ho) hl hI0
      · subst hK1
        have t := t_pa7_0 c a b i j n p h x y l
        rw [e] at t
        exact t (decide_eq_true he) hk hv.1 hv.2 hM (decide_eq_true ho) hl hI0
      · subst hK1
        have t := t_pa8_0 c a b i j n p h x y l
        rw [e] at t
        exact t (decide_eq_true he) hk hv.1 hv.2 hM (decide_eq_true ho) hl hI0
    · have hpc := q.1
      subst hpc
      rcases hK with hK1 | hK1 | hK1
      · subst hK1
        have t := t_pa6_1 c a b i j n p h x y l
        rw [e] at t
        exact t (decide_eq_true he) hk hv.1 hv.2 hM (decide_eq_true ho) hI0
      · subst hK1
        have t := t_pa7_1 c a b i j n p h x y l
        rw [e] at t
        exact t (decide_eq_true he) hk hv.1 hv.2 hM (decide_eq_true ho) hI0
      · subst hK1
        have t := t_pa8_1 c a b i j n p h x y l
        rw [e] at t
        exact t (decide_eq_true he) hk hv.1 hv.2 hM (decide_eq_true ho) hI0
    · have hpc := q.1
      subst hpc
      have hK1 := q.2.1
      subst hK1
      have t := t_pa7_3 c a b i j n p h x y l
      rw [e] at t
      exact t (decide_eq_true he) hk hv.1 hv.2 hM (decide_eq_true ho) hI0
    · have hpc := q.1
      subst hpc
      have hK1 := q.2.1
      subst hK1
      have t := t_pa8_16 c a b i j n p h x y l
      rw [e] at t
      exact t (decide_eq_true he) hk hv.1 hv.2 hM (decide_eq_true ho) hI0
    · have hpc := q.1
      subst hpc
      have hK1 := q.2.1
      subst hK1
      have t := t_pa8_17 c a b i j n p h x y l
      rw [e] at t
      exact t (decide_eq_true he) hk hv.1 hv.2 hM (decide_eq_true ho) hI0
    · have hpc := q.1
      subst hpc
      exact absurd rfl hd
    · have hpc := q.1
      subst hpc
      exact absurd rfl hd
    · have hpc := q.1
      subst hpc
      exact absurd rfl hd
open Classical in
noncomputable def okW (c : Conf) (f : Frm) (l : Cel) : Bool := decide (RdAct c f l)
theorem okW_of {c : Conf} {f : Frm} {l : Cel} (h : okW c f l = true) : RdAct c f l := @of_decide_eq_true _ (Classical.propDecidable _) h
theorem okW_is {c : Conf} {f : Frm} {l : Cel} (h : RdAct c f l) : okW c f l = true := @decide_eq_true _ (Classical.propDecidable _) h
noncomputable def S_rpb : Sum := (39, on3 rConf rFrm rCel (fun c f l => okW c f l) (fun c f l => o_rpa c f l))
theorem run_rpb1 (c : Conf) (f : Frm) (l : Cel) (h : okW c f l = true) : runF (cfg [S_check, S_opc, S_wat, S_levA, S_mayT, S_rcnt, S_top]) 800 39 [c.av, f.av, l.av] sp_rpa.has false = true := ((run_out (run_rpb c f l (okW_of h))).2 sp_rpa.has).trans (and_left (run_out (run_rpb c f l (okW_of h))).1)
theorem s_rpb : SumOk Tryz.prog (gmap gs) S_rpb := on3_sum fun c f l hp => (acalls_out base (sums_cons s_check (sums_cons s_opc (sums_cons s_wat (sums_cons s_levA (sums_cons s_mayT (sums_cons s_rcnt (sums_cons s_top sums_nil))))))) (n := 800) sp_rpa (run_rpb1 c f l hp)).mono fun v_ hv_ => hv_.trans (oe_rpa c f l)
/-- The frame behind an act. -/
noncomputable def nxF (c : Conf) (f : Frm) (l : Cel) : Frm := ⟨f_rpa_0 c f l, f_rpa_1 c f l, f_rpa_2 c f l, f_rpa_3 c f l, f_rpa_4 c f l, f_rpa_5 c f l, f_rpa_6 c f l, f_rpa_7 c f l, f_rpa_8 c f l, f_rpa_9 c f l, f_rpa_10 c f l⟩
theorem rpa_step {c : Conf} {f : Frm} {l : Cel} (h : okW c f l = true) : STEP c f.kind f.a f.b f.pc f.i f.j f.n f.p f.h (f_rpa_14 c f l) (f_rpa_13 c f l) (f_rpa_0 c f l) (f_rpa_1 c f l) (f_rpa_2 c f l) (f_rpa_3 c f l) (f_rpa_4 c f l) (f_rpa_5 c f l) (f_rpa_6 c f l) (f_rpa_7 c f l) (f_rpa_8 c f l) := @of_decide_eq_true _ (Classical.propDecidable _) (of_cond (and_right (run_out (run_rpb c f l (okW_of h))).1)).1
noncomputable def muF (c : Conf) (f : Frm) : Int := MU c f.kind f.a f.b f.pc f.i f.j f.n f.p f.h
noncomputable def rhoF (c : Conf) (f : Frm) : Int := RHO c f.kind f.pc f.n f.p
theorem many_le {a b : Int} : many a b ≤ 3 := by
  unfold many
  cases decide (ishr .u32 a 16 = 0) <;> cases decide (b = 0) <;> simp
theorem h_le {c : Conf} {k a b pc i j n p h : Int} (hk : c.OkP) (hI : INV c k a b pc i j n p h) : 0 ≤ k ∧ k ≤ 255 ∧ 0 ≤ h ∧ h ≤ 255 := by
  rcases hI with q | q | q | q
  · have := bitP hk q.2.1
    omega
  · omega
  · have := many_le (a := a) (b := b)
    rcases q.2.2.1 with r | r <;> omega
  · have hl := lvP hk q.2.1
    have hb := q.2.2.1
    omega
/-- Behind an act it is a frame of a reading again; there is less left. -/
theorem nxt_ok {c : Conf} {f : Frm} {l : Cel} (h : okW c f l = true) : f_rpa_14 c f l = 0 ∧ RdOk c (nxF c f l) ∧ (nxF c f l).kind = f.kind ∧ muF c (nxF c f l) + 1 ≤ muF c f ∧ rhoF c (nxF c f l) + cond (f_rpa_13 c f l) 1 0 ≤ rhoF c f := by
  have q := rpa_step h
  obtain ⟨⟨he, hc, hp, hI⟩, hd, hl⟩ := okW_of h
  have hk := ok_true.1 (of_errC he)
  unfold STEP at q
  obtain ⟨q1, q2, q3, q4, q5, q6, q7⟩ := q
  have hP := posF_true.1 hp
  have hh := h_le hk q5
  refine ⟨q1, ⟨he, ?_, ?_, ?_⟩, q2, ?_, ?_⟩
  · show f_opc_0 c ⟨f_rpa_0 c f l, f_rpa_1 c f l, f_rpa_2 c f l, 0⟩ = 0
    rw [q2, q3, q4]
    exact hc
  · refine posF_true.2 ⟨?_, ?_, ?_, hh.2.2.1, hh.2.2.2, ?_⟩
    · show 0 ≤ f_rpa_0 c f l
      rw [q2]; exact hP.1
    · show f_rpa_0 c f l ≤ 255
      rw [q2]; exact hP.2.1
    · show 0 ≤ f_rpa_2 c f l
      rw [q4]; exact hP.2.2.1
    · show f_rpa_2 c f l ≤ 4294967295
      rw [q4]; exact hP.2.2.2.2.2
  · show INV c (f_rpa_0 c f l) (f_rpa_1 c f l) (f_rpa_2 c f l) _ _ _ _ _ _
    rw [q2, q3, q4]
    exact q5
  · show MU c (f_rpa_0 c f l) (f_rpa_1 c f l) (f_rpa_2 c f l) _ _ _ _ _ _ + 1 ≤ _
    rw [q2, q3, q4]
    exact q6
  · show RHO c (f_rpa_0 c f l) _ _ _ + _ ≤ _
    rw [q2]
    exact q7
end Go.Bas.BasZRb
end
