/- Known answers of a closed run, each reckoned by the kernel. -/
import Derived.Test.YtjepofcbkojibaaGreatDoorBasW5
import Derived.Test.YtjepofcbkojibaaGreatDoorBasW8
set_option maxRecDepth 100000
set_option maxHeartbeats 4000000
set_option linter.unusedVariables false
set_option linter.unusedSimpArgs false
namespace Go.Bas.BasTRAlive
noncomputable section
open Go.RowKit Go.Proofs BasZBase
def x (n : Int) : AV := .int .i64 n
def y (n : Int) : AV := .int .u8 n
def w (n : Int) : AV := .int .u32 n
def u (n : Int) : AV := .int .u64 n
def tr (l : List AV) : List AV := x 1 :: y 2 :: y 0 :: x 0 :: x 0 :: u 0 :: y 0 :: w 0 :: w 0 :: y 0 :: y 0 :: y 0 :: y 0 :: y 0 :: y 0 :: w 0 :: w 0 :: x 0 :: w 0 :: .nils :: x 0 :: l
def wr (k : Int) (b : Bool) (l : List AV) : List AV := y k :: u 1 :: y 9 :: w 1 :: w 7 :: w 2 :: .bool b :: x 0 :: w 0 :: .nils :: l
abbrev Ent := Nat × List AV × AV
abbrev E (f : FuncId) (e : Ent) : Prop := ACalls Tryz.prog (gmap gs) f e.2.1 (fun v => v = e.2.2)
theorem mq {l : List Sum} (hl : ∀ s ∈ l, SumOk Tryz.prog (gmap gs) s) {f : FuncId} {e : Ent} (h : ∀ k : AV -> Bool, runF ⟨Tryz.prog, gmap gs, lookS l, fun _ => false, fun _ => none⟩ 3000 f e.2.1 k false = k e.2.2) : E f e := acalls_eq base hl fun k hk => (h k).trans hk
theorem mc {f : FuncId} {e : Ent} {l : List Ent} (h : E f e) (hl : ∀ x ∈ l, E f x) : ∀ x ∈ e :: l, E f x := memoH_cons (n := e.1) h hl
def a0 : AV := .agg [y 3, x 2, x 1, y 1, x 0, x 0, x 1, x 0, x 1, x 0, u 131072, u 0]
def a1 : AV := .lst [y 11, w 0, w 0, w 0, y 9, w 1, w 7, w 2, y 11, w 1, w 7, w 0] 3
def a2 : AV := .agg [x 1, y 0, y 0, x 0, x 0, u 0, y 0, w 0, w 0, y 0, y 0, y 0, y 0, y 0, y 0, w 0, w 0, x 0, w 0, .nils, x 0, y 0, u 0, y 0, w 0, w 0, w 0, .bool false, x 0, w 0, .nils, u 0, u 0, u 0, u 0, u 0, u 0, u 0, u 0, u 0, u 0, u 0, u 0, u 0, .nils, u 0, x 0, u 0, u 0, .bool false]
def a3 : AV := .agg [y 9, w 1, w 7, w 2]
def a4 : AV := .agg [u 1, u 265, u 7, u 2]
def a5 : AV := .agg [y 2, x 3, u 0, u 0, u 0, u 0, u 1, u 265, u 7, u 2]
def a6 : AV := .agg (wr 1 false [u 0, u 0, u 0, u 0, u 0, u 0, u 0, u 0, u 0, u 0, u 0, u 0, u 0, .nils, u 0, x 0, u 0])
def a7 : AV := .agg (tr (wr 1 false [u 0, u 0, u 0, u 0, u 0, u 0, u 0, u 0, u 0, u 0, u 0, u 0, u 0, .nils, u 0, x 0, u 0, u 1, .bool false]))
def a8 : AV := .agg [u 0, u 0, u 0, u 0]
def a9 : AV := .agg (tr (wr 2 false [u 0, u 0, u 0, u 0, u 0, u 0, u 0, u 0, u 0, u 0, u 0, u 0, u 0, .nils, u 0, x 0, u 0, u 1, .bool false]))
def a10 : AV := .agg [y 1, x 4, u 0, u 0, u 0, u 0, u 0, u 0, u 0, u 0]
def a11 : AV := .agg (tr (wr 3 false [u 0, u 0, u 0, u 0, u 0, u 0, u 0, u 0, u 0, u 0, u 0, u 0, u 0, .nils, u 0, x 0, u 0, u 1, .bool false]))
def a12 : AV := .agg [y 3, x 0, x 0]
def a13 : AV := .agg [y 1, x 2, u 0, u 0, u 0, u 0, u 0, u 0, u 0, u 0]
def a14 : AV := .agg [u 0, x 7, u 0, x 0]
def a15 : AV := .agg [u 7, u 0, u 0, u 0]
def a16 : AV := .agg (tr (wr 4 false [u 0, u 7, u 0, u 0, u 0, u 0, u 0, u 0, u 0, u 0, u 0, u 0, u 0, .nils, u 0, x 0, u 0, u 1, .bool false]))
def a17 : AV := .agg [y 1, x 3, u 0, u 0, u 0, u 0, u 0, u 0, u 0, u 0]
def a18 : AV := .agg (tr (wr 5 false [u 0, u 7, u 0, u 0, u 0, u 0, u 0, u 0, u 0, u 1, u 265, u 7, u 2, .nils, u 0, x 0, u 0, u 1, .bool false]))
abbrev zeb0 : List AV := [.bool true]
def a19 : AV := .agg (tr (wr 6 false [u 0, u 7, u 0, u 0, u 0, u 0, u 0, u 0, u 0, u 1, u 265, u 7, u 2, .lst zeb0 1, u 0, x 0, u 0, u 1, .bool false]))
def a20 : AV := .agg [u 1, x 1, u 1, x 0]
def a21 : AV := .agg [u 65537, u 1, u 0, u 0]
def a22 : AV := .agg [y 3, x 2, u 7, u 0, u 0, u 0, u 65537, u 1, u 0, u 0]
def a23 : AV := .agg (tr (wr 2 false [u 0, u 7, u 0, u 0, u 0, u 0, u 0, u 0, u 0, u 1, u 265, u 7, u 2, .lst zeb0 1, u 0, x 0, u 0, u 1, .bool false]))
def a24 : AV := .agg (tr (wr 3 false [u 0, u 7, u 0, u 0, u 0, u 0, u 0, u 0, u 0, u 1, u 265, u 7, u 2, .lst zeb0 1, u 0, x 0, u 0, u 1, .bool false]))
def a25 : AV := .agg (tr (wr 7 false [u 0, u 65537, u 1, u 0, u 0, u 0, u 0, u 0, u 0, u 1, u 265, u 7, u 2, .lst zeb0 1, u 0, x 0, u 0, u 1, .bool false]))
def a26 : AV := .agg [y 1, x 9, u 0, u 0, u 0, u 0, u 0, u 0, u 0, u 0]
def a27 : AV := .agg [y 2, x 0, x 0]
def a28 : AV := .agg (tr (wr 10 false [u 0, u 65537, u 1, u 0, u 0, u 0, u 0, u 0, u 0, u 0, u 0, u 0, u 0, .lst zeb0 1, u 0, x 0, u 0, u 1, .bool false]))
def a29 : AV := .agg [y 0, x 0, u 0, u 0, u 0, u 0, u 0, u 0, u 0, u 0]
def a30 : AV := .agg [y 3, x 9, u 0, u 0, u 0, u 0, u 65536, u 0, u 0, u 0]
def a31 : AV := .agg (tr (wr 2 false [u 0, u 65537, u 1, u 0, u 0, u 0, u 0, u 0, u 0, u 0, u 0, u 0, u 0, .lst zeb0 1, u 0, x 0, u 0, u 1, .bool false]))
def a32 : AV := .agg (tr (wr 3 false [u 0, u 65537, u 1, u 0, u 0, u 0, u 0, u 0, u 0, u 0, u 0, u 0, u 0, .lst zeb0 1, u 0, x 0, u 0, u 1, .bool false]))
def a33 : AV := .agg (tr (wr 7 false [u 0, u 65537, u 1, u 0, u 0, u 0, u 0, u 0, u 0, u 0, u 0, u 0, u 0, .lst zeb0 1, u 0, x 0, u 0, u 1, .bool false]))
def a34 : AV := .agg [u 65536, u 0, u 0, u 0]
def a35 : AV := .agg [y 4, x 3, x 0]
def a36 : AV := .agg (tr (wr 8 false [u 0, u 65537, u 1, u 0, u 0, u 65536, u 0, u 0, u 0, u 0, u 0, u 0, u 0, .lst zeb0 1, u 0, x 0, u 0, u 1, .bool false]))
def a37 : AV := .agg [y 9, w 1, w 7, y 0, y 0, y 0, y 0, y 0, y 0, w 0, w 2]
def a38 : AV := .agg [u 65537, y 0, y 1, y 9, w 1, w 7, y 0, y 0, y 0, y 0, y 0, y 0, w 0, w 2]
def a39 : AV := .agg [u 65537, u 36896, u 30064771073, u 8589934592]
def a40 : AV := .agg [y 3, x 9, u 65536, u 0, u 0, u 0, u 65537, u 36896, u 30064771073, u 8589934592]
def a41 : AV := .agg (tr (wr 10 false [u 0, u 65537, u 1, u 0, u 0, u 65536, u 0, u 0, u 0, u 1, u 265, u 7, u 2, .lst zeb0 1, u 0, x 0, u 0, u 1, .bool false]))
def a42 : AV := .agg (tr (wr 2 false [u 0, u 65537, u 1, u 0, u 0, u 65536, u 0, u 0, u 0, u 1, u 265, u 7, u 2, .lst zeb0 1, u 0, x 0, u 0, u 1, .bool false]))
def a43 : AV := .agg (tr (wr 3 false [u 0, u 65537, u 1, u 0, u 0, u 65536, u 0, u 0, u 0, u 1, u 265, u 7, u 2, .lst zeb0 1, u 0, x 0, u 0, u 1, .bool false]))
def a44 : AV := .agg (tr (wr 7 false [u 0, u 65537, u 1, u 0, u 0, u 65536, u 0, u 0, u 0, u 1, u 265, u 7, u 2, .lst zeb0 1, u 0, x 0, u 0, u 1, .bool false]))
def a45 : AV := .agg [y 1, x 0, u 0, u 0, u 0, x 0, w 0]
def a46 : AV := .agg (tr (wr 8 false [u 0, u 65537, u 1, u 0, u 0, u 65537, u 36896, u 30064771073, u 8589934592, u 1, u 265, u 7, u 2, .lst zeb0 1, u 0, x 0, u 0, u 1, .bool false]))
def a47 : AV := .agg [y 9, w 1, w 7, y 22, y 0, y 0, y 0, y 0, y 0, w 0, w 2]
def a48 : AV := .agg [y 1, x 10, u 0, u 0, u 0, u 0, u 0, u 0, u 0, u 0]
def a49 : AV := .agg [y 9, w 1, w 7, y 2, y 0, y 0, y 0, y 0, y 1, w 0, w 2]
def a50 : AV := .agg [u 65538, y 0, y 1, y 9, w 1, w 7, y 2, y 0, y 0, y 0, y 0, y 1, w 0, w 2]
def a51 : AV := .agg [u 65538, u 140737488523296, u 30064771073, u 8589934592]
def a52 : AV := .agg [y 3, x 9, u 65537, u 36896, u 30064771073, u 8589934592, u 65538, u 140737488523296, u 30064771073, u 8589934592]
def a53 : AV := .agg (tr (wr 10 false [u 0, u 65537, u 1, u 0, u 0, u 65537, u 36896, u 30064771073, u 8589934592, u 0, u 0, u 0, u 0, .lst zeb0 1, u 0, x 0, u 0, u 1, .bool false]))
def a54 : AV := .agg (tr (wr 2 false [u 0, u 65537, u 1, u 0, u 0, u 65537, u 36896, u 30064771073, u 8589934592, u 0, u 0, u 0, u 0, .lst zeb0 1, u 0, x 0, u 0, u 1, .bool false]))
def a55 : AV := .agg (tr (wr 3 false [u 0, u 65537, u 1, u 0, u 0, u 65537, u 36896, u 30064771073, u 8589934592, u 0, u 0, u 0, u 0, .lst zeb0 1, u 0, x 0, u 0, u 1, .bool false]))
def a56 : AV := .agg (tr (wr 7 false [u 0, u 65537, u 1, u 0, u 0, u 65537, u 36896, u 30064771073, u 8589934592, u 0, u 0, u 0, u 0, .lst zeb0 1, u 0, x 0, u 0, u 1, .bool false]))
def a57 : AV := .agg [y 2, x 0, u 2, u 1, u 7, x 0, w 0]
def a58 : AV := .agg (tr (wr 8 false [u 0, u 65537, u 1, u 0, u 0, u 65538, u 140737488523296, u 30064771073, u 8589934592, u 0, u 0, u 0, u 0, .lst zeb0 1, u 0, x 0, u 0, u 1, .bool false]))
def a59 : AV := .agg [y 3, x 10, u 0, u 0, u 0, u 0, u 65539, u 2, u 1, u 7]
def a60 : AV := .agg [y 9, w 1, w 7, y 20, y 0, y 0, y 0, y 0, y 1, w 0, w 2]
def a61 : AV := .agg [u 65539, y 0, y 1, y 9, w 1, w 7, y 20, y 0, y 0, y 0, y 0, y 1, w 0, w 2]
def a62 : AV := .agg [u 65539, u 140737489702944, u 30064771073, u 8589934592]
def a63 : AV := .agg [y 3, x 9, u 65538, u 140737488523296, u 30064771073, u 8589934592, u 65539, u 140737489702944, u 30064771073, u 8589934592]
def a64 : AV := .agg (tr (wr 9 false [u 0, u 65537, u 1, u 0, u 0, u 65538, u 140737488523296, u 30064771073, u 8589934592, u 0, u 0, u 0, u 0, .lst zeb0 1, u 0, x 0, u 0, u 1, .bool false]))
def a65 : AV := .agg (tr (wr 10 false [u 0, u 65537, u 1, u 0, u 0, u 65538, u 140737488523296, u 30064771073, u 8589934592, u 0, u 0, u 0, u 0, .lst zeb0 1, u 0, x 0, u 0, u 1, .bool false]))
def a66 : AV := .agg (tr (wr 2 false [u 0, u 65537, u 1, u 0, u 0, u 65538, u 140737488523296, u 30064771073, u 8589934592, u 0, u 0, u 0, u 0, .lst zeb0 1, u 0, x 0, u 0, u 1, .bool false]))
def a67 : AV := .agg (tr (wr 3 false [u 0, u 65537, u 1, u 0, u 0, u 65538, u 140737488523296, u 30064771073, u 8589934592, u 0, u 0, u 0, u 0, .lst zeb0 1, u 0, x 0, u 0, u 1, .bool false]))
def a68 : AV := .agg (tr (wr 7 false [u 0, u 65537, u 1, u 0, u 0, u 65538, u 140737488523296, u 30064771073, u 8589934592, u 0, u 0, u 0, u 0, .lst zeb0 1, u 0, x 0, u 0, u 1, .bool false]))
def a69 : AV := .agg [y 4, x 0, u 0, u 0, u 0, x 0, w 0]
def a70 : AV := .agg (tr (wr 8 false [u 0, u 65537, u 1, u 0, u 0, u 65539, u 140737489702944, u 30064771073, u 8589934592, u 0, u 0, u 0, u 0, .lst zeb0 1, u 0, x 0, u 0, u 1, .bool false]))
def a71 : AV := .agg [u 1, u 0, u 0, u 1]
def a72 : AV := .agg [y 3, x 4, u 0, u 0, u 0, u 0, u 1, u 0, u 0, u 1]
def a73 : AV := .agg [u 65540, y 1, y 0, y 0, w 0, w 0, y 0, y 0, y 0, y 0, y 0, y 0, w 0, w 0]
def a74 : AV := .agg [u 65540, u 1, u 0, u 0]
def a75 : AV := .agg [y 3, x 9, u 65539, u 140737489702944, u 30064771073, u 8589934592, u 65540, u 1, u 0, u 0]
def a76 : AV := .agg (tr (wr 9 false [u 0, u 65537, u 1, u 0, u 0, u 65539, u 140737489702944, u 30064771073, u 8589934592, u 0, u 0, u 0, u 0, .lst zeb0 1, u 0, x 0, u 0, u 1, .bool false]))
def a77 : AV := .agg (tr (wr 10 false [u 0, u 65537, u 1, u 0, u 0, u 65539, u 140737489702944, u 30064771073, u 8589934592, u 0, u 0, u 0, u 0, .lst zeb0 1, u 0, x 0, u 0, u 1, .bool false]))
def a78 : AV := .agg (tr (wr 2 false [u 0, u 65537, u 1, u 0, u 0, u 65539, u 140737489702944, u 30064771073, u 8589934592, u 0, u 0, u 0, u 0, .lst zeb0 1, u 0, x 0, u 0, u 1, .bool false]))
def a79 : AV := .agg (tr (wr 3 true [u 1, u 65537, u 1, u 0, u 0, u 65539, u 140737489702944, u 30064771073, u 8589934592, u 0, u 0, u 0, u 0, .lst zeb0 1, u 0, x 0, u 0, u 1, .bool false]))
def a80 : AV := .agg (tr (wr 7 true [u 1, u 65537, u 1, u 0, u 0, u 65539, u 140737489702944, u 30064771073, u 8589934592, u 0, u 0, u 0, u 0, .lst zeb0 1, u 0, x 0, u 0, u 1, .bool false]))
def a81 : AV := .agg (tr (wr 11 true [u 1, u 65537, u 1, u 0, u 0, u 65540, u 1, u 0, u 0, u 0, u 0, u 0, u 0, .lst zeb0 1, u 0, x 0, u 0, u 1, .bool false]))
def a82 : AV := .agg [u 1, x 2, u 1, x 0]
def a83 : AV := .agg [u 65538, u 1, u 0, u 0]
def a84 : AV := .agg [y 3, x 2, u 65537, u 1, u 0, u 0, u 65538, u 1, u 0, u 0]
def a85 : AV := .agg (tr (wr 2 true [u 1, u 65537, u 1, u 0, u 0, u 65540, u 1, u 0, u 0, u 0, u 0, u 0, u 0, .lst zeb0 1, u 0, x 0, u 0, u 1, .bool false]))
def a86 : AV := .agg (tr (wr 3 true [u 1, u 65537, u 1, u 0, u 0, u 65540, u 1, u 0, u 0, u 0, u 0, u 0, u 0, .lst zeb0 1, u 0, x 0, u 0, u 1, .bool false]))
def a87 : AV := .agg (tr (wr 12 true [u 1, u 65538, u 1, u 0, u 0, u 65540, u 1, u 0, u 0, u 0, u 0, u 0, u 0, .lst zeb0 1, u 0, x 0, u 0, u 1, .bool false]))
def a88 : AV := .agg [y 3, x 1, u 0, u 0, u 0, u 0, u 65536, u 1, u 0, u 0]
def a89 : AV := .agg (tr (wr 11 true [u 1, u 65538, u 1, u 0, u 0, u 65540, u 1, u 0, u 0, u 0, u 0, u 0, u 0, .lst zeb0 1, u 0, x 0, u 0, u 1, .bool false]))
def a90 : AV := .agg [u 1, x 3, u 1, x 0]
def a91 : AV := .agg [u 65539, u 1, u 0, u 0]
def a92 : AV := .agg [y 3, x 2, u 65538, u 1, u 0, u 0, u 65539, u 1, u 0, u 0]
def a93 : AV := .agg (tr (wr 2 true [u 1, u 65538, u 1, u 0, u 0, u 65540, u 1, u 0, u 0, u 0, u 0, u 0, u 0, .lst zeb0 1, u 0, x 0, u 0, u 1, .bool false]))
def a94 : AV := .agg (tr (wr 3 true [u 1, u 65538, u 1, u 0, u 0, u 65540, u 1, u 0, u 0, u 0, u 0, u 0, u 0, .lst zeb0 1, u 0, x 0, u 0, u 1, .bool false]))
def a95 : AV := .agg (tr (wr 14 true [u 1, u 65539, u 1, u 0, u 0, u 65540, u 1, u 0, u 0, u 0, u 0, u 0, u 0, .lst zeb0 1, u 65539, x 0, u 0, u 1, .bool false]))
def a96 : AV := .agg [u 65539, x 0, u 0]
def a97 : AV := .agg [y 1, x 6, u 0, u 0, u 0, u 0, u 0, u 0, u 0, u 0]
def a98 : AV := .agg (tr (wr 11 true [u 1, u 65539, u 1, u 0, u 0, u 65540, u 1, u 0, u 0, u 0, u 0, u 0, u 0, .lst zeb0 1, u 65539, x 1, u 0, u 1, .bool false]))
def a99 : AV := .agg [u 1, x 4, u 1, x 0]
def a100 : AV := .agg [y 3, x 2, u 65539, u 1, u 0, u 0, u 65540, u 1, u 0, u 0]
def a101 : AV := .agg (tr (wr 2 true [u 1, u 65539, u 1, u 0, u 0, u 65540, u 1, u 0, u 0, u 0, u 0, u 0, u 0, .lst zeb0 1, u 65539, x 1, u 0, u 1, .bool false]))
def a102 : AV := .agg (tr (wr 3 true [u 1, u 65539, u 1, u 0, u 0, u 65540, u 1, u 0, u 0, u 0, u 0, u 0, u 0, .lst zeb0 1, u 65539, x 1, u 0, u 1, .bool false]))
def a103 : AV := .agg (tr (wr 13 true [u 1, u 65540, u 1, u 0, u 0, u 65540, u 1, u 0, u 0, u 0, u 0, u 0, u 0, .lst zeb0 1, u 65539, x 1, u 0, u 1, .bool false]))
def a104 : AV := .agg [y 3, x 0, u 0, u 0, u 0, u 0, u 65536, u 1, u 0, u 0]
def a105 : AV := .agg (tr (wr 11 true [u 1, u 65540, u 1, u 0, u 0, u 65540, u 1, u 0, u 0, u 0, u 0, u 0, u 0, .lst zeb0 1, u 65539, x 1, u 0, u 1, .bool false]))
def a106 : AV := .agg [u 1, x 5, u 1, x 0]
def a107 : AV := .agg [u 65541, u 1, u 0, u 0]
def a108 : AV := .agg [y 3, x 2, u 65540, u 1, u 0, u 0, u 65541, u 1, u 0, u 0]
def a109 : AV := .agg (tr (wr 2 true [u 1, u 65540, u 1, u 0, u 0, u 65540, u 1, u 0, u 0, u 0, u 0, u 0, u 0, .lst zeb0 1, u 65539, x 1, u 0, u 1, .bool false]))
def a110 : AV := .agg (tr (wr 3 true [u 1, u 65540, u 1, u 0, u 0, u 65540, u 1, u 0, u 0, u 0, u 0, u 0, u 0, .lst zeb0 1, u 65539, x 1, u 0, u 1, .bool false]))
def a111 : AV := .agg (tr (wr 14 true [u 1, u 65541, u 1, u 0, u 0, u 65540, u 1, u 0, u 0, u 0, u 0, u 0, u 0, .lst zeb0 1, u 65541, x 0, u 0, u 1, .bool false]))
def a112 : AV := .agg [u 65541, x 0, u 0]
def a113 : AV := .agg [y 1, x 5, u 0, u 0, u 0, u 0, u 0, u 0, u 0, u 0]
def a114 : AV := .agg (tr (wr 11 true [u 1, u 65541, u 1, u 0, u 0, u 65540, u 1, u 0, u 0, u 0, u 0, u 0, u 0, .lst zeb0 1, u 65541, x 1, u 0, u 1, .bool false]))
def a115 : AV := .agg [u 1, x 6, u 1, x 0]
def a116 : AV := .agg [u 65542, u 1, u 0, u 0]
def a117 : AV := .agg [y 3, x 2, u 65541, u 1, u 0, u 0, u 65542, u 1, u 0, u 0]
def a118 : AV := .agg (tr (wr 2 true [u 1, u 65541, u 1, u 0, u 0, u 65540, u 1, u 0, u 0, u 0, u 0, u 0, u 0, .lst zeb0 1, u 65541, x 1, u 0, u 1, .bool false]))
def a119 : AV := .agg (tr (wr 3 true [u 1, u 65541, u 1, u 0, u 0, u 65540, u 1, u 0, u 0, u 0, u 0, u 0, u 0, .lst zeb0 1, u 65541, x 1, u 0, u 1, .bool false]))
def a120 : AV := .agg (tr (wr 7 true [u 1, u 65542, u 1, u 0, u 0, u 65540, u 1, u 0, u 0, u 0, u 0, u 0, u 0, .lst zeb0 1, u 65541, x 1, u 0, u 1, .bool false]))
def a121 : AV := .agg [y 1, x 7, u 0, u 0, u 0, u 0, u 0, u 0, u 0, u 0]
def a122 : AV := .agg (tr (wr 10 true [u 1, u 65542, u 1, u 0, u 0, u 0, u 0, u 0, u 0, u 0, u 0, u 0, u 0, .lst zeb0 1, u 65541, x 1, u 0, u 1, .bool false]))
def a123 : AV := .agg [y 3, x 7, u 0, u 0, u 0, u 0, u 65536, u 0, u 0, u 0]
def a124 : AV := .agg (tr (wr 2 true [u 1, u 65542, u 1, u 0, u 0, u 0, u 0, u 0, u 0, u 0, u 0, u 0, u 0, .lst zeb0 1, u 65541, x 1, u 0, u 1, .bool false]))
def a125 : AV := .agg (tr (wr 3 true [u 1, u 65542, u 1, u 0, u 0, u 0, u 0, u 0, u 0, u 0, u 0, u 0, u 0, .lst zeb0 1, u 65541, x 1, u 0, u 1, .bool false]))
def a126 : AV := .agg (tr (wr 7 true [u 1, u 65542, u 1, u 0, u 0, u 0, u 0, u 0, u 0, u 0, u 0, u 0, u 0, .lst zeb0 1, u 65541, x 1, u 0, u 1, .bool false]))
def a127 : AV := .agg (tr (wr 8 true [u 1, u 65542, u 1, u 0, u 0, u 65536, u 0, u 0, u 0, u 0, u 0, u 0, u 0, .lst zeb0 1, u 65541, x 1, u 0, u 1, .bool false]))
def a128 : AV := .agg [y 3, x 7, u 65536, u 0, u 0, u 0, u 65537, u 36896, u 30064771073, u 8589934592]
def a129 : AV := .agg (tr (wr 10 true [u 1, u 65542, u 1, u 0, u 0, u 65536, u 0, u 0, u 0, u 1, u 265, u 7, u 2, .lst zeb0 1, u 65541, x 1, u 0, u 1, .bool false]))
def a130 : AV := .agg (tr (wr 2 true [u 1, u 65542, u 1, u 0, u 0, u 65536, u 0, u 0, u 0, u 1, u 265, u 7, u 2, .lst zeb0 1, u 65541, x 1, u 0, u 1, .bool false]))
def a131 : AV := .agg (tr (wr 3 true [u 1, u 65542, u 1, u 0, u 0, u 65536, u 0, u 0, u 0, u 1, u 265, u 7, u 2, .lst zeb0 1, u 65541, x 1, u 0, u 1, .bool false]))
def a132 : AV := .agg (tr (wr 7 true [u 1, u 65542, u 1, u 0, u 0, u 65536, u 0, u 0, u 0, u 1, u 265, u 7, u 2, .lst zeb0 1, u 65541, x 1, u 0, u 1, .bool false]))
def a133 : AV := .agg (tr (wr 8 true [u 1, u 65542, u 1, u 0, u 0, u 65537, u 36896, u 30064771073, u 8589934592, u 1, u 265, u 7, u 2, .lst zeb0 1, u 65541, x 1, u 0, u 1, .bool false]))
def a134 : AV := .agg [y 1, x 8, u 0, u 0, u 0, u 0, u 0, u 0, u 0, u 0]
def a135 : AV := .agg [y 3, x 7, u 65537, u 36896, u 30064771073, u 8589934592, u 65538, u 140737488523296, u 30064771073, u 8589934592]
def a136 : AV := .agg (tr (wr 10 true [u 1, u 65542, u 1, u 0, u 0, u 65537, u 36896, u 30064771073, u 8589934592, u 0, u 0, u 0, u 0, .lst zeb0 1, u 65541, x 1, u 0, u 1, .bool false]))
def a137 : AV := .agg (tr (wr 2 true [u 1, u 65542, u 1, u 0, u 0, u 65537, u 36896, u 30064771073, u 8589934592, u 0, u 0, u 0, u 0, .lst zeb0 1, u 65541, x 1, u 0, u 1, .bool false]))
def a138 : AV := .agg (tr (wr 3 true [u 1, u 65542, u 1, u 0, u 0, u 65537, u 36896, u 30064771073, u 8589934592, u 0, u 0, u 0, u 0, .lst zeb0 1, u 65541, x 1, u 0, u 1, .bool false]))
def a139 : AV := .agg (tr (wr 7 true [u 1, u 65542, u 1, u 0, u 0, u 65537, u 36896, u 30064771073, u 8589934592, u 0, u 0, u 0, u 0, .lst zeb0 1, u 65541, x 1, u 0, u 1, .bool false]))
def a140 : AV := .agg (tr (wr 8 true [u 1, u 65542, u 1, u 0, u 0, u 65538, u 140737488523296, u 30064771073, u 8589934592, u 0, u 0, u 0, u 0, .lst zeb0 1, u 65541, x 1, u 0, u 1, .bool false]))
def a141 : AV := .agg [y 3, x 8, u 0, u 0, u 0, u 0, u 65539, u 2, u 1, u 7]
def a142 : AV := .agg [y 3, x 7, u 65538, u 140737488523296, u 30064771073, u 8589934592, u 65539, u 140737489702944, u 30064771073, u 8589934592]
def a143 : AV := .agg (tr (wr 9 true [u 1, u 65542, u 1, u 0, u 0, u 65538, u 140737488523296, u 30064771073, u 8589934592, u 0, u 0, u 0, u 0, .lst zeb0 1, u 65541, x 1, u 0, u 1, .bool false]))
def a144 : AV := .agg (tr (wr 10 true [u 1, u 65542, u 1, u 0, u 0, u 65538, u 140737488523296, u 30064771073, u 8589934592, u 0, u 0, u 0, u 0, .lst zeb0 1, u 65541, x 1, u 0, u 1, .bool false]))
def a145 : AV := .agg (tr (wr 2 true [u 1, u 65542, u 1, u 0, u 0, u 65538, u 140737488523296, u 30064771073, u 8589934592, u 0, u 0, u 0, u 0, .lst zeb0 1, u 65541, x 1, u 0, u 1, .bool false]))
def a146 : AV := .agg (tr (wr 3 true [u 1, u 65542, u 1, u 0, u 0, u 65538, u 140737488523296, u 30064771073, u 8589934592, u 0, u 0, u 0, u 0, .lst zeb0 1, u 65541, x 1, u 0, u 1, .bool false]))
def a147 : AV := .agg (tr (wr 7 true [u 1, u 65542, u 1, u 0, u 0, u 65538, u 140737488523296, u 30064771073, u 8589934592, u 0, u 0, u 0, u 0, .lst zeb0 1, u 65541, x 1, u 0, u 1, .bool false]))
def a148 : AV := .agg (tr (wr 10 true [u 1, u 65542, u 1, u 0, u 0, u 65539, u 140737489702944, u 30064771073, u 8589934592, u 0, u 0, u 0, u 0, .lst zeb0 1, u 65541, x 1, u 0, u 1, .bool false]))
def a149 : AV := .agg [y 3, x 7, u 65539, u 140737489702944, u 30064771073, u 8589934592, u 65540, u 1, u 0, u 0]
def a150 : AV := .agg (tr (wr 2 true [u 1, u 65542, u 1, u 0, u 0, u 65539, u 140737489702944, u 30064771073, u 8589934592, u 0, u 0, u 0, u 0, .lst zeb0 1, u 65541, x 1, u 0, u 1, .bool false]))
def a151 : AV := .agg (tr (wr 3 true [u 1, u 65542, u 1, u 0, u 0, u 65539, u 140737489702944, u 30064771073, u 8589934592, u 0, u 0, u 0, u 0, .lst zeb0 1, u 65541, x 1, u 0, u 1, .bool false]))
def a152 : AV := .agg (tr (wr 7 true [u 1, u 65542, u 1, u 0, u 0, u 65539, u 140737489702944, u 30064771073, u 8589934592, u 0, u 0, u 0, u 0, .lst zeb0 1, u 65541, x 1, u 0, u 1, .bool false]))
def a153 : AV := .agg (tr (wr 11 true [u 1, u 65542, u 1, u 0, u 0, u 65540, u 1, u 0, u 0, u 0, u 0, u 0, u 0, .lst zeb0 1, u 65541, x 1, u 0, u 1, .bool false]))
def a154 : AV := .agg [u 1, x 7, u 1, x 0]
def a155 : AV := .agg [u 65543, u 1, u 0, u 0]
def a156 : AV := .agg [y 3, x 2, u 65542, u 1, u 0, u 0, u 65543, u 1, u 0, u 0]
def a157 : AV := .agg (tr (wr 2 true [u 1, u 65542, u 1, u 0, u 0, u 65540, u 1, u 0, u 0, u 0, u 0, u 0, u 0, .lst zeb0 1, u 65541, x 1, u 0, u 1, .bool false]))
def a158 : AV := .agg (tr (wr 3 true [u 1, u 65542, u 1, u 0, u 0, u 65540, u 1, u 0, u 0, u 0, u 0, u 0, u 0, .lst zeb0 1, u 65541, x 1, u 0, u 1, .bool false]))
def a159 : AV := .agg [x 2, y 0, y 0, x 0, x 0, u 0, y 0, w 0, w 0, y 0, y 0, y 0, y 0, y 0, y 0, w 0, w 0, x 0, w 0, .nils, x 0, y 0, u 0, y 0, w 0, w 0, w 0, .bool false, x 0, w 0, .nils, u 0, u 0, u 0, u 0, u 0, u 0, u 0, u 0, u 0, u 0, u 0, u 0, u 0, .nils, u 0, x 0, u 0, u 1, .bool false]
def a160 : AV := .agg [y 11, w 1, w 7, w 0]
def a161 : AV := .agg [y 11, w 1, w 7, y 0, y 0, y 0, y 0, y 0, y 0, w 0, w 0]
def a162 : AV := .agg [y 1, x 0, x 0, u 0, y 11, w 1, w 7, y 0, y 0, y 0, y 0, y 0, y 0, w 0, w 0, x 0, w 0, .nils, x 0]
def a163 : AV := .agg [x 2, y 1, y 1, x 0, x 0, u 0, y 11, w 1, w 7, y 0, y 0, y 0, y 0, y 0, y 0, w 0, w 0, x 0, w 0, .nils, x 0, y 0, u 0, y 0, w 0, w 0, w 0, .bool false, x 0, w 0, .nils, u 0, u 0, u 0, u 0, u 0, u 0, u 0, u 0, u 0, u 0, u 0, u 0, u 0, .nils, u 0, x 0, u 0, u 1, .bool false]
def a164 : AV := .agg [y 1, x 0, u 0, u 0, u 0, u 0, u 0, u 0, u 0, u 0]
def a165 : AV := .agg [u 65536, u 1, u 0, u 0]
def a166 : AV := .agg [y 2, x 1, x 0, u 0, y 11, w 1, w 7, y 0, y 0, y 0, y 0, y 0, y 0, w 0, w 0, x 0, w 0, .ns, x 0]
def a167 : AV := .agg [x 2, y 1, y 2, x 1, x 0, u 0, y 11, w 1, w 7, y 0, y 0, y 0, y 0, y 0, y 0, w 0, w 0, x 0, w 0, .ns, x 0, y 0, u 0, y 0, w 0, w 0, w 0, .bool false, x 0, w 0, .nils, u 0, u 0, u 0, u 0, u 0, u 0, u 0, u 0, u 0, u 0, u 0, u 0, u 0, .nils, u 0, x 0, u 0, u 1, .bool false]
def a168 : AV := .agg [y 2, x 6, u 0, u 0, u 0, u 0, u 0, u 1, u 0, u 0]
def a169 : AV := .agg [y 3, x 1, x 0, u 0, y 11, w 1, w 7, y 0, y 0, y 0, y 0, y 0, y 0, w 0, w 0, x 0, w 0, .ns, x 0]
def a170 : AV := .agg [x 2, y 1, y 3, x 1, x 0, u 0, y 11, w 1, w 7, y 0, y 0, y 0, y 0, y 0, y 0, w 0, w 0, x 0, w 0, .ns, x 0, y 0, u 0, y 0, w 0, w 0, w 0, .bool false, x 0, w 0, .nils, u 0, u 0, u 0, u 0, u 0, u 0, u 0, u 0, u 0, u 0, u 0, u 0, u 0, .nils, u 0, x 0, u 0, u 1, .bool false]
def a171 : AV := .agg [y 1, x 1, u 0, u 0, u 0, u 0, u 0, u 0, u 0, u 0]
def a172 : AV := .agg [y 4, x 1, x 1, u 1, y 11, w 1, w 7, y 0, y 0, y 0, y 0, y 0, y 0, w 0, w 0, x 0, w 0, .ns, x 0]
def a173 : AV := .agg [x 2, y 1, y 4, x 1, x 1, u 1, y 11, w 1, w 7, y 0, y 0, y 0, y 0, y 0, y 0, w 0, w 0, x 0, w 0, .ns, x 0, y 0, u 0, y 0, w 0, w 0, w 0, .bool false, x 0, w 0, .nils, u 0, u 0, u 0, u 0, u 0, u 0, u 0, u 0, u 0, u 0, u 0, u 0, u 0, .nils, u 0, x 0, u 0, u 1, .bool false]
def a174 : AV := .agg [u 65539, u 2, u 1, u 7]
def a175 : AV := .agg [y 11, w 1, w 7, y 20, y 0, y 0, y 0, y 0, y 0, w 2, w 0]
def a176 : AV := .agg [y 4, x 0, u 0, u 0, u 0, x 0, w 2]
def a177 : AV := .agg [y 6, x 1, x 1, u 1, y 11, w 1, w 7, y 20, y 0, y 0, y 0, y 0, y 0, w 2, w 0, x 0, w 2, .ns, x 0]
def a178 : AV := .agg [x 2, y 1, y 6, x 1, x 1, u 1, y 11, w 1, w 7, y 20, y 0, y 0, y 0, y 0, y 0, w 2, w 0, x 0, w 2, .ns, x 0, y 0, u 0, y 0, w 0, w 0, w 0, .bool false, x 0, w 0, .nils, u 0, u 0, u 0, u 0, u 0, u 0, u 0, u 0, u 0, u 0, u 0, u 0, u 0, .nils, u 0, x 0, u 0, u 1, .bool false]
def a179 : AV := .agg [y 2, x 6, u 0, u 0, u 0, u 0, u 0, u 0, u 0, u 0]
def a180 : AV := .agg [u 0, u 1, u 0, u 0]
def e73_0 : Ent := (261679962693091325, [a0], x 0)
theorem q73_0 : E 73 e73_0 := mq sums_nil fun k => by kernel_rfl
def M73 : List Ent := [e73_0]
theorem s73 : SumOk Tryz.prog (gmap gs) (73, memoH M73) := memoH_sum (mc q73_0 memoH_nil)
theorem l74 : ∀ s ∈ ([] : List Sum), SumOk Tryz.prog (gmap gs) s := sums_nil
def e74_0 : Ent := (18, [y 11], y 3)
theorem q74_0 : E 74 e74_0 := mq l74 fun k => by kernel_rfl
def e74_1 : Ent := (16, [y 9], y 3)
theorem q74_1 : E 74 e74_1 := mq l74 fun k => by kernel_rfl
def M74 : List Ent := [e74_0, e74_1]
theorem s74 : SumOk Tryz.prog (gmap gs) (74, memoH M74) := memoH_sum (mc q74_0 (mc q74_1 memoH_nil))
theorem l33 : ∀ s ∈ ([(73, memoH M73), (74, memoH M74)] : List Sum), SumOk Tryz.prog (gmap gs) s := (sums_cons s73 (sums_cons s74 sums_nil))
def e33_0 : Ent := (758402636005259118, [a0, .agg [y 11, w 0, w 0, w 0]], x 10)
theorem q33_0 : E 33 e33_0 := mq l33 fun k => by kernel_rfl
def e33_1 : Ent := (758402636005200716, [a0, a3], x 0)
theorem q33_1 : E 33 e33_1 := mq l33 fun k => by kernel_rfl
def e33_2 : Ent := (758402636005260296, [a0, a160], x 0)
theorem q33_2 : E 33 e33_2 := mq l33 fun k => by kernel_rfl
def M33 : List Ent := [e33_0, e33_1, e33_2]
theorem s33 : SumOk Tryz.prog (gmap gs) (33, memoH M33) := memoH_sum (mc q33_0 (mc q33_1 (mc q33_2 memoH_nil)))
theorem l34 : ∀ s ∈ ([] : List Sum), SumOk Tryz.prog (gmap gs) s := sums_nil
def e34_0 : Ent := (18, [y 11], .bool false)
theorem q34_0 : E 34 e34_0 := mq l34 fun k => by kernel_rfl
def e34_1 : Ent := (16, [y 9], .bool true)
theorem q34_1 : E 34 e34_1 := mq l34 fun k => by kernel_rfl
def M34 : List Ent := [e34_0, e34_1]
theorem s34 : SumOk Tryz.prog (gmap gs) (34, memoH M34) := memoH_sum (mc q34_0 (mc q34_1 memoH_nil))
theorem l35 : ∀ s ∈ ([] : List Sum), SumOk Tryz.prog (gmap gs) s := sums_nil
def e35_0 : Ent := (484787, [a3], a37)
theorem q35_0 : E 35 e35_0 := mq l35 fun k => by kernel_rfl
def e35_1 : Ent := (544367, [a160], a161)
theorem q35_1 : E 35 e35_1 := mq l35 fun k => by kernel_rfl
def M35 : List Ent := [e35_0, e35_1]
theorem s35 : SumOk Tryz.prog (gmap gs) (35, memoH M35) := memoH_sum (mc q35_0 (mc q35_1 memoH_nil))
def e9_0 : Ent := (758402636005260296, [a0, a160], .tup [a162, x 0])
theorem q9_0 : E 9 e9_0 := mq (sums_cons s33 (sums_cons s34 (sums_cons s35 sums_nil))) fun k => by kernel_rfl
def M9 : List Ent := [e9_0]
theorem s9 : SumOk Tryz.prog (gmap gs) (9, memoH M9) := memoH_sum (mc q9_0 memoH_nil)
def e143_0 : Ent := (261679962693091325, [a0], x 1)
theorem q143_0 : E 143 e143_0 := mq sums_nil fun k => by kernel_rfl
def M143 : List Ent := [e143_0]
theorem s143 : SumOk Tryz.prog (gmap gs) (143, memoH M143) := memoH_sum (mc q143_0 memoH_nil)
theorem l40 : ∀ s ∈ ([(73, memoH M73), (143, memoH M143)] : List Sum), SumOk Tryz.prog (gmap gs) s := (sums_cons s73 (sums_cons s143 sums_nil))
def e40_0 : Ent := (805475942991897907, [a0, .agg [y 4, x 0, x 0]], .tup [x 3, x 0])
theorem q40_0 : E 40 e40_0 := mq l40 fun k => by kernel_rfl
def e40_1 : Ent := (805475942991898868, [a0, .agg [y 5, x 0, x 0]], .tup [x 4, x 0])
theorem q40_1 : E 40 e40_1 := mq l40 fun k => by kernel_rfl
def e40_2 : Ent := (805475942991896946, [a0, a12], .tup [x 2, x 0])
theorem q40_2 : E 40 e40_2 := mq l40 fun k => by kernel_rfl
def e40_3 : Ent := (805475942991902743, [a0, .agg [y 9, x 1, x 0]], .tup [x 9, x 0])
theorem q40_3 : E 40 e40_3 := mq l40 fun k => by kernel_rfl
def e40_4 : Ent := (805475942991903704, [a0, .agg [y 10, x 1, x 0]], .tup [x 10, x 0])
theorem q40_4 : E 40 e40_4 := mq l40 fun k => by kernel_rfl
def e40_5 : Ent := (805475942991895985, [a0, a27], .tup [x 1, x 0])
theorem q40_5 : E 40 e40_5 := mq l40 fun k => by kernel_rfl
def e40_6 : Ent := (805475942991899860, [a0, .agg [y 6, x 1, x 0]], .tup [x 6, x 0])
theorem q40_6 : E 40 e40_6 := mq l40 fun k => by kernel_rfl
def e40_7 : Ent := (805475942991895024, [a0, .agg [y 1, x 0, x 0]], .tup [x 0, x 0])
theorem q40_7 : E 40 e40_7 := mq l40 fun k => by kernel_rfl
def e40_8 : Ent := (805475942991899829, [a0, .agg [y 6, x 0, x 0]], .tup [x 5, x 0])
theorem q40_8 : E 40 e40_8 := mq l40 fun k => by kernel_rfl
def e40_9 : Ent := (805475942991902712, [a0, .agg [y 9, x 0, x 0]], .tup [x 7, x 0])
theorem q40_9 : E 40 e40_9 := mq l40 fun k => by kernel_rfl
def e40_10 : Ent := (805475942991903673, [a0, .agg [y 10, x 0, x 0]], .tup [x 8, x 0])
theorem q40_10 : E 40 e40_10 := mq l40 fun k => by kernel_rfl
def M40 : List Ent := [e40_0, e40_1, e40_2, e40_3, e40_4, e40_5, e40_6, e40_7, e40_8, e40_9, e40_10]
theorem s40 : SumOk Tryz.prog (gmap gs) (40, memoH M40) := memoH_sum (mc q40_0 (mc q40_1 (mc q40_2 (mc q40_3 (mc q40_4 (mc q40_5 (mc q40_6 (mc q40_7 (mc q40_8 (mc q40_9 (mc q40_10 memoH_nil)))))))))))
theorem l175 : ∀ s ∈ ([] : List Sum), SumOk Tryz.prog (gmap gs) s := sums_nil
def e175_0 : Ent := (10622189, [.lst [x 8, u 9, x 32, u 1] 2], .tup [u 265, x 0])
theorem q175_0 : E 175 e175_0 := mq l175 fun k => by kernel_rfl
def e175_1 : Ent := (1151265986605622044, [.lst [x 5, u 0, x 7, u 1, x 4, u 9, x 5, u 0, x 7, u 0, x 7, u 0, x 6, u 0, x 6, u 0, x 3, u 0] 9], .tup [u 36896, x 0])
theorem q175_1 : E 175 e175_1 := mq l175 fun k => by kernel_rfl
def e175_2 : Ent := (11329491, [.lst [x 32, u 1, x 32, u 7] 2], .tup [u 30064771073, x 0])
theorem q175_2 : E 175 e175_2 := mq l175 fun k => by kernel_rfl
def e175_3 : Ent := (11328525, [.lst [x 32, u 0, x 32, u 2] 2], .tup [u 8589934592, x 0])
theorem q175_3 : E 175 e175_3 := mq l175 fun k => by kernel_rfl
def e175_4 : Ent := (16376304312352783, [.lst [x 5, u 0, x 7, u 1, x 4, u 9, x 5, u 22, x 7, u 0, x 7, u 0, x 6, u 0, x 6, u 0, x 3, u 0] 9], .tup [u 1478688, x 0])
theorem q175_4 : E 175 e175_4 := mq l175 fun k => by kernel_rfl
def e175_5 : Ent := (1152905243179583647, [.lst [x 5, u 0, x 7, u 1, x 4, u 9, x 5, u 2, x 7, u 0, x 7, u 0, x 6, u 0, x 6, u 0, x 3, u 1] 9], .tup [u 140737488523296, x 0])
theorem q175_5 : E 175 e175_5 := mq l175 fun k => by kernel_rfl
def e175_6 : Ent := (14737047738391182, [.lst [x 5, u 0, x 7, u 1, x 4, u 9, x 5, u 20, x 7, u 0, x 7, u 0, x 6, u 0, x 6, u 0, x 3, u 1] 9], .tup [u 140737489702944, x 0])
theorem q175_6 : E 175 e175_6 := mq l175 fun k => by kernel_rfl
def e175_7 : Ent := (332953807343305764, [.lst [x 5, u 1, x 7, u 0, x 4, u 0, x 5, u 0, x 7, u 0, x 7, u 0, x 6, u 0, x 6, u 0, x 3, u 0] 9], .tup [u 1, x 0])
theorem q175_7 : E 175 e175_7 := mq l175 fun k => by kernel_rfl
def e175_8 : Ent := (11328523, [.lst [x 32, u 0, x 32, u 0] 2], .tup [u 0, x 0])
theorem q175_8 : E 175 e175_8 := mq l175 fun k => by kernel_rfl
def M175 : List Ent := [e175_0, e175_1, e175_2, e175_3, e175_4, e175_5, e175_6, e175_7, e175_8]
theorem s175 : SumOk Tryz.prog (gmap gs) (175, memoH M175) := memoH_sum (mc q175_0 (mc q175_1 (mc q175_2 (mc q175_3 (mc q175_4 (mc q175_5 (mc q175_6 (mc q175_7 (mc q175_8 memoH_nil)))))))))
def e104_0 : Ent := (7872955, [u 1, a3], a4)
theorem q104_0 : E 104 e104_0 := mq (sums_cons s175 sums_nil) fun k => by kernel_rfl
def M104 : List Ent := [e104_0]
theorem s104 : SumOk Tryz.prog (gmap gs) (104, memoH M104) := memoH_sum (mc q104_0 memoH_nil)
def e53_0 : Ent := (178542289213054725, [a0, x 0, u 1, a3], .tup [a5, x 0])
theorem q53_0 : E 53 e53_0 := mq (sums_cons s73 (sums_cons s33 (sums_cons s34 (sums_cons s40 (sums_cons s104 sums_nil))))) fun k => by kernel_rfl
def M53 : List Ent := [e53_0]
theorem s53 : SumOk Tryz.prog (gmap gs) (53, memoH M53) := memoH_sum (mc q53_0 memoH_nil)
def e20_0 : Ent := (178542289213054725, [a0, x 0, u 1, a3], .tup [a6, x 0])
theorem q20_0 : E 20 e20_0 := mq (sums_cons s53 sums_nil) fun k => by kernel_rfl
def M20 : List Ent := [e20_0]
theorem s20 : SumOk Tryz.prog (gmap gs) (20, memoH M20) := memoH_sum (mc q20_0 memoH_nil)
theorem l26 : ∀ s ∈ ([(73, memoH M73), (33, memoH M33), (34, memoH M34), (9, memoH M9), (20, memoH M20)] : List Sum), SumOk Tryz.prog (gmap gs) s := (sums_cons s73 (sums_cons s33 (sums_cons s34 (sums_cons s9 (sums_cons s20 sums_nil)))))
def e26_0 : Ent := (1079626632634573739, [a0, x 0, a1, .agg [x 0, y 0, y 0, x 0, x 0, u 0, y 0, w 0, w 0, y 0, y 0, y 0, y 0, y 0, y 0, w 0, w 0, x 0, w 0, .nils, x 0, y 0, u 0, y 0, w 0, w 0, w 0, .bool false, x 0, w 0, .nils, u 0, u 0, u 0, u 0, u 0, u 0, u 0, u 0, u 0, u 0, u 0, u 0, u 0, .nils, u 0, x 0, u 0, u 0, .bool false]], .tup [a2, .agg [x 10, w 0, .nils], .bool true, x 0])
theorem q26_0 : E 26 e26_0 := mq l26 fun k => by kernel_rfl
def e26_1 : Ent := (213841025717351435, [a0, x 0, a1, a2], .tup [a7, .agg [x 0, w 0, .nils], .bool false, x 0])
theorem q26_1 : E 26 e26_1 := mq l26 fun k => by kernel_rfl
def e26_2 : Ent := (500976923406976045, [a0, x 0, a1, a159], .tup [a163, .agg [x 0, w 0, .nils], .bool false, x 0])
theorem q26_2 : E 26 e26_2 := mq l26 fun k => by kernel_rfl
def M26 : List Ent := [e26_0, e26_1, e26_2]
theorem s26 : SumOk Tryz.prog (gmap gs) (26, memoH M26) := memoH_sum (mc q26_0 (mc q26_1 (mc q26_2 memoH_nil)))
def e41_0 : Ent := (137556143768143086, [a0, x 1, x 0], .tup [a168, x 0])
theorem q41_0 : E 41 e41_0 := mq (sums_cons s73 (sums_cons s40 sums_nil)) fun k => by kernel_rfl
def M41 : List Ent := [e41_0]
theorem s41 : SumOk Tryz.prog (gmap gs) (41, memoH M41) := memoH_sum (mc q41_0 memoH_nil)
def e42_0 : Ent := (137556143768143086, [a0, x 1, x 0], .tup [a179, x 0])
theorem q42_0 : E 42 e42_0 := mq (sums_cons s73 (sums_cons s40 sums_nil)) fun k => by kernel_rfl
def M42 : List Ent := [e42_0]
theorem s42 : SumOk Tryz.prog (gmap gs) (42, memoH M42) := memoH_sum (mc q42_0 memoH_nil)
theorem l202 : ∀ s ∈ ([(73, memoH M73), (33, memoH M33)] : List Sum), SumOk Tryz.prog (gmap gs) s := (sums_cons s73 (sums_cons s33 sums_nil))
def e202_0 : Ent := (933900031450288886, [a0, a37], .tup [a45, x 0])
theorem q202_0 : E 202 e202_0 := mq l202 fun k => by kernel_rfl
def e202_1 : Ent := (933900086475518069, [a0, a49], .tup [a57, x 0])
theorem q202_1 : E 202 e202_1 := mq l202 fun k => by kernel_rfl
def e202_2 : Ent := (933900581702572067, [a0, a60], .tup [a69, x 0])
theorem q202_2 : E 202 e202_2 := mq l202 fun k => by kernel_rfl
def e202_3 : Ent := (935539288024250486, [a0, a161], .tup [a45, x 0])
theorem q202_3 : E 202 e202_3 := mq l202 fun k => by kernel_rfl
def e202_4 : Ent := (935539838276532768, [a0, a175], .tup [a176, x 0])
theorem q202_4 : E 202 e202_4 := mq l202 fun k => by kernel_rfl
def M202 : List Ent := [e202_0, e202_1, e202_2, e202_3, e202_4]
theorem s202 : SumOk Tryz.prog (gmap gs) (202, memoH M202) := memoH_sum (mc q202_0 (mc q202_1 (mc q202_2 (mc q202_3 (mc q202_4 memoH_nil)))))
theorem l80 : ∀ s ∈ ([(73, memoH M73), (202, memoH M202)] : List Sum), SumOk Tryz.prog (gmap gs) s := (sums_cons s73 (sums_cons s202 sums_nil))
def e80_0 : Ent := (933900031450288886, [a0, a37], .tup [a45, x 0])
theorem q80_0 : E 80 e80_0 := mq l80 fun k => by kernel_rfl
def e80_1 : Ent := (933900086475518069, [a0, a49], .tup [a57, x 0])
theorem q80_1 : E 80 e80_1 := mq l80 fun k => by kernel_rfl
def e80_2 : Ent := (933900581702572067, [a0, a60], .tup [a69, x 0])
theorem q80_2 : E 80 e80_2 := mq l80 fun k => by kernel_rfl
def e80_3 : Ent := (935539288024250486, [a0, a161], .tup [a45, x 0])
theorem q80_3 : E 80 e80_3 := mq l80 fun k => by kernel_rfl
def e80_4 : Ent := (935539838276532768, [a0, a175], .tup [a176, x 0])
theorem q80_4 : E 80 e80_4 := mq l80 fun k => by kernel_rfl
def M80 : List Ent := [e80_0, e80_1, e80_2, e80_3, e80_4]
theorem s80 : SumOk Tryz.prog (gmap gs) (80, memoH M80) := memoH_sum (mc q80_0 (mc q80_1 (mc q80_2 (mc q80_3 (mc q80_4 memoH_nil)))))
theorem l11 : ∀ s ∈ ([(73, memoH M73), (34, memoH M34), (40, memoH M40), (41, memoH M41), (42, memoH M42), (80, memoH M80)] : List Sum), SumOk Tryz.prog (gmap gs) s := (sums_cons s73 (sums_cons s34 (sums_cons s40 (sums_cons s41 (sums_cons s42 (sums_cons s80 sums_nil))))))
def e11_0 : Ent := (1063086952629747573, [a0, x 0, a162], .tup [a164, x 0])
theorem q11_0 : E 11 e11_0 := mq l11 fun k => by kernel_rfl
def e11_1 : Ent := (217460557468118949, [a0, x 0, a166], .tup [a168, x 0])
theorem q11_1 : E 11 e11_1 := mq l11 fun k => by kernel_rfl
def e11_2 : Ent := (1127642244065561544, [a0, x 0, a169], .tup [a171, x 0])
theorem q11_2 : E 11 e11_2 := mq l11 fun k => by kernel_rfl
def e11_3 : Ent := (716063053485792852, [a0, x 0, a172], .tup [a48, x 0])
theorem q11_3 : E 11 e11_3 := mq l11 fun k => by kernel_rfl
def e11_4 : Ent := (738752955452341120, [a0, x 0, a177], .tup [a179, x 0])
theorem q11_4 : E 11 e11_4 := mq l11 fun k => by kernel_rfl
def M11 : List Ent := [e11_0, e11_1, e11_2, e11_3, e11_4]
theorem s11 : SumOk Tryz.prog (gmap gs) (11, memoH M11) := memoH_sum (mc q11_0 (mc q11_1 (mc q11_2 (mc q11_3 (mc q11_4 memoH_nil)))))
def e184_0 : Ent := (261679962693091325, [a0], x 7)
theorem q184_0 : E 184 e184_0 := mq sums_nil fun k => by kernel_rfl
def M184 : List Ent := [e184_0]
theorem s184 : SumOk Tryz.prog (gmap gs) (184, memoH M184) := memoH_sum (mc q184_0 memoH_nil)
theorem l224 : ∀ s ∈ ([(184, memoH M184)] : List Sum), SumOk Tryz.prog (gmap gs) s := (sums_cons s184 sums_nil)
def e224_0 : Ent := (758402636004938144, [a0, a14], .bool true)
theorem q224_0 : E 224 e224_0 := mq l224 fun k => by kernel_rfl
def e224_1 : Ent := (758402636004962200, [a0, a20], .bool true)
theorem q224_1 : E 224 e224_1 := mq l224 fun k => by kernel_rfl
def e224_2 : Ent := (758402636004963161, [a0, a82], .bool true)
theorem q224_2 : E 224 e224_2 := mq l224 fun k => by kernel_rfl
def e224_3 : Ent := (758402636004964122, [a0, a90], .bool true)
theorem q224_3 : E 224 e224_3 := mq l224 fun k => by kernel_rfl
def e224_4 : Ent := (758402636004965083, [a0, a99], .bool true)
theorem q224_4 : E 224 e224_4 := mq l224 fun k => by kernel_rfl
def e224_5 : Ent := (758402636004966044, [a0, a106], .bool true)
theorem q224_5 : E 224 e224_5 := mq l224 fun k => by kernel_rfl
def e224_6 : Ent := (758402636004967005, [a0, a115], .bool true)
theorem q224_6 : E 224 e224_6 := mq l224 fun k => by kernel_rfl
def e224_7 : Ent := (758402636004967966, [a0, a154], .bool true)
theorem q224_7 : E 224 e224_7 := mq l224 fun k => by kernel_rfl
def M224 : List Ent := [e224_0, e224_1, e224_2, e224_3, e224_4, e224_5, e224_6, e224_7]
theorem s224 : SumOk Tryz.prog (gmap gs) (224, memoH M224) := memoH_sum (mc q224_0 (mc q224_1 (mc q224_2 (mc q224_3 (mc q224_4 (mc q224_5 (mc q224_6 (mc q224_7 memoH_nil))))))))
theorem l89 : ∀ s ∈ ([(73, memoH M73), (224, memoH M224)] : List Sum), SumOk Tryz.prog (gmap gs) s := (sums_cons s73 (sums_cons s224 sums_nil))
def e89_0 : Ent := (758402636004938144, [a0, a14], .tup [.agg [y 5, x 0], x 0])
theorem q89_0 : E 89 e89_0 := mq l89 fun k => by kernel_rfl
def e89_1 : Ent := (758402636004962200, [a0, a20], .tup [.agg [y 1, x 1], x 0])
theorem q89_1 : E 89 e89_1 := mq l89 fun k => by kernel_rfl
def e89_2 : Ent := (758402636004963161, [a0, a82], .tup [.agg [y 2, x 1], x 0])
theorem q89_2 : E 89 e89_2 := mq l89 fun k => by kernel_rfl
def e89_3 : Ent := (758402636004964122, [a0, a90], .tup [.agg [y 3, x 1], x 0])
theorem q89_3 : E 89 e89_3 := mq l89 fun k => by kernel_rfl
def e89_4 : Ent := (758402636004965083, [a0, a99], .tup [.agg [y 4, x 1], x 0])
theorem q89_4 : E 89 e89_4 := mq l89 fun k => by kernel_rfl
def e89_5 : Ent := (758402636004966044, [a0, a106], .tup [.agg [y 3, x 0], x 0])
theorem q89_5 : E 89 e89_5 := mq l89 fun k => by kernel_rfl
def e89_6 : Ent := (758402636004967005, [a0, a115], .tup [.agg [y 1, x 0], x 0])
theorem q89_6 : E 89 e89_6 := mq l89 fun k => by kernel_rfl
def e89_7 : Ent := (758402636004967966, [a0, a154], .tup [.agg [y 5, x 0], x 0])
theorem q89_7 : E 89 e89_7 := mq l89 fun k => by kernel_rfl
def M89 : List Ent := [e89_0, e89_1, e89_2, e89_3, e89_4, e89_5, e89_6, e89_7]
theorem s89 : SumOk Tryz.prog (gmap gs) (89, memoH M89) := memoH_sum (mc q89_0 (mc q89_1 (mc q89_2 (mc q89_3 (mc q89_4 (mc q89_5 (mc q89_6 (mc q89_7 memoH_nil))))))))
theorem l90 : ∀ s ∈ ([] : List Sum), SumOk Tryz.prog (gmap gs) s := sums_nil
def e90_0 : Ent := (215488, [a8], .agg [u 0, y 0, y 0, y 0, w 0, w 0, y 0, y 0, y 0, y 0, y 0, y 0, w 0, w 0])
theorem q90_0 : E 90 e90_0 := mq l90 fun k => by kernel_rfl
def e90_1 : Ent := (1952598464, [a34], .agg [u 65536, y 0, y 0, y 0, w 0, w 0, y 0, y 0, y 0, y 0, y 0, y 0, w 0, w 0])
theorem q90_1 : E 90 e90_1 := mq l90 fun k => by kernel_rfl
def e90_2 : Ent := (942585923166, [a39], a38)
theorem q90_2 : E 90 e90_2 := mq l90 fun k => by kernel_rfl
def e90_3 : Ent := (135249669021383357, [a51], a50)
theorem q90_3 : E 90 e90_3 := mq l90 fun k => by kernel_rfl
def e90_4 : Ent := (135249670155054876, [a62], a61)
theorem q90_4 : E 90 e90_4 := mq l90 fun k => by kernel_rfl
def e90_5 : Ent := (1952718589, [a74], a73)
theorem q90_5 : E 90 e90_5 := mq l90 fun k => by kernel_rfl
def M90 : List Ent := [e90_0, e90_1, e90_2, e90_3, e90_4, e90_5]
theorem s90 : SumOk Tryz.prog (gmap gs) (90, memoH M90) := memoH_sum (mc q90_0 (mc q90_1 (mc q90_2 (mc q90_3 (mc q90_4 (mc q90_5 memoH_nil))))))
def e162_0 : Ent := (8, [u 1], x 1)
theorem q162_0 : E 162 e162_0 := mq sums_nil fun k => by kernel_rfl
def M162 : List Ent := [e162_0]
theorem s162 : SumOk Tryz.prog (gmap gs) (162, memoH M162) := memoH_sum (mc q162_0 memoH_nil)
def e163_0 : Ent := (255, [u 1, x 0], .tup [x 0, x 0])
theorem q163_0 : E 163 e163_0 := mq (sums_cons s162 sums_nil) fun k => by kernel_rfl
def M163 : List Ent := [e163_0]
theorem s163 : SumOk Tryz.prog (gmap gs) (163, memoH M163) := memoH_sum (mc q163_0 memoH_nil)
theorem l14 : ∀ s ∈ ([(73, memoH M73), (34, memoH M34), (40, memoH M40), (80, memoH M80), (89, memoH M89), (90, memoH M90), (162, memoH M162), (163, memoH M163)] : List Sum), SumOk Tryz.prog (gmap gs) s := (sums_cons s73 (sums_cons s34 (sums_cons s40 (sums_cons s80 (sums_cons s89 (sums_cons s90 (sums_cons s162 (sums_cons s163 sums_nil))))))))
def e14_0 : Ent := (946757279214699188, [a0, a20, a8], .tup [a27, x 0])
theorem q14_0 : E 14 e14_0 := mq l14 fun k => by kernel_rfl
def e14_1 : Ent := (946757281167082164, [a0, a20, a34], .tup [a35, x 0])
theorem q14_1 : E 14 e14_1 := mq l14 fun k => by kernel_rfl
def e14_2 : Ent := (946758221800406866, [a0, a20, a39], .tup [.agg [y 5, x 10, x 0], x 0])
theorem q14_2 : E 14 e14_2 := mq l14 fun k => by kernel_rfl
def e14_3 : Ent := (1082006948235867057, [a0, a20, a51], .tup [.agg [y 6, x 10, x 0], x 0])
theorem q14_3 : E 14 e14_3 := mq l14 fun k => by kernel_rfl
def e14_4 : Ent := (1082006949369538576, [a0, a20, a62], .tup [.agg [y 7, x 4, x 0], x 0])
theorem q14_4 : E 14 e14_4 := mq l14 fun k => by kernel_rfl
def e14_5 : Ent := (946757281167202289, [a0, a20, a74], .tup [a12, x 0])
theorem q14_5 : E 14 e14_5 := mq l14 fun k => by kernel_rfl
def e14_6 : Ent := (946757283652217593, [a0, a115, a8], .tup [a27, x 0])
theorem q14_6 : E 14 e14_6 := mq l14 fun k => by kernel_rfl
def e14_7 : Ent := (946757285604600569, [a0, a115, a34], .tup [a35, x 0])
theorem q14_7 : E 14 e14_7 := mq l14 fun k => by kernel_rfl
def e14_8 : Ent := (946758226237925271, [a0, a115, a39], .tup [.agg [y 5, x 8, x 0], x 0])
theorem q14_8 : E 14 e14_8 := mq l14 fun k => by kernel_rfl
def e14_9 : Ent := (1082006952673385462, [a0, a115, a51], .tup [.agg [y 6, x 8, x 0], x 0])
theorem q14_9 : E 14 e14_9 := mq l14 fun k => by kernel_rfl
def e14_10 : Ent := (1082006953807056981, [a0, a115, a62], .tup [.agg [y 8, x 0, x 0], x 0])
theorem q14_10 : E 14 e14_10 := mq l14 fun k => by kernel_rfl
def e14_11 : Ent := (946757285604720694, [a0, a115, a74], .tup [a12, x 0])
theorem q14_11 : E 14 e14_11 := mq l14 fun k => by kernel_rfl
end
end Go.Bas.BasTRAlive
