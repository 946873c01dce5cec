/- Known answers of a closed run, each reckoned by the kernel. -/
import Derived.Test.YtckjogkjfhajcaaGreatDoorBasW29
namespace Go.Bas.BasWorkAlive
open Go.RowKit Go.Proofs Go.Bas.BasZBase
set_option linter.unusedVariables false
set_option maxRecDepth 100000
def a0 : AV := .agg [.int .u8 3, .int .i64 2, .int .i64 3, .int .u8 1, .int .i64 0, .int .i64 0, .int .i64 4, .int .i64 0, .int .i64 2, .int .i64 0, .int .u64 131072, .int .u64 0]
def a1 : AV := .agg [.int .u64 1, .int .i64 1, .int .u64 2, .int .i64 0]
def a2 : AV := .agg [.int .u64 0, .int .u64 0, .int .u64 0, .int .u64 0]
def a3 : AV := .agg [.int .u64 65536, .int .u64 0, .int .u64 0, .int .u64 0]
def a4 : AV := .agg [.int .u64 2, .int .u64 265, .int .u64 7, .int .u64 2]
def a5 : AV := .agg [.int .u8 9, .int .u32 1, .int .u32 7, .int .u32 2]
def a6 : AV := .agg [.int .u64 65537, .int .u8 0, .int .u8 2, .int .u8 9, .int .u32 1, .int .u32 7, .int .u8 0, .int .u8 0, .int .u8 0, .int .u8 0, .int .u8 0, .int .u8 0, .int .u32 0, .int .u32 2]
def a7 : AV := .agg [.int .u64 65537, .int .u64 36928, .int .u64 30064771073, .int .u64 8589934592]
noncomputable abbrev c29 : Cfg := ⟨Tryz.prog, gmap gs, lookS [], fun _ => false, fun _ => none⟩
theorem m29_0 (k : AV → Bool) : runF c29 2000 29 [a0] k false = k (.int .i64 0) := by kernel_rfl
theorem q29_0 : ACalls Tryz.prog (gmap gs) 29 [a0] (fun v => v = (.int .i64 0)) := acalls_eq base sums_nil fun k hk => (m29_0 k).trans hk
def M29 : List (Nat × List AV × AV) := [(261732842023329911, [a0], .int .i64 0)]
theorem s29 : SumOk Tryz.prog (gmap gs) (29, memoH M29) := memoH_sum (memoH_cons q29_0 memoH_nil)
noncomputable abbrev c14 : Cfg := ⟨Tryz.prog, gmap gs, lookS [(29, memoH M29)], fun _ => false, fun _ => none⟩
theorem m14_0 (k : AV → Bool) : runF c14 2000 14 [a0, a5] k false = k (.int .i64 0) := by kernel_rfl
theorem q14_0 : ACalls Tryz.prog (gmap gs) 14 [a0, a5] (fun v => v = (.int .i64 0)) := acalls_eq base (sums_cons s29 sums_nil) fun k hk => (m14_0 k).trans hk
def M14 : List (Nat × List AV × AV) := [(17949879179966053, [a0, a5], .int .i64 0)]
theorem s14 : SumOk Tryz.prog (gmap gs) (14, memoH M14) := memoH_sum (memoH_cons q14_0 memoH_nil)
noncomputable abbrev c33 : Cfg := ⟨Tryz.prog, gmap gs, lookS [(29, memoH M29)], fun _ => false, fun _ => none⟩
theorem m33_0 (k : AV → Bool) : runF c33 2000 33 [a0, a1] k false = k (.tup [.agg [.int .u8 1, .int .i64 1], .int .i64 0]) := by kernel_rfl
theorem q33_0 : ACalls Tryz.prog (gmap gs) 33 [a0, a1] (fun v => v = (.tup [.agg [.int .u8 1, .int .i64 1], .int .i64 0])) := acalls_eq base (sums_cons s29 sums_nil) fun k hk => (m33_0 k).trans hk
def M33 : List (Nat × List AV × AV) := [(17949879179727568, [a0, a1], .tup [.agg [.int .u8 1, .int .i64 1], .int .i64 0])]
theorem s33 : SumOk Tryz.prog (gmap gs) (33, memoH M33) := memoH_sum (memoH_cons q33_0 memoH_nil)
noncomputable abbrev c34 : Cfg := ⟨Tryz.prog, gmap gs, lookS [], fun _ => false, fun _ => none⟩
theorem m34_0 (k : AV → Bool) : runF c34 2000 34 [a2] k false = k (.agg [.int .u64 0, .int .u8 0, .int .u8 0, .int .u8 0, .int .u32 0, .int .u32 0, .int .u8 0, .int .u8 0, .int .u8 0, .int .u8 0, .int .u8 0, .int .u8 0, .int .u32 0, .int .u32 0]) := by kernel_rfl
theorem q34_0 : ACalls Tryz.prog (gmap gs) 34 [a2] (fun v => v = (.agg [.int .u64 0, .int .u8 0, .int .u8 0, .int .u8 0, .int .u32 0, .int .u32 0, .int .u8 0, .int .u8 0, .int .u8 0, .int .u8 0, .int .u8 0, .int .u8 0, .int .u32 0, .int .u32 0])) := acalls_eq base sums_nil fun k hk => (m34_0 k).trans hk
theorem m34_1 (k : AV → Bool) : runF c34 2000 34 [a3] k false = k (.agg [.int .u64 65536, .int .u8 0, .int .u8 0, .int .u8 0, .int .u32 0, .int .u32 0, .int .u8 0, .int .u8 0, .int .u8 0, .int .u8 0, .int .u8 0, .int .u8 0, .int .u32 0, .int .u32 0]) := by kernel_rfl
theorem q34_1 : ACalls Tryz.prog (gmap gs) 34 [a3] (fun v => v = (.agg [.int .u64 65536, .int .u8 0, .int .u8 0, .int .u8 0, .int .u32 0, .int .u32 0, .int .u8 0, .int .u8 0, .int .u8 0, .int .u8 0, .int .u8 0, .int .u8 0, .int .u32 0, .int .u32 0])) := acalls_eq base sums_nil fun k hk => (m34_1 k).trans hk
theorem m34_2 (k : AV → Bool) : runF c34 2000 34 [a7] k false = k (a6) := by kernel_rfl
theorem q34_2 : ACalls Tryz.prog (gmap gs) 34 [a7] (fun v => v = a6) := acalls_eq base sums_nil fun k hk => (m34_2 k).trans hk
def M34 : List (Nat × List AV × AV) := [(215488, [a2], .agg [.int .u64 0, .int .u8 0, .int .u8 0, .int .u8 0, .int .u32 0, .int .u32 0, .int .u8 0, .int .u8 0, .int .u8 0, .int .u8 0, .int .u8 0, .int .u8 0, .int .u32 0, .int .u32 0]), (1952598464, [a3], .agg [.int .u64 65536, .int .u8 0, .int .u8 0, .int .u8 0, .int .u32 0, .int .u32 0, .int .u8 0, .int .u8 0, .int .u8 0, .int .u8 0, .int .u8 0, .int .u8 0, .int .u32 0, .int .u32 0]), (942585953918, [a7], a6)]
theorem s34 : SumOk Tryz.prog (gmap gs) (34, memoH M34) := memoH_sum (memoH_cons q34_0 (memoH_cons q34_1 (memoH_cons q34_2 memoH_nil)))
noncomputable abbrev c62 : Cfg := ⟨Tryz.prog, gmap gs, lookS [(29, memoH M29)], fun _ => false, fun _ => none⟩
theorem m62_0 (k : AV → Bool) : runF c62 2000 62 [a0, .agg [.int .u8 9, .int .i64 1, .int .i64 0]] k false = k (.tup [.int .i64 20, .int .i64 0]) := by kernel_rfl
theorem q62_0 : ACalls Tryz.prog (gmap gs) 62 [a0, .agg [.int .u8 9, .int .i64 1, .int .i64 0]] (fun v => v = (.tup [.int .i64 20, .int .i64 0])) := acalls_eq base (sums_cons s29 sums_nil) fun k hk => (m62_0 k).trans hk
theorem m62_1 (k : AV → Bool) : runF c62 2000 62 [a0, .agg [.int .u8 4, .int .i64 1, .int .i64 0]] k false = k (.tup [.int .i64 4, .int .i64 0]) := by kernel_rfl
theorem q62_1 : ACalls Tryz.prog (gmap gs) 62 [a0, .agg [.int .u8 4, .int .i64 1, .int .i64 0]] (fun v => v = (.tup [.int .i64 4, .int .i64 0])) := acalls_eq base (sums_cons s29 sums_nil) fun k hk => (m62_1 k).trans hk
theorem m62_2 (k : AV → Bool) : runF c62 2000 62 [a0, .agg [.int .u8 10, .int .i64 1, .int .i64 0]] k false = k (.tup [.int .i64 21, .int .i64 0]) := by kernel_rfl
theorem q62_2 : ACalls Tryz.prog (gmap gs) 62 [a0, .agg [.int .u8 10, .int .i64 1, .int .i64 0]] (fun v => v = (.tup [.int .i64 21, .int .i64 0])) := acalls_eq base (sums_cons s29 sums_nil) fun k hk => (m62_2 k).trans hk
def M62 : List (Nat × List AV × AV) := [(74961060915924503, [a0, .agg [.int .u8 9, .int .i64 1, .int .i64 0]], .tup [.int .i64 20, .int .i64 0]), (74961060915919698, [a0, .agg [.int .u8 4, .int .i64 1, .int .i64 0]], .tup [.int .i64 4, .int .i64 0]), (74961060915925464, [a0, .agg [.int .u8 10, .int .i64 1, .int .i64 0]], .tup [.int .i64 21, .int .i64 0])]
theorem s62 : SumOk Tryz.prog (gmap gs) (62, memoH M62) := memoH_sum (memoH_cons q62_0 (memoH_cons q62_1 (memoH_cons q62_2 memoH_nil)))
noncomputable abbrev c96 : Cfg := ⟨Tryz.prog, gmap gs, lookS [], fun _ => false, fun _ => none⟩
theorem m96_0 (k : AV → Bool) : runF c96 2000 96 [.lst [.int .i64 8, .int .u64 9, .int .i64 32, .int .u64 1] 2] k false = k (.tup [.int .u64 265, .int .i64 0]) := by kernel_rfl
theorem q96_0 : ACalls Tryz.prog (gmap gs) 96 [.lst [.int .i64 8, .int .u64 9, .int .i64 32, .int .u64 1] 2] (fun v => v = (.tup [.int .u64 265, .int .i64 0])) := acalls_eq base sums_nil fun k hk => (m96_0 k).trans hk
theorem m96_1 (k : AV → Bool) : runF c96 2000 96 [.lst [.int .i64 5, .int .u64 0, .int .i64 7, .int .u64 2, .int .i64 4, .int .u64 9, .int .i64 5, .int .u64 0, .int .i64 7, .int .u64 0, .int .i64 7, .int .u64 0, .int .i64 6, .int .u64 0, .int .i64 6, .int .u64 0, .int .i64 3, .int .u64 0] 9] k false = k (.tup [.int .u64 36928, .int .i64 0]) := by kernel_rfl
theorem q96_1 : ACalls Tryz.prog (gmap gs) 96 [.lst [.int .i64 5, .int .u64 0, .int .i64 7, .int .u64 2, .int .i64 4, .int .u64 9, .int .i64 5, .int .u64 0, .int .i64 7, .int .u64 0, .int .i64 7, .int .u64 0, .int .i64 6, .int .u64 0, .int .i64 6, .int .u64 0, .int .i64 3, .int .u64 0] 9] (fun v => v = (.tup [.int .u64 36928, .int .i64 0])) := acalls_eq base sums_nil fun k hk => (m96_1 k).trans hk
theorem m96_2 (k : AV → Bool) : runF c96 2000 96 [.lst [.int .i64 32, .int .u64 1, .int .i64 32, .int .u64 7] 2] k false = k (.tup [.int .u64 30064771073, .int .i64 0]) := by kernel_rfl
theorem q96_2 : ACalls Tryz.prog (gmap gs) 96 [.lst [.int .i64 32, .int .u64 1, .int .i64 32, .int .u64 7] 2] (fun v => v = (.tup [.int .u64 30064771073, .int .i64 0])) := acalls_eq base sums_nil fun k hk => (m96_2 k).trans hk
theorem m96_3 (k : AV → Bool) : runF c96 2000 96 [.lst [.int .i64 32, .int .u64 0, .int .i64 32, .int .u64 2] 2] k false = k (.tup [.int .u64 8589934592, .int .i64 0]) := by kernel_rfl
theorem q96_3 : ACalls Tryz.prog (gmap gs) 96 [.lst [.int .i64 32, .int .u64 0, .int .i64 32, .int .u64 2] 2] (fun v => v = (.tup [.int .u64 8589934592, .int .i64 0])) := acalls_eq base sums_nil fun k hk => (m96_3 k).trans hk
def M96 : List (Nat × List AV × AV) := [(10622189, [.lst [.int .i64 8, .int .u64 9, .int .i64 32, .int .u64 1] 2], .tup [.int .u64 265, .int .i64 0]), (625772680703540234, [.lst [.int .i64 5, .int .u64 0, .int .i64 7, .int .u64 2, .int .i64 4, .int .u64 9, .int .i64 5, .int .u64 0, .int .i64 7, .int .u64 0, .int .i64 7, .int .u64 0, .int .i64 6, .int .u64 0, .int .i64 6, .int .u64 0, .int .i64 3, .int .u64 0] 9], .tup [.int .u64 36928, .int .i64 0]), (11329491, [.lst [.int .i64 32, .int .u64 1, .int .i64 32, .int .u64 7] 2], .tup [.int .u64 30064771073, .int .i64 0]), (11328525, [.lst [.int .i64 32, .int .u64 0, .int .i64 32, .int .u64 2] 2], .tup [.int .u64 8589934592, .int .i64 0])]
theorem s96 : SumOk Tryz.prog (gmap gs) (96, memoH M96) := memoH_sum (memoH_cons q96_0 (memoH_cons q96_1 (memoH_cons q96_2 (memoH_cons q96_3 memoH_nil))))
noncomputable abbrev c63 : Cfg := ⟨Tryz.prog, gmap gs, lookS [(96, memoH M96)], fun _ => false, fun _ => none⟩
theorem m63_0 (k : AV → Bool) : runF c63 2000 63 [.int .u64 2, a5] k false = k (a4) := by kernel_rfl
theorem q63_0 : ACalls Tryz.prog (gmap gs) 63 [.int .u64 2, a5] (fun v => v = a4) := acalls_eq base (sums_cons s96 sums_nil) fun k hk => (m63_0 k).trans hk
def M63 : List (Nat × List AV × AV) := [(8796476, [.int .u64 2, a5], a4)]
theorem s63 : SumOk Tryz.prog (gmap gs) (63, memoH M63) := memoH_sum (memoH_cons q63_0 memoH_nil)
noncomputable abbrev c86 : Cfg := ⟨Tryz.prog, gmap gs, lookS [], fun _ => false, fun _ => none⟩
theorem m86_0 (k : AV → Bool) : runF c86 2000 86 [a4] k false = k (.tup [.int .u64 2, a5]) := by kernel_rfl
theorem q86_0 : ACalls Tryz.prog (gmap gs) 86 [a4] (fun v => v = (.tup [.int .u64 2, a5])) := acalls_eq base sums_nil fun k hk => (m86_0 k).trans hk
def M86 : List (Nat × List AV × AV) := [(529954, [a4], .tup [.int .u64 2, a5])]
theorem s86 : SumOk Tryz.prog (gmap gs) (86, memoH M86) := memoH_sum (memoH_cons q86_0 memoH_nil)
noncomputable abbrev c122 : Cfg := ⟨Tryz.prog, gmap gs, lookS [(96, memoH M96)], fun _ => false, fun _ => none⟩
theorem m122_0 (k : AV → Bool) : runF c122 2000 122 [a6] k false = k (.tup [a7, .int .i64 0]) := by kernel_rfl
theorem q122_0 : ACalls Tryz.prog (gmap gs) 122 [a6] (fun v => v = (.tup [a7, .int .i64 0])) := acalls_eq base (sums_cons s96 sums_nil) fun k hk => (m122_0 k).trans hk
def M122 : List (Nat × List AV × AV) := [(270631726403004073, [a6], .tup [a7, .int .i64 0])]
theorem s122 : SumOk Tryz.prog (gmap gs) (122, memoH M122) := memoH_sum (memoH_cons q122_0 memoH_nil)
noncomputable abbrev c8 : Cfg := ⟨Tryz.prog, gmap gs, lookS [(29, memoH M29), (14, memoH M14), (33, memoH M33), (34, memoH M34), (62, memoH M62), (63, memoH M63), (86, memoH M86), (122, memoH M122)], fun _ => false, fun _ => none⟩
theorem m8_0 (k : AV → Bool) : runF c8 2000 8 [a0, a1, a2, a2] k false = k (.tup [.agg [.int .u8 3, .int .i64 20, .int .u64 0, .int .u64 0, .int .u64 0, .int .u64 0, .int .u64 65536, .int .u64 0, .int .u64 0, .int .u64 0], .int .i64 0]) := by kernel_rfl
theorem q8_0 : ACalls Tryz.prog (gmap gs) 8 [a0, a1, a2, a2] (fun v => v = (.tup [.agg [.int .u8 3, .int .i64 20, .int .u64 0, .int .u64 0, .int .u64 0, .int .u64 0, .int .u64 65536, .int .u64 0, .int .u64 0, .int .u64 0], .int .i64 0])) := acalls_eq base (sums_cons s29 (sums_cons s14 (sums_cons s33 (sums_cons s34 (sums_cons s62 (sums_cons s63 (sums_cons s86 (sums_cons s122 sums_nil)))))))) fun k hk => (m8_0 k).trans hk
theorem m8_1 (k : AV → Bool) : runF c8 2000 8 [a0, a1, a3, a4] k false = k (.tup [.agg [.int .u8 3, .int .i64 20, .int .u64 65536, .int .u64 0, .int .u64 0, .int .u64 0, .int .u64 65537, .int .u64 36928, .int .u64 30064771073, .int .u64 8589934592], .int .i64 0]) := by kernel_rfl
theorem q8_1 : ACalls Tryz.prog (gmap gs) 8 [a0, a1, a3, a4] (fun v => v = (.tup [.agg [.int .u8 3, .int .i64 20, .int .u64 65536, .int .u64 0, .int .u64 0, .int .u64 0, .int .u64 65537, .int .u64 36928, .int .u64 30064771073, .int .u64 8589934592], .int .i64 0])) := acalls_eq base (sums_cons s29 (sums_cons s14 (sums_cons s33 (sums_cons s34 (sums_cons s62 (sums_cons s63 (sums_cons s86 (sums_cons s122 sums_nil)))))))) fun k hk => (m8_1 k).trans hk
def M8 : List (Nat × List AV × AV) := [(748693862361941962, [a0, a1, a2, a2], .tup [.agg [.int .u8 3, .int .i64 20, .int .u64 0, .int .u64 0, .int .u64 0, .int .u64 0, .int .u64 65536, .int .u64 0, .int .u64 0, .int .u64 0], .int .i64 0]), (750496929040634924, [a0, a1, a3, a4], .tup [.agg [.int .u8 3, .int .i64 20, .int .u64 65536, .int .u64 0, .int .u64 0, .int .u64 0, .int .u64 65537, .int .u64 36928, .int .u64 30064771073, .int .u64 8589934592], .int .i64 0])]
theorem s8 : SumOk Tryz.prog (gmap gs) (8, memoH M8) := memoH_sum (memoH_cons q8_0 (memoH_cons q8_1 memoH_nil))
noncomputable abbrev c59 : Cfg := ⟨Tryz.prog, gmap gs, lookS [(29, memoH M29), (14, memoH M14)], fun _ => false, fun _ => none⟩
theorem m59_0 (k : AV → Bool) : runF c59 2000 59 [a0, .agg [.int .u8 9, .int .u32 1, .int .u32 7, .int .u8 0, .int .u8 0, .int .u8 0, .int .u8 0, .int .u8 0, .int .u8 0, .int .u32 0, .int .u32 2]] k false = k (.tup [.agg [.int .u8 1, .int .i64 0, .int .u64 0, .int .u64 0, .int .u64 0, .int .i64 0, .int .u32 0], .int .i64 0]) := by kernel_rfl
theorem q59_0 : ACalls Tryz.prog (gmap gs) 59 [a0, .agg [.int .u8 9, .int .u32 1, .int .u32 7, .int .u8 0, .int .u8 0, .int .u8 0, .int .u8 0, .int .u8 0, .int .u8 0, .int .u32 0, .int .u32 2]] (fun v => v = (.tup [.agg [.int .u8 1, .int .i64 0, .int .u64 0, .int .u64 0, .int .u64 0, .int .i64 0, .int .u32 0], .int .i64 0])) := acalls_eq base (sums_cons s29 (sums_cons s14 sums_nil)) fun k hk => (m59_0 k).trans hk
def M59 : List (Nat × List AV × AV) := [(737342014941099187, [a0, .agg [.int .u8 9, .int .u32 1, .int .u32 7, .int .u8 0, .int .u8 0, .int .u8 0, .int .u8 0, .int .u8 0, .int .u8 0, .int .u32 0, .int .u32 2]], .tup [.agg [.int .u8 1, .int .i64 0, .int .u64 0, .int .u64 0, .int .u64 0, .int .i64 0, .int .u32 0], .int .i64 0])]
theorem s59 : SumOk Tryz.prog (gmap gs) (59, memoH M59) := memoH_sum (memoH_cons q59_0 memoH_nil)
noncomputable abbrev c17 : Cfg := ⟨Tryz.prog, gmap gs, lookS [(29, memoH M29), (33, memoH M33), (34, memoH M34), (62, memoH M62), (59, memoH M59)], fun _ => false, fun _ => none⟩
theorem m17_0 (k : AV → Bool) : runF c17 2000 17 [a0, a1, a2] k false = k (.tup [.agg [.int .u8 2, .int .i64 0, .int .i64 0], .int .i64 0]) := by kernel_rfl
theorem q17_0 : ACalls Tryz.prog (gmap gs) 17 [a0, a1, a2] (fun v => v = (.tup [.agg [.int .u8 2, .int .i64 0, .int .i64 0], .int .i64 0])) := acalls_eq base (sums_cons s29 (sums_cons s33 (sums_cons s34 (sums_cons s62 (sums_cons s59 sums_nil))))) fun k hk => (m17_0 k).trans hk
theorem m17_1 (k : AV → Bool) : runF c17 2000 17 [a0, a1, a3] k false = k (.tup [.agg [.int .u8 4, .int .i64 4, .int .i64 1], .int .i64 0]) := by kernel_rfl
theorem q17_1 : ACalls Tryz.prog (gmap gs) 17 [a0, a1, a3] (fun v => v = (.tup [.agg [.int .u8 4, .int .i64 4, .int .i64 1], .int .i64 0])) := acalls_eq base (sums_cons s29 (sums_cons s33 (sums_cons s34 (sums_cons s62 (sums_cons s59 sums_nil))))) fun k hk => (m17_1 k).trans hk
theorem m17_2 (k : AV → Bool) : runF c17 2000 17 [a0, a1, a7] k false = k (.tup [.agg [.int .u8 5, .int .i64 21, .int .i64 1], .int .i64 0]) := by kernel_rfl
theorem q17_2 : ACalls Tryz.prog (gmap gs) 17 [a0, a1, a7] (fun v => v = (.tup [.agg [.int .u8 5, .int .i64 21, .int .i64 1], .int .i64 0])) := acalls_eq base (sums_cons s29 (sums_cons s33 (sums_cons s34 (sums_cons s62 (sums_cons s59 sums_nil))))) fun k hk => (m17_2 k).trans hk
def M17 : List (Nat × List AV × AV) := [(384976703939058642, [a0, a1, a2], .tup [.agg [.int .u8 2, .int .i64 0, .int .i64 0], .int .i64 0]), (384976705891441618, [a0, a1, a3], .tup [.agg [.int .u8 4, .int .i64 4, .int .i64 1], .int .i64 0]), (384977646524797072, [a0, a1, a7], .tup [.agg [.int .u8 5, .int .i64 21, .int .i64 1], .int .i64 0])]
theorem s17 : SumOk Tryz.prog (gmap gs) (17, memoH M17) := memoH_sum (memoH_cons q17_0 (memoH_cons q17_1 (memoH_cons q17_2 memoH_nil)))
end Go.Bas.BasWorkAlive
