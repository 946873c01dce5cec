/- The engine, part ThO: a row's argument that is a thread, seen abstractly. -/
import Derived.Test.YtjepofcbkojibaaGreatDoorBasW6
set_option maxRecDepth 100000
set_option maxHeartbeats 4000000
set_option linter.unusedVariables false
set_option linter.unusedSimpArgs false
namespace Go.Bas
open Go.RowKit
def thrK : List DK := [.i .i64, .i .u8, .i .u8, .i .i64, .i .i64, .i .u64, .i .u8, .i .u32, .i .u32, .i .u8, .i .u8, .i .u8, .i .u8, .i .u8, .i .u8, .i .u32, .i .u32, .i .i64, .i .u32, .s [.i .u64, .i .u64] 16, .i .i64, .i .u8, .i .u64, .i .u8, .i .u32, .i .u32, .i .u32, .b, .i .i64, .i .u32, .s [.i .u64, .i .u64] 16, .i .u64, .i .u64, .i .u64, .i .u64, .i .u64, .i .u64, .i .u64, .i .u64, .i .u64, .i .u64, .i .u64, .i .u64, .i .u64, .s [.b] 1, .i .u64, .i .i64, .i .u64, .i .u64, .b]
structure ThrOk (nx run : Int) (r : Rdr) (w : Wtr) (seq : Int) (s1 s2 s3 : Sd) : Prop where
 f0 : (Lit.int .i64 nx).wf = true
 f1 : (Lit.int .u8 run).wf = true
 f2 : (Lit.int .u8 r.pc).wf = true
 f3 : (Lit.int .i64 r.ver).wf = true
 f4 : (Lit.int .i64 r.inst).wf = true
 f5 : (Lit.int .u64 r.batch).wf = true
 f6 : (Lit.int .u8 r.f.kind).wf = true
 f7 : (Lit.int .u32 r.f.a).wf = true
 f8 : (Lit.int .u32 r.f.b).wf = true
 f9 : (Lit.int .u8 r.f.pc).wf = true
 f10 : (Lit.int .u8 r.f.i).wf = true
 f11 : (Lit.int .u8 r.f.j).wf = true
 f12 : (Lit.int .u8 r.f.n).wf = true
 f13 : (Lit.int .u8 r.f.p).wf = true
 f14 : (Lit.int .u8 r.f.h).wf = true
 f15 : (Lit.int .u32 r.f.x).wf = true
 f16 : (Lit.int .u32 r.f.y).wf = true
 f17 : (Lit.int .i64 r.code).wf = true
 f18 : (Lit.int .u32 r.v).wf = true
 f19 : SdOk [.i .u64, .i .u64] 16 s1
 f20 : (Lit.int .i64 r.given).wf = true
 f21 : (Lit.int .u8 w.pc).wf = true
 f22 : (Lit.int .u64 w.seq).wf = true
 f23 : (Lit.int .u8 w.o.kind).wf = true
 f24 : (Lit.int .u32 w.o.a).wf = true
 f25 : (Lit.int .u32 w.o.b).wf = true
 f26 : (Lit.int .u32 w.o.c).wf = true
 f28 : (Lit.int .i64 w.code).wf = true
 f29 : (Lit.int .u32 w.v).wf = true
 f30 : SdOk [.i .u64, .i .u64] 16 s2
 f31 : (Lit.int .u64 w.batch).wf = true
 f32 : (Lit.int .u64 w.ctl.tag).wf = true
 f33 : (Lit.int .u64 w.ctl.a).wf = true
 f34 : (Lit.int .u64 w.ctl.b).wf = true
 f35 : (Lit.int .u64 w.ctl.c).wf = true
 f36 : (Lit.int .u64 w.dsc.tag).wf = true
 f37 : (Lit.int .u64 w.dsc.a).wf = true
 f38 : (Lit.int .u64 w.dsc.b).wf = true
 f39 : (Lit.int .u64 w.dsc.c).wf = true
 f40 : (Lit.int .u64 w.see.tag).wf = true
 f41 : (Lit.int .u64 w.see.a).wf = true
 f42 : (Lit.int .u64 w.see.b).wf = true
 f43 : (Lit.int .u64 w.see.c).wf = true
 f44 : SdOk [.b] 1 s3
 f45 : (Lit.int .u64 w.look.tag).wf = true
 f46 : (Lit.int .i64 w.look.at').wf = true
 f47 : (Lit.int .u64 w.look.sum).wf = true
 f48 : (Lit.int .u64 seq).wf = true
theorem open_thr {w : World} {l : List Value} (h : CellsD w thrK l) : ∃ (nx run : Int) (r : Rdr) (wt : Wtr) (seq : Int) (out : Bool) (s1 s2 s3 : Sd),
  Rep w (fun _ => False) (fun _ => False) (fun _ => none) 0 (Thx.av ⟨nx, run, r, wt, seq, out, s1.av, s2.av, s3.av⟩) (.agg l.toArray) /\ ThrOk nx run r wt seq s1 s2 s3 := by
 obtain ⟨x0, l0, e0, w0, x1, l1, e1, w1, x2, l2, e2, w2, x3, l3, e3, w3, x4, l4, e4, w4, x5, l5, e5, w5, x6, l6, e6, w6, x7, l7, e7, w7, x8, l8, e8, w8, x9, l9, e9, w9, x10, l10, e10, w10, x11, l11, e11, w11, x12, l12, e12, w12, x13, l13, e13, w13, x14, l14, e14, w14, x15, l15, e15, w15, x16, l16, e16, w16, x17, l17, e17, w17, x18, l18, e18, w18, v19, x19, l19, e19, r19, w19, x20, l20, e20, w20, x21, l21, e21, w21, x22, l22, e22, w22, x23, l23, e23, w23, x24, l24, e24, w24, x25, l25, e25, w25, x26, l26, e26, w26, x27, l27, e27, x28, l28, e28, w28, x29, l29, e29, w29, v30, x30, l30, e30, r30, w30, x31, l31, e31, w31, x32, l32, e32, w32, x33, l33, e33, w33, x34, l34, e34, w34, x35, l35, e35, w35, x36, l36, e36, w36, x37, l37, e37, w37, x38, l38, e38, w38, x39, l39, e39, w39, x40, l40, e40, w40, x41, l41, e41, w41, x42, l42, e42, w42, x43, l43, e43, w43, v44, x44, l44, e44, r44, w44, x45, l45, e45, w45, x46, l46, e46, w46, x47, l47, e47, w47, x48, l48, e48, w48, x49, l49, e49, z⟩ := h
 have e : l = [.int .i64 x0, .int .u8 x1, .int .u8 x2, .int .i64 x3, .int .i64 x4, .int .u64 x5, .int .u8 x6, .int .u32 x7, .int .u32 x8, .int .u8 x9, .int .u8 x10, .int .u8 x11, .int .u8 x12, .int .u8 x13, .int .u8 x14, .int .u32 x15, .int .u32 x16, .int .i64 x17, .int .u32 x18, v19, .int .i64 x20, .int .u8 x21, .int .u64 x22, .int .u8 x23, .int .u32 x24, .int .u32 x25, .int .u32 x26, .bool x27, .int .i64 x28, .int .u32 x29, v30, .int .u64 x31, .int .u64 x32, .int .u64 x33, .int .u64 x34, .int .u64 x35, .int .u64 x36, .int .u64 x37, .int .u64 x38, .int .u64 x39, .int .u64 x40, .int .u64 x41, .int .u64 x42, .int .u64 x43, v44, .int .u64 x45, .int .i64 x46, .int .u64 x47, .int .u64 x48, .bool x49] := by rw [e0, e1, e2, e3, e4, e5, e6, e7, e8, e9, e10, e11, e12, e13, e14, e15, e16, e17, e18, e19, e20, e21, e22, e23, e24, e25, e26, e27, e28, e29, e30, e31, e32, e33, e34, e35, e36, e37, e38, e39, e40, e41, e42, e43, e44, e45, e46, e47, e48, e49, z]
 refine ⟨x0, x1, ⟨x2, x3, x4, x5, ⟨x6, x7, x8, x9, x10, x11, x12, x13, x14, x15, x16⟩, x17, x18, [], 0, x20⟩, ⟨x21, x22, ⟨x23, x24, x25, x26⟩, x27, x28, x29, [], 0, x31, ⟨x32, x33, x34, x35⟩, ⟨x36, x37, x38, x39⟩, ⟨x40, x41, x42, x43⟩, [], 0, ⟨x45, x46, x47⟩⟩, x48, x49, x19, x30, x44, ?_, ⟨w0, w1, w2, w3, w4, w5, w6, w7, w8, w9, w10, w11, w12, w13, w14, w15, w16, w17, w18, w19, w20, w21, w22, w23, w24, w25, w26, w28, w29, w30, w31, w32, w33, w34, w35, w36, w37, w38, w39, w40, w41, w42, w43, w44, w45, w46, w47, w48⟩⟩
 rw [e]
 exact rep_agg (repL_cons (.int _ _ _) (repL_cons (.int _ _ _) (repL_cons (.int _ _ _) (repL_cons (.int _ _ _) (repL_cons (.int _ _ _) (repL_cons (.int _ _ _) (repL_cons (.int _ _ _) (repL_cons (.int _ _ _) (repL_cons (.int _ _ _) (repL_cons (.int _ _ _) (repL_cons (.int _ _ _) (repL_cons (.int _ _ _) (repL_cons (.int _ _ _) (repL_cons (.int _ _ _) (repL_cons (.int _ _ _) (repL_cons (.int _ _ _) (repL_cons (.int _ _ _) (repL_cons (.int _ _ _) (repL_cons (.int _ _ _) (repL_cons r19 (repL_cons (.int _ _ _) (repL_cons (.int _ _ _) (repL_cons (.int _ _ _) (repL_cons (.int _ _ _) (repL_cons (.int _ _ _) (repL_cons (.int _ _ _) (repL_cons (.int _ _ _) (repL_cons (.bool _ _) (repL_cons (.int _ _ _) (repL_cons (.int _ _ _) (repL_cons r30 (repL_cons (.int _ _ _) (repL_cons (.int _ _ _) (repL_cons (.int _ _ _) (repL_cons (.int _ _ _) (repL_cons (.int _ _ _) (repL_cons (.int _ _ _) (repL_cons (.int _ _ _) (repL_cons (.int _ _ _) (repL_cons (.int _ _ _) (repL_cons (.int _ _ _) (repL_cons (.int _ _ _) (repL_cons (.int _ _ _) (repL_cons (.int _ _ _) (repL_cons r44 (repL_cons (.int _ _ _) (repL_cons (.int _ _ _) (repL_cons (.int _ _ _) (repL_cons (.int _ _ _) (repL_cons (.bool _ _) repL_nil))))))))))))))))))))))))))))))))))))))))))))))))))
end Go.Bas
