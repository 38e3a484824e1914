/- frustumref33.Area returns twice the area of the triangle with its sign: for any triangle, in any world. -/
import Derived.Test.YthbagegkcpblgaaInRangeR
namespace Go.Proofs.Ythbagegkcpblgaa
open Go.RowKit
set_option maxHeartbeats 4000000 in
theorem rArea_any (x0 y0 z0 u0 x1 y1 z1 u1 x2 y2 z2 u2 : Int) (A0 A1 A2 : Option Addr) (n0 c0 n1 c1 n2 c2 : Nat) (w : World) :
    Calls Try.prog 52 #[.agg #[.int .i64 x0, .int .i64 y0, .int .i64 z0, .int .i64 u0, .slice A0 n0 c0, .int .i64 x1, .int .i64 y1, .int .i64 z1, .int .i64 u1, .slice A1 n1 c1, .int .i64 x2, .int .i64 y2, .int .i64 z2, .int .i64 u2, .slice A2 n2 c2]] w
      fun e w' => e = .returned (.int .i64 (areaI x0 y0 x1 y1 x2 y2)) ∧ Below w.heap.size w w' := by
  cases h : inRB x0 y0 x1 y1 x2 y2
  · have H := Lib.hid h
    have HF := Lib.hid (areaI_no h)
    clear h
    have hg0 := Lib.hid (Blk.new w 25 #[.int .i64 x0, .int .i64 y0, .int .i64 z0, .int .i64 u0, .slice A0 n0 c0, .int .i64 x1, .int .i64 y1, .int .i64 z1, .int .i64 u1, .slice A1 n1 c1, .int .i64 x2, .int .i64 y2, .int .i64 z2, .int .i64 u2, .slice A2 n2 c2])
    go_enter Try.func52, Try.ntmps52
    go_wp2_with (refine wpList_load_row rfl 25 _ rfl _ rfl _ _ _ _ hg0.out Try.underlying25 rfl vsInfoR ?_)
    refine (rInRange_any _ _ _ _ _ _ _ _ _ _ _ _ _ _ _ _ _ _ _ _ _ _).mono ?_
    rintro e w1 ⟨rfl, hb⟩
    rw [H.out]
    have hb1 := Lib.hid (below_box hb)
    clear hb
    go_wp2
    go_ret
    exact ⟨by rw [HF.out]; rfl, hb1.out⟩
  · have H := Lib.hid h
    have HF := Lib.hid (areaI_yes h)
    obtain ⟨⟨a1, a2, a3, a4⟩, ⟨a5, a6, a7, a8⟩, ⟨a9, a10, a11, a12⟩⟩ := (inRB_iff ..).1 h
    clear h
    obtain ⟨m1, m2⟩ := mul_bound (a := x1 - x0) (b := y2 - y0) (by omega) (by omega) (by omega) (by omega)
    obtain ⟨m3, m4⟩ := mul_bound (a := y1 - y0) (b := x2 - x0) (by omega) (by omega) (by omega) (by omega)
    have hg0 := Lib.hid (Blk.new w 25 #[.int .i64 x0, .int .i64 y0, .int .i64 z0, .int .i64 u0, .slice A0 n0 c0, .int .i64 x1, .int .i64 y1, .int .i64 z1, .int .i64 u1, .slice A1 n1 c1, .int .i64 x2, .int .i64 y2, .int .i64 z2, .int .i64 u2, .slice A2 n2 c2])
    go_enter Try.func52, Try.ntmps52
    go_wp2_with (refine wpList_load_row rfl 25 _ rfl _ rfl _ _ _ _ hg0.out Try.underlying25 rfl vsInfoR ?_)
    refine (rInRange_any _ _ _ _ _ _ _ _ _ _ _ _ _ _ _ _ _ _ _ _ _ _).mono ?_
    rintro e w1 ⟨rfl, hb⟩
    rw [H.out]
    obtain ⟨hc, hf⟩ := bcell hb
    have hb1 := Lib.hid (below_box hb)
    clear hb
    go_wp2
    go_ret
    exact ⟨by rw [HF.out]; rfl, hb1.out⟩
end Go.Proofs.Ythbagegkcpblgaa
