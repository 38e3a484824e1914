/- cull.Area returns twice the area of the triangle with its sign: for any triangle, in any world. -/
import Derived.Test.YthbagegkcpblgaaInRange
import Derived.Test.YthbagegkcpblgaaBlk
namespace Go.Proofs.Ythbagegkcpblgaa
open Go.RowKit
set_option maxHeartbeats 4000000 in
theorem area_no (x0 y0 z0 u0 x1 y1 z1 u1 x2 y2 z2 u2 : Int) (A0 A1 A2 : Option Addr) (n0 c0 n1 c1 n2 c2 : Nat) (w : World) (h : inRB x0 y0 x1 y1 x2 y2 = false) :
    Calls Try.prog 50 #[.agg #[.int .i64 x0, .int .i64 y0, .int .i64 z0, .int .i64 u0, .slice A0 n0 c0, .int .i64 x1, .int .i64 y1, .int .i64 z1, .int .i64 u1, .slice A1 n1 c1, .int .i64 x2, .int .i64 y2, .int .i64 z2, .int .i64 u2, .slice A2 n2 c2]] w
      fun e w' => e = .returned (.int .i64 (areaI x0 y0 x1 y1 x2 y2)) ∧ Below w.heap.size w w' := by
  have H := Lib.hid h
  have HF := Lib.hid (areaI_no h)
  clear h
  have hg0 := Lib.hid (Blk.new w 25 #[.int .i64 x0, .int .i64 y0, .int .i64 z0, .int .i64 u0, .slice A0 n0 c0, .int .i64 x1, .int .i64 y1, .int .i64 z1, .int .i64 u1, .slice A1 n1 c1, .int .i64 x2, .int .i64 y2, .int .i64 z2, .int .i64 u2, .slice A2 n2 c2])
  go_enter Try.func50, Try.ntmps50
  go_wp2_with (refine wpList_load_row rfl 25 _ rfl _ rfl _ _ _ _ hg0.out Try.underlying25 rfl vsInfo ?_)
  refine (inRange_any _ _ _ _ _ _ _ _ _ _ _ _ _ _ _ _ _ _ _ _ _ _).mono ?_
  rintro e w1 ⟨rfl, hb⟩
  rw [H.out]
  have hb1 := Lib.hid (below_box hb)
  clear hb
  go_wp2
  go_ret
  exact ⟨by rw [HF.out]; rfl, hb1.out⟩
set_option maxHeartbeats 4000000 in
theorem area_yes (x0 y0 z0 u0 x1 y1 z1 u1 x2 y2 z2 u2 : Int) (A0 A1 A2 : Option Addr) (n0 c0 n1 c1 n2 c2 : Nat) (w : World) (h : inRB x0 y0 x1 y1 x2 y2 = true) :
    Calls Try.prog 50 #[.agg #[.int .i64 x0, .int .i64 y0, .int .i64 z0, .int .i64 u0, .slice A0 n0 c0, .int .i64 x1, .int .i64 y1, .int .i64 z1, .int .i64 u1, .slice A1 n1 c1, .int .i64 x2, .int .i64 y2, .int .i64 z2, .int .i64 u2, .slice A2 n2 c2]] w
      fun e w' => e = .returned (.int .i64 (areaI x0 y0 x1 y1 x2 y2)) ∧ Below w.heap.size w w' := by
  have H := Lib.hid h
  have HF := Lib.hid (areaI_yes h)
  obtain ⟨⟨a1, a2, a3, a4⟩, ⟨a5, a6, a7, a8⟩, ⟨a9, a10, a11, a12⟩⟩ := (inRB_iff ..).1 h
  clear h
  obtain ⟨m1, m2⟩ := mul_bound (a := x1 - x0) (b := y2 - y0) (by omega) (by omega) (by omega) (by omega)
  obtain ⟨m3, m4⟩ := mul_bound (a := y1 - y0) (b := x2 - x0) (by omega) (by omega) (by omega) (by omega)
  have hg0 := Lib.hid (Blk.new w 25 #[.int .i64 x0, .int .i64 y0, .int .i64 z0, .int .i64 u0, .slice A0 n0 c0, .int .i64 x1, .int .i64 y1, .int .i64 z1, .int .i64 u1, .slice A1 n1 c1, .int .i64 x2, .int .i64 y2, .int .i64 z2, .int .i64 u2, .slice A2 n2 c2])
  go_enter Try.func50, Try.ntmps50
  go_wp2_with (refine wpList_load_row rfl 25 _ rfl _ rfl _ _ _ _ hg0.out Try.underlying25 rfl vsInfo ?_)
  refine (inRange_any _ _ _ _ _ _ _ _ _ _ _ _ _ _ _ _ _ _ _ _ _ _).mono ?_
  rintro e w1 ⟨rfl, hb⟩
  rw [H.out]
  go_upto_region 3 with fail
  have hz : w.heap.size < w1.heap.size := by (have hq := hb.size; (try simp at hq); omega)
  have hk : Hid (Blk w1 w.heap.size 25 #[.int .i64 x0, .int .i64 y0, .int .i64 z0, .int .i64 u0, .slice A0 n0 c0, .int .i64 x1, .int .i64 y1, .int .i64 z1, .int .i64 u1, .slice A1 n1 c1, .int .i64 x2, .int .i64 y2, .int .i64 z2, .int .i64 u2, .slice A2 n2 c2]) := Lib.hid ((Blk.new w _ _).call hb)
  have hb1 := Lib.hid (below_box hb)
  clear hb
  go_cut [3, 4, 5] (fun p q r W => ∃ i j k : Nat, p = .pointer (some ⟨i, 0, none⟩) ∧ q = .pointer (some ⟨j, 0, none⟩) ∧ r = .pointer (some ⟨k, 0, none⟩) ∧
    W.cell? ⟨i, 0, none⟩ = some (.int .i64 x0) ∧ W.cell? ⟨i, 1, none⟩ = some (.int .i64 y0) ∧ W.cell? ⟨j, 0, none⟩ = some (.int .i64 x1) ∧ W.cell? ⟨j, 1, none⟩ = some (.int .i64 y1) ∧
    W.cell? ⟨k, 0, none⟩ = some (.int .i64 x2) ∧ W.cell? ⟨k, 1, none⟩ = some (.int .i64 y2) ∧ Below w.heap.size w W)
  case first =>
    have hS := hk.out.cell
    have hk0 := hk.out
    go_region_held3 (fun W => ∀ o, W.cell? ⟨w.heap.size, o, none⟩ = #[.int .i64 x0, .int .i64 y0, .int .i64 z0, .int .i64 u0, .slice A0 n0 c0, .int .i64 x1, .int .i64 y1, .int .i64 z1, .int .i64 u1, .slice A1 n1 c1, .int .i64 x2, .int .i64 y2, .int .i64 z2, .int .i64 u2, .slice A2 n2 c2][o]?) (exact Blk.cell (by repeat (first | assumption | apply Blk.drew | apply Blk.alloc))) (fail)
    all_goals
      go_wp2_with fail
      go_meet
      case rel =>
        refine ⟨_, _, _, rfl, rfl, rfl, ?_, ?_, ?_, ?_, ?_, ?_, ?_⟩
        all_goals first | (have hb2 := hb1.out; clear hb1; go_grown; done) | (simp [go_sem]; done)
  case rest =>
    obtain ⟨i, j, k, rfl, rfl, rfl, k1, k2, k3, k4, k5, k6, k7⟩ := hcut
    go_wp2
    go_ret
    exact ⟨by rw [HF.out]; rfl, k7⟩
theorem area_any (x0 y0 z0 u0 x1 y1 z1 u1 x2 y2 z2 u2 : Int) (A0 A1 A2 : Option Addr) (n0 c0 n1 c1 n2 c2 : Nat) (w : World) :
    Calls Try.prog 50 #[.agg #[.int .i64 x0, .int .i64 y0, .int .i64 z0, .int .i64 u0, .slice A0 n0 c0, .int .i64 x1, .int .i64 y1, .int .i64 z1, .int .i64 u1, .slice A1 n1 c1, .int .i64 x2, .int .i64 y2, .int .i64 z2, .int .i64 u2, .slice A2 n2 c2]] w
      fun e w' => e = .returned (.int .i64 (areaI x0 y0 x1 y1 x2 y2)) ∧ Below w.heap.size w w' := by
  cases h : inRB x0 y0 x1 y1 x2 y2
  · exact area_no _ _ _ _ _ _ _ _ _ _ _ _ _ _ _ _ _ _ _ _ _ _ h
  · exact area_yes _ _ _ _ _ _ _ _ _ _ _ _ _ _ _ _ _ _ _ _ _ _ h
end Go.Proofs.Ythbagegkcpblgaa
