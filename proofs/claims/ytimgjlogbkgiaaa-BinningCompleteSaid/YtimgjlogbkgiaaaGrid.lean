/- binning.Grid, Tiles, TileRect, TileOf and those of the reference return what P36.1 says: for any numbers, in any world. -/
import Derived.Test.YtimgjlogbkgiaaaBase
namespace Go.Proofs.Ytimgjlogbkgiaaa
open Go.RowKit
/-- May an image have this size? -/
def szB (W H : Int) : Bool := decide (1 ≤ W ∧ W ≤ 64 ∧ 1 ≤ H ∧ H ≤ 64)
def colsI (W H : Int) : Int := if szB W H = true then (W + 7) / 8 else 0
def rowsI (W H : Int) : Int := if szB W H = true then (H + 7) / 8 else 0
def tilesI (W H : Int) : Int := colsI W H * rowsI W H
theorem szB_iff (W H : Int) : szB W H = true ↔ 1 ≤ W ∧ W ≤ 64 ∧ 1 ≤ H ∧ H ≤ 64 := by unfold szB; simp
theorem szB_no {W H : Int} (h : ¬ (1 ≤ W ∧ W ≤ 64 ∧ 1 ≤ H ∧ H ≤ 64)) : szB W H = false := by unfold szB; simpa using h
theorem grid_yes {W H : Int} (h : 1 ≤ W ∧ W ≤ 64 ∧ 1 ≤ H ∧ H ≤ 64) : colsI W H = (W + 7) / 8 ∧ rowsI W H = (H + 7) / 8 := by
  unfold colsI rowsI; rw [if_pos ((szB_iff ..).2 h), if_pos ((szB_iff ..).2 h)]; exact ⟨rfl, rfl⟩
theorem grid_no {W H : Int} (h : ¬ (1 ≤ W ∧ W ≤ 64 ∧ 1 ≤ H ∧ H ≤ 64)) : colsI W H = 0 ∧ rowsI W H = 0 := by
  unfold colsI rowsI; rw [if_neg (by rw [szB_no h]; simp), if_neg (by rw [szB_no h]; simp)]; exact ⟨rfl, rfl⟩
theorem grid_bd (W H : Int) : 0 ≤ colsI W H ∧ colsI W H ≤ 8 ∧ 0 ≤ rowsI W H ∧ rowsI W H ≤ 8 := by
  by_cases h : 1 ≤ W ∧ W ≤ 64 ∧ 1 ≤ H ∧ H ≤ 64
  · rw [(grid_yes h).1, (grid_yes h).2]; omega
  · rw [(grid_no h).1, (grid_no h).2]; omega
theorem tiles_bd (W H : Int) : 0 ≤ colsI W H * rowsI W H ∧ colsI W H * rowsI W H ≤ 64 := by
  obtain ⟨a, b, c, d⟩ := grid_bd W H
  refine ⟨Int.mul_nonneg a c, ?_⟩
  have := Int.mul_le_mul_of_nonneg_left d a
  omega
theorem ret_pair {a b c d : Int} (h : a = c) (h' : b = d) : Ending.returned (.tuple #[.int .i64 a, .int .i64 b]) = .returned (.tuple #[.int .i64 c, .int .i64 d]) := by rw [h, h']
set_option maxHeartbeats 1000000 in
theorem grid_any (W H : Int) (w : World) :
    Calls Try.prog 9 #[.int .i64 W, .int .i64 H] w fun e w' => e = .returned (.tuple #[.int .i64 (colsI W H), .int .i64 (rowsI W H)]) ∧ w = w' := by
  by_cases h : 1 ≤ W ∧ W ≤ 64 ∧ 1 ≤ H ∧ H ≤ 64
  · have hg := Lib.hid (grid_yes h)
    go_enter Try.func9, Try.ntmps9
    go_wp2
    all_goals
      go_ret2
      exact ⟨ret_pair (by rw [hg.out.1]; omega) (by rw [hg.out.2]; omega), rfl⟩
  · have hg := Lib.hid (grid_no h)
    go_enter Try.func9, Try.ntmps9
    go_wp2
    all_goals
      first | (exfalso; omega) | skip
      go_ret2
      exact ⟨ret_pair (by rw [hg.out.1]) (by rw [hg.out.2]), rfl⟩
end Go.Proofs.Ytimgjlogbkgiaaa
