/- The law's helpers: triangle builds a triangle of three points, limited limits a coordinate; and arrays of three numbers compared. -/
import Derived.Test.YtmcemnhhmlnfcaaEdgeW
import Derived.Test.YtmcemnhhmlnfcaaValid
import Derived.Test.YtmcemnhhmlnfcaaFresh
namespace Go.Proofs.Ytmcemnhhmlnfcaa
open Go.RowKit
set_option maxHeartbeats 1000000 in
theorem limited_any (x : Int) (w : World) :
    Calls Try.prog 12 #[.int .i64 x] w fun e w' => e = .returned (.int .i64 (lim x)) ∧ w = w' := by
  go_enter Try.func12, Try.ntmps12
  go_wp2
  all_goals
    go_ret
    exact ⟨ret_int (by unfold lim; omega), rfl⟩
set_option maxHeartbeats 4000000 in
theorem triangle_any (ax ay bx by' cx cy : Int) (w : World) :
    Calls Try.prog 20 #[.agg #[.int .i64 ax, .int .i64 ay], .agg #[.int .i64 bx, .int .i64 by'], .agg #[.int .i64 cx, .int .i64 cy]] w fun e w' => e = .returned (.agg #[.int .i64 ax, .int .i64 ay, .int .i64 0, .int .i64 0, .slice none 0 0, .int .i64 bx, .int .i64 by', .int .i64 0, .int .i64 0, .slice none 0 0, .int .i64 cx, .int .i64 cy, .int .i64 0, .int .i64 0, .slice none 0 0, .int .i64 0, .bool false]) ∧ Below w.heap.size w w' := by
  go_enter Try.func20, Try.ntmps20
  go_wp2_with (refine wpList_store_row rfl 34 _ _ rfl (w.heap.size + 1 + 1 + 1) #[.int .i64 ax, .int .i64 ay, .int .i64 0, .int .i64 0, .slice none 0 0, .int .i64 bx, .int .i64 by', .int .i64 0, .int .i64 0, .slice none 0 0, .int .i64 cx, .int .i64 cy, .int .i64 0, .int .i64 0, .slice none 0 0, .int .i64 0, .bool false] rfl rfl 34 _ (Blk.new3 w _ _ _ _ _) triInfo rfl rfl ?_)
  refine bodyPost_ret (results_cell_row rfl _ _ (w.heap.size + 1 + 1 + 1) _ #[.int .i64 ax, .int .i64 ay, .int .i64 0, .int .i64 0, .slice none 0 0, .int .i64 bx, .int .i64 by', .int .i64 0, .int .i64 0, .slice none 0 0, .int .i64 cx, .int .i64 cy, .int .i64 0, .int .i64 0, .slice none 0 0, .int .i64 0, .bool false] _ _ rfl (Blk.new3 w _ _ _ _ _) Try.underlying34 rfl triInfo) rfl ?_
  exact ⟨rfl, by go_grown⟩
end Go.Proofs.Ytmcemnhhmlnfcaa
