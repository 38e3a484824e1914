/- The reference limits a coordinate to the screen. -/
import Derived.Test.YthbagegkcpblgaaEdgeW
namespace Go.Proofs.Ythbagegkcpblgaa
open Go.RowKit
set_option maxHeartbeats 1000000 in
theorem on_any (x : Int) (w : World) :
    Calls Try.prog 51 #[.int .i64 x] w fun e w' => e = .returned (.int .i64 (lim x)) ∧ w = w' := by
  go_enter Try.func51, Try.ntmps51
  go_wp2
  all_goals
    go_ret
    exact ⟨ret_int (by unfold lim; omega), rfl⟩
end Go.Proofs.Ythbagegkcpblgaa
