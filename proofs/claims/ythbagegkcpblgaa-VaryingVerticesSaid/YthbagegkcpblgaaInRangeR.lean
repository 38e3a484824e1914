/- frustumref33.InRange returns whether all three vertices lie on the screen: for any triangle, in any world. -/
import Derived.Test.YthbagegkcpblgaaBlk
namespace Go.Proofs.Ythbagegkcpblgaa
open Go.RowKit
theorem vsInfoR : (Try.prog.info? 25).map (·.size) = some 15 := by kernel_rfl
set_option maxHeartbeats 4000000 in
theorem rInRange_any (x0 y0 z0 u0 x1 y1 z1 u1 x2 y2 z2 u2 : Int) (A0 A1 A2 : Option Addr) (n0 c0 n1 c1 n2 c2 : Nat) (w : World) :
    Calls Try.prog 61 #[.agg #[.int .i64 x0, .int .i64 y0, .int .i64 z0, .int .i64 u0, .slice A0 n0 c0, .int .i64 x1, .int .i64 y1, .int .i64 z1, .int .i64 u1, .slice A1 n1 c1, .int .i64 x2, .int .i64 y2, .int .i64 z2, .int .i64 u2, .slice A2 n2 c2]] w
      fun e w' => e = .returned (.bool (inRB x0 y0 x1 y1 x2 y2)) ∧ Below w.heap.size w w' := by
  go_enter Try.func61, Try.ntmps61
  go_wp2
  go_rounds 4
  all_goals
    go_ret
    refine ⟨?_, by go_grown⟩
    first | exact inRB_no (by omega) | exact inRB_yes (by omega)
end Go.Proofs.Ythbagegkcpblgaa
