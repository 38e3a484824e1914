/- frustumref34.on and frustumref34.Function return what P34.1 says: for all numbers, in any world. -/
import Derived.Test.YthbagegkcpblgaaEdgeW
import Derived.Test.YthbagegkcpblgaaROn
namespace Go.Proofs.Ythbagegkcpblgaa
open Go.RowKit
set_option maxHeartbeats 1000000 in
theorem rFunction_any (ax ay bx by' px py : Int) (w : World) :
    Calls Try.prog 65 #[.int .i64 ax, .int .i64 ay, .int .i64 bx, .int .i64 by', .int .i64 px, .int .i64 py] w fun e w' => e = .returned (.int .i64 (efI ax ay bx by' px py)) ∧ w = w' := by
  have a1 := lim_lo ax
  have a2 := lim_hi ax
  have a3 := lim_lo ay
  have a4 := lim_hi ay
  have a5 := lim_lo bx
  have a6 := lim_hi bx
  have a7 := lim_lo by'
  have a8 := lim_hi by'
  have a9 := lim_lo px
  have a10 := lim_hi px
  have a11 := lim_lo py
  have a12 := lim_hi py
  obtain ⟨m1, m2⟩ := mul_bound (a := lim bx - lim ax) (b := lim py - lim ay) (by omega) (by omega) (by omega) (by omega)
  obtain ⟨m3, m4⟩ := mul_bound (a := lim by' - lim ay) (b := lim px - lim ax) (by omega) (by omega) (by omega) (by omega)
  go_enter Try.func65, Try.ntmps65
  go_wp2_with (go_at_call 51; refine (on_any _ _).mono ?_; rintro e w1 ⟨rfl, rfl⟩)
  go_ret
  exact ⟨rfl, rfl⟩
end Go.Proofs.Ythbagegkcpblgaa
