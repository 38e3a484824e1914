/- edge.TopLeft and edge.Accepts return what P34.1 says: for all numbers, in any world. -/
import Derived.Test.YtgalpmiojgjkhaaEFn
namespace Go.Proofs.Ytgalpmiojgjkhaa
open Go.RowKit
set_option maxHeartbeats 1000000 in
theorem topLeft_any (ax ay bx by' : Int) (w : World) :
    Calls Try.prog 41 #[.int .i64 ax, .int .i64 ay, .int .i64 bx, .int .i64 by'] w fun e w' => e = .returned (.bool (tlB ax ay bx by')) ∧ w = w' := by
  have a1 := lim_lo ax
  have a2 := lim_hi ax
  have a3 := lim_lo ay
  have a4 := lim_hi ay
  have a5 := lim_lo bx
  have a6 := lim_hi bx
  have a7 := lim_lo by'
  have a8 := lim_hi by'
  go_enter Try.func41, Try.ntmps41
  go_wp2_with (go_at_call 42; refine (limit_any _ _).mono ?_; rintro e w1 ⟨rfl, rfl⟩)
  all_goals
    go_ret
    refine ⟨ret_bool ?_, rfl⟩
    unfold tlB
    rw [Bool.eq_iff_iff]
    simp
    try omega
theorem limit_tl {ax ay bx by' : Int} {b : Bool} (h : tlB ax ay bx by' = b) (w : World) :
    Calls Try.prog 41 #[.int .i64 ax, .int .i64 ay, .int .i64 bx, .int .i64 by'] w fun e w' => e = .returned (.bool b) ∧ w = w' := h ▸ topLeft_any ax ay bx by' w
set_option maxHeartbeats 1000000 in
theorem accepts_any (ax ay bx by' px py : Int) (w : World) :
    Calls Try.prog 36 #[.int .i64 ax, .int .i64 ay, .int .i64 bx, .int .i64 by', .int .i64 px, .int .i64 py] w fun e w' => e = .returned (.bool (accB ax ay bx by' px py)) ∧ w = w' := by
  go_enter Try.func36, Try.ntmps36
  go_wp2_with (first
    | (go_at_call 40; refine (function_any _ _ _ _ _ _ _).mono ?_; rintro e w1 ⟨rfl, rfl⟩)
    | (go_at_call 41; refine (topLeft_any _ _ _ _ _).mono ?_; rintro e w1 ⟨rfl, rfl⟩))
  all_goals
    go_ret
    refine ⟨ret_bool ?_, rfl⟩
    unfold accB
    generalize efI ax ay bx by' px py = f at *
    generalize tlB ax ay bx by' = t at *
    cases t <;> (rw [Bool.eq_iff_iff]; simp; try omega)
end Go.Proofs.Ytgalpmiojgjkhaa
