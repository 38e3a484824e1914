/- cull.IsFront, cull.Keep and those of the reference return what P33.2 says: for any numbers, in any world. -/
import Derived.Test.YtboffbajmlkhiaaBase
namespace Go.Proofs.Ytboffbajmlkhiaa
open Go.RowKit
/-- A front face. -/
def frontB (a : Int) (c : Bool) : Bool := if c = true then decide (0 < a) else decide (a < 0)
/-- Is a triangle with this area drawn? -/
def keepB (a m : Int) (c : Bool) : Bool := if a = 0 then false else if m = 1 then true else if m = 2 then !frontB a c else if m = 3 then frontB a c else false
set_option maxHeartbeats 1000000 in
theorem isFront_any (a : Int) (c : Bool) (w : World) :
    Calls Try.prog 14 #[.int .i64 a, .bool c] w fun e w' => e = .returned (.bool (frontB a c)) ∧ w = w' := by
  cases c
  all_goals
    go_enter Try.func14, Try.ntmps14
    go_wp2
    go_ret
    exact ⟨rfl, rfl⟩
set_option maxHeartbeats 1000000 in
theorem rIsFront_any (a : Int) (c : Bool) (w : World) :
    Calls Try.prog 15 #[.int .i64 a, .bool c] w fun e w' => e = .returned (.bool (frontB a c)) ∧ w = w' := by
  cases c
  all_goals
    go_enter Try.func15, Try.ntmps15
    go_wp2
    all_goals
      go_ret
      refine ⟨ret_bool ?_, rfl⟩
      unfold frontB
      simp
      try omega
set_option maxHeartbeats 1000000 in
theorem keep_any (a m : Int) (c : Bool) (w : World) :
    Calls Try.prog 16 #[.int .i64 a, .int .i64 m, .bool c] w fun e w' => e = .returned (.bool (keepB a m c)) ∧ w = w' := by
  go_enter Try.func16, Try.ntmps16
  go_wp2_with (go_at_call 14; refine (isFront_any _ _ _).mono ?_; rintro e w1 ⟨rfl, rfl⟩)
  all_goals
    go_ret
    refine ⟨ret_bool ?_, rfl⟩
    unfold keepB
    simp_all
set_option maxHeartbeats 1000000 in
theorem rKeep_any (a m : Int) (c : Bool) (w : World) :
    Calls Try.prog 17 #[.int .i64 a, .int .i64 m, .bool c] w fun e w' => e = .returned (.bool (keepB a m c)) ∧ w = w' := by
  go_enter Try.func17, Try.ntmps17
  go_wp2_with (go_at_call 15; refine (rIsFront_any _ _ _).mono ?_; rintro e w1 ⟨rfl, rfl⟩)
  all_goals
    go_ret
    refine ⟨ret_bool ?_, rfl⟩
    unfold keepB
    simp_all
end Go.Proofs.Ytboffbajmlkhiaa
