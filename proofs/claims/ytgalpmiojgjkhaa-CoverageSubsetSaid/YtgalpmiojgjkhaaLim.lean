/- The range of coordinates of Pixels (limits), and the reference's word for it (spans). -/
import Derived.Test.YtgalpmiojgjkhaaPosL
namespace Go.Proofs.Ytgalpmiojgjkhaa
open Go.RowKit
def limL (a s : Int) : Int := if s ≤ 0 then 0 else max a 0
def limH (a s : Int) : Int := if s ≤ 0 then 0 else if a ≤ 64 - s then a + s else 64
set_option maxHeartbeats 4000000 in
theorem limits_any (a s : Int) (h1 : -9223372036854775808 ≤ a) (h2 : s ≤ 9223372036854775807) (w : World) :
    Calls Try.prog 33 #[.int .i64 a, .int .i64 s] w fun e w' => e = .returned (.tuple #[.int .i64 (limL a s), .int .i64 (limH a s)]) ∧ w = w' := by
  have hc : s ≤ 0 ∨ (0 < s ∧ a ≤ 64 - s ∧ a < 0) ∨ (0 < s ∧ a ≤ 64 - s ∧ 0 ≤ a) ∨ (0 < s ∧ 64 - s < a ∧ a < 0) ∨ (0 < s ∧ 64 - s < a ∧ 0 ≤ a) := by omega
  obtain h | ⟨h, g, k⟩ | ⟨h, g, k⟩ | ⟨h, g, k⟩ | ⟨h, g, k⟩ := hc
  · have e1 : limL a s = 0 := by unfold limL; rw [if_pos h]
    have e2 : limH a s = 0 := by unfold limH; rw [if_pos h]
    rw [e1, e2]
    go_enter Try.func33, Try.ntmps33
    go_wp2
    go_returns
    exact ⟨rfl, rfl⟩
  all_goals
    have hw1 : IntKind.i64.wrap (64 - s) = 64 - s := by rw [IntKind.wrap_i64]; omega
    have hw2 : a ≤ 64 - s → IntKind.i64.wrap (a + s) = a + s := fun _ => by rw [IntKind.wrap_i64]; omega
    have e1 : limL a s = max a 0 := by unfold limL; rw [if_neg (by omega)]
    have e2 : limH a s = if a ≤ 64 - s then a + s else 64 := by unfold limH; rw [if_neg (by omega)]
    rw [e1, e2]
    clear e1 e2
    go_enter Try.func33, Try.ntmps33
    go_wp2
    go_returns
    refine ⟨ret_two ?_ ?_, rfl⟩
    · omega
    · first | rfl | omega | (split <;> omega)
def spB (low size n : Int) : Bool := decide (low ≤ n ∧ 0 < size ∧ n - low < size)
set_option maxHeartbeats 4000000 in
theorem spans_any (low size n : Int) (h1 : -9223372036854775808 ≤ low) (h2 : size ≤ 9223372036854775807) (h3 : n ≤ 9223372036854775807) (w : World) :
    Calls Try.prog 35 #[.int .i64 low, .int .i64 size, .int .i64 n] w fun e w' => e = .returned (.bool (spB low size n)) ∧ w = w' := by
  have hc : n < low ∨ (low ≤ n ∧ size ≤ 0) ∨ (low ≤ n ∧ 0 < size ∧ n - low < size) ∨ (low ≤ n ∧ 0 < size ∧ size ≤ n - low) := by omega
  obtain h | ⟨h, g⟩ | ⟨h, g, k⟩ | ⟨h, g, k⟩ := hc
  · have e : spB low size n = false := by unfold spB; rw [decide_eq_false_iff_not]; omega
    rw [e]
    go_enter Try.func35, Try.ntmps35
    go_wp2
    go_ret
    exact ⟨rfl, rfl⟩
  · have e : spB low size n = false := by unfold spB; rw [decide_eq_false_iff_not]; omega
    rw [e]
    go_enter Try.func35, Try.ntmps35
    go_wp2
    go_ret
    exact ⟨rfl, rfl⟩
  · have e : spB low size n = true := by unfold spB; rw [decide_eq_true_eq]; omega
    rw [e]
    have w1 : IntKind.u64.wrap (IntKind.u64.wrap n - IntKind.u64.wrap low) = n - low := by rw [IntKind.wrap_u64, IntKind.wrap_u64, IntKind.wrap_u64]; omega
    have w2 : IntKind.u64.wrap size = size := by rw [IntKind.wrap_u64]; omega
    go_enter Try.func35, Try.ntmps35
    go_wp2
    go_ret
    exact ⟨rfl, rfl⟩
  · have e : spB low size n = false := by unfold spB; rw [decide_eq_false_iff_not]; omega
    rw [e]
    have w1 : IntKind.u64.wrap (IntKind.u64.wrap n - IntKind.u64.wrap low) = n - low := by rw [IntKind.wrap_u64, IntKind.wrap_u64, IntKind.wrap_u64]; omega
    have w2 : IntKind.u64.wrap size = size := by rw [IntKind.wrap_u64]; omega
    go_enter Try.func35, Try.ntmps35
    go_wp2
    go_ret
    exact ⟨ret_bool (by rw [decide_eq_false_iff_not]; omega), rfl⟩
end Go.Proofs.Ytgalpmiojgjkhaa
