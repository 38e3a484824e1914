/- Positions of both packages: the slices that they make. -/
import Derived.Test.YtimgjlogbkgiaaaFresh
namespace Go.Proofs.Ytimgjlogbkgiaaa
open Go.RowKit
set_option maxHeartbeats 4000000 in
theorem rPos_1 (w : World) : Calls Try.prog 30 #[.int .i64 1] w fun e w' => e = .returned (.slice (some ⟨w.heap.size, 0, none⟩) 1 1) ∧ w' = w.alloc (.cells #[.int .i64 128, .int .i64 128] 22) := by
  go_enter Try.func30, Try.ntmps30
  go_wp2
  go_ret
  exact ⟨rfl, rfl⟩
set_option maxHeartbeats 4000000 in
theorem rPos_2 (w : World) : Calls Try.prog 30 #[.int .i64 2] w fun e w' => e = .returned (.slice (some ⟨w.heap.size, 0, none⟩) 2 2) ∧ w' = w.alloc (.cells #[.int .i64 192, .int .i64 192, .int .i64 64, .int .i64 64] 22) := by
  go_enter Try.func30, Try.ntmps30
  go_wp2
  go_ret
  exact ⟨rfl, rfl⟩
set_option maxHeartbeats 4000000 in
theorem rPos_4 (w : World) : Calls Try.prog 30 #[.int .i64 4] w fun e w' => e = .returned (.slice (some ⟨w.heap.size, 0, none⟩) 4 4) ∧ w' = w.alloc (.cells #[.int .i64 96, .int .i64 32, .int .i64 224, .int .i64 96, .int .i64 32, .int .i64 160, .int .i64 160, .int .i64 224] 22) := by
  go_enter Try.func30, Try.ntmps30
  go_wp2
  go_ret
  exact ⟨rfl, rfl⟩
set_option maxHeartbeats 4000000 in
theorem rPos_8 (w : World) : Calls Try.prog 30 #[.int .i64 8] w fun e w' => e = .returned (.slice (some ⟨w.heap.size, 0, none⟩) 8 8) ∧ w' = w.alloc (.cells #[.int .i64 144, .int .i64 80, .int .i64 112, .int .i64 176, .int .i64 208, .int .i64 144, .int .i64 80, .int .i64 48, .int .i64 48, .int .i64 208, .int .i64 16, .int .i64 112, .int .i64 176, .int .i64 240, .int .i64 240, .int .i64 16] 22) := by
  go_enter Try.func30, Try.ntmps30
  go_wp2
  go_ret
  exact ⟨rfl, rfl⟩
set_option maxHeartbeats 4000000 in
theorem rPos_no (n : Int) (w : World) (h1 : (n == 1) = false) (h2 : (n == 2) = false) (h4 : (n == 4) = false) (h8 : (n == 8) = false) : Calls Try.prog 30 #[.int .i64 n] w fun e w' => e = .returned (.slice none 0 0) ∧ w' = w := by
  go_enter Try.func30, Try.ntmps30
  go_wp2
  go_ret
  exact ⟨rfl, rfl⟩
end Go.Proofs.Ytimgjlogbkgiaaa
