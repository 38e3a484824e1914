/- The example of chapter 7 returns true, in any world. -/
import Derived.Test.YthbhhodlggkegaaPEx
namespace Go.Proofs.Ythbhhodlggkegaa
open Go.RowKit
theorem inverse_at (w : World) (b g : Nat) (hg : w.heap.size = g) (hk : Blk w b 3 #[.int .i64 2, .int .i64 0, .int .i64 1]) :
    Calls Try.prog 18 #[.slice (some ⟨b, 0, none⟩) 3 3] w fun e w' => e = .returned (.tuple #[.slice (some ⟨g, 0, none⟩) 3 3, .int .i64 0]) ∧ Below g w w' ∧ Blk w' g 3 #[.int .i64 1, .int .i64 2, .int .i64 0] := hg ▸ inverse_ex w b hk
set_option maxHeartbeats 1000000 in
theorem example_true (w : World) :
    Calls Try.prog 17 #[] w fun e w' => e = .returned (.bool true) ∧ Below w.heap.size w w' := by
  go_enter Try.func17, Try.ntmps17
  go_wp2_with fail
  refine (perm_one _).mono ?_
  rintro e w1 ⟨rfl, hb, hc⟩
  have hs : w.heap.size < w1.heap.size := by
    have := World.block_lt_of_cell? _ _ hc
    simpa using this
  have hB := Lib.hid hb
  have hc1 : w1.cell? ⟨w.heap.size, 0, none⟩ = some (.int .i64 0) := hc
  clear hb
  have hk := Lib.hid (Blk.new w1 3 #[.int .i64 2, .int .i64 0, .int .i64 1])
  go_wp2_with fail
  obtain ⟨g, hg⟩ : ∃ g, (w1.alloc (.cells #[.int .i64 2, .int .i64 0, .int .i64 1] 3)).heap.size = g := ⟨_, rfl⟩
  refine (inverse_at _ _ g hg hk.out).mono ?_
  rintro e w2 ⟨rfl, hb, hi⟩
  have hc2 : w2.cell? ⟨w.heap.size, 0, none⟩ = some (.int .i64 0) := by
    rw [hb.cell (p := ⟨w.heap.size, 0, none⟩) (by simp at hg; show w.heap.size < g; omega)]
    rw [((Below.refl w1.heap.size w1).alloc (Nat.le_refl _) _).cell (p := ⟨w.heap.size, 0, none⟩) hs]
    exact hc1
  have hB2 := Lib.hid (below_on (hB.out.alloc (by have := hB.out.size; omega) (.cells #[.int .i64 2, .int .i64 0, .int .i64 1] 3)) (hg ▸ hb))
  have hi2 := Lib.hid hi
  clear hb hi
  clear hg
  have hj := Lib.hid (Blk.new w2 3 #[.int .i64 1, .int .i64 2, .int .i64 0])
  go_wp2_with fail
  refine (same_ex _ _ _ (hi2.out.alloc _) hj.out).mono ?_
  rintro e w3 ⟨rfl, hb⟩
  have hB3 := Lib.hid (below_on (hB2.out.alloc (by have := hB2.out.size; omega) (.cells #[.int .i64 1, .int .i64 2, .int .i64 0] 3)) hb)
  clear hb
  go_wp2
  go_ret
  exact ⟨rfl, hB3.out⟩
end Go.Proofs.Ythbhhodlggkegaa
