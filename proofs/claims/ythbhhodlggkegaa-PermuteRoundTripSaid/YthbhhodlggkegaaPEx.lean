/- permute: made lists; the example returns true, in any world. -/
import Derived.Test.YthbhhodlggkegaaBase
import Derived.Test.YthbhhodlggkegaaBlk
namespace Go.Proofs.Ythbhhodlggkegaa
open Go.RowKit
theorem make_ints (n : Nat) (h : n ≤ 16777216) (w : World) : (Instr.makeSlice 27 (.int .i64 (n : Int)) (.int .i64 (n : Int))).run Try.prog w = .ok (.slice (some ⟨w.heap.size, 0, none⟩) n n) (w.alloc (.cells (madeCells #[.int .i64 0] n) 3)) := by
  obtain ⟨i, hi⟩ : ∃ i, Try.prog.info? 3 = some i := Option.isSome_iff_exists.1 (by kernel_rfl)
  have hz : i.zero = some (.int .i64 0) := by
    have : (Try.prog.info? 3).bind (·.zero) = some (.int .i64 0) := by kernel_rfl
    simpa [hi] using this
  have hs : i.size = 1 := by
    have : (Try.prog.info? 3).map (·.size) = some 1 := by kernel_rfl
    simpa [hi] using this
  have hb : i.bytes = 8 := by
    have : (Try.prog.info? 3).map (·.bytes) = some 8 := by kernel_rfl
    simpa [hi] using this
  have := run_make (P := Try.prog) w 27 3 i _ Try.underlying27 hi hz .i64 .i64 n n (by omega) (Int.le_refl _) (by rw [hb]; omega) (by omega)
  simpa [hs, Value.cells] using this
theorem make_bools (n : Nat) (h : n ≤ 16777216) (w : World) : (Instr.makeSlice 41 (.int .i64 (n : Int)) (.int .i64 (n : Int))).run Try.prog w = .ok (.slice (some ⟨w.heap.size, 0, none⟩) n n) (w.alloc (.cells (madeCells #[.bool false] n) 4)) := by
  obtain ⟨i, hi⟩ : ∃ i, Try.prog.info? 4 = some i := Option.isSome_iff_exists.1 (by kernel_rfl)
  have hz : i.zero = some (.bool false) := by
    have : (Try.prog.info? 4).bind (·.zero) = some (.bool false) := by kernel_rfl
    simpa [hi] using this
  have hs : i.size = 1 := by
    have : (Try.prog.info? 4).map (·.size) = some 1 := by kernel_rfl
    simpa [hi] using this
  have hb : i.bytes = 1 := by
    have : (Try.prog.info? 4).map (·.bytes) = some 1 := by kernel_rfl
    simpa [hi] using this
  have := run_make (P := Try.prog) w 41 4 i _ Try.underlying41 hi hz .i64 .i64 n n (by omega) (Int.le_refl _) (by rw [hb]; omega) (by omega)
  simpa [hs, Value.cells] using this
@[go_sem] theorem make1 (w : World) : (Instr.makeSlice 27 (.int .i64 1) (.int .i64 1)).run Try.prog w = .ok (.slice (some ⟨w.heap.size, 0, none⟩) 1 1) (w.alloc (.cells #[.int .i64 0] 3)) := by
  have h : madeCells #[.int .i64 0] 1 = #[Value.int .i64 0] := by kernel_rfl
  exact h ▸ make_ints 1 (by omega) w
@[go_sem] theorem make3 (w : World) : (Instr.makeSlice 27 (.int .i64 3) (.int .i64 3)).run Try.prog w = .ok (.slice (some ⟨w.heap.size, 0, none⟩) 3 3) (w.alloc (.cells #[.int .i64 0, .int .i64 0, .int .i64 0] 3)) := by
  have h : madeCells #[.int .i64 0] 3 = #[Value.int .i64 0, .int .i64 0, .int .i64 0] := by kernel_rfl
  exact h ▸ make_ints 3 (by omega) w
@[go_sem] theorem makeB3 (w : World) : (Instr.makeSlice 41 (.int .i64 3) (.int .i64 3)).run Try.prog w = .ok (.slice (some ⟨w.heap.size, 0, none⟩) 3 3) (w.alloc (.cells #[.bool false, .bool false, .bool false] 4)) := by
  have h : madeCells #[.bool false] 3 = #[Value.bool false, .bool false, .bool false] := by kernel_rfl
  exact h ▸ make_bools 3 (by omega) w
set_option maxHeartbeats 2000000 in
theorem perm_one (w : World) :
    Calls Try.prog 14 #[.int .i64 1, .int .u64 9] w fun e w' => e = .returned (.tuple #[.slice (some ⟨w.heap.size, 0, none⟩) 1 1, .int .u64 9]) ∧ Below w.heap.size w w' ∧ w'.cell? ⟨w.heap.size, 0, none⟩ = some (.int .i64 0) := by
  go_enter Try.func14, Try.ntmps14
  go_wp2_with fail
  refine wp_loop_rounds 2 ?_
  rw [rounds_succ]
  go_wp2_with fail
  rw [rounds_succ]
  go_wp2_with fail
  refine wp_loop_rounds 1 ?_
  rw [rounds_succ]
  go_wp2
  go_returns
  exact ⟨rfl, by go_grown, by simp [go_sem]⟩
set_option maxHeartbeats 4000000 in
theorem inverse_ex (w : World) (b : Nat) (hk : Blk w b 3 #[.int .i64 2, .int .i64 0, .int .i64 1]) :
    Calls Try.prog 18 #[.slice (some ⟨b, 0, none⟩) 3 3] w fun e w' => e = .returned (.tuple #[.slice (some ⟨w.heap.size, 0, none⟩) 3 3, .int .i64 0]) ∧ Below w.heap.size w w' ∧ Blk w' w.heap.size 3 #[.int .i64 1, .int .i64 2, .int .i64 0] := by
  have hc := hk.cell
  obtain ⟨l0, l1, l2, l3, l4⟩ := more hk.lt
  go_enter Try.func18, Try.ntmps18
  go_wp2_with fail
  refine wp_loop_rounds 4 ?_
  rw [rounds_succ]
  go_wp2_with fail
  rw [rounds_succ]
  go_wp2_with fail
  rw [rounds_succ]
  go_wp2_with fail
  rw [rounds_succ]
  go_wp2
  go_returns
  exact ⟨rfl, by go_grown, (Blk.new w _ _).alloc _⟩
set_option maxHeartbeats 4000000 in
theorem same_ex (w : World) (a b : Nat) (hk : Blk w a 3 #[.int .i64 1, .int .i64 2, .int .i64 0]) (hl : Blk w b 3 #[.int .i64 1, .int .i64 2, .int .i64 0]) :
    Calls Try.prog 16 #[.slice (some ⟨a, 0, none⟩) 3 3, .slice (some ⟨b, 0, none⟩) 3 3] w fun e w' => e = .returned (.bool true) ∧ Below w.heap.size w w' := by
  have hc := hk.cell
  have hd := hl.cell
  go_enter Try.func16, Try.ntmps16
  go_wp2_with fail
  refine wp_loop_rounds 4 ?_
  rw [rounds_succ]
  go_wp2_with fail
  go_quiet (fail)
  go_wp2_with fail
  rw [rounds_succ]
  go_wp2_with fail
  go_quiet (fail)
  go_wp2_with fail
  rw [rounds_succ]
  go_wp2_with fail
  go_quiet (fail)
  go_wp2_with fail
  rw [rounds_succ]
  go_wp2
  go_ret
  exact ⟨rfl, below_drewN (Below.refl _ _)⟩
end Go.Proofs.Ythbhhodlggkegaa
