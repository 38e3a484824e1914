/- A list of numbers that the walk reads, at whatever address; lists made of any length. -/
import Derived.Test.YthbhhodlggkegaaInvC
import Derived.Test.YthbhhodlggkegaaPermR
import Derived.Test.YthbhhodlggkegaaSl
namespace Go.Proofs.Ythbhhodlggkegaa
open Go.RowKit
theorem lie_block {W : World} {B n : Nat} {cur : Array Value} {f : Nat → Int} (hb : Blk W B 3 cur) (hf : Begins n cur f) : Lie W ⟨B, 0, none⟩ n f :=
  ⟨fun _ => hb.lt, fun i hi => by rw [add_plain, hb.cell]; exact hf i hi⟩
theorem begins_row' (n : Nat) (f : Nat → Int) : Begins n (rowOf n f) f := fun _ h => rowOf_get h
theorem make_intsL (n : Nat) (h : n ≤ 17592186043904) (w : World) : (Instr.makeSlice 27 (.int .i64 (n : Int)) (.int .i64 (n : Int))).run Try.prog w = .ok (.slice (some ⟨w.heap.size, 0, none⟩) n n) (w.alloc (.cells (rowOf n (fun _ => 0)) 3)) := by
  obtain ⟨i, hi⟩ : ∃ i, Try.prog.info? 3 = some i := Option.isSome_iff_exists.1 (by kernel_rfl)
  have hz : i.zero = some (.int .i64 0) := by
    have : (Try.prog.info? 3).bind (·.zero) = some (.int .i64 0) := by kernel_rfl
    simpa [hi] using this
  have hs : i.size = 1 := by
    have : (Try.prog.info? 3).map (·.size) = some 1 := by kernel_rfl
    simpa [hi] using this
  have hb : i.bytes = 8 := by
    have : (Try.prog.info? 3).map (·.bytes) = some 8 := by kernel_rfl
    simpa [hi] using this
  have := run_make (P := Try.prog) w 27 3 i _ Try.underlying27 hi hz .i64 .i64 n n (by omega) (Int.le_refl _) (by rw [hb]; omega) (by omega)
  rw [← made_row]
  simpa [hs, Value.cells] using this
theorem make_boolsL (n : Nat) (h : n ≤ 17592186043904) (w : World) : (Instr.makeSlice 41 (.int .i64 (n : Int)) (.int .i64 (n : Int))).run Try.prog w = .ok (.slice (some ⟨w.heap.size, 0, none⟩) n n) (w.alloc (.cells (rowB n (fun _ => false)) 4)) := by
  obtain ⟨i, hi⟩ : ∃ i, Try.prog.info? 4 = some i := Option.isSome_iff_exists.1 (by kernel_rfl)
  have hz : i.zero = some (.bool false) := by
    have : (Try.prog.info? 4).bind (·.zero) = some (.bool false) := by kernel_rfl
    simpa [hi] using this
  have hs : i.size = 1 := by
    have : (Try.prog.info? 4).map (·.size) = some 1 := by kernel_rfl
    simpa [hi] using this
  have hb : i.bytes = 1 := by
    have : (Try.prog.info? 4).map (·.bytes) = some 1 := by kernel_rfl
    simpa [hi] using this
  have := run_make (P := Try.prog) w 41 4 i _ Try.underlying41 hi hz .i64 .i64 n n (by omega) (Int.le_refl _) (by rw [hb]; omega) (by omega)
  rw [← made_rowB]
  simpa [hs, Value.cells] using this
/-! ### Same of the reference -/
def sameB (n : Nat) (f g : Nat → Int) : Prop := ∀ i, i < n → f i = g i
set_option maxHeartbeats 4000000 in
theorem same_lie (n : Nat) (h2 : n ≤ 17592186043904) (f : Nat → Int) (a b : Addr) (ca cb : Nat) (w : World) (k1 : Lie w a n f) (k2 : Lie w b n f) :
    Calls Try.prog 16 #[.slice (some a) n ca, .slice (some b) n cb] w fun e w' => e = .returned (.bool true) ∧ Below w.heap.size w w' := by
  have n0 : (0 : Int) ≤ n := by omega
  have n2 : (n : Int) ≤ 17592186043904 := by omega
  replace k1 := Lib.hid k1
  replace k2 := Lib.hid k2
  go_enter Try.func16, Try.ntmps16
  go_wp2_with fail
  go_loopw [5] (fun i wr => ∃ k : Nat, k ≤ n ∧ i = .int .i64 k ∧ Below w.heap.size w wr)
    (fun i _ => n - (intOf i).toNat)
  case atStart => exact ⟨0, by omega, rfl, Below.refl _ _⟩
  case round =>
    obtain ⟨k, hk, rfl, hB⟩ := hrel
    replace hB := Lib.hid hB
    by_cases hlt : k < n
    · have hlt' : (k : Int) < n := by omega
      have c1 : wr.cell? (a.add k) = some (.int .i64 (f k)) := (k1.out.call hB.out).at_ k hlt
      have c2 : wr.cell? (b.add k) = some (.int .i64 (f k)) := (k2.out.call hB.out).at_ k hlt
      go_wp2_with fail
      go_region
      all_goals
        go_wp2
        go_roundw
        case rel => exact ⟨k + 1, by omega, by go_num, hB.out.drew⟩
        case measure => simp [intOf]; omega
    · have hlt' : (n : Int) ≤ k := by omega
      go_wp2
      go_ret
      exact ⟨rfl, hB.out⟩
end Go.Proofs.Ythbhhodlggkegaa
