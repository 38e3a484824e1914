/- PermuteShuffles returns true for every length and state. -/
import Derived.Test.YthbhhodlggkegaaPermR
import Derived.Test.YthbhhodlggkegaaPEx2
namespace Go.Proofs.Ythbhhodlggkegaa
open Go.RowKit
theorem begins_row (n : Nat) (f : Nat → Int) : Begins n (rowOf n f) f := fun _ h => rowOf_get h
set_option maxHeartbeats 4000000 in
theorem same_yes (n : Nat) (h2 : n ≤ 4096) (f : Nat → Int) (a b ca cb : Nat) (cur1 cur2 : Array Value) (w : World) (g1 : Begins n cur1 f) (g2 : Begins n cur2 f) (k1 : Blk w a 3 cur1) (k2 : Blk w b 3 cur2) :
    Calls Try.prog 16 #[.slice (some ⟨a, 0, none⟩) n ca, .slice (some ⟨b, 0, none⟩) n cb] w fun e w' => e = .returned (.bool true) ∧ Below w.heap.size w w' := by
  have n0 : (0 : Int) ≤ n := by omega
  have n2 : (n : Int) ≤ 4096 := by omega
  replace g1 := Lib.hid g1
  replace g2 := Lib.hid g2
  replace k1 := Lib.hid k1
  replace k2 := Lib.hid k2
  go_enter Try.func16, Try.ntmps16
  go_wp2_with fail
  go_loopw [5] (fun i wr => ∃ k : Nat, k ≤ n ∧ i = .int .i64 k ∧ Blk wr a 3 cur1 ∧ Blk wr b 3 cur2 ∧ Below w.heap.size w wr)
    (fun i _ => n - (intOf i).toNat)
  case atStart => exact ⟨0, by omega, rfl, k1.out, k2.out, Below.refl _ _⟩
  case round =>
    clear k1 k2
    obtain ⟨k, hk, rfl, k1, k2, hB⟩ := hrel
    replace k1 := Lib.hid k1
    replace k2 := Lib.hid k2
    replace hB := Lib.hid hB
    by_cases hlt : k < n
    · have hlt' : (k : Int) < n := by omega
      have c1 : wr.cell? ⟨a, k, none⟩ = some (.int .i64 (f k)) := by rw [k1.out.cell]; exact g1.out k hlt
      have c2 : wr.cell? ⟨b, k, none⟩ = some (.int .i64 (f k)) := by rw [k2.out.cell]; exact g2.out k hlt
      go_wp2_with fail
      go_region
      all_goals
        go_wp2
        go_roundw
        case rel => exact ⟨k + 1, by omega, by go_num, k1.out.drew, k2.out.drew, hB.out.drew⟩
        case measure => simp [intOf]; omega
    · have hlt' : (n : Int) ≤ k := by omega
      go_wp2
      go_ret
      exact ⟨rfl, hB.out⟩
set_option maxHeartbeats 4000000 in
theorem same_nil (w : World) :
    Calls Try.prog 16 #[.slice none 0 0, .slice none 0 0] w fun e w' => e = .returned (.bool true) ∧ w = w' := by
  go_enter Try.func16, Try.ntmps16
  go_wp2_with fail
  refine wp_loop_rounds 1 ?_
  rw [rounds_succ]
  go_wp2
  go_ret
  exact ⟨rfl, rfl⟩
theorem perm_no' (n : Int) (s : Int) (h : n < 1 ∨ (1 ≤ n ∧ 4096 < n)) (w : World) :
    Calls Try.prog 14 #[.int .i64 n, .int .u64 s] w fun e w' => e = .returned (.tuple #[.slice none 0 0, .int .u64 s]) ∧ w = w' := by
  obtain h | ⟨h, g⟩ := h
  all_goals
    go_enter Try.func14, Try.ntmps14
    go_wp2
    go_returns
    exact ⟨rfl, rfl⟩
theorem rPerm_no (n : Int) (s : Int) (h : n < 1 ∨ (1 ≤ n ∧ 4096 < n)) (w : World) :
    Calls Try.prog 15 #[.int .i64 n, .int .u64 s] w fun e w' => e = .returned (.tuple #[.slice none 0 0, .int .u64 s]) ∧ w = w' := by
  obtain h | ⟨h, g⟩ := h
  all_goals
    go_enter Try.func15, Try.ntmps15
    go_wp2
    go_returns
    exact ⟨rfl, rfl⟩
set_option maxRecDepth 100000 in
set_option maxHeartbeats 8000000 in
theorem shuf_no (n : Int) (s : Int) (hn : n ≤ 9223372036854775807) (h : n < 1 ∨ (1 ≤ n ∧ 4096 < n)) (w : World) :
    Calls Try.prog 3 #[.int .i64 n, .int .u64 s] w fun e w' => e = .returned (.bool true) ∧ Below w.heap.size w w' := by
  have hp := Lib.hid (fun w => perm_no' n s h w)
  have hq := Lib.hid (fun w => rPerm_no n s h w)
  obtain ⟨z, hz⟩ : ∃ z, zI s = z := ⟨_, rfl⟩
  obtain ⟨t, ht⟩ : ∃ t, sI s = t := ⟨_, rfl⟩
  obtain ⟨k, hk⟩ : ∃ k, belowK s n = k := ⟨_, rfl⟩
  obtain ⟨u, hu⟩ : ∃ u, belowS s n = u := ⟨_, rfl⟩
  replace hz := Lib.hid hz
  replace ht := Lib.hid ht
  replace hk := Lib.hid hk
  replace hu := Lib.hid hu
  go_enter Try.func3, Try.ntmps3
  go_wp2_with fail
  refine (next_at _ _ _ _ hz.out ht.out).mono ?_
  rintro e w1 ⟨rfl, rfl⟩
  go_wp2_with fail
  refine (rNext_at _ _ _ _ hz.out ht.out).mono ?_
  rintro e w1 ⟨rfl, rfl⟩
  go_wp2_with fail
  refine (below_at _ _ _ _ hn _ hk.out hu.out).mono ?_
  rintro e w1 ⟨rfl, rfl⟩
  go_wp2_with fail
  refine (rBelow_at _ _ _ _ hn _ hk.out hu.out).mono ?_
  rintro e w1 ⟨rfl, rfl⟩
  go_wp2_with fail
  refine (hp.out _).mono ?_
  rintro e w1 ⟨rfl, rfl⟩
  go_wp2_with fail
  refine (hq.out _).mono ?_
  rintro e w1 ⟨rfl, rfl⟩
  go_wp2_with fail
  refine (same_nil _).mono ?_
  rintro e w1 ⟨rfl, rfl⟩
  go_wp2_with fail
  refine (example_true _).mono ?_
  rintro e w2 ⟨rfl, hb⟩
  replace hb := Lib.hid hb
  go_wp2
  go_ret
  exact ⟨rfl, hb.out⟩
set_option maxRecDepth 100000 in
set_option maxHeartbeats 8000000 in
theorem shuf_yes (n : Nat) (s : Int) (h1 : 1 ≤ n) (h2 : n ≤ 4096) (w : World) :
    Calls Try.prog 3 #[.int .i64 (n : Int), .int .u64 s] w fun e w' => e = .returned (.bool true) ∧ Below w.heap.size w w' := by
  have hp := fun w => perm_yes n h1 h2 s w
  have hq := fun w => rPerm_yes n h1 h2 s w
  obtain ⟨R, hR⟩ : ∃ R, runP (n - 1) (fun i => (i : Int)) s = R := ⟨_, rfl⟩
  rw [hR] at hp hq
  obtain ⟨F, S⟩ := R
  replace hp := Lib.hid hp
  replace hq := Lib.hid hq
  clear hR
  have hn : (n : Int) ≤ 9223372036854775807 := by omega
  obtain ⟨z, hz⟩ : ∃ z, zI s = z := ⟨_, rfl⟩
  obtain ⟨t, ht⟩ : ∃ t, sI s = t := ⟨_, rfl⟩
  obtain ⟨k, hk⟩ : ∃ k, belowK s n = k := ⟨_, rfl⟩
  obtain ⟨u, hu⟩ : ∃ u, belowS s n = u := ⟨_, rfl⟩
  replace hz := Lib.hid hz
  replace ht := Lib.hid ht
  replace hk := Lib.hid hk
  replace hu := Lib.hid hu
  go_enter Try.func3, Try.ntmps3
  go_wp2_with fail
  refine (next_at _ _ _ _ hz.out ht.out).mono ?_
  rintro e w1 ⟨rfl, rfl⟩
  go_wp2_with fail
  refine (rNext_at _ _ _ _ hz.out ht.out).mono ?_
  rintro e w1 ⟨rfl, rfl⟩
  go_wp2_with fail
  refine (below_at _ _ _ _ hn _ hk.out hu.out).mono ?_
  rintro e w1 ⟨rfl, rfl⟩
  go_wp2_with fail
  refine (rBelow_at _ _ _ _ hn _ hk.out hu.out).mono ?_
  rintro e w1 ⟨rfl, rfl⟩
  go_wp2_with fail
  refine (hp.out _).mono ?_
  rintro e W1 ⟨rfl, hB, kb⟩
  replace hB := Lib.hid hB
  replace kb := Lib.hid kb
  go_wp2_with fail
  refine (hq.out _).mono ?_
  rintro e W2 ⟨g, cap, cur, rfl, hb, kg, hg⟩
  replace kb := Lib.hid (kb.out.call hb)
  replace hB := Lib.hid (below_on hB.out hb)
  replace kg := Lib.hid kg
  replace hg := Lib.hid hg
  clear hb
  have hS := Lib.hid (same_yes n h2 F w.heap.size g n cap (rowOf n F) cur W2 (begins_row n F) hg.out kb.out kg.out)
  go_wp2_with fail
  refine hS.out.mono ?_
  rintro e W3 ⟨rfl, hb⟩
  replace hB := Lib.hid (below_on hB.out hb)
  clear hb
  go_wp2_with fail
  refine (example_true _).mono ?_
  rintro e W4 ⟨rfl, hb⟩
  replace hB := Lib.hid (below_on hB.out hb)
  clear hb
  go_wp2
  go_ret
  exact ⟨rfl, hB.out⟩
theorem law_shuffles (n s : Int) (hn : n ≤ 9223372036854775807) (w : World) :
    Calls Try.prog 3 #[.int .i64 n, .int .u64 s] w fun e w' => e = .returned (.bool true) ∧ Below w.heap.size w w' := by
  by_cases h : n < 1 ∨ (1 ≤ n ∧ 4096 < n)
  · exact shuf_no n s hn h w
  · obtain ⟨m, rfl⟩ : ∃ m : Nat, n = (m : Int) := ⟨n.toNat, by omega⟩
    exact shuf_yes m s (by omega) (by omega) w
end Go.Proofs.Ythbhhodlggkegaa
