/- permute.Below and the reference's: what they compute; PermuteBelowRange returns true. -/
import Derived.Test.YthbhhodlggkegaaPInj
import Derived.Test.YthbhhodlggkegaaPEx2
namespace Go.Proofs.Ythbhhodlggkegaa
open Go.RowKit
def belowK (s n : Int) : Int := if n < 1 then 0 else zI s % n
def belowS (s n : Int) : Int := if n < 1 then s else sI s
theorem belowK_bound (s n : Int) (h : 1 ≤ n) : 0 ≤ belowK s n ∧ belowK s n < n := by
  unfold belowK
  rw [if_neg (by omega)]
  exact ⟨Int.emod_nonneg _ (by omega), Int.emod_lt_of_pos _ (by omega)⟩
set_option maxHeartbeats 1000000 in
theorem below_any (s n : Int) (hn : n ≤ 9223372036854775807) (w : World) :
    Calls Try.prog 12 #[.int .u64 s, .int .i64 n] w fun e w' => e = .returned (.tuple #[.int .i64 (belowK s n), .int .u64 (belowS s n)]) ∧ w = w' := by
  by_cases h : n < 1
  · have hd : decide (n < 1) = true := by simpa using h
    have k1 : belowK s n = 0 := by unfold belowK; rw [if_pos h]
    have k2 : belowS s n = s := by unfold belowS; rw [if_pos h]
    rw [k1, k2]
    go_enter Try.func12, Try.ntmps12
    go_wp2
    go_returns
    exact ⟨rfl, rfl⟩
  · have hd : decide (n < 1) = false := by simpa using h
    have hb := zI_bound s
    obtain ⟨z, hz⟩ : ∃ z, zI s = z := ⟨_, rfl⟩
    obtain ⟨r, hr⟩ : ∃ r, z % n = r := ⟨_, rfl⟩
    rw [hz] at hb
    have k1 : belowK s n = r := by unfold belowK; rw [if_neg h, hz, hr]
    have k2 : belowS s n = sI s := by unfold belowS; rw [if_neg h]
    have r0 : 0 ≤ r := hr ▸ Int.emod_nonneg _ (by omega)
    have r1 : r < n := hr ▸ Int.emod_lt_of_pos _ (by omega)
    have w1 : IntKind.u64.wrap n = n := by rw [IntKind.wrap_u64]; omega
    have w2 : z.tmod n = r := by rw [Int.tmod_eq_emod_of_nonneg hb.1]; exact hr
    have w3 : IntKind.u64.wrap r = r := by rw [IntKind.wrap_u64]; omega
    have w4 : IntKind.i64.wrap r = r := by rw [IntKind.wrap_i64]; omega
    have w5 : ¬ n = 0 := by omega
    have w6 : (n == 0) = false := by simpa using w5
    obtain ⟨t, ht⟩ : ∃ t, sI s = t := ⟨_, rfl⟩
    rw [k1, k2, ht]
    have hz := Lib.hid hz
    have ht := Lib.hid ht
    clear hr k1 k2 h hb
    go_enter Try.func12, Try.ntmps12
    go_wp2_with fail
    refine (next_at _ _ _ _ hz.out ht.out).mono ?_
    rintro e w' ⟨rfl, rfl⟩
    go_wp2
    go_returns
    exact ⟨rfl, rfl⟩
theorem below_at (s n k t : Int) (hn : n ≤ 9223372036854775807) (w : World) (hk : belowK s n = k) (ht : belowS s n = t) :
    Calls Try.prog 12 #[.int .u64 s, .int .i64 n] w fun e w' => e = .returned (.tuple #[.int .i64 k, .int .u64 t]) ∧ w = w' := by
  subst hk ht
  exact below_any s n hn w
theorem i64_range {a : Int} (h : (Lit.int .i64 a).wf = true) : -9223372036854775808 ≤ a ∧ a ≤ 9223372036854775807 := by
  have e1 : IntKind.i64.min = -9223372036854775808 := by decide
  have e2 : IntKind.i64.max = 9223372036854775807 := by decide
  simp [Lit.wf, e1, e2] at h
  omega
set_option maxHeartbeats 1000000 in
theorem law_below (s n : Int) (w : World) (hn0 : (Lit.int .i64 n).wf = true) :
    Calls Try.prog 5 #[.int .u64 s, .int .i64 n] w fun e w' => e = .returned (.bool true) ∧ Below w.heap.size w w' := by
  have hn := (i64_range hn0).2
  clear hn0
  by_cases h : n < 1
  · have hd : decide (n < 1) = true := by simpa using h
    have k1 : belowK s n = 0 := by unfold belowK; rw [if_pos h]
    have k2 : belowS s n = s := by unfold belowS; rw [if_pos h]
    go_enter Try.func5, Try.ntmps5
    go_wp2_with fail
    refine (below_at _ _ _ _ hn _ k1 k2).mono ?_
    rintro e w1 ⟨rfl, rfl⟩
    go_wp2_with fail
    refine (example_true _).mono ?_
    rintro e w1 ⟨rfl, hb⟩
    go_wp2
    go_ret
    exact ⟨rfl, hb⟩
  · have hd : decide (n < 1) = false := by simpa using h
    have hb := zI_bound s
    obtain ⟨z, hz⟩ : ∃ z, zI s = z := ⟨_, rfl⟩
    obtain ⟨r, hr⟩ : ∃ r, z % n = r := ⟨_, rfl⟩
    rw [hz] at hb
    have k1 : belowK s n = r := by unfold belowK; rw [if_neg h, hz, hr]
    obtain ⟨t, ht⟩ : ∃ t, sI s = t := ⟨_, rfl⟩
    have k2 : belowS s n = t := by unfold belowS; rw [if_neg h, ht]
    have r0 : 0 ≤ r := hr ▸ Int.emod_nonneg _ (by omega)
    have r1 : r < n := hr ▸ Int.emod_lt_of_pos _ (by omega)
    have hq := Int.emod_add_mul_ediv z n
    have q0 : 0 ≤ z / n := Int.ediv_nonneg hb.1 (by omega)
    have q1 : 0 ≤ n * (z / n) := Int.mul_nonneg (by omega) q0
    have rz : r ≤ z := by rw [hr] at hq; omega
    have w1 : IntKind.u64.wrap n = n := by rw [IntKind.wrap_u64]; omega
    have w2 : IntKind.u64.wrap r = r := by rw [IntKind.wrap_u64]; omega
    have w3 : IntKind.u64.wrap (z - r) = z - r := by rw [IntKind.wrap_u64]; omega
    have w4 : (z - r).tmod n = 0 := by
      rw [Int.tmod_eq_emod_of_nonneg (by omega)]
      have e : z - r = n * (z / n) := by rw [hr] at hq; omega
      rw [e, Int.mul_emod_right]
    have w5 : ¬ n = 0 := by omega
    have w6 : (n == 0) = false := by simpa using w5
    have w7 : IntKind.u64.wrap 0 = 0 := by decide
    have d1 : decide (0 ≤ r) = true := by simpa using r0
    have d2 : decide (r < n) = true := by simpa using r1
    have d3 : decide (r ≤ z) = true := by simpa using rz
    have hz := Lib.hid hz
    have ht := Lib.hid ht
    clear hr hq q0 q1
    go_enter Try.func5, Try.ntmps5
    go_wp2_with fail
    refine (below_at _ _ _ _ hn _ k1 k2).mono ?_
    rintro e w1 ⟨rfl, rfl⟩
    go_wp2_with fail
    refine (next_at _ _ _ _ hz.out ht.out).mono ?_
    rintro e w1 ⟨rfl, rfl⟩
    go_wp2_with fail
    refine (example_true _).mono ?_
    rintro e w1 ⟨rfl, hb⟩
    go_wp2
    go_ret
    exact ⟨rfl, hb⟩
end Go.Proofs.Ythbhhodlggkegaa
