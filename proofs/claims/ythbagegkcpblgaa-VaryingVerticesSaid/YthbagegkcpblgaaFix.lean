/- GEN: package fixed: Clamp, Saturate, Add, Sub, RoundDiv, Mul, Ratio. -/
import Derived.Test.YthbagegkcpblgaaPlainFix
import Derived.Test.YthbagegkcpblgaaBase
namespace Go.Proofs.Ythbagegkcpblgaa
open Go.RowKit
set_option maxHeartbeats 1000000 in
theorem clamp_any (x lo hi : Int) (w : World) :
    Calls Try.prog 29 #[.int .i64 x, .int .i64 lo, .int .i64 hi] w fun e w' => e = .returned (.int .i64 (clampI x lo hi)) ∧ w = w' := by
  have hc : (x ≤ hi ∧ x < lo) ∨ (x ≤ hi ∧ lo ≤ x) ∨ (hi < x ∧ hi < lo) ∨ (hi < x ∧ lo ≤ hi) := by omega
  rcases hc with ⟨h, g⟩ | ⟨h, g⟩ | ⟨h, g⟩ | ⟨h, g⟩
  all_goals
    go_enter Try.func29, Try.ntmps29
    go_wp2
    go_ret
    exact ⟨ret_int (by unfold clampI; omega), rfl⟩
theorem clamp_at (x lo hi v : Int) (w : World) (h : clampI x lo hi = v) :
    Calls Try.prog 29 #[.int .i64 x, .int .i64 lo, .int .i64 hi] w fun e w' => e = .returned (.int .i64 v) ∧ w = w' := h ▸ clamp_any x lo hi w
theorem sat_at (x v : Int) (w : World) (h : sat x = v) :
    Calls Try.prog 57 #[.int .i64 x] w fun e w' => e = .returned (.int .i64 v) ∧ w = w' := by
  go_enter Try.func57, Try.ntmps57
  go_wp2_with fail
  refine (clamp_at _ _ _ v _ h).mono ?_
  rintro e xw ⟨rfl, rfl⟩
  go_wp2
  go_ret
  exact ⟨rfl, rfl⟩
theorem fadd_at (a b v : Int) (w : World) (h : fadd a b = v) :
    Calls Try.prog 43 #[.int .i64 a, .int .i64 b] w fun e w' => e = .returned (.int .i64 v) ∧ w = w' := by
  unfold fadd at h
  have p1 := sat_lo a
  have p2 := sat_hi a
  have p3 := sat_lo b
  have p4 := sat_hi b
  have hw : IntKind.i64.wrap (sat a + sat b) = sat a + sat b := by rw [IntKind.wrap_i64]; omega
  have h1 := Lib.hid (fun w => sat_at a _ w rfl)
  have h2 := Lib.hid (fun w => sat_at b _ w rfl)
  have h3 := Lib.hid (fun w => sat_at _ v w h)
  generalize sat a = p at *
  generalize sat b = q at *
  clear h
  go_enter Try.func43, Try.ntmps43
  go_wp2_with fail
  refine (h1.out _).mono ?_
  rintro e xw ⟨rfl, rfl⟩
  go_wp2_with fail
  refine (h2.out _).mono ?_
  rintro e xw ⟨rfl, rfl⟩
  go_wp2_with fail
  refine (h3.out _).mono ?_
  rintro e xw ⟨rfl, rfl⟩
  go_wp2
  go_ret
  exact ⟨rfl, rfl⟩
theorem fsub_at (a b v : Int) (w : World) (h : fsub a b = v) :
    Calls Try.prog 45 #[.int .i64 a, .int .i64 b] w fun e w' => e = .returned (.int .i64 v) ∧ w = w' := by
  unfold fsub at h
  have p1 := sat_lo a
  have p2 := sat_hi a
  have p3 := sat_lo b
  have p4 := sat_hi b
  have hw : IntKind.i64.wrap (sat a - sat b) = sat a - sat b := by rw [IntKind.wrap_i64]; omega
  have h1 := Lib.hid (fun w => sat_at a _ w rfl)
  have h2 := Lib.hid (fun w => sat_at b _ w rfl)
  have h3 := Lib.hid (fun w => sat_at _ v w h)
  generalize sat a = p at *
  generalize sat b = q at *
  clear h
  go_enter Try.func45, Try.ntmps45
  go_wp2_with fail
  refine (h1.out _).mono ?_
  rintro e xw ⟨rfl, rfl⟩
  go_wp2_with fail
  refine (h2.out _).mono ?_
  rintro e xw ⟨rfl, rfl⟩
  go_wp2_with fail
  refine (h3.out _).mono ?_
  rintro e xw ⟨rfl, rfl⟩
  go_wp2
  go_ret
  exact ⟨rfl, rfl⟩
/-! ### RoundDiv -/
theorem rd_nn {n d : Int} (hd : 0 < d) (hd' : d ≤ big) (hn : 0 ≤ n) (hn' : n ≤ big) : rd n d = (2 * n + d) / (2 * d) := rd_eq hd hd' hn hn'
set_option maxHeartbeats 2000000 in
theorem rd_pos (n d v : Int) (hd : 1 ≤ d) (hd' : d ≤ 4611686018427387904) (hn : 0 ≤ n) (hn' : n ≤ 4611686018427387904) (hv : (2 * n + d) / (2 * d) = v) (w : World) :
    Calls Try.prog 58 #[.int .i64 n, .int .i64 d] w fun e w' => e = .returned (.int .i64 v) ∧ w = w' := by
  have v0 : 0 ≤ v := hv ▸ Int.ediv_nonneg (by omega) (by omega)
  have v1 : v ≤ 2 * n + d := hv ▸ Int.ediv_le_self _ (by omega)
  have v2 : v ≤ n + 1 := by
    rw [← hv]
    have : (2 * n + d) / (2 * d) < n + 2 := Int.ediv_lt_of_lt_mul (by omega) (by
      have h1 : (n + 2) * (2 * d) = 2 * (n * d) + 4 * d := by rw [Int.add_mul, ← Int.mul_assoc, Int.mul_comm n 2, Int.mul_assoc]; omega
      have h2 : n * 1 ≤ n * d := Int.mul_le_mul_of_nonneg_left hd hn
      omega)
    omega
  have e1 : IntKind.u64.wrap n = n := by rw [IntKind.wrap_u64]; omega
  have e2 : IntKind.u64.wrap (2 * n) = 2 * n := by rw [IntKind.wrap_u64]; omega
  have e3 : IntKind.u64.wrap d = d := by rw [IntKind.wrap_u64]; omega
  have e4 : IntKind.u64.wrap (2 * n + d) = 2 * n + d := by rw [IntKind.wrap_u64]; omega
  have e5 : IntKind.u64.wrap (2 * d) = 2 * d := by rw [IntKind.wrap_u64]; omega
  have e6 : (2 * n + d).tdiv (2 * d) = v := by rw [Int.tdiv_eq_ediv_of_nonneg (by omega)]; exact hv
  have e7 : IntKind.u64.wrap v = v := by rw [IntKind.wrap_u64]; omega
  have e8 : IntKind.i64.wrap v = v := by rw [IntKind.wrap_i64]; omega
  have e9 : ¬ (2 * d = 0) := by omega
  have f1 : ¬ d < 1 := by omega
  have f2 : ¬ 4611686018427387904 < d := by omega
  have f3 : ¬ n < -4611686018427387904 := by omega
  have f4 : ¬ 4611686018427387904 < n := by omega
  have f5 : ¬ n < 0 := by omega
  clear hv v1 v2 hd' hn' hd hn v0
  go_enter Try.func58, Try.ntmps58
  go_wp2
  go_ret
  exact ⟨rfl, rfl⟩
theorem sat_mul (a b : Int) : -4611686018427387904 ≤ sat a * sat b ∧ sat a * sat b ≤ 4611686018427387904 := by
  have p1 := sat_lo a
  have p2 := sat_hi a
  have p3 := sat_lo b
  have p4 := sat_hi b
  generalize sat a = x at *
  generalize sat b = y at *
  have h1 : 0 ≤ (536870911 - x) * (536870911 - y) := Int.mul_nonneg (by omega) (by omega)
  have h2 : 0 ≤ (536870911 + x) * (536870911 + y) := Int.mul_nonneg (by omega) (by omega)
  have h3 : 0 ≤ (536870911 - x) * (536870911 + y) := Int.mul_nonneg (by omega) (by omega)
  have h4 : 0 ≤ (536870911 + x) * (536870911 - y) := Int.mul_nonneg (by omega) (by omega)
  simp only [Int.sub_mul, Int.add_mul, Int.mul_sub, Int.mul_add] at h1 h2 h3 h4
  generalize x * y = m at *
  omega
theorem rd_at (n d v : Int) (hd : 1 ≤ d) (hd' : d ≤ 4611686018427387904) (hn : -4611686018427387904 ≤ n) (hn' : n ≤ 4611686018427387904) (hv : rd n d = v) (w : World) :
    Calls Try.prog 58 #[.int .i64 n, .int .i64 d] w fun e w' => e = .returned (.int .i64 v) ∧ w = w' := by
  have hu : rd n d = if n < 0 then - rdp (-n) d else rdp n d := by
    unfold rd
    rw [if_neg (by unfold big; omega)]
  rw [hu] at hv
  by_cases h : n < 0
  · rw [if_pos h] at hv
    obtain ⟨u, hu'⟩ : ∃ u, rdp (-n) d = u := ⟨_, rfl⟩
    rw [hu'] at hv
    have u0 : 0 ≤ u := hu' ▸ rdp_nonneg (by omega) (by omega)
    have u1 : u ≤ -n := hu' ▸ rdp_le (by omega) (-n) (by have := Int.mul_le_mul_of_nonneg_left hd (show 0 ≤ -n by omega); omega)
    have hR := Lib.hid (fun w => rd_pos (-n) d u hd hd' (by omega) (by omega) hu' w)
    have e0 : IntKind.i64.wrap (-n) = -n := by rw [IntKind.wrap_i64]; omega
    have e1 : IntKind.i64.wrap (-u) = v := by rw [IntKind.wrap_i64]; omega
    have f1 : ¬ d < 1 := by omega
    have f2 : ¬ 4611686018427387904 < d := by omega
    have f3 : ¬ n < -4611686018427387904 := by omega
    have f4 : ¬ 4611686018427387904 < n := by omega
    clear hv hu hu' hd hd' hn hn' u0 u1
    go_enter Try.func58, Try.ntmps58
    go_wp2_with fail
    refine (hR.out _).mono ?_
    rintro e xw ⟨rfl, rfl⟩
    go_wp2
    go_ret
    exact ⟨rfl, rfl⟩
  · rw [if_neg h] at hv
    exact rd_pos n d v hd hd' (by omega) (by omega) hv w
theorem fmul_at (a b v : Int) (w : World) (h : fmul a b = v) :
    Calls Try.prog 44 #[.int .i64 a, .int .i64 b] w fun e w' => e = .returned (.int .i64 v) ∧ w = w' := by
  unfold fmul at h
  obtain ⟨m1, m2⟩ := sat_mul a b
  have hw : IntKind.i64.wrap (sat a * sat b) = sat a * sat b := by rw [IntKind.wrap_i64]; omega
  have h1 := Lib.hid (fun w => sat_at a _ w rfl)
  have h2 := Lib.hid (fun w => sat_at b _ w rfl)
  obtain ⟨m, hm⟩ : ∃ m, sat a * sat b = m := ⟨_, rfl⟩
  rw [hm] at h m1 m2 hw
  have hR := Lib.hid (fun w => rd_at m 65536 _ (by omega) (by omega) (by omega) (by omega) rfl w)
  have h3 := Lib.hid (fun w => sat_at _ v w h)
  generalize rd m 65536 = r at *
  generalize sat a = p at *
  generalize sat b = q at *
  have hm' : p * q = m := hm
  clear h m1 m2 hm
  go_enter Try.func44, Try.ntmps44
  go_wp2_with fail
  refine (h1.out _).mono ?_
  rintro e xw ⟨rfl, rfl⟩
  go_wp2_with fail
  refine (h2.out _).mono ?_
  rintro e xw ⟨rfl, rfl⟩
  go_wp2_with fail
  refine (hR.out _).mono ?_
  rintro e xw ⟨rfl, rfl⟩
  go_wp2_with fail
  refine (h3.out _).mono ?_
  rintro e xw ⟨rfl, rfl⟩
  go_wp2
  go_ret
  exact ⟨rfl, rfl⟩
set_option maxHeartbeats 4000000 in
theorem ratio_at (n d v : Int) (hv : ratio n d = v) (w : World) :
    Calls Try.prog 53 #[.int .i64 n, .int .i64 d] w fun e w' => e = .returned (.int .i64 v) ∧ w = w' := by
  unfold ratio at hv
  by_cases h1 : d < 1 ∨ big < d ∨ n < 1
  · rw [if_pos h1] at hv
    subst hv
    have hc : d < 1 ∨ (1 ≤ d ∧ 4611686018427387904 < d) ∨ (1 ≤ d ∧ d ≤ 4611686018427387904 ∧ n < 1) := by unfold big at h1; omega
    clear h1
    rcases hc with h | ⟨h, g⟩ | ⟨h, g, k⟩
    all_goals
      go_enter Try.func53, Try.ntmps53
      go_wp2
      go_ret
      exact ⟨rfl, rfl⟩
  · rw [if_neg h1] at hv
    have d1 : 1 ≤ d := by omega
    have d2 : d ≤ 4611686018427387904 := by unfold big at h1; omega
    have n1 : 1 ≤ n := by omega
    clear h1
    by_cases h2 : d ≤ n
    · rw [if_pos h2] at hv
      subst hv
      go_enter Try.func53, Try.ntmps53
      go_wp2
      go_ret
      exact ⟨rfl, rfl⟩
    · rw [if_neg h2] at hv
      have h2' : n < d := by omega
      clear h2
      by_cases h3 : d < 70368744177664
      · rw [if_pos h3] at hv
        have e1 : IntKind.i64.wrap (n * 65536) = n * 65536 := by rw [IntKind.wrap_i64]; omega
        have hR := Lib.hid (fun w => rd_at (n * 65536) d v d1 d2 (by omega) (by omega) hv w)
        clear hv
        go_enter Try.func53, Try.ntmps53
        go_wp2_with fail
        refine (hR.out _).mono ?_
        rintro e xw ⟨rfl, rfl⟩
        go_wp2
        go_ret
        exact ⟨rfl, rfl⟩
      · rw [if_neg h3] at hv
        have h3' : 70368744177664 ≤ d := by omega
        have hr : rd d 65536 = (2 * d + 65536) / (2 * 65536) := rd_nn (by omega) (by unfold big; omega) (by omega) (by unfold big; omega)
        obtain ⟨q, hq⟩ : ∃ q, rd d 65536 = q := ⟨_, rfl⟩
        rw [hq] at hv hr
        have q1 : 1 ≤ q := by omega
        have q2 : q ≤ 4611686018427387904 := by omega
        have hR := Lib.hid (fun w => rd_at d 65536 q (by omega) (by omega) (by omega) (by omega) hq w)
        obtain ⟨u, hu⟩ : ∃ u, rd n q = u := ⟨_, rfl⟩
        have hS := Lib.hid (fun w => rd_at n q u q1 q2 (by omega) (by omega) hu w)
        rw [hu] at hv
        clear hr hq hu h3 q1 q2
        have hc : u < 65536 ∨ u = 65536 ∨ 65536 < u := by omega
        rcases hc with hc | rfl | hc
        all_goals
          have hv' : _ = v := hv
          go_enter Try.func53, Try.ntmps53
          go_wp2_with fail
          refine (hR.out _).mono ?_
          rintro e xw ⟨rfl, rfl⟩
          go_wp2_with fail
          refine (hS.out _).mono ?_
          rintro e xw ⟨rfl, rfl⟩
          clear hv'
          replace hv := Lib.hid hv
          go_wp2
          go_ret
          exact ⟨ret_int (by have := hv.out; omega), rfl⟩
end Go.Proofs.Ythbagegkcpblgaa
