/- The reference of chapter 1: Clamp, Saturate, Add, Sub, RoundDiv, Mul, Ratio. -/
import Derived.Test.YthbagegkcpblgaaFix
import Derived.Test.YthbagegkcpblgaaBase
namespace Go.Proofs.Ythbagegkcpblgaa
open Go.RowKit
set_option maxHeartbeats 1000000 in
theorem r_clamp_any (x lo hi : Int) (hlh : lo ≤ hi) (w : World) :
    Calls Try.prog 32 #[.int .i64 x, .int .i64 lo, .int .i64 hi] w fun e w' => e = .returned (.int .i64 (clampI x lo hi)) ∧ w = w' := by
  have hc : x < lo ∨ (lo ≤ x ∧ hi < x) ∨ (lo ≤ x ∧ x ≤ hi) := by omega
  rcases hc with h | ⟨h, g⟩ | ⟨h, g⟩
  all_goals
    go_enter Try.func32, Try.ntmps32
    go_wp2
    go_ret
    exact ⟨ret_int (by unfold clampI; omega), rfl⟩
theorem r_clamp_at (x lo hi v : Int) (hlh : lo ≤ hi) (w : World) (h : clampI x lo hi = v) :
    Calls Try.prog 32 #[.int .i64 x, .int .i64 lo, .int .i64 hi] w fun e w' => e = .returned (.int .i64 v) ∧ w = w' := h ▸ r_clamp_any x lo hi hlh w
theorem r_sat_at (x v : Int) (w : World) (h : sat x = v) :
    Calls Try.prog 59 #[.int .i64 x] w fun e w' => e = .returned (.int .i64 v) ∧ w = w' := by
  go_enter Try.func59, Try.ntmps59
  go_wp2_with fail
  refine (r_clamp_at _ _ _ v (by omega) _ h).mono ?_
  rintro e xw ⟨rfl, rfl⟩
  go_wp2
  go_ret
  exact ⟨rfl, rfl⟩
theorem r_fadd_at (a b v : Int) (w : World) (h : fadd a b = v) :
    Calls Try.prog 46 #[.int .i64 a, .int .i64 b] w fun e w' => e = .returned (.int .i64 v) ∧ w = w' := by
  unfold fadd at h
  have p1 := sat_lo a
  have p2 := sat_hi a
  have p3 := sat_lo b
  have p4 := sat_hi b
  have hw : IntKind.i64.wrap (sat a + sat b) = sat a + sat b := by rw [IntKind.wrap_i64]; omega
  have h1 := Lib.hid (fun w => r_sat_at a _ w rfl)
  have h2 := Lib.hid (fun w => r_sat_at b _ w rfl)
  have h3 := Lib.hid (fun w => r_sat_at _ v w h)
  generalize sat a = p at *
  generalize sat b = q at *
  clear h
  go_enter Try.func46, Try.ntmps46
  go_wp2_with fail
  refine (h1.out _).mono ?_
  rintro e xw ⟨rfl, rfl⟩
  go_wp2_with fail
  refine (h2.out _).mono ?_
  rintro e xw ⟨rfl, rfl⟩
  go_wp2_with fail
  refine (h3.out _).mono ?_
  rintro e xw ⟨rfl, rfl⟩
  go_wp2
  go_ret
  exact ⟨rfl, rfl⟩
theorem r_fsub_at (a b v : Int) (w : World) (h : fsub a b = v) :
    Calls Try.prog 48 #[.int .i64 a, .int .i64 b] w fun e w' => e = .returned (.int .i64 v) ∧ w = w' := by
  unfold fsub at h
  have p1 := sat_lo a
  have p2 := sat_hi a
  have p3 := sat_lo b
  have p4 := sat_hi b
  have hw : IntKind.i64.wrap (sat a - sat b) = sat a - sat b := by rw [IntKind.wrap_i64]; omega
  have h1 := Lib.hid (fun w => r_sat_at a _ w rfl)
  have h2 := Lib.hid (fun w => r_sat_at b _ w rfl)
  have h3 := Lib.hid (fun w => r_sat_at _ v w h)
  generalize sat a = p at *
  generalize sat b = q at *
  clear h
  go_enter Try.func48, Try.ntmps48
  go_wp2_with fail
  refine (h1.out _).mono ?_
  rintro e xw ⟨rfl, rfl⟩
  go_wp2_with fail
  refine (h2.out _).mono ?_
  rintro e xw ⟨rfl, rfl⟩
  go_wp2_with fail
  refine (h3.out _).mono ?_
  rintro e xw ⟨rfl, rfl⟩
  go_wp2
  go_ret
  exact ⟨rfl, rfl⟩
set_option maxHeartbeats 4000000 in
theorem r_rd_pos (n d v : Int) (hd : 1 ≤ d) (hd' : d ≤ 4611686018427387904) (hn : 0 ≤ n) (hn' : n ≤ 4611686018427387904) (hv : (2 * n + d) / (2 * d) = v) (w : World) :
    Calls Try.prog 60 #[.int .i64 n, .int .i64 d] w fun e w' => e = .returned (.int .i64 v) ∧ Below w.heap.size w w' := by
  have hm : (if n % d ≥ d - n % d then n / d + 1 else n / d) = v := by rw [← rdp_mod (by omega)]; exact hv
  have r0 : 0 ≤ n % d := Int.emod_nonneg _ (by omega)
  have r1 : n % d < d := Int.emod_lt_of_pos _ (by omega)
  have q0 : 0 ≤ n / d := Int.ediv_nonneg hn (by omega)
  have q1 : n / d ≤ n := Int.ediv_le_self _ hn
  have t1 : n.tdiv d = n / d := Int.tdiv_eq_ediv_of_nonneg hn
  have t2 : n.tmod d = n % d := Int.tmod_eq_emod_of_nonneg hn
  obtain ⟨q, hq⟩ : ∃ q, n / d = q := ⟨_, rfl⟩
  obtain ⟨r, hr⟩ : ∃ r, n % d = r := ⟨_, rfl⟩
  rw [hq] at t1 q0 q1 hm
  rw [hr] at t2 r0 r1 hm
  have e1 : IntKind.i64.wrap q = q := by rw [IntKind.wrap_i64]; omega
  have e2 : IntKind.i64.wrap r = r := by rw [IntKind.wrap_i64]; omega
  have e3 : IntKind.i64.wrap (d - r) = d - r := by rw [IntKind.wrap_i64]; omega
  have e4 : IntKind.i64.wrap (q + 1) = q + 1 := by rw [IntKind.wrap_i64]; omega
  have e9 : ¬ (d = 0) := by omega
  have e10 : (d == 0) = false := by simpa using e9
  have f1 : ¬ d < 1 := by omega
  have f2 : ¬ 4611686018427387904 < d := by omega
  have f3 : ¬ n < -4611686018427387904 := by omega
  have f4 : ¬ 4611686018427387904 < n := by omega
  have f5 : ¬ n < 0 := by omega
  clear hv hq hr hd' hn' hn q0 q1 r0 r1
  by_cases h : d - r ≤ r
  · rw [if_pos h] at hm
    replace hm := Lib.hid hm
    go_enter Try.func60, Try.ntmps60
    go_wp2_with fail
    go_quiet (fail)
    go_wp2
    go_ret
    exact ⟨ret_int hm.out, below_drewN (Below.refl _ _)⟩
  · rw [if_neg h] at hm
    replace hm := Lib.hid hm
    go_enter Try.func60, Try.ntmps60
    go_wp2_with fail
    go_quiet (fail)
    go_wp2
    go_ret
    exact ⟨ret_int hm.out, below_drewN (Below.refl _ _)⟩
theorem r_rd_at (n d v : Int) (hd : 1 ≤ d) (hd' : d ≤ 4611686018427387904) (hn : -4611686018427387904 ≤ n) (hn' : n ≤ 4611686018427387904) (hv : rd n d = v) (w : World) :
    Calls Try.prog 60 #[.int .i64 n, .int .i64 d] w fun e w' => e = .returned (.int .i64 v) ∧ Below w.heap.size w w' := by
  have hu : rd n d = if n < 0 then - rdp (-n) d else rdp n d := by
    unfold rd
    rw [if_neg (by unfold big; omega)]
  rw [hu] at hv
  by_cases h : n < 0
  · rw [if_pos h] at hv
    obtain ⟨u, hu'⟩ : ∃ u, rdp (-n) d = u := ⟨_, rfl⟩
    rw [hu'] at hv
    have u0 : 0 ≤ u := hu' ▸ rdp_nonneg (by omega) (by omega)
    have u1 : u ≤ -n := hu' ▸ rdp_le (by omega) (-n) (by have := Int.mul_le_mul_of_nonneg_left hd (show 0 ≤ -n by omega); omega)
    have hR := Lib.hid (fun w => r_rd_pos (-n) d u hd hd' (by omega) (by omega) hu' w)
    have e0 : IntKind.i64.wrap (-n) = -n := by rw [IntKind.wrap_i64]; omega
    have e1 : IntKind.i64.wrap (-u) = v := by rw [IntKind.wrap_i64]; omega
    have f1 : ¬ d < 1 := by omega
    have f2 : ¬ 4611686018427387904 < d := by omega
    have f3 : ¬ n < -4611686018427387904 := by omega
    have f4 : ¬ 4611686018427387904 < n := by omega
    clear hv hu hu' hd hd' hn hn' u0 u1
    go_enter Try.func60, Try.ntmps60
    go_wp2_with fail
    refine (hR.out _).mono ?_
    rintro e xw1 ⟨rfl, hb⟩
    replace hb := Lib.hid hb
    go_wp2
    go_ret
    first | exact ⟨rfl, hb.out⟩ | exact ⟨rfl, Below.refl _ _⟩
  · rw [if_neg h] at hv
    exact r_rd_pos n d v hd hd' (by omega) (by omega) hv w
theorem r_fmul_at (a b v : Int) (w : World) (h : fmul a b = v) :
    Calls Try.prog 47 #[.int .i64 a, .int .i64 b] w fun e w' => e = .returned (.int .i64 v) ∧ Below w.heap.size w w' := by
  unfold fmul at h
  obtain ⟨m1, m2⟩ := sat_mul a b
  have hw : IntKind.i64.wrap (sat a * sat b) = sat a * sat b := by rw [IntKind.wrap_i64]; omega
  have h1 := Lib.hid (fun w => r_sat_at a _ w rfl)
  have h2 := Lib.hid (fun w => r_sat_at b _ w rfl)
  obtain ⟨m, hm⟩ : ∃ m, sat a * sat b = m := ⟨_, rfl⟩
  rw [hm] at h m1 m2 hw
  have hR := Lib.hid (fun w => r_rd_at m 65536 _ (by omega) (by omega) (by omega) (by omega) rfl w)
  have h3 := Lib.hid (fun w => r_sat_at _ v w h)
  generalize rd m 65536 = r at *
  generalize sat a = p at *
  generalize sat b = q at *
  have hm' : p * q = m := hm
  clear h m1 m2 hm
  go_enter Try.func47, Try.ntmps47
  go_wp2_with fail
  refine (h1.out _).mono ?_
  rintro e xw ⟨rfl, rfl⟩
  go_wp2_with fail
  refine (h2.out _).mono ?_
  rintro e xw ⟨rfl, rfl⟩
  go_wp2_with fail
  refine (hR.out _).mono ?_
  rintro e xw1 ⟨rfl, hb⟩
  replace hb := Lib.hid hb
  go_wp2_with fail
  refine (h3.out _).mono ?_
  rintro e xw ⟨rfl, rfl⟩
  go_wp2
  go_ret
  first | exact ⟨rfl, hb.out⟩ | exact ⟨rfl, Below.refl _ _⟩
set_option maxHeartbeats 4000000 in
theorem r_ratio_at (n d v : Int) (hv : ratio n d = v) (w : World) :
    Calls Try.prog 55 #[.int .i64 n, .int .i64 d] w fun e w' => e = .returned (.int .i64 v) ∧ Below w.heap.size w w' := by
  unfold ratio at hv
  by_cases h1 : d < 1 ∨ big < d ∨ n < 1
  · rw [if_pos h1] at hv
    subst hv
    have hc : d < 1 ∨ (1 ≤ d ∧ 4611686018427387904 < d) ∨ (1 ≤ d ∧ d ≤ 4611686018427387904 ∧ n < 1) := by unfold big at h1; omega
    clear h1
    rcases hc with h | ⟨h, g⟩ | ⟨h, g, k⟩
    all_goals
      go_enter Try.func55, Try.ntmps55
      go_wp2
      go_ret
      first | exact ⟨rfl, hb.out⟩ | exact ⟨rfl, Below.refl _ _⟩
  · rw [if_neg h1] at hv
    have d1 : 1 ≤ d := by omega
    have d2 : d ≤ 4611686018427387904 := by unfold big at h1; omega
    have n1 : 1 ≤ n := by omega
    clear h1
    by_cases h2 : d ≤ n
    · rw [if_pos h2] at hv
      subst hv
      go_enter Try.func55, Try.ntmps55
      go_wp2
      go_ret
      first | exact ⟨rfl, hb.out⟩ | exact ⟨rfl, Below.refl _ _⟩
    · rw [if_neg h2] at hv
      have h2' : n < d := by omega
      clear h2
      by_cases h3 : d < 70368744177664
      · rw [if_pos h3] at hv
        have e1 : IntKind.i64.wrap (n * 65536) = n * 65536 := by rw [IntKind.wrap_i64]; omega
        have hR := Lib.hid (fun w => r_rd_at (n * 65536) d v d1 d2 (by omega) (by omega) hv w)
        clear hv
        go_enter Try.func55, Try.ntmps55
        go_wp2_with fail
        refine (hR.out _).mono ?_
        rintro e xw1 ⟨rfl, hb⟩
        replace hb := Lib.hid hb
        go_wp2
        go_ret
        first | exact ⟨rfl, hb.out⟩ | exact ⟨rfl, Below.refl _ _⟩
      · rw [if_neg h3] at hv
        have h3' : 70368744177664 ≤ d := by omega
        have hr : rd d 65536 = (2 * d + 65536) / (2 * 65536) := rd_nn (by omega) (by unfold big; omega) (by omega) (by unfold big; omega)
        obtain ⟨q, hq⟩ : ∃ q, rd d 65536 = q := ⟨_, rfl⟩
        rw [hq] at hv hr
        have q1 : 1 ≤ q := by omega
        have q2 : q ≤ 4611686018427387904 := by omega
        have hR := Lib.hid (fun w => r_rd_at d 65536 q (by omega) (by omega) (by omega) (by omega) hq w)
        obtain ⟨u, hu⟩ : ∃ u, rd n q = u := ⟨_, rfl⟩
        have hS := Lib.hid (fun w => r_rd_at n q u q1 q2 (by omega) (by omega) hu w)
        rw [hu] at hv
        clear hr hq hu h3 q1 q2
        have hc : u < 65536 ∨ u = 65536 ∨ 65536 < u := by omega
        rcases hc with hc | rfl | hc
        all_goals
          have hv' : _ = v := hv
          go_enter Try.func55, Try.ntmps55
          go_wp2_with fail
          refine (hR.out _).mono ?_
          rintro e xw1 ⟨rfl, hb⟩
          replace hb := Lib.hid hb
          go_wp2_with fail
          refine (hS.out _).mono ?_
          rintro e xw2 ⟨rfl, hb2⟩
          replace hb := Lib.hid (below_on hb.out hb2)
          clear hb2
          clear hv'
          replace hv := Lib.hid hv
          go_wp2
          go_ret
          exact ⟨ret_int (by have := hv.out; omega), hb.out⟩
end Go.Proofs.Ythbagegkcpblgaa
