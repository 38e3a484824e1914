/- binning.Tiles, TileRect, TileOf and the reference's Grid, Tiles, TileRect, TileOf return what P36.1 says: for any numbers, in any world. -/
import Derived.Test.YtimgjlogbkgiaaaGrid
namespace Go.Proofs.Ytimgjlogbkgiaaa
open Go.RowKit
theorem grid_at (W H c r : Int) (w : World) (hc : colsI W H = c) (hr : rowsI W H = r) :
    Calls Try.prog 9 #[.int .i64 W, .int .i64 H] w fun e w' => e = .returned (.tuple #[.int .i64 c, .int .i64 r]) ∧ w = w' := hc ▸ hr ▸ grid_any W H w
set_option maxHeartbeats 1000000 in
theorem sized_any (W H : Int) (w : World) :
    Calls Try.prog 25 #[.int .i64 W, .int .i64 H] w fun e w' => e = .returned (.bool (szB W H)) ∧ w = w' := by
  go_enter Try.func25, Try.ntmps25
  go_wp2
  all_goals
    go_ret
    refine ⟨ret_bool ?_, rfl⟩
    unfold szB
    rw [Bool.eq_iff_iff]
    simp
    try omega
set_option maxHeartbeats 1000000 in
theorem rGrid_any (W H : Int) (w : World) :
    Calls Try.prog 10 #[.int .i64 W, .int .i64 H] w fun e w' => e = .returned (.tuple #[.int .i64 (colsI W H), .int .i64 (rowsI W H)]) ∧ w = w' := by
  by_cases h : 1 ≤ W ∧ W ≤ 64 ∧ 1 ≤ H ∧ H ≤ 64
  · have hg := Lib.hid (grid_yes h)
    have hs := Lib.hid ((szB_iff ..).2 h)
    go_enter Try.func10, Try.ntmps10
    go_wp2_with fail
    refine (sized_any _ _ _).mono ?_
    rintro e w1 ⟨rfl, rfl⟩
    rw [hs.out]
    go_wp2
    go_ret2
    exact ⟨ret_pair (by rw [hg.out.1]; omega) (by rw [hg.out.2]; omega), rfl⟩
  · have hg := Lib.hid (grid_no h)
    have hs := Lib.hid (szB_no h)
    go_enter Try.func10, Try.ntmps10
    go_wp2_with fail
    refine (sized_any _ _ _).mono ?_
    rintro e w1 ⟨rfl, rfl⟩
    rw [hs.out]
    go_wp2
    go_ret2
    exact ⟨ret_pair (by rw [hg.out.1]) (by rw [hg.out.2]), rfl⟩
theorem rGrid_at (W H c r : Int) (w : World) (hc : colsI W H = c) (hr : rowsI W H = r) :
    Calls Try.prog 10 #[.int .i64 W, .int .i64 H] w fun e w' => e = .returned (.tuple #[.int .i64 c, .int .i64 r]) ∧ w = w' := hc ▸ hr ▸ rGrid_any W H w
set_option maxHeartbeats 1000000 in
theorem tiles_any (W H : Int) (w : World) :
    Calls Try.prog 13 #[.int .i64 W, .int .i64 H] w fun e w' => e = .returned (.int .i64 (tilesI W H)) ∧ w = w' := by
  obtain ⟨b1, b2⟩ := tiles_bd W H
  go_enter Try.func13, Try.ntmps13
  go_wp2_with (go_at_call 9; refine (grid_any _ _ _).mono ?_; rintro e w1 ⟨rfl, rfl⟩)
  go_ret
  exact ⟨rfl, rfl⟩
set_option maxHeartbeats 1000000 in
theorem rTiles_any (W H : Int) (w : World) :
    Calls Try.prog 14 #[.int .i64 W, .int .i64 H] w fun e w' => e = .returned (.int .i64 (tilesI W H)) ∧ w = w' := by
  obtain ⟨b1, b2⟩ := tiles_bd W H
  go_enter Try.func14, Try.ntmps14
  go_wp2_with (go_at_call 10; refine (rGrid_any _ _ _).mono ?_; rintro e w1 ⟨rfl, rfl⟩)
  go_ret
  exact ⟨rfl, rfl⟩
theorem rTiles_at (W H n : Int) (w : World) (h : tilesI W H = n) :
    Calls Try.prog 14 #[.int .i64 W, .int .i64 H] w fun e w' => e = .returned (.int .i64 n) ∧ w = w' := h ▸ rTiles_any W H w

/-- Is there such a tile? -/
def tileB (W H t : Int) : Bool := decide (0 ≤ t ∧ t < tilesI W H)
def rectX (W H t : Int) : Int := if tileB W H t = true then t % colsI W H * 8 else 0
def rectY (W H t : Int) : Int := if tileB W H t = true then t / colsI W H * 8 else 0
def rectW (W H t : Int) : Int := if tileB W H t = true then min 8 (W - t % colsI W H * 8) else 0
def rectH (W H t : Int) : Int := if tileB W H t = true then min 8 (H - t / colsI W H * 8) else 0
def rectV (W H t : Int) : Value := .tuple #[.int .i64 (rectX W H t), .int .i64 (rectY W H t), .int .i64 (rectW W H t), .int .i64 (rectH W H t)]
theorem ret_four {a b c d a' b' c' d' : Int} (h1 : a = a') (h2 : b = b') (h3 : c = c') (h4 : d = d') : Ending.returned (.tuple #[.int .i64 a, .int .i64 b, .int .i64 c, .int .i64 d]) = .returned (.tuple #[.int .i64 a', .int .i64 b', .int .i64 c', .int .i64 d']) := by rw [h1, h2, h3, h4]
theorem rect_yes {W H t : Int} (h : 0 ≤ t ∧ t < tilesI W H) : rectX W H t = t % colsI W H * 8 ∧ rectY W H t = t / colsI W H * 8 ∧ rectW W H t = min 8 (W - t % colsI W H * 8) ∧ rectH W H t = min 8 (H - t / colsI W H * 8) := by
  have e : tileB W H t = true := by unfold tileB; simpa using h
  unfold rectX rectY rectW rectH
  simp [e]
theorem rect_no {W H t : Int} (h : ¬ (0 ≤ t ∧ t < tilesI W H)) : rectX W H t = 0 ∧ rectY W H t = 0 ∧ rectW W H t = 0 ∧ rectH W H t = 0 := by
  have e : tileB W H t = false := by unfold tileB; simpa using h
  unfold rectX rectY rectW rectH
  simp [e]
/-- What is known where there is such a tile. -/
theorem tile_facts {W H t : Int} (h : 0 ≤ t ∧ t < tilesI W H) : ∃ c r, colsI W H = c ∧ rowsI W H = r ∧ 1 ≤ W ∧ W ≤ 64 ∧ 1 ≤ H ∧ H ≤ 64 ∧ c = (W + 7) / 8 ∧ r = (H + 7) / 8 ∧ 1 ≤ c ∧ c ≤ 8 ∧ 1 ≤ r ∧ r ≤ 8 ∧ 0 ≤ c * r ∧ c * r ≤ 64 ∧ t < c * r ∧ 0 ≤ t % c ∧ t % c ≤ 7 ∧ t % c < c ∧ 0 ≤ t / c ∧ t / c ≤ 7 ∧ t / c < r := by
  by_cases hs : 1 ≤ W ∧ W ≤ 64 ∧ 1 ≤ H ∧ H ≤ 64
  · obtain ⟨g1, g2⟩ := grid_yes hs
    obtain ⟨b1, b2⟩ := tiles_bd W H
    have ht := h.2
    unfold tilesI at ht
    rw [g1, g2] at ht b1 b2
    refine ⟨_, _, g1, g2, hs.1, hs.2.1, hs.2.2.1, hs.2.2.2, rfl, rfl, ?_⟩
    generalize hc : (W + 7) / 8 = c at *
    generalize hr : (H + 7) / 8 = r at *
    have m1 := Int.emod_nonneg t (show c ≠ 0 by omega)
    have m2 := Int.emod_lt_of_pos t (show 0 < c by omega)
    have m3 : 0 ≤ t / c := Int.ediv_nonneg h.1 (by omega)
    have m4 : t / c < r := Int.ediv_lt_of_lt_mul (by omega) (by rw [Int.mul_comm]; exact ht)
    exact ⟨by omega, by omega, by omega, by omega, b1, b2, ht, m1, by omega, m2, m3, by omega, m4⟩
  · exfalso
    unfold tilesI at h
    rw [(grid_no hs).1, (grid_no hs).2] at h
    omega
set_option maxHeartbeats 4000000 in
theorem tileRect_any (W H t : Int) (w : World) :
    Calls Try.prog 11 #[.int .i64 W, .int .i64 H, .int .i64 t] w fun e w' => e = .returned (rectV W H t) ∧ Below w.heap.size w w' := by
  by_cases h : 0 ≤ t ∧ t < tilesI W H
  · have hg := Lib.hid (rect_yes h)
    obtain ⟨c, r, e1, e2, a1, a2, a3, a4, -, -, a5, a6, a7, a8, a9, a10, a11, a12, a13, -, a15, a16, -⟩ := tile_facts h
    have h0 := h.1
    have E1 := Lib.hid e1
    have E2 := Lib.hid e2
    clear h e1 e2
    go_enter Try.func11, Try.ntmps11
    go_wp2_with fail
    refine (grid_at _ _ _ _ _ E1.out E2.out).mono ?_
    rintro e w1 ⟨rfl, rfl⟩
    go_wp2
    go_quiet (fail)
    go_wp2
    all_goals
      go_returns
      exact ⟨ret_four (by rw [hg.out.1, E1.out]) (by rw [hg.out.2.1, E1.out]) (by rw [hg.out.2.2.1, E1.out]; omega) (by rw [hg.out.2.2.2, E1.out]; omega), below_drewN (Below.refl _ _)⟩
  · have hg := Lib.hid (rect_no h)
    obtain ⟨b1, b2⟩ := tiles_bd W H
    have h' : t < 0 ∨ colsI W H * rowsI W H ≤ t := by unfold tilesI at h; omega
    clear h
    rcases h' with h' | h'
    all_goals
      go_enter Try.func11, Try.ntmps11
      go_wp2_with (go_at_call 9; refine (grid_any _ _ _).mono ?_; rintro e w1 ⟨rfl, rfl⟩)
      all_goals
        first | (exfalso; omega) | skip
        go_returns
        refine ⟨ret_four hg.out.1.symm hg.out.2.1.symm hg.out.2.2.1.symm hg.out.2.2.2.symm, Below.refl _ _⟩
set_option maxHeartbeats 4000000 in
theorem rTileRect_any (W H t : Int) (w : World) :
    Calls Try.prog 12 #[.int .i64 W, .int .i64 H, .int .i64 t] w fun e w' => e = .returned (rectV W H t) ∧ Below w.heap.size w w' := by
  by_cases h : 0 ≤ t ∧ t < tilesI W H
  · have hg := Lib.hid (rect_yes h)
    obtain ⟨c, r, e1, e2, a1, a2, a3, a4, -, -, a5, a6, a7, a8, a9, a10, a11, a12, a13, -, a15, a16, -⟩ := tile_facts h
    have h0 := h.1
    have E1 := Lib.hid e1
    have E2 := Lib.hid e2
    have E3 : Hid (tilesI W H = c * r) := Lib.hid (by unfold tilesI; rw [e1, e2])
    clear h e1 e2
    go_enter Try.func12, Try.ntmps12
    go_wp2_with fail
    refine (rTiles_at _ _ _ _ E3.out).mono ?_
    rintro e w1 ⟨rfl, rfl⟩
    go_wp2_with fail
    refine (rGrid_at _ _ _ _ _ E1.out E2.out).mono ?_
    rintro e w1 ⟨rfl, rfl⟩
    go_wp2
    go_quiet (fail)
    go_wp2
    all_goals
      go_returns
      exact ⟨ret_four (by rw [hg.out.1, E1.out]) (by rw [hg.out.2.1, E1.out]) (by rw [hg.out.2.2.1, E1.out]; omega) (by rw [hg.out.2.2.2, E1.out]; omega), below_drewN (Below.refl _ _)⟩
  · have hg := Lib.hid (rect_no h)
    have h' : t < 0 ∨ (0 ≤ t ∧ tilesI W H ≤ t) := by omega
    clear h
    rcases h' with h' | ⟨h', h''⟩
    all_goals
      go_enter Try.func12, Try.ntmps12
      go_wp2_with (go_at_call 14; refine (rTiles_any _ _ _).mono ?_; rintro e w1 ⟨rfl, rfl⟩)
      all_goals
        first | (exfalso; omega) | skip
        go_returns
        refine ⟨ret_four hg.out.1.symm hg.out.2.1.symm hg.out.2.2.1.symm hg.out.2.2.2.symm, Below.refl _ _⟩

/-- Does the image have this pixel? -/
def pixB (W H x y : Int) : Bool := decide ((1 ≤ W ∧ W ≤ 64 ∧ 1 ≤ H ∧ H ≤ 64) ∧ 0 ≤ x ∧ x < W ∧ 0 ≤ y ∧ y < H)
def tileOfI (W H x y : Int) : Int := if pixB W H x y = true then y / 8 * ((W + 7) / 8) + x / 8 else -1
theorem tileOf_yes {W H x y : Int} (h : (1 ≤ W ∧ W ≤ 64 ∧ 1 ≤ H ∧ H ≤ 64) ∧ 0 ≤ x ∧ x < W ∧ 0 ≤ y ∧ y < H) : tileOfI W H x y = y / 8 * ((W + 7) / 8) + x / 8 := by
  unfold tileOfI; rw [if_pos (by unfold pixB; simpa using h)]
theorem tileOf_no {W H x y : Int} (h : ¬ ((1 ≤ W ∧ W ≤ 64 ∧ 1 ≤ H ∧ H ≤ 64) ∧ 0 ≤ x ∧ x < W ∧ 0 ≤ y ∧ y < H)) : tileOfI W H x y = -1 := by
  unfold tileOfI; rw [if_neg (by unfold pixB; simpa using h)]
set_option maxHeartbeats 4000000 in
theorem tileOf_any (W H x y : Int) (w : World) :
    Calls Try.prog 15 #[.int .i64 W, .int .i64 H, .int .i64 x, .int .i64 y] w fun e w' => e = .returned (.int .i64 (tileOfI W H x y)) ∧ w = w' := by
  by_cases hs : 1 ≤ W ∧ W ≤ 64 ∧ 1 ≤ H ∧ H ≤ 64
  · obtain ⟨g1, g2⟩ := grid_yes hs
    obtain ⟨a1, a2, a3, a4⟩ := hs
    have E1 : Hid (∃ c, (W + 7) / 8 = c ∧ colsI W H = c) := ⟨_, rfl, g1⟩
    by_cases hx : 0 ≤ x ∧ x < W ∧ 0 ≤ y ∧ y < H
    · have E3 := Lib.hid (tileOf_yes ⟨⟨a1, a2, a3, a4⟩, hx⟩)
      obtain ⟨b1, b2, b3, b4⟩ := hx
      have E2 := Lib.hid g2
      clear g1 g2
      obtain ⟨c, q1, q2⟩ := E1.out
      have c1 : 1 ≤ c := by omega
      have c2 : c ≤ 8 := by omega
      have c0 : ((c : Int) == 0) = false := by rw [beq_eq_false_iff_ne]; omega
      have Q1 := Lib.hid q1
      have Q2 := Lib.hid q2
      clear q1 q2 E1
      have m1 : 0 ≤ y / 8 * c := Int.mul_nonneg (by omega) (by omega)
      have m2 : y / 8 * c ≤ y / 8 * 8 := Int.mul_le_mul_of_nonneg_left c2 (by omega)
      have m3 : y / 8 * c ≤ 64 := by omega
      go_enter Try.func15, Try.ntmps15
      go_wp2_with fail
      refine (grid_at _ _ _ _ _ Q2.out E2.out).mono ?_
      rintro e w1 ⟨rfl, rfl⟩
      go_wp2
      go_ret
      exact ⟨ret_int (by rw [E3.out, Q1.out]), rfl⟩
    · have E3 := Lib.hid (tileOf_no (fun h => hx h.2))
      have E2 := Lib.hid g2
      clear g1 g2
      obtain ⟨c, q1, q2⟩ := E1.out
      have c1 : 1 ≤ c := by omega
      have c2 : c ≤ 8 := by omega
      have c0 : ((c : Int) == 0) = false := by rw [beq_eq_false_iff_ne]; omega
      have Q2 := Lib.hid q2
      clear q1 q2 E1
      go_enter Try.func15, Try.ntmps15
      go_wp2_with fail
      refine (grid_at _ _ _ _ _ Q2.out E2.out).mono ?_
      rintro e w1 ⟨rfl, rfl⟩
      go_wp2
      all_goals
        first | (exfalso; omega) | skip
        go_ret
        exact ⟨ret_int E3.out.symm, rfl⟩
  · have E3 := Lib.hid (tileOf_no (x := x) (y := y) (fun h => hs h.1))
    obtain ⟨g1, g2⟩ := grid_no hs
    have E1 := Lib.hid g1
    have E2 := Lib.hid g2
    clear g1 g2 hs
    go_enter Try.func15, Try.ntmps15
    go_wp2_with fail
    refine (grid_at _ _ _ _ _ E1.out E2.out).mono ?_
    rintro e w1 ⟨rfl, rfl⟩
    go_wp2
    go_ret
    exact ⟨ret_int E3.out.symm, rfl⟩
theorem sized_at (W H : Int) (b : Bool) (w : World) (h : szB W H = b) :
    Calls Try.prog 25 #[.int .i64 W, .int .i64 H] w fun e w' => e = .returned (.bool b) ∧ w = w' := h ▸ sized_any W H w
set_option maxHeartbeats 4000000 in
theorem rTileOf_any (W H x y : Int) (w : World) :
    Calls Try.prog 16 #[.int .i64 W, .int .i64 H, .int .i64 x, .int .i64 y] w fun e w' => e = .returned (.int .i64 (tileOfI W H x y)) ∧ w = w' := by
  by_cases hs : 1 ≤ W ∧ W ≤ 64 ∧ 1 ≤ H ∧ H ≤ 64
  · obtain ⟨g1, g2⟩ := grid_yes hs
    have HS := Lib.hid ((szB_iff ..).2 hs)
    obtain ⟨a1, a2, a3, a4⟩ := hs
    have E1 : Hid (∃ c, (W + 7) / 8 = c ∧ colsI W H = c) := ⟨_, rfl, g1⟩
    by_cases hx : 0 ≤ x ∧ x < W ∧ 0 ≤ y ∧ y < H
    · have E3 := Lib.hid (tileOf_yes ⟨⟨a1, a2, a3, a4⟩, hx⟩)
      obtain ⟨b1, b2, b3, b4⟩ := hx
      have E2 := Lib.hid g2
      clear g1 g2
      obtain ⟨c, q1, q2⟩ := E1.out
      have c1 : 1 ≤ c := by omega
      have c2 : c ≤ 8 := by omega
      have c0 : ((c : Int) == 0) = false := by rw [beq_eq_false_iff_ne]; omega
      have Q1 := Lib.hid q1
      have Q2 := Lib.hid q2
      clear q1 q2 E1
      have m1 : 0 ≤ y / 8 * c := Int.mul_nonneg (by omega) (by omega)
      have m2 : y / 8 * c ≤ y / 8 * 8 := Int.mul_le_mul_of_nonneg_left c2 (by omega)
      have m3 : y / 8 * c ≤ 64 := by omega
      go_enter Try.func16, Try.ntmps16
      go_wp2_with fail
      refine (sized_at _ _ _ _ HS.out).mono ?_
      rintro e w1 ⟨rfl, rfl⟩
      go_wp2_with fail
      refine (rGrid_at _ _ _ _ _ Q2.out E2.out).mono ?_
      rintro e w1 ⟨rfl, rfl⟩
      go_wp2
      go_ret
      exact ⟨ret_int (by rw [E3.out, Q1.out]), rfl⟩
    · have E3 := Lib.hid (tileOf_no (fun h => hx h.2))
      clear g1 g2 E1
      go_enter Try.func16, Try.ntmps16
      go_wp2_with fail
      refine (sized_at _ _ _ _ HS.out).mono ?_
      rintro e w1 ⟨rfl, rfl⟩
      go_wp2_with fail
      all_goals
        first | (exfalso; omega) | skip
        go_ret
        exact ⟨ret_int E3.out.symm, rfl⟩
  · have E3 := Lib.hid (tileOf_no (x := x) (y := y) (fun h => hs h.1))
    have HS := Lib.hid (szB_no hs)
    clear hs
    go_enter Try.func16, Try.ntmps16
    go_wp2_with fail
    refine (sized_at _ _ _ _ HS.out).mono ?_
    rintro e w1 ⟨rfl, rfl⟩
    go_wp2
    go_ret
    exact ⟨ret_int E3.out.symm, rfl⟩
set_option maxHeartbeats 4000000 in
theorem example_true (w : World) :
    Calls Try.prog 17 #[] w fun e w' => e = .returned (.bool true) ∧ Below w.heap.size w w' := by
  have E1 : Hid (rectV 20 9 2 = .tuple #[.int .i64 16, .int .i64 0, .int .i64 4, .int .i64 8]) := Lib.hid (by unfold rectV; rw [show rectX 20 9 2 = 16 by decide, show rectY 20 9 2 = 0 by decide, show rectW 20 9 2 = 4 by decide, show rectH 20 9 2 = 8 by decide])
  go_enter Try.func17, Try.ntmps17
  go_wp2_with fail
  refine (grid_at _ _ 3 2 _ (by decide) (by decide)).mono ?_
  rintro e w1 ⟨rfl, rfl⟩
  go_wp2_with fail
  refine (tileRect_any _ _ _ _).mono ?_
  rintro e w1 ⟨rfl, hb⟩
  rw [E1.out]
  go_wp2
  go_ret
  exact ⟨rfl, hb⟩
end Go.Proofs.Ytimgjlogbkgiaaa
