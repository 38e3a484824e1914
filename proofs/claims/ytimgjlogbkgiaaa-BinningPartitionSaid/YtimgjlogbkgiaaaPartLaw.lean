/- The walk of the law BinningPartition: true for all sizes and pixels. -/
import Derived.Test.YtimgjlogbkgiaaaTiles
namespace Go.Proofs.Ytimgjlogbkgiaaa
open Go.RowKit
theorem tile_inside {W H x y k : Int} (hp : (1 ≤ W ∧ W ≤ 64 ∧ 1 ≤ H ∧ H ≤ 64) ∧ 0 ≤ x ∧ x < W ∧ 0 ≤ y ∧ y < H) (hk : 0 ≤ k ∧ k < tilesI W H) :
    (rectX W H k ≤ x ∧ x < rectX W H k + rectW W H k ∧ rectY W H k ≤ y ∧ y < rectY W H k + rectH W H k) ↔ k = tileOfI W H x y := by
  obtain ⟨r1, r2, r3, r4⟩ := rect_yes hk
  obtain ⟨c, r, e1, e2, a1, a2, a3, a4, hc, hr, a5, a6, a7, a8, a9, a10, a11, a12, a13, a14, a15, a16, a17⟩ := tile_facts hk
  rw [r1, r2, r3, r4, tileOf_yes hp, e1, ← hc]
  have hkk := Int.ediv_mul_add_emod k c
  obtain ⟨_, b1, b2, b3, b4⟩ := hp
  constructor
  · rintro ⟨h1, h2, h3, h4⟩
    have q1 : x / 8 = k % c := by omega
    have q2 : y / 8 = k / c := by omega
    rw [q1, q2]; omega
  · intro h
    have hx : x / 8 < c := by omega
    have q1 : k % c = x / 8 := by
      rw [h, Int.add_comm, Int.add_mul_emod_self_right]
      exact Int.emod_eq_of_lt (by omega) hx
    have q2 : k / c = y / 8 := by
      rw [h, Int.add_comm, Int.add_mul_ediv_right _ _ (by omega), Int.ediv_eq_zero_of_lt (by omega) hx]
      omega
    rw [q1, q2]
    omega
theorem rect_bd (W H k : Int) : 0 ≤ rectX W H k ∧ rectX W H k ≤ 56 ∧ 0 ≤ rectY W H k ∧ rectY W H k ≤ 56 ∧ -64 ≤ rectW W H k ∧ rectW W H k ≤ 8 ∧ -64 ≤ rectH W H k ∧ rectH W H k ≤ 8 := by
  by_cases hk : 0 ≤ k ∧ k < tilesI W H
  · obtain ⟨r1, r2, r3, r4⟩ := rect_yes hk
    obtain ⟨c, r, e1, e2, a1, a2, a3, a4, hc, hr, a5, a6, a7, a8, a9, a10, a11, a12, a13, a14, a15, a16, a17⟩ := tile_facts hk
    rw [r1, r2, r3, r4, e1]
    omega
  · obtain ⟨r1, r2, r3, r4⟩ := rect_no hk
    rw [r1, r2, r3, r4]
    omega
theorem tiles_pos {W H : Int} (h : 1 ≤ W ∧ W ≤ 64 ∧ 1 ≤ H ∧ H ≤ 64) : 1 ≤ tilesI W H := by
  unfold tilesI
  rw [(grid_yes h).1, (grid_yes h).2]
  have := Int.mul_pos (show 0 < (W + 7) / 8 by omega) (show 0 < (H + 7) / 8 by omega)
  omega
theorem tiles_zero {W H : Int} (h : ¬ (1 ≤ W ∧ W ≤ 64 ∧ 1 ≤ H ∧ H ≤ 64)) : tilesI W H = 0 := by
  unfold tilesI
  rw [(grid_no h).1, (grid_no h).2]
  rfl
theorem tileOf_at (W H x y n : Int) (w : World) (h : tileOfI W H x y = n) :
    Calls Try.prog 15 #[.int .i64 W, .int .i64 H, .int .i64 x, .int .i64 y] w fun e w' => e = .returned (.int .i64 n) ∧ w = w' := h ▸ tileOf_any W H x y w
theorem tiles_at (W H n : Int) (w : World) (h : tilesI W H = n) :
    Calls Try.prog 13 #[.int .i64 W, .int .i64 H] w fun e w' => e = .returned (.int .i64 n) ∧ w = w' := h ▸ tiles_any W H w

set_option maxRecDepth 100000 in
set_option maxHeartbeats 4000000 in
theorem part_no (W H x y n : Int) (w : World) (hn : tilesI W H = n) (ho : tileOfI W H x y = -1) (h : n < 1 ∨ (0 < n ∧ x < 0) ∨ (0 < n ∧ 0 ≤ x ∧ W ≤ x) ∨ (0 < n ∧ 0 ≤ x ∧ x < W ∧ y < 0) ∨ (0 < n ∧ 0 ≤ x ∧ x < W ∧ 0 ≤ y ∧ H ≤ y)) :
    Calls Try.prog 4 #[.agg #[.int .i64 W, .int .i64 H], .agg #[.int .i64 x, .int .i64 y]] w fun e w' => e = .returned (.bool true) ∧ Below w.heap.size w w' := by
  have E1 := Lib.hid hn
  have E2 := Lib.hid ho
  clear hn ho
  have hd : Hid (H ≤ y → decide (y < H) = false) := fun h => by simp; omega
  rcases h with h | ⟨h1, h2⟩ | ⟨h1, h2, h3⟩ | ⟨h1, h2, h3, h4⟩ | ⟨h1, h2, h3, h4, h5⟩
  case' inr.inr.inr.inr => have hd' := hd.out h5
  all_goals
    clear hd
    go_enter Try.func4, Try.ntmps4
    go_wp2_with fail
    refine (tileOf_at _ _ _ _ _ _ E2.out).mono ?_
    rintro e w1 ⟨rfl, rfl⟩
    go_wp2_with fail
    refine (tiles_at _ _ _ _ E1.out).mono ?_
    rintro e w1 ⟨rfl, rfl⟩
    go_wp2_with fail
    refine (example_true _).mono ?_
    rintro e w4 ⟨rfl, hb⟩
    have hB : Hid (Below w.heap.size w w4) := Lib.hid (below_box2 hb)
    clear hb
    go_wp2
    go_ret
    exact ⟨rfl, hB.out⟩
set_option maxRecDepth 100000 in
set_option maxHeartbeats 8000000 in
theorem part_yes (W H x y n own : Int) (w : World) (hp : (1 ≤ W ∧ W ≤ 64 ∧ 1 ≤ H ∧ H ≤ 64) ∧ 0 ≤ x ∧ x < W ∧ 0 ≤ y ∧ y < H) (hn : tilesI W H = n) (hn1 : 1 ≤ n) (hn2 : n ≤ 64) (ho : tileOfI W H x y = own) :
    Calls Try.prog 4 #[.agg #[.int .i64 W, .int .i64 H], .agg #[.int .i64 x, .int .i64 y]] w fun e w' => e = .returned (.bool true) ∧ Below w.heap.size w w' := by
  have HP := Lib.hid hp
  have E1 := Lib.hid hn
  have E2 := Lib.hid ho
  obtain ⟨-, b1, b2, b3, b4⟩ := hp
  clear hn ho
  go_enter Try.func4, Try.ntmps4
  go_wp2_with fail
  refine (tileOf_at _ _ _ _ _ _ E2.out).mono ?_
  rintro e w1 ⟨rfl, rfl⟩
  go_wp2_with fail
  refine (tiles_at _ _ _ _ E1.out).mono ?_
  rintro e w1 ⟨rfl, rfl⟩
  go_wp2_with fail
  go_loopw [7] (fun i wr => ∃ k : Nat, (k : Int) ≤ n ∧ i = .int .i64 k ∧ w.heap.size + 2 ≤ wr.heap.size ∧ (∀ b o, b < w.heap.size + 2 → wr.cell? ⟨b, o, none⟩ = ((w.alloc (.cells #[.int .i64 W, .int .i64 H] 22)).alloc (.cells #[.int .i64 x, .int .i64 y] 22)).cell? ⟨b, o, none⟩) ∧ Below w.heap.size w wr)
    (fun i _ => n.toNat - (intOf i).toNat)
  case atStart => exact ⟨0, by omega, rfl, by simp, fun _ _ _ => rfl, by go_grown⟩
  case round =>
    obtain ⟨k, hk, rfl, hz, hc, hB⟩ := hrel
    have HB := Lib.hid hB
    clear hB
    go_wp2_with fail
    refine (tiles_at _ _ _ _ E1.out).mono ?_
    rintro e w1 ⟨rfl, rfl⟩
    by_cases hlt : (k : Int) < n
    · obtain ⟨c1, c2, c3, c4, c5, c6, c7, c8⟩ := rect_bd W H k
      have hin := tile_inside HP.out (k := (k : Int)) ⟨by omega, by rw [E1.out]; exact hlt⟩
      rw [E2.out] at hin
      have hR : Hid (rectV W H k = .tuple #[.int .i64 (rectX W H k), .int .i64 (rectY W H k), .int .i64 (rectW W H k), .int .i64 (rectH W H k)]) := Lib.hid rfl
      generalize rectX W H k = rx at *
      generalize rectY W H k = ry at *
      generalize rectW W H k = rw' at *
      generalize rectH W H k = rh at *
      go_wp2_with fail
      refine (tileRect_any _ _ _ _).mono ?_
      rintro e w2 ⟨rfl, hb⟩
      rw [hR.out]
      have hz2 : w.heap.size + 2 ≤ w2.heap.size := Nat.le_trans hz hb.size
      have hc2 : ∀ b o, b < w.heap.size + 2 → w2.cell? ⟨b, o, none⟩ = ((w.alloc (.cells #[.int .i64 W, .int .i64 H] 22)).alloc (.cells #[.int .i64 x, .int .i64 y] 22)).cell? ⟨b, o, none⟩ :=
        fun b o h => (hb.cell (p := ⟨b, o, none⟩) (by show b < wr.heap.size; omega)).trans (hc b o h)
      have HB2 : Hid (Below w.heap.size w w2) := Lib.hid (below_on HB.out hb)
      clear hc hb HB hz
      by_cases hi : rx ≤ x ∧ x < rx + rw' ∧ ry ≤ y ∧ y < ry + rh
      · have he : (((k : Int)) == own) = true := beq_iff_eq.2 (hin.1 hi)
        obtain ⟨i1, i2, i3, i4⟩ := hi
        clear hin
        go_wp2
        go_roundw
        case rel => exact ⟨k + 1, by omega, by go_num, hz2, hc2, HB2.out⟩
        case measure => simp [intOf]; omega
      · have he : (((k : Int)) == own) = false := beq_eq_false_iff_ne.2 (fun e => hi (hin.2 e))
        have hi' : x < rx ∨ (rx ≤ x ∧ rx + rw' ≤ x) ∨ (rx ≤ x ∧ x < rx + rw' ∧ y < ry) ∨ (rx ≤ x ∧ x < rx + rw' ∧ ry ≤ y ∧ ry + rh ≤ y) := by omega
        clear hin hi
        rcases hi' with i1 | ⟨i1, i2⟩ | ⟨i1, i2, i3⟩ | ⟨i1, i2, i3, i4⟩
        all_goals
          go_wp2
          go_roundw
          case rel => exact ⟨k + 1, by omega, by go_num, hz2, hc2, HB2.out⟩
          case measure => simp [intOf]; omega
    · go_wp2_with fail
      refine (example_true _).mono ?_
      rintro e w4 ⟨rfl, hb⟩
      have hB : Hid (Below w.heap.size w w4) := Lib.hid (below_on HB.out hb)
      clear hb HB
      go_wp2
      go_ret
      exact ⟨rfl, hB.out⟩
theorem law_binningPartition (W H x y : Int) (w : World) :
    Calls Try.prog 4 #[.agg #[.int .i64 W, .int .i64 H], .agg #[.int .i64 x, .int .i64 y]] w fun e w' => e = .returned (.bool true) ∧ Below w.heap.size w w' := by
  by_cases hp : (1 ≤ W ∧ W ≤ 64 ∧ 1 ≤ H ∧ H ≤ 64) ∧ 0 ≤ x ∧ x < W ∧ 0 ≤ y ∧ y < H
  · exact part_yes W H x y _ _ w hp rfl (tiles_pos hp.1) (tiles_bd W H).2 rfl
  · refine part_no W H x y _ w rfl (tileOf_no hp) ?_
    by_cases hs : 1 ≤ W ∧ W ≤ 64 ∧ 1 ≤ H ∧ H ≤ 64
    · have := tiles_pos hs
      omega
    · rw [tiles_zero hs]; omega
end Go.Proofs.Ytimgjlogbkgiaaa
