/- edge.Covers reports whether a triangle covers a point: for any triangle and point, in any world. -/
import Derived.Test.YtgalpmiojgjkhaaValid
import Derived.Test.YtgalpmiojgjkhaaEAcc
namespace Go.Proofs.Ytgalpmiojgjkhaa
open Go.RowKit
theorem accepts_at (ax ay bx by' px py : Int) (w : World) (v : Bool) (h : accB ax ay bx by' px py = v) :
    Calls Try.prog 36 #[.int .i64 ax, .int .i64 ay, .int .i64 bx, .int .i64 by', .int .i64 px, .int .i64 py] w fun e w' => e = .returned (.bool v) ∧ w = w' := h ▸ accepts_any _ _ _ _ _ _ _
set_option maxHeartbeats 4000000 in
theorem covers_no (x0 y0 z0 u0 x1 y1 z1 u1 x2 y2 z2 u2 : Int) (A0 A1 A2 : Option Addr) (n0 c0 n1 c1 n2 c2 : Nat) (pr : Int) (fr : Bool) (px py : Int) (w : World) (h : validB x0 y0 x1 y1 x2 y2 = false) :
    Calls Try.prog 27 #[.agg #[.int .i64 x0, .int .i64 y0, .int .i64 z0, .int .i64 u0, .slice A0 n0 c0, .int .i64 x1, .int .i64 y1, .int .i64 z1, .int .i64 u1, .slice A1 n1 c1, .int .i64 x2, .int .i64 y2, .int .i64 z2, .int .i64 u2, .slice A2 n2 c2, .int .i64 pr, .bool fr], .int .i64 px, .int .i64 py] w fun e w' => e = .returned (.bool (covB x0 y0 x1 y1 x2 y2 px py)) ∧ Below w.heap.size w w' := by
  have H := Lib.hid h
  have HF : Hid (covB x0 y0 x1 y1 x2 y2 px py = false) := Lib.hid (by unfold covB; rw [h]; rfl)
  clear h
  have hBw := Lib.hid (Below.refl w.heap.size w)
  have hg0 := Lib.hid (Blk.new w 27 #[.int .i64 x0, .int .i64 y0, .int .i64 z0, .int .i64 u0, .slice A0 n0 c0, .int .i64 x1, .int .i64 y1, .int .i64 z1, .int .i64 u1, .slice A1 n1 c1, .int .i64 x2, .int .i64 y2, .int .i64 z2, .int .i64 u2, .slice A2 n2 c2, .int .i64 pr, .bool fr])
  go_enter Try.func27, Try.ntmps27
  go_wp2_with (refine wpList_load_row rfl 27 _ rfl _ rfl _ _ _ _ hg0.out Try.underlying27 rfl triInfo ?_)
  refine (valid_at _ _ _ _ _ _ _ _ _ _ _ _ _ _ _ _ _ _ _ _ _ _ _ _ _ H.out).mono ?_
  rintro e w1 ⟨rfl, hb⟩
  have hB1 := Lib.hid (below_box hb)
  clear hb hBw
  go_wp2
  go_ret
  exact ⟨ret_bool (by rw [HF.out] <;> rfl), hB1.out⟩
set_option maxHeartbeats 16000000 in
theorem covers_yes (x0 y0 z0 u0 x1 y1 z1 u1 x2 y2 z2 u2 : Int) (A0 A1 A2 : Option Addr) (n0 c0 n1 c1 n2 c2 : Nat) (pr : Int) (fr : Bool) (px py : Int) (w : World) (h : validB x0 y0 x1 y1 x2 y2 = true) (b0 b1 b2 : Bool) (h0 : accB x0 y0 x1 y1 px py = b0) (h1 : accB x1 y1 x2 y2 px py = b1) (h2 : accB x2 y2 x0 y0 px py = b2) :
    Calls Try.prog 27 #[.agg #[.int .i64 x0, .int .i64 y0, .int .i64 z0, .int .i64 u0, .slice A0 n0 c0, .int .i64 x1, .int .i64 y1, .int .i64 z1, .int .i64 u1, .slice A1 n1 c1, .int .i64 x2, .int .i64 y2, .int .i64 z2, .int .i64 u2, .slice A2 n2 c2, .int .i64 pr, .bool fr], .int .i64 px, .int .i64 py] w fun e w' => e = .returned (.bool (b0 && b1 && b2)) ∧ Below w.heap.size w w' := by
  have H := Lib.hid h
  have H0 := Lib.hid h0
  have H1 := Lib.hid h1
  have H2 := Lib.hid h2
  clear h h0 h1 h2
  have hg0 := Lib.hid (Blk.new w 27 #[.int .i64 x0, .int .i64 y0, .int .i64 z0, .int .i64 u0, .slice A0 n0 c0, .int .i64 x1, .int .i64 y1, .int .i64 z1, .int .i64 u1, .slice A1 n1 c1, .int .i64 x2, .int .i64 y2, .int .i64 z2, .int .i64 u2, .slice A2 n2 c2, .int .i64 pr, .bool fr])
  go_enter Try.func27, Try.ntmps27
  go_wp2_with (refine wpList_load_row rfl 27 _ rfl _ rfl _ _ _ _ hg0.out Try.underlying27 rfl triInfo ?_)
  refine (valid_at _ _ _ _ _ _ _ _ _ _ _ _ _ _ _ _ _ _ _ _ _ _ _ _ _ H.out).mono ?_
  rintro e w1 ⟨rfl, hb⟩
  have hk := Lib.hid (hg0.out.call hb)
  have hB := Lib.hid (below_box hb)
  clear hb hg0
  go_wp2_with fail
  refine wp_loop_rounds 4 ?_
  rw [rounds_succ]
  go_upto_region 6 with fail
  go_cut [8, 9] (fun p q W => ∃ i j : Nat, p = .pointer (some ⟨i, 0, none⟩) ∧ q = .pointer (some ⟨j, 0, none⟩) ∧ W.cell? ⟨i, 0, none⟩ = some (.int .i64 x0) ∧ W.cell? ⟨i, 1, none⟩ = some (.int .i64 y0) ∧ W.cell? ⟨j, 0, none⟩ = some (.int .i64 x1) ∧ W.cell? ⟨j, 1, none⟩ = some (.int .i64 y1) ∧ Blk W w.heap.size 27 #[.int .i64 x0, .int .i64 y0, .int .i64 z0, .int .i64 u0, .slice A0 n0 c0, .int .i64 x1, .int .i64 y1, .int .i64 z1, .int .i64 u1, .slice A1 n1 c1, .int .i64 x2, .int .i64 y2, .int .i64 z2, .int .i64 u2, .slice A2 n2 c2, .int .i64 pr, .bool fr] ∧ Below w.heap.size w W)
  case first =>
    have hS := hk.out.cell
    have hk0 := hk.out
    have hz := hk.out.lt
    have hB0 := hB.out
    have hw0 : IntKind.i64.wrap 0 = 0 := by decide
    have hw1 : IntKind.i64.wrap 1 = 1 := by decide
    have hw2 : IntKind.i64.wrap 2 = 2 := by decide
    have hw3 : IntKind.i64.wrap 3 = 3 := by decide
    have hw4 : IntKind.i64.wrap 4 = 4 := by decide
    go_region_held3 (fun W => ∀ o, W.cell? ⟨w.heap.size, o, none⟩ = #[.int .i64 x0, .int .i64 y0, .int .i64 z0, .int .i64 u0, .slice A0 n0 c0, .int .i64 x1, .int .i64 y1, .int .i64 z1, .int .i64 u1, .slice A1 n1 c1, .int .i64 x2, .int .i64 y2, .int .i64 z2, .int .i64 u2, .slice A2 n2 c2, .int .i64 pr, .bool fr][o]?) (exact Blk.cell (by repeat (first | assumption | apply Blk.drew | apply Blk.alloc))) (fail)
    all_goals
      go_wp2_with fail
      go_meet
      case rel =>
        refine ⟨_, _, rfl, rfl, ?_, ?_, ?_, ?_, ?_, ?_⟩
        all_goals first | ((repeat (first | assumption | apply Blk.drew | apply Blk.alloc)); done) | (go_grown; done) | (simp [go_sem]; done)
  obtain ⟨i, j, rfl, rfl, k1, k2, k3, k4, k5, k6⟩ := hcut
  have hk := Lib.hid k5
  have hB := Lib.hid k6
  clear k5 k6
  go_wp2_with fail
  refine (accepts_at _ _ _ _ _ _ _ _ H0.out).mono ?_
  rintro e w2 ⟨rfl, rfl⟩
  cases b0
  · go_wp2
    go_ret
    exact ⟨rfl, hB.out⟩
  go_wp2_with fail
  rw [rounds_succ]
  go_upto_region 6 with fail
  go_cut [8, 9] (fun p q W => ∃ i j : Nat, p = .pointer (some ⟨i, 0, none⟩) ∧ q = .pointer (some ⟨j, 0, none⟩) ∧ W.cell? ⟨i, 0, none⟩ = some (.int .i64 x1) ∧ W.cell? ⟨i, 1, none⟩ = some (.int .i64 y1) ∧ W.cell? ⟨j, 0, none⟩ = some (.int .i64 x2) ∧ W.cell? ⟨j, 1, none⟩ = some (.int .i64 y2) ∧ Blk W w.heap.size 27 #[.int .i64 x0, .int .i64 y0, .int .i64 z0, .int .i64 u0, .slice A0 n0 c0, .int .i64 x1, .int .i64 y1, .int .i64 z1, .int .i64 u1, .slice A1 n1 c1, .int .i64 x2, .int .i64 y2, .int .i64 z2, .int .i64 u2, .slice A2 n2 c2, .int .i64 pr, .bool fr] ∧ Below w.heap.size w W)
  case first =>
    have hS := hk.out.cell
    have hk0 := hk.out
    have hz := hk.out.lt
    have hB0 := hB.out
    have hw0 : IntKind.i64.wrap 0 = 0 := by decide
    have hw1 : IntKind.i64.wrap 1 = 1 := by decide
    have hw2 : IntKind.i64.wrap 2 = 2 := by decide
    have hw3 : IntKind.i64.wrap 3 = 3 := by decide
    have hw4 : IntKind.i64.wrap 4 = 4 := by decide
    go_region_held3 (fun W => ∀ o, W.cell? ⟨w.heap.size, o, none⟩ = #[.int .i64 x0, .int .i64 y0, .int .i64 z0, .int .i64 u0, .slice A0 n0 c0, .int .i64 x1, .int .i64 y1, .int .i64 z1, .int .i64 u1, .slice A1 n1 c1, .int .i64 x2, .int .i64 y2, .int .i64 z2, .int .i64 u2, .slice A2 n2 c2, .int .i64 pr, .bool fr][o]?) (exact Blk.cell (by repeat (first | assumption | apply Blk.drew | apply Blk.alloc))) (fail)
    all_goals
      go_wp2_with fail
      go_meet
      case rel =>
        refine ⟨_, _, rfl, rfl, ?_, ?_, ?_, ?_, ?_, ?_⟩
        all_goals first | ((repeat (first | assumption | apply Blk.drew | apply Blk.alloc)); done) | (go_grown; done) | (simp [go_sem]; done)
  obtain ⟨i, j, rfl, rfl, k1, k2, k3, k4, k5, k6⟩ := hcut
  have hk := Lib.hid k5
  have hB := Lib.hid k6
  clear k5 k6
  go_wp2_with fail
  refine (accepts_at _ _ _ _ _ _ _ _ H1.out).mono ?_
  rintro e w2 ⟨rfl, rfl⟩
  cases b1
  · go_wp2
    go_ret
    exact ⟨rfl, hB.out⟩
  go_wp2_with fail
  rw [rounds_succ]
  go_upto_region 6 with fail
  go_cut [8, 9] (fun p q W => ∃ i j : Nat, p = .pointer (some ⟨i, 0, none⟩) ∧ q = .pointer (some ⟨j, 0, none⟩) ∧ W.cell? ⟨i, 0, none⟩ = some (.int .i64 x2) ∧ W.cell? ⟨i, 1, none⟩ = some (.int .i64 y2) ∧ W.cell? ⟨j, 0, none⟩ = some (.int .i64 x0) ∧ W.cell? ⟨j, 1, none⟩ = some (.int .i64 y0) ∧ Blk W w.heap.size 27 #[.int .i64 x0, .int .i64 y0, .int .i64 z0, .int .i64 u0, .slice A0 n0 c0, .int .i64 x1, .int .i64 y1, .int .i64 z1, .int .i64 u1, .slice A1 n1 c1, .int .i64 x2, .int .i64 y2, .int .i64 z2, .int .i64 u2, .slice A2 n2 c2, .int .i64 pr, .bool fr] ∧ Below w.heap.size w W)
  case first =>
    have hS := hk.out.cell
    have hk0 := hk.out
    have hz := hk.out.lt
    have hB0 := hB.out
    have hw0 : IntKind.i64.wrap 0 = 0 := by decide
    have hw1 : IntKind.i64.wrap 1 = 1 := by decide
    have hw2 : IntKind.i64.wrap 2 = 2 := by decide
    have hw3 : IntKind.i64.wrap 3 = 3 := by decide
    have hw4 : IntKind.i64.wrap 4 = 4 := by decide
    go_region_held3 (fun W => ∀ o, W.cell? ⟨w.heap.size, o, none⟩ = #[.int .i64 x0, .int .i64 y0, .int .i64 z0, .int .i64 u0, .slice A0 n0 c0, .int .i64 x1, .int .i64 y1, .int .i64 z1, .int .i64 u1, .slice A1 n1 c1, .int .i64 x2, .int .i64 y2, .int .i64 z2, .int .i64 u2, .slice A2 n2 c2, .int .i64 pr, .bool fr][o]?) (exact Blk.cell (by repeat (first | assumption | apply Blk.drew | apply Blk.alloc))) (fail)
    all_goals
      go_wp2_with fail
      go_meet
      case rel =>
        refine ⟨_, _, rfl, rfl, ?_, ?_, ?_, ?_, ?_, ?_⟩
        all_goals first | ((repeat (first | assumption | apply Blk.drew | apply Blk.alloc)); done) | (go_grown; done) | (simp [go_sem]; done)
  obtain ⟨i, j, rfl, rfl, k1, k2, k3, k4, k5, k6⟩ := hcut
  have hk := Lib.hid k5
  have hB := Lib.hid k6
  clear k5 k6
  go_wp2_with fail
  refine (accepts_at _ _ _ _ _ _ _ _ H2.out).mono ?_
  rintro e w2 ⟨rfl, rfl⟩
  cases b2
  · go_wp2
    go_ret
    exact ⟨rfl, hB.out⟩
  go_wp2_with fail
  rw [rounds_succ]
  go_wp2
  go_ret
  exact ⟨rfl, hB.out⟩
end Go.Proofs.Ytgalpmiojgjkhaa
