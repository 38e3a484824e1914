/- edge.Weights returns the three edge functions of a valid triangle at a point, and their sum; zeros for another one: in any world. -/
import Derived.Test.YthbagegkcpblgaaValid
import Derived.Test.YthbagegkcpblgaaEFn
namespace Go.Proofs.Ythbagegkcpblgaa
open Go.RowKit
/-- The weight of a vertex: the edge function of the opposite edge; 0 in a triangle that is not valid. -/
def wtI (v : Bool) (ax ay bx by' px py : Int) : Int := if v = true then efI ax ay bx by' px py else 0
theorem wtI_bound (v : Bool) (ax ay bx by' px py : Int) : -536870912 ≤ wtI v ax ay bx by' px py ∧ wtI v ax ay bx by' px py ≤ 536870912 := by
  unfold wtI
  split
  · exact efI_bound ..
  · omega
theorem function_at (ax ay bx by' px py : Int) (w : World) (v : Int) (h : efI ax ay bx by' px py = v) :
    Calls Try.prog 62 #[.int .i64 ax, .int .i64 ay, .int .i64 bx, .int .i64 by', .int .i64 px, .int .i64 py] w fun e w' => e = .returned (.int .i64 v) ∧ w = w' := h ▸ function_any _ _ _ _ _ _ _
theorem i3Info : (Try.prog.info? 36).map (·.size) = some 3 := by kernel_rfl
set_option maxHeartbeats 4000000 in
theorem weights_no (x0 y0 z0 u0 x1 y1 z1 u1 x2 y2 z2 u2 : Int) (A0 A1 A2 : Option Addr) (n0 c0 n1 c1 n2 c2 : Nat) (pr : Int) (fr : Bool) (px py : Int) (w : World) (h : validB x0 y0 x1 y1 x2 y2 = false) :
    Calls Try.prog 54 #[.agg #[.int .i64 x0, .int .i64 y0, .int .i64 z0, .int .i64 u0, .slice A0 n0 c0, .int .i64 x1, .int .i64 y1, .int .i64 z1, .int .i64 u1, .slice A1 n1 c1, .int .i64 x2, .int .i64 y2, .int .i64 z2, .int .i64 u2, .slice A2 n2 c2, .int .i64 pr, .bool fr], .int .i64 px, .int .i64 py] w fun e w' => e = .returned (.tuple #[.agg #[.int .i64 0, .int .i64 0, .int .i64 0], .int .i64 0]) ∧ Below w.heap.size w w' := by
  have H := Lib.hid h
  clear h
  have hg0 := Lib.hid ((Blk.new w 27 #[.int .i64 x0, .int .i64 y0, .int .i64 z0, .int .i64 u0, .slice A0 n0 c0, .int .i64 x1, .int .i64 y1, .int .i64 z1, .int .i64 u1, .slice A1 n1 c1, .int .i64 x2, .int .i64 y2, .int .i64 z2, .int .i64 u2, .slice A2 n2 c2, .int .i64 pr, .bool fr]).alloc (.cells #[.int .i64 0, .int .i64 0, .int .i64 0] 36))
  go_enter Try.func54, Try.ntmps54
  go_wp2_with (refine wpList_load_row rfl 27 _ rfl _ rfl _ _ _ _ hg0.out Try.underlying27 rfl triInfo ?_)
  refine (valid_at _ _ _ _ _ _ _ _ _ _ _ _ _ _ _ _ _ _ _ _ _ _ _ _ _ H.out).mono ?_
  rintro e w1 ⟨rfl, hb⟩
  have hr := Lib.hid ((Blk.new1 w 36 #[.int .i64 0, .int .i64 0, .int .i64 0] (.cells #[.int .i64 x0, .int .i64 y0, .int .i64 z0, .int .i64 u0, .slice A0 n0 c0, .int .i64 x1, .int .i64 y1, .int .i64 z1, .int .i64 u1, .slice A1 n1 c1, .int .i64 x2, .int .i64 y2, .int .i64 z2, .int .i64 u2, .slice A2 n2 c2, .int .i64 pr, .bool fr] 27)).call hb)
  have hB := Lib.hid (below_box2 hb)
  clear hb hg0
  have hcr := hr.out.cell
  have hfr := hr.out.frozen
  go_wp2
  refine bodyPost_ret (results_row_tmp rfl _ _ (w.heap.size + 1) _ #[.int .i64 0, .int .i64 0, .int .i64 0] _ _ rfl (((hr.out.set_ 0 (.int .i64 0)).set_ 1 (.int .i64 0)).set_ 2 (.int .i64 0)) Try.underlying36 rfl i3Info) rfl ?_
  exact ⟨rfl, ((hB.out.setCell (p := ⟨w.heap.size + 1, 0, none⟩) (by simp) _).setCell (p := ⟨w.heap.size + 1, 1, none⟩) (by simp) _).setCell (p := ⟨w.heap.size + 1, 2, none⟩) (by simp) _⟩
set_option maxHeartbeats 16000000 in
theorem weights_yes (x0 y0 z0 u0 x1 y1 z1 u1 x2 y2 z2 u2 : Int) (A0 A1 A2 : Option Addr) (n0 c0 n1 c1 n2 c2 : Nat) (pr : Int) (fr : Bool) (px py : Int) (w : World) (h : validB x0 y0 x1 y1 x2 y2 = true) (e0 e1 e2 : Int) (h0 : efI x1 y1 x2 y2 px py = e0) (h1 : efI x2 y2 x0 y0 px py = e1) (h2 : efI x0 y0 x1 y1 px py = e2) :
    Calls Try.prog 54 #[.agg #[.int .i64 x0, .int .i64 y0, .int .i64 z0, .int .i64 u0, .slice A0 n0 c0, .int .i64 x1, .int .i64 y1, .int .i64 z1, .int .i64 u1, .slice A1 n1 c1, .int .i64 x2, .int .i64 y2, .int .i64 z2, .int .i64 u2, .slice A2 n2 c2, .int .i64 pr, .bool fr], .int .i64 px, .int .i64 py] w fun e w' => e = .returned (.tuple #[.agg #[.int .i64 e0, .int .i64 e1, .int .i64 e2], .int .i64 (e0 + e1 + e2)]) ∧ Below w.heap.size w w' := by
  have H := Lib.hid h
  have H0 := Lib.hid h0
  have H1 := Lib.hid h1
  have H2 := Lib.hid h2
  obtain ⟨q1, q2⟩ := efI_bound x1 y1 x2 y2 px py
  obtain ⟨q3, q4⟩ := efI_bound x2 y2 x0 y0 px py
  obtain ⟨q5, q6⟩ := efI_bound x0 y0 x1 y1 px py
  rw [h0] at q1 q2
  rw [h1] at q3 q4
  rw [h2] at q5 q6
  clear h h0 h1 h2
  have hg0 := Lib.hid ((Blk.new w 27 #[.int .i64 x0, .int .i64 y0, .int .i64 z0, .int .i64 u0, .slice A0 n0 c0, .int .i64 x1, .int .i64 y1, .int .i64 z1, .int .i64 u1, .slice A1 n1 c1, .int .i64 x2, .int .i64 y2, .int .i64 z2, .int .i64 u2, .slice A2 n2 c2, .int .i64 pr, .bool fr]).alloc (.cells #[.int .i64 0, .int .i64 0, .int .i64 0] 36))
  go_enter Try.func54, Try.ntmps54
  go_wp2_with (refine wpList_load_row rfl 27 _ rfl _ rfl _ _ _ _ hg0.out Try.underlying27 rfl triInfo ?_)
  refine (valid_at _ _ _ _ _ _ _ _ _ _ _ _ _ _ _ _ _ _ _ _ _ _ _ _ _ H.out).mono ?_
  rintro e w1 ⟨rfl, hb⟩
  have hz : w.heap.size + 1 < w1.heap.size := by (have hq := hb.size; (try simp at hq); omega)
  have hk : Hid (Blk (w1.alloc (.cells #[.int .i64 0, .int .i64 0, .int .i64 0] 36)) w.heap.size 27 #[.int .i64 x0, .int .i64 y0, .int .i64 z0, .int .i64 u0, .slice A0 n0 c0, .int .i64 x1, .int .i64 y1, .int .i64 z1, .int .i64 u1, .slice A1 n1 c1, .int .i64 x2, .int .i64 y2, .int .i64 z2, .int .i64 u2, .slice A2 n2 c2, .int .i64 pr, .bool fr]) := Lib.hid ((hg0.out.call hb).alloc _)
  have hr : Hid (Blk (w1.alloc (.cells #[.int .i64 0, .int .i64 0, .int .i64 0] 36)) (w.heap.size + 1) 36 #[.int .i64 0, .int .i64 0, .int .i64 0]) := Lib.hid (((Blk.new1 w 36 #[.int .i64 0, .int .i64 0, .int .i64 0] (.cells #[.int .i64 x0, .int .i64 y0, .int .i64 z0, .int .i64 u0, .slice A0 n0 c0, .int .i64 x1, .int .i64 y1, .int .i64 z1, .int .i64 u1, .slice A1 n1 c1, .int .i64 x2, .int .i64 y2, .int .i64 z2, .int .i64 u2, .slice A2 n2 c2, .int .i64 pr, .bool fr] 27)).call hb).alloc _)
  have hg : Hid (Blk (w1.alloc (.cells #[.int .i64 0, .int .i64 0, .int .i64 0] 36)) w1.heap.size 36 #[.int .i64 0, .int .i64 0, .int .i64 0]) := Lib.hid (Blk.new w1 _ _)
  have hB : Hid (Below w.heap.size w (w1.alloc (.cells #[.int .i64 0, .int .i64 0, .int .i64 0] 36))) := Lib.hid ((below_box2 hb).alloc (by omega) _)
  clear hb hg0
  obtain ⟨g, hgg⟩ : ∃ g, w1.heap.size = g := ⟨_, rfl⟩
  go_wp2_with fail
  refine wp_loop_rounds 4 ?_
  rw [rounds_succ]
  rw [hgg] at hg hz
  generalize w1.alloc (.cells #[.int .i64 0, .int .i64 0, .int .i64 0] 36) = W0 at *
  clear hgg
  go_upto_region 7 with fail
  go_cut [10, 11] (fun p q W => ∃ i j : Nat, p = .pointer (some ⟨i, 0, none⟩) ∧ q = .pointer (some ⟨j, 0, none⟩) ∧ W.cell? ⟨i, 0, none⟩ = some (.int .i64 x1) ∧ W.cell? ⟨i, 1, none⟩ = some (.int .i64 y1) ∧ W.cell? ⟨j, 0, none⟩ = some (.int .i64 x2) ∧ W.cell? ⟨j, 1, none⟩ = some (.int .i64 y2) ∧ Blk W w.heap.size 27 #[.int .i64 x0, .int .i64 y0, .int .i64 z0, .int .i64 u0, .slice A0 n0 c0, .int .i64 x1, .int .i64 y1, .int .i64 z1, .int .i64 u1, .slice A1 n1 c1, .int .i64 x2, .int .i64 y2, .int .i64 z2, .int .i64 u2, .slice A2 n2 c2, .int .i64 pr, .bool fr] ∧ Below w.heap.size w W ∧ Blk W (w.heap.size + 1) 36 #[.int .i64 0, .int .i64 0, .int .i64 0] ∧ Blk W (g) 36 #[.int .i64 0, .int .i64 0, .int .i64 0])
  case first =>
    have hS := hk.out.cell
    have hk0 := hk.out
    have hz := hk.out.lt
    have hB0 := hB.out
    have hw0 : IntKind.i64.wrap 0 = 0 := by decide
    have hw1 : IntKind.i64.wrap 1 = 1 := by decide
    have hw2 : IntKind.i64.wrap 2 = 2 := by decide
    have hw3 : IntKind.i64.wrap 3 = 3 := by decide
    have hw4 : IntKind.i64.wrap 4 = 4 := by decide
    have hr0 := hr.out
    have hg0 := hg.out
    go_region_held3 (fun W => ∀ o, W.cell? ⟨w.heap.size, o, none⟩ = #[.int .i64 x0, .int .i64 y0, .int .i64 z0, .int .i64 u0, .slice A0 n0 c0, .int .i64 x1, .int .i64 y1, .int .i64 z1, .int .i64 u1, .slice A1 n1 c1, .int .i64 x2, .int .i64 y2, .int .i64 z2, .int .i64 u2, .slice A2 n2 c2, .int .i64 pr, .bool fr][o]?) (exact Blk.cell (by repeat (first | assumption | apply Blk.drew | apply Blk.alloc))) (fail)
    all_goals
      go_wp2_with fail
      go_meet
      case rel =>
        refine ⟨_, _, rfl, rfl, ?_, ?_, ?_, ?_, ?_, ?_, ?_, ?_⟩
        all_goals first | ((repeat (first | assumption | apply Blk.drew | apply Blk.alloc)); done) | (go_grown; done) | (simp [go_sem]; done)
  obtain ⟨i, j, rfl, rfl, k1, k2, k3, k4, k5, k6, hr, hg⟩ := hcut
  have hk := Lib.hid k5
  have hB := Lib.hid k6
  clear k5 k6
  replace hr := Lib.hid hr
  replace hg := Lib.hid hg
  have hcg := hg.out.cell
  have hfg := hg.out.frozen
  go_wp2_with fail
  refine (function_at _ _ _ _ _ _ _ _ H0.out).mono ?_
  rintro e w2 ⟨rfl, rfl⟩
  go_wp2_with fail
  clear hcg hfg
  replace hk := Lib.hid (hk.out.far (p := ⟨g, 0, none⟩) (by simp; omega) (.int .i64 e0))
  replace hr := Lib.hid (hr.out.far (p := ⟨g, 0, none⟩) (by simp; omega) (.int .i64 e0))
  replace hg : Hid (Blk _ g 36 #[.int .i64 e0, .int .i64 0, .int .i64 0]) := Lib.hid (hg.out.set_ 0 (.int .i64 e0))
  replace hB := Lib.hid (hB.out.setCell (p := ⟨g, 0, none⟩) (by simp; omega) (.int .i64 e0))
  generalize wc.setCell ⟨g, 0, none⟩ (.int .i64 e0) = W1 at *
  rw [rounds_succ]
  go_upto_region 7 with fail
  go_cut [10, 11] (fun p q W => ∃ i j : Nat, p = .pointer (some ⟨i, 0, none⟩) ∧ q = .pointer (some ⟨j, 0, none⟩) ∧ W.cell? ⟨i, 0, none⟩ = some (.int .i64 x2) ∧ W.cell? ⟨i, 1, none⟩ = some (.int .i64 y2) ∧ W.cell? ⟨j, 0, none⟩ = some (.int .i64 x0) ∧ W.cell? ⟨j, 1, none⟩ = some (.int .i64 y0) ∧ Blk W w.heap.size 27 #[.int .i64 x0, .int .i64 y0, .int .i64 z0, .int .i64 u0, .slice A0 n0 c0, .int .i64 x1, .int .i64 y1, .int .i64 z1, .int .i64 u1, .slice A1 n1 c1, .int .i64 x2, .int .i64 y2, .int .i64 z2, .int .i64 u2, .slice A2 n2 c2, .int .i64 pr, .bool fr] ∧ Below w.heap.size w W ∧ Blk W (w.heap.size + 1) 36 #[.int .i64 0, .int .i64 0, .int .i64 0] ∧ Blk W (g) 36 #[.int .i64 e0, .int .i64 0, .int .i64 0])
  case first =>
    have hS := hk.out.cell
    have hk0 := hk.out
    have hz := hk.out.lt
    have hB0 := hB.out
    have hw0 : IntKind.i64.wrap 0 = 0 := by decide
    have hw1 : IntKind.i64.wrap 1 = 1 := by decide
    have hw2 : IntKind.i64.wrap 2 = 2 := by decide
    have hw3 : IntKind.i64.wrap 3 = 3 := by decide
    have hw4 : IntKind.i64.wrap 4 = 4 := by decide
    have hr0 := hr.out
    have hg0 := hg.out
    go_region_held3 (fun W => ∀ o, W.cell? ⟨w.heap.size, o, none⟩ = #[.int .i64 x0, .int .i64 y0, .int .i64 z0, .int .i64 u0, .slice A0 n0 c0, .int .i64 x1, .int .i64 y1, .int .i64 z1, .int .i64 u1, .slice A1 n1 c1, .int .i64 x2, .int .i64 y2, .int .i64 z2, .int .i64 u2, .slice A2 n2 c2, .int .i64 pr, .bool fr][o]?) (exact Blk.cell (by repeat (first | assumption | apply Blk.drew | apply Blk.alloc))) (fail)
    all_goals
      go_wp2_with fail
      go_meet
      case rel =>
        refine ⟨_, _, rfl, rfl, ?_, ?_, ?_, ?_, ?_, ?_, ?_, ?_⟩
        all_goals first | ((repeat (first | assumption | apply Blk.drew | apply Blk.alloc)); done) | (go_grown; done) | (simp [go_sem]; done)
  obtain ⟨i, j, rfl, rfl, k1, k2, k3, k4, k5, k6, hr, hg⟩ := hcut
  have hk := Lib.hid k5
  have hB := Lib.hid k6
  clear k5 k6
  replace hr := Lib.hid hr
  replace hg := Lib.hid hg
  have hcg := hg.out.cell
  have hfg := hg.out.frozen
  go_wp2_with fail
  refine (function_at _ _ _ _ _ _ _ _ H1.out).mono ?_
  rintro e w2 ⟨rfl, rfl⟩
  go_wp2_with fail
  clear hcg hfg
  replace hk := Lib.hid (hk.out.far (p := ⟨g, 1, none⟩) (by simp; omega) (.int .i64 e1))
  replace hr := Lib.hid (hr.out.far (p := ⟨g, 1, none⟩) (by simp; omega) (.int .i64 e1))
  replace hg : Hid (Blk _ g 36 #[.int .i64 e0, .int .i64 e1, .int .i64 0]) := Lib.hid (hg.out.set_ 1 (.int .i64 e1))
  replace hB := Lib.hid (hB.out.setCell (p := ⟨g, 1, none⟩) (by simp; omega) (.int .i64 e1))
  generalize wc.setCell ⟨g, 1, none⟩ (.int .i64 e1) = W2 at *
  rw [rounds_succ]
  go_upto_region 7 with fail
  go_cut [10, 11] (fun p q W => ∃ i j : Nat, p = .pointer (some ⟨i, 0, none⟩) ∧ q = .pointer (some ⟨j, 0, none⟩) ∧ W.cell? ⟨i, 0, none⟩ = some (.int .i64 x0) ∧ W.cell? ⟨i, 1, none⟩ = some (.int .i64 y0) ∧ W.cell? ⟨j, 0, none⟩ = some (.int .i64 x1) ∧ W.cell? ⟨j, 1, none⟩ = some (.int .i64 y1) ∧ Blk W w.heap.size 27 #[.int .i64 x0, .int .i64 y0, .int .i64 z0, .int .i64 u0, .slice A0 n0 c0, .int .i64 x1, .int .i64 y1, .int .i64 z1, .int .i64 u1, .slice A1 n1 c1, .int .i64 x2, .int .i64 y2, .int .i64 z2, .int .i64 u2, .slice A2 n2 c2, .int .i64 pr, .bool fr] ∧ Below w.heap.size w W ∧ Blk W (w.heap.size + 1) 36 #[.int .i64 0, .int .i64 0, .int .i64 0] ∧ Blk W (g) 36 #[.int .i64 e0, .int .i64 e1, .int .i64 0])
  case first =>
    have hS := hk.out.cell
    have hk0 := hk.out
    have hz := hk.out.lt
    have hB0 := hB.out
    have hw0 : IntKind.i64.wrap 0 = 0 := by decide
    have hw1 : IntKind.i64.wrap 1 = 1 := by decide
    have hw2 : IntKind.i64.wrap 2 = 2 := by decide
    have hw3 : IntKind.i64.wrap 3 = 3 := by decide
    have hw4 : IntKind.i64.wrap 4 = 4 := by decide
    have hr0 := hr.out
    have hg0 := hg.out
    go_region_held3 (fun W => ∀ o, W.cell? ⟨w.heap.size, o, none⟩ = #[.int .i64 x0, .int .i64 y0, .int .i64 z0, .int .i64 u0, .slice A0 n0 c0, .int .i64 x1, .int .i64 y1, .int .i64 z1, .int .i64 u1, .slice A1 n1 c1, .int .i64 x2, .int .i64 y2, .int .i64 z2, .int .i64 u2, .slice A2 n2 c2, .int .i64 pr, .bool fr][o]?) (exact Blk.cell (by repeat (first | assumption | apply Blk.drew | apply Blk.alloc))) (fail)
    all_goals
      go_wp2_with fail
      go_meet
      case rel =>
        refine ⟨_, _, rfl, rfl, ?_, ?_, ?_, ?_, ?_, ?_, ?_, ?_⟩
        all_goals first | ((repeat (first | assumption | apply Blk.drew | apply Blk.alloc)); done) | (go_grown; done) | (simp [go_sem]; done)
  obtain ⟨i, j, rfl, rfl, k1, k2, k3, k4, k5, k6, hr, hg⟩ := hcut
  have hk := Lib.hid k5
  have hB := Lib.hid k6
  clear k5 k6
  replace hr := Lib.hid hr
  replace hg := Lib.hid hg
  have hcg := hg.out.cell
  have hfg := hg.out.frozen
  go_wp2_with fail
  refine (function_at _ _ _ _ _ _ _ _ H2.out).mono ?_
  rintro e w2 ⟨rfl, rfl⟩
  go_wp2_with fail
  clear hcg hfg
  replace hk := Lib.hid (hk.out.far (p := ⟨g, 2, none⟩) (by simp; omega) (.int .i64 e2))
  replace hr := Lib.hid (hr.out.far (p := ⟨g, 2, none⟩) (by simp; omega) (.int .i64 e2))
  replace hg : Hid (Blk _ g 36 #[.int .i64 e0, .int .i64 e1, .int .i64 e2]) := Lib.hid (hg.out.set_ 2 (.int .i64 e2))
  replace hB := Lib.hid (hB.out.setCell (p := ⟨g, 2, none⟩) (by simp; omega) (.int .i64 e2))
  generalize wc.setCell ⟨g, 2, none⟩ (.int .i64 e2) = W3 at *
  rw [rounds_succ]
  go_wp2_with fail
  have hcg := hg.out.cell
  have hcr := hr.out.cell
  have hfr := hr.out.frozen
  have hB0 := hB.out
  go_region
  all_goals
    go_wp2
    refine bodyPost_ret (results_row_tmp rfl _ _ (w.heap.size + 1) _ #[.int .i64 e0, .int .i64 e1, .int .i64 e2] _ _ rfl (((hr.out.set_ 0 (.int .i64 e0)).set_ 1 (.int .i64 e1)).set_ 2 (.int .i64 e2)).drew Try.underlying36 rfl i3Info) rfl ?_
    exact ⟨rfl, (((hB0.setCell (p := ⟨w.heap.size + 1, 0, none⟩) (by simp) _).setCell (p := ⟨w.heap.size + 1, 1, none⟩) (by simp) _).setCell (p := ⟨w.heap.size + 1, 2, none⟩) (by simp) _).drew⟩
/-- The three weights and their sum, as one value. -/
def wtV (x0 y0 x1 y1 x2 y2 px py : Int) : Value :=
  .tuple #[.agg #[.int .i64 (wtI (validB x0 y0 x1 y1 x2 y2) x1 y1 x2 y2 px py), .int .i64 (wtI (validB x0 y0 x1 y1 x2 y2) x2 y2 x0 y0 px py), .int .i64 (wtI (validB x0 y0 x1 y1 x2 y2) x0 y0 x1 y1 px py)],
    .int .i64 (wtI (validB x0 y0 x1 y1 x2 y2) x1 y1 x2 y2 px py + wtI (validB x0 y0 x1 y1 x2 y2) x2 y2 x0 y0 px py + wtI (validB x0 y0 x1 y1 x2 y2) x0 y0 x1 y1 px py)]
theorem weights_any (x0 y0 z0 u0 x1 y1 z1 u1 x2 y2 z2 u2 : Int) (A0 A1 A2 : Option Addr) (n0 c0 n1 c1 n2 c2 : Nat) (pr : Int) (fr : Bool) (px py : Int) (w : World) :
    Calls Try.prog 54 #[.agg #[.int .i64 x0, .int .i64 y0, .int .i64 z0, .int .i64 u0, .slice A0 n0 c0, .int .i64 x1, .int .i64 y1, .int .i64 z1, .int .i64 u1, .slice A1 n1 c1, .int .i64 x2, .int .i64 y2, .int .i64 z2, .int .i64 u2, .slice A2 n2 c2, .int .i64 pr, .bool fr], .int .i64 px, .int .i64 py] w fun e w' => e = .returned (wtV x0 y0 x1 y1 x2 y2 px py) ∧ Below w.heap.size w w' := by
  cases h : validB x0 y0 x1 y1 x2 y2
  · have e : wtV x0 y0 x1 y1 x2 y2 px py = .tuple #[.agg #[.int .i64 0, .int .i64 0, .int .i64 0], .int .i64 0] := by unfold wtV wtI; rw [h]; rfl
    rw [e]
    exact weights_no _ _ _ _ _ _ _ _ _ _ _ _ _ _ _ _ _ _ _ _ _ _ _ _ _ _ h
  · have e : wtV x0 y0 x1 y1 x2 y2 px py = .tuple #[.agg #[.int .i64 (efI x1 y1 x2 y2 px py), .int .i64 (efI x2 y2 x0 y0 px py), .int .i64 (efI x0 y0 x1 y1 px py)], .int .i64 (efI x1 y1 x2 y2 px py + efI x2 y2 x0 y0 px py + efI x0 y0 x1 y1 px py)] := by unfold wtV wtI; rw [h]; rfl
    rw [e]
    exact weights_yes _ _ _ _ _ _ _ _ _ _ _ _ _ _ _ _ _ _ _ _ _ _ _ _ _ _ h _ _ _ rfl rfl rfl
end Go.Proofs.Ythbagegkcpblgaa
