/- The helpers, Valid and Covers of the reference of chapter 35. -/
import Derived.Test.YtimgjlogbkgiaaaEdgeW
import Derived.Test.YtimgjlogbkgiaaaValid
import Derived.Test.YtimgjlogbkgiaaaFresh
namespace Go.Proofs.Ytimgjlogbkgiaaa
open Go.RowKit
attribute [local go_sem] Ext.cell
set_option maxHeartbeats 4000000 in
theorem inside_any (x0 y0 z0 u0 : Int) (A0 : Option Addr) (n0 c0 : Nat) (w : World) :
    Calls Try.prog 40 #[.agg #[.int .i64 x0, .int .i64 y0, .int .i64 z0, .int .i64 u0, .slice A0 n0 c0]] w fun e w' => e = .returned (.bool (onS x0 y0)) ∧ Below w.heap.size w w' := by
  have hc : x0 < 0 ∨ (0 ≤ x0 ∧ 16384 < x0) ∨ (0 ≤ x0 ∧ x0 ≤ 16384 ∧ y0 < 0) ∨ (0 ≤ x0 ∧ x0 ≤ 16384 ∧ 0 ≤ y0 ∧ 16384 < y0) ∨ (0 ≤ x0 ∧ x0 ≤ 16384 ∧ 0 ≤ y0 ∧ y0 ≤ 16384) := by omega
  have hk := Lib.hid (Blk.new w 34 #[.int .i64 x0, .int .i64 y0, .int .i64 z0, .int .i64 u0, .slice A0 n0 c0])
  have ck := hk.out.cell
  obtain h | ⟨h, g⟩ | ⟨h, g, h2⟩ | ⟨h, g, h2, h3⟩ | ⟨h, g, h2, h3⟩ := hc
  all_goals
    go_enter Try.func40, Try.ntmps40
    go_wp2
    go_ret
    exact ⟨ret_bool (by unfold onS; first | (rw [Bool.eq_iff_iff]; simp only [decide_eq_true_eq]; omega) | (symm; rw [decide_eq_false_iff_not]; omega) | (symm; rw [decide_eq_true_eq]; omega)), by go_grown⟩
theorem inside_at (x0 y0 z0 u0 : Int) (A0 : Option Addr) (n0 c0 : Nat) (w : World) (v : Bool) (h : onS x0 y0 = v) :
    Calls Try.prog 40 #[.agg #[.int .i64 x0, .int .i64 y0, .int .i64 z0, .int .i64 u0, .slice A0 n0 c0]] w fun e w' => e = .returned (.bool v) ∧ Below w.heap.size w w' := h ▸ inside_any _ _ _ _ _ _ _ _
/-- On the screen. -/
def onP (x y : Int) : Prop := 0 ≤ x ∧ x ≤ 16384 ∧ 0 ≤ y ∧ y ≤ 16384
set_option maxHeartbeats 4000000 in
theorem side_any (x0 y0 z0 u0 x1 y1 z1 u1 : Int) (A0 A1 : Option Addr) (n0 c0 n1 c1 : Nat) (px py : Int) (w : World) (h0 : onP x0 y0) (h1 : onP x1 y1) (hp : onP px py) :
    Calls Try.prog 41 #[.agg #[.int .i64 x0, .int .i64 y0, .int .i64 z0, .int .i64 u0, .slice A0 n0 c0], .agg #[.int .i64 x1, .int .i64 y1, .int .i64 z1, .int .i64 u1, .slice A1 n1 c1], .int .i64 px, .int .i64 py] w fun e w' => e = .returned (.int .i64 (ef x0 y0 x1 y1 px py)) ∧ Below w.heap.size w w' := by
  obtain ⟨a1, a2, a3, a4⟩ := h0
  obtain ⟨b1, b2, b3, b4⟩ := h1
  obtain ⟨c1, c2, c3, c4⟩ := hp
  have w1 : IntKind.i64.wrap (x1 - x0) = x1 - x0 := by rw [IntKind.wrap_i64]; omega
  have w2 : IntKind.i64.wrap (py - y0) = py - y0 := by rw [IntKind.wrap_i64]; omega
  have w3 : IntKind.i64.wrap (y1 - y0) = y1 - y0 := by rw [IntKind.wrap_i64]; omega
  have w4 : IntKind.i64.wrap (px - x0) = px - x0 := by rw [IntKind.wrap_i64]; omega
  obtain ⟨m1, m2⟩ := mul_bound (a := x1 - x0) (b := py - y0) (by omega) (by omega) (by omega) (by omega)
  obtain ⟨m3, m4⟩ := mul_bound (a := y1 - y0) (b := px - x0) (by omega) (by omega) (by omega) (by omega)
  have w5 : IntKind.i64.wrap ((x1 - x0) * (py - y0)) = (x1 - x0) * (py - y0) := by rw [IntKind.wrap_i64]; omega
  have w6 : IntKind.i64.wrap ((y1 - y0) * (px - x0)) = (y1 - y0) * (px - x0) := by rw [IntKind.wrap_i64]; omega
  have w7 : IntKind.i64.wrap ((x1 - x0) * (py - y0) - (y1 - y0) * (px - x0)) = (x1 - x0) * (py - y0) - (y1 - y0) * (px - x0) := by rw [IntKind.wrap_i64]; omega
  clear a1 a2 a3 a4 b1 b2 b3 b4 c1 c2 c3 c4 m1 m2 m3 m4
  have hk := Lib.hid ((Blk.new w 34 #[.int .i64 x0, .int .i64 y0, .int .i64 z0, .int .i64 u0, .slice A0 n0 c0]).alloc (.cells #[.int .i64 x1, .int .i64 y1, .int .i64 z1, .int .i64 u1, .slice A1 n1 c1] 34))
  have hk1 := Lib.hid (Blk.new1 w 34 #[.int .i64 x1, .int .i64 y1, .int .i64 z1, .int .i64 u1, .slice A1 n1 c1] (.cells #[.int .i64 x0, .int .i64 y0, .int .i64 z0, .int .i64 u0, .slice A0 n0 c0] 34))
  have ck := hk.out.cell
  have ck1 := hk1.out.cell
  go_enter Try.func41, Try.ntmps41
  go_wp2
  go_ret
  exact ⟨ret_int rfl, by go_grown⟩
theorem side_at (x0 y0 z0 u0 x1 y1 z1 u1 : Int) (A0 A1 : Option Addr) (n0 c0 n1 c1 : Nat) (px py : Int) (w : World) (h0 : onP x0 y0) (h1 : onP x1 y1) (hp : onP px py) (v : Int) (h : ef x0 y0 x1 y1 px py = v) :
    Calls Try.prog 41 #[.agg #[.int .i64 x0, .int .i64 y0, .int .i64 z0, .int .i64 u0, .slice A0 n0 c0], .agg #[.int .i64 x1, .int .i64 y1, .int .i64 z1, .int .i64 u1, .slice A1 n1 c1], .int .i64 px, .int .i64 py] w fun e w' => e = .returned (.int .i64 v) ∧ Below w.heap.size w w' := h ▸ side_any _ _ _ _ _ _ _ _ _ _ _ _ _ _ _ _ _ h0 h1 hp
theorem accB_on {x0 y0 x1 y1 px py : Int} (h0 : onP x0 y0) (h1 : onP x1 y1) (hp : onP px py) : accB x0 y0 x1 y1 px py = (decide (0 < ef x0 y0 x1 y1 px py) || (ef x0 y0 x1 y1 px py == 0 && (decide (y1 < y0) || (y1 == y0 && decide (x0 < x1))))) := by
  obtain ⟨a1, a2, a3, a4⟩ := h0
  obtain ⟨b1, b2, b3, b4⟩ := h1
  obtain ⟨c1, c2, c3, c4⟩ := hp
  unfold accB tlB efI
  rw [lim_id a1 a2, lim_id a3 a4, lim_id b1 b2, lim_id b3 b4, lim_id c1 c2, lim_id c3 c4]
set_option maxHeartbeats 8000000 in
theorem accepts35_any (x0 y0 z0 u0 x1 y1 z1 u1 : Int) (A0 A1 : Option Addr) (n0 c0 n1 c1 : Nat) (px py : Int) (w : World) (h0 : onP x0 y0) (h1 : onP x1 y1) (hp : onP px py) :
    Calls Try.prog 38 #[.agg #[.int .i64 x0, .int .i64 y0, .int .i64 z0, .int .i64 u0, .slice A0 n0 c0], .agg #[.int .i64 x1, .int .i64 y1, .int .i64 z1, .int .i64 u1, .slice A1 n1 c1], .int .i64 px, .int .i64 py] w fun e w' => e = .returned (.bool (accB x0 y0 x1 y1 px py)) ∧ Below w.heap.size w w' := by
  have hV := accB_on h0 h1 hp
  obtain ⟨s, hs⟩ : ∃ s, ef x0 y0 x1 y1 px py = s := ⟨_, rfl⟩
  rw [hs] at hV
  have hS := Lib.hid (fun w => side_at x0 y0 z0 u0 x1 y1 z1 u1 A0 A1 n0 c0 n1 c1 px py w h0 h1 hp s hs)
  have hc : (0 < s ∨ s = 0 ∨ s < 0) := by omega
  have hd : (y0 = y1 ∧ x0 < x1) ∨ (y0 = y1 ∧ x1 ≤ x0) ∨ (¬ y0 = y1 ∧ y1 < y0) ∨ (¬ y0 = y1 ∧ y0 < y1) := by omega
  clear hs h0 h1 hp
  replace hV := Lib.hid hV
  replace hc := Lib.hid hc
  replace hd := Lib.hid hd
  go_enter Try.func38, Try.ntmps38
  have ka := Lib.hid ((Blk.new w 34 #[.int .i64 x0, .int .i64 y0, .int .i64 z0, .int .i64 u0, .slice A0 n0 c0]).alloc (.cells #[.int .i64 x1, .int .i64 y1, .int .i64 z1, .int .i64 u1, .slice A1 n1 c1] 34))
  have kb := Lib.hid (Blk.new1 w 34 #[.int .i64 x1, .int .i64 y1, .int .i64 z1, .int .i64 u1, .slice A1 n1 c1] (.cells #[.int .i64 x0, .int .i64 y0, .int .i64 z0, .int .i64 u0, .slice A0 n0 c0] 34))
  have hB : Hid (Below w.heap.size w ((w.alloc (.cells #[.int .i64 x0, .int .i64 y0, .int .i64 z0, .int .i64 u0, .slice A0 n0 c0] 34)).alloc (.cells #[.int .i64 x1, .int .i64 y1, .int .i64 z1, .int .i64 u1, .slice A1 n1 c1] 34))) := Lib.hid (by go_grown)
  have cka := ka.out.cell
  have lka := ka.out.lt
  have ckb := kb.out.cell
  have lkb := kb.out.lt
  go_wp2_with (first | refine wpList_load_row rfl 34 _ rfl _ rfl _ _ _ _ ka.out Try.underlying34 rfl (by kernel_rfl) ?_ | refine wpList_load_rowG rfl 34 _ rfl _ rfl _ _ _ _ ka.out Try.underlying34 rfl (by kernel_rfl) ?_ | refine wpList_load_row rfl 34 _ rfl _ rfl _ _ _ _ kb.out Try.underlying34 rfl (by kernel_rfl) ?_ | refine wpList_load_rowG rfl 34 _ rfl _ rfl _ _ _ _ kb.out Try.underlying34 rfl (by kernel_rfl) ?_)
  clear cka lka ckb lkb
  refine (hS.out _).mono ?_
  rintro e W1 ⟨rfl, hb⟩
  replace ka := Lib.hid (ka.out.call hb)
  replace kb := Lib.hid (kb.out.call hb)
  replace hB := Lib.hid (below_on hB.out hb)
  clear hb
  obtain h | h | h := hc.out <;> obtain ⟨g, g2⟩ | ⟨g, g2⟩ | ⟨g, g2⟩ | ⟨g, g2⟩ := hd.out
  all_goals
    first | have e1 : (y0 == y1) = true := beq_iff_eq.2 g | have e1 : (y0 == y1) = false := beq_eq_false_iff_ne.2 g
    first | have e2 : (s == 0) = true := beq_iff_eq.2 h | have e2 : (s == 0) = false := beq_eq_false_iff_ne.2 (by omega)
    clear hc hd hS
    have cka := ka.out.cell
    have lka := ka.out.lt
    have ckb := kb.out.cell
    have lkb := kb.out.lt
    go_wp2_with (fail)
    go_ret
    exact ⟨ret_bool (by rw [hV.out, Bool.eq_iff_iff]; simp; omega), hB.out⟩
theorem accepts35_at (x0 y0 z0 u0 x1 y1 z1 u1 : Int) (A0 A1 : Option Addr) (n0 c0 n1 c1 : Nat) (px py : Int) (w : World) (h0 : onP x0 y0) (h1 : onP x1 y1) (hp : onP px py) (v : Bool) (h : accB x0 y0 x1 y1 px py = v) :
    Calls Try.prog 38 #[.agg #[.int .i64 x0, .int .i64 y0, .int .i64 z0, .int .i64 u0, .slice A0 n0 c0], .agg #[.int .i64 x1, .int .i64 y1, .int .i64 z1, .int .i64 u1, .slice A1 n1 c1], .int .i64 px, .int .i64 py] w fun e w' => e = .returned (.bool v) ∧ Below w.heap.size w w' := h ▸ accepts35_any _ _ _ _ _ _ _ _ _ _ _ _ _ _ _ _ _ h0 h1 hp
set_option maxHeartbeats 8000000 in
theorem valid35_any (x0 y0 z0 u0 x1 y1 z1 u1 x2 y2 z2 u2 : Int) (A0 A1 A2 : Option Addr) (n0 c0 n1 c1 n2 c2 : Nat) (pr : Int) (fr : Bool) (w : World) :
    Calls Try.prog 37 #[.agg #[.int .i64 x0, .int .i64 y0, .int .i64 z0, .int .i64 u0, .slice A0 n0 c0, .int .i64 x1, .int .i64 y1, .int .i64 z1, .int .i64 u1, .slice A1 n1 c1, .int .i64 x2, .int .i64 y2, .int .i64 z2, .int .i64 u2, .slice A2 n2 c2, .int .i64 pr, .bool fr]] w fun e w' => e = .returned (.bool (validB x0 y0 x1 y1 x2 y2)) ∧ Below w.heap.size w w' := by
  have hV : validB x0 y0 x1 y1 x2 y2 = (onS x0 y0 && onS x1 y1 && onS x2 y2 && decide (0 < areaI x0 y0 x1 y1 x2 y2)) := rfl
  obtain ⟨b0, h0⟩ : ∃ b, onS x0 y0 = b := ⟨_, rfl⟩
  obtain ⟨b1, h1⟩ : ∃ b, onS x1 y1 = b := ⟨_, rfl⟩
  obtain ⟨b2, h2⟩ : ∃ b, onS x2 y2 = b := ⟨_, rfl⟩
  rw [h0, h1, h2] at hV
  have hA : b0 = true → b1 = true → b2 = true → areaI x0 y0 x1 y1 x2 y2 = ef x0 y0 x1 y1 x2 y2 := fun e0 e1 e2 => areaI_yes (by unfold inRB; rw [h0, h1, h2, e0, e1, e2]; rfl)
  have hP : ∀ x y : Int, onS x y = true → onP x y := fun x y h => by unfold onS at h; unfold onP; simpa using h
  replace h0 := Lib.hid h0
  replace h1 := Lib.hid h1
  replace h2 := Lib.hid h2
  replace hV := Lib.hid hV
  replace hA := Lib.hid hA
  replace hP := Lib.hid hP
  go_enter Try.func37, Try.ntmps37
  have kt := Lib.hid (Blk.new w 37 #[.int .i64 x0, .int .i64 y0, .int .i64 z0, .int .i64 u0, .slice A0 n0 c0, .int .i64 x1, .int .i64 y1, .int .i64 z1, .int .i64 u1, .slice A1 n1 c1, .int .i64 x2, .int .i64 y2, .int .i64 z2, .int .i64 u2, .slice A2 n2 c2, .int .i64 pr, .bool fr])
  have hB : Hid (Below w.heap.size w (w.alloc (.cells #[.int .i64 x0, .int .i64 y0, .int .i64 z0, .int .i64 u0, .slice A0 n0 c0, .int .i64 x1, .int .i64 y1, .int .i64 z1, .int .i64 u1, .slice A1 n1 c1, .int .i64 x2, .int .i64 y2, .int .i64 z2, .int .i64 u2, .slice A2 n2 c2, .int .i64 pr, .bool fr] 37))) := Lib.hid (by go_grown)
  have ckt := kt.out.cell
  have lkt := kt.out.lt
  go_wp2_with (fail)
  clear ckt lkt
  refine (inside_at _ _ _ _ _ _ _ _ _ h0.out).mono ?_
  rintro e W1 ⟨rfl, hb⟩
  replace kt := Lib.hid (kt.out.call hb)
  replace hB := Lib.hid (below_on hB.out hb)
  clear hb
  cases b0
  · have ckt := kt.out.cell
    have lkt := kt.out.lt
    go_wp2_with (fail)
    go_ret
    exact ⟨ret_bool (by simpa using hV.out.symm), hB.out⟩
  have ckt := kt.out.cell
  have lkt := kt.out.lt
  go_wp2_with (fail)
  clear ckt lkt
  refine (inside_at _ _ _ _ _ _ _ _ _ h1.out).mono ?_
  rintro e W2 ⟨rfl, hb⟩
  replace kt := Lib.hid (kt.out.call hb)
  replace hB := Lib.hid (below_on hB.out hb)
  clear hb
  cases b1
  · have ckt := kt.out.cell
    have lkt := kt.out.lt
    go_wp2_with (fail)
    go_ret
    exact ⟨ret_bool (by simpa using hV.out.symm), hB.out⟩
  have ckt := kt.out.cell
  have lkt := kt.out.lt
  go_wp2_with (fail)
  clear ckt lkt
  refine (inside_at _ _ _ _ _ _ _ _ _ h2.out).mono ?_
  rintro e W3 ⟨rfl, hb⟩
  replace kt := Lib.hid (kt.out.call hb)
  replace hB := Lib.hid (below_on hB.out hb)
  clear hb
  cases b2
  · have ckt := kt.out.cell
    have lkt := kt.out.lt
    go_wp2_with (fail)
    go_ret
    exact ⟨ret_bool (by simpa using hV.out.symm), hB.out⟩
  have ckt := kt.out.cell
  have lkt := kt.out.lt
  go_wp2_with (fail)
  obtain ⟨s, hs⟩ : ∃ s, ef x0 y0 x1 y1 x2 y2 = s := ⟨_, rfl⟩
  have hA' := hA.out (by simp) (by simp) (by simp)
  rw [hs] at hA'
  have hV' := hV.out
  rw [hA'] at hV'
  replace hV' := Lib.hid hV'
  replace hs := Lib.hid hs
  clear hA' hV hA
  clear ckt lkt
  refine (side_at _ _ _ _ _ _ _ _ _ _ _ _ _ _ _ _ _ (hP.out _ _ h0.out) (hP.out _ _ h1.out) (hP.out _ _ h2.out) _ hs.out).mono ?_
  rintro e W4 ⟨rfl, hb⟩
  replace kt := Lib.hid (kt.out.call hb)
  replace hB := Lib.hid (below_on hB.out hb)
  clear hb
  go_wp2
  go_ret
  exact ⟨ret_bool (by simpa using hV'.out.symm), hB.out⟩
theorem valid35_at (x0 y0 z0 u0 x1 y1 z1 u1 x2 y2 z2 u2 : Int) (A0 A1 A2 : Option Addr) (n0 c0 n1 c1 n2 c2 : Nat) (pr : Int) (fr : Bool) (w : World) (v : Bool) (h : validB x0 y0 x1 y1 x2 y2 = v) :
    Calls Try.prog 37 #[.agg #[.int .i64 x0, .int .i64 y0, .int .i64 z0, .int .i64 u0, .slice A0 n0 c0, .int .i64 x1, .int .i64 y1, .int .i64 z1, .int .i64 u1, .slice A1 n1 c1, .int .i64 x2, .int .i64 y2, .int .i64 z2, .int .i64 u2, .slice A2 n2 c2, .int .i64 pr, .bool fr]] w fun e w' => e = .returned (.bool v) ∧ Below w.heap.size w w' := h ▸ valid35_any _ _ _ _ _ _ _ _ _ _ _ _ _ _ _ _ _ _ _ _ _ _ _ _
set_option maxHeartbeats 8000000 in
theorem covers35_any (x0 y0 z0 u0 x1 y1 z1 u1 x2 y2 z2 u2 : Int) (A0 A1 A2 : Option Addr) (n0 c0 n1 c1 n2 c2 : Nat) (pr : Int) (fr : Bool) (px py : Int) (w : World) (hp : onP px py) :
    Calls Try.prog 32 #[.agg #[.int .i64 x0, .int .i64 y0, .int .i64 z0, .int .i64 u0, .slice A0 n0 c0, .int .i64 x1, .int .i64 y1, .int .i64 z1, .int .i64 u1, .slice A1 n1 c1, .int .i64 x2, .int .i64 y2, .int .i64 z2, .int .i64 u2, .slice A2 n2 c2, .int .i64 pr, .bool fr], .int .i64 px, .int .i64 py] w fun e w' => e = .returned (.bool (covB x0 y0 x1 y1 x2 y2 px py)) ∧ Below w.heap.size w w' := by
  have hV : covB x0 y0 x1 y1 x2 y2 px py = (validB x0 y0 x1 y1 x2 y2 && (accB x0 y0 x1 y1 px py && accB x1 y1 x2 y2 px py && accB x2 y2 x0 y0 px py)) := rfl
  obtain ⟨v, hv⟩ : ∃ b, validB x0 y0 x1 y1 x2 y2 = b := ⟨_, rfl⟩
  obtain ⟨b0, h0⟩ : ∃ b, accB x0 y0 x1 y1 px py = b := ⟨_, rfl⟩
  obtain ⟨b1, h1⟩ : ∃ b, accB x1 y1 x2 y2 px py = b := ⟨_, rfl⟩
  obtain ⟨b2, h2⟩ : ∃ b, accB x2 y2 x0 y0 px py = b := ⟨_, rfl⟩
  rw [hv, h0, h1, h2] at hV
  have hO : v = true → onP x0 y0 ∧ onP x1 y1 ∧ onP x2 y2 := fun e => ((validB_iff ..).1 (hv.trans e)).1
  replace hv := Lib.hid hv
  replace h0 := Lib.hid h0
  replace h1 := Lib.hid h1
  replace h2 := Lib.hid h2
  replace hV := Lib.hid hV
  replace hO := Lib.hid hO
  replace hp := Lib.hid hp
  go_enter Try.func32, Try.ntmps32
  have kt := Lib.hid (Blk.new w 37 #[.int .i64 x0, .int .i64 y0, .int .i64 z0, .int .i64 u0, .slice A0 n0 c0, .int .i64 x1, .int .i64 y1, .int .i64 z1, .int .i64 u1, .slice A1 n1 c1, .int .i64 x2, .int .i64 y2, .int .i64 z2, .int .i64 u2, .slice A2 n2 c2, .int .i64 pr, .bool fr])
  have hB : Hid (Below w.heap.size w (w.alloc (.cells #[.int .i64 x0, .int .i64 y0, .int .i64 z0, .int .i64 u0, .slice A0 n0 c0, .int .i64 x1, .int .i64 y1, .int .i64 z1, .int .i64 u1, .slice A1 n1 c1, .int .i64 x2, .int .i64 y2, .int .i64 z2, .int .i64 u2, .slice A2 n2 c2, .int .i64 pr, .bool fr] 37))) := Lib.hid (by go_grown)
  have ckt := kt.out.cell
  have lkt := kt.out.lt
  go_wp2_with (first | refine wpList_load_row rfl 37 _ rfl _ rfl _ _ _ _ kt.out Try.underlying37 rfl triInfo ?_ | refine wpList_load_rowG rfl 37 _ rfl _ rfl _ _ _ _ kt.out Try.underlying37 rfl triInfo ?_)
  clear ckt lkt
  refine (valid35_at _ _ _ _ _ _ _ _ _ _ _ _ _ _ _ _ _ _ _ _ _ _ _ _ _ hv.out).mono ?_
  rintro e W1 ⟨rfl, hb⟩
  replace kt := Lib.hid (kt.out.call hb)
  replace hB := Lib.hid (below_on hB.out hb)
  clear hb
  cases v
  · have ckt := kt.out.cell
    have lkt := kt.out.lt
    go_wp2_with (fail)
    go_ret
    exact ⟨ret_bool (by simpa using hV.out.symm), hB.out⟩
  obtain ⟨o0, o1, o2⟩ := hO.out rfl
  replace o0 := Lib.hid o0
  replace o1 := Lib.hid o1
  replace o2 := Lib.hid o2
  clear hO
  have ckt := kt.out.cell
  have lkt := kt.out.lt
  go_wp2_with (fail)
  clear ckt lkt
  refine (accepts35_at _ _ _ _ _ _ _ _ _ _ _ _ _ _ _ _ _ o0.out o1.out hp.out _ h0.out).mono ?_
  rintro e W2 ⟨rfl, hb⟩
  replace kt := Lib.hid (kt.out.call hb)
  replace hB := Lib.hid (below_on hB.out hb)
  clear hb
  cases b0
  · have ckt := kt.out.cell
    have lkt := kt.out.lt
    go_wp2_with (fail)
    go_ret
    exact ⟨ret_bool (by simpa using hV.out.symm), hB.out⟩
  have ckt := kt.out.cell
  have lkt := kt.out.lt
  go_wp2_with (fail)
  clear ckt lkt
  refine (accepts35_at _ _ _ _ _ _ _ _ _ _ _ _ _ _ _ _ _ o1.out o2.out hp.out _ h1.out).mono ?_
  rintro e W3 ⟨rfl, hb⟩
  replace kt := Lib.hid (kt.out.call hb)
  replace hB := Lib.hid (below_on hB.out hb)
  clear hb
  cases b1
  · have ckt := kt.out.cell
    have lkt := kt.out.lt
    go_wp2_with (fail)
    go_ret
    exact ⟨ret_bool (by simpa using hV.out.symm), hB.out⟩
  have ckt := kt.out.cell
  have lkt := kt.out.lt
  go_wp2_with (fail)
  clear ckt lkt
  refine (accepts35_at _ _ _ _ _ _ _ _ _ _ _ _ _ _ _ _ _ o2.out o0.out hp.out _ h2.out).mono ?_
  rintro e W4 ⟨rfl, hb⟩
  replace kt := Lib.hid (kt.out.call hb)
  replace hB := Lib.hid (below_on hB.out hb)
  clear hb
  cases b2
  · have ckt := kt.out.cell
    have lkt := kt.out.lt
    go_wp2_with (fail)
    go_ret
    exact ⟨ret_bool (by simpa using hV.out.symm), hB.out⟩
  have ckt := kt.out.cell
  have lkt := kt.out.lt
  go_wp2_with (fail)
  go_ret
  exact ⟨ret_bool (by simpa using hV.out.symm), hB.out⟩
theorem covers35_at (x0 y0 z0 u0 x1 y1 z1 u1 x2 y2 z2 u2 : Int) (A0 A1 A2 : Option Addr) (n0 c0 n1 c1 n2 c2 : Nat) (pr : Int) (fr : Bool) (px py : Int) (w : World) (hp : onP px py) (v : Bool) (h : covB x0 y0 x1 y1 x2 y2 px py = v) :
    Calls Try.prog 32 #[.agg #[.int .i64 x0, .int .i64 y0, .int .i64 z0, .int .i64 u0, .slice A0 n0 c0, .int .i64 x1, .int .i64 y1, .int .i64 z1, .int .i64 u1, .slice A1 n1 c1, .int .i64 x2, .int .i64 y2, .int .i64 z2, .int .i64 u2, .slice A2 n2 c2, .int .i64 pr, .bool fr], .int .i64 px, .int .i64 py] w fun e w' => e = .returned (.bool v) ∧ Below w.heap.size w w' := h ▸ covers35_any _ _ _ _ _ _ _ _ _ _ _ _ _ _ _ _ _ _ _ _ _ _ _ _ _ _ hp
end Go.Proofs.Ytimgjlogbkgiaaa
