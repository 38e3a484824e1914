/- Touches of package frustumref36 reports whether the bounding box of a triangle touches a tile. -/
import Derived.Test.YtimgjlogbkgiaaaBdV
namespace Go.Proofs.Ytimgjlogbkgiaaa
open Go.RowKit
attribute [local go_sem] Ext.cell
theorem rTileRect_tup (W H t : Int) (w : World) (a b c d : Int) (ha : rectX W H t = a) (hb : rectY W H t = b) (hc : rectW W H t = c) (hd : rectH W H t = d) :
    Calls Try.prog 12 #[.int .i64 W, .int .i64 H, .int .i64 t] w fun e w' => e = .returned (.tuple #[.int .i64 a, .int .i64 b, .int .i64 c, .int .i64 d]) ∧ Below w.heap.size w w' := by
  subst ha hb hc hd; exact rTileRect_any W H t w
set_option maxHeartbeats 4000000 in
theorem rTouches_any (x0 y0 z0 u0 x1 y1 z1 u1 x2 y2 z2 u2 : Int) (A0 A1 A2 : Option Addr) (n0 c0 n1 c1 n2 c2 : Nat) (pr : Int) (fr : Bool) (W H t : Int) (w : World) :
    Calls Try.prog 19 #[.agg #[.int .i64 x0, .int .i64 y0, .int .i64 z0, .int .i64 u0, .slice A0 n0 c0, .int .i64 x1, .int .i64 y1, .int .i64 z1, .int .i64 u1, .slice A1 n1 c1, .int .i64 x2, .int .i64 y2, .int .i64 z2, .int .i64 u2, .slice A2 n2 c2, .int .i64 pr, .bool fr], .int .i64 W, .int .i64 H, .int .i64 t] w fun e w' => e = .returned (.bool (tcB x0 y0 x1 y1 x2 y2 W H t)) ∧ Below w.heap.size w w' := by
  have hV : tcB x0 y0 x1 y1 x2 y2 W H t = (!(rectW W H t == 0) && (validB x0 y0 x1 y1 x2 y2 && (decide (min (min x0 x1) x2 ≤ (rectX W H t + rectW W H t) * 256) && decide (rectX W H t * 256 ≤ max (max x0 x1) x2) && decide (min (min y0 y1) y2 ≤ (rectY W H t + rectH W H t) * 256) && decide (rectY W H t * 256 ≤ max (max y0 y1) y2)))) := rfl
  obtain ⟨q1, q2, q3, q4, q5, q6, q7, q8⟩ := rect_bd W H t
  obtain ⟨rx, hrx⟩ : ∃ a, rectX W H t = a := ⟨_, rfl⟩
  obtain ⟨ry, hry⟩ : ∃ a, rectY W H t = a := ⟨_, rfl⟩
  obtain ⟨rw_, hrw_⟩ : ∃ a, rectW W H t = a := ⟨_, rfl⟩
  obtain ⟨rh, hrh⟩ : ∃ a, rectH W H t = a := ⟨_, rfl⟩
  rw [hrx] at q1 q2
  rw [hry] at q3 q4
  rw [hrw_] at q5 q6
  rw [hrh] at q7 q8
  rw [hrx, hry, hrw_, hrh] at hV
  obtain ⟨z, ez⟩ : ∃ z, (rw_ == 0) = z := ⟨_, rfl⟩
  obtain ⟨v, hv⟩ : ∃ v, validB x0 y0 x1 y1 x2 y2 = v := ⟨_, rfl⟩
  rw [ez, hv] at hV
  have hw1 : IntKind.i64.wrap (rx + rw_) = rx + rw_ := by rw [IntKind.wrap_i64]; omega
  have hw2 : IntKind.i64.wrap ((rx + rw_) * 256) = (rx + rw_) * 256 := by rw [IntKind.wrap_i64]; omega
  have hw3 : IntKind.i64.wrap (rx * 256) = rx * 256 := by rw [IntKind.wrap_i64]; omega
  have hw4 : IntKind.i64.wrap (ry + rh) = ry + rh := by rw [IntKind.wrap_i64]; omega
  have hw5 : IntKind.i64.wrap ((ry + rh) * 256) = (ry + rh) * 256 := by rw [IntKind.wrap_i64]; omega
  have hw6 : IntKind.i64.wrap (ry * 256) = ry * 256 := by rw [IntKind.wrap_i64]; omega
  have hb : v = true → bdV x0 y0 x1 y1 x2 y2 = .tuple #[.int .i64 (min (min x0 x1) x2), .int .i64 (min (min y0 y1) y2), .int .i64 (max (max x0 x1) x2), .int .i64 (max (max y0 y1) y2)] := fun e => by unfold bdV; rw [hv, e]; rfl
  clear q1 q2 q3 q4 q5 q6 q7 q8
  generalize min (min x0 x1) x2 = l at hV hb
  generalize min (min y0 y1) y2 = tp at hV hb
  generalize max (max x0 x1) x2 = r at hV hb
  generalize max (max y0 y1) y2 = bo at hV hb
  obtain ⟨b1, eb1⟩ : ∃ b, decide (l ≤ (rx + rw_) * 256) = b := ⟨_, rfl⟩
  obtain ⟨b2, eb2⟩ : ∃ b, decide (rx * 256 ≤ r) = b := ⟨_, rfl⟩
  obtain ⟨b3, eb3⟩ : ∃ b, decide (tp ≤ (ry + rh) * 256) = b := ⟨_, rfl⟩
  obtain ⟨b4, eb4⟩ : ∃ b, decide (ry * 256 ≤ bo) = b := ⟨_, rfl⟩
  rw [eb1, eb2, eb3, eb4] at hV
  replace hrx := Lib.hid hrx
  replace hry := Lib.hid hry
  replace hrw_ := Lib.hid hrw_
  replace hrh := Lib.hid hrh
  replace hv := Lib.hid hv
  replace hV := Lib.hid hV
  replace hb := Lib.hid hb
  go_enter Try.func19, Try.ntmps19
  have kt := Lib.hid (Blk.new w 37 #[.int .i64 x0, .int .i64 y0, .int .i64 z0, .int .i64 u0, .slice A0 n0 c0, .int .i64 x1, .int .i64 y1, .int .i64 z1, .int .i64 u1, .slice A1 n1 c1, .int .i64 x2, .int .i64 y2, .int .i64 z2, .int .i64 u2, .slice A2 n2 c2, .int .i64 pr, .bool fr])
  have hB : Hid (Below w.heap.size w (w.alloc (.cells #[.int .i64 x0, .int .i64 y0, .int .i64 z0, .int .i64 u0, .slice A0 n0 c0, .int .i64 x1, .int .i64 y1, .int .i64 z1, .int .i64 u1, .slice A1 n1 c1, .int .i64 x2, .int .i64 y2, .int .i64 z2, .int .i64 u2, .slice A2 n2 c2, .int .i64 pr, .bool fr] 37))) := Lib.hid (by go_grown)
  have ckt := kt.out.cell
  have lkt := kt.out.lt
  go_wp2_with (first | refine wpList_load_row rfl 37 _ rfl _ rfl _ _ _ _ kt.out Try.underlying37 rfl triInfo ?_ | refine wpList_load_rowG rfl 37 _ rfl _ rfl _ _ _ _ kt.out Try.underlying37 rfl triInfo ?_)
  clear ckt lkt
  refine (rTileRect_tup _ _ _ _ _ _ _ _ hrx.out hry.out hrw_.out hrh.out).mono ?_
  rintro e W1 ⟨rfl, hb⟩
  replace kt := Lib.hid (kt.out.call hb)
  replace hB := Lib.hid (below_on hB.out hb)
  clear hb
  cases z
  rotate_left
  · have ckt := kt.out.cell
    have lkt := kt.out.lt
    go_wp2_with (first | refine wpList_load_row rfl 37 _ rfl _ rfl _ _ _ _ kt.out Try.underlying37 rfl triInfo ?_ | refine wpList_load_rowG rfl 37 _ rfl _ rfl _ _ _ _ kt.out Try.underlying37 rfl triInfo ?_)
    go_ret
    exact ⟨ret_bool (by simpa using hV.out.symm), hB.out⟩
  have ckt := kt.out.cell
  have lkt := kt.out.lt
  go_wp2_with (first | refine wpList_load_row rfl 37 _ rfl _ rfl _ _ _ _ kt.out Try.underlying37 rfl triInfo ?_ | refine wpList_load_rowG rfl 37 _ rfl _ rfl _ _ _ _ kt.out Try.underlying37 rfl triInfo ?_)
  clear ckt lkt
  refine (rValid_at _ _ _ _ _ _ _ _ _ _ _ _ _ _ _ _ _ _ _ _ _ _ _ _ _ hv.out).mono ?_
  rintro e W2 ⟨rfl, hb⟩
  replace kt := Lib.hid (kt.out.call hb)
  replace hB := Lib.hid (below_on hB.out hb)
  clear hb
  cases v
  · have ckt := kt.out.cell
    have lkt := kt.out.lt
    go_wp2_with (first | refine wpList_load_row rfl 37 _ rfl _ rfl _ _ _ _ kt.out Try.underlying37 rfl triInfo ?_ | refine wpList_load_rowG rfl 37 _ rfl _ rfl _ _ _ _ kt.out Try.underlying37 rfl triInfo ?_)
    go_ret
    exact ⟨ret_bool (by simpa using hV.out.symm), hB.out⟩
  have ckt := kt.out.cell
  have lkt := kt.out.lt
  go_wp2_with (first | refine wpList_load_row rfl 37 _ rfl _ rfl _ _ _ _ kt.out Try.underlying37 rfl triInfo ?_ | refine wpList_load_rowG rfl 37 _ rfl _ rfl _ _ _ _ kt.out Try.underlying37 rfl triInfo ?_)
  clear ckt lkt
  refine (rBounds_tup _ _ _ _ _ _ _ _ _ _ _ _ _ _ _ _ _ _ _ _ _ _ _ _ _ _ _ _ (hb.out (by simp))).mono ?_
  rintro e W3 ⟨rfl, hb⟩
  replace kt := Lib.hid (kt.out.call hb)
  replace hB := Lib.hid (below_on hB.out hb)
  clear hb
  cases b1
  · go_wp2
    go_ret
    exact ⟨ret_bool (by simpa using hV.out.symm), hB.out⟩
  cases b2
  · go_wp2
    go_ret
    exact ⟨ret_bool (by simpa using hV.out.symm), hB.out⟩
  cases b3
  · go_wp2
    go_ret
    exact ⟨ret_bool (by simpa using hV.out.symm), hB.out⟩
  cases b4
  all_goals
    go_wp2
    go_ret
    exact ⟨ret_bool (by simpa using hV.out.symm), hB.out⟩
theorem rTouches_at (x0 y0 z0 u0 x1 y1 z1 u1 x2 y2 z2 u2 : Int) (A0 A1 A2 : Option Addr) (n0 c0 n1 c1 n2 c2 : Nat) (pr : Int) (fr : Bool) (W H t : Int) (w : World) (v : Bool) (h : tcB x0 y0 x1 y1 x2 y2 W H t = v) :
    Calls Try.prog 19 #[.agg #[.int .i64 x0, .int .i64 y0, .int .i64 z0, .int .i64 u0, .slice A0 n0 c0, .int .i64 x1, .int .i64 y1, .int .i64 z1, .int .i64 u1, .slice A1 n1 c1, .int .i64 x2, .int .i64 y2, .int .i64 z2, .int .i64 u2, .slice A2 n2 c2, .int .i64 pr, .bool fr], .int .i64 W, .int .i64 H, .int .i64 t] w fun e w' => e = .returned (.bool v) ∧ Below w.heap.size w w' := h ▸ rTouches_any _ _ _ _ _ _ _ _ _ _ _ _ _ _ _ _ _ _ _ _ _ _ _ _ _ _ _
end Go.Proofs.Ytimgjlogbkgiaaa
