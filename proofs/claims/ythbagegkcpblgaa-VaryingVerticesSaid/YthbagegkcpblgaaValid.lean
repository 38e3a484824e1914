/- edge.Valid reports whether a triangle lies on the screen and has a positive area: for any triangle, in any world. -/
import Derived.Test.YthbagegkcpblgaaArea
import Derived.Test.YthbagegkcpblgaaEdgeW
namespace Go.Proofs.Ythbagegkcpblgaa
open Go.RowKit
theorem triInfo : (Try.prog.info? 27).map (·.size) = some 17 := by kernel_rfl
theorem inRange_at (x0 y0 z0 u0 x1 y1 z1 u1 x2 y2 z2 u2 : Int) (A0 A1 A2 : Option Addr) (n0 c0 n1 c1 n2 c2 : Nat) (w : World) (v : Bool) (h : inRB x0 y0 x1 y1 x2 y2 = v) :
    Calls Try.prog 49 #[.agg #[.int .i64 x0, .int .i64 y0, .int .i64 z0, .int .i64 u0, .slice A0 n0 c0, .int .i64 x1, .int .i64 y1, .int .i64 z1, .int .i64 u1, .slice A1 n1 c1, .int .i64 x2, .int .i64 y2, .int .i64 z2, .int .i64 u2, .slice A2 n2 c2]] w fun e w' => e = .returned (.bool v) ∧ Below w.heap.size w w' := h ▸ inRange_any _ _ _ _ _ _ _ _ _ _ _ _ _ _ _ _ _ _ _ _ _ _
set_option maxHeartbeats 4000000 in
theorem valid_any (x0 y0 z0 u0 x1 y1 z1 u1 x2 y2 z2 u2 : Int) (A0 A1 A2 : Option Addr) (n0 c0 n1 c1 n2 c2 : Nat) (pr : Int) (fr : Bool) (w : World) :
    Calls Try.prog 25 #[.agg #[.int .i64 x0, .int .i64 y0, .int .i64 z0, .int .i64 u0, .slice A0 n0 c0, .int .i64 x1, .int .i64 y1, .int .i64 z1, .int .i64 u1, .slice A1 n1 c1, .int .i64 x2, .int .i64 y2, .int .i64 z2, .int .i64 u2, .slice A2 n2 c2, .int .i64 pr, .bool fr]] w fun e w' => e = .returned (.bool (validB x0 y0 x1 y1 x2 y2)) ∧ Below w.heap.size w w' := by
  cases h : inRB x0 y0 x1 y1 x2 y2
  · have H := Lib.hid h
    have HF : Hid (validB x0 y0 x1 y1 x2 y2 = false) := Lib.hid (by unfold validB; rw [h]; rfl)
    clear h
    have hg0 := Lib.hid (Blk.new w 27 #[.int .i64 x0, .int .i64 y0, .int .i64 z0, .int .i64 u0, .slice A0 n0 c0, .int .i64 x1, .int .i64 y1, .int .i64 z1, .int .i64 u1, .slice A1 n1 c1, .int .i64 x2, .int .i64 y2, .int .i64 z2, .int .i64 u2, .slice A2 n2 c2, .int .i64 pr, .bool fr])
    go_enter Try.func25, Try.ntmps25
    go_wp2_with (refine wpList_load_sub rfl 25 _ rfl _ 0 rfl _ _ #[.int .i64 x0, .int .i64 y0, .int .i64 z0, .int .i64 u0, .slice A0 n0 c0, .int .i64 x1, .int .i64 y1, .int .i64 z1, .int .i64 u1, .slice A1 n1 c1, .int .i64 x2, .int .i64 y2, .int .i64 z2, .int .i64 u2, .slice A2 n2 c2] _ _ hg0.out rfl Try.underlying25 rfl vsInfo ?_)
    refine (inRange_at _ _ _ _ _ _ _ _ _ _ _ _ _ _ _ _ _ _ _ _ _ _ _ H.out).mono ?_
    rintro e w1 ⟨rfl, hb⟩
    have hk1 := Lib.hid (hg0.out.call hb)
    have hB1 := Lib.hid (below_box hb)
    clear hb
    go_wp2
    go_ret
    exact ⟨ret_bool (by rw [HF.out] <;> rfl), hB1.out⟩
  · have H := Lib.hid h
    have HF : Hid (validB x0 y0 x1 y1 x2 y2 = decide (0 < areaI x0 y0 x1 y1 x2 y2)) := Lib.hid (by unfold validB; rw [h]; rfl)
    clear h
    have hg0 := Lib.hid (Blk.new w 27 #[.int .i64 x0, .int .i64 y0, .int .i64 z0, .int .i64 u0, .slice A0 n0 c0, .int .i64 x1, .int .i64 y1, .int .i64 z1, .int .i64 u1, .slice A1 n1 c1, .int .i64 x2, .int .i64 y2, .int .i64 z2, .int .i64 u2, .slice A2 n2 c2, .int .i64 pr, .bool fr])
    go_enter Try.func25, Try.ntmps25
    go_wp2_with (refine wpList_load_sub rfl 25 _ rfl _ 0 rfl _ _ #[.int .i64 x0, .int .i64 y0, .int .i64 z0, .int .i64 u0, .slice A0 n0 c0, .int .i64 x1, .int .i64 y1, .int .i64 z1, .int .i64 u1, .slice A1 n1 c1, .int .i64 x2, .int .i64 y2, .int .i64 z2, .int .i64 u2, .slice A2 n2 c2] _ _ hg0.out rfl Try.underlying25 rfl vsInfo ?_)
    refine (inRange_at _ _ _ _ _ _ _ _ _ _ _ _ _ _ _ _ _ _ _ _ _ _ _ H.out).mono ?_
    rintro e w1 ⟨rfl, hb⟩
    have hk1 := Lib.hid (hg0.out.call hb)
    have hB1 := Lib.hid (below_box hb)
    clear hb
    go_wp2_with (refine wpList_load_subG rfl 25 _ rfl _ 0 rfl _ _ #[.int .i64 x0, .int .i64 y0, .int .i64 z0, .int .i64 u0, .slice A0 n0 c0, .int .i64 x1, .int .i64 y1, .int .i64 z1, .int .i64 u1, .slice A1 n1 c1, .int .i64 x2, .int .i64 y2, .int .i64 z2, .int .i64 u2, .slice A2 n2 c2] _ _ hk1.out rfl Try.underlying25 rfl vsInfo ?_)
    refine (area_any _ _ _ _ _ _ _ _ _ _ _ _ _ _ _ _ _ _ _ _ _ _).mono ?_
    rintro e w2 ⟨rfl, hb⟩
    have hB2 := Lib.hid (below_on hB1.out hb)
    clear hb
    go_wp2
    go_ret
    exact ⟨ret_bool (by rw [HF.out] <;> rfl), hB2.out⟩
theorem valid_at (x0 y0 z0 u0 x1 y1 z1 u1 x2 y2 z2 u2 : Int) (A0 A1 A2 : Option Addr) (n0 c0 n1 c1 n2 c2 : Nat) (pr : Int) (fr : Bool) (w : World) (v : Bool) (h : validB x0 y0 x1 y1 x2 y2 = v) :
    Calls Try.prog 25 #[.agg #[.int .i64 x0, .int .i64 y0, .int .i64 z0, .int .i64 u0, .slice A0 n0 c0, .int .i64 x1, .int .i64 y1, .int .i64 z1, .int .i64 u1, .slice A1 n1 c1, .int .i64 x2, .int .i64 y2, .int .i64 z2, .int .i64 u2, .slice A2 n2 c2, .int .i64 pr, .bool fr]] w fun e w' => e = .returned (.bool v) ∧ Below w.heap.size w w' := h ▸ valid_any _ _ _ _ _ _ _ _ _ _ _ _ _ _ _ _ _ _ _ _ _ _ _ _
end Go.Proofs.Ythbagegkcpblgaa
