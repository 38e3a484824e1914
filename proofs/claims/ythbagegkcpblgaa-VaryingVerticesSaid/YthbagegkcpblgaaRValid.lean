/- Valid of the reference of chapter 34 reports whether a triangle is valid. -/
import Derived.Test.YthbagegkcpblgaaROn
import Derived.Test.YthbagegkcpblgaaAreaR
import Derived.Test.YthbagegkcpblgaaValid
import Derived.Test.YthbagegkcpblgaaFresh
namespace Go.Proofs.Ythbagegkcpblgaa
open Go.RowKit
attribute [local go_sem] Ext.cell
theorem on_at (x : Int) (w : World) (v : Int) (h : lim x = v) :
    Calls Try.prog 51 #[.int .i64 x] w fun e w' => e = .returned (.int .i64 v) ∧ w = w' := h ▸ on_any _ _
theorem rArea_at (x0 y0 z0 u0 x1 y1 z1 u1 x2 y2 z2 u2 : Int) (A0 A1 A2 : Option Addr) (n0 c0 n1 c1 n2 c2 : Nat) (w : World) (v : Int) (h : areaI x0 y0 x1 y1 x2 y2 = v) :
    Calls Try.prog 52 #[.agg #[.int .i64 x0, .int .i64 y0, .int .i64 z0, .int .i64 u0, .slice A0 n0 c0, .int .i64 x1, .int .i64 y1, .int .i64 z1, .int .i64 u1, .slice A1 n1 c1, .int .i64 x2, .int .i64 y2, .int .i64 z2, .int .i64 u2, .slice A2 n2 c2]] w fun e w' => e = .returned (.int .i64 v) ∧ Below w.heap.size w w' := h ▸ rArea_any _ _ _ _ _ _ _ _ _ _ _ _ _ _ _ _ _ _ _ _ _ _
theorem validB_on (x0 y0 x1 y1 x2 y2 : Int) : validB x0 y0 x1 y1 x2 y2 = (!(lim x0 != x0) && !(lim y0 != y0) && !(lim x1 != x1) && !(lim y1 != y1) && !(lim x2 != x2) && !(lim y2 != y2) && decide (0 < areaI x0 y0 x1 y1 x2 y2)) := by
  unfold validB
  congr 1
  rw [Bool.eq_iff_iff, inRB_iff]
  simp only [bne, Bool.not_not, Bool.and_eq_true, beq_iff_eq, lim_eq_iff]
  omega
set_option maxHeartbeats 8000000 in
theorem rValid_any (x0 y0 z0 u0 x1 y1 z1 u1 x2 y2 z2 u2 : Int) (A0 A1 A2 : Option Addr) (n0 c0 n1 c1 n2 c2 : Nat) (pr : Int) (fr : Bool) (w : World) :
    Calls Try.prog 36 #[.agg #[.int .i64 x0, .int .i64 y0, .int .i64 z0, .int .i64 u0, .slice A0 n0 c0, .int .i64 x1, .int .i64 y1, .int .i64 z1, .int .i64 u1, .slice A1 n1 c1, .int .i64 x2, .int .i64 y2, .int .i64 z2, .int .i64 u2, .slice A2 n2 c2, .int .i64 pr, .bool fr]] w fun e w' => e = .returned (.bool (validB x0 y0 x1 y1 x2 y2)) ∧ Below w.heap.size w w' := by
  have hw0 : IntKind.i64.wrap 0 = 0 := by decide
  have hw1 : IntKind.i64.wrap 1 = 1 := by decide
  have hw2 : IntKind.i64.wrap 2 = 2 := by decide
  have hV := validB_on x0 y0 x1 y1 x2 y2
  obtain ⟨ax0, hx0⟩ : ∃ a, lim x0 = a := ⟨_, rfl⟩
  rw [hx0] at hV
  obtain ⟨bx0, ex0⟩ : ∃ b, (ax0 != x0) = b := ⟨_, rfl⟩
  rw [ex0] at hV
  replace hx0 := Lib.hid hx0
  obtain ⟨ay0, hy0⟩ : ∃ a, lim y0 = a := ⟨_, rfl⟩
  rw [hy0] at hV
  obtain ⟨by0, ey0⟩ : ∃ b, (ay0 != y0) = b := ⟨_, rfl⟩
  rw [ey0] at hV
  replace hy0 := Lib.hid hy0
  obtain ⟨ax1, hx1⟩ : ∃ a, lim x1 = a := ⟨_, rfl⟩
  rw [hx1] at hV
  obtain ⟨bx1, ex1⟩ : ∃ b, (ax1 != x1) = b := ⟨_, rfl⟩
  rw [ex1] at hV
  replace hx1 := Lib.hid hx1
  obtain ⟨ay1, hy1⟩ : ∃ a, lim y1 = a := ⟨_, rfl⟩
  rw [hy1] at hV
  obtain ⟨by1, ey1⟩ : ∃ b, (ay1 != y1) = b := ⟨_, rfl⟩
  rw [ey1] at hV
  replace hy1 := Lib.hid hy1
  obtain ⟨ax2, hx2⟩ : ∃ a, lim x2 = a := ⟨_, rfl⟩
  rw [hx2] at hV
  obtain ⟨bx2, ex2⟩ : ∃ b, (ax2 != x2) = b := ⟨_, rfl⟩
  rw [ex2] at hV
  replace hx2 := Lib.hid hx2
  obtain ⟨ay2, hy2⟩ : ∃ a, lim y2 = a := ⟨_, rfl⟩
  rw [hy2] at hV
  obtain ⟨by2, ey2⟩ : ∃ b, (ay2 != y2) = b := ⟨_, rfl⟩
  rw [ey2] at hV
  replace hy2 := Lib.hid hy2
  obtain ⟨ar, har⟩ : ∃ a, areaI x0 y0 x1 y1 x2 y2 = a := ⟨_, rfl⟩
  rw [har] at hV
  replace har := Lib.hid har
  replace hV := Lib.hid hV
  go_enter Try.func36, Try.ntmps36
  have kt := Lib.hid (Blk.new w 27 #[.int .i64 x0, .int .i64 y0, .int .i64 z0, .int .i64 u0, .slice A0 n0 c0, .int .i64 x1, .int .i64 y1, .int .i64 z1, .int .i64 u1, .slice A1 n1 c1, .int .i64 x2, .int .i64 y2, .int .i64 z2, .int .i64 u2, .slice A2 n2 c2, .int .i64 pr, .bool fr])
  have hB : Hid (Below w.heap.size w (w.alloc (.cells #[.int .i64 x0, .int .i64 y0, .int .i64 z0, .int .i64 u0, .slice A0 n0 c0, .int .i64 x1, .int .i64 y1, .int .i64 z1, .int .i64 u1, .slice A1 n1 c1, .int .i64 x2, .int .i64 y2, .int .i64 z2, .int .i64 u2, .slice A2 n2 c2, .int .i64 pr, .bool fr] 27))) := Lib.hid (by go_grown)
  go_wp2_with fail
  generalize (w.alloc (.cells #[.int .i64 x0, .int .i64 y0, .int .i64 z0, .int .i64 u0, .slice A0 n0 c0, .int .i64 x1, .int .i64 y1, .int .i64 z1, .int .i64 u1, .slice A1 n1 c1, .int .i64 x2, .int .i64 y2, .int .i64 z2, .int .i64 u2, .slice A2 n2 c2, .int .i64 pr, .bool fr] 27)) = W1 at *
  refine wp_loop_rounds 4 ?_
  rw [rounds_succ]
  have ckt := kt.out.cell
  have lkt := kt.out.lt
  go_wp2_with (fail)
  clear ckt lkt
  cases bx0
  rotate_left
  · have ckt := kt.out.cell
    have lkt := kt.out.lt
    refine wp_region_ext (W1.heap.size) (by kernel_rfl) (by kernel_rfl) ?_
    repeat (go_big_quiet_step (first | (go_at_call 51; exact ext_same (on_at _ _ _ hx0.out)) | (go_at_call 51; exact ext_same (on_at _ _ _ hy0.out))))
    refine wpQuiet_nil ?_
    intro W2 hwx
    obtain ⟨⟨W2, hb⟩, rfl⟩ := hwx
    clear ckt lkt
    replace kt := Lib.hid (kt.out.call hb)
    replace hB := Lib.hid (below_on hB.out hb)
    clear hb
    have ckt := kt.out.cell
    have lkt := kt.out.lt
    go_wp2_with (fail)
    go_ret
    exact ⟨ret_bool (by simpa using hV.out.symm), hB.out⟩
  cases by0
  rotate_left
  · have ckt := kt.out.cell
    have lkt := kt.out.lt
    refine wp_region_ext (W1.heap.size) (by kernel_rfl) (by kernel_rfl) ?_
    repeat (go_big_quiet_step (first | (go_at_call 51; exact ext_same (on_at _ _ _ hx0.out)) | (go_at_call 51; exact ext_same (on_at _ _ _ hy0.out))))
    refine wpQuiet_nil ?_
    intro W3 hwx
    obtain ⟨⟨W3, hb⟩, rfl⟩ := hwx
    clear ckt lkt
    replace kt := Lib.hid (kt.out.call hb)
    replace hB := Lib.hid (below_on hB.out hb)
    clear hb
    have ckt := kt.out.cell
    have lkt := kt.out.lt
    go_wp2_with (fail)
    go_ret
    exact ⟨ret_bool (by simpa using hV.out.symm), hB.out⟩
  have ckt := kt.out.cell
  have lkt := kt.out.lt
  refine wp_region_ext (W1.heap.size) (by kernel_rfl) (by kernel_rfl) ?_
  repeat (go_big_quiet_step (first | (go_at_call 51; exact ext_same (on_at _ _ _ hx0.out)) | (go_at_call 51; exact ext_same (on_at _ _ _ hy0.out))))
  refine wpQuiet_nil ?_
  intro W4 hwx
  obtain ⟨⟨W4, hb⟩, rfl⟩ := hwx
  clear ckt lkt
  replace kt := Lib.hid (kt.out.call hb)
  replace hB := Lib.hid (below_on hB.out hb)
  clear hb
  have ckt := kt.out.cell
  have lkt := kt.out.lt
  go_wp2_with (fail)
  rw [rounds_succ]
  go_wp2_with (fail)
  clear ckt lkt
  cases bx1
  rotate_left
  · have ckt := kt.out.cell
    have lkt := kt.out.lt
    refine wp_region_ext (W4.heap.size) (by kernel_rfl) (by kernel_rfl) ?_
    repeat (go_big_quiet_step (first | (go_at_call 51; exact ext_same (on_at _ _ _ hx1.out)) | (go_at_call 51; exact ext_same (on_at _ _ _ hy1.out))))
    refine wpQuiet_nil ?_
    intro W5 hwx
    obtain ⟨⟨W5, hb⟩, rfl⟩ := hwx
    clear ckt lkt
    replace kt := Lib.hid (kt.out.call hb)
    replace hB := Lib.hid (below_on hB.out hb)
    clear hb
    have ckt := kt.out.cell
    have lkt := kt.out.lt
    go_wp2_with (fail)
    go_ret
    exact ⟨ret_bool (by simpa using hV.out.symm), hB.out⟩
  cases by1
  rotate_left
  · have ckt := kt.out.cell
    have lkt := kt.out.lt
    refine wp_region_ext (W4.heap.size) (by kernel_rfl) (by kernel_rfl) ?_
    repeat (go_big_quiet_step (first | (go_at_call 51; exact ext_same (on_at _ _ _ hx1.out)) | (go_at_call 51; exact ext_same (on_at _ _ _ hy1.out))))
    refine wpQuiet_nil ?_
    intro W6 hwx
    obtain ⟨⟨W6, hb⟩, rfl⟩ := hwx
    clear ckt lkt
    replace kt := Lib.hid (kt.out.call hb)
    replace hB := Lib.hid (below_on hB.out hb)
    clear hb
    have ckt := kt.out.cell
    have lkt := kt.out.lt
    go_wp2_with (fail)
    go_ret
    exact ⟨ret_bool (by simpa using hV.out.symm), hB.out⟩
  have ckt := kt.out.cell
  have lkt := kt.out.lt
  refine wp_region_ext (W4.heap.size) (by kernel_rfl) (by kernel_rfl) ?_
  repeat (go_big_quiet_step (first | (go_at_call 51; exact ext_same (on_at _ _ _ hx1.out)) | (go_at_call 51; exact ext_same (on_at _ _ _ hy1.out))))
  refine wpQuiet_nil ?_
  intro W7 hwx
  obtain ⟨⟨W7, hb⟩, rfl⟩ := hwx
  clear ckt lkt
  replace kt := Lib.hid (kt.out.call hb)
  replace hB := Lib.hid (below_on hB.out hb)
  clear hb
  have ckt := kt.out.cell
  have lkt := kt.out.lt
  go_wp2_with (fail)
  rw [rounds_succ]
  go_wp2_with (fail)
  clear ckt lkt
  cases bx2
  rotate_left
  · have ckt := kt.out.cell
    have lkt := kt.out.lt
    refine wp_region_ext (W7.heap.size) (by kernel_rfl) (by kernel_rfl) ?_
    repeat (go_big_quiet_step (first | (go_at_call 51; exact ext_same (on_at _ _ _ hx2.out)) | (go_at_call 51; exact ext_same (on_at _ _ _ hy2.out))))
    refine wpQuiet_nil ?_
    intro W8 hwx
    obtain ⟨⟨W8, hb⟩, rfl⟩ := hwx
    clear ckt lkt
    replace kt := Lib.hid (kt.out.call hb)
    replace hB := Lib.hid (below_on hB.out hb)
    clear hb
    have ckt := kt.out.cell
    have lkt := kt.out.lt
    go_wp2_with (fail)
    go_ret
    exact ⟨ret_bool (by simpa using hV.out.symm), hB.out⟩
  cases by2
  rotate_left
  · have ckt := kt.out.cell
    have lkt := kt.out.lt
    refine wp_region_ext (W7.heap.size) (by kernel_rfl) (by kernel_rfl) ?_
    repeat (go_big_quiet_step (first | (go_at_call 51; exact ext_same (on_at _ _ _ hx2.out)) | (go_at_call 51; exact ext_same (on_at _ _ _ hy2.out))))
    refine wpQuiet_nil ?_
    intro W9 hwx
    obtain ⟨⟨W9, hb⟩, rfl⟩ := hwx
    clear ckt lkt
    replace kt := Lib.hid (kt.out.call hb)
    replace hB := Lib.hid (below_on hB.out hb)
    clear hb
    have ckt := kt.out.cell
    have lkt := kt.out.lt
    go_wp2_with (fail)
    go_ret
    exact ⟨ret_bool (by simpa using hV.out.symm), hB.out⟩
  have ckt := kt.out.cell
  have lkt := kt.out.lt
  refine wp_region_ext (W7.heap.size) (by kernel_rfl) (by kernel_rfl) ?_
  repeat (go_big_quiet_step (first | (go_at_call 51; exact ext_same (on_at _ _ _ hx2.out)) | (go_at_call 51; exact ext_same (on_at _ _ _ hy2.out))))
  refine wpQuiet_nil ?_
  intro W10 hwx
  obtain ⟨⟨W10, hb⟩, rfl⟩ := hwx
  clear ckt lkt
  replace kt := Lib.hid (kt.out.call hb)
  replace hB := Lib.hid (below_on hB.out hb)
  clear hb
  have ckt := kt.out.cell
  have lkt := kt.out.lt
  go_wp2_with (fail)
  rw [rounds_succ]
  go_wp2_with (first | refine wpList_load_sub rfl 25 _ rfl _ 0 rfl _ _ #[.int .i64 x0, .int .i64 y0, .int .i64 z0, .int .i64 u0, .slice A0 n0 c0, .int .i64 x1, .int .i64 y1, .int .i64 z1, .int .i64 u1, .slice A1 n1 c1, .int .i64 x2, .int .i64 y2, .int .i64 z2, .int .i64 u2, .slice A2 n2 c2] _ _ kt.out (by kernel_rfl) Try.underlying25 rfl (by kernel_rfl) ?_)
  clear ckt lkt
  refine (rArea_at _ _ _ _ _ _ _ _ _ _ _ _ _ _ _ _ _ _ _ _ _ _ _ har.out).mono ?_
  rintro e W11 ⟨rfl, hb⟩
  replace kt := Lib.hid (kt.out.call hb)
  replace hB := Lib.hid (below_on hB.out hb)
  clear hb
  go_wp2
  go_ret
  exact ⟨ret_bool (by simpa using hV.out.symm), hB.out⟩
theorem rValid_at (x0 y0 z0 u0 x1 y1 z1 u1 x2 y2 z2 u2 : Int) (A0 A1 A2 : Option Addr) (n0 c0 n1 c1 n2 c2 : Nat) (pr : Int) (fr : Bool) (w : World) (v : Bool) (h : validB x0 y0 x1 y1 x2 y2 = v) :
    Calls Try.prog 36 #[.agg #[.int .i64 x0, .int .i64 y0, .int .i64 z0, .int .i64 u0, .slice A0 n0 c0, .int .i64 x1, .int .i64 y1, .int .i64 z1, .int .i64 u1, .slice A1 n1 c1, .int .i64 x2, .int .i64 y2, .int .i64 z2, .int .i64 u2, .slice A2 n2 c2, .int .i64 pr, .bool fr]] w fun e w' => e = .returned (.bool v) ∧ Below w.heap.size w w' := h ▸ rValid_any _ _ _ _ _ _ _ _ _ _ _ _ _ _ _ _ _ _ _ _ _ _ _ _
end Go.Proofs.Ythbagegkcpblgaa
