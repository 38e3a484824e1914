/- The contracts of Linear and Perspective at every triangle; the example of chapter 37. -/
import Derived.Test.YthbagegkcpblgaaVar4
import Derived.Test.YthbagegkcpblgaaVar6
import Derived.Test.YthbagegkcpblgaaSame37
import Derived.Test.YthbagegkcpblgaaEq2
import Derived.Test.YthbagegkcpblgaaStSub
namespace Go.Proofs.Ythbagegkcpblgaa
open Go.RowKit
attribute [local go_sem] Ext.cell
/-- The two ratios of Perspective, of the weights and of the weights with the depths' factors. -/
def PRes (m0 m1 m2 p0 p1 p2 r0 r1 : Int) : Prop :=
  (p0 = 0 ∧ p1 = 0 ∧ p2 = 0 ∧ ratio m0 (m0 + m1 + m2) = r0 ∧ ratio m1 (m0 + m1 + m2) = r1) ∨ (¬ (p0 = 0 ∧ p1 = 0 ∧ p2 = 0) ∧ ratio p0 (p0 + p1 + p2) = r0 ∧ ratio p1 (p0 + p1 + p2) = r1)
theorem pres_ex (m0 m1 m2 p0 p1 p2 : Int) : ∃ r0 r1, PRes m0 m1 m2 p0 p1 p2 r0 r1 := by
  by_cases h : p0 = 0 ∧ p1 = 0 ∧ p2 = 0
  · exact ⟨_, _, .inl ⟨h.1, h.2.1, h.2.2, rfl, rfl⟩⟩
  · exact ⟨_, _, .inr ⟨h, rfl, rfl⟩⟩
theorem persp_at (x0 y0 z0 u0 x1 y1 z1 u1 x2 y2 z2 u2 : Int) (A0 A1 A2 : Option Addr) (n0 c0 n1 c1 n2 c2 : Nat) (pr : Int) (fr : Bool) (px py : Int) (w : World) (m0 m1 m2 : Int) (h0 : max 0 (wtI (validB x0 y0 x1 y1 x2 y2) x1 y1 x2 y2 px py) = m0) (h1 : max 0 (wtI (validB x0 y0 x1 y1 x2 y2) x2 y2 x0 y0 px py) = m1) (h2 : max 0 (wtI (validB x0 y0 x1 y1 x2 y2) x0 y0 x1 y1 px py) = m2) (p0 p1 p2 : Int) (k0 : m0 * clampI u0 0 16777216 = p0) (k1 : m1 * clampI u1 0 16777216 = p1) (k2 : m2 * clampI u2 0 16777216 = p2) (r0 r1 : Int) (h : PRes m0 m1 m2 p0 p1 p2 r0 r1) :
    Calls Try.prog 19 #[.agg #[.int .i64 x0, .int .i64 y0, .int .i64 z0, .int .i64 u0, .slice A0 n0 c0, .int .i64 x1, .int .i64 y1, .int .i64 z1, .int .i64 u1, .slice A1 n1 c1, .int .i64 x2, .int .i64 y2, .int .i64 z2, .int .i64 u2, .slice A2 n2 c2, .int .i64 pr, .bool fr], .int .i64 px, .int .i64 py] w fun e w' => e = .returned (.agg #[.int .i64 r0, .int .i64 r1]) ∧ Below w.heap.size w w' := by
  rcases h with ⟨e0, e1, e2, q0, q1⟩ | ⟨hz, q0, q1⟩
  · exact persp_zero x0 y0 z0 u0 x1 y1 z1 u1 x2 y2 z2 u2 A0 A1 A2 n0 c0 n1 c1 n2 c2 pr fr px py w m0 m1 m2 h0 h1 h2 (k0.trans e0) (k1.trans e1) (k2.trans e2) r0 r1 q0 q1
  · exact persp_some x0 y0 z0 u0 x1 y1 z1 u1 x2 y2 z2 u2 A0 A1 A2 n0 c0 n1 c1 n2 c2 pr fr px py w m0 m1 m2 h0 h1 h2 p0 p1 p2 k0 k1 k2 hz r0 r1 q0 q1
theorem m_no {v : Bool} {ax ay bx by' px py m : Int} (h : max 0 (wtI v ax ay bx by' px py) = m) (hv : v = false) : m = 0 := by
  subst hv
  unfold wtI at h
  simp at h
  exact h.symm
theorem rLinear_at (x0 y0 z0 u0 x1 y1 z1 u1 x2 y2 z2 u2 : Int) (A0 A1 A2 : Option Addr) (n0 c0 n1 c1 n2 c2 : Nat) (pr : Int) (fr : Bool) (px py : Int) (w : World) (m0 m1 m2 : Int) (h0 : max 0 (wtI (validB x0 y0 x1 y1 x2 y2) x1 y1 x2 y2 px py) = m0) (h1 : max 0 (wtI (validB x0 y0 x1 y1 x2 y2) x2 y2 x0 y0 px py) = m1) (h2 : max 0 (wtI (validB x0 y0 x1 y1 x2 y2) x0 y0 x1 y1 px py) = m2) (r0 r1 : Int) (q0 : ratio m0 (m0 + m1 + m2) = r0) (q1 : ratio m1 (m0 + m1 + m2) = r1) :
    Calls Try.prog 18 #[.agg #[.int .i64 x0, .int .i64 y0, .int .i64 z0, .int .i64 u0, .slice A0 n0 c0, .int .i64 x1, .int .i64 y1, .int .i64 z1, .int .i64 u1, .slice A1 n1 c1, .int .i64 x2, .int .i64 y2, .int .i64 z2, .int .i64 u2, .slice A2 n2 c2, .int .i64 pr, .bool fr], .int .i64 px, .int .i64 py] w fun e w' => e = .returned (.agg #[.int .i64 r0, .int .i64 r1]) ∧ Below w.heap.size w w' := by
  cases hv : validB x0 y0 x1 y1 x2 y2 with
  | true => exact rLinear_yes x0 y0 z0 u0 x1 y1 z1 u1 x2 y2 z2 u2 A0 A1 A2 n0 c0 n1 c1 n2 c2 pr fr px py w m0 m1 m2 h0 h1 h2 r0 r1 q0 q1 hv
  | false =>
    rw [m_no h0 hv, ratio_zero] at q0
    rw [m_no h1 hv, ratio_zero] at q1
    subst q0 q1
    exact rLinear_no x0 y0 z0 u0 x1 y1 z1 u1 x2 y2 z2 u2 A0 A1 A2 n0 c0 n1 c1 n2 c2 pr fr px py w hv
theorem rPersp_at (x0 y0 z0 u0 x1 y1 z1 u1 x2 y2 z2 u2 : Int) (A0 A1 A2 : Option Addr) (n0 c0 n1 c1 n2 c2 : Nat) (pr : Int) (fr : Bool) (px py : Int) (w : World) (m0 m1 m2 : Int) (h0 : max 0 (wtI (validB x0 y0 x1 y1 x2 y2) x1 y1 x2 y2 px py) = m0) (h1 : max 0 (wtI (validB x0 y0 x1 y1 x2 y2) x2 y2 x0 y0 px py) = m1) (h2 : max 0 (wtI (validB x0 y0 x1 y1 x2 y2) x0 y0 x1 y1 px py) = m2) (p0 p1 p2 : Int) (k0 : m0 * clampI u0 0 16777216 = p0) (k1 : m1 * clampI u1 0 16777216 = p1) (k2 : m2 * clampI u2 0 16777216 = p2) (r0 r1 : Int) (h : PRes m0 m1 m2 p0 p1 p2 r0 r1) :
    Calls Try.prog 20 #[.agg #[.int .i64 x0, .int .i64 y0, .int .i64 z0, .int .i64 u0, .slice A0 n0 c0, .int .i64 x1, .int .i64 y1, .int .i64 z1, .int .i64 u1, .slice A1 n1 c1, .int .i64 x2, .int .i64 y2, .int .i64 z2, .int .i64 u2, .slice A2 n2 c2, .int .i64 pr, .bool fr], .int .i64 px, .int .i64 py] w fun e w' => e = .returned (.agg #[.int .i64 r0, .int .i64 r1]) ∧ Below w.heap.size w w' := by
  cases hv : validB x0 y0 x1 y1 x2 y2 with
  | true =>
    rcases h with ⟨e0, e1, e2, q0, q1⟩ | ⟨hz, q0, q1⟩
    · exact rPersp_zero x0 y0 z0 u0 x1 y1 z1 u1 x2 y2 z2 u2 A0 A1 A2 n0 c0 n1 c1 n2 c2 pr fr px py w m0 m1 m2 h0 h1 h2 (k0.trans e0) (k1.trans e1) (k2.trans e2) r0 r1 q0 q1 hv
    · exact rPersp_some x0 y0 z0 u0 x1 y1 z1 u1 x2 y2 z2 u2 A0 A1 A2 n0 c0 n1 c1 n2 c2 pr fr px py w m0 m1 m2 h0 h1 h2 p0 p1 p2 k0 k1 k2 hz r0 r1 q0 q1 hv
  | false =>
    have a0 := m_no h0 hv
    have a1 := m_no h1 hv
    have a2 := m_no h2 hv
    rw [a0, Int.zero_mul] at k0
    rw [a1, Int.zero_mul] at k1
    rw [a2, Int.zero_mul] at k2
    rcases h with ⟨e0, e1, e2, q0, q1⟩ | ⟨hz, q0, q1⟩
    · rw [a0, ratio_zero] at q0
      rw [a1, ratio_zero] at q1
      subst q0 q1
      exact rPersp_no x0 y0 z0 u0 x1 y1 z1 u1 x2 y2 z2 u2 A0 A1 A2 n0 c0 n1 c1 n2 c2 pr fr px py w hv
    · exact absurd ⟨k0.symm, k1.symm, k2.symm⟩ hz
set_option maxRecDepth 100000 in
set_option maxHeartbeats 16000000 in
theorem corner_at (w : World) :
    Calls Try.prog 38 #[] w fun e w' => Below w.heap.size w w' ∧ ∃ B0 B1 B2, e = .returned (.agg #[.int .i64 0, .int .i64 0, .int .i64 0, .int .i64 65536, .slice (some ⟨B0, 0, none⟩) 1 1, .int .i64 256, .int .i64 0, .int .i64 0, .int .i64 65536, .slice (some ⟨B1, 0, none⟩) 1 1, .int .i64 0, .int .i64 256, .int .i64 0, .int .i64 65536, .slice (some ⟨B2, 0, none⟩) 1 1, .int .i64 0, .bool false]) ∧ Sl w' (some ⟨B0, 0, none⟩) 1 1 (fun _ => 10) ∧ Sl w' (some ⟨B1, 0, none⟩) 1 1 (fun _ => 20) ∧ Sl w' (some ⟨B2, 0, none⟩) 1 1 (fun _ => 30) := by
  have hr := Lib.hid ((((Blk.new w 27 #[.int .i64 0, .int .i64 0, .int .i64 0, .int .i64 0, .slice none 0 0, .int .i64 0, .int .i64 0, .int .i64 0, .int .i64 0, .slice none 0 0, .int .i64 0, .int .i64 0, .int .i64 0, .int .i64 0, .slice none 0 0, .int .i64 0, .bool false]).alloc (.cells #[.int .i64 10] 3)).alloc (.cells #[.int .i64 20] 3)).alloc (.cells #[.int .i64 30] 3))
  have b0 : Hid (Blk ((((w.alloc (.cells #[.int .i64 0, .int .i64 0, .int .i64 0, .int .i64 0, .slice none 0 0, .int .i64 0, .int .i64 0, .int .i64 0, .int .i64 0, .slice none 0 0, .int .i64 0, .int .i64 0, .int .i64 0, .int .i64 0, .slice none 0 0, .int .i64 0, .bool false] 27)).alloc (.cells #[.int .i64 10] 3)).alloc (.cells #[.int .i64 20] 3)).alloc (.cells #[.int .i64 30] 3)) (w.heap.size + 1) 3 #[.int .i64 10]) := Lib.hid (((Blk.new1 w 3 #[.int .i64 10] (.cells #[.int .i64 0, .int .i64 0, .int .i64 0, .int .i64 0, .slice none 0 0, .int .i64 0, .int .i64 0, .int .i64 0, .int .i64 0, .slice none 0 0, .int .i64 0, .int .i64 0, .int .i64 0, .int .i64 0, .slice none 0 0, .int .i64 0, .bool false] 27)).alloc (.cells #[.int .i64 20] 3)).alloc (.cells #[.int .i64 30] 3))
  have b1 : Hid (Blk ((((w.alloc (.cells #[.int .i64 0, .int .i64 0, .int .i64 0, .int .i64 0, .slice none 0 0, .int .i64 0, .int .i64 0, .int .i64 0, .int .i64 0, .slice none 0 0, .int .i64 0, .int .i64 0, .int .i64 0, .int .i64 0, .slice none 0 0, .int .i64 0, .bool false] 27)).alloc (.cells #[.int .i64 10] 3)).alloc (.cells #[.int .i64 20] 3)).alloc (.cells #[.int .i64 30] 3)) (w.heap.size + 2) 3 #[.int .i64 20]) := Lib.hid ((Blk.new_at (W := (w.alloc (.cells #[.int .i64 0, .int .i64 0, .int .i64 0, .int .i64 0, .slice none 0 0, .int .i64 0, .int .i64 0, .int .i64 0, .int .i64 0, .slice none 0 0, .int .i64 0, .int .i64 0, .int .i64 0, .int .i64 0, .slice none 0 0, .int .i64 0, .bool false] 27)).alloc (.cells #[.int .i64 10] 3)) (t := 3) (cs := #[.int .i64 20]) (by simp)).alloc (.cells #[.int .i64 30] 3))
  have b2 : Hid (Blk ((((w.alloc (.cells #[.int .i64 0, .int .i64 0, .int .i64 0, .int .i64 0, .slice none 0 0, .int .i64 0, .int .i64 0, .int .i64 0, .int .i64 0, .slice none 0 0, .int .i64 0, .int .i64 0, .int .i64 0, .int .i64 0, .slice none 0 0, .int .i64 0, .bool false] 27)).alloc (.cells #[.int .i64 10] 3)).alloc (.cells #[.int .i64 20] 3)).alloc (.cells #[.int .i64 30] 3)) (w.heap.size + 3) 3 #[.int .i64 30]) := Lib.hid (Blk.new_at (W := ((w.alloc (.cells #[.int .i64 0, .int .i64 0, .int .i64 0, .int .i64 0, .slice none 0 0, .int .i64 0, .int .i64 0, .int .i64 0, .int .i64 0, .slice none 0 0, .int .i64 0, .int .i64 0, .int .i64 0, .int .i64 0, .slice none 0 0, .int .i64 0, .bool false] 27)).alloc (.cells #[.int .i64 10] 3)).alloc (.cells #[.int .i64 20] 3)) (t := 3) (cs := #[.int .i64 30]) (by simp))
  have hB : Hid (Below w.heap.size w ((((w.alloc (.cells #[.int .i64 0, .int .i64 0, .int .i64 0, .int .i64 0, .slice none 0 0, .int .i64 0, .int .i64 0, .int .i64 0, .int .i64 0, .slice none 0 0, .int .i64 0, .int .i64 0, .int .i64 0, .int .i64 0, .slice none 0 0, .int .i64 0, .bool false] 27)).alloc (.cells #[.int .i64 10] 3)).alloc (.cells #[.int .i64 20] 3)).alloc (.cells #[.int .i64 30] 3))) := Lib.hid (by go_grown)
  go_enter Try.func38, Try.ntmps38
  go_wp2_with (refine wpList_store_row rfl 27 _ _ rfl w.heap.size #[.int .i64 0, .int .i64 0, .int .i64 0, .int .i64 65536, .slice (some ⟨w.heap.size + 1, 0, none⟩) 1 1, .int .i64 256, .int .i64 0, .int .i64 0, .int .i64 65536, .slice (some ⟨w.heap.size + 2, 0, none⟩) 1 1, .int .i64 0, .int .i64 256, .int .i64 0, .int .i64 65536, .slice (some ⟨w.heap.size + 3, 0, none⟩) 1 1, .int .i64 0, .bool false] rfl rfl 27 _ hr.out triInfo rfl (by kernel_rfl) ?_)
  refine bodyPost_ret (results_cell_row rfl _ _ w.heap.size _ #[.int .i64 0, .int .i64 0, .int .i64 0, .int .i64 65536, .slice (some ⟨w.heap.size + 1, 0, none⟩) 1 1, .int .i64 256, .int .i64 0, .int .i64 0, .int .i64 65536, .slice (some ⟨w.heap.size + 2, 0, none⟩) 1 1, .int .i64 0, .int .i64 256, .int .i64 0, .int .i64 65536, .slice (some ⟨w.heap.size + 3, 0, none⟩) 1 1, .int .i64 0, .bool false] _ _ rfl (hr.out.setRow _) Try.underlying27 rfl triInfo) rfl ?_
  exact ⟨below_setRow hB.out (Nat.le_refl _) _, w.heap.size + 1, w.heap.size + 2, w.heap.size + 3, rfl, one_sl (b0.out.farRow (by simp) _), one_sl (b1.out.farRow (by simp) _), one_sl (b2.out.farRow (by simp) _)⟩
set_option maxRecDepth 100000 in
set_option maxHeartbeats 16000000 in
theorem example_true (w : World) :
    Calls Try.prog 16 #[] w fun e w' => e = .returned (.bool true) ∧ Below w.heap.size w w' := by
  go_enter Try.func16, Try.ntmps16
  go_wp2_with fail
  refine (corner_at _).mono ?_
  rintro e X ⟨hb, B0, B1, B2, rfl, s0, s1, s2⟩
  have hk := Lib.hid (Blk.new X 27 #[.int .i64 0, .int .i64 0, .int .i64 0, .int .i64 65536, .slice (some ⟨B0, 0, none⟩) 1 1, .int .i64 256, .int .i64 0, .int .i64 0, .int .i64 65536, .slice (some ⟨B1, 0, none⟩) 1 1, .int .i64 0, .int .i64 256, .int .i64 0, .int .i64 65536, .slice (some ⟨B2, 0, none⟩) 1 1, .int .i64 0, .bool false])
  replace s0 := Lib.hid (s0.alloc (.cells #[.int .i64 0, .int .i64 0, .int .i64 0, .int .i64 65536, .slice (some ⟨B0, 0, none⟩) 1 1, .int .i64 256, .int .i64 0, .int .i64 0, .int .i64 65536, .slice (some ⟨B1, 0, none⟩) 1 1, .int .i64 0, .int .i64 256, .int .i64 0, .int .i64 65536, .slice (some ⟨B2, 0, none⟩) 1 1, .int .i64 0, .bool false] 27))
  replace s1 := Lib.hid (s1.alloc (.cells #[.int .i64 0, .int .i64 0, .int .i64 0, .int .i64 65536, .slice (some ⟨B0, 0, none⟩) 1 1, .int .i64 256, .int .i64 0, .int .i64 0, .int .i64 65536, .slice (some ⟨B1, 0, none⟩) 1 1, .int .i64 0, .int .i64 256, .int .i64 0, .int .i64 65536, .slice (some ⟨B2, 0, none⟩) 1 1, .int .i64 0, .bool false] 27))
  replace s2 := Lib.hid (s2.alloc (.cells #[.int .i64 0, .int .i64 0, .int .i64 0, .int .i64 65536, .slice (some ⟨B0, 0, none⟩) 1 1, .int .i64 256, .int .i64 0, .int .i64 0, .int .i64 65536, .slice (some ⟨B1, 0, none⟩) 1 1, .int .i64 0, .int .i64 256, .int .i64 0, .int .i64 65536, .slice (some ⟨B2, 0, none⟩) 1 1, .int .i64 0, .bool false] 27))
  have hB := Lib.hid (hb.alloc hb.size (.cells #[.int .i64 0, .int .i64 0, .int .i64 0, .int .i64 65536, .slice (some ⟨B0, 0, none⟩) 1 1, .int .i64 256, .int .i64 0, .int .i64 0, .int .i64 65536, .slice (some ⟨B1, 0, none⟩) 1 1, .int .i64 0, .int .i64 256, .int .i64 0, .int .i64 65536, .slice (some ⟨B2, 0, none⟩) 1 1, .int .i64 0, .bool false] 27))
  clear hb
  go_upto_region 2 with fail
  generalize X.alloc (.cells #[.int .i64 0, .int .i64 0, .int .i64 0, .int .i64 65536, .slice (some ⟨B0, 0, none⟩) 1 1, .int .i64 256, .int .i64 0, .int .i64 0, .int .i64 65536, .slice (some ⟨B1, 0, none⟩) 1 1, .int .i64 0, .int .i64 256, .int .i64 0, .int .i64 65536, .slice (some ⟨B2, 0, none⟩) 1 1, .int .i64 0, .bool false] 27) = X1 at *
  go_wp2_with (refine wpList_load_row rfl 27 _ rfl _ rfl _ _ _ _ hk.out Try.underlying27 rfl triInfo ?_)
  refine (linear_at 0 0 0 65536 256 0 0 65536 0 256 0 65536 (some ⟨B0, 0, none⟩) (some ⟨B1, 0, none⟩) (some ⟨B2, 0, none⟩) 1 1 1 1 1 1 0 false 0 0 _ 65536 0 0 (by decide +kernel) (by decide +kernel) (by decide +kernel) 65536 0 (by decide +kernel) (by decide +kernel)).mono ?_
  rintro e W1 ⟨rfl, hb⟩
  replace hk := Lib.hid (hk.out.call hb)
  replace s0 := Lib.hid (s0.out.call hb)
  replace s1 := Lib.hid (s1.out.call hb)
  replace s2 := Lib.hid (s2.out.call hb)
  replace hB := Lib.hid (below_on hB.out hb)
  clear hb
  go_wp2_with (first | refine wpList_load_row rfl 27 _ rfl _ rfl _ _ _ _ hk.out Try.underlying27 rfl triInfo ?_ | refine wpList_load_rowG rfl 27 _ rfl _ rfl _ _ _ _ hk.out Try.underlying27 rfl triInfo ?_)
  refine (linear_at 0 0 0 65536 256 0 0 65536 0 256 0 65536 (some ⟨B0, 0, none⟩) (some ⟨B1, 0, none⟩) (some ⟨B2, 0, none⟩) 1 1 1 1 1 1 0 false 256 0 _ 0 65536 0 (by decide +kernel) (by decide +kernel) (by decide +kernel) 0 65536 (by decide +kernel) (by decide +kernel)).mono ?_
  rintro e W2 ⟨rfl, hb⟩
  replace hk := Lib.hid (hk.out.call hb)
  replace s0 := Lib.hid (s0.out.call hb)
  replace s1 := Lib.hid (s1.out.call hb)
  replace s2 := Lib.hid (s2.out.call hb)
  replace hB := Lib.hid (below_on hB.out hb)
  clear hb
  go_wp2_with (first | refine wpList_load_row rfl 27 _ rfl _ rfl _ _ _ _ hk.out Try.underlying27 rfl triInfo ?_ | refine wpList_load_rowG rfl 27 _ rfl _ rfl _ _ _ _ hk.out Try.underlying27 rfl triInfo ?_)
  refine (linear_at 0 0 0 65536 256 0 0 65536 0 256 0 65536 (some ⟨B0, 0, none⟩) (some ⟨B1, 0, none⟩) (some ⟨B2, 0, none⟩) 1 1 1 1 1 1 0 false 0 256 _ 0 0 65536 (by decide +kernel) (by decide +kernel) (by decide +kernel) 0 0 (by decide +kernel) (by decide +kernel)).mono ?_
  rintro e W3 ⟨rfl, hb⟩
  replace hk := Lib.hid (hk.out.call hb)
  replace s0 := Lib.hid (s0.out.call hb)
  replace s1 := Lib.hid (s1.out.call hb)
  replace s2 := Lib.hid (s2.out.call hb)
  replace hB := Lib.hid (below_on hB.out hb)
  clear hb
  go_wp2_with (first | refine wpList_load_row rfl 27 _ rfl _ rfl _ _ _ _ hk.out Try.underlying27 rfl triInfo ?_ | refine wpList_load_rowG rfl 27 _ rfl _ rfl _ _ _ _ hk.out Try.underlying27 rfl triInfo ?_)
  refine (values_yes 0 0 0 65536 256 0 0 65536 0 256 0 65536 (some ⟨B0, 0, none⟩) (some ⟨B1, 0, none⟩) (some ⟨B2, 0, none⟩) 1 1 1 1 1 1 0 false 256 0 _ (by omega) (by omega) (by omega) (fun _ => 10) (fun _ => 20) (fun _ => 30) s0.out s1.out s2.out 0 65536 (fun w => persp_at 0 0 0 65536 256 0 0 65536 0 256 0 65536 (some ⟨B0, 0, none⟩) (some ⟨B1, 0, none⟩) (some ⟨B2, 0, none⟩) 1 1 1 1 1 1 0 false 256 0 w 0 65536 0 (by decide +kernel) (by decide +kernel) (by decide +kernel) 0 4294967296 0 (by decide +kernel) (by decide +kernel) (by decide +kernel) 0 65536 (.inr ⟨by omega, by decide +kernel, by decide +kernel⟩)) (by decide +kernel)).mono ?_
  rintro e W4 ⟨hb, A, c, rfl, hs, -⟩
  replace hB := Lib.hid (below_on hB.out hb)
  clear hb hk s0 s1 s2
  replace hs := Lib.hid ((hs.congr (g := fun _ => 20) (fun i hi => by obtain rfl : i = 0 := (by omega); decide +kernel)).alloc (.cells #[.int .i64 20] 3))
  have hq := Lib.hid (one_sl (Blk.new W4 3 #[.int .i64 20]))
  replace hB := Lib.hid (hB.out.alloc hB.out.size (.cells #[.int .i64 20] 3))
  go_wp2_with fail
  refine (same_sl 1 (by omega) (fun _ => 20) A _ c 1 _ hs.out hq.out).mono ?_
  rintro e W5 ⟨rfl, hb⟩
  replace hB := Lib.hid (below_on hB.out hb)
  clear hb hs hq
  go_wp2_with fail
  refine (mix_at 32768 32768 2 4 9 2 (by decide +kernel) _).mono ?_
  rintro e W6 ⟨rfl, hb⟩
  replace hB := Lib.hid (below_on hB.out hb)
  clear hb
  go_wp2
  go_ret
  exact ⟨rfl, hB.out⟩
end Go.Proofs.Ythbagegkcpblgaa
