/- VaryingWeights returns true. -/
import Derived.Test.YthbagegkcpblgaaVar7
namespace Go.Proofs.Ythbagegkcpblgaa
open Go.RowKit
attribute [local go_sem] Ext.cell
def depI (x0 y0 x1 y1 x2 y2 z0 z1 z2 r0 r1 : Int) : Int := if validB x0 y0 x1 y1 x2 y2 = true then clampI (mixI r0 r1 z0 z1 z2) 0 65536 else 0
theorem depth_at (x0 y0 z0 u0 x1 y1 z1 u1 x2 y2 z2 u2 : Int) (A0 A1 A2 : Option Addr) (n0 c0 n1 c1 n2 c2 : Nat) (pr : Int) (fr : Bool) (px py : Int) (w : World) (m0 m1 m2 : Int) (h0 : max 0 (wtI (validB x0 y0 x1 y1 x2 y2) x1 y1 x2 y2 px py) = m0) (h1 : max 0 (wtI (validB x0 y0 x1 y1 x2 y2) x2 y2 x0 y0 px py) = m1) (h2 : max 0 (wtI (validB x0 y0 x1 y1 x2 y2) x0 y0 x1 y1 px py) = m2) (r0 r1 : Int) (q0 : ratio m0 (m0 + m1 + m2) = r0) (q1 : ratio m1 (m0 + m1 + m2) = r1) (d : Int) (hd : depI x0 y0 x1 y1 x2 y2 z0 z1 z2 r0 r1 = d) :
    Calls Try.prog 21 #[.agg #[.int .i64 x0, .int .i64 y0, .int .i64 z0, .int .i64 u0, .slice A0 n0 c0, .int .i64 x1, .int .i64 y1, .int .i64 z1, .int .i64 u1, .slice A1 n1 c1, .int .i64 x2, .int .i64 y2, .int .i64 z2, .int .i64 u2, .slice A2 n2 c2, .int .i64 pr, .bool fr], .int .i64 px, .int .i64 py] w fun e w' => e = .returned (.int .i64 d) ∧ Below w.heap.size w w' := by
  unfold depI at hd
  cases hv : validB x0 y0 x1 y1 x2 y2 with
  | true =>
    rw [if_pos hv] at hd
    exact depth_yes x0 y0 z0 u0 x1 y1 z1 u1 x2 y2 z2 u2 A0 A1 A2 n0 c0 n1 c1 n2 c2 pr fr px py w m0 m1 m2 h0 h1 h2 r0 r1 q0 q1 d hd hv
  | false =>
    rw [if_neg (by rw [hv]; simp)] at hd
    subst hd
    exact depth_no x0 y0 z0 u0 x1 y1 z1 u1 x2 y2 z2 u2 A0 A1 A2 n0 c0 n1 c1 n2 c2 pr fr px py w hv
theorem rDepth_at (x0 y0 z0 u0 x1 y1 z1 u1 x2 y2 z2 u2 : Int) (A0 A1 A2 : Option Addr) (n0 c0 n1 c1 n2 c2 : Nat) (pr : Int) (fr : Bool) (px py : Int) (w : World) (m0 m1 m2 : Int) (h0 : max 0 (wtI (validB x0 y0 x1 y1 x2 y2) x1 y1 x2 y2 px py) = m0) (h1 : max 0 (wtI (validB x0 y0 x1 y1 x2 y2) x2 y2 x0 y0 px py) = m1) (h2 : max 0 (wtI (validB x0 y0 x1 y1 x2 y2) x0 y0 x1 y1 px py) = m2) (r0 r1 : Int) (q0 : ratio m0 (m0 + m1 + m2) = r0) (q1 : ratio m1 (m0 + m1 + m2) = r1) (d : Int) (hd : depI x0 y0 x1 y1 x2 y2 z0 z1 z2 r0 r1 = d) :
    Calls Try.prog 22 #[.agg #[.int .i64 x0, .int .i64 y0, .int .i64 z0, .int .i64 u0, .slice A0 n0 c0, .int .i64 x1, .int .i64 y1, .int .i64 z1, .int .i64 u1, .slice A1 n1 c1, .int .i64 x2, .int .i64 y2, .int .i64 z2, .int .i64 u2, .slice A2 n2 c2, .int .i64 pr, .bool fr], .int .i64 px, .int .i64 py] w fun e w' => e = .returned (.int .i64 d) ∧ Below w.heap.size w w' := by
  unfold depI at hd
  cases hv : validB x0 y0 x1 y1 x2 y2 with
  | true =>
    rw [if_pos hv] at hd
    exact rDepth_yes x0 y0 z0 u0 x1 y1 z1 u1 x2 y2 z2 u2 A0 A1 A2 n0 c0 n1 c1 n2 c2 pr fr px py w m0 m1 m2 h0 h1 h2 r0 r1 q0 q1 d hd hv
  | false =>
    rw [if_neg (by rw [hv]; simp)] at hd
    subst hd
    exact rDepth_no x0 y0 z0 u0 x1 y1 z1 u1 x2 y2 z2 u2 A0 A1 A2 n0 c0 n1 c1 n2 c2 pr fr px py w hv
set_option maxRecDepth 100000 in
set_option maxHeartbeats 16000000 in
theorem law_weights (x0 y0 z0 u0 x1 y1 z1 u1 x2 y2 z2 u2 : Int) (A0 A1 A2 : Option Addr) (n0 c0 n1 c1 n2 c2 : Nat) (pr : Int) (fr : Bool) (px py a b c : Int) (w : World) :
    Calls Try.prog 5 #[.agg #[.int .i64 x0, .int .i64 y0, .int .i64 z0, .int .i64 u0, .slice A0 n0 c0, .int .i64 x1, .int .i64 y1, .int .i64 z1, .int .i64 u1, .slice A1 n1 c1, .int .i64 x2, .int .i64 y2, .int .i64 z2, .int .i64 u2, .slice A2 n2 c2, .int .i64 pr, .bool fr], .agg #[.int .i64 px, .int .i64 py], .agg #[.int .i64 a, .int .i64 b, .int .i64 c]] w fun e w' => e = .returned (.bool true) ∧ Below w.heap.size w w' := by
  obtain ⟨m0, h0⟩ : ∃ m, max 0 (wtI (validB x0 y0 x1 y1 x2 y2) x1 y1 x2 y2 px py) = m := ⟨_, rfl⟩
  obtain ⟨m1, h1⟩ : ∃ m, max 0 (wtI (validB x0 y0 x1 y1 x2 y2) x2 y2 x0 y0 px py) = m := ⟨_, rfl⟩
  obtain ⟨m2, h2⟩ : ∃ m, max 0 (wtI (validB x0 y0 x1 y1 x2 y2) x0 y0 x1 y1 px py) = m := ⟨_, rfl⟩
  obtain ⟨p0, k0⟩ : ∃ p, m0 * clampI u0 0 16777216 = p := ⟨_, rfl⟩
  obtain ⟨p1, k1⟩ : ∃ p, m1 * clampI u1 0 16777216 = p := ⟨_, rfl⟩
  obtain ⟨p2, k2⟩ : ∃ p, m2 * clampI u2 0 16777216 = p := ⟨_, rfl⟩
  obtain ⟨r0, q0⟩ : ∃ r, ratio m0 (m0 + m1 + m2) = r := ⟨_, rfl⟩
  obtain ⟨r1, q1⟩ : ∃ r, ratio m1 (m0 + m1 + m2) = r := ⟨_, rfl⟩
  obtain ⟨s0, s1, hs⟩ := pres_ex m0 m1 m2 p0 p1 p2
  obtain ⟨d, hd⟩ : ∃ d, depI x0 y0 x1 y1 x2 y2 z0 z1 z2 r0 r1 = d := ⟨_, rfl⟩
  obtain ⟨mv, hmv⟩ : ∃ m, mixI px py a b c = m := ⟨_, rfl⟩
  have hL := Lib.hid (fun w => linear_at x0 y0 z0 u0 x1 y1 z1 u1 x2 y2 z2 u2 A0 A1 A2 n0 c0 n1 c1 n2 c2 pr fr px py w m0 m1 m2 h0 h1 h2 r0 r1 q0 q1)
  have hRL := Lib.hid (fun w => rLinear_at x0 y0 z0 u0 x1 y1 z1 u1 x2 y2 z2 u2 A0 A1 A2 n0 c0 n1 c1 n2 c2 pr fr px py w m0 m1 m2 h0 h1 h2 r0 r1 q0 q1)
  have hP := Lib.hid (fun w => persp_at x0 y0 z0 u0 x1 y1 z1 u1 x2 y2 z2 u2 A0 A1 A2 n0 c0 n1 c1 n2 c2 pr fr px py w m0 m1 m2 h0 h1 h2 p0 p1 p2 k0 k1 k2 s0 s1 hs)
  have hRP := Lib.hid (fun w => rPersp_at x0 y0 z0 u0 x1 y1 z1 u1 x2 y2 z2 u2 A0 A1 A2 n0 c0 n1 c1 n2 c2 pr fr px py w m0 m1 m2 h0 h1 h2 p0 p1 p2 k0 k1 k2 s0 s1 hs)
  have hD := Lib.hid (fun w => depth_at x0 y0 z0 u0 x1 y1 z1 u1 x2 y2 z2 u2 A0 A1 A2 n0 c0 n1 c1 n2 c2 pr fr px py w m0 m1 m2 h0 h1 h2 r0 r1 q0 q1 d hd)
  have hRD := Lib.hid (fun w => rDepth_at x0 y0 z0 u0 x1 y1 z1 u1 x2 y2 z2 u2 A0 A1 A2 n0 c0 n1 c1 n2 c2 pr fr px py w m0 m1 m2 h0 h1 h2 r0 r1 q0 q1 d hd)
  have hM := Lib.hid (fun w => mix_at px py a b c mv hmv w)
  have hRM := Lib.hid (fun w => rMix_at px py a b c mv hmv w)
  clear h0 h1 h2 k0 k1 k2 q0 q1 hs hd hmv
  have kt := Lib.hid (((Blk.new w 27 #[.int .i64 x0, .int .i64 y0, .int .i64 z0, .int .i64 u0, .slice A0 n0 c0, .int .i64 x1, .int .i64 y1, .int .i64 z1, .int .i64 u1, .slice A1 n1 c1, .int .i64 x2, .int .i64 y2, .int .i64 z2, .int .i64 u2, .slice A2 n2 c2, .int .i64 pr, .bool fr]).alloc (.cells #[.int .i64 px, .int .i64 py] 28)).alloc (.cells #[.int .i64 a, .int .i64 b, .int .i64 c] 36))
  have kp := Lib.hid ((Blk.new1 w 28 #[.int .i64 px, .int .i64 py] (.cells #[.int .i64 x0, .int .i64 y0, .int .i64 z0, .int .i64 u0, .slice A0 n0 c0, .int .i64 x1, .int .i64 y1, .int .i64 z1, .int .i64 u1, .slice A1 n1 c1, .int .i64 x2, .int .i64 y2, .int .i64 z2, .int .i64 u2, .slice A2 n2 c2, .int .i64 pr, .bool fr] 27)).alloc (.cells #[.int .i64 a, .int .i64 b, .int .i64 c] 36))
  have kq : Hid (Blk (((w.alloc (.cells #[.int .i64 x0, .int .i64 y0, .int .i64 z0, .int .i64 u0, .slice A0 n0 c0, .int .i64 x1, .int .i64 y1, .int .i64 z1, .int .i64 u1, .slice A1 n1 c1, .int .i64 x2, .int .i64 y2, .int .i64 z2, .int .i64 u2, .slice A2 n2 c2, .int .i64 pr, .bool fr] 27)).alloc (.cells #[.int .i64 px, .int .i64 py] 28)).alloc (.cells #[.int .i64 a, .int .i64 b, .int .i64 c] 36)) (w.heap.size + 2) 36 #[.int .i64 a, .int .i64 b, .int .i64 c]) := Lib.hid (Blk.new_at (by simp))
  have hB : Hid (Below w.heap.size w (((w.alloc (.cells #[.int .i64 x0, .int .i64 y0, .int .i64 z0, .int .i64 u0, .slice A0 n0 c0, .int .i64 x1, .int .i64 y1, .int .i64 z1, .int .i64 u1, .slice A1 n1 c1, .int .i64 x2, .int .i64 y2, .int .i64 z2, .int .i64 u2, .slice A2 n2 c2, .int .i64 pr, .bool fr] 27)).alloc (.cells #[.int .i64 px, .int .i64 py] 28)).alloc (.cells #[.int .i64 a, .int .i64 b, .int .i64 c] 36))) := Lib.hid (by go_grown)
  go_enter Try.func5, Try.ntmps5
  go_wp2_with fail
  generalize ((w.alloc (.cells #[.int .i64 x0, .int .i64 y0, .int .i64 z0, .int .i64 u0, .slice A0 n0 c0, .int .i64 x1, .int .i64 y1, .int .i64 z1, .int .i64 u1, .slice A1 n1 c1, .int .i64 x2, .int .i64 y2, .int .i64 z2, .int .i64 u2, .slice A2 n2 c2, .int .i64 pr, .bool fr] 27)).alloc (.cells #[.int .i64 px, .int .i64 py] 28)).alloc (.cells #[.int .i64 a, .int .i64 b, .int .i64 c] 36) = X at *
  have lt' := kt.out.lt
  have cp := kp.out.cell
  have lp := kp.out.lt
  have cq := kq.out.cell
  have lq := kq.out.lt
  refine wp_region_ext X.heap.size (by kernel_rfl) (by kernel_rfl) ?_
  repeat (first | (go_big_quiet_want; refine quiet_load_row 27 _ rfl _ rfl _ _ _ kt.out (by first | assumption | omega) Try.underlying27 rfl triInfo ?_; simp only [Act.put, List.setIfInBounds_toArray, List.set_cons_zero, List.set_cons_succ]; go_big_quiet_on) | go_big_quiet_step (first | (go_at_call 17; exact ext_call (Nat.le_refl _) (hL.out _)) | (go_at_call 18; exact ext_call (Nat.le_refl _) (hRL.out _)) | (go_at_call 19; exact ext_call (Nat.le_refl _) (hP.out _)) | (go_at_call 20; exact ext_call (Nat.le_refl _) (hRP.out _)) | (go_at_call 21; exact ext_call (Nat.le_refl _) (hD.out _)) | (go_at_call 22; exact ext_call (Nat.le_refl _) (hRD.out _)) | (go_at_call 23; exact ext_call (Nat.le_refl _) (hM.out _)) | (go_at_call 24; exact ext_call (Nat.le_refl _) (hRM.out _)) | (go_at_call 16; exact ext_call (Nat.le_refl _) (example_true _))))
  refine wpQuiet_nil ?_
  intro x9 hwx
  obtain ⟨⟨x9, hb⟩, rfl⟩ := hwx
  replace hB := Lib.hid (below_on hB.out hb)
  replace kt := Lib.hid (kt.out.call hb)
  replace kp := Lib.hid (kp.out.call hb)
  replace kq := Lib.hid (kq.out.call hb)
  clear hb lt' cp lp cq lq
  have lp := kp.out.lt
  have cq := kq.out.cell
  have lq := kq.out.lt
  go_wp2_with fail
  refine wp_region_ext x9.heap.size (by kernel_rfl) (by kernel_rfl) ?_
  repeat (first | (go_big_quiet_want; refine quiet_load_row 28 _ rfl _ rfl _ _ _ kp.out (by first | assumption | omega) Try.underlying28 rfl i2Info ?_; simp only [Act.put, List.setIfInBounds_toArray, List.set_cons_zero, List.set_cons_succ]; go_big_quiet_on) | go_big_quiet_step (first | (go_at_call 23; exact ext_call (Nat.le_refl _) (hM.out _)) | (go_at_call 24; exact ext_call (Nat.le_refl _) (hRM.out _)) | (go_at_call 16; exact ext_call (Nat.le_refl _) (example_true _))))
  refine wpQuiet_nil ?_
  intro x8 hwx
  obtain ⟨⟨x8, hb⟩, rfl⟩ := hwx
  replace hB := Lib.hid (below_on hB.out hb)
  go_wp2
  go_ret
  exact ⟨rfl, hB.out⟩
end Go.Proofs.Ythbagegkcpblgaa
