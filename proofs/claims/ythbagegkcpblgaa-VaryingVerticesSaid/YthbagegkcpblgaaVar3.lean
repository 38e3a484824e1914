/- Linear, Mix and Depth, of package varying and of the reference of chapter 37. -/
import Derived.Test.YthbagegkcpblgaaVar2
namespace Go.Proofs.Ythbagegkcpblgaa
open Go.RowKit
attribute [local go_sem] Ext.cell
theorem mx_bd {v : Bool} {ax ay bx by' px py m : Int} (h : max 0 (wtI v ax ay bx by' px py) = m) : 0 ≤ m ∧ m ≤ 536870912 := by
  have := wtI_bound v ax ay bx by' px py
  omega
set_option maxRecDepth 100000 in
set_option maxHeartbeats 8000000 in
theorem linear_at (x0 y0 z0 u0 x1 y1 z1 u1 x2 y2 z2 u2 : Int) (A0 A1 A2 : Option Addr) (n0 c0 n1 c1 n2 c2 : Nat) (pr : Int) (fr : Bool) (px py : Int) (w : World) (m0 m1 m2 : Int) (h0 : max 0 (wtI (validB x0 y0 x1 y1 x2 y2) x1 y1 x2 y2 px py) = m0) (h1 : max 0 (wtI (validB x0 y0 x1 y1 x2 y2) x2 y2 x0 y0 px py) = m1) (h2 : max 0 (wtI (validB x0 y0 x1 y1 x2 y2) x0 y0 x1 y1 px py) = m2) (r0 r1 : Int) (q0 : ratio m0 (m0 + m1 + m2) = r0) (q1 : ratio m1 (m0 + m1 + m2) = r1) :
    Calls Try.prog 17 #[.agg #[.int .i64 x0, .int .i64 y0, .int .i64 z0, .int .i64 u0, .slice A0 n0 c0, .int .i64 x1, .int .i64 y1, .int .i64 z1, .int .i64 u1, .slice A1 n1 c1, .int .i64 x2, .int .i64 y2, .int .i64 z2, .int .i64 u2, .slice A2 n2 c2, .int .i64 pr, .bool fr], .int .i64 px, .int .i64 py] w fun e w' => e = .returned (.agg #[.int .i64 r0, .int .i64 r1]) ∧ Below w.heap.size w w' := by
  have b0 := mx_bd h0
  have b1 := mx_bd h1
  have b2 := mx_bd h2
  have hW := Lib.hid (fun w => vweights_at x0 y0 z0 u0 x1 y1 z1 u1 x2 y2 z2 u2 A0 A1 A2 n0 c0 n1 c1 n2 c2 pr fr px py w m0 m1 m2 h0 h1 h2)
  have hR := Lib.hid (fun w => ratios_at m0 m1 m2 r0 r1 b0.1 b1.1 b2.1 (by omega) (by omega) (by omega) q0 q1 w)
  clear h0 h1 h2 q0 q1 b0 b1 b2
  have hk := Lib.hid ((Blk.new w 27 #[.int .i64 x0, .int .i64 y0, .int .i64 z0, .int .i64 u0, .slice A0 n0 c0, .int .i64 x1, .int .i64 y1, .int .i64 z1, .int .i64 u1, .slice A1 n1 c1, .int .i64 x2, .int .i64 y2, .int .i64 z2, .int .i64 u2, .slice A2 n2 c2, .int .i64 pr, .bool fr]).alloc (.cells #[.int .i64 0, .int .i64 0] 28))
  have hr := Lib.hid (Blk.new1 w 28 #[.int .i64 0, .int .i64 0] (.cells #[.int .i64 x0, .int .i64 y0, .int .i64 z0, .int .i64 u0, .slice A0 n0 c0, .int .i64 x1, .int .i64 y1, .int .i64 z1, .int .i64 u1, .slice A1 n1 c1, .int .i64 x2, .int .i64 y2, .int .i64 z2, .int .i64 u2, .slice A2 n2 c2, .int .i64 pr, .bool fr] 27))
  have hB : Hid (Below w.heap.size w ((w.alloc (.cells #[.int .i64 x0, .int .i64 y0, .int .i64 z0, .int .i64 u0, .slice A0 n0 c0, .int .i64 x1, .int .i64 y1, .int .i64 z1, .int .i64 u1, .slice A1 n1 c1, .int .i64 x2, .int .i64 y2, .int .i64 z2, .int .i64 u2, .slice A2 n2 c2, .int .i64 pr, .bool fr] 27)).alloc (.cells #[.int .i64 0, .int .i64 0] 28))) := Lib.hid (by go_grown)
  go_enter Try.func17, Try.ntmps17
  go_wp2_with (refine wpList_load_row rfl 27 _ rfl _ rfl _ _ _ _ hk.out Try.underlying27 rfl triInfo ?_)
  refine (hW.out _).mono ?_
  rintro e W ⟨rfl, hb⟩
  replace hk := Lib.hid (hk.out.call hb)
  replace hr := Lib.hid (hr.out.call hb)
  replace hB := Lib.hid (below_on hB.out hb)
  clear hb
  go_wp2_with fail
  refine (hR.out _).mono ?_
  rintro e W ⟨rfl, hb⟩
  replace hk := Lib.hid (hk.out.call hb)
  replace hr := Lib.hid (hr.out.call hb)
  replace hB := Lib.hid (below_on hB.out hb)
  clear hb
  go_wp2_with (refine wpList_store_row rfl 28 _ _ rfl (w.heap.size + 1) #[.int .i64 r0, .int .i64 r1] rfl rfl 28 _ hr.out i2Info rfl (by kernel_rfl) ?_)
  refine bodyPost_ret (results_cell_row rfl _ _ (w.heap.size + 1) _ #[.int .i64 r0, .int .i64 r1] _ _ rfl (hr.out.setRow _) Try.underlying28 rfl i2Info) rfl ?_
  exact ⟨rfl, below_setRow hB.out (by omega) _⟩
set_option maxRecDepth 100000 in
set_option maxHeartbeats 8000000 in
theorem rLinear_yes (x0 y0 z0 u0 x1 y1 z1 u1 x2 y2 z2 u2 : Int) (A0 A1 A2 : Option Addr) (n0 c0 n1 c1 n2 c2 : Nat) (pr : Int) (fr : Bool) (px py : Int) (w : World) (m0 m1 m2 : Int) (h0 : max 0 (wtI (validB x0 y0 x1 y1 x2 y2) x1 y1 x2 y2 px py) = m0) (h1 : max 0 (wtI (validB x0 y0 x1 y1 x2 y2) x2 y2 x0 y0 px py) = m1) (h2 : max 0 (wtI (validB x0 y0 x1 y1 x2 y2) x0 y0 x1 y1 px py) = m2) (r0 r1 : Int) (q0 : ratio m0 (m0 + m1 + m2) = r0) (q1 : ratio m1 (m0 + m1 + m2) = r1) (hv : validB x0 y0 x1 y1 x2 y2 = true) :
    Calls Try.prog 18 #[.agg #[.int .i64 x0, .int .i64 y0, .int .i64 z0, .int .i64 u0, .slice A0 n0 c0, .int .i64 x1, .int .i64 y1, .int .i64 z1, .int .i64 u1, .slice A1 n1 c1, .int .i64 x2, .int .i64 y2, .int .i64 z2, .int .i64 u2, .slice A2 n2 c2, .int .i64 pr, .bool fr], .int .i64 px, .int .i64 py] w fun e w' => e = .returned (.agg #[.int .i64 r0, .int .i64 r1]) ∧ Below w.heap.size w w' := by
  have b0 := mx_bd h0
  have b1 := mx_bd h1
  have b2 := mx_bd h2
  have hW := Lib.hid (fun w => rvweights_at x0 y0 z0 u0 x1 y1 z1 u1 x2 y2 z2 u2 A0 A1 A2 n0 c0 n1 c1 n2 c2 pr fr px py w m0 m1 m2 h0 h1 h2)
  have hR := Lib.hid (fun w => rRatios_at m0 m1 m2 r0 r1 b0.1 b1.1 b2.1 (by omega) (by omega) (by omega) q0 q1 w)
  clear h0 h1 h2 q0 q1 b0 b1 b2
  replace hv := Lib.hid (fun w => rValid_at x0 y0 z0 u0 x1 y1 z1 u1 x2 y2 z2 u2 A0 A1 A2 n0 c0 n1 c1 n2 c2 pr fr w true hv)
  have hk := Lib.hid ((Blk.new w 27 #[.int .i64 x0, .int .i64 y0, .int .i64 z0, .int .i64 u0, .slice A0 n0 c0, .int .i64 x1, .int .i64 y1, .int .i64 z1, .int .i64 u1, .slice A1 n1 c1, .int .i64 x2, .int .i64 y2, .int .i64 z2, .int .i64 u2, .slice A2 n2 c2, .int .i64 pr, .bool fr]).alloc (.cells #[.int .i64 0, .int .i64 0] 28))
  have hr := Lib.hid (Blk.new1 w 28 #[.int .i64 0, .int .i64 0] (.cells #[.int .i64 x0, .int .i64 y0, .int .i64 z0, .int .i64 u0, .slice A0 n0 c0, .int .i64 x1, .int .i64 y1, .int .i64 z1, .int .i64 u1, .slice A1 n1 c1, .int .i64 x2, .int .i64 y2, .int .i64 z2, .int .i64 u2, .slice A2 n2 c2, .int .i64 pr, .bool fr] 27))
  have hB : Hid (Below w.heap.size w ((w.alloc (.cells #[.int .i64 x0, .int .i64 y0, .int .i64 z0, .int .i64 u0, .slice A0 n0 c0, .int .i64 x1, .int .i64 y1, .int .i64 z1, .int .i64 u1, .slice A1 n1 c1, .int .i64 x2, .int .i64 y2, .int .i64 z2, .int .i64 u2, .slice A2 n2 c2, .int .i64 pr, .bool fr] 27)).alloc (.cells #[.int .i64 0, .int .i64 0] 28))) := Lib.hid (by go_grown)
  go_enter Try.func18, Try.ntmps18
  go_wp2_with (refine wpList_load_row rfl 27 _ rfl _ rfl _ _ _ _ hk.out Try.underlying27 rfl triInfo ?_)
  refine (hv.out _).mono ?_
  rintro e W ⟨rfl, hb⟩
  replace hk := Lib.hid (hk.out.call hb)
  replace hr := Lib.hid (hr.out.call hb)
  replace hB := Lib.hid (below_on hB.out hb)
  clear hb
  clear hv
  go_wp2_with (refine wpList_load_row rfl 27 _ rfl _ rfl _ _ _ _ hk.out Try.underlying27 rfl triInfo ?_)
  refine (hW.out _).mono ?_
  rintro e W ⟨rfl, hb⟩
  replace hk := Lib.hid (hk.out.call hb)
  replace hr := Lib.hid (hr.out.call hb)
  replace hB := Lib.hid (below_on hB.out hb)
  clear hb
  go_wp2_with fail
  refine (hR.out _).mono ?_
  rintro e W ⟨rfl, hb⟩
  replace hk := Lib.hid (hk.out.call hb)
  replace hr := Lib.hid (hr.out.call hb)
  replace hB := Lib.hid (below_on hB.out hb)
  clear hb
  go_wp2_with (refine wpList_store_row rfl 28 _ _ rfl (w.heap.size + 1) #[.int .i64 r0, .int .i64 r1] rfl rfl 28 _ hr.out i2Info rfl (by kernel_rfl) ?_)
  refine bodyPost_ret (results_cell_row rfl _ _ (w.heap.size + 1) _ #[.int .i64 r0, .int .i64 r1] _ _ rfl (hr.out.setRow _) Try.underlying28 rfl i2Info) rfl ?_
  exact ⟨rfl, below_setRow hB.out (by omega) _⟩
set_option maxRecDepth 100000 in
set_option maxHeartbeats 8000000 in
theorem rLinear_no (x0 y0 z0 u0 x1 y1 z1 u1 x2 y2 z2 u2 : Int) (A0 A1 A2 : Option Addr) (n0 c0 n1 c1 n2 c2 : Nat) (pr : Int) (fr : Bool) (px py : Int) (w : World) (hv : validB x0 y0 x1 y1 x2 y2 = false) :
    Calls Try.prog 18 #[.agg #[.int .i64 x0, .int .i64 y0, .int .i64 z0, .int .i64 u0, .slice A0 n0 c0, .int .i64 x1, .int .i64 y1, .int .i64 z1, .int .i64 u1, .slice A1 n1 c1, .int .i64 x2, .int .i64 y2, .int .i64 z2, .int .i64 u2, .slice A2 n2 c2, .int .i64 pr, .bool fr], .int .i64 px, .int .i64 py] w fun e w' => e = .returned (.agg #[.int .i64 0, .int .i64 0]) ∧ Below w.heap.size w w' := by
  replace hv := Lib.hid (fun w => rValid_at x0 y0 z0 u0 x1 y1 z1 u1 x2 y2 z2 u2 A0 A1 A2 n0 c0 n1 c1 n2 c2 pr fr w false hv)
  have hk := Lib.hid ((Blk.new w 27 #[.int .i64 x0, .int .i64 y0, .int .i64 z0, .int .i64 u0, .slice A0 n0 c0, .int .i64 x1, .int .i64 y1, .int .i64 z1, .int .i64 u1, .slice A1 n1 c1, .int .i64 x2, .int .i64 y2, .int .i64 z2, .int .i64 u2, .slice A2 n2 c2, .int .i64 pr, .bool fr]).alloc (.cells #[.int .i64 0, .int .i64 0] 28))
  have hr := Lib.hid (Blk.new1 w 28 #[.int .i64 0, .int .i64 0] (.cells #[.int .i64 x0, .int .i64 y0, .int .i64 z0, .int .i64 u0, .slice A0 n0 c0, .int .i64 x1, .int .i64 y1, .int .i64 z1, .int .i64 u1, .slice A1 n1 c1, .int .i64 x2, .int .i64 y2, .int .i64 z2, .int .i64 u2, .slice A2 n2 c2, .int .i64 pr, .bool fr] 27))
  have hB : Hid (Below w.heap.size w ((w.alloc (.cells #[.int .i64 x0, .int .i64 y0, .int .i64 z0, .int .i64 u0, .slice A0 n0 c0, .int .i64 x1, .int .i64 y1, .int .i64 z1, .int .i64 u1, .slice A1 n1 c1, .int .i64 x2, .int .i64 y2, .int .i64 z2, .int .i64 u2, .slice A2 n2 c2, .int .i64 pr, .bool fr] 27)).alloc (.cells #[.int .i64 0, .int .i64 0] 28))) := Lib.hid (by go_grown)
  go_enter Try.func18, Try.ntmps18
  go_wp2_with (refine wpList_load_row rfl 27 _ rfl _ rfl _ _ _ _ hk.out Try.underlying27 rfl triInfo ?_)
  refine (hv.out _).mono ?_
  rintro e W ⟨rfl, hb⟩
  replace hr := Lib.hid (hr.out.call hb)
  replace hB := Lib.hid (below_on hB.out hb)
  clear hb hk
  go_wp2_with (refine wpList_store_row rfl 28 _ _ rfl (w.heap.size + 1) #[.int .i64 0, .int .i64 0] rfl rfl 28 _ hr.out i2Info rfl (by kernel_rfl) ?_)
  refine bodyPost_ret (results_cell_row rfl _ _ (w.heap.size + 1) _ #[.int .i64 0, .int .i64 0] _ _ rfl (hr.out.setRow _) Try.underlying28 rfl i2Info) rfl ?_
  exact ⟨rfl, below_setRow hB.out (by omega) _⟩
set_option maxRecDepth 100000 in
set_option maxHeartbeats 8000000 in
theorem mix_at (p q a b c v : Int) (h : mixI p q a b c = v) (w : World) :
    Calls Try.prog 23 #[.agg #[.int .i64 p, .int .i64 q], .int .i64 a, .int .i64 b, .int .i64 c] w fun e w' => e = .returned (.int .i64 v) ∧ Below w.heap.size w w' := by
  subst h
  have hk := Lib.hid (Blk.new w 28 #[.int .i64 p, .int .i64 q])
  have hB : Hid (Below w.heap.size w (w.alloc (.cells #[.int .i64 p, .int .i64 q] 28))) := Lib.hid (by go_grown)
  go_enter Try.func23, Try.ntmps23
  go_wp2_with fail
  generalize w.alloc (.cells #[.int .i64 p, .int .i64 q] 28) = X at *
  have ck := hk.out.cell
  have lk := hk.out.lt
  refine wp_region_ext X.heap.size (by kernel_rfl) (by kernel_rfl) ?_
  repeat (first | go_big_quiet_step (first | (go_at_call 45; exact ext_same (fsub_at _ _ _ _ rfl)) | (go_at_call 44; exact ext_same (fmul_at _ _ _ _ rfl)) | (go_at_call 43; exact ext_same (fadd_at _ _ _ _ rfl))))
  refine wpQuiet_nil ?_
  intro x9 hwx
  obtain ⟨⟨x9, hb⟩, rfl⟩ := hwx
  replace hB := Lib.hid (below_on hB.out hb)
  go_wp2
  go_ret
  exact ⟨rfl, hB.out⟩
set_option maxRecDepth 100000 in
set_option maxHeartbeats 8000000 in
theorem rMix_at (p q a b c v : Int) (h : mixI p q a b c = v) (w : World) :
    Calls Try.prog 24 #[.agg #[.int .i64 p, .int .i64 q], .int .i64 a, .int .i64 b, .int .i64 c] w fun e w' => e = .returned (.int .i64 v) ∧ Below w.heap.size w w' := by
  subst h
  have hk := Lib.hid (Blk.new w 28 #[.int .i64 p, .int .i64 q])
  have hB : Hid (Below w.heap.size w (w.alloc (.cells #[.int .i64 p, .int .i64 q] 28))) := Lib.hid (by go_grown)
  go_enter Try.func24, Try.ntmps24
  go_wp2_with fail
  generalize w.alloc (.cells #[.int .i64 p, .int .i64 q] 28) = X at *
  have ck := hk.out.cell
  have lk := hk.out.lt
  refine wp_region_ext X.heap.size (by kernel_rfl) (by kernel_rfl) ?_
  repeat (first | go_big_quiet_step (first | (go_at_call 48; exact ext_same (r_fsub_at _ _ _ _ rfl)) | (go_at_call 47; exact ext_call (Nat.le_refl _) (r_fmul_at _ _ _ _ rfl)) | (go_at_call 46; exact ext_same (r_fadd_at _ _ _ _ rfl))))
  refine wpQuiet_nil ?_
  intro x9 hwx
  obtain ⟨⟨x9, hb⟩, rfl⟩ := hwx
  replace hB := Lib.hid (below_on hB.out hb)
  go_wp2
  go_ret
  exact ⟨rfl, hB.out⟩
set_option maxRecDepth 100000 in
set_option maxHeartbeats 8000000 in
theorem depth_yes (x0 y0 z0 u0 x1 y1 z1 u1 x2 y2 z2 u2 : Int) (A0 A1 A2 : Option Addr) (n0 c0 n1 c1 n2 c2 : Nat) (pr : Int) (fr : Bool) (px py : Int) (w : World) (m0 m1 m2 : Int) (h0 : max 0 (wtI (validB x0 y0 x1 y1 x2 y2) x1 y1 x2 y2 px py) = m0) (h1 : max 0 (wtI (validB x0 y0 x1 y1 x2 y2) x2 y2 x0 y0 px py) = m1) (h2 : max 0 (wtI (validB x0 y0 x1 y1 x2 y2) x0 y0 x1 y1 px py) = m2) (r0 r1 : Int) (q0 : ratio m0 (m0 + m1 + m2) = r0) (q1 : ratio m1 (m0 + m1 + m2) = r1) (v : Int) (hd : clampI (mixI r0 r1 z0 z1 z2) 0 65536 = v) (hv : validB x0 y0 x1 y1 x2 y2 = true) :
    Calls Try.prog 21 #[.agg #[.int .i64 x0, .int .i64 y0, .int .i64 z0, .int .i64 u0, .slice A0 n0 c0, .int .i64 x1, .int .i64 y1, .int .i64 z1, .int .i64 u1, .slice A1 n1 c1, .int .i64 x2, .int .i64 y2, .int .i64 z2, .int .i64 u2, .slice A2 n2 c2, .int .i64 pr, .bool fr], .int .i64 px, .int .i64 py] w fun e w' => e = .returned (.int .i64 v) ∧ Below w.heap.size w w' := by
  have hL := Lib.hid (fun w => linear_at x0 y0 z0 u0 x1 y1 z1 u1 x2 y2 z2 u2 A0 A1 A2 n0 c0 n1 c1 n2 c2 pr fr px py w m0 m1 m2 h0 h1 h2 r0 r1 q0 q1)
  clear h0 h1 h2 q0 q1
  obtain ⟨t, ht⟩ : ∃ t, mixI r0 r1 z0 z1 z2 = t := ⟨_, rfl⟩
  rw [ht] at hd
  have hM := Lib.hid (fun w => mix_at r0 r1 z0 z1 z2 t ht w)
  clear ht
  have hC := Lib.hid (fun w => clamp_at t 0 65536 v w hd)
  clear hd
  replace hv := Lib.hid (fun w => valid_at x0 y0 z0 u0 x1 y1 z1 u1 x2 y2 z2 u2 A0 A1 A2 n0 c0 n1 c1 n2 c2 pr fr w true hv)
  have hk := Lib.hid (Blk.new w 27 #[.int .i64 x0, .int .i64 y0, .int .i64 z0, .int .i64 u0, .slice A0 n0 c0, .int .i64 x1, .int .i64 y1, .int .i64 z1, .int .i64 u1, .slice A1 n1 c1, .int .i64 x2, .int .i64 y2, .int .i64 z2, .int .i64 u2, .slice A2 n2 c2, .int .i64 pr, .bool fr])
  have hB : Hid (Below w.heap.size w (w.alloc (.cells #[.int .i64 x0, .int .i64 y0, .int .i64 z0, .int .i64 u0, .slice A0 n0 c0, .int .i64 x1, .int .i64 y1, .int .i64 z1, .int .i64 u1, .slice A1 n1 c1, .int .i64 x2, .int .i64 y2, .int .i64 z2, .int .i64 u2, .slice A2 n2 c2, .int .i64 pr, .bool fr] 27))) := Lib.hid (by go_grown)
  go_enter Try.func21, Try.ntmps21
  go_wp2_with (refine wpList_load_row rfl 27 _ rfl _ rfl _ _ _ _ hk.out Try.underlying27 rfl triInfo ?_)
  refine (hv.out _).mono ?_
  rintro e X ⟨rfl, hb⟩
  replace hk := Lib.hid (hk.out.call hb)
  replace hB := Lib.hid (below_on hB.out hb)
  clear hb hv
  go_wp2_with fail
  have ck := hk.out.cell
  have lk := hk.out.lt
  refine wp_region_ext X.heap.size (by kernel_rfl) (by kernel_rfl) ?_
  repeat (first | (go_big_quiet_want; refine quiet_load_row 27 _ rfl _ rfl _ _ _ hk.out (by first | assumption | omega) Try.underlying27 rfl triInfo ?_; simp only [Act.put, List.setIfInBounds_toArray, List.set_cons_zero, List.set_cons_succ]; go_big_quiet_on) | go_big_quiet_step (first | (go_at_call 17; exact ext_call (Nat.le_refl _) (hL.out _)) | (go_at_call 23; exact ext_call (Nat.le_refl _) (hM.out _)) | (go_at_call 29; exact ext_same (hC.out _))))
  refine wpQuiet_nil ?_
  intro x9 hwx
  obtain ⟨⟨x9, hb⟩, rfl⟩ := hwx
  replace hB := Lib.hid (below_on hB.out hb)
  go_wp2
  go_ret
  exact ⟨rfl, hB.out⟩
set_option maxRecDepth 100000 in
set_option maxHeartbeats 8000000 in
theorem rDepth_yes (x0 y0 z0 u0 x1 y1 z1 u1 x2 y2 z2 u2 : Int) (A0 A1 A2 : Option Addr) (n0 c0 n1 c1 n2 c2 : Nat) (pr : Int) (fr : Bool) (px py : Int) (w : World) (m0 m1 m2 : Int) (h0 : max 0 (wtI (validB x0 y0 x1 y1 x2 y2) x1 y1 x2 y2 px py) = m0) (h1 : max 0 (wtI (validB x0 y0 x1 y1 x2 y2) x2 y2 x0 y0 px py) = m1) (h2 : max 0 (wtI (validB x0 y0 x1 y1 x2 y2) x0 y0 x1 y1 px py) = m2) (r0 r1 : Int) (q0 : ratio m0 (m0 + m1 + m2) = r0) (q1 : ratio m1 (m0 + m1 + m2) = r1) (v : Int) (hd : clampI (mixI r0 r1 z0 z1 z2) 0 65536 = v) (hv : validB x0 y0 x1 y1 x2 y2 = true) :
    Calls Try.prog 22 #[.agg #[.int .i64 x0, .int .i64 y0, .int .i64 z0, .int .i64 u0, .slice A0 n0 c0, .int .i64 x1, .int .i64 y1, .int .i64 z1, .int .i64 u1, .slice A1 n1 c1, .int .i64 x2, .int .i64 y2, .int .i64 z2, .int .i64 u2, .slice A2 n2 c2, .int .i64 pr, .bool fr], .int .i64 px, .int .i64 py] w fun e w' => e = .returned (.int .i64 v) ∧ Below w.heap.size w w' := by
  have hL := Lib.hid (fun w => rLinear_yes x0 y0 z0 u0 x1 y1 z1 u1 x2 y2 z2 u2 A0 A1 A2 n0 c0 n1 c1 n2 c2 pr fr px py w m0 m1 m2 h0 h1 h2 r0 r1 q0 q1 hv)
  clear h0 h1 h2 q0 q1
  obtain ⟨t, ht⟩ : ∃ t, mixI r0 r1 z0 z1 z2 = t := ⟨_, rfl⟩
  rw [ht] at hd
  have hM := Lib.hid (fun w => rMix_at r0 r1 z0 z1 z2 t ht w)
  clear ht
  have hC := Lib.hid (fun w => r_clamp_at t 0 65536 v (by omega) w hd)
  clear hd
  replace hv := Lib.hid (fun w => rValid_at x0 y0 z0 u0 x1 y1 z1 u1 x2 y2 z2 u2 A0 A1 A2 n0 c0 n1 c1 n2 c2 pr fr w true hv)
  have hk := Lib.hid (Blk.new w 27 #[.int .i64 x0, .int .i64 y0, .int .i64 z0, .int .i64 u0, .slice A0 n0 c0, .int .i64 x1, .int .i64 y1, .int .i64 z1, .int .i64 u1, .slice A1 n1 c1, .int .i64 x2, .int .i64 y2, .int .i64 z2, .int .i64 u2, .slice A2 n2 c2, .int .i64 pr, .bool fr])
  have hB : Hid (Below w.heap.size w (w.alloc (.cells #[.int .i64 x0, .int .i64 y0, .int .i64 z0, .int .i64 u0, .slice A0 n0 c0, .int .i64 x1, .int .i64 y1, .int .i64 z1, .int .i64 u1, .slice A1 n1 c1, .int .i64 x2, .int .i64 y2, .int .i64 z2, .int .i64 u2, .slice A2 n2 c2, .int .i64 pr, .bool fr] 27))) := Lib.hid (by go_grown)
  go_enter Try.func22, Try.ntmps22
  go_wp2_with (refine wpList_load_row rfl 27 _ rfl _ rfl _ _ _ _ hk.out Try.underlying27 rfl triInfo ?_)
  refine (hv.out _).mono ?_
  rintro e X ⟨rfl, hb⟩
  replace hk := Lib.hid (hk.out.call hb)
  replace hB := Lib.hid (below_on hB.out hb)
  clear hb hv
  go_wp2_with fail
  have ck := hk.out.cell
  have lk := hk.out.lt
  refine wp_region_ext X.heap.size (by kernel_rfl) (by kernel_rfl) ?_
  repeat (first | (go_big_quiet_want; refine quiet_load_row 27 _ rfl _ rfl _ _ _ hk.out (by first | assumption | omega) Try.underlying27 rfl triInfo ?_; simp only [Act.put, List.setIfInBounds_toArray, List.set_cons_zero, List.set_cons_succ]; go_big_quiet_on) | go_big_quiet_step (first | (go_at_call 18; exact ext_call (Nat.le_refl _) (hL.out _)) | (go_at_call 24; exact ext_call (Nat.le_refl _) (hM.out _)) | (go_at_call 32; exact ext_same (hC.out _))))
  refine wpQuiet_nil ?_
  intro x9 hwx
  obtain ⟨⟨x9, hb⟩, rfl⟩ := hwx
  replace hB := Lib.hid (below_on hB.out hb)
  go_wp2
  go_ret
  exact ⟨rfl, hB.out⟩
set_option maxRecDepth 100000 in
set_option maxHeartbeats 8000000 in
theorem depth_no (x0 y0 z0 u0 x1 y1 z1 u1 x2 y2 z2 u2 : Int) (A0 A1 A2 : Option Addr) (n0 c0 n1 c1 n2 c2 : Nat) (pr : Int) (fr : Bool) (px py : Int) (w : World) (hv : validB x0 y0 x1 y1 x2 y2 = false) :
    Calls Try.prog 21 #[.agg #[.int .i64 x0, .int .i64 y0, .int .i64 z0, .int .i64 u0, .slice A0 n0 c0, .int .i64 x1, .int .i64 y1, .int .i64 z1, .int .i64 u1, .slice A1 n1 c1, .int .i64 x2, .int .i64 y2, .int .i64 z2, .int .i64 u2, .slice A2 n2 c2, .int .i64 pr, .bool fr], .int .i64 px, .int .i64 py] w fun e w' => e = .returned (.int .i64 0) ∧ Below w.heap.size w w' := by
  replace hv := Lib.hid (fun w => valid_at x0 y0 z0 u0 x1 y1 z1 u1 x2 y2 z2 u2 A0 A1 A2 n0 c0 n1 c1 n2 c2 pr fr w false hv)
  have hk := Lib.hid (Blk.new w 27 #[.int .i64 x0, .int .i64 y0, .int .i64 z0, .int .i64 u0, .slice A0 n0 c0, .int .i64 x1, .int .i64 y1, .int .i64 z1, .int .i64 u1, .slice A1 n1 c1, .int .i64 x2, .int .i64 y2, .int .i64 z2, .int .i64 u2, .slice A2 n2 c2, .int .i64 pr, .bool fr])
  have hB : Hid (Below w.heap.size w (w.alloc (.cells #[.int .i64 x0, .int .i64 y0, .int .i64 z0, .int .i64 u0, .slice A0 n0 c0, .int .i64 x1, .int .i64 y1, .int .i64 z1, .int .i64 u1, .slice A1 n1 c1, .int .i64 x2, .int .i64 y2, .int .i64 z2, .int .i64 u2, .slice A2 n2 c2, .int .i64 pr, .bool fr] 27))) := Lib.hid (by go_grown)
  go_enter Try.func21, Try.ntmps21
  go_wp2_with (refine wpList_load_row rfl 27 _ rfl _ rfl _ _ _ _ hk.out Try.underlying27 rfl triInfo ?_)
  refine (hv.out _).mono ?_
  rintro e X ⟨rfl, hb⟩
  replace hk := Lib.hid (hk.out.call hb)
  replace hB := Lib.hid (below_on hB.out hb)
  clear hb hv
  go_wp2
  go_ret
  exact ⟨rfl, hB.out⟩
set_option maxRecDepth 100000 in
set_option maxHeartbeats 8000000 in
theorem rDepth_no (x0 y0 z0 u0 x1 y1 z1 u1 x2 y2 z2 u2 : Int) (A0 A1 A2 : Option Addr) (n0 c0 n1 c1 n2 c2 : Nat) (pr : Int) (fr : Bool) (px py : Int) (w : World) (hv : validB x0 y0 x1 y1 x2 y2 = false) :
    Calls Try.prog 22 #[.agg #[.int .i64 x0, .int .i64 y0, .int .i64 z0, .int .i64 u0, .slice A0 n0 c0, .int .i64 x1, .int .i64 y1, .int .i64 z1, .int .i64 u1, .slice A1 n1 c1, .int .i64 x2, .int .i64 y2, .int .i64 z2, .int .i64 u2, .slice A2 n2 c2, .int .i64 pr, .bool fr], .int .i64 px, .int .i64 py] w fun e w' => e = .returned (.int .i64 0) ∧ Below w.heap.size w w' := by
  replace hv := Lib.hid (fun w => rValid_at x0 y0 z0 u0 x1 y1 z1 u1 x2 y2 z2 u2 A0 A1 A2 n0 c0 n1 c1 n2 c2 pr fr w false hv)
  have hk := Lib.hid (Blk.new w 27 #[.int .i64 x0, .int .i64 y0, .int .i64 z0, .int .i64 u0, .slice A0 n0 c0, .int .i64 x1, .int .i64 y1, .int .i64 z1, .int .i64 u1, .slice A1 n1 c1, .int .i64 x2, .int .i64 y2, .int .i64 z2, .int .i64 u2, .slice A2 n2 c2, .int .i64 pr, .bool fr])
  have hB : Hid (Below w.heap.size w (w.alloc (.cells #[.int .i64 x0, .int .i64 y0, .int .i64 z0, .int .i64 u0, .slice A0 n0 c0, .int .i64 x1, .int .i64 y1, .int .i64 z1, .int .i64 u1, .slice A1 n1 c1, .int .i64 x2, .int .i64 y2, .int .i64 z2, .int .i64 u2, .slice A2 n2 c2, .int .i64 pr, .bool fr] 27))) := Lib.hid (by go_grown)
  go_enter Try.func22, Try.ntmps22
  go_wp2_with (refine wpList_load_row rfl 27 _ rfl _ rfl _ _ _ _ hk.out Try.underlying27 rfl triInfo ?_)
  refine (hv.out _).mono ?_
  rintro e X ⟨rfl, hb⟩
  replace hk := Lib.hid (hk.out.call hb)
  replace hB := Lib.hid (below_on hB.out hb)
  clear hb hv
  go_wp2
  go_ret
  exact ⟨rfl, hB.out⟩
end Go.Proofs.Ythbagegkcpblgaa
