/- Perspective of both. -/
import Derived.Test.YthbagegkcpblgaaVar3
import Derived.Test.YthbagegkcpblgaaEq3
namespace Go.Proofs.Ythbagegkcpblgaa
open Go.RowKit
attribute [local go_sem] Ext.cell
theorem pb_bd (u : Int) {m : Int} (h0 : 0 ≤ m) (h1 : m ≤ 536870912) : 0 ≤ m * clampI u 0 16777216 ∧ m * clampI u 0 16777216 ≤ 9007199254740992 := by
  have k0 : 0 ≤ clampI u 0 16777216 := by unfold clampI; omega
  have k1 : clampI u 0 16777216 ≤ 16777216 := by unfold clampI; omega
  refine ⟨Int.mul_nonneg h0 k0, ?_⟩
  have a := Int.mul_le_mul_of_nonneg_left k1 h0
  omega
set_option maxRecDepth 100000 in
set_option maxHeartbeats 16000000 in
theorem persp_zero (x0 y0 z0 u0 x1 y1 z1 u1 x2 y2 z2 u2 : Int) (A0 A1 A2 : Option Addr) (n0 c0 n1 c1 n2 c2 : Nat) (pr : Int) (fr : Bool) (px py : Int) (w : World) (m0 m1 m2 : Int) (h0 : max 0 (wtI (validB x0 y0 x1 y1 x2 y2) x1 y1 x2 y2 px py) = m0) (h1 : max 0 (wtI (validB x0 y0 x1 y1 x2 y2) x2 y2 x0 y0 px py) = m1) (h2 : max 0 (wtI (validB x0 y0 x1 y1 x2 y2) x0 y0 x1 y1 px py) = m2) (k0 : m0 * clampI u0 0 16777216 = 0) (k1 : m1 * clampI u1 0 16777216 = 0) (k2 : m2 * clampI u2 0 16777216 = 0) (r0 r1 : Int) (q0 : ratio m0 (m0 + m1 + m2) = r0) (q1 : ratio m1 (m0 + m1 + m2) = r1) :
    Calls Try.prog 19 #[.agg #[.int .i64 x0, .int .i64 y0, .int .i64 z0, .int .i64 u0, .slice A0 n0 c0, .int .i64 x1, .int .i64 y1, .int .i64 z1, .int .i64 u1, .slice A1 n1 c1, .int .i64 x2, .int .i64 y2, .int .i64 z2, .int .i64 u2, .slice A2 n2 c2, .int .i64 pr, .bool fr], .int .i64 px, .int .i64 py] w fun e w' => e = .returned (.agg #[.int .i64 r0, .int .i64 r1]) ∧ Below w.heap.size w w' := by
  have b0 := mx_bd h0
  have b1 := mx_bd h1
  have b2 := mx_bd h2
  have d0 := pb_bd u0 b0.1 b0.2
  rw [k0] at d0
  obtain ⟨v0, hv0⟩ : ∃ v, clampI u0 0 16777216 = v := ⟨_, rfl⟩
  rw [hv0] at k0
  have e0 : IntKind.i64.wrap (m0 * v0) = 0 := by rw [k0, IntKind.wrap_i64]; omega
  have hC0 := Lib.hid (fun w => clamp_at u0 0 16777216 v0 w hv0)
  have d1 := pb_bd u1 b1.1 b1.2
  rw [k1] at d1
  obtain ⟨v1, hv1⟩ : ∃ v, clampI u1 0 16777216 = v := ⟨_, rfl⟩
  rw [hv1] at k1
  have e1 : IntKind.i64.wrap (m1 * v1) = 0 := by rw [k1, IntKind.wrap_i64]; omega
  have hC1 := Lib.hid (fun w => clamp_at u1 0 16777216 v1 w hv1)
  have d2 := pb_bd u2 b2.1 b2.2
  rw [k2] at d2
  obtain ⟨v2, hv2⟩ : ∃ v, clampI u2 0 16777216 = v := ⟨_, rfl⟩
  rw [hv2] at k2
  have e2 : IntKind.i64.wrap (m2 * v2) = 0 := by rw [k2, IntKind.wrap_i64]; omega
  have hC2 := Lib.hid (fun w => clamp_at u2 0 16777216 v2 w hv2)
  have hW := Lib.hid (fun w => vweights_at x0 y0 z0 u0 x1 y1 z1 u1 x2 y2 z2 u2 A0 A1 A2 n0 c0 n1 c1 n2 c2 pr fr px py w m0 m1 m2 h0 h1 h2)
  have hR := Lib.hid (fun w => ratios_at m0 m1 m2 r0 r1 b0.1 b1.1 b2.1 (by omega) (by omega) (by omega) q0 q1 w)
  clear h0 h1 h2 q0 q1 b0 b1 b2 d0 d1 d2 k0 k1 k2 hv0 hv1 hv2
  replace e0 := Lib.hid e0
  replace e1 := Lib.hid e1
  replace e2 := Lib.hid e2
  have hk := Lib.hid ((Blk.new w 27 #[.int .i64 x0, .int .i64 y0, .int .i64 z0, .int .i64 u0, .slice A0 n0 c0, .int .i64 x1, .int .i64 y1, .int .i64 z1, .int .i64 u1, .slice A1 n1 c1, .int .i64 x2, .int .i64 y2, .int .i64 z2, .int .i64 u2, .slice A2 n2 c2, .int .i64 pr, .bool fr]).alloc (.cells #[.int .i64 0, .int .i64 0] 28))
  have hr := Lib.hid (Blk.new1 w 28 #[.int .i64 0, .int .i64 0] (.cells #[.int .i64 x0, .int .i64 y0, .int .i64 z0, .int .i64 u0, .slice A0 n0 c0, .int .i64 x1, .int .i64 y1, .int .i64 z1, .int .i64 u1, .slice A1 n1 c1, .int .i64 x2, .int .i64 y2, .int .i64 z2, .int .i64 u2, .slice A2 n2 c2, .int .i64 pr, .bool fr] 27))
  have hB : Hid (Below w.heap.size w ((w.alloc (.cells #[.int .i64 x0, .int .i64 y0, .int .i64 z0, .int .i64 u0, .slice A0 n0 c0, .int .i64 x1, .int .i64 y1, .int .i64 z1, .int .i64 u1, .slice A1 n1 c1, .int .i64 x2, .int .i64 y2, .int .i64 z2, .int .i64 u2, .slice A2 n2 c2, .int .i64 pr, .bool fr] 27)).alloc (.cells #[.int .i64 0, .int .i64 0] 28))) := Lib.hid (by go_grown)
  go_enter Try.func19, Try.ntmps19
  go_wp2_with (refine wpList_load_row rfl 27 _ rfl _ rfl _ _ _ _ hk.out Try.underlying27 rfl triInfo ?_)
  refine (hW.out _).mono ?_
  rintro e W1 ⟨rfl, hb⟩
  replace hk := Lib.hid (hk.out.call hb)
  replace hr := Lib.hid (hr.out.call hb)
  replace hB := Lib.hid (below_on hB.out hb)
  clear hb
  clear hW
  have hz := hr.out.lt
  have hm := Lib.hid (Blk.new W1 36 #[.int .i64 m0, .int .i64 m1, .int .i64 m2])
  go_wp2_with (refine wpList_load_row rfl 36 _ rfl _ rfl _ _ _ _ hm.out Try.underlying36 rfl i3Info ?_)
  replace hm := Lib.hid (hm.out.alloc (.cells #[.int .i64 m0, .int .i64 m1, .int .i64 m2] 36))
  have hp := Lib.hid (Blk.new1 W1 36 #[.int .i64 m0, .int .i64 m1, .int .i64 m2] (.cells #[.int .i64 m0, .int .i64 m1, .int .i64 m2] 36))
  replace hk := Lib.hid ((hk.out.alloc (.cells #[.int .i64 m0, .int .i64 m1, .int .i64 m2] 36)).alloc (.cells #[.int .i64 m0, .int .i64 m1, .int .i64 m2] 36))
  replace hr := Lib.hid ((hr.out.alloc (.cells #[.int .i64 m0, .int .i64 m1, .int .i64 m2] 36)).alloc (.cells #[.int .i64 m0, .int .i64 m1, .int .i64 m2] 36))
  replace hB := Lib.hid ((hB.out.alloc hB.out.size (.cells #[.int .i64 m0, .int .i64 m1, .int .i64 m2] 36)).alloc (by have := hB.out.size; simp; omega) (.cells #[.int .i64 m0, .int .i64 m1, .int .i64 m2] 36))
  refine wp_loop_rounds 4 ?_
  rw [rounds_succ]
  obtain ⟨g, hgg⟩ : ∃ g, W1.heap.size = g := ⟨_, rfl⟩
  simp only [hgg] at hm hp hk hr hB hz ⊢
  generalize (W1.alloc (.cells #[.int .i64 m0, .int .i64 m1, .int .i64 m2] 36)).alloc (.cells #[.int .i64 m0, .int .i64 m1, .int .i64 m2] 36) = X at *
  clear hgg
  go_wp2_with fail
  refine' wp_region_fresh 10 [] (by kernel_rfl) (by kernel_rfl) (by simp) (by simp) (by simp) (by simp) ?hz ?h1 ?hs ?h2
  case hz =>
    intro z hz
    cases hz
  case h1 =>
    intro u hu
    have hku := hk.out.below hu hk.out.lt
    have chk := hku.cell
    have lhk := hku.lt
    have hmu := hm.out.below hu hm.out.lt
    have chm := hmu.cell
    have lhm := hmu.lt
    have hpu := hp.out.below hu hp.out.lt
    have chp := hpu.cell
    have lhp := hpu.lt
    have ee := e0.out
    simp only [List.take_succ_cons, List.take_zero, List.filter, isMk, isAl, isSt, Bool.or_false, Bool.not_false]
    repeat (go_big_quiet_step (first | (go_at_call 29; exact ext_same (hC0.out _))))
    exact wpQuiet_nil rfl
  case hs =>
    intro z hz
    cases hz
  case h2 =>
  intro ℓ xw hlet
  obtain ⟨hbx, -, -⟩ := hlet
  dsimp only [List.drop, lay, List.foldl] at *
  replace hk := Lib.hid (hk.out.below hbx hk.out.lt)
  replace hm := Lib.hid (hm.out.below hbx hm.out.lt)
  replace hp := Lib.hid (hp.out.below hbx hp.out.lt)
  replace hr := Lib.hid (hr.out.below hbx hr.out.lt)
  replace hB := Lib.hid (below_on hB.out hbx)
  clear hbx
  have cp := hp.out.cell
  have fp := hp.out.frozen
  go_wp2_with fail
  clear cp fp
  replace hk := Lib.hid (hk.out.far (p := ⟨g + 1, 0, none⟩) (by simp <;> omega) (.int .i64 0))
  replace hm := Lib.hid (hm.out.far (p := ⟨g + 1, 0, none⟩) (by simp <;> omega) (.int .i64 0))
  replace hr := Lib.hid (hr.out.far (p := ⟨g + 1, 0, none⟩) (by simp <;> omega) (.int .i64 0))
  replace hp : Hid (Blk _ (g + 1) 36 #[.int .i64 0, .int .i64 m1, .int .i64 m2]) := Lib.hid (hp.out.set_ 0 (.int .i64 0))
  replace hB := Lib.hid (hB.out.setCell (p := ⟨g + 1, 0, none⟩) (by simp <;> omega) (.int .i64 0))
  generalize xw.setCell ⟨g + 1, 0, none⟩ (.int .i64 0) = X0 at *
  rw [rounds_succ]
  go_wp2_with fail
  refine' wp_region_fresh 10 [] (by kernel_rfl) (by kernel_rfl) (by simp) (by simp) (by simp) (by simp) ?hz ?h1 ?hs ?h2
  case hz =>
    intro z hz
    cases hz
  case h1 =>
    intro u hu
    have hku := hk.out.below hu hk.out.lt
    have chk := hku.cell
    have lhk := hku.lt
    have hmu := hm.out.below hu hm.out.lt
    have chm := hmu.cell
    have lhm := hmu.lt
    have hpu := hp.out.below hu hp.out.lt
    have chp := hpu.cell
    have lhp := hpu.lt
    have ee := e1.out
    simp only [List.take_succ_cons, List.take_zero, List.filter, isMk, isAl, isSt, Bool.or_false, Bool.not_false]
    repeat (go_big_quiet_step (first | (go_at_call 29; exact ext_same (hC1.out _))))
    exact wpQuiet_nil rfl
  case hs =>
    intro z hz
    cases hz
  case h2 =>
  intro ℓ xw hlet
  obtain ⟨hbx, -, -⟩ := hlet
  dsimp only [List.drop, lay, List.foldl] at *
  replace hk := Lib.hid (hk.out.below hbx hk.out.lt)
  replace hm := Lib.hid (hm.out.below hbx hm.out.lt)
  replace hp := Lib.hid (hp.out.below hbx hp.out.lt)
  replace hr := Lib.hid (hr.out.below hbx hr.out.lt)
  replace hB := Lib.hid (below_on hB.out hbx)
  clear hbx
  have cp := hp.out.cell
  have fp := hp.out.frozen
  go_wp2_with fail
  clear cp fp
  replace hk := Lib.hid (hk.out.far (p := ⟨g + 1, 1, none⟩) (by simp <;> omega) (.int .i64 0))
  replace hm := Lib.hid (hm.out.far (p := ⟨g + 1, 1, none⟩) (by simp <;> omega) (.int .i64 0))
  replace hr := Lib.hid (hr.out.far (p := ⟨g + 1, 1, none⟩) (by simp <;> omega) (.int .i64 0))
  replace hp : Hid (Blk _ (g + 1) 36 #[.int .i64 0, .int .i64 0, .int .i64 m2]) := Lib.hid (hp.out.set_ 1 (.int .i64 0))
  replace hB := Lib.hid (hB.out.setCell (p := ⟨g + 1, 1, none⟩) (by simp <;> omega) (.int .i64 0))
  generalize xw.setCell ⟨g + 1, 1, none⟩ (.int .i64 0) = X1 at *
  rw [rounds_succ]
  go_wp2_with fail
  refine' wp_region_fresh 10 [] (by kernel_rfl) (by kernel_rfl) (by simp) (by simp) (by simp) (by simp) ?hz ?h1 ?hs ?h2
  case hz =>
    intro z hz
    cases hz
  case h1 =>
    intro u hu
    have hku := hk.out.below hu hk.out.lt
    have chk := hku.cell
    have lhk := hku.lt
    have hmu := hm.out.below hu hm.out.lt
    have chm := hmu.cell
    have lhm := hmu.lt
    have hpu := hp.out.below hu hp.out.lt
    have chp := hpu.cell
    have lhp := hpu.lt
    have ee := e2.out
    simp only [List.take_succ_cons, List.take_zero, List.filter, isMk, isAl, isSt, Bool.or_false, Bool.not_false]
    repeat (go_big_quiet_step (first | (go_at_call 29; exact ext_same (hC2.out _))))
    exact wpQuiet_nil rfl
  case hs =>
    intro z hz
    cases hz
  case h2 =>
  intro ℓ xw hlet
  obtain ⟨hbx, -, -⟩ := hlet
  dsimp only [List.drop, lay, List.foldl] at *
  replace hk := Lib.hid (hk.out.below hbx hk.out.lt)
  replace hm := Lib.hid (hm.out.below hbx hm.out.lt)
  replace hp := Lib.hid (hp.out.below hbx hp.out.lt)
  replace hr := Lib.hid (hr.out.below hbx hr.out.lt)
  replace hB := Lib.hid (below_on hB.out hbx)
  clear hbx
  have cp := hp.out.cell
  have fp := hp.out.frozen
  go_wp2_with fail
  clear cp fp
  replace hk := Lib.hid (hk.out.far (p := ⟨g + 1, 2, none⟩) (by simp <;> omega) (.int .i64 0))
  replace hm := Lib.hid (hm.out.far (p := ⟨g + 1, 2, none⟩) (by simp <;> omega) (.int .i64 0))
  replace hr := Lib.hid (hr.out.far (p := ⟨g + 1, 2, none⟩) (by simp <;> omega) (.int .i64 0))
  replace hp : Hid (Blk _ (g + 1) 36 #[.int .i64 0, .int .i64 0, .int .i64 0]) := Lib.hid (hp.out.set_ 2 (.int .i64 0))
  replace hB := Lib.hid (hB.out.setCell (p := ⟨g + 1, 2, none⟩) (by simp <;> omega) (.int .i64 0))
  generalize xw.setCell ⟨g + 1, 2, none⟩ (.int .i64 0) = X2 at *
  rw [rounds_succ]
  go_wp2_with (first | refine wpList_load_row rfl 36 _ rfl _ rfl _ _ _ _ hp.out Try.underlying36 rfl i3Info ?_ | refine wpList_load_row rfl 36 _ rfl _ rfl _ _ _ _ hm.out Try.underlying36 rfl i3Info ?_)
  refine (hR.out _).mono ?_
  rintro e W9 ⟨rfl, hb⟩
  replace hr := Lib.hid (hr.out.call hb)
  replace hB := Lib.hid (below_on hB.out hb)
  clear hb
  go_wp2_with (refine wpList_store_row rfl 28 _ _ rfl (w.heap.size + 1) #[.int .i64 r0, .int .i64 r1] rfl rfl 28 _ hr.out i2Info rfl (by kernel_rfl) ?_)
  refine bodyPost_ret (results_cell_row rfl _ _ (w.heap.size + 1) _ #[.int .i64 r0, .int .i64 r1] _ _ rfl (hr.out.setRow _) Try.underlying28 rfl i2Info) rfl ?_
  exact ⟨rfl, below_setRow hB.out (by omega) _⟩
set_option maxRecDepth 100000 in
set_option maxHeartbeats 16000000 in
theorem persp_some (x0 y0 z0 u0 x1 y1 z1 u1 x2 y2 z2 u2 : Int) (A0 A1 A2 : Option Addr) (n0 c0 n1 c1 n2 c2 : Nat) (pr : Int) (fr : Bool) (px py : Int) (w : World) (m0 m1 m2 : Int) (h0 : max 0 (wtI (validB x0 y0 x1 y1 x2 y2) x1 y1 x2 y2 px py) = m0) (h1 : max 0 (wtI (validB x0 y0 x1 y1 x2 y2) x2 y2 x0 y0 px py) = m1) (h2 : max 0 (wtI (validB x0 y0 x1 y1 x2 y2) x0 y0 x1 y1 px py) = m2) (p0 p1 p2 : Int) (k0 : m0 * clampI u0 0 16777216 = p0) (k1 : m1 * clampI u1 0 16777216 = p1) (k2 : m2 * clampI u2 0 16777216 = p2) (hz : ¬ (p0 = 0 ∧ p1 = 0 ∧ p2 = 0)) (r0 r1 : Int) (q0 : ratio p0 (p0 + p1 + p2) = r0) (q1 : ratio p1 (p0 + p1 + p2) = r1) :
    Calls Try.prog 19 #[.agg #[.int .i64 x0, .int .i64 y0, .int .i64 z0, .int .i64 u0, .slice A0 n0 c0, .int .i64 x1, .int .i64 y1, .int .i64 z1, .int .i64 u1, .slice A1 n1 c1, .int .i64 x2, .int .i64 y2, .int .i64 z2, .int .i64 u2, .slice A2 n2 c2, .int .i64 pr, .bool fr], .int .i64 px, .int .i64 py] w fun e w' => e = .returned (.agg #[.int .i64 r0, .int .i64 r1]) ∧ Below w.heap.size w w' := by
  have b0 := mx_bd h0
  have b1 := mx_bd h1
  have b2 := mx_bd h2
  have d0 := pb_bd u0 b0.1 b0.2
  rw [k0] at d0
  obtain ⟨v0, hv0⟩ : ∃ v, clampI u0 0 16777216 = v := ⟨_, rfl⟩
  rw [hv0] at k0
  have e0 : IntKind.i64.wrap (m0 * v0) = p0 := by rw [k0, IntKind.wrap_i64]; omega
  have hC0 := Lib.hid (fun w => clamp_at u0 0 16777216 v0 w hv0)
  have d1 := pb_bd u1 b1.1 b1.2
  rw [k1] at d1
  obtain ⟨v1, hv1⟩ : ∃ v, clampI u1 0 16777216 = v := ⟨_, rfl⟩
  rw [hv1] at k1
  have e1 : IntKind.i64.wrap (m1 * v1) = p1 := by rw [k1, IntKind.wrap_i64]; omega
  have hC1 := Lib.hid (fun w => clamp_at u1 0 16777216 v1 w hv1)
  have d2 := pb_bd u2 b2.1 b2.2
  rw [k2] at d2
  obtain ⟨v2, hv2⟩ : ∃ v, clampI u2 0 16777216 = v := ⟨_, rfl⟩
  rw [hv2] at k2
  have e2 : IntKind.i64.wrap (m2 * v2) = p2 := by rw [k2, IntKind.wrap_i64]; omega
  have hC2 := Lib.hid (fun w => clamp_at u2 0 16777216 v2 w hv2)
  have hW := Lib.hid (fun w => vweights_at x0 y0 z0 u0 x1 y1 z1 u1 x2 y2 z2 u2 A0 A1 A2 n0 c0 n1 c1 n2 c2 pr fr px py w m0 m1 m2 h0 h1 h2)
  have hR := Lib.hid (fun w => ratios_at p0 p1 p2 r0 r1 d0.1 d1.1 d2.1 (by omega) (by omega) (by omega) q0 q1 w)
  have hne : ∀ xw, (Op.equalIn 10000 36 (.agg #[.int .i64 p0, .int .i64 p1, .int .i64 p2]) (.agg #[.int .i64 0, .int .i64 0, .int .i64 0])).run Try.prog xw = .ok false xw := by
    intro xw
    rw [eq3]
    congr 1
    by_cases i0 : p0 = 0 <;> by_cases i1 : p1 = 0 <;> by_cases i2 : p2 = 0 <;> simp_all
  clear hz
  clear h0 h1 h2 q0 q1 b0 b1 b2 d0 d1 d2 k0 k1 k2 hv0 hv1 hv2
  replace hne := Lib.hid hne
  replace e0 := Lib.hid e0
  replace e1 := Lib.hid e1
  replace e2 := Lib.hid e2
  have hk := Lib.hid ((Blk.new w 27 #[.int .i64 x0, .int .i64 y0, .int .i64 z0, .int .i64 u0, .slice A0 n0 c0, .int .i64 x1, .int .i64 y1, .int .i64 z1, .int .i64 u1, .slice A1 n1 c1, .int .i64 x2, .int .i64 y2, .int .i64 z2, .int .i64 u2, .slice A2 n2 c2, .int .i64 pr, .bool fr]).alloc (.cells #[.int .i64 0, .int .i64 0] 28))
  have hr := Lib.hid (Blk.new1 w 28 #[.int .i64 0, .int .i64 0] (.cells #[.int .i64 x0, .int .i64 y0, .int .i64 z0, .int .i64 u0, .slice A0 n0 c0, .int .i64 x1, .int .i64 y1, .int .i64 z1, .int .i64 u1, .slice A1 n1 c1, .int .i64 x2, .int .i64 y2, .int .i64 z2, .int .i64 u2, .slice A2 n2 c2, .int .i64 pr, .bool fr] 27))
  have hB : Hid (Below w.heap.size w ((w.alloc (.cells #[.int .i64 x0, .int .i64 y0, .int .i64 z0, .int .i64 u0, .slice A0 n0 c0, .int .i64 x1, .int .i64 y1, .int .i64 z1, .int .i64 u1, .slice A1 n1 c1, .int .i64 x2, .int .i64 y2, .int .i64 z2, .int .i64 u2, .slice A2 n2 c2, .int .i64 pr, .bool fr] 27)).alloc (.cells #[.int .i64 0, .int .i64 0] 28))) := Lib.hid (by go_grown)
  go_enter Try.func19, Try.ntmps19
  go_wp2_with (refine wpList_load_row rfl 27 _ rfl _ rfl _ _ _ _ hk.out Try.underlying27 rfl triInfo ?_)
  refine (hW.out _).mono ?_
  rintro e W1 ⟨rfl, hb⟩
  replace hk := Lib.hid (hk.out.call hb)
  replace hr := Lib.hid (hr.out.call hb)
  replace hB := Lib.hid (below_on hB.out hb)
  clear hb
  clear hW
  have hz := hr.out.lt
  have hm := Lib.hid (Blk.new W1 36 #[.int .i64 m0, .int .i64 m1, .int .i64 m2])
  go_wp2_with (refine wpList_load_row rfl 36 _ rfl _ rfl _ _ _ _ hm.out Try.underlying36 rfl i3Info ?_)
  replace hm := Lib.hid (hm.out.alloc (.cells #[.int .i64 m0, .int .i64 m1, .int .i64 m2] 36))
  have hp := Lib.hid (Blk.new1 W1 36 #[.int .i64 m0, .int .i64 m1, .int .i64 m2] (.cells #[.int .i64 m0, .int .i64 m1, .int .i64 m2] 36))
  replace hk := Lib.hid ((hk.out.alloc (.cells #[.int .i64 m0, .int .i64 m1, .int .i64 m2] 36)).alloc (.cells #[.int .i64 m0, .int .i64 m1, .int .i64 m2] 36))
  replace hr := Lib.hid ((hr.out.alloc (.cells #[.int .i64 m0, .int .i64 m1, .int .i64 m2] 36)).alloc (.cells #[.int .i64 m0, .int .i64 m1, .int .i64 m2] 36))
  replace hB := Lib.hid ((hB.out.alloc hB.out.size (.cells #[.int .i64 m0, .int .i64 m1, .int .i64 m2] 36)).alloc (by have := hB.out.size; simp; omega) (.cells #[.int .i64 m0, .int .i64 m1, .int .i64 m2] 36))
  refine wp_loop_rounds 4 ?_
  rw [rounds_succ]
  obtain ⟨g, hgg⟩ : ∃ g, W1.heap.size = g := ⟨_, rfl⟩
  simp only [hgg] at hm hp hk hr hB hz ⊢
  generalize (W1.alloc (.cells #[.int .i64 m0, .int .i64 m1, .int .i64 m2] 36)).alloc (.cells #[.int .i64 m0, .int .i64 m1, .int .i64 m2] 36) = X at *
  clear hgg
  go_wp2_with fail
  refine' wp_region_fresh 10 [] (by kernel_rfl) (by kernel_rfl) (by simp) (by simp) (by simp) (by simp) ?hz ?h1 ?hs ?h2
  case hz =>
    intro z hz
    cases hz
  case h1 =>
    intro u hu
    have hku := hk.out.below hu hk.out.lt
    have chk := hku.cell
    have lhk := hku.lt
    have hmu := hm.out.below hu hm.out.lt
    have chm := hmu.cell
    have lhm := hmu.lt
    have hpu := hp.out.below hu hp.out.lt
    have chp := hpu.cell
    have lhp := hpu.lt
    have ee := e0.out
    simp only [List.take_succ_cons, List.take_zero, List.filter, isMk, isAl, isSt, Bool.or_false, Bool.not_false]
    repeat (go_big_quiet_step (first | (go_at_call 29; exact ext_same (hC0.out _))))
    exact wpQuiet_nil rfl
  case hs =>
    intro z hz
    cases hz
  case h2 =>
  intro ℓ xw hlet
  obtain ⟨hbx, -, -⟩ := hlet
  dsimp only [List.drop, lay, List.foldl] at *
  replace hk := Lib.hid (hk.out.below hbx hk.out.lt)
  replace hm := Lib.hid (hm.out.below hbx hm.out.lt)
  replace hp := Lib.hid (hp.out.below hbx hp.out.lt)
  replace hr := Lib.hid (hr.out.below hbx hr.out.lt)
  replace hB := Lib.hid (below_on hB.out hbx)
  clear hbx
  have cp := hp.out.cell
  have fp := hp.out.frozen
  go_wp2_with fail
  clear cp fp
  replace hk := Lib.hid (hk.out.far (p := ⟨g + 1, 0, none⟩) (by simp <;> omega) (.int .i64 p0))
  replace hm := Lib.hid (hm.out.far (p := ⟨g + 1, 0, none⟩) (by simp <;> omega) (.int .i64 p0))
  replace hr := Lib.hid (hr.out.far (p := ⟨g + 1, 0, none⟩) (by simp <;> omega) (.int .i64 p0))
  replace hp : Hid (Blk _ (g + 1) 36 #[.int .i64 p0, .int .i64 m1, .int .i64 m2]) := Lib.hid (hp.out.set_ 0 (.int .i64 p0))
  replace hB := Lib.hid (hB.out.setCell (p := ⟨g + 1, 0, none⟩) (by simp <;> omega) (.int .i64 p0))
  generalize xw.setCell ⟨g + 1, 0, none⟩ (.int .i64 p0) = X0 at *
  rw [rounds_succ]
  go_wp2_with fail
  refine' wp_region_fresh 10 [] (by kernel_rfl) (by kernel_rfl) (by simp) (by simp) (by simp) (by simp) ?hz ?h1 ?hs ?h2
  case hz =>
    intro z hz
    cases hz
  case h1 =>
    intro u hu
    have hku := hk.out.below hu hk.out.lt
    have chk := hku.cell
    have lhk := hku.lt
    have hmu := hm.out.below hu hm.out.lt
    have chm := hmu.cell
    have lhm := hmu.lt
    have hpu := hp.out.below hu hp.out.lt
    have chp := hpu.cell
    have lhp := hpu.lt
    have ee := e1.out
    simp only [List.take_succ_cons, List.take_zero, List.filter, isMk, isAl, isSt, Bool.or_false, Bool.not_false]
    repeat (go_big_quiet_step (first | (go_at_call 29; exact ext_same (hC1.out _))))
    exact wpQuiet_nil rfl
  case hs =>
    intro z hz
    cases hz
  case h2 =>
  intro ℓ xw hlet
  obtain ⟨hbx, -, -⟩ := hlet
  dsimp only [List.drop, lay, List.foldl] at *
  replace hk := Lib.hid (hk.out.below hbx hk.out.lt)
  replace hm := Lib.hid (hm.out.below hbx hm.out.lt)
  replace hp := Lib.hid (hp.out.below hbx hp.out.lt)
  replace hr := Lib.hid (hr.out.below hbx hr.out.lt)
  replace hB := Lib.hid (below_on hB.out hbx)
  clear hbx
  have cp := hp.out.cell
  have fp := hp.out.frozen
  go_wp2_with fail
  clear cp fp
  replace hk := Lib.hid (hk.out.far (p := ⟨g + 1, 1, none⟩) (by simp <;> omega) (.int .i64 p1))
  replace hm := Lib.hid (hm.out.far (p := ⟨g + 1, 1, none⟩) (by simp <;> omega) (.int .i64 p1))
  replace hr := Lib.hid (hr.out.far (p := ⟨g + 1, 1, none⟩) (by simp <;> omega) (.int .i64 p1))
  replace hp : Hid (Blk _ (g + 1) 36 #[.int .i64 p0, .int .i64 p1, .int .i64 m2]) := Lib.hid (hp.out.set_ 1 (.int .i64 p1))
  replace hB := Lib.hid (hB.out.setCell (p := ⟨g + 1, 1, none⟩) (by simp <;> omega) (.int .i64 p1))
  generalize xw.setCell ⟨g + 1, 1, none⟩ (.int .i64 p1) = X1 at *
  rw [rounds_succ]
  go_wp2_with fail
  refine' wp_region_fresh 10 [] (by kernel_rfl) (by kernel_rfl) (by simp) (by simp) (by simp) (by simp) ?hz ?h1 ?hs ?h2
  case hz =>
    intro z hz
    cases hz
  case h1 =>
    intro u hu
    have hku := hk.out.below hu hk.out.lt
    have chk := hku.cell
    have lhk := hku.lt
    have hmu := hm.out.below hu hm.out.lt
    have chm := hmu.cell
    have lhm := hmu.lt
    have hpu := hp.out.below hu hp.out.lt
    have chp := hpu.cell
    have lhp := hpu.lt
    have ee := e2.out
    simp only [List.take_succ_cons, List.take_zero, List.filter, isMk, isAl, isSt, Bool.or_false, Bool.not_false]
    repeat (go_big_quiet_step (first | (go_at_call 29; exact ext_same (hC2.out _))))
    exact wpQuiet_nil rfl
  case hs =>
    intro z hz
    cases hz
  case h2 =>
  intro ℓ xw hlet
  obtain ⟨hbx, -, -⟩ := hlet
  dsimp only [List.drop, lay, List.foldl] at *
  replace hk := Lib.hid (hk.out.below hbx hk.out.lt)
  replace hm := Lib.hid (hm.out.below hbx hm.out.lt)
  replace hp := Lib.hid (hp.out.below hbx hp.out.lt)
  replace hr := Lib.hid (hr.out.below hbx hr.out.lt)
  replace hB := Lib.hid (below_on hB.out hbx)
  clear hbx
  have cp := hp.out.cell
  have fp := hp.out.frozen
  go_wp2_with fail
  clear cp fp
  replace hk := Lib.hid (hk.out.far (p := ⟨g + 1, 2, none⟩) (by simp <;> omega) (.int .i64 p2))
  replace hm := Lib.hid (hm.out.far (p := ⟨g + 1, 2, none⟩) (by simp <;> omega) (.int .i64 p2))
  replace hr := Lib.hid (hr.out.far (p := ⟨g + 1, 2, none⟩) (by simp <;> omega) (.int .i64 p2))
  replace hp : Hid (Blk _ (g + 1) 36 #[.int .i64 p0, .int .i64 p1, .int .i64 p2]) := Lib.hid (hp.out.set_ 2 (.int .i64 p2))
  replace hB := Lib.hid (hB.out.setCell (p := ⟨g + 1, 2, none⟩) (by simp <;> omega) (.int .i64 p2))
  generalize xw.setCell ⟨g + 1, 2, none⟩ (.int .i64 p2) = X2 at *
  rw [rounds_succ]
  have hne' := hne.out
  go_wp2_with (first | refine wpList_load_row rfl 36 _ rfl _ rfl _ _ _ _ hp.out Try.underlying36 rfl i3Info ?_ | refine wpList_load_row rfl 36 _ rfl _ rfl _ _ _ _ hm.out Try.underlying36 rfl i3Info ?_)
  refine (hR.out _).mono ?_
  rintro e W9 ⟨rfl, hb⟩
  replace hr := Lib.hid (hr.out.call hb)
  replace hB := Lib.hid (below_on hB.out hb)
  clear hb
  go_wp2_with (refine wpList_store_row rfl 28 _ _ rfl (w.heap.size + 1) #[.int .i64 r0, .int .i64 r1] rfl rfl 28 _ hr.out i2Info rfl (by kernel_rfl) ?_)
  refine bodyPost_ret (results_cell_row rfl _ _ (w.heap.size + 1) _ #[.int .i64 r0, .int .i64 r1] _ _ rfl (hr.out.setRow _) Try.underlying28 rfl i2Info) rfl ?_
  exact ⟨rfl, below_setRow hB.out (by omega) _⟩
set_option maxRecDepth 100000 in
set_option maxHeartbeats 16000000 in
theorem rPersp_zero (x0 y0 z0 u0 x1 y1 z1 u1 x2 y2 z2 u2 : Int) (A0 A1 A2 : Option Addr) (n0 c0 n1 c1 n2 c2 : Nat) (pr : Int) (fr : Bool) (px py : Int) (w : World) (m0 m1 m2 : Int) (h0 : max 0 (wtI (validB x0 y0 x1 y1 x2 y2) x1 y1 x2 y2 px py) = m0) (h1 : max 0 (wtI (validB x0 y0 x1 y1 x2 y2) x2 y2 x0 y0 px py) = m1) (h2 : max 0 (wtI (validB x0 y0 x1 y1 x2 y2) x0 y0 x1 y1 px py) = m2) (k0 : m0 * clampI u0 0 16777216 = 0) (k1 : m1 * clampI u1 0 16777216 = 0) (k2 : m2 * clampI u2 0 16777216 = 0) (r0 r1 : Int) (q0 : ratio m0 (m0 + m1 + m2) = r0) (q1 : ratio m1 (m0 + m1 + m2) = r1) (hv : validB x0 y0 x1 y1 x2 y2 = true) :
    Calls Try.prog 20 #[.agg #[.int .i64 x0, .int .i64 y0, .int .i64 z0, .int .i64 u0, .slice A0 n0 c0, .int .i64 x1, .int .i64 y1, .int .i64 z1, .int .i64 u1, .slice A1 n1 c1, .int .i64 x2, .int .i64 y2, .int .i64 z2, .int .i64 u2, .slice A2 n2 c2, .int .i64 pr, .bool fr], .int .i64 px, .int .i64 py] w fun e w' => e = .returned (.agg #[.int .i64 r0, .int .i64 r1]) ∧ Below w.heap.size w w' := by
  have b0 := mx_bd h0
  have b1 := mx_bd h1
  have b2 := mx_bd h2
  have d0 := pb_bd u0 b0.1 b0.2
  rw [k0] at d0
  obtain ⟨v0, hv0⟩ : ∃ v, clampI u0 0 16777216 = v := ⟨_, rfl⟩
  rw [hv0] at k0
  have e0 : IntKind.i64.wrap (m0 * v0) = 0 := by rw [k0, IntKind.wrap_i64]; omega
  have hC0 := Lib.hid (fun w => r_clamp_at u0 0 16777216 v0 (by omega) w hv0)
  have d1 := pb_bd u1 b1.1 b1.2
  rw [k1] at d1
  obtain ⟨v1, hv1⟩ : ∃ v, clampI u1 0 16777216 = v := ⟨_, rfl⟩
  rw [hv1] at k1
  have e1 : IntKind.i64.wrap (m1 * v1) = 0 := by rw [k1, IntKind.wrap_i64]; omega
  have hC1 := Lib.hid (fun w => r_clamp_at u1 0 16777216 v1 (by omega) w hv1)
  have d2 := pb_bd u2 b2.1 b2.2
  rw [k2] at d2
  obtain ⟨v2, hv2⟩ : ∃ v, clampI u2 0 16777216 = v := ⟨_, rfl⟩
  rw [hv2] at k2
  have e2 : IntKind.i64.wrap (m2 * v2) = 0 := by rw [k2, IntKind.wrap_i64]; omega
  have hC2 := Lib.hid (fun w => r_clamp_at u2 0 16777216 v2 (by omega) w hv2)
  have hW := Lib.hid (fun w => rvweights_at x0 y0 z0 u0 x1 y1 z1 u1 x2 y2 z2 u2 A0 A1 A2 n0 c0 n1 c1 n2 c2 pr fr px py w m0 m1 m2 h0 h1 h2)
  have hR := Lib.hid (fun w => rRatios_at m0 m1 m2 r0 r1 b0.1 b1.1 b2.1 (by omega) (by omega) (by omega) q0 q1 w)
  clear h0 h1 h2 q0 q1 b0 b1 b2 d0 d1 d2 k0 k1 k2 hv0 hv1 hv2
  replace e0 := Lib.hid e0
  replace e1 := Lib.hid e1
  replace e2 := Lib.hid e2
  replace hv := Lib.hid (fun w => rValid_at x0 y0 z0 u0 x1 y1 z1 u1 x2 y2 z2 u2 A0 A1 A2 n0 c0 n1 c1 n2 c2 pr fr w true hv)
  have hk := Lib.hid ((Blk.new w 27 #[.int .i64 x0, .int .i64 y0, .int .i64 z0, .int .i64 u0, .slice A0 n0 c0, .int .i64 x1, .int .i64 y1, .int .i64 z1, .int .i64 u1, .slice A1 n1 c1, .int .i64 x2, .int .i64 y2, .int .i64 z2, .int .i64 u2, .slice A2 n2 c2, .int .i64 pr, .bool fr]).alloc (.cells #[.int .i64 0, .int .i64 0] 28))
  have hr := Lib.hid (Blk.new1 w 28 #[.int .i64 0, .int .i64 0] (.cells #[.int .i64 x0, .int .i64 y0, .int .i64 z0, .int .i64 u0, .slice A0 n0 c0, .int .i64 x1, .int .i64 y1, .int .i64 z1, .int .i64 u1, .slice A1 n1 c1, .int .i64 x2, .int .i64 y2, .int .i64 z2, .int .i64 u2, .slice A2 n2 c2, .int .i64 pr, .bool fr] 27))
  have hB : Hid (Below w.heap.size w ((w.alloc (.cells #[.int .i64 x0, .int .i64 y0, .int .i64 z0, .int .i64 u0, .slice A0 n0 c0, .int .i64 x1, .int .i64 y1, .int .i64 z1, .int .i64 u1, .slice A1 n1 c1, .int .i64 x2, .int .i64 y2, .int .i64 z2, .int .i64 u2, .slice A2 n2 c2, .int .i64 pr, .bool fr] 27)).alloc (.cells #[.int .i64 0, .int .i64 0] 28))) := Lib.hid (by go_grown)
  go_enter Try.func20, Try.ntmps20
  go_wp2_with (refine wpList_load_row rfl 27 _ rfl _ rfl _ _ _ _ hk.out Try.underlying27 rfl triInfo ?_)
  refine (hv.out _).mono ?_
  rintro e W0 ⟨rfl, hb⟩
  replace hk := Lib.hid (hk.out.call hb)
  replace hr := Lib.hid (hr.out.call hb)
  replace hB := Lib.hid (below_on hB.out hb)
  clear hb
  clear hv
  go_wp2_with (refine wpList_load_row rfl 27 _ rfl _ rfl _ _ _ _ hk.out Try.underlying27 rfl triInfo ?_)
  refine (hW.out _).mono ?_
  rintro e W1 ⟨rfl, hb⟩
  replace hk := Lib.hid (hk.out.call hb)
  replace hr := Lib.hid (hr.out.call hb)
  replace hB := Lib.hid (below_on hB.out hb)
  clear hb
  clear hW
  have hz := hr.out.lt
  have hm := Lib.hid (Blk.new W1 36 #[.int .i64 m0, .int .i64 m1, .int .i64 m2])
  go_wp2_with (refine wpList_load_row rfl 36 _ rfl _ rfl _ _ _ _ hm.out Try.underlying36 rfl i3Info ?_)
  replace hm := Lib.hid (hm.out.alloc (.cells #[.int .i64 0, .int .i64 0, .int .i64 0] 36))
  have hp := Lib.hid (Blk.new1 W1 36 #[.int .i64 0, .int .i64 0, .int .i64 0] (.cells #[.int .i64 m0, .int .i64 m1, .int .i64 m2] 36))
  replace hk := Lib.hid ((hk.out.alloc (.cells #[.int .i64 m0, .int .i64 m1, .int .i64 m2] 36)).alloc (.cells #[.int .i64 0, .int .i64 0, .int .i64 0] 36))
  replace hr := Lib.hid ((hr.out.alloc (.cells #[.int .i64 m0, .int .i64 m1, .int .i64 m2] 36)).alloc (.cells #[.int .i64 0, .int .i64 0, .int .i64 0] 36))
  replace hB := Lib.hid ((hB.out.alloc hB.out.size (.cells #[.int .i64 m0, .int .i64 m1, .int .i64 m2] 36)).alloc (by have := hB.out.size; simp; omega) (.cells #[.int .i64 0, .int .i64 0, .int .i64 0] 36))
  refine wp_loop_rounds 4 ?_
  rw [rounds_succ]
  obtain ⟨g, hgg⟩ : ∃ g, W1.heap.size = g := ⟨_, rfl⟩
  simp only [hgg] at hm hp hk hr hB hz ⊢
  generalize (W1.alloc (.cells #[.int .i64 m0, .int .i64 m1, .int .i64 m2] 36)).alloc (.cells #[.int .i64 0, .int .i64 0, .int .i64 0] 36) = X at *
  clear hgg
  go_wp2_with fail
  refine' wp_region_fresh 11 [] (by kernel_rfl) (by kernel_rfl) (by simp) (by simp) (by simp) (by simp) ?hz ?h1 ?hs ?h2
  case hz =>
    intro z hz
    cases hz
  case h1 =>
    intro u hu
    have hku := hk.out.below hu hk.out.lt
    have chk := hku.cell
    have lhk := hku.lt
    have hmu := hm.out.below hu hm.out.lt
    have chm := hmu.cell
    have lhm := hmu.lt
    have hpu := hp.out.below hu hp.out.lt
    have chp := hpu.cell
    have lhp := hpu.lt
    have ee := e0.out
    simp only [List.take_succ_cons, List.take_zero, List.filter, isMk, isAl, isSt, Bool.or_false, Bool.not_false]
    repeat (go_big_quiet_step (first | (go_at_call 32; exact ext_same (hC0.out _))))
    exact wpQuiet_nil rfl
  case hs =>
    intro z hz
    cases hz
  case h2 =>
  intro ℓ xw hlet
  obtain ⟨hbx, -, -⟩ := hlet
  dsimp only [List.drop, lay, List.foldl] at *
  replace hk := Lib.hid (hk.out.below hbx hk.out.lt)
  replace hm := Lib.hid (hm.out.below hbx hm.out.lt)
  replace hp := Lib.hid (hp.out.below hbx hp.out.lt)
  replace hr := Lib.hid (hr.out.below hbx hr.out.lt)
  replace hB := Lib.hid (below_on hB.out hbx)
  clear hbx
  have cp := hp.out.cell
  have fp := hp.out.frozen
  go_wp2_with fail
  clear cp fp
  replace hk := Lib.hid (hk.out.far (p := ⟨g + 1, 0, none⟩) (by simp <;> omega) (.int .i64 0))
  replace hm := Lib.hid (hm.out.far (p := ⟨g + 1, 0, none⟩) (by simp <;> omega) (.int .i64 0))
  replace hr := Lib.hid (hr.out.far (p := ⟨g + 1, 0, none⟩) (by simp <;> omega) (.int .i64 0))
  replace hp : Hid (Blk _ (g + 1) 36 #[.int .i64 0, .int .i64 0, .int .i64 0]) := Lib.hid (hp.out.set_ 0 (.int .i64 0))
  replace hB := Lib.hid (hB.out.setCell (p := ⟨g + 1, 0, none⟩) (by simp <;> omega) (.int .i64 0))
  generalize xw.setCell ⟨g + 1, 0, none⟩ (.int .i64 0) = X0 at *
  rw [rounds_succ]
  go_wp2_with fail
  refine' wp_region_fresh 11 [] (by kernel_rfl) (by kernel_rfl) (by simp) (by simp) (by simp) (by simp) ?hz ?h1 ?hs ?h2
  case hz =>
    intro z hz
    cases hz
  case h1 =>
    intro u hu
    have hku := hk.out.below hu hk.out.lt
    have chk := hku.cell
    have lhk := hku.lt
    have hmu := hm.out.below hu hm.out.lt
    have chm := hmu.cell
    have lhm := hmu.lt
    have hpu := hp.out.below hu hp.out.lt
    have chp := hpu.cell
    have lhp := hpu.lt
    have ee := e1.out
    simp only [List.take_succ_cons, List.take_zero, List.filter, isMk, isAl, isSt, Bool.or_false, Bool.not_false]
    repeat (go_big_quiet_step (first | (go_at_call 32; exact ext_same (hC1.out _))))
    exact wpQuiet_nil rfl
  case hs =>
    intro z hz
    cases hz
  case h2 =>
  intro ℓ xw hlet
  obtain ⟨hbx, -, -⟩ := hlet
  dsimp only [List.drop, lay, List.foldl] at *
  replace hk := Lib.hid (hk.out.below hbx hk.out.lt)
  replace hm := Lib.hid (hm.out.below hbx hm.out.lt)
  replace hp := Lib.hid (hp.out.below hbx hp.out.lt)
  replace hr := Lib.hid (hr.out.below hbx hr.out.lt)
  replace hB := Lib.hid (below_on hB.out hbx)
  clear hbx
  have cp := hp.out.cell
  have fp := hp.out.frozen
  go_wp2_with fail
  clear cp fp
  replace hk := Lib.hid (hk.out.far (p := ⟨g + 1, 1, none⟩) (by simp <;> omega) (.int .i64 0))
  replace hm := Lib.hid (hm.out.far (p := ⟨g + 1, 1, none⟩) (by simp <;> omega) (.int .i64 0))
  replace hr := Lib.hid (hr.out.far (p := ⟨g + 1, 1, none⟩) (by simp <;> omega) (.int .i64 0))
  replace hp : Hid (Blk _ (g + 1) 36 #[.int .i64 0, .int .i64 0, .int .i64 0]) := Lib.hid (hp.out.set_ 1 (.int .i64 0))
  replace hB := Lib.hid (hB.out.setCell (p := ⟨g + 1, 1, none⟩) (by simp <;> omega) (.int .i64 0))
  generalize xw.setCell ⟨g + 1, 1, none⟩ (.int .i64 0) = X1 at *
  rw [rounds_succ]
  go_wp2_with fail
  refine' wp_region_fresh 11 [] (by kernel_rfl) (by kernel_rfl) (by simp) (by simp) (by simp) (by simp) ?hz ?h1 ?hs ?h2
  case hz =>
    intro z hz
    cases hz
  case h1 =>
    intro u hu
    have hku := hk.out.below hu hk.out.lt
    have chk := hku.cell
    have lhk := hku.lt
    have hmu := hm.out.below hu hm.out.lt
    have chm := hmu.cell
    have lhm := hmu.lt
    have hpu := hp.out.below hu hp.out.lt
    have chp := hpu.cell
    have lhp := hpu.lt
    have ee := e2.out
    simp only [List.take_succ_cons, List.take_zero, List.filter, isMk, isAl, isSt, Bool.or_false, Bool.not_false]
    repeat (go_big_quiet_step (first | (go_at_call 32; exact ext_same (hC2.out _))))
    exact wpQuiet_nil rfl
  case hs =>
    intro z hz
    cases hz
  case h2 =>
  intro ℓ xw hlet
  obtain ⟨hbx, -, -⟩ := hlet
  dsimp only [List.drop, lay, List.foldl] at *
  replace hk := Lib.hid (hk.out.below hbx hk.out.lt)
  replace hm := Lib.hid (hm.out.below hbx hm.out.lt)
  replace hp := Lib.hid (hp.out.below hbx hp.out.lt)
  replace hr := Lib.hid (hr.out.below hbx hr.out.lt)
  replace hB := Lib.hid (below_on hB.out hbx)
  clear hbx
  have cp := hp.out.cell
  have fp := hp.out.frozen
  go_wp2_with fail
  clear cp fp
  replace hk := Lib.hid (hk.out.far (p := ⟨g + 1, 2, none⟩) (by simp <;> omega) (.int .i64 0))
  replace hm := Lib.hid (hm.out.far (p := ⟨g + 1, 2, none⟩) (by simp <;> omega) (.int .i64 0))
  replace hr := Lib.hid (hr.out.far (p := ⟨g + 1, 2, none⟩) (by simp <;> omega) (.int .i64 0))
  replace hp : Hid (Blk _ (g + 1) 36 #[.int .i64 0, .int .i64 0, .int .i64 0]) := Lib.hid (hp.out.set_ 2 (.int .i64 0))
  replace hB := Lib.hid (hB.out.setCell (p := ⟨g + 1, 2, none⟩) (by simp <;> omega) (.int .i64 0))
  generalize xw.setCell ⟨g + 1, 2, none⟩ (.int .i64 0) = X2 at *
  rw [rounds_succ]
  have cp := hp.out.cell
  go_wp2_with (first | refine wpList_load_row rfl 36 _ rfl _ rfl _ _ _ _ hp.out Try.underlying36 rfl i3Info ?_ | refine wpList_load_row rfl 36 _ rfl _ rfl _ _ _ _ hm.out Try.underlying36 rfl i3Info ?_)
  refine (hR.out _).mono ?_
  rintro e W9 ⟨rfl, hb⟩
  replace hr := Lib.hid (hr.out.call hb)
  replace hB := Lib.hid (below_on hB.out hb)
  clear hb
  go_wp2_with (refine wpList_store_row rfl 28 _ _ rfl (w.heap.size + 1) #[.int .i64 r0, .int .i64 r1] rfl rfl 28 _ hr.out i2Info rfl (by kernel_rfl) ?_)
  refine bodyPost_ret (results_cell_row rfl _ _ (w.heap.size + 1) _ #[.int .i64 r0, .int .i64 r1] _ _ rfl (hr.out.setRow _) Try.underlying28 rfl i2Info) rfl ?_
  exact ⟨rfl, below_setRow hB.out (by omega) _⟩
set_option maxRecDepth 100000 in
set_option maxHeartbeats 16000000 in
theorem rPersp_some (x0 y0 z0 u0 x1 y1 z1 u1 x2 y2 z2 u2 : Int) (A0 A1 A2 : Option Addr) (n0 c0 n1 c1 n2 c2 : Nat) (pr : Int) (fr : Bool) (px py : Int) (w : World) (m0 m1 m2 : Int) (h0 : max 0 (wtI (validB x0 y0 x1 y1 x2 y2) x1 y1 x2 y2 px py) = m0) (h1 : max 0 (wtI (validB x0 y0 x1 y1 x2 y2) x2 y2 x0 y0 px py) = m1) (h2 : max 0 (wtI (validB x0 y0 x1 y1 x2 y2) x0 y0 x1 y1 px py) = m2) (p0 p1 p2 : Int) (k0 : m0 * clampI u0 0 16777216 = p0) (k1 : m1 * clampI u1 0 16777216 = p1) (k2 : m2 * clampI u2 0 16777216 = p2) (hz : ¬ (p0 = 0 ∧ p1 = 0 ∧ p2 = 0)) (r0 r1 : Int) (q0 : ratio p0 (p0 + p1 + p2) = r0) (q1 : ratio p1 (p0 + p1 + p2) = r1) (hv : validB x0 y0 x1 y1 x2 y2 = true) :
    Calls Try.prog 20 #[.agg #[.int .i64 x0, .int .i64 y0, .int .i64 z0, .int .i64 u0, .slice A0 n0 c0, .int .i64 x1, .int .i64 y1, .int .i64 z1, .int .i64 u1, .slice A1 n1 c1, .int .i64 x2, .int .i64 y2, .int .i64 z2, .int .i64 u2, .slice A2 n2 c2, .int .i64 pr, .bool fr], .int .i64 px, .int .i64 py] w fun e w' => e = .returned (.agg #[.int .i64 r0, .int .i64 r1]) ∧ Below w.heap.size w w' := by
  have b0 := mx_bd h0
  have b1 := mx_bd h1
  have b2 := mx_bd h2
  have d0 := pb_bd u0 b0.1 b0.2
  rw [k0] at d0
  obtain ⟨v0, hv0⟩ : ∃ v, clampI u0 0 16777216 = v := ⟨_, rfl⟩
  rw [hv0] at k0
  have e0 : IntKind.i64.wrap (m0 * v0) = p0 := by rw [k0, IntKind.wrap_i64]; omega
  have hC0 := Lib.hid (fun w => r_clamp_at u0 0 16777216 v0 (by omega) w hv0)
  have d1 := pb_bd u1 b1.1 b1.2
  rw [k1] at d1
  obtain ⟨v1, hv1⟩ : ∃ v, clampI u1 0 16777216 = v := ⟨_, rfl⟩
  rw [hv1] at k1
  have e1 : IntKind.i64.wrap (m1 * v1) = p1 := by rw [k1, IntKind.wrap_i64]; omega
  have hC1 := Lib.hid (fun w => r_clamp_at u1 0 16777216 v1 (by omega) w hv1)
  have d2 := pb_bd u2 b2.1 b2.2
  rw [k2] at d2
  obtain ⟨v2, hv2⟩ : ∃ v, clampI u2 0 16777216 = v := ⟨_, rfl⟩
  rw [hv2] at k2
  have e2 : IntKind.i64.wrap (m2 * v2) = p2 := by rw [k2, IntKind.wrap_i64]; omega
  have hC2 := Lib.hid (fun w => r_clamp_at u2 0 16777216 v2 (by omega) w hv2)
  have hW := Lib.hid (fun w => rvweights_at x0 y0 z0 u0 x1 y1 z1 u1 x2 y2 z2 u2 A0 A1 A2 n0 c0 n1 c1 n2 c2 pr fr px py w m0 m1 m2 h0 h1 h2)
  have hR := Lib.hid (fun w => rRatios_at p0 p1 p2 r0 r1 d0.1 d1.1 d2.1 (by omega) (by omega) (by omega) q0 q1 w)
  have s0 : IntKind.i64.wrap (p0 + p1) = p0 + p1 := by rw [IntKind.wrap_i64]; omega
  have s1 : IntKind.i64.wrap (p0 + p1 + p2) = p0 + p1 + p2 := by rw [IntKind.wrap_i64]; omega
  have s2 : ((p0 + p1 + p2 : Int) == 0) = false := by rw [beq_eq_false_iff_ne]; omega
  clear hz
  clear h0 h1 h2 q0 q1 b0 b1 b2 d0 d1 d2 k0 k1 k2 hv0 hv1 hv2
  replace s0 := Lib.hid s0
  replace s1 := Lib.hid s1
  replace s2 := Lib.hid s2
  replace e0 := Lib.hid e0
  replace e1 := Lib.hid e1
  replace e2 := Lib.hid e2
  replace hv := Lib.hid (fun w => rValid_at x0 y0 z0 u0 x1 y1 z1 u1 x2 y2 z2 u2 A0 A1 A2 n0 c0 n1 c1 n2 c2 pr fr w true hv)
  have hk := Lib.hid ((Blk.new w 27 #[.int .i64 x0, .int .i64 y0, .int .i64 z0, .int .i64 u0, .slice A0 n0 c0, .int .i64 x1, .int .i64 y1, .int .i64 z1, .int .i64 u1, .slice A1 n1 c1, .int .i64 x2, .int .i64 y2, .int .i64 z2, .int .i64 u2, .slice A2 n2 c2, .int .i64 pr, .bool fr]).alloc (.cells #[.int .i64 0, .int .i64 0] 28))
  have hr := Lib.hid (Blk.new1 w 28 #[.int .i64 0, .int .i64 0] (.cells #[.int .i64 x0, .int .i64 y0, .int .i64 z0, .int .i64 u0, .slice A0 n0 c0, .int .i64 x1, .int .i64 y1, .int .i64 z1, .int .i64 u1, .slice A1 n1 c1, .int .i64 x2, .int .i64 y2, .int .i64 z2, .int .i64 u2, .slice A2 n2 c2, .int .i64 pr, .bool fr] 27))
  have hB : Hid (Below w.heap.size w ((w.alloc (.cells #[.int .i64 x0, .int .i64 y0, .int .i64 z0, .int .i64 u0, .slice A0 n0 c0, .int .i64 x1, .int .i64 y1, .int .i64 z1, .int .i64 u1, .slice A1 n1 c1, .int .i64 x2, .int .i64 y2, .int .i64 z2, .int .i64 u2, .slice A2 n2 c2, .int .i64 pr, .bool fr] 27)).alloc (.cells #[.int .i64 0, .int .i64 0] 28))) := Lib.hid (by go_grown)
  go_enter Try.func20, Try.ntmps20
  go_wp2_with (refine wpList_load_row rfl 27 _ rfl _ rfl _ _ _ _ hk.out Try.underlying27 rfl triInfo ?_)
  refine (hv.out _).mono ?_
  rintro e W0 ⟨rfl, hb⟩
  replace hk := Lib.hid (hk.out.call hb)
  replace hr := Lib.hid (hr.out.call hb)
  replace hB := Lib.hid (below_on hB.out hb)
  clear hb
  clear hv
  go_wp2_with (refine wpList_load_row rfl 27 _ rfl _ rfl _ _ _ _ hk.out Try.underlying27 rfl triInfo ?_)
  refine (hW.out _).mono ?_
  rintro e W1 ⟨rfl, hb⟩
  replace hk := Lib.hid (hk.out.call hb)
  replace hr := Lib.hid (hr.out.call hb)
  replace hB := Lib.hid (below_on hB.out hb)
  clear hb
  clear hW
  have hz := hr.out.lt
  have hm := Lib.hid (Blk.new W1 36 #[.int .i64 m0, .int .i64 m1, .int .i64 m2])
  go_wp2_with (refine wpList_load_row rfl 36 _ rfl _ rfl _ _ _ _ hm.out Try.underlying36 rfl i3Info ?_)
  replace hm := Lib.hid (hm.out.alloc (.cells #[.int .i64 0, .int .i64 0, .int .i64 0] 36))
  have hp := Lib.hid (Blk.new1 W1 36 #[.int .i64 0, .int .i64 0, .int .i64 0] (.cells #[.int .i64 m0, .int .i64 m1, .int .i64 m2] 36))
  replace hk := Lib.hid ((hk.out.alloc (.cells #[.int .i64 m0, .int .i64 m1, .int .i64 m2] 36)).alloc (.cells #[.int .i64 0, .int .i64 0, .int .i64 0] 36))
  replace hr := Lib.hid ((hr.out.alloc (.cells #[.int .i64 m0, .int .i64 m1, .int .i64 m2] 36)).alloc (.cells #[.int .i64 0, .int .i64 0, .int .i64 0] 36))
  replace hB := Lib.hid ((hB.out.alloc hB.out.size (.cells #[.int .i64 m0, .int .i64 m1, .int .i64 m2] 36)).alloc (by have := hB.out.size; simp; omega) (.cells #[.int .i64 0, .int .i64 0, .int .i64 0] 36))
  refine wp_loop_rounds 4 ?_
  rw [rounds_succ]
  obtain ⟨g, hgg⟩ : ∃ g, W1.heap.size = g := ⟨_, rfl⟩
  simp only [hgg] at hm hp hk hr hB hz ⊢
  generalize (W1.alloc (.cells #[.int .i64 m0, .int .i64 m1, .int .i64 m2] 36)).alloc (.cells #[.int .i64 0, .int .i64 0, .int .i64 0] 36) = X at *
  clear hgg
  go_wp2_with fail
  refine' wp_region_fresh 11 [] (by kernel_rfl) (by kernel_rfl) (by simp) (by simp) (by simp) (by simp) ?hz ?h1 ?hs ?h2
  case hz =>
    intro z hz
    cases hz
  case h1 =>
    intro u hu
    have hku := hk.out.below hu hk.out.lt
    have chk := hku.cell
    have lhk := hku.lt
    have hmu := hm.out.below hu hm.out.lt
    have chm := hmu.cell
    have lhm := hmu.lt
    have hpu := hp.out.below hu hp.out.lt
    have chp := hpu.cell
    have lhp := hpu.lt
    have ee := e0.out
    simp only [List.take_succ_cons, List.take_zero, List.filter, isMk, isAl, isSt, Bool.or_false, Bool.not_false]
    repeat (go_big_quiet_step (first | (go_at_call 32; exact ext_same (hC0.out _))))
    exact wpQuiet_nil rfl
  case hs =>
    intro z hz
    cases hz
  case h2 =>
  intro ℓ xw hlet
  obtain ⟨hbx, -, -⟩ := hlet
  dsimp only [List.drop, lay, List.foldl] at *
  replace hk := Lib.hid (hk.out.below hbx hk.out.lt)
  replace hm := Lib.hid (hm.out.below hbx hm.out.lt)
  replace hp := Lib.hid (hp.out.below hbx hp.out.lt)
  replace hr := Lib.hid (hr.out.below hbx hr.out.lt)
  replace hB := Lib.hid (below_on hB.out hbx)
  clear hbx
  have cp := hp.out.cell
  have fp := hp.out.frozen
  go_wp2_with fail
  clear cp fp
  replace hk := Lib.hid (hk.out.far (p := ⟨g + 1, 0, none⟩) (by simp <;> omega) (.int .i64 p0))
  replace hm := Lib.hid (hm.out.far (p := ⟨g + 1, 0, none⟩) (by simp <;> omega) (.int .i64 p0))
  replace hr := Lib.hid (hr.out.far (p := ⟨g + 1, 0, none⟩) (by simp <;> omega) (.int .i64 p0))
  replace hp : Hid (Blk _ (g + 1) 36 #[.int .i64 p0, .int .i64 0, .int .i64 0]) := Lib.hid (hp.out.set_ 0 (.int .i64 p0))
  replace hB := Lib.hid (hB.out.setCell (p := ⟨g + 1, 0, none⟩) (by simp <;> omega) (.int .i64 p0))
  generalize xw.setCell ⟨g + 1, 0, none⟩ (.int .i64 p0) = X0 at *
  rw [rounds_succ]
  go_wp2_with fail
  refine' wp_region_fresh 11 [] (by kernel_rfl) (by kernel_rfl) (by simp) (by simp) (by simp) (by simp) ?hz ?h1 ?hs ?h2
  case hz =>
    intro z hz
    cases hz
  case h1 =>
    intro u hu
    have hku := hk.out.below hu hk.out.lt
    have chk := hku.cell
    have lhk := hku.lt
    have hmu := hm.out.below hu hm.out.lt
    have chm := hmu.cell
    have lhm := hmu.lt
    have hpu := hp.out.below hu hp.out.lt
    have chp := hpu.cell
    have lhp := hpu.lt
    have ee := e1.out
    simp only [List.take_succ_cons, List.take_zero, List.filter, isMk, isAl, isSt, Bool.or_false, Bool.not_false]
    repeat (go_big_quiet_step (first | (go_at_call 32; exact ext_same (hC1.out _))))
    exact wpQuiet_nil rfl
  case hs =>
    intro z hz
    cases hz
  case h2 =>
  intro ℓ xw hlet
  obtain ⟨hbx, -, -⟩ := hlet
  dsimp only [List.drop, lay, List.foldl] at *
  replace hk := Lib.hid (hk.out.below hbx hk.out.lt)
  replace hm := Lib.hid (hm.out.below hbx hm.out.lt)
  replace hp := Lib.hid (hp.out.below hbx hp.out.lt)
  replace hr := Lib.hid (hr.out.below hbx hr.out.lt)
  replace hB := Lib.hid (below_on hB.out hbx)
  clear hbx
  have cp := hp.out.cell
  have fp := hp.out.frozen
  go_wp2_with fail
  clear cp fp
  replace hk := Lib.hid (hk.out.far (p := ⟨g + 1, 1, none⟩) (by simp <;> omega) (.int .i64 p1))
  replace hm := Lib.hid (hm.out.far (p := ⟨g + 1, 1, none⟩) (by simp <;> omega) (.int .i64 p1))
  replace hr := Lib.hid (hr.out.far (p := ⟨g + 1, 1, none⟩) (by simp <;> omega) (.int .i64 p1))
  replace hp : Hid (Blk _ (g + 1) 36 #[.int .i64 p0, .int .i64 p1, .int .i64 0]) := Lib.hid (hp.out.set_ 1 (.int .i64 p1))
  replace hB := Lib.hid (hB.out.setCell (p := ⟨g + 1, 1, none⟩) (by simp <;> omega) (.int .i64 p1))
  generalize xw.setCell ⟨g + 1, 1, none⟩ (.int .i64 p1) = X1 at *
  rw [rounds_succ]
  go_wp2_with fail
  refine' wp_region_fresh 11 [] (by kernel_rfl) (by kernel_rfl) (by simp) (by simp) (by simp) (by simp) ?hz ?h1 ?hs ?h2
  case hz =>
    intro z hz
    cases hz
  case h1 =>
    intro u hu
    have hku := hk.out.below hu hk.out.lt
    have chk := hku.cell
    have lhk := hku.lt
    have hmu := hm.out.below hu hm.out.lt
    have chm := hmu.cell
    have lhm := hmu.lt
    have hpu := hp.out.below hu hp.out.lt
    have chp := hpu.cell
    have lhp := hpu.lt
    have ee := e2.out
    simp only [List.take_succ_cons, List.take_zero, List.filter, isMk, isAl, isSt, Bool.or_false, Bool.not_false]
    repeat (go_big_quiet_step (first | (go_at_call 32; exact ext_same (hC2.out _))))
    exact wpQuiet_nil rfl
  case hs =>
    intro z hz
    cases hz
  case h2 =>
  intro ℓ xw hlet
  obtain ⟨hbx, -, -⟩ := hlet
  dsimp only [List.drop, lay, List.foldl] at *
  replace hk := Lib.hid (hk.out.below hbx hk.out.lt)
  replace hm := Lib.hid (hm.out.below hbx hm.out.lt)
  replace hp := Lib.hid (hp.out.below hbx hp.out.lt)
  replace hr := Lib.hid (hr.out.below hbx hr.out.lt)
  replace hB := Lib.hid (below_on hB.out hbx)
  clear hbx
  have cp := hp.out.cell
  have fp := hp.out.frozen
  go_wp2_with fail
  clear cp fp
  replace hk := Lib.hid (hk.out.far (p := ⟨g + 1, 2, none⟩) (by simp <;> omega) (.int .i64 p2))
  replace hm := Lib.hid (hm.out.far (p := ⟨g + 1, 2, none⟩) (by simp <;> omega) (.int .i64 p2))
  replace hr := Lib.hid (hr.out.far (p := ⟨g + 1, 2, none⟩) (by simp <;> omega) (.int .i64 p2))
  replace hp : Hid (Blk _ (g + 1) 36 #[.int .i64 p0, .int .i64 p1, .int .i64 p2]) := Lib.hid (hp.out.set_ 2 (.int .i64 p2))
  replace hB := Lib.hid (hB.out.setCell (p := ⟨g + 1, 2, none⟩) (by simp <;> omega) (.int .i64 p2))
  generalize xw.setCell ⟨g + 1, 2, none⟩ (.int .i64 p2) = X2 at *
  rw [rounds_succ]
  have cp := hp.out.cell
  have t0 := s0.out
  have t1 := s1.out
  have t2 := s2.out
  go_wp2_with (first | refine wpList_load_row rfl 36 _ rfl _ rfl _ _ _ _ hp.out Try.underlying36 rfl i3Info ?_ | refine wpList_load_row rfl 36 _ rfl _ rfl _ _ _ _ hm.out Try.underlying36 rfl i3Info ?_)
  refine (hR.out _).mono ?_
  rintro e W9 ⟨rfl, hb⟩
  replace hr := Lib.hid (hr.out.call hb)
  replace hB := Lib.hid (below_on hB.out hb)
  clear hb
  go_wp2_with (refine wpList_store_row rfl 28 _ _ rfl (w.heap.size + 1) #[.int .i64 r0, .int .i64 r1] rfl rfl 28 _ hr.out i2Info rfl (by kernel_rfl) ?_)
  refine bodyPost_ret (results_cell_row rfl _ _ (w.heap.size + 1) _ #[.int .i64 r0, .int .i64 r1] _ _ rfl (hr.out.setRow _) Try.underlying28 rfl i2Info) rfl ?_
  exact ⟨rfl, below_setRow hB.out (by omega) _⟩
set_option maxRecDepth 100000 in
set_option maxHeartbeats 8000000 in
theorem rPersp_no (x0 y0 z0 u0 x1 y1 z1 u1 x2 y2 z2 u2 : Int) (A0 A1 A2 : Option Addr) (n0 c0 n1 c1 n2 c2 : Nat) (pr : Int) (fr : Bool) (px py : Int) (w : World) (hv : validB x0 y0 x1 y1 x2 y2 = false) :
    Calls Try.prog 20 #[.agg #[.int .i64 x0, .int .i64 y0, .int .i64 z0, .int .i64 u0, .slice A0 n0 c0, .int .i64 x1, .int .i64 y1, .int .i64 z1, .int .i64 u1, .slice A1 n1 c1, .int .i64 x2, .int .i64 y2, .int .i64 z2, .int .i64 u2, .slice A2 n2 c2, .int .i64 pr, .bool fr], .int .i64 px, .int .i64 py] w fun e w' => e = .returned (.agg #[.int .i64 0, .int .i64 0]) ∧ Below w.heap.size w w' := by
  replace hv := Lib.hid (fun w => rValid_at x0 y0 z0 u0 x1 y1 z1 u1 x2 y2 z2 u2 A0 A1 A2 n0 c0 n1 c1 n2 c2 pr fr w false hv)
  have hk := Lib.hid ((Blk.new w 27 #[.int .i64 x0, .int .i64 y0, .int .i64 z0, .int .i64 u0, .slice A0 n0 c0, .int .i64 x1, .int .i64 y1, .int .i64 z1, .int .i64 u1, .slice A1 n1 c1, .int .i64 x2, .int .i64 y2, .int .i64 z2, .int .i64 u2, .slice A2 n2 c2, .int .i64 pr, .bool fr]).alloc (.cells #[.int .i64 0, .int .i64 0] 28))
  have hr := Lib.hid (Blk.new1 w 28 #[.int .i64 0, .int .i64 0] (.cells #[.int .i64 x0, .int .i64 y0, .int .i64 z0, .int .i64 u0, .slice A0 n0 c0, .int .i64 x1, .int .i64 y1, .int .i64 z1, .int .i64 u1, .slice A1 n1 c1, .int .i64 x2, .int .i64 y2, .int .i64 z2, .int .i64 u2, .slice A2 n2 c2, .int .i64 pr, .bool fr] 27))
  have hB : Hid (Below w.heap.size w ((w.alloc (.cells #[.int .i64 x0, .int .i64 y0, .int .i64 z0, .int .i64 u0, .slice A0 n0 c0, .int .i64 x1, .int .i64 y1, .int .i64 z1, .int .i64 u1, .slice A1 n1 c1, .int .i64 x2, .int .i64 y2, .int .i64 z2, .int .i64 u2, .slice A2 n2 c2, .int .i64 pr, .bool fr] 27)).alloc (.cells #[.int .i64 0, .int .i64 0] 28))) := Lib.hid (by go_grown)
  go_enter Try.func20, Try.ntmps20
  go_wp2_with (refine wpList_load_row rfl 27 _ rfl _ rfl _ _ _ _ hk.out Try.underlying27 rfl triInfo ?_)
  refine (hv.out _).mono ?_
  rintro e W ⟨rfl, hb⟩
  replace hr := Lib.hid (hr.out.call hb)
  replace hB := Lib.hid (below_on hB.out hb)
  clear hb hk
  go_wp2_with (refine wpList_store_row rfl 28 _ _ rfl (w.heap.size + 1) #[.int .i64 0, .int .i64 0] rfl rfl 28 _ hr.out i2Info rfl (by kernel_rfl) ?_)
  refine bodyPost_ret (results_cell_row rfl _ _ (w.heap.size + 1) _ #[.int .i64 0, .int .i64 0] _ _ rfl (hr.out.setRow _) Try.underlying28 rfl i2Info) rfl ?_
  exact ⟨rfl, below_setRow hB.out (by omega) _⟩
end Go.Proofs.Ythbagegkcpblgaa
