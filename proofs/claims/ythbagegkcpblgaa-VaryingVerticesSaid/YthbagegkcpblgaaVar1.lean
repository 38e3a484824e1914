/- weights, ratios and Mix of package varying. -/
import Derived.Test.YthbagegkcpblgaaWeights
import Derived.Test.YthbagegkcpblgaaFix
import Derived.Test.YthbagegkcpblgaaChain
namespace Go.Proofs.Ythbagegkcpblgaa
open Go.RowKit
attribute [local go_sem] Ext.cell
theorem i2Info : (Try.prog.info? 28).map (·.size) = some 2 := by kernel_rfl
theorem weights_at (x0 y0 z0 u0 x1 y1 z1 u1 x2 y2 z2 u2 : Int) (A0 A1 A2 : Option Addr) (n0 c0 n1 c1 n2 c2 : Nat) (pr : Int) (fr : Bool) (px py : Int) (w : World) (e0 e1 e2 : Int) (h0 : wtI (validB x0 y0 x1 y1 x2 y2) x1 y1 x2 y2 px py = e0) (h1 : wtI (validB x0 y0 x1 y1 x2 y2) x2 y2 x0 y0 px py = e1) (h2 : wtI (validB x0 y0 x1 y1 x2 y2) x0 y0 x1 y1 px py = e2) :
    Calls Try.prog 54 #[.agg #[.int .i64 x0, .int .i64 y0, .int .i64 z0, .int .i64 u0, .slice A0 n0 c0, .int .i64 x1, .int .i64 y1, .int .i64 z1, .int .i64 u1, .slice A1 n1 c1, .int .i64 x2, .int .i64 y2, .int .i64 z2, .int .i64 u2, .slice A2 n2 c2, .int .i64 pr, .bool fr], .int .i64 px, .int .i64 py] w fun e w' => e = .returned (.tuple #[.agg #[.int .i64 e0, .int .i64 e1, .int .i64 e2], .int .i64 (e0 + e1 + e2)]) ∧ Below w.heap.size w w' := by
  subst h0 h1 h2
  exact weights_any x0 y0 z0 u0 x1 y1 z1 u1 x2 y2 z2 u2 A0 A1 A2 n0 c0 n1 c1 n2 c2 pr fr px py w
set_option maxRecDepth 100000 in
set_option maxHeartbeats 8000000 in
theorem vweights_at (x0 y0 z0 u0 x1 y1 z1 u1 x2 y2 z2 u2 : Int) (A0 A1 A2 : Option Addr) (n0 c0 n1 c1 n2 c2 : Nat) (pr : Int) (fr : Bool) (px py : Int) (w : World) (m0 m1 m2 : Int) (h0 : max 0 (wtI (validB x0 y0 x1 y1 x2 y2) x1 y1 x2 y2 px py) = m0) (h1 : max 0 (wtI (validB x0 y0 x1 y1 x2 y2) x2 y2 x0 y0 px py) = m1) (h2 : max 0 (wtI (validB x0 y0 x1 y1 x2 y2) x0 y0 x1 y1 px py) = m2) :
    Calls Try.prog 40 #[.agg #[.int .i64 x0, .int .i64 y0, .int .i64 z0, .int .i64 u0, .slice A0 n0 c0, .int .i64 x1, .int .i64 y1, .int .i64 z1, .int .i64 u1, .slice A1 n1 c1, .int .i64 x2, .int .i64 y2, .int .i64 z2, .int .i64 u2, .slice A2 n2 c2, .int .i64 pr, .bool fr], .int .i64 px, .int .i64 py] w fun e w' => e = .returned (.agg #[.int .i64 m0, .int .i64 m1, .int .i64 m2]) ∧ Below w.heap.size w w' := by
  obtain ⟨e0, g0⟩ : ∃ e, wtI (validB x0 y0 x1 y1 x2 y2) x1 y1 x2 y2 px py = e := ⟨_, rfl⟩
  obtain ⟨e1, g1⟩ : ∃ e, wtI (validB x0 y0 x1 y1 x2 y2) x2 y2 x0 y0 px py = e := ⟨_, rfl⟩
  obtain ⟨e2, g2⟩ : ∃ e, wtI (validB x0 y0 x1 y1 x2 y2) x0 y0 x1 y1 px py = e := ⟨_, rfl⟩
  rw [g0] at h0
  rw [g1] at h1
  rw [g2] at h2
  have hW := Lib.hid (fun w => weights_at x0 y0 z0 u0 x1 y1 z1 u1 x2 y2 z2 u2 A0 A1 A2 n0 c0 n1 c1 n2 c2 pr fr px py w e0 e1 e2 g0 g1 g2)
  clear g0 g1 g2
  have hk := Lib.hid ((Blk.new w 27 #[.int .i64 x0, .int .i64 y0, .int .i64 z0, .int .i64 u0, .slice A0 n0 c0, .int .i64 x1, .int .i64 y1, .int .i64 z1, .int .i64 u1, .slice A1 n1 c1, .int .i64 x2, .int .i64 y2, .int .i64 z2, .int .i64 u2, .slice A2 n2 c2, .int .i64 pr, .bool fr]).alloc (.cells #[.int .i64 0, .int .i64 0, .int .i64 0] 36))
  have hr := Lib.hid (Blk.new1 w 36 #[.int .i64 0, .int .i64 0, .int .i64 0] (.cells #[.int .i64 x0, .int .i64 y0, .int .i64 z0, .int .i64 u0, .slice A0 n0 c0, .int .i64 x1, .int .i64 y1, .int .i64 z1, .int .i64 u1, .slice A1 n1 c1, .int .i64 x2, .int .i64 y2, .int .i64 z2, .int .i64 u2, .slice A2 n2 c2, .int .i64 pr, .bool fr] 27))
  have hB : Hid (Below w.heap.size w ((w.alloc (.cells #[.int .i64 x0, .int .i64 y0, .int .i64 z0, .int .i64 u0, .slice A0 n0 c0, .int .i64 x1, .int .i64 y1, .int .i64 z1, .int .i64 u1, .slice A1 n1 c1, .int .i64 x2, .int .i64 y2, .int .i64 z2, .int .i64 u2, .slice A2 n2 c2, .int .i64 pr, .bool fr] 27)).alloc (.cells #[.int .i64 0, .int .i64 0, .int .i64 0] 36))) := Lib.hid (by go_grown)
  have k0 : (if 0 < e0 then e0 else 0) = m0 := by omega
  have k1 : (if 0 < e1 then e1 else 0) = m1 := by omega
  have k2 : (if 0 < e2 then e2 else 0) = m2 := by omega
  clear h0 h1 h2
  have K0 := Lib.hid k0
  have K1 := Lib.hid k1
  have K2 := Lib.hid k2
  clear k0 k1 k2
  go_enter Try.func40, Try.ntmps40
  go_wp2_with (refine wpList_load_row rfl 27 _ rfl _ rfl _ _ _ _ hk.out Try.underlying27 rfl triInfo ?_)
  refine (hW.out _).mono ?_
  rintro e W1 ⟨rfl, hb⟩
  replace hr := Lib.hid (hr.out.call hb)
  replace hB := Lib.hid (below_on hB.out hb)
  clear hb hk hW
  have hz := hr.out.lt
  obtain ⟨g, hgg⟩ : ∃ g, W1.heap.size = g := ⟨_, rfl⟩
  go_upto_region 2 with fail
  have hg := Lib.hid (Blk.new W1 36 #[.int .i64 e0, .int .i64 e1, .int .i64 e2])
  replace hr := Lib.hid (hr.out.alloc (.cells #[.int .i64 e0, .int .i64 e1, .int .i64 e2] 36))
  replace hB := Lib.hid (hB.out.alloc hB.out.size (.cells #[.int .i64 e0, .int .i64 e1, .int .i64 e2] 36))
  simp only [hgg] at hg hr hB hz ⊢
  generalize W1.alloc (.cells #[.int .i64 e0, .int .i64 e1, .int .i64 e2] 36) = X at *
  clear hgg
  go_wp2_with fail
  refine wp_loop_rounds 4 ?_
  rw [rounds_succ]
  have hc := hg.out.cell
  have hf := hg.out.frozen
  have k0 := K0.out
  go_wp2_with fail
  clear k0 hc hf
  replace hr := Lib.hid (hr.out.far (p := ⟨g, 0, none⟩) (by simp; omega) (.int .i64 m0))
  replace hg : Hid (Blk _ g 36 #[.int .i64 m0, .int .i64 e1, .int .i64 e2]) := Lib.hid (hg.out.set_ 0 (.int .i64 m0))
  replace hB := Lib.hid (hB.out.setCell (p := ⟨g, 0, none⟩) (by simp; omega) (.int .i64 m0))
  generalize X.setCell ⟨g, 0, none⟩ (.int .i64 m0) = X0 at *
  rw [rounds_succ]
  have hc := hg.out.cell
  have hf := hg.out.frozen
  have k1 := K1.out
  go_wp2_with fail
  clear k1 hc hf
  replace hr := Lib.hid (hr.out.far (p := ⟨g, 1, none⟩) (by simp; omega) (.int .i64 m1))
  replace hg : Hid (Blk _ g 36 #[.int .i64 m0, .int .i64 m1, .int .i64 e2]) := Lib.hid (hg.out.set_ 1 (.int .i64 m1))
  replace hB := Lib.hid (hB.out.setCell (p := ⟨g, 1, none⟩) (by simp; omega) (.int .i64 m1))
  generalize X0.setCell ⟨g, 1, none⟩ (.int .i64 m1) = X1 at *
  rw [rounds_succ]
  have hc := hg.out.cell
  have hf := hg.out.frozen
  have k2 := K2.out
  go_wp2_with fail
  clear k2 hc hf
  replace hr := Lib.hid (hr.out.far (p := ⟨g, 2, none⟩) (by simp; omega) (.int .i64 m2))
  replace hg : Hid (Blk _ g 36 #[.int .i64 m0, .int .i64 m1, .int .i64 m2]) := Lib.hid (hg.out.set_ 2 (.int .i64 m2))
  replace hB := Lib.hid (hB.out.setCell (p := ⟨g, 2, none⟩) (by simp; omega) (.int .i64 m2))
  generalize X1.setCell ⟨g, 2, none⟩ (.int .i64 m2) = X2 at *
  rw [rounds_succ]
  go_wp2_with (first | (refine wpList_load_row rfl 36 _ rfl _ rfl _ _ _ _ hg.out Try.underlying36 rfl i3Info ?_) | (refine wpList_store_row rfl 36 _ _ rfl (w.heap.size + 1) #[.int .i64 m0, .int .i64 m1, .int .i64 m2] rfl rfl 36 _ hr.out i3Info rfl (by kernel_rfl) ?_))
  refine bodyPost_ret (results_cell_row rfl _ _ (w.heap.size + 1) _ #[.int .i64 m0, .int .i64 m1, .int .i64 m2] _ _ rfl (hr.out.setRow _) Try.underlying36 rfl i3Info) rfl ?_
  exact ⟨rfl, below_setRow hB.out (by omega) _⟩
end Go.Proofs.Ythbagegkcpblgaa
