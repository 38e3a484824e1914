/- CoverageMasks returns true for every triangle, pixel and number of samples. -/
import Derived.Test.YtgalpmiojgjkhaaMaskR
import Derived.Test.YtgalpmiojgjkhaaCEx
namespace Go.Proofs.Ytgalpmiojgjkhaa
open Go.RowKit
attribute [local go_sem] Ext.cell
set_option maxHeartbeats 8000000 in
theorem law_coverageMasks (x0 y0 z0 u0 x1 y1 z1 u1 x2 y2 z2 u2 : Int) (A0 A1 A2 : Option Addr) (n0 c0 n1 c1 n2 c2 : Nat) (pr : Int) (fr : Bool) (x y n : Int) (w : World) :
    Calls Try.prog 3 #[.agg #[.int .i64 x0, .int .i64 y0, .int .i64 z0, .int .i64 u0, .slice A0 n0 c0, .int .i64 x1, .int .i64 y1, .int .i64 z1, .int .i64 u1, .slice A1 n1 c1, .int .i64 x2, .int .i64 y2, .int .i64 z2, .int .i64 u2, .slice A2 n2 c2, .int .i64 pr, .bool fr], .int .i64 x, .int .i64 y, .int .i64 n] w fun e w' => e = .returned (.bool true) ∧ Below w.heap.size w w' := by
  obtain ⟨m, hm⟩ : ∃ m, maskI x0 y0 x1 y1 x2 y2 x y n = m := ⟨_, rfl⟩
  replace hm := Lib.hid hm
  go_enter Try.func3, Try.ntmps3
  have kt := Lib.hid (Blk.new w 27 #[.int .i64 x0, .int .i64 y0, .int .i64 z0, .int .i64 u0, .slice A0 n0 c0, .int .i64 x1, .int .i64 y1, .int .i64 z1, .int .i64 u1, .slice A1 n1 c1, .int .i64 x2, .int .i64 y2, .int .i64 z2, .int .i64 u2, .slice A2 n2 c2, .int .i64 pr, .bool fr])
  have hB : Hid (Below w.heap.size w (w.alloc (.cells #[.int .i64 x0, .int .i64 y0, .int .i64 z0, .int .i64 u0, .slice A0 n0 c0, .int .i64 x1, .int .i64 y1, .int .i64 z1, .int .i64 u1, .slice A1 n1 c1, .int .i64 x2, .int .i64 y2, .int .i64 z2, .int .i64 u2, .slice A2 n2 c2, .int .i64 pr, .bool fr] 27))) := Lib.hid (by go_grown)
  go_wp2_with fail
  generalize (w.alloc (.cells #[.int .i64 x0, .int .i64 y0, .int .i64 z0, .int .i64 u0, .slice A0 n0 c0, .int .i64 x1, .int .i64 y1, .int .i64 z1, .int .i64 u1, .slice A1 n1 c1, .int .i64 x2, .int .i64 y2, .int .i64 z2, .int .i64 u2, .slice A2 n2 c2, .int .i64 pr, .bool fr] 27)) = W1 at *
  have ckt := kt.out.cell
  have lkt := kt.out.lt
  refine wp_region_ext (W1.heap.size) (by kernel_rfl) (by kernel_rfl) ?_
  repeat (first | (go_big_quiet_want; refine quiet_load_row 27 _ rfl _ rfl _ _ _ kt.out (by assumption) Try.underlying27 rfl triInfo ?_; simp only [Act.put, List.setIfInBounds_toArray, List.set_cons_zero, List.set_cons_succ]; go_big_quiet_on) | go_big_quiet_step (first | (go_at_call 9; exact ext_call (Nat.le_refl _) (mask_at _ _ _ _ _ _ _ _ _ _ _ _ _ _ _ _ _ _ _ _ _ _ _ _ _ _ _ _ hm.out)) | (go_at_call 10; exact ext_call (Nat.le_refl _) (rMask_at _ _ _ _ _ _ _ _ _ _ _ _ _ _ _ _ _ _ _ _ _ _ _ _ _ _ _ _ hm.out)) | (go_at_call 11; exact ext_call (Nat.le_refl _) (example_true _))))
  refine wpQuiet_nil ?_
  intro W2 hwx
  obtain ⟨⟨W2, hb⟩, rfl⟩ := hwx
  clear ckt lkt
  replace kt := Lib.hid (kt.out.call hb)
  replace hB := Lib.hid (below_on hB.out hb)
  clear hb
  have ckt := kt.out.cell
  have lkt := kt.out.lt
  go_wp2_with (first | refine wpList_load_row rfl 27 _ rfl _ rfl _ _ _ _ kt.out Try.underlying27 rfl triInfo ?_ | refine wpList_load_rowG rfl 27 _ rfl _ rfl _ _ _ _ kt.out Try.underlying27 rfl triInfo ?_)
  go_ret
  exact ⟨rfl, hB.out⟩
end Go.Proofs.Ytgalpmiojgjkhaa
