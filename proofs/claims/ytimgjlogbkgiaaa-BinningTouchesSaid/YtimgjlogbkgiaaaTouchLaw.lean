/- BinningTouches returns true for every triangle, size and tile. -/
import Derived.Test.YtimgjlogbkgiaaaTouch
import Derived.Test.YtimgjlogbkgiaaaTouchR
namespace Go.Proofs.Ytimgjlogbkgiaaa
open Go.RowKit
attribute [local go_sem] Ext.cell
set_option maxHeartbeats 4000000 in
theorem law_binningTouches (x0 y0 z0 u0 x1 y1 z1 u1 x2 y2 z2 u2 : Int) (A0 A1 A2 : Option Addr) (n0 c0 n1 c1 n2 c2 : Nat) (pr : Int) (fr : Bool) (W H t : Int) (w : World) :
    Calls Try.prog 5 #[.agg #[.int .i64 x0, .int .i64 y0, .int .i64 z0, .int .i64 u0, .slice A0 n0 c0, .int .i64 x1, .int .i64 y1, .int .i64 z1, .int .i64 u1, .slice A1 n1 c1, .int .i64 x2, .int .i64 y2, .int .i64 z2, .int .i64 u2, .slice A2 n2 c2, .int .i64 pr, .bool fr], .agg #[.int .i64 W, .int .i64 H], .int .i64 t] w fun e w' => e = .returned (.bool true) ∧ Below w.heap.size w w' := by
  obtain ⟨v, hv⟩ : ∃ v, tcB x0 y0 x1 y1 x2 y2 W H t = v := ⟨_, rfl⟩
  replace hv := Lib.hid hv
  go_enter Try.func5, Try.ntmps5
  have kt := Lib.hid ((Blk.new w 37 #[.int .i64 x0, .int .i64 y0, .int .i64 z0, .int .i64 u0, .slice A0 n0 c0, .int .i64 x1, .int .i64 y1, .int .i64 z1, .int .i64 u1, .slice A1 n1 c1, .int .i64 x2, .int .i64 y2, .int .i64 z2, .int .i64 u2, .slice A2 n2 c2, .int .i64 pr, .bool fr]).alloc (.cells #[.int .i64 W, .int .i64 H] 22))
  have kp := Lib.hid (Blk.new1 w 22 #[.int .i64 W, .int .i64 H] (.cells #[.int .i64 x0, .int .i64 y0, .int .i64 z0, .int .i64 u0, .slice A0 n0 c0, .int .i64 x1, .int .i64 y1, .int .i64 z1, .int .i64 u1, .slice A1 n1 c1, .int .i64 x2, .int .i64 y2, .int .i64 z2, .int .i64 u2, .slice A2 n2 c2, .int .i64 pr, .bool fr] 37))
  have hB : Hid (Below w.heap.size w ((w.alloc (.cells #[.int .i64 x0, .int .i64 y0, .int .i64 z0, .int .i64 u0, .slice A0 n0 c0, .int .i64 x1, .int .i64 y1, .int .i64 z1, .int .i64 u1, .slice A1 n1 c1, .int .i64 x2, .int .i64 y2, .int .i64 z2, .int .i64 u2, .slice A2 n2 c2, .int .i64 pr, .bool fr] 37)).alloc (.cells #[.int .i64 W, .int .i64 H] 22))) := Lib.hid (by go_grown)
  go_wp2_with fail
  generalize ((w.alloc (.cells #[.int .i64 x0, .int .i64 y0, .int .i64 z0, .int .i64 u0, .slice A0 n0 c0, .int .i64 x1, .int .i64 y1, .int .i64 z1, .int .i64 u1, .slice A1 n1 c1, .int .i64 x2, .int .i64 y2, .int .i64 z2, .int .i64 u2, .slice A2 n2 c2, .int .i64 pr, .bool fr] 37)).alloc (.cells #[.int .i64 W, .int .i64 H] 22)) = W1 at *
  have ckt := kt.out.cell
  have lkt := kt.out.lt
  have ckp := kp.out.cell
  have lkp := kp.out.lt
  refine wp_region_ext (W1.heap.size) (by kernel_rfl) (by kernel_rfl) ?_
  repeat (first | (go_big_quiet_want; refine quiet_load_row 37 _ rfl _ rfl _ _ _ kt.out (by assumption) Try.underlying37 rfl triInfo ?_; simp only [Act.put, List.setIfInBounds_toArray, List.set_cons_zero, List.set_cons_succ]; go_big_quiet_on) | go_big_quiet_step (first | (go_at_call 18; exact ext_call (Nat.le_refl _) (touches_at _ _ _ _ _ _ _ _ _ _ _ _ _ _ _ _ _ _ _ _ _ _ _ _ _ _ _ _ hv.out)) | (go_at_call 19; exact ext_call (Nat.le_refl _) (rTouches_at _ _ _ _ _ _ _ _ _ _ _ _ _ _ _ _ _ _ _ _ _ _ _ _ _ _ _ _ hv.out)) | (go_at_call 17; exact ext_call (Nat.le_refl _) (example_true _))))
  refine wpQuiet_nil ?_
  intro W2 hwx
  obtain ⟨⟨W2, hb⟩, rfl⟩ := hwx
  clear ckt lkt ckp lkp
  replace kt := Lib.hid (kt.out.call hb)
  replace kp := Lib.hid (kp.out.call hb)
  replace hB := Lib.hid (below_on hB.out hb)
  clear hb
  have ckt := kt.out.cell
  have lkt := kt.out.lt
  have ckp := kp.out.cell
  have lkp := kp.out.lt
  go_wp2_with (first | refine wpList_load_row rfl 37 _ rfl _ rfl _ _ _ _ kt.out Try.underlying37 rfl triInfo ?_ | refine wpList_load_rowG rfl 37 _ rfl _ rfl _ _ _ _ kt.out Try.underlying37 rfl triInfo ?_)
  go_ret
  exact ⟨rfl, hB.out⟩
end Go.Proofs.Ytimgjlogbkgiaaa
