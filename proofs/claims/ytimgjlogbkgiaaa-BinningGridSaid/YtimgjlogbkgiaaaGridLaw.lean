/- The walk of the law BinningGrid: true for all sizes, tiles and pixels. -/
import Derived.Test.YtimgjlogbkgiaaaTiles
namespace Go.Proofs.Ytimgjlogbkgiaaa
open Go.RowKit
attribute [local go_sem] Ext.cell
set_option maxRecDepth 100000 in
set_option maxHeartbeats 4000000 in
theorem law_binningGrid (W H t x y : Int) (w : World) :
    Calls Try.prog 3 #[.agg #[.int .i64 W, .int .i64 H], .int .i64 t, .agg #[.int .i64 x, .int .i64 y]] w fun e w' => e = .returned (.bool true) ∧ Below w.heap.size w w' := by
  obtain ⟨rx, ry, rw_, rh, hR⟩ : ∃ rx ry rw_ rh, rectV W H t = .tuple #[.int .i64 rx, .int .i64 ry, .int .i64 rw_, .int .i64 rh] := ⟨_, _, _, _, rfl⟩
  have R := Lib.hid hR
  clear hR
  have hBw := Lib.hid (Below.refl w.heap.size w)
  go_enter Try.func3, Try.ntmps3
  go_wp2_with fail
  refine (grid_any _ _ _).mono ?_
  rintro e w1 ⟨rfl, rfl⟩
  go_wp2_with fail
  refine (rGrid_any _ _ _).mono ?_
  rintro e w1 ⟨rfl, rfl⟩
  go_wp2_with fail
  refine (tileRect_any _ _ _ _).mono ?_
  rintro e w1 ⟨rfl, hb⟩
  obtain ⟨hcw1, _⟩ := bcell hb
  have hzw1 : w.heap.size < w1.heap.size := by (have hq := hb.size; (try simp at hq); omega)
  have hzw1' : w.heap.size + 1 < w1.heap.size := by (have hq := hb.size; (try simp at hq); omega)
  have hBw1 : Hid (Below w.heap.size w w1) := by (refine Lib.hid (below_on ?_ hb); have hq := hBw.out; go_grown)
  clear hb
  rw [R.out]
  go_wp2_with fail
  refine (rTileRect_any _ _ _ _).mono ?_
  rintro e w2 ⟨rfl, hb⟩
  obtain ⟨hcw2, _⟩ := bcell hb
  have hzw2 : w.heap.size < w2.heap.size := by (have hq := hb.size; (try simp at hq); omega)
  have hzw2' : w.heap.size + 1 < w2.heap.size := by (have hq := hb.size; (try simp at hq); omega)
  have hBw2 : Hid (Below w.heap.size w w2) := by (refine Lib.hid (below_on ?_ hb); have hq := hBw1.out; go_grown)
  clear hb
  rw [R.out]
  go_wp2_with fail
  refine wp_region_ext (w.heap.size + 2) (by kernel_rfl) (by kernel_rfl) ?_
  repeat (go_big_quiet_step (first | (go_at_call 13; exact ext_same (tiles_any _ _ _)) | (go_at_call 14; exact ext_same (rTiles_any _ _ _)) | (go_at_call 15; exact ext_same (tileOf_any _ _ _ _ _)) | (go_at_call 16; exact ext_same (rTileOf_any _ _ _ _ _))))
  refine wpQuiet_nil ?_
  intro w3 hwx
  obtain ⟨⟨w3, hb⟩, rfl⟩ := hwx
  have hBw3 : Hid (Below w.heap.size w w3) := Lib.hid (hBw2.out.trans (hb.mono (by omega)))
  clear hb
  go_wp2_with fail
  refine (example_true _).mono ?_
  rintro e w4 ⟨rfl, hb⟩
  have hBw4 : Hid (Below w.heap.size w w4) := Lib.hid (below_on hBw3.out hb)
  clear hb
  go_wp2
  go_ret
  exact ⟨rfl, hBw4.out⟩
end Go.Proofs.Ytimgjlogbkgiaaa
