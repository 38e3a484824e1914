/- CoverageRotates returns true for every triangle, pixel and number of samples. -/
import Derived.Test.YtgalpmiojgjkhaaCEx
import Derived.Test.YtgalpmiojgjkhaaStSub
namespace Go.Proofs.Ytgalpmiojgjkhaa
open Go.RowKit
attribute [local go_sem] Ext.cell
theorem validB_rot (x0 y0 x1 y1 x2 y2 : Int) : validB x1 y1 x2 y2 x0 y0 = validB x0 y0 x1 y1 x2 y2 := by
  rw [Bool.eq_iff_iff, validB_iff, validB_iff]
  have := ef_rot x0 y0 x1 y1 x2 y2
  constructor
  · rintro ⟨⟨a, b, c⟩, h⟩; exact ⟨⟨c, a, b⟩, by omega⟩
  · rintro ⟨⟨a, b, c⟩, h⟩; exact ⟨⟨b, c, a⟩, by omega⟩
theorem covB_rot (x0 y0 x1 y1 x2 y2 px py : Int) : covB x1 y1 x2 y2 x0 y0 px py = covB x0 y0 x1 y1 x2 y2 px py := by
  rw [Bool.eq_iff_iff, covB_iff, covB_iff, validB_rot, cov_rot]
theorem maskI_rot (x0 y0 x1 y1 x2 y2 x y n : Int) : maskI x1 y1 x2 y2 x0 y0 x y n = maskI x0 y0 x1 y1 x2 y2 x y n := by
  unfold maskI
  rw [maskN_congr fun i _ => show smB x1 y1 x2 y2 x0 y0 x y n i = smB x0 y0 x1 y1 x2 y2 x y n i by unfold smB; rw [covB_rot]]
set_option maxRecDepth 100000 in
set_option maxHeartbeats 8000000 in
theorem law_coverageRotates (x0 y0 z0 u0 x1 y1 z1 u1 x2 y2 z2 u2 : Int) (A0 A1 A2 : Option Addr) (n0 c0 n1 c1 n2 c2 : Nat) (pr : Int) (fr : Bool) (x y n : Int) (w : World) :
    Calls Try.prog 5 #[.agg #[.int .i64 x0, .int .i64 y0, .int .i64 z0, .int .i64 u0, .slice A0 n0 c0, .int .i64 x1, .int .i64 y1, .int .i64 z1, .int .i64 u1, .slice A1 n1 c1, .int .i64 x2, .int .i64 y2, .int .i64 z2, .int .i64 u2, .slice A2 n2 c2, .int .i64 pr, .bool fr], .int .i64 x, .int .i64 y, .int .i64 n] w fun e w' => e = .returned (.bool true) ∧ Below w.heap.size w w' := by
  obtain ⟨m, hm⟩ : ∃ m, maskI x0 y0 x1 y1 x2 y2 x y n = m := ⟨_, rfl⟩
  have hu := (maskI_rot x0 y0 x1 y1 x2 y2 x y n).trans hm
  replace hm := Lib.hid hm
  replace hu := Lib.hid hu
  go_enter Try.func5, Try.ntmps5
  have kt := Lib.hid (Blk.new w 27 #[.int .i64 x0, .int .i64 y0, .int .i64 z0, .int .i64 u0, .slice A0 n0 c0, .int .i64 x1, .int .i64 y1, .int .i64 z1, .int .i64 u1, .slice A1 n1 c1, .int .i64 x2, .int .i64 y2, .int .i64 z2, .int .i64 u2, .slice A2 n2 c2, .int .i64 pr, .bool fr])
  have hB : Hid (Below w.heap.size w (w.alloc (.cells #[.int .i64 x0, .int .i64 y0, .int .i64 z0, .int .i64 u0, .slice A0 n0 c0, .int .i64 x1, .int .i64 y1, .int .i64 z1, .int .i64 u1, .slice A1 n1 c1, .int .i64 x2, .int .i64 y2, .int .i64 z2, .int .i64 u2, .slice A2 n2 c2, .int .i64 pr, .bool fr] 27))) := Lib.hid (by go_grown)
  have t32 : (Try.prog.info? 25).map (·.size) = some 15 := by kernel_rfl
  have t31 : (Try.prog.info? 24).map (·.size) = some 5 := by kernel_rfl
  go_upto_region 1 with fail
  refine wp_region_lit ?_
  refine wpList_load_row rfl 27 _ rfl _ rfl _ _ _ _ kt.out Try.underlying27 rfl triInfo ?_
  refine wpList_alloc rfl (.cells #[.int .i64 0, .int .i64 0, .int .i64 0, .int .i64 0, .slice none 0 0, .int .i64 0, .int .i64 0, .int .i64 0, .int .i64 0, .slice none 0 0, .int .i64 0, .int .i64 0, .int .i64 0, .int .i64 0, .slice none 0 0, .int .i64 0, .bool false] 27) (fun ev xw => by simp [go_sem, ptrTo]) (w.heap.size + 1) (by simp) ?_
  simp only [Act.put, List.setIfInBounds_toArray, List.set_cons_zero, List.set_cons_succ]
  refine wpList_store_row rfl 27 _ _ rfl (w.heap.size + 1) #[.int .i64 x0, .int .i64 y0, .int .i64 z0, .int .i64 u0, .slice A0 n0 c0, .int .i64 x1, .int .i64 y1, .int .i64 z1, .int .i64 u1, .slice A1 n1 c1, .int .i64 x2, .int .i64 y2, .int .i64 z2, .int .i64 u2, .slice A2 n2 c2, .int .i64 pr, .bool fr] rfl rfl 27 _ (Blk.new1 w _ _ _) triInfo rfl (by kernel_rfl) ?_
  have ku := Lib.hid (Blk.setRow (Blk.new1 w 27 #[.int .i64 0, .int .i64 0, .int .i64 0, .int .i64 0, .slice none 0 0, .int .i64 0, .int .i64 0, .int .i64 0, .int .i64 0, .slice none 0 0, .int .i64 0, .int .i64 0, .int .i64 0, .int .i64 0, .slice none 0 0, .int .i64 0, .bool false] (.cells #[.int .i64 x0, .int .i64 y0, .int .i64 z0, .int .i64 u0, .slice A0 n0 c0, .int .i64 x1, .int .i64 y1, .int .i64 z1, .int .i64 u1, .slice A1 n1 c1, .int .i64 x2, .int .i64 y2, .int .i64 z2, .int .i64 u2, .slice A2 n2 c2, .int .i64 pr, .bool fr] 27)) #[.int .i64 x0, .int .i64 y0, .int .i64 z0, .int .i64 u0, .slice A0 n0 c0, .int .i64 x1, .int .i64 y1, .int .i64 z1, .int .i64 u1, .slice A1 n1 c1, .int .i64 x2, .int .i64 y2, .int .i64 z2, .int .i64 u2, .slice A2 n2 c2, .int .i64 pr, .bool fr])
  replace kt := Lib.hid (Blk.farRow (kt.out.alloc (.cells #[.int .i64 0, .int .i64 0, .int .i64 0, .int .i64 0, .slice none 0 0, .int .i64 0, .int .i64 0, .int .i64 0, .int .i64 0, .slice none 0 0, .int .i64 0, .int .i64 0, .int .i64 0, .int .i64 0, .slice none 0 0, .int .i64 0, .bool false] 27)) (show w.heap.size ≠ (w.heap.size + 1) by omega) #[.int .i64 x0, .int .i64 y0, .int .i64 z0, .int .i64 u0, .slice A0 n0 c0, .int .i64 x1, .int .i64 y1, .int .i64 z1, .int .i64 u1, .slice A1 n1 c1, .int .i64 x2, .int .i64 y2, .int .i64 z2, .int .i64 u2, .slice A2 n2 c2, .int .i64 pr, .bool fr])
  replace hB := Lib.hid (below_setRow (hB.out.alloc hB.out.size (.cells #[.int .i64 0, .int .i64 0, .int .i64 0, .int .i64 0, .slice none 0 0, .int .i64 0, .int .i64 0, .int .i64 0, .int .i64 0, .slice none 0 0, .int .i64 0, .int .i64 0, .int .i64 0, .int .i64 0, .slice none 0 0, .int .i64 0, .bool false] 27)) (show w.heap.size ≤ (w.heap.size + 1) by omega) #[.int .i64 x0, .int .i64 y0, .int .i64 z0, .int .i64 u0, .slice A0 n0 c0, .int .i64 x1, .int .i64 y1, .int .i64 z1, .int .i64 u1, .slice A1 n1 c1, .int .i64 x2, .int .i64 y2, .int .i64 z2, .int .i64 u2, .slice A2 n2 c2, .int .i64 pr, .bool fr])
  generalize (((w.alloc (.cells #[.int .i64 x0, .int .i64 y0, .int .i64 z0, .int .i64 u0, .slice A0 n0 c0, .int .i64 x1, .int .i64 y1, .int .i64 z1, .int .i64 u1, .slice A1 n1 c1, .int .i64 x2, .int .i64 y2, .int .i64 z2, .int .i64 u2, .slice A2 n2 c2, .int .i64 pr, .bool fr] 27)).alloc (.cells #[.int .i64 0, .int .i64 0, .int .i64 0, .int .i64 0, .slice none 0 0, .int .i64 0, .int .i64 0, .int .i64 0, .int .i64 0, .slice none 0 0, .int .i64 0, .int .i64 0, .int .i64 0, .int .i64 0, .slice none 0 0, .int .i64 0, .bool false] 27)).setRow (w.heap.size + 1) #[.int .i64 x0, .int .i64 y0, .int .i64 z0, .int .i64 u0, .slice A0 n0 c0, .int .i64 x1, .int .i64 y1, .int .i64 z1, .int .i64 u1, .slice A1 n1 c1, .int .i64 x2, .int .i64 y2, .int .i64 z2, .int .i64 u2, .slice A2 n2 c2, .int .i64 pr, .bool fr]) = W1 at *
  refine wpList_nil ?_
  dsimp only [Act.put]
  go_wp2_with (first | (refine wpList_load_part rfl 24 _ rfl w.heap.size rfl 5 _ _ _ kt.out Try.underlying24 rfl t31 rfl ?_; simp only [List.drop_succ_cons, List.drop_zero, List.take_succ_cons, List.take_zero, Act.put, List.setIfInBounds_toArray, List.set_cons_zero, List.set_cons_succ]) | (refine wpList_buildTo rfl 25 _ rfl #[.int .i64 x1, .int .i64 y1, .int .i64 z1, .int .i64 u1, .slice A1 n1 c1, .int .i64 x2, .int .i64 y2, .int .i64 z2, .int .i64 u2, .slice A2 n2 c2, .int .i64 x0, .int .i64 y0, .int .i64 z0, .int .i64 u0, .slice A0 n0 c0] (by kernel_rfl) ?_; simp only [Act.put, List.setIfInBounds_toArray, List.set_cons_zero, List.set_cons_succ]) | (refine wpList_store_sub rfl 25 _ _ rfl (w.heap.size + 1) 0 #[.int .i64 x1, .int .i64 y1, .int .i64 z1, .int .i64 u1, .slice A1 n1 c1, .int .i64 x2, .int .i64 y2, .int .i64 z2, .int .i64 u2, .slice A2 n2 c2, .int .i64 x0, .int .i64 y0, .int .i64 z0, .int .i64 u0, .slice A0 n0 c0] rfl rfl 27 _ ku.out t32 (by simp) (by kernel_rfl) #[.int .i64 x1, .int .i64 y1, .int .i64 z1, .int .i64 u1, .slice A1 n1 c1, .int .i64 x2, .int .i64 y2, .int .i64 z2, .int .i64 u2, .slice A2 n2 c2, .int .i64 x0, .int .i64 y0, .int .i64 z0, .int .i64 u0, .slice A0 n0 c0, .int .i64 pr, .bool fr] (by kernel_rfl) ?_; replace ku := Lib.hid (Blk.setRow ku.out #[.int .i64 x1, .int .i64 y1, .int .i64 z1, .int .i64 u1, .slice A1 n1 c1, .int .i64 x2, .int .i64 y2, .int .i64 z2, .int .i64 u2, .slice A2 n2 c2, .int .i64 x0, .int .i64 y0, .int .i64 z0, .int .i64 u0, .slice A0 n0 c0, .int .i64 pr, .bool fr]); replace kt := Lib.hid (Blk.farRow kt.out (show w.heap.size ≠ (w.heap.size + 1) by omega) #[.int .i64 x1, .int .i64 y1, .int .i64 z1, .int .i64 u1, .slice A1 n1 c1, .int .i64 x2, .int .i64 y2, .int .i64 z2, .int .i64 u2, .slice A2 n2 c2, .int .i64 x0, .int .i64 y0, .int .i64 z0, .int .i64 u0, .slice A0 n0 c0, .int .i64 pr, .bool fr]); replace hB := Lib.hid (below_setRow hB.out (show w.heap.size ≤ (w.heap.size + 1) by omega) #[.int .i64 x1, .int .i64 y1, .int .i64 z1, .int .i64 u1, .slice A1 n1 c1, .int .i64 x2, .int .i64 y2, .int .i64 z2, .int .i64 u2, .slice A2 n2 c2, .int .i64 x0, .int .i64 y0, .int .i64 z0, .int .i64 u0, .slice A0 n0 c0, .int .i64 pr, .bool fr]); generalize (W1.setRow (w.heap.size + 1) #[.int .i64 x1, .int .i64 y1, .int .i64 z1, .int .i64 u1, .slice A1 n1 c1, .int .i64 x2, .int .i64 y2, .int .i64 z2, .int .i64 u2, .slice A2 n2 c2, .int .i64 x0, .int .i64 y0, .int .i64 z0, .int .i64 u0, .slice A0 n0 c0, .int .i64 pr, .bool fr]) = W2 at *))
  dsimp only [Act.put]
  have ckt := kt.out.cell
  have lkt := kt.out.lt
  have cku := ku.out.cell
  have lku := ku.out.lt
  refine wp_region_ext (W2.heap.size) (by kernel_rfl) (by kernel_rfl) ?_
  repeat (first | (go_big_quiet_want; refine quiet_load_row 27 _ rfl _ rfl _ _ _ kt.out (by assumption) Try.underlying27 rfl triInfo ?_; simp only [Act.put, List.setIfInBounds_toArray, List.set_cons_zero, List.set_cons_succ]; go_big_quiet_on) | (go_big_quiet_want; refine quiet_load_row 27 _ rfl _ rfl _ _ _ ku.out (by assumption) Try.underlying27 rfl triInfo ?_; simp only [Act.put, List.setIfInBounds_toArray, List.set_cons_zero, List.set_cons_succ]; go_big_quiet_on) | go_big_quiet_step (first | (go_at_call 9; exact ext_call (Nat.le_refl _) (mask_at _ _ _ _ _ _ _ _ _ _ _ _ _ _ _ _ _ _ _ _ _ _ _ _ _ _ _ _ hm.out)) | (go_at_call 9; exact ext_call (Nat.le_refl _) (mask_at _ _ _ _ _ _ _ _ _ _ _ _ _ _ _ _ _ _ _ _ _ _ _ _ _ _ _ _ hu.out)) | (go_at_call 11; exact ext_call (Nat.le_refl _) (example_true _))))
  refine wpQuiet_nil ?_
  intro W3 hwx
  obtain ⟨⟨W3, hb⟩, rfl⟩ := hwx
  clear ckt lkt cku lku
  replace kt := Lib.hid (kt.out.call hb)
  replace ku := Lib.hid (ku.out.call hb)
  replace hB := Lib.hid (below_on hB.out hb)
  clear hb
  have ckt := kt.out.cell
  have lkt := kt.out.lt
  have cku := ku.out.cell
  have lku := ku.out.lt
  go_wp2_with (first | refine wpList_load_row rfl 27 _ rfl _ rfl _ _ _ _ kt.out Try.underlying27 rfl triInfo ?_ | refine wpList_load_rowG rfl 27 _ rfl _ rfl _ _ _ _ kt.out Try.underlying27 rfl triInfo ?_ | refine wpList_load_row rfl 27 _ rfl _ rfl _ _ _ _ ku.out Try.underlying27 rfl triInfo ?_ | refine wpList_load_rowG rfl 27 _ rfl _ rfl _ _ _ _ ku.out Try.underlying27 rfl triInfo ?_)
  go_ret
  exact ⟨rfl, hB.out⟩
end Go.Proofs.Ytgalpmiojgjkhaa
