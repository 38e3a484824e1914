/- The walk of EdgeRotation. -/
import Derived.Test.YtmcemnhhmlnfcaaLWSum
import Derived.Test.YtmcemnhhmlnfcaaBounds
import Derived.Test.YtmcemnhhmlnfcaaStSub
namespace Go.Proofs.Ytmcemnhhmlnfcaa
open Go.RowKit
attribute [local go_sem] Ext.cell
/-- The four bounds, as one value. -/
def bdV (x0 y0 x1 y1 x2 y2 : Int) : Value := if validB x0 y0 x1 y1 x2 y2 = true then .tuple #[.int .i64 (min (min x0 x1) x2), .int .i64 (min (min y0 y1) y2), .int .i64 (max (max x0 x1) x2), .int .i64 (max (max y0 y1) y2)] else .tuple #[.int .i64 0, .int .i64 0, .int .i64 0, .int .i64 0]
theorem bounds_tup (x0 y0 z0 u0 x1 y1 z1 u1 x2 y2 z2 u2 : Int) (A0 A1 A2 : Option Addr) (n0 c0 n1 c1 n2 c2 : Nat) (pr : Int) (fr : Bool) (w : World) (a b c d : Int) (h : bdV x0 y0 x1 y1 x2 y2 = .tuple #[.int .i64 a, .int .i64 b, .int .i64 c, .int .i64 d]) :
    Calls Try.prog 23 #[.agg #[.int .i64 x0, .int .i64 y0, .int .i64 z0, .int .i64 u0, .slice A0 n0 c0, .int .i64 x1, .int .i64 y1, .int .i64 z1, .int .i64 u1, .slice A1 n1 c1, .int .i64 x2, .int .i64 y2, .int .i64 z2, .int .i64 u2, .slice A2 n2 c2, .int .i64 pr, .bool fr]] w fun e w' => e = .returned (.tuple #[.int .i64 a, .int .i64 b, .int .i64 c, .int .i64 d]) ∧ Below w.heap.size w w' := by
  rw [← h]
  unfold bdV
  split
  · rename_i hv; exact bounds_yes _ _ _ _ _ _ _ _ _ _ _ _ _ _ _ _ _ _ _ _ _ _ _ _ hv
  · rename_i hv; exact bounds_no _ _ _ _ _ _ _ _ _ _ _ _ _ _ _ _ _ _ _ _ _ _ _ _ (by simpa using hv)
theorem limited_at (x : Int) (w : World) (v : Int) (h : lim x = v) :
    Calls Try.prog 12 #[.int .i64 x] w fun e w' => e = .returned (.int .i64 v) ∧ w = w' := h ▸ limited_any _ _
set_option maxRecDepth 100000 in
set_option maxHeartbeats 8000000 in
theorem rot_walk (x0 y0 z0 u0 x1 y1 z1 u1 x2 y2 z2 u2 : Int) (A0 A1 A2 : Option Addr) (n0 c0 n1 c1 n2 c2 : Nat) (pr : Int) (fr : Bool) (p0 p1 : Int) (w : World) (v0 v1 v2 s a b c d l0 l1 : Int) (v cv : Bool) (hp : wtV x0 y0 x1 y1 x2 y2 p0 p1 = .tuple #[.agg #[.int .i64 v0, .int .i64 v1, .int .i64 v2], .int .i64 s]) (hu : wtV x1 y1 x2 y2 x0 y0 p0 p1 = .tuple #[.agg #[.int .i64 v1, .int .i64 v2, .int .i64 v0], .int .i64 s])
    (hb1 : bdV x0 y0 x1 y1 x2 y2 = .tuple #[.int .i64 a, .int .i64 b, .int .i64 c, .int .i64 d]) (hb2 : bdV x1 y1 x2 y2 x0 y0 = .tuple #[.int .i64 a, .int .i64 b, .int .i64 c, .int .i64 d]) (hv1 : validB x0 y0 x1 y1 x2 y2 = v) (hv2 : validB x1 y1 x2 y2 x0 y0 = v) (hc1 : covB x0 y0 x1 y1 x2 y2 p0 p1 = cv) (hc2 : covB x1 y1 x2 y2 x0 y0 p0 p1 = cv)
    (hl0 : lim p0 = l0) (hl1 : lim p1 = l1) (hgood : cv = false ∨ (cv = true ∧ decide (a ≤ l0) = true ∧ decide (l0 ≤ c) = true ∧ decide (b ≤ l1) = true ∧ decide (l1 ≤ d) = true)) :
    Calls Try.prog 9 #[.agg #[.int .i64 x0, .int .i64 y0, .int .i64 z0, .int .i64 u0, .slice A0 n0 c0, .int .i64 x1, .int .i64 y1, .int .i64 z1, .int .i64 u1, .slice A1 n1 c1, .int .i64 x2, .int .i64 y2, .int .i64 z2, .int .i64 u2, .slice A2 n2 c2, .int .i64 pr, .bool fr], .agg #[.int .i64 p0, .int .i64 p1]] w fun e w' => e = .returned (.bool true) ∧ Below w.heap.size w w' := by
  replace hp := Lib.hid hp
  replace hu := Lib.hid hu
  replace hb1 := Lib.hid hb1
  replace hb2 := Lib.hid hb2
  replace hv1 := Lib.hid hv1
  replace hv2 := Lib.hid hv2
  replace hc1 := Lib.hid hc1
  replace hc2 := Lib.hid hc2
  replace hl0 := Lib.hid hl0
  replace hl1 := Lib.hid hl1
  replace hgood := Lib.hid hgood
  go_enter Try.func9, Try.ntmps9
  have kt := Lib.hid ((Blk.new w 34 #[.int .i64 x0, .int .i64 y0, .int .i64 z0, .int .i64 u0, .slice A0 n0 c0, .int .i64 x1, .int .i64 y1, .int .i64 z1, .int .i64 u1, .slice A1 n1 c1, .int .i64 x2, .int .i64 y2, .int .i64 z2, .int .i64 u2, .slice A2 n2 c2, .int .i64 pr, .bool fr]).alloc (.cells #[.int .i64 p0, .int .i64 p1] 22))
  have kp := Lib.hid (Blk.new1 w 22 #[.int .i64 p0, .int .i64 p1] (.cells #[.int .i64 x0, .int .i64 y0, .int .i64 z0, .int .i64 u0, .slice A0 n0 c0, .int .i64 x1, .int .i64 y1, .int .i64 z1, .int .i64 u1, .slice A1 n1 c1, .int .i64 x2, .int .i64 y2, .int .i64 z2, .int .i64 u2, .slice A2 n2 c2, .int .i64 pr, .bool fr] 34))
  have hB : Hid (Below w.heap.size w ((w.alloc (.cells #[.int .i64 x0, .int .i64 y0, .int .i64 z0, .int .i64 u0, .slice A0 n0 c0, .int .i64 x1, .int .i64 y1, .int .i64 z1, .int .i64 u1, .slice A1 n1 c1, .int .i64 x2, .int .i64 y2, .int .i64 z2, .int .i64 u2, .slice A2 n2 c2, .int .i64 pr, .bool fr] 34)).alloc (.cells #[.int .i64 p0, .int .i64 p1] 22))) := Lib.hid (by go_grown)
  have t32 : (Try.prog.info? 32).map (·.size) = some 15 := by kernel_rfl
  have t31 : (Try.prog.info? 31).map (·.size) = some 5 := by kernel_rfl
  go_upto_region 1 with fail
  refine wp_region_lit ?_
  refine wpList_load_row rfl 34 _ rfl _ rfl _ _ _ _ kt.out Try.underlying34 rfl triInfo ?_
  refine wpList_alloc rfl (.cells #[.int .i64 0, .int .i64 0, .int .i64 0, .int .i64 0, .slice none 0 0, .int .i64 0, .int .i64 0, .int .i64 0, .int .i64 0, .slice none 0 0, .int .i64 0, .int .i64 0, .int .i64 0, .int .i64 0, .slice none 0 0, .int .i64 0, .bool false] 34) (fun ev xw => by simp [go_sem, ptrTo]) (w.heap.size + 1 + 1) (by simp) ?_
  simp only [Act.put, List.setIfInBounds_toArray, List.set_cons_zero, List.set_cons_succ]
  refine wpList_store_row rfl 34 _ _ rfl (w.heap.size + 1 + 1) #[.int .i64 x0, .int .i64 y0, .int .i64 z0, .int .i64 u0, .slice A0 n0 c0, .int .i64 x1, .int .i64 y1, .int .i64 z1, .int .i64 u1, .slice A1 n1 c1, .int .i64 x2, .int .i64 y2, .int .i64 z2, .int .i64 u2, .slice A2 n2 c2, .int .i64 pr, .bool fr] rfl rfl 34 _ (Blk.new2 w _ _ _ _) triInfo rfl (by kernel_rfl) ?_
  have ku := Lib.hid (Blk.setRow (Blk.new2 w 34 #[.int .i64 0, .int .i64 0, .int .i64 0, .int .i64 0, .slice none 0 0, .int .i64 0, .int .i64 0, .int .i64 0, .int .i64 0, .slice none 0 0, .int .i64 0, .int .i64 0, .int .i64 0, .int .i64 0, .slice none 0 0, .int .i64 0, .bool false] (.cells #[.int .i64 x0, .int .i64 y0, .int .i64 z0, .int .i64 u0, .slice A0 n0 c0, .int .i64 x1, .int .i64 y1, .int .i64 z1, .int .i64 u1, .slice A1 n1 c1, .int .i64 x2, .int .i64 y2, .int .i64 z2, .int .i64 u2, .slice A2 n2 c2, .int .i64 pr, .bool fr] 34) (.cells #[.int .i64 p0, .int .i64 p1] 22)) #[.int .i64 x0, .int .i64 y0, .int .i64 z0, .int .i64 u0, .slice A0 n0 c0, .int .i64 x1, .int .i64 y1, .int .i64 z1, .int .i64 u1, .slice A1 n1 c1, .int .i64 x2, .int .i64 y2, .int .i64 z2, .int .i64 u2, .slice A2 n2 c2, .int .i64 pr, .bool fr])
  replace kt := Lib.hid (Blk.farRow (kt.out.alloc (.cells #[.int .i64 0, .int .i64 0, .int .i64 0, .int .i64 0, .slice none 0 0, .int .i64 0, .int .i64 0, .int .i64 0, .int .i64 0, .slice none 0 0, .int .i64 0, .int .i64 0, .int .i64 0, .int .i64 0, .slice none 0 0, .int .i64 0, .bool false] 34)) (show w.heap.size ≠ w.heap.size + 1 + 1 by omega) #[.int .i64 x0, .int .i64 y0, .int .i64 z0, .int .i64 u0, .slice A0 n0 c0, .int .i64 x1, .int .i64 y1, .int .i64 z1, .int .i64 u1, .slice A1 n1 c1, .int .i64 x2, .int .i64 y2, .int .i64 z2, .int .i64 u2, .slice A2 n2 c2, .int .i64 pr, .bool fr])
  replace kp := Lib.hid (Blk.farRow (kp.out.alloc (.cells #[.int .i64 0, .int .i64 0, .int .i64 0, .int .i64 0, .slice none 0 0, .int .i64 0, .int .i64 0, .int .i64 0, .int .i64 0, .slice none 0 0, .int .i64 0, .int .i64 0, .int .i64 0, .int .i64 0, .slice none 0 0, .int .i64 0, .bool false] 34)) (show w.heap.size + 1 ≠ w.heap.size + 1 + 1 by omega) #[.int .i64 x0, .int .i64 y0, .int .i64 z0, .int .i64 u0, .slice A0 n0 c0, .int .i64 x1, .int .i64 y1, .int .i64 z1, .int .i64 u1, .slice A1 n1 c1, .int .i64 x2, .int .i64 y2, .int .i64 z2, .int .i64 u2, .slice A2 n2 c2, .int .i64 pr, .bool fr])
  replace hB := Lib.hid (below_setRow (hB.out.alloc hB.out.size (.cells #[.int .i64 0, .int .i64 0, .int .i64 0, .int .i64 0, .slice none 0 0, .int .i64 0, .int .i64 0, .int .i64 0, .int .i64 0, .slice none 0 0, .int .i64 0, .int .i64 0, .int .i64 0, .int .i64 0, .slice none 0 0, .int .i64 0, .bool false] 34)) (show w.heap.size ≤ w.heap.size + 1 + 1 by omega) #[.int .i64 x0, .int .i64 y0, .int .i64 z0, .int .i64 u0, .slice A0 n0 c0, .int .i64 x1, .int .i64 y1, .int .i64 z1, .int .i64 u1, .slice A1 n1 c1, .int .i64 x2, .int .i64 y2, .int .i64 z2, .int .i64 u2, .slice A2 n2 c2, .int .i64 pr, .bool fr])
  generalize ((((w.alloc (.cells #[.int .i64 x0, .int .i64 y0, .int .i64 z0, .int .i64 u0, .slice A0 n0 c0, .int .i64 x1, .int .i64 y1, .int .i64 z1, .int .i64 u1, .slice A1 n1 c1, .int .i64 x2, .int .i64 y2, .int .i64 z2, .int .i64 u2, .slice A2 n2 c2, .int .i64 pr, .bool fr] 34)).alloc (.cells #[.int .i64 p0, .int .i64 p1] 22)).alloc (.cells #[.int .i64 0, .int .i64 0, .int .i64 0, .int .i64 0, .slice none 0 0, .int .i64 0, .int .i64 0, .int .i64 0, .int .i64 0, .slice none 0 0, .int .i64 0, .int .i64 0, .int .i64 0, .int .i64 0, .slice none 0 0, .int .i64 0, .bool false] 34)).setRow (w.heap.size + 1 + 1) #[.int .i64 x0, .int .i64 y0, .int .i64 z0, .int .i64 u0, .slice A0 n0 c0, .int .i64 x1, .int .i64 y1, .int .i64 z1, .int .i64 u1, .slice A1 n1 c1, .int .i64 x2, .int .i64 y2, .int .i64 z2, .int .i64 u2, .slice A2 n2 c2, .int .i64 pr, .bool fr]) = W1 at *
  refine wpList_nil ?_
  dsimp only [Act.put]
  go_wp2_with (first | (refine wpList_load_part rfl 31 _ rfl w.heap.size rfl 5 _ _ _ kt.out Try.underlying31 rfl t31 rfl ?_; simp only [List.drop_succ_cons, List.drop_zero, List.take_succ_cons, List.take_zero, Act.put, List.setIfInBounds_toArray, List.set_cons_zero, List.set_cons_succ]) | (refine wpList_buildTo rfl 32 _ rfl #[.int .i64 x1, .int .i64 y1, .int .i64 z1, .int .i64 u1, .slice A1 n1 c1, .int .i64 x2, .int .i64 y2, .int .i64 z2, .int .i64 u2, .slice A2 n2 c2, .int .i64 x0, .int .i64 y0, .int .i64 z0, .int .i64 u0, .slice A0 n0 c0] (by kernel_rfl) ?_; simp only [Act.put, List.setIfInBounds_toArray, List.set_cons_zero, List.set_cons_succ]) | (refine wpList_store_sub rfl 32 _ _ rfl (w.heap.size + 1 + 1) 0 #[.int .i64 x1, .int .i64 y1, .int .i64 z1, .int .i64 u1, .slice A1 n1 c1, .int .i64 x2, .int .i64 y2, .int .i64 z2, .int .i64 u2, .slice A2 n2 c2, .int .i64 x0, .int .i64 y0, .int .i64 z0, .int .i64 u0, .slice A0 n0 c0] rfl rfl 34 _ ku.out t32 (by simp) (by kernel_rfl) #[.int .i64 x1, .int .i64 y1, .int .i64 z1, .int .i64 u1, .slice A1 n1 c1, .int .i64 x2, .int .i64 y2, .int .i64 z2, .int .i64 u2, .slice A2 n2 c2, .int .i64 x0, .int .i64 y0, .int .i64 z0, .int .i64 u0, .slice A0 n0 c0, .int .i64 pr, .bool fr] (by kernel_rfl) ?_; replace ku := Lib.hid (Blk.setRow ku.out #[.int .i64 x1, .int .i64 y1, .int .i64 z1, .int .i64 u1, .slice A1 n1 c1, .int .i64 x2, .int .i64 y2, .int .i64 z2, .int .i64 u2, .slice A2 n2 c2, .int .i64 x0, .int .i64 y0, .int .i64 z0, .int .i64 u0, .slice A0 n0 c0, .int .i64 pr, .bool fr]); replace kt := Lib.hid (Blk.farRow kt.out (show w.heap.size ≠ w.heap.size + 1 + 1 by omega) #[.int .i64 x1, .int .i64 y1, .int .i64 z1, .int .i64 u1, .slice A1 n1 c1, .int .i64 x2, .int .i64 y2, .int .i64 z2, .int .i64 u2, .slice A2 n2 c2, .int .i64 x0, .int .i64 y0, .int .i64 z0, .int .i64 u0, .slice A0 n0 c0, .int .i64 pr, .bool fr]); replace kp := Lib.hid (Blk.farRow kp.out (show w.heap.size + 1 ≠ w.heap.size + 1 + 1 by omega) #[.int .i64 x1, .int .i64 y1, .int .i64 z1, .int .i64 u1, .slice A1 n1 c1, .int .i64 x2, .int .i64 y2, .int .i64 z2, .int .i64 u2, .slice A2 n2 c2, .int .i64 x0, .int .i64 y0, .int .i64 z0, .int .i64 u0, .slice A0 n0 c0, .int .i64 pr, .bool fr]); replace hB := Lib.hid (below_setRow hB.out (show w.heap.size ≤ w.heap.size + 1 + 1 by omega) #[.int .i64 x1, .int .i64 y1, .int .i64 z1, .int .i64 u1, .slice A1 n1 c1, .int .i64 x2, .int .i64 y2, .int .i64 z2, .int .i64 u2, .slice A2 n2 c2, .int .i64 x0, .int .i64 y0, .int .i64 z0, .int .i64 u0, .slice A0 n0 c0, .int .i64 pr, .bool fr]); generalize (W1.setRow (w.heap.size + 1 + 1) #[.int .i64 x1, .int .i64 y1, .int .i64 z1, .int .i64 u1, .slice A1 n1 c1, .int .i64 x2, .int .i64 y2, .int .i64 z2, .int .i64 u2, .slice A2 n2 c2, .int .i64 x0, .int .i64 y0, .int .i64 z0, .int .i64 u0, .slice A0 n0 c0, .int .i64 pr, .bool fr]) = W2 at *; have ckp := kp.out.cell; have lkp := kp.out.lt) | refine wpList_load_row rfl 34 _ rfl _ rfl _ _ _ _ kt.out Try.underlying34 rfl triInfo ?_)
  clear ckp lkp
  refine (weights_tup _ _ _ _ _ _ _ _ _ _ _ _ _ _ _ _ _ _ _ _ _ _ _ _ _ _ _ _ _ _ hp.out).mono ?_
  rintro e W3 ⟨rfl, hb⟩
  replace kt := Lib.hid (kt.out.call hb)
  replace kp := Lib.hid (kp.out.call hb)
  replace ku := Lib.hid (ku.out.call hb)
  replace hB := Lib.hid (below_on hB.out hb)
  clear hb
  replace kt := Lib.hid (kt.out.alloc (.cells #[.int .i64 v0, .int .i64 v1, .int .i64 v2] 35))
  replace kp := Lib.hid (kp.out.alloc (.cells #[.int .i64 v0, .int .i64 v1, .int .i64 v2] 35))
  replace ku := Lib.hid (ku.out.alloc (.cells #[.int .i64 v0, .int .i64 v1, .int .i64 v2] 35))
  have kv := Lib.hid (Blk.new W3 35 #[.int .i64 v0, .int .i64 v1, .int .i64 v2])
  replace hB : Hid (Below w.heap.size w (W3.alloc (.cells #[.int .i64 v0, .int .i64 v1, .int .i64 v2] 35))) := Lib.hid (hB.out.alloc hB.out.size (.cells #[.int .i64 v0, .int .i64 v1, .int .i64 v2] 35))
  have ckt := kt.out.cell
  have lkt := kt.out.lt
  have ckp := kp.out.cell
  have lkp := kp.out.lt
  have cku := ku.out.cell
  have lku := ku.out.lt
  have ckv := kv.out.cell
  have lkv := kv.out.lt
  go_wp2_with (first | refine wpList_load_row rfl 34 _ rfl _ rfl _ _ _ _ kt.out Try.underlying34 rfl triInfo ?_ | refine wpList_load_rowG rfl 34 _ rfl _ rfl _ _ _ _ kt.out Try.underlying34 rfl triInfo ?_ | refine wpList_load_row rfl 34 _ rfl _ rfl _ _ _ _ ku.out Try.underlying34 rfl triInfo ?_ | refine wpList_load_rowG rfl 34 _ rfl _ rfl _ _ _ _ ku.out Try.underlying34 rfl triInfo ?_ | refine wpList_load_row rfl 35 _ rfl _ rfl _ _ _ _ kv.out Try.underlying35 rfl i3Info ?_ | refine wpList_load_rowG rfl 35 _ rfl _ rfl _ _ _ _ kv.out Try.underlying35 rfl i3Info ?_)
  clear ckt lkt ckp lkp cku lku ckv lkv
  refine (weights_tup _ _ _ _ _ _ _ _ _ _ _ _ _ _ _ _ _ _ _ _ _ _ _ _ _ _ _ _ _ _ hu.out).mono ?_
  rintro e W4 ⟨rfl, hb⟩
  replace kt := Lib.hid (kt.out.call hb)
  replace kp := Lib.hid (kp.out.call hb)
  replace ku := Lib.hid (ku.out.call hb)
  replace kv := Lib.hid (kv.out.call hb)
  replace hB := Lib.hid (below_on hB.out hb)
  clear hb
  replace kt := Lib.hid (kt.out.alloc (.cells #[.int .i64 v1, .int .i64 v2, .int .i64 v0] 35))
  replace kp := Lib.hid (kp.out.alloc (.cells #[.int .i64 v1, .int .i64 v2, .int .i64 v0] 35))
  replace ku := Lib.hid (ku.out.alloc (.cells #[.int .i64 v1, .int .i64 v2, .int .i64 v0] 35))
  replace kv := Lib.hid (kv.out.alloc (.cells #[.int .i64 v1, .int .i64 v2, .int .i64 v0] 35))
  have kw := Lib.hid (Blk.new W4 35 #[.int .i64 v1, .int .i64 v2, .int .i64 v0])
  replace hB : Hid (Below w.heap.size w (W4.alloc (.cells #[.int .i64 v1, .int .i64 v2, .int .i64 v0] 35))) := Lib.hid (hB.out.alloc hB.out.size (.cells #[.int .i64 v1, .int .i64 v2, .int .i64 v0] 35))
  have ckt := kt.out.cell
  have lkt := kt.out.lt
  have ckp := kp.out.cell
  have lkp := kp.out.lt
  have cku := ku.out.cell
  have lku := ku.out.lt
  have ckv := kv.out.cell
  have lkv := kv.out.lt
  have ckw := kw.out.cell
  have lkw := kw.out.lt
  go_wp2_with (first | refine wpList_load_row rfl 34 _ rfl _ rfl _ _ _ _ kt.out Try.underlying34 rfl triInfo ?_ | refine wpList_load_rowG rfl 34 _ rfl _ rfl _ _ _ _ kt.out Try.underlying34 rfl triInfo ?_ | refine wpList_load_row rfl 34 _ rfl _ rfl _ _ _ _ ku.out Try.underlying34 rfl triInfo ?_ | refine wpList_load_rowG rfl 34 _ rfl _ rfl _ _ _ _ ku.out Try.underlying34 rfl triInfo ?_ | refine wpList_load_row rfl 35 _ rfl _ rfl _ _ _ _ kv.out Try.underlying35 rfl i3Info ?_ | refine wpList_load_rowG rfl 35 _ rfl _ rfl _ _ _ _ kv.out Try.underlying35 rfl i3Info ?_ | refine wpList_load_row rfl 35 _ rfl _ rfl _ _ _ _ kw.out Try.underlying35 rfl i3Info ?_ | refine wpList_load_rowG rfl 35 _ rfl _ rfl _ _ _ _ kw.out Try.underlying35 rfl i3Info ?_)
  clear ckt lkt ckp lkp cku lku ckv lkv ckw lkw
  refine (bounds_tup _ _ _ _ _ _ _ _ _ _ _ _ _ _ _ _ _ _ _ _ _ _ _ _ _ _ _ _ hb1.out).mono ?_
  rintro e W5 ⟨rfl, hb⟩
  replace kt := Lib.hid (kt.out.call hb)
  replace kp := Lib.hid (kp.out.call hb)
  replace ku := Lib.hid (ku.out.call hb)
  replace kv := Lib.hid (kv.out.call hb)
  replace kw := Lib.hid (kw.out.call hb)
  replace hB := Lib.hid (below_on hB.out hb)
  clear hb
  have ckt := kt.out.cell
  have lkt := kt.out.lt
  have ckp := kp.out.cell
  have lkp := kp.out.lt
  have cku := ku.out.cell
  have lku := ku.out.lt
  have ckv := kv.out.cell
  have lkv := kv.out.lt
  have ckw := kw.out.cell
  have lkw := kw.out.lt
  go_wp2_with (first | refine wpList_load_row rfl 34 _ rfl _ rfl _ _ _ _ kt.out Try.underlying34 rfl triInfo ?_ | refine wpList_load_rowG rfl 34 _ rfl _ rfl _ _ _ _ kt.out Try.underlying34 rfl triInfo ?_ | refine wpList_load_row rfl 34 _ rfl _ rfl _ _ _ _ ku.out Try.underlying34 rfl triInfo ?_ | refine wpList_load_rowG rfl 34 _ rfl _ rfl _ _ _ _ ku.out Try.underlying34 rfl triInfo ?_ | refine wpList_load_row rfl 35 _ rfl _ rfl _ _ _ _ kv.out Try.underlying35 rfl i3Info ?_ | refine wpList_load_rowG rfl 35 _ rfl _ rfl _ _ _ _ kv.out Try.underlying35 rfl i3Info ?_ | refine wpList_load_row rfl 35 _ rfl _ rfl _ _ _ _ kw.out Try.underlying35 rfl i3Info ?_ | refine wpList_load_rowG rfl 35 _ rfl _ rfl _ _ _ _ kw.out Try.underlying35 rfl i3Info ?_)
  clear ckt lkt ckp lkp cku lku ckv lkv ckw lkw
  refine (bounds_tup _ _ _ _ _ _ _ _ _ _ _ _ _ _ _ _ _ _ _ _ _ _ _ _ _ _ _ _ hb2.out).mono ?_
  rintro e W6 ⟨rfl, hb⟩
  replace kt := Lib.hid (kt.out.call hb)
  replace kp := Lib.hid (kp.out.call hb)
  replace ku := Lib.hid (ku.out.call hb)
  replace kv := Lib.hid (kv.out.call hb)
  replace kw := Lib.hid (kw.out.call hb)
  replace hB := Lib.hid (below_on hB.out hb)
  clear hb
  have ckt := kt.out.cell
  have lkt := kt.out.lt
  have ckp := kp.out.cell
  have lkp := kp.out.lt
  have cku := ku.out.cell
  have lku := ku.out.lt
  have ckv := kv.out.cell
  have lkv := kv.out.lt
  have ckw := kw.out.cell
  have lkw := kw.out.lt
  go_wp2_with (first | refine wpList_load_row rfl 34 _ rfl _ rfl _ _ _ _ kt.out Try.underlying34 rfl triInfo ?_ | refine wpList_load_rowG rfl 34 _ rfl _ rfl _ _ _ _ kt.out Try.underlying34 rfl triInfo ?_ | refine wpList_load_row rfl 34 _ rfl _ rfl _ _ _ _ ku.out Try.underlying34 rfl triInfo ?_ | refine wpList_load_rowG rfl 34 _ rfl _ rfl _ _ _ _ ku.out Try.underlying34 rfl triInfo ?_ | refine wpList_load_row rfl 35 _ rfl _ rfl _ _ _ _ kv.out Try.underlying35 rfl i3Info ?_ | refine wpList_load_rowG rfl 35 _ rfl _ rfl _ _ _ _ kv.out Try.underlying35 rfl i3Info ?_ | refine wpList_load_row rfl 35 _ rfl _ rfl _ _ _ _ kw.out Try.underlying35 rfl i3Info ?_ | refine wpList_load_rowG rfl 35 _ rfl _ rfl _ _ _ _ kw.out Try.underlying35 rfl i3Info ?_)
  refine wp_region_ext (W6.heap.size) (by kernel_rfl) (by kernel_rfl) ?_
  repeat (first | (go_big_quiet_want; refine quiet_load_row 34 _ rfl _ rfl _ _ _ kt.out (by assumption) Try.underlying34 rfl triInfo ?_; simp only [Act.put, List.setIfInBounds_toArray, List.set_cons_zero, List.set_cons_succ]; go_big_quiet_on) | (go_big_quiet_want; refine quiet_load_row 34 _ rfl _ rfl _ _ _ ku.out (by assumption) Try.underlying34 rfl triInfo ?_; simp only [Act.put, List.setIfInBounds_toArray, List.set_cons_zero, List.set_cons_succ]; go_big_quiet_on) | (go_big_quiet_want; refine quiet_load_row 35 _ rfl _ rfl _ _ _ kv.out (by assumption) Try.underlying35 rfl i3Info ?_; simp only [Act.put, List.setIfInBounds_toArray, List.set_cons_zero, List.set_cons_succ]; go_big_quiet_on) | (go_big_quiet_want; refine quiet_load_row 35 _ rfl _ rfl _ _ _ kw.out (by assumption) Try.underlying35 rfl i3Info ?_; simp only [Act.put, List.setIfInBounds_toArray, List.set_cons_zero, List.set_cons_succ]; go_big_quiet_on) | go_big_quiet_step (first | (go_at_call 19; exact ext_call (Nat.le_refl _) (valid_at _ _ _ _ _ _ _ _ _ _ _ _ _ _ _ _ _ _ _ _ _ _ _ _ _ hv1.out)) | (go_at_call 19; exact ext_call (Nat.le_refl _) (valid_at _ _ _ _ _ _ _ _ _ _ _ _ _ _ _ _ _ _ _ _ _ _ _ _ _ hv2.out)) | (go_at_call 21; exact ext_call (Nat.le_refl _) (covers_at _ _ _ _ _ _ _ _ _ _ _ _ _ _ _ _ _ _ _ _ _ _ _ _ _ _ _ hc1.out)) | (go_at_call 21; exact ext_call (Nat.le_refl _) (covers_at _ _ _ _ _ _ _ _ _ _ _ _ _ _ _ _ _ _ _ _ _ _ _ _ _ _ _ hc2.out))))
  refine wpQuiet_nil ?_
  intro W7 hwx
  obtain ⟨⟨W7, hb⟩, rfl⟩ := hwx
  clear ckt lkt ckp lkp cku lku ckv lkv ckw lkw
  replace kt := Lib.hid (kt.out.call hb)
  replace kp := Lib.hid (kp.out.call hb)
  replace ku := Lib.hid (ku.out.call hb)
  replace kv := Lib.hid (kv.out.call hb)
  replace kw := Lib.hid (kw.out.call hb)
  replace hB := Lib.hid (below_on hB.out hb)
  clear hb
  have ckt := kt.out.cell
  have lkt := kt.out.lt
  have ckp := kp.out.cell
  have lkp := kp.out.lt
  have cku := ku.out.cell
  have lku := ku.out.lt
  have ckv := kv.out.cell
  have lkv := kv.out.lt
  have ckw := kw.out.cell
  have lkw := kw.out.lt
  go_wp2_with (first | refine wpList_load_row rfl 34 _ rfl _ rfl _ _ _ _ kt.out Try.underlying34 rfl triInfo ?_ | refine wpList_load_rowG rfl 34 _ rfl _ rfl _ _ _ _ kt.out Try.underlying34 rfl triInfo ?_ | refine wpList_load_row rfl 34 _ rfl _ rfl _ _ _ _ ku.out Try.underlying34 rfl triInfo ?_ | refine wpList_load_rowG rfl 34 _ rfl _ rfl _ _ _ _ ku.out Try.underlying34 rfl triInfo ?_ | refine wpList_load_row rfl 35 _ rfl _ rfl _ _ _ _ kv.out Try.underlying35 rfl i3Info ?_ | refine wpList_load_rowG rfl 35 _ rfl _ rfl _ _ _ _ kv.out Try.underlying35 rfl i3Info ?_ | refine wpList_load_row rfl 35 _ rfl _ rfl _ _ _ _ kw.out Try.underlying35 rfl i3Info ?_ | refine wpList_load_rowG rfl 35 _ rfl _ rfl _ _ _ _ kw.out Try.underlying35 rfl i3Info ?_)
  clear ckt lkt ckp lkp cku lku ckv lkv ckw lkw
  clear kv kw
  have ckt := kt.out.cell
  have lkt := kt.out.lt
  have ckp := kp.out.cell
  have lkp := kp.out.lt
  have cku := ku.out.cell
  have lku := ku.out.lt
  refine wp_region_ext (W7.heap.size) (by kernel_rfl) (by kernel_rfl) ?_
  repeat (first | (go_big_quiet_want; refine quiet_load_row 34 _ rfl _ rfl _ _ _ kt.out (by assumption) Try.underlying34 rfl triInfo ?_; simp only [Act.put, List.setIfInBounds_toArray, List.set_cons_zero, List.set_cons_succ]; go_big_quiet_on) | (go_big_quiet_want; refine quiet_load_row 34 _ rfl _ rfl _ _ _ ku.out (by assumption) Try.underlying34 rfl triInfo ?_; simp only [Act.put, List.setIfInBounds_toArray, List.set_cons_zero, List.set_cons_succ]; go_big_quiet_on) | go_big_quiet_step (first | (go_at_call 12; exact ext_same (limited_at _ _ _ hl0.out)) | (go_at_call 12; exact ext_same (limited_at _ _ _ hl1.out))))
  refine wpQuiet_nil ?_
  intro W8 hwx
  obtain ⟨⟨W8, hb⟩, rfl⟩ := hwx
  clear ckt lkt ckp lkp cku lku
  replace kt := Lib.hid (kt.out.call hb)
  replace kp := Lib.hid (kp.out.call hb)
  replace ku := Lib.hid (ku.out.call hb)
  replace hB := Lib.hid (below_on hB.out hb)
  clear hb
  have ckt := kt.out.cell
  have lkt := kt.out.lt
  have ckp := kp.out.cell
  have lkp := kp.out.lt
  have cku := ku.out.cell
  have lku := ku.out.lt
  go_wp2_with (first | refine wpList_load_row rfl 34 _ rfl _ rfl _ _ _ _ kt.out Try.underlying34 rfl triInfo ?_ | refine wpList_load_rowG rfl 34 _ rfl _ rfl _ _ _ _ kt.out Try.underlying34 rfl triInfo ?_ | refine wpList_load_row rfl 34 _ rfl _ rfl _ _ _ _ ku.out Try.underlying34 rfl triInfo ?_ | refine wpList_load_rowG rfl 34 _ rfl _ rfl _ _ _ _ ku.out Try.underlying34 rfl triInfo ?_)
  clear ckt lkt ckp lkp cku lku
  refine (covers_at _ _ _ _ _ _ _ _ _ _ _ _ _ _ _ _ _ _ _ _ _ _ _ _ _ _ _ hc1.out).mono ?_
  rintro e W9 ⟨rfl, hb⟩
  replace kt := Lib.hid (kt.out.call hb)
  replace kp := Lib.hid (kp.out.call hb)
  replace ku := Lib.hid (ku.out.call hb)
  replace hB := Lib.hid (below_on hB.out hb)
  clear hb
  obtain rfl | ⟨rfl, g1, g2, g3, g4⟩ := hgood.out
  all_goals
    have ckt := kt.out.cell
    have lkt := kt.out.lt
    have ckp := kp.out.cell
    have lkp := kp.out.lt
    have cku := ku.out.cell
    have lku := ku.out.lt
    go_wp2_with (first | refine wpList_load_row rfl 34 _ rfl _ rfl _ _ _ _ kt.out Try.underlying34 rfl triInfo ?_ | refine wpList_load_rowG rfl 34 _ rfl _ rfl _ _ _ _ kt.out Try.underlying34 rfl triInfo ?_ | refine wpList_load_row rfl 34 _ rfl _ rfl _ _ _ _ ku.out Try.underlying34 rfl triInfo ?_ | refine wpList_load_rowG rfl 34 _ rfl _ rfl _ _ _ _ ku.out Try.underlying34 rfl triInfo ?_)
    clear ckt lkt ckp lkp cku lku
    refine (example_true _).mono ?_
    rintro e W10 ⟨rfl, hb⟩
    replace kt := Lib.hid (kt.out.call hb)
    replace kp := Lib.hid (kp.out.call hb)
    replace ku := Lib.hid (ku.out.call hb)
    replace hB := Lib.hid (below_on hB.out hb)
    clear hb
    go_wp2
    go_ret
    exact ⟨rfl, hB.out⟩
end Go.Proofs.Ytmcemnhhmlnfcaa
