/- The walk of EdgeWeightsSum. -/
import Derived.Test.YtmcemnhhmlnfcaaEEx
namespace Go.Proofs.Ytmcemnhhmlnfcaa
open Go.RowKit
attribute [local go_sem] Ext.cell
theorem weights_tup (x0 y0 z0 u0 x1 y1 z1 u1 x2 y2 z2 u2 : Int) (A0 A1 A2 : Option Addr) (n0 c0 n1 c1 n2 c2 : Nat) (pr : Int) (fr : Bool) (px py : Int) (w : World) (v0 v1 v2 s : Int) (h : wtV x0 y0 x1 y1 x2 y2 px py = .tuple #[.agg #[.int .i64 v0, .int .i64 v1, .int .i64 v2], .int .i64 s]) :
    Calls Try.prog 18 #[.agg #[.int .i64 x0, .int .i64 y0, .int .i64 z0, .int .i64 u0, .slice A0 n0 c0, .int .i64 x1, .int .i64 y1, .int .i64 z1, .int .i64 u1, .slice A1 n1 c1, .int .i64 x2, .int .i64 y2, .int .i64 z2, .int .i64 u2, .slice A2 n2 c2, .int .i64 pr, .bool fr], .int .i64 px, .int .i64 py] w fun e w' => e = .returned (.tuple #[.agg #[.int .i64 v0, .int .i64 v1, .int .i64 v2], .int .i64 s]) ∧ Below w.heap.size w w' := h ▸ weights_any _ _ _ _ _ _ _ _ _ _ _ _ _ _ _ _ _ _ _ _ _ _ _ _ _ _
set_option maxHeartbeats 4000000 in
theorem wsum_no (x0 y0 z0 u0 x1 y1 z1 u1 x2 y2 z2 u2 : Int) (A0 A1 A2 : Option Addr) (n0 c0 n1 c1 n2 c2 : Nat) (pr : Int) (fr : Bool) (p0 p1 q0 q1 : Int) (w : World) (hv : validB x0 y0 x1 y1 x2 y2 = false) (hp : wtV x0 y0 x1 y1 x2 y2 p0 p1 = .tuple #[.agg #[.int .i64 0, .int .i64 0, .int .i64 0], .int .i64 0]) (hq : wtV x0 y0 x1 y1 x2 y2 q0 q1 = .tuple #[.agg #[.int .i64 0, .int .i64 0, .int .i64 0], .int .i64 0]) :
    Calls Try.prog 5 #[.agg #[.int .i64 x0, .int .i64 y0, .int .i64 z0, .int .i64 u0, .slice A0 n0 c0, .int .i64 x1, .int .i64 y1, .int .i64 z1, .int .i64 u1, .slice A1 n1 c1, .int .i64 x2, .int .i64 y2, .int .i64 z2, .int .i64 u2, .slice A2 n2 c2, .int .i64 pr, .bool fr], .agg #[.int .i64 p0, .int .i64 p1], .agg #[.int .i64 q0, .int .i64 q1]] w fun e w' => e = .returned (.bool true) ∧ Below w.heap.size w w' := by
  replace hv := Lib.hid hv
  replace hp := Lib.hid hp
  replace hq := Lib.hid hq
  go_enter Try.func5, Try.ntmps5
  have kt := Lib.hid (((Blk.new w 34 #[.int .i64 x0, .int .i64 y0, .int .i64 z0, .int .i64 u0, .slice A0 n0 c0, .int .i64 x1, .int .i64 y1, .int .i64 z1, .int .i64 u1, .slice A1 n1 c1, .int .i64 x2, .int .i64 y2, .int .i64 z2, .int .i64 u2, .slice A2 n2 c2, .int .i64 pr, .bool fr]).alloc (.cells #[.int .i64 p0, .int .i64 p1] 22)).alloc (.cells #[.int .i64 q0, .int .i64 q1] 22))
  have kp := Lib.hid ((Blk.new1 w 22 #[.int .i64 p0, .int .i64 p1] (.cells #[.int .i64 x0, .int .i64 y0, .int .i64 z0, .int .i64 u0, .slice A0 n0 c0, .int .i64 x1, .int .i64 y1, .int .i64 z1, .int .i64 u1, .slice A1 n1 c1, .int .i64 x2, .int .i64 y2, .int .i64 z2, .int .i64 u2, .slice A2 n2 c2, .int .i64 pr, .bool fr] 34)).alloc (.cells #[.int .i64 q0, .int .i64 q1] 22))
  have kq := Lib.hid (Blk.new2 w 22 #[.int .i64 q0, .int .i64 q1] (.cells #[.int .i64 x0, .int .i64 y0, .int .i64 z0, .int .i64 u0, .slice A0 n0 c0, .int .i64 x1, .int .i64 y1, .int .i64 z1, .int .i64 u1, .slice A1 n1 c1, .int .i64 x2, .int .i64 y2, .int .i64 z2, .int .i64 u2, .slice A2 n2 c2, .int .i64 pr, .bool fr] 34) (.cells #[.int .i64 p0, .int .i64 p1] 22))
  have hB : Hid (Below w.heap.size w (((w.alloc (.cells #[.int .i64 x0, .int .i64 y0, .int .i64 z0, .int .i64 u0, .slice A0 n0 c0, .int .i64 x1, .int .i64 y1, .int .i64 z1, .int .i64 u1, .slice A1 n1 c1, .int .i64 x2, .int .i64 y2, .int .i64 z2, .int .i64 u2, .slice A2 n2 c2, .int .i64 pr, .bool fr] 34)).alloc (.cells #[.int .i64 p0, .int .i64 p1] 22)).alloc (.cells #[.int .i64 q0, .int .i64 q1] 22))) := Lib.hid (by go_grown)
  have ckt := kt.out.cell
  have lkt := kt.out.lt
  have ckp := kp.out.cell
  have lkp := kp.out.lt
  have ckq := kq.out.cell
  have lkq := kq.out.lt
  go_wp2_with (first | refine wpList_load_row rfl 34 _ rfl _ rfl _ _ _ _ kt.out Try.underlying34 rfl triInfo ?_ | refine wpList_load_rowG rfl 34 _ rfl _ rfl _ _ _ _ kt.out Try.underlying34 rfl triInfo ?_)
  clear ckt lkt ckp lkp ckq lkq
  refine (weights_tup _ _ _ _ _ _ _ _ _ _ _ _ _ _ _ _ _ _ _ _ _ _ _ _ _ _ _ _ _ _ hp.out).mono ?_
  rintro e W1 ⟨rfl, hb⟩
  replace kt := Lib.hid (kt.out.call hb)
  replace kp := Lib.hid (kp.out.call hb)
  replace kq := Lib.hid (kq.out.call hb)
  replace hB := Lib.hid (below_on hB.out hb)
  clear hb
  replace kt := Lib.hid (kt.out.alloc (.cells #[.int .i64 0, .int .i64 0, .int .i64 0] 35))
  replace kp := Lib.hid (kp.out.alloc (.cells #[.int .i64 0, .int .i64 0, .int .i64 0] 35))
  replace kq := Lib.hid (kq.out.alloc (.cells #[.int .i64 0, .int .i64 0, .int .i64 0] 35))
  have kv := Lib.hid (Blk.new W1 35 #[.int .i64 0, .int .i64 0, .int .i64 0])
  replace hB : Hid (Below w.heap.size w (W1.alloc (.cells #[.int .i64 0, .int .i64 0, .int .i64 0] 35))) := Lib.hid (hB.out.alloc hB.out.size (.cells #[.int .i64 0, .int .i64 0, .int .i64 0] 35))
  have ckt := kt.out.cell
  have lkt := kt.out.lt
  have ckp := kp.out.cell
  have lkp := kp.out.lt
  have ckq := kq.out.cell
  have lkq := kq.out.lt
  have ckv := kv.out.cell
  have lkv := kv.out.lt
  go_wp2_with (first | refine wpList_load_row rfl 34 _ rfl _ rfl _ _ _ _ kt.out Try.underlying34 rfl triInfo ?_ | refine wpList_load_rowG rfl 34 _ rfl _ rfl _ _ _ _ kt.out Try.underlying34 rfl triInfo ?_ | refine wpList_load_row rfl 35 _ rfl _ rfl _ _ _ _ kv.out Try.underlying35 rfl i3Info ?_ | refine wpList_load_rowG rfl 35 _ rfl _ rfl _ _ _ _ kv.out Try.underlying35 rfl i3Info ?_)
  clear ckt lkt ckp lkp ckq lkq ckv lkv
  refine (weights_tup _ _ _ _ _ _ _ _ _ _ _ _ _ _ _ _ _ _ _ _ _ _ _ _ _ _ _ _ _ _ hq.out).mono ?_
  rintro e W2 ⟨rfl, hb⟩
  replace kt := Lib.hid (kt.out.call hb)
  replace kp := Lib.hid (kp.out.call hb)
  replace kq := Lib.hid (kq.out.call hb)
  replace kv := Lib.hid (kv.out.call hb)
  replace hB := Lib.hid (below_on hB.out hb)
  clear hb
  replace kt := Lib.hid (kt.out.alloc (.cells #[.int .i64 0, .int .i64 0, .int .i64 0] 35))
  replace kp := Lib.hid (kp.out.alloc (.cells #[.int .i64 0, .int .i64 0, .int .i64 0] 35))
  replace kq := Lib.hid (kq.out.alloc (.cells #[.int .i64 0, .int .i64 0, .int .i64 0] 35))
  replace kv := Lib.hid (kv.out.alloc (.cells #[.int .i64 0, .int .i64 0, .int .i64 0] 35))
  have ku := Lib.hid (Blk.new W2 35 #[.int .i64 0, .int .i64 0, .int .i64 0])
  replace hB : Hid (Below w.heap.size w (W2.alloc (.cells #[.int .i64 0, .int .i64 0, .int .i64 0] 35))) := Lib.hid (hB.out.alloc hB.out.size (.cells #[.int .i64 0, .int .i64 0, .int .i64 0] 35))
  have ckt := kt.out.cell
  have lkt := kt.out.lt
  have ckp := kp.out.cell
  have lkp := kp.out.lt
  have ckq := kq.out.cell
  have lkq := kq.out.lt
  have ckv := kv.out.cell
  have lkv := kv.out.lt
  have cku := ku.out.cell
  have lku := ku.out.lt
  go_wp2_with (first | refine wpList_load_row rfl 34 _ rfl _ rfl _ _ _ _ kt.out Try.underlying34 rfl triInfo ?_ | refine wpList_load_rowG rfl 34 _ rfl _ rfl _ _ _ _ kt.out Try.underlying34 rfl triInfo ?_ | refine wpList_load_row rfl 35 _ rfl _ rfl _ _ _ _ kv.out Try.underlying35 rfl i3Info ?_ | refine wpList_load_rowG rfl 35 _ rfl _ rfl _ _ _ _ kv.out Try.underlying35 rfl i3Info ?_ | refine wpList_load_row rfl 35 _ rfl _ rfl _ _ _ _ ku.out Try.underlying35 rfl i3Info ?_ | refine wpList_load_rowG rfl 35 _ rfl _ rfl _ _ _ _ ku.out Try.underlying35 rfl i3Info ?_)
  clear ckt lkt ckp lkp ckq lkq ckv lkv cku lku
  refine (valid_at _ _ _ _ _ _ _ _ _ _ _ _ _ _ _ _ _ _ _ _ _ _ _ _ _ hv.out).mono ?_
  rintro e W3 ⟨rfl, hb⟩
  replace kt := Lib.hid (kt.out.call hb)
  replace kp := Lib.hid (kp.out.call hb)
  replace kq := Lib.hid (kq.out.call hb)
  replace kv := Lib.hid (kv.out.call hb)
  replace ku := Lib.hid (ku.out.call hb)
  replace hB := Lib.hid (below_on hB.out hb)
  clear hb
  have ckt := kt.out.cell
  have lkt := kt.out.lt
  have ckp := kp.out.cell
  have lkp := kp.out.lt
  have ckq := kq.out.cell
  have lkq := kq.out.lt
  have ckv := kv.out.cell
  have lkv := kv.out.lt
  have cku := ku.out.cell
  have lku := ku.out.lt
  go_wp2_with (first | refine wpList_load_row rfl 34 _ rfl _ rfl _ _ _ _ kt.out Try.underlying34 rfl triInfo ?_ | refine wpList_load_rowG rfl 34 _ rfl _ rfl _ _ _ _ kt.out Try.underlying34 rfl triInfo ?_ | refine wpList_load_row rfl 35 _ rfl _ rfl _ _ _ _ kv.out Try.underlying35 rfl i3Info ?_ | refine wpList_load_rowG rfl 35 _ rfl _ rfl _ _ _ _ kv.out Try.underlying35 rfl i3Info ?_ | refine wpList_load_row rfl 35 _ rfl _ rfl _ _ _ _ ku.out Try.underlying35 rfl i3Info ?_ | refine wpList_load_rowG rfl 35 _ rfl _ rfl _ _ _ _ ku.out Try.underlying35 rfl i3Info ?_)
  clear ckt lkt ckp lkp ckq lkq ckv lkv cku lku
  refine (example_true _).mono ?_
  rintro e W4 ⟨rfl, hb⟩
  replace kt := Lib.hid (kt.out.call hb)
  replace kp := Lib.hid (kp.out.call hb)
  replace kq := Lib.hid (kq.out.call hb)
  replace kv := Lib.hid (kv.out.call hb)
  replace ku := Lib.hid (ku.out.call hb)
  replace hB := Lib.hid (below_on hB.out hb)
  clear hb
  go_wp2
  go_ret
  exact ⟨rfl, hB.out⟩
set_option maxHeartbeats 8000000 in
theorem wsum_yes (x0 y0 z0 u0 x1 y1 z1 u1 x2 y2 z2 u2 : Int) (A0 A1 A2 : Option Addr) (n0 c0 n1 c1 n2 c2 : Nat) (pr : Int) (fr : Bool) (p0 p1 q0 q1 : Int) (w : World) (v0 v1 v2 g0 g1 g2 s : Int) (hv : validB x0 y0 x1 y1 x2 y2 = true) (hp : wtV x0 y0 x1 y1 x2 y2 p0 p1 = .tuple #[.agg #[.int .i64 v0, .int .i64 v1, .int .i64 v2], .int .i64 s]) (hq : wtV x0 y0 x1 y1 x2 y2 q0 q1 = .tuple #[.agg #[.int .i64 g0, .int .i64 g1, .int .i64 g2], .int .i64 s])
    (h0 : wtV x0 y0 x1 y1 x2 y2 x0 y0 = .tuple #[.agg #[.int .i64 s, .int .i64 0, .int .i64 0], .int .i64 s]) (h1 : wtV x0 y0 x1 y1 x2 y2 x1 y1 = .tuple #[.agg #[.int .i64 0, .int .i64 s, .int .i64 0], .int .i64 s]) (h2 : wtV x0 y0 x1 y1 x2 y2 x2 y2 = .tuple #[.agg #[.int .i64 0, .int .i64 0, .int .i64 s], .int .i64 s])
    (hs : decide (s ≤ 0) = false) (e1 : IntKind.i64.wrap (v0 + v1) = v0 + v1) (e2 : IntKind.i64.wrap (v0 + v1 + v2) = s) (e3 : IntKind.i64.wrap (g0 + g1) = g0 + g1) (e4 : IntKind.i64.wrap (g0 + g1 + g2) = s) :
    Calls Try.prog 5 #[.agg #[.int .i64 x0, .int .i64 y0, .int .i64 z0, .int .i64 u0, .slice A0 n0 c0, .int .i64 x1, .int .i64 y1, .int .i64 z1, .int .i64 u1, .slice A1 n1 c1, .int .i64 x2, .int .i64 y2, .int .i64 z2, .int .i64 u2, .slice A2 n2 c2, .int .i64 pr, .bool fr], .agg #[.int .i64 p0, .int .i64 p1], .agg #[.int .i64 q0, .int .i64 q1]] w fun e w' => e = .returned (.bool true) ∧ Below w.heap.size w w' := by
  replace hv := Lib.hid hv
  replace hp := Lib.hid hp
  replace hq := Lib.hid hq
  replace h0 := Lib.hid h0
  replace h1 := Lib.hid h1
  replace h2 := Lib.hid h2
  go_enter Try.func5, Try.ntmps5
  have kt := Lib.hid (((Blk.new w 34 #[.int .i64 x0, .int .i64 y0, .int .i64 z0, .int .i64 u0, .slice A0 n0 c0, .int .i64 x1, .int .i64 y1, .int .i64 z1, .int .i64 u1, .slice A1 n1 c1, .int .i64 x2, .int .i64 y2, .int .i64 z2, .int .i64 u2, .slice A2 n2 c2, .int .i64 pr, .bool fr]).alloc (.cells #[.int .i64 p0, .int .i64 p1] 22)).alloc (.cells #[.int .i64 q0, .int .i64 q1] 22))
  have kp := Lib.hid ((Blk.new1 w 22 #[.int .i64 p0, .int .i64 p1] (.cells #[.int .i64 x0, .int .i64 y0, .int .i64 z0, .int .i64 u0, .slice A0 n0 c0, .int .i64 x1, .int .i64 y1, .int .i64 z1, .int .i64 u1, .slice A1 n1 c1, .int .i64 x2, .int .i64 y2, .int .i64 z2, .int .i64 u2, .slice A2 n2 c2, .int .i64 pr, .bool fr] 34)).alloc (.cells #[.int .i64 q0, .int .i64 q1] 22))
  have kq := Lib.hid (Blk.new2 w 22 #[.int .i64 q0, .int .i64 q1] (.cells #[.int .i64 x0, .int .i64 y0, .int .i64 z0, .int .i64 u0, .slice A0 n0 c0, .int .i64 x1, .int .i64 y1, .int .i64 z1, .int .i64 u1, .slice A1 n1 c1, .int .i64 x2, .int .i64 y2, .int .i64 z2, .int .i64 u2, .slice A2 n2 c2, .int .i64 pr, .bool fr] 34) (.cells #[.int .i64 p0, .int .i64 p1] 22))
  have hB : Hid (Below w.heap.size w (((w.alloc (.cells #[.int .i64 x0, .int .i64 y0, .int .i64 z0, .int .i64 u0, .slice A0 n0 c0, .int .i64 x1, .int .i64 y1, .int .i64 z1, .int .i64 u1, .slice A1 n1 c1, .int .i64 x2, .int .i64 y2, .int .i64 z2, .int .i64 u2, .slice A2 n2 c2, .int .i64 pr, .bool fr] 34)).alloc (.cells #[.int .i64 p0, .int .i64 p1] 22)).alloc (.cells #[.int .i64 q0, .int .i64 q1] 22))) := Lib.hid (by go_grown)
  have ckt := kt.out.cell
  have lkt := kt.out.lt
  have ckp := kp.out.cell
  have lkp := kp.out.lt
  have ckq := kq.out.cell
  have lkq := kq.out.lt
  go_wp2_with (first | refine wpList_load_row rfl 34 _ rfl _ rfl _ _ _ _ kt.out Try.underlying34 rfl triInfo ?_ | refine wpList_load_rowG rfl 34 _ rfl _ rfl _ _ _ _ kt.out Try.underlying34 rfl triInfo ?_)
  clear ckt lkt ckp lkp ckq lkq
  refine (weights_tup _ _ _ _ _ _ _ _ _ _ _ _ _ _ _ _ _ _ _ _ _ _ _ _ _ _ _ _ _ _ hp.out).mono ?_
  rintro e W1 ⟨rfl, hb⟩
  replace kt := Lib.hid (kt.out.call hb)
  replace kp := Lib.hid (kp.out.call hb)
  replace kq := Lib.hid (kq.out.call hb)
  replace hB := Lib.hid (below_on hB.out hb)
  clear hb
  replace kt := Lib.hid (kt.out.alloc (.cells #[.int .i64 v0, .int .i64 v1, .int .i64 v2] 35))
  replace kp := Lib.hid (kp.out.alloc (.cells #[.int .i64 v0, .int .i64 v1, .int .i64 v2] 35))
  replace kq := Lib.hid (kq.out.alloc (.cells #[.int .i64 v0, .int .i64 v1, .int .i64 v2] 35))
  have kv := Lib.hid (Blk.new W1 35 #[.int .i64 v0, .int .i64 v1, .int .i64 v2])
  replace hB : Hid (Below w.heap.size w (W1.alloc (.cells #[.int .i64 v0, .int .i64 v1, .int .i64 v2] 35))) := Lib.hid (hB.out.alloc hB.out.size (.cells #[.int .i64 v0, .int .i64 v1, .int .i64 v2] 35))
  have ckt := kt.out.cell
  have lkt := kt.out.lt
  have ckp := kp.out.cell
  have lkp := kp.out.lt
  have ckq := kq.out.cell
  have lkq := kq.out.lt
  have ckv := kv.out.cell
  have lkv := kv.out.lt
  go_wp2_with (first | refine wpList_load_row rfl 34 _ rfl _ rfl _ _ _ _ kt.out Try.underlying34 rfl triInfo ?_ | refine wpList_load_rowG rfl 34 _ rfl _ rfl _ _ _ _ kt.out Try.underlying34 rfl triInfo ?_)
  clear ckt lkt ckp lkp ckq lkq ckv lkv
  refine (weights_tup _ _ _ _ _ _ _ _ _ _ _ _ _ _ _ _ _ _ _ _ _ _ _ _ _ _ _ _ _ _ hq.out).mono ?_
  rintro e W2 ⟨rfl, hb⟩
  replace kt := Lib.hid (kt.out.call hb)
  replace kp := Lib.hid (kp.out.call hb)
  replace kq := Lib.hid (kq.out.call hb)
  replace kv := Lib.hid (kv.out.call hb)
  replace hB := Lib.hid (below_on hB.out hb)
  clear hb
  replace kt := Lib.hid (kt.out.alloc (.cells #[.int .i64 g0, .int .i64 g1, .int .i64 g2] 35))
  replace kp := Lib.hid (kp.out.alloc (.cells #[.int .i64 g0, .int .i64 g1, .int .i64 g2] 35))
  replace kq := Lib.hid (kq.out.alloc (.cells #[.int .i64 g0, .int .i64 g1, .int .i64 g2] 35))
  replace kv := Lib.hid (kv.out.alloc (.cells #[.int .i64 g0, .int .i64 g1, .int .i64 g2] 35))
  have ku := Lib.hid (Blk.new W2 35 #[.int .i64 g0, .int .i64 g1, .int .i64 g2])
  replace hB : Hid (Below w.heap.size w (W2.alloc (.cells #[.int .i64 g0, .int .i64 g1, .int .i64 g2] 35))) := Lib.hid (hB.out.alloc hB.out.size (.cells #[.int .i64 g0, .int .i64 g1, .int .i64 g2] 35))
  have ckt := kt.out.cell
  have lkt := kt.out.lt
  have ckp := kp.out.cell
  have lkp := kp.out.lt
  have ckq := kq.out.cell
  have lkq := kq.out.lt
  have ckv := kv.out.cell
  have lkv := kv.out.lt
  have cku := ku.out.cell
  have lku := ku.out.lt
  go_wp2_with (first | refine wpList_load_row rfl 34 _ rfl _ rfl _ _ _ _ kt.out Try.underlying34 rfl triInfo ?_ | refine wpList_load_rowG rfl 34 _ rfl _ rfl _ _ _ _ kt.out Try.underlying34 rfl triInfo ?_)
  clear ckt lkt ckp lkp ckq lkq ckv lkv cku lku
  refine (valid_at _ _ _ _ _ _ _ _ _ _ _ _ _ _ _ _ _ _ _ _ _ _ _ _ _ hv.out).mono ?_
  rintro e W3 ⟨rfl, hb⟩
  replace kt := Lib.hid (kt.out.call hb)
  replace kp := Lib.hid (kp.out.call hb)
  replace kq := Lib.hid (kq.out.call hb)
  replace kv := Lib.hid (kv.out.call hb)
  replace ku := Lib.hid (ku.out.call hb)
  replace hB := Lib.hid (below_on hB.out hb)
  clear hb
  have ckt := kt.out.cell
  have lkt := kt.out.lt
  have ckp := kp.out.cell
  have lkp := kp.out.lt
  have ckq := kq.out.cell
  have lkq := kq.out.lt
  have ckv := kv.out.cell
  have lkv := kv.out.lt
  have cku := ku.out.cell
  have lku := ku.out.lt
  go_wp2_with (first | refine wpList_load_row rfl 34 _ rfl _ rfl _ _ _ _ kt.out Try.underlying34 rfl triInfo ?_ | refine wpList_load_rowG rfl 34 _ rfl _ rfl _ _ _ _ kt.out Try.underlying34 rfl triInfo ?_)
  clear ckt lkt ckp lkp ckq lkq ckv lkv cku lku
  clear kp kq kv ku
  refine wp_loop_rounds 4 ?_
  rw [rounds_succ]
  clear e1 e2 e3 e4
  have ckt := kt.out.cell
  have lkt := kt.out.lt
  go_wp2_with (first | refine wpList_load_row rfl 34 _ rfl _ rfl _ _ _ _ kt.out Try.underlying34 rfl triInfo ?_ | refine wpList_load_rowG rfl 34 _ rfl _ rfl _ _ _ _ kt.out Try.underlying34 rfl triInfo ?_)
  clear ckt lkt
  refine' wp_region_fresh 17 [⟨15, 12, 35, #[.int .i64 0, .int .i64 0, .int .i64 0], 16, #[.int .i64 s, .int .i64 0, .int .i64 0]⟩] (by kernel_rfl) (by kernel_rfl) (by simp) (by simp) (by simp) (by simp) ?hz ?h1 ?hs ?h2
  case hz =>
    intro z hz
    simp only [List.mem_cons, List.not_mem_nil, or_false] at hz
    rcases hz with rfl
    all_goals exact ⟨by simp, by simp, _, rfl, rfl, rfl, fun ev xw => by simp [go_sem, ptrTo, Let.at_]⟩
  case h1 =>
    intro u hu
    have ktu := kt.out.below hu kt.out.lt
    have ckt := ktu.cell
    have lkt := ktu.lt
    simp only [List.take_succ_cons, List.take_zero, List.filter, isMk, isAl, isSt, Bool.or_false, Bool.or_true, Bool.not_true, Bool.not_false]
    repeat (first | (go_big_quiet_want; refine quiet_load_row 34 _ rfl _ rfl _ _ _ ktu (by assumption) Try.underlying34 rfl triInfo ?_; simp only [Act.put, List.setIfInBounds_toArray, List.set_cons_zero, List.set_cons_succ]; go_big_quiet_on) | go_big_quiet_step (first | (go_at_call 18; exact ext_call (Nat.le_refl _) (weights_tup _ _ _ _ _ _ _ _ _ _ _ _ _ _ _ _ _ _ _ _ _ _ _ _ _ _ _ _ _ _ h0.out))))
    exact wpQuiet_nil rfl
  case hs =>
    intro z hz
    simp only [List.mem_cons, List.not_mem_nil, or_false] at hz
    rcases hz with rfl
    · exact fun _ => ⟨_, 35, _, rfl, rfl, by simp, rfl, rfl, (by kernel_rfl), rfl, by kernel_rfl⟩
  case h2 =>
    intro ℓ xw hlet
    obtain ⟨hbx, hlx, hnx⟩ := hlet
    obtain ⟨kr, lkr⟩ := hlx ⟨15, 12, 35, #[.int .i64 0, .int .i64 0, .int .i64 0], 16, #[.int .i64 s, .int .i64 0, .int .i64 0]⟩ (by simp)
    clear hnx hlx
    dsimp only [List.drop, lay, List.foldl, ptrTo] at *
    generalize ℓ 15 = pkr at *
    replace kr : Hid (Blk xw pkr 35 #[.int .i64 s, .int .i64 0, .int .i64 0]) := Lib.hid kr
    simp only [Act.put, List.setIfInBounds_toArray, List.set_cons_zero, List.set_cons_succ]
    have kr' := Lib.hid kr.out
    replace kt := Lib.hid (kt.out.below hbx kt.out.lt)
    replace hB := Lib.hid (below_on hB.out hbx)
    clear kr
    have kr := kr'
    clear hbx kr' lkr 
    generalize xw = W4 at *
    have ckt := kt.out.cell
    have lkt := kt.out.lt
    have ckr := kr.out.cell
    have lkr := kr.out.lt
    go_wp2_with (first | refine wpList_load_row rfl 34 _ rfl _ rfl _ _ _ _ kt.out Try.underlying34 rfl triInfo ?_ | refine wpList_load_rowG rfl 34 _ rfl _ rfl _ _ _ _ kt.out Try.underlying34 rfl triInfo ?_)
    clear ckt lkt ckr lkr
    clear kr
    rw [rounds_succ]
    have ckt := kt.out.cell
    have lkt := kt.out.lt
    go_wp2_with (first | refine wpList_load_row rfl 34 _ rfl _ rfl _ _ _ _ kt.out Try.underlying34 rfl triInfo ?_ | refine wpList_load_rowG rfl 34 _ rfl _ rfl _ _ _ _ kt.out Try.underlying34 rfl triInfo ?_)
    clear ckt lkt
    refine' wp_region_fresh 17 [⟨15, 12, 35, #[.int .i64 0, .int .i64 0, .int .i64 0], 16, #[.int .i64 0, .int .i64 s, .int .i64 0]⟩] (by kernel_rfl) (by kernel_rfl) (by simp) (by simp) (by simp) (by simp) ?hz ?h1 ?hs ?h2
    case hz =>
      intro z hz
      simp only [List.mem_cons, List.not_mem_nil, or_false] at hz
      rcases hz with rfl
      all_goals exact ⟨by simp, by simp, _, rfl, rfl, rfl, fun ev xw => by simp [go_sem, ptrTo, Let.at_]⟩
    case h1 =>
      intro u hu
      have ktu := kt.out.below hu kt.out.lt
      have ckt := ktu.cell
      have lkt := ktu.lt
      simp only [List.take_succ_cons, List.take_zero, List.filter, isMk, isAl, isSt, Bool.or_false, Bool.or_true, Bool.not_true, Bool.not_false]
      repeat (first | (go_big_quiet_want; refine quiet_load_row 34 _ rfl _ rfl _ _ _ ktu (by assumption) Try.underlying34 rfl triInfo ?_; simp only [Act.put, List.setIfInBounds_toArray, List.set_cons_zero, List.set_cons_succ]; go_big_quiet_on) | go_big_quiet_step (first | (go_at_call 18; exact ext_call (Nat.le_refl _) (weights_tup _ _ _ _ _ _ _ _ _ _ _ _ _ _ _ _ _ _ _ _ _ _ _ _ _ _ _ _ _ _ h1.out))))
      exact wpQuiet_nil rfl
    case hs =>
      intro z hz
      simp only [List.mem_cons, List.not_mem_nil, or_false] at hz
      rcases hz with rfl
      · exact fun _ => ⟨_, 35, _, rfl, rfl, by simp, rfl, rfl, (by kernel_rfl), rfl, by kernel_rfl⟩
    case h2 =>
      intro ℓ xw hlet
      obtain ⟨hbx, hlx, hnx⟩ := hlet
      obtain ⟨kr, lkr⟩ := hlx ⟨15, 12, 35, #[.int .i64 0, .int .i64 0, .int .i64 0], 16, #[.int .i64 0, .int .i64 s, .int .i64 0]⟩ (by simp)
      clear hnx hlx
      dsimp only [List.drop, lay, List.foldl, ptrTo] at *
      generalize ℓ 15 = pkr at *
      replace kr : Hid (Blk xw pkr 35 #[.int .i64 0, .int .i64 s, .int .i64 0]) := Lib.hid kr
      simp only [Act.put, List.setIfInBounds_toArray, List.set_cons_zero, List.set_cons_succ]
      have kr' := Lib.hid kr.out
      replace kt := Lib.hid (kt.out.below hbx kt.out.lt)
      replace hB := Lib.hid (below_on hB.out hbx)
      clear kr
      have kr := kr'
      clear hbx kr' lkr 
      generalize xw = W5 at *
      have ckt := kt.out.cell
      have lkt := kt.out.lt
      have ckr := kr.out.cell
      have lkr := kr.out.lt
      go_wp2_with (first | refine wpList_load_row rfl 34 _ rfl _ rfl _ _ _ _ kt.out Try.underlying34 rfl triInfo ?_ | refine wpList_load_rowG rfl 34 _ rfl _ rfl _ _ _ _ kt.out Try.underlying34 rfl triInfo ?_)
      clear ckt lkt ckr lkr
      clear kr
      rw [rounds_succ]
      have ckt := kt.out.cell
      have lkt := kt.out.lt
      go_wp2_with (first | refine wpList_load_row rfl 34 _ rfl _ rfl _ _ _ _ kt.out Try.underlying34 rfl triInfo ?_ | refine wpList_load_rowG rfl 34 _ rfl _ rfl _ _ _ _ kt.out Try.underlying34 rfl triInfo ?_)
      clear ckt lkt
      refine' wp_region_fresh 17 [⟨15, 12, 35, #[.int .i64 0, .int .i64 0, .int .i64 0], 16, #[.int .i64 0, .int .i64 0, .int .i64 s]⟩] (by kernel_rfl) (by kernel_rfl) (by simp) (by simp) (by simp) (by simp) ?hz ?h1 ?hs ?h2
      case hz =>
        intro z hz
        simp only [List.mem_cons, List.not_mem_nil, or_false] at hz
        rcases hz with rfl
        all_goals exact ⟨by simp, by simp, _, rfl, rfl, rfl, fun ev xw => by simp [go_sem, ptrTo, Let.at_]⟩
      case h1 =>
        intro u hu
        have ktu := kt.out.below hu kt.out.lt
        have ckt := ktu.cell
        have lkt := ktu.lt
        simp only [List.take_succ_cons, List.take_zero, List.filter, isMk, isAl, isSt, Bool.or_false, Bool.or_true, Bool.not_true, Bool.not_false]
        repeat (first | (go_big_quiet_want; refine quiet_load_row 34 _ rfl _ rfl _ _ _ ktu (by assumption) Try.underlying34 rfl triInfo ?_; simp only [Act.put, List.setIfInBounds_toArray, List.set_cons_zero, List.set_cons_succ]; go_big_quiet_on) | go_big_quiet_step (first | (go_at_call 18; exact ext_call (Nat.le_refl _) (weights_tup _ _ _ _ _ _ _ _ _ _ _ _ _ _ _ _ _ _ _ _ _ _ _ _ _ _ _ _ _ _ h2.out))))
        exact wpQuiet_nil rfl
      case hs =>
        intro z hz
        simp only [List.mem_cons, List.not_mem_nil, or_false] at hz
        rcases hz with rfl
        · exact fun _ => ⟨_, 35, _, rfl, rfl, by simp, rfl, rfl, (by kernel_rfl), rfl, by kernel_rfl⟩
      case h2 =>
        intro ℓ xw hlet
        obtain ⟨hbx, hlx, hnx⟩ := hlet
        obtain ⟨kr, lkr⟩ := hlx ⟨15, 12, 35, #[.int .i64 0, .int .i64 0, .int .i64 0], 16, #[.int .i64 0, .int .i64 0, .int .i64 s]⟩ (by simp)
        clear hnx hlx
        dsimp only [List.drop, lay, List.foldl, ptrTo] at *
        generalize ℓ 15 = pkr at *
        replace kr : Hid (Blk xw pkr 35 #[.int .i64 0, .int .i64 0, .int .i64 s]) := Lib.hid kr
        simp only [Act.put, List.setIfInBounds_toArray, List.set_cons_zero, List.set_cons_succ]
        have kr' := Lib.hid kr.out
        replace kt := Lib.hid (kt.out.below hbx kt.out.lt)
        replace hB := Lib.hid (below_on hB.out hbx)
        clear kr
        have kr := kr'
        clear hbx kr' lkr 
        generalize xw = W6 at *
        have ckt := kt.out.cell
        have lkt := kt.out.lt
        have ckr := kr.out.cell
        have lkr := kr.out.lt
        go_wp2_with (first | refine wpList_load_row rfl 34 _ rfl _ rfl _ _ _ _ kt.out Try.underlying34 rfl triInfo ?_ | refine wpList_load_rowG rfl 34 _ rfl _ rfl _ _ _ _ kt.out Try.underlying34 rfl triInfo ?_)
        clear ckt lkt ckr lkr
        clear kr
        rw [rounds_succ]
        have ckt := kt.out.cell
        have lkt := kt.out.lt
        go_wp2_with (first | refine wpList_load_row rfl 34 _ rfl _ rfl _ _ _ _ kt.out Try.underlying34 rfl triInfo ?_ | refine wpList_load_rowG rfl 34 _ rfl _ rfl _ _ _ _ kt.out Try.underlying34 rfl triInfo ?_)
        clear ckt lkt
        refine (example_true _).mono ?_
        rintro e W7 ⟨rfl, hb⟩
        replace kt := Lib.hid (kt.out.call hb)
        replace hB := Lib.hid (below_on hB.out hb)
        clear hb
        go_wp2
        go_ret
        exact ⟨rfl, hB.out⟩
end Go.Proofs.Ytmcemnhhmlnfcaa
