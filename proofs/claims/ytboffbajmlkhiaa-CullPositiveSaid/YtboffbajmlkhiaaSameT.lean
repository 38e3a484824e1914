/- SameVertices and SameTriangle of the reference of chapter 33, at equal ones. -/
import Derived.Test.YtboffbajmlkhiaaSameV
namespace Go.Proofs.Ytboffbajmlkhiaa
open Go.RowKit
theorem t3Info : (Try.prog.info? 25).map (·.size) = some 15 := by kernel_rfl
theorem sameVertex_at (x y z u : Int) (n : Nat) (hn : n ≤ 17592186043904) (f : Nat → Int) (A B : Option Addr) (ca cb : Nat) (w : World) (k1 : Sl w A n ca f) (k2 : Sl w B n cb f) :
    Calls Try.prog 24 #[.agg #[.int .i64 x, .int .i64 y, .int .i64 z, .int .i64 u, .slice A n ca], .agg #[.int .i64 x, .int .i64 y, .int .i64 z, .int .i64 u, .slice B n cb]] w fun e w' => e = .returned (.bool true) ∧ Below w.heap.size w w' := sameVertex_sl x y z u n hn f A B ca cb w k1 k2
set_option maxRecDepth 100000 in
set_option maxHeartbeats 8000000 in
theorem sameVertices_sl (x0 y0 z0 u0 x1 y1 z1 u1 x2 y2 z2 u2 : Int) (n0 n1 n2 : Nat) (h0 : n0 ≤ 17592186043904) (h1 : n1 ≤ 17592186043904) (h2 : n2 ≤ 17592186043904) (f0 f1 f2 : Nat → Int) (A0 A1 A2 B0 B1 B2 : Option Addr) (c0 c1 c2 d0 d1 d2 : Nat) (w : World) (k0 : Sl w A0 n0 c0 f0) (k1 : Sl w A1 n1 c1 f1) (k2 : Sl w A2 n2 c2 f2) (l0 : Sl w B0 n0 d0 f0) (l1 : Sl w B1 n1 d1 f1) (l2 : Sl w B2 n2 d2 f2) :
    Calls Try.prog 21 #[.agg #[.int .i64 x0, .int .i64 y0, .int .i64 z0, .int .i64 u0, .slice A0 n0 c0, .int .i64 x1, .int .i64 y1, .int .i64 z1, .int .i64 u1, .slice A1 n1 c1, .int .i64 x2, .int .i64 y2, .int .i64 z2, .int .i64 u2, .slice A2 n2 c2], .agg #[.int .i64 x0, .int .i64 y0, .int .i64 z0, .int .i64 u0, .slice B0 n0 d0, .int .i64 x1, .int .i64 y1, .int .i64 z1, .int .i64 u1, .slice B1 n1 d1, .int .i64 x2, .int .i64 y2, .int .i64 z2, .int .i64 u2, .slice B2 n2 d2]] w fun e w' => e = .returned (.bool true) ∧ Below w.heap.size w w' := by
  have ha := Lib.hid ((Blk.new w 25 #[.int .i64 x0, .int .i64 y0, .int .i64 z0, .int .i64 u0, .slice A0 n0 c0, .int .i64 x1, .int .i64 y1, .int .i64 z1, .int .i64 u1, .slice A1 n1 c1, .int .i64 x2, .int .i64 y2, .int .i64 z2, .int .i64 u2, .slice A2 n2 c2]).alloc (.cells #[.int .i64 x0, .int .i64 y0, .int .i64 z0, .int .i64 u0, .slice B0 n0 d0, .int .i64 x1, .int .i64 y1, .int .i64 z1, .int .i64 u1, .slice B1 n1 d1, .int .i64 x2, .int .i64 y2, .int .i64 z2, .int .i64 u2, .slice B2 n2 d2] 25))
  have hb := Lib.hid (Blk.new1 w 25 #[.int .i64 x0, .int .i64 y0, .int .i64 z0, .int .i64 u0, .slice B0 n0 d0, .int .i64 x1, .int .i64 y1, .int .i64 z1, .int .i64 u1, .slice B1 n1 d1, .int .i64 x2, .int .i64 y2, .int .i64 z2, .int .i64 u2, .slice B2 n2 d2] (.cells #[.int .i64 x0, .int .i64 y0, .int .i64 z0, .int .i64 u0, .slice A0 n0 c0, .int .i64 x1, .int .i64 y1, .int .i64 z1, .int .i64 u1, .slice A1 n1 c1, .int .i64 x2, .int .i64 y2, .int .i64 z2, .int .i64 u2, .slice A2 n2 c2] 25))
  have hB : Hid (Below w.heap.size w ((w.alloc (.cells #[.int .i64 x0, .int .i64 y0, .int .i64 z0, .int .i64 u0, .slice A0 n0 c0, .int .i64 x1, .int .i64 y1, .int .i64 z1, .int .i64 u1, .slice A1 n1 c1, .int .i64 x2, .int .i64 y2, .int .i64 z2, .int .i64 u2, .slice A2 n2 c2] 25)).alloc (.cells #[.int .i64 x0, .int .i64 y0, .int .i64 z0, .int .i64 u0, .slice B0 n0 d0, .int .i64 x1, .int .i64 y1, .int .i64 z1, .int .i64 u1, .slice B1 n1 d1, .int .i64 x2, .int .i64 y2, .int .i64 z2, .int .i64 u2, .slice B2 n2 d2] 25))) := Lib.hid (by go_grown)
  replace k0 := Lib.hid (k0.call hB.out)
  replace l0 := Lib.hid (l0.call hB.out)
  replace k1 := Lib.hid (k1.call hB.out)
  replace l1 := Lib.hid (l1.call hB.out)
  replace k2 := Lib.hid (k2.call hB.out)
  replace l2 := Lib.hid (l2.call hB.out)
  go_enter Try.func21, Try.ntmps21
  go_wp2_with (first | refine wpList_load_sub rfl 24 _ rfl _ 0 rfl _ _ #[.int .i64 x0, .int .i64 y0, .int .i64 z0, .int .i64 u0, .slice A0 n0 c0] _ _ ha.out rfl Try.underlying24 rfl vInfo ?_ | refine wpList_load_sub rfl 24 _ rfl _ 0 rfl _ _ #[.int .i64 x0, .int .i64 y0, .int .i64 z0, .int .i64 u0, .slice B0 n0 d0] _ _ hb.out rfl Try.underlying24 rfl vInfo ?_)
  refine (sameVertex_at x0 y0 z0 u0 n0 h0 f0 A0 B0 c0 d0 _ k0.out l0.out).mono ?_
  rintro e W0 ⟨rfl, hb2⟩
  replace ha := Lib.hid (ha.out.call hb2)
  replace hb := Lib.hid (hb.out.call hb2)
  replace hB := Lib.hid (below_on hB.out hb2)
  replace k1 := Lib.hid (k1.out.call hb2)
  replace l1 := Lib.hid (l1.out.call hb2)
  replace k2 := Lib.hid (k2.out.call hb2)
  replace l2 := Lib.hid (l2.out.call hb2)
  clear hb2
  go_wp2_with (first | refine wpList_load_subG rfl 24 _ rfl _ 5 rfl _ _ #[.int .i64 x1, .int .i64 y1, .int .i64 z1, .int .i64 u1, .slice A1 n1 c1] _ _ ha.out rfl Try.underlying24 rfl vInfo ?_ | refine wpList_load_subG rfl 24 _ rfl _ 5 rfl _ _ #[.int .i64 x1, .int .i64 y1, .int .i64 z1, .int .i64 u1, .slice B1 n1 d1] _ _ hb.out rfl Try.underlying24 rfl vInfo ?_)
  refine (sameVertex_at x1 y1 z1 u1 n1 h1 f1 A1 B1 c1 d1 _ k1.out l1.out).mono ?_
  rintro e W1 ⟨rfl, hb2⟩
  replace ha := Lib.hid (ha.out.call hb2)
  replace hb := Lib.hid (hb.out.call hb2)
  replace hB := Lib.hid (below_on hB.out hb2)
  replace k2 := Lib.hid (k2.out.call hb2)
  replace l2 := Lib.hid (l2.out.call hb2)
  clear hb2
  go_wp2_with (first | refine wpList_load_subG rfl 24 _ rfl _ 10 rfl _ _ #[.int .i64 x2, .int .i64 y2, .int .i64 z2, .int .i64 u2, .slice A2 n2 c2] _ _ ha.out rfl Try.underlying24 rfl vInfo ?_ | refine wpList_load_subG rfl 24 _ rfl _ 10 rfl _ _ #[.int .i64 x2, .int .i64 y2, .int .i64 z2, .int .i64 u2, .slice B2 n2 d2] _ _ hb.out rfl Try.underlying24 rfl vInfo ?_)
  refine (sameVertex_at x2 y2 z2 u2 n2 h2 f2 A2 B2 c2 d2 _ k2.out l2.out).mono ?_
  rintro e W2 ⟨rfl, hb2⟩
  replace ha := Lib.hid (ha.out.call hb2)
  replace hb := Lib.hid (hb.out.call hb2)
  replace hB := Lib.hid (below_on hB.out hb2)
  clear hb2
  go_wp2
  go_ret
  exact ⟨rfl, hB.out⟩
theorem ttInfo : (Try.prog.info? 35).map (·.size) = some 17 := by kernel_rfl
set_option maxRecDepth 100000 in
set_option maxHeartbeats 8000000 in
theorem sameTriangle_sl (x0 y0 z0 u0 x1 y1 z1 u1 x2 y2 z2 u2 : Int) (n0 n1 n2 : Nat) (h0 : n0 ≤ 17592186043904) (h1 : n1 ≤ 17592186043904) (h2 : n2 ≤ 17592186043904) (f0 f1 f2 : Nat → Int) (A0 A1 A2 B0 B1 B2 : Option Addr) (c0 c1 c2 d0 d1 d2 : Nat) (pr : Int) (fr : Bool) (w : World) (k0 : Sl w A0 n0 c0 f0) (k1 : Sl w A1 n1 c1 f1) (k2 : Sl w A2 n2 c2 f2) (l0 : Sl w B0 n0 d0 f0) (l1 : Sl w B1 n1 d1 f1) (l2 : Sl w B2 n2 d2 f2) :
    Calls Try.prog 20 #[.agg #[.int .i64 x0, .int .i64 y0, .int .i64 z0, .int .i64 u0, .slice A0 n0 c0, .int .i64 x1, .int .i64 y1, .int .i64 z1, .int .i64 u1, .slice A1 n1 c1, .int .i64 x2, .int .i64 y2, .int .i64 z2, .int .i64 u2, .slice A2 n2 c2, .int .i64 pr, .bool fr], .agg #[.int .i64 x0, .int .i64 y0, .int .i64 z0, .int .i64 u0, .slice B0 n0 d0, .int .i64 x1, .int .i64 y1, .int .i64 z1, .int .i64 u1, .slice B1 n1 d1, .int .i64 x2, .int .i64 y2, .int .i64 z2, .int .i64 u2, .slice B2 n2 d2, .int .i64 pr, .bool fr]] w fun e w' => e = .returned (.bool true) ∧ Below w.heap.size w w' := by
  have ha := Lib.hid ((Blk.new w 35 #[.int .i64 x0, .int .i64 y0, .int .i64 z0, .int .i64 u0, .slice A0 n0 c0, .int .i64 x1, .int .i64 y1, .int .i64 z1, .int .i64 u1, .slice A1 n1 c1, .int .i64 x2, .int .i64 y2, .int .i64 z2, .int .i64 u2, .slice A2 n2 c2, .int .i64 pr, .bool fr]).alloc (.cells #[.int .i64 x0, .int .i64 y0, .int .i64 z0, .int .i64 u0, .slice B0 n0 d0, .int .i64 x1, .int .i64 y1, .int .i64 z1, .int .i64 u1, .slice B1 n1 d1, .int .i64 x2, .int .i64 y2, .int .i64 z2, .int .i64 u2, .slice B2 n2 d2, .int .i64 pr, .bool fr] 35))
  have hb := Lib.hid (Blk.new1 w 35 #[.int .i64 x0, .int .i64 y0, .int .i64 z0, .int .i64 u0, .slice B0 n0 d0, .int .i64 x1, .int .i64 y1, .int .i64 z1, .int .i64 u1, .slice B1 n1 d1, .int .i64 x2, .int .i64 y2, .int .i64 z2, .int .i64 u2, .slice B2 n2 d2, .int .i64 pr, .bool fr] (.cells #[.int .i64 x0, .int .i64 y0, .int .i64 z0, .int .i64 u0, .slice A0 n0 c0, .int .i64 x1, .int .i64 y1, .int .i64 z1, .int .i64 u1, .slice A1 n1 c1, .int .i64 x2, .int .i64 y2, .int .i64 z2, .int .i64 u2, .slice A2 n2 c2, .int .i64 pr, .bool fr] 35))
  have hB : Hid (Below w.heap.size w ((w.alloc (.cells #[.int .i64 x0, .int .i64 y0, .int .i64 z0, .int .i64 u0, .slice A0 n0 c0, .int .i64 x1, .int .i64 y1, .int .i64 z1, .int .i64 u1, .slice A1 n1 c1, .int .i64 x2, .int .i64 y2, .int .i64 z2, .int .i64 u2, .slice A2 n2 c2, .int .i64 pr, .bool fr] 35)).alloc (.cells #[.int .i64 x0, .int .i64 y0, .int .i64 z0, .int .i64 u0, .slice B0 n0 d0, .int .i64 x1, .int .i64 y1, .int .i64 z1, .int .i64 u1, .slice B1 n1 d1, .int .i64 x2, .int .i64 y2, .int .i64 z2, .int .i64 u2, .slice B2 n2 d2, .int .i64 pr, .bool fr] 35))) := Lib.hid (by go_grown)
  replace k0 := Lib.hid (k0.call hB.out)
  replace l0 := Lib.hid (l0.call hB.out)
  replace k1 := Lib.hid (k1.call hB.out)
  replace l1 := Lib.hid (l1.call hB.out)
  replace k2 := Lib.hid (k2.call hB.out)
  replace l2 := Lib.hid (l2.call hB.out)
  have hS := Lib.hid (sameVertices_sl x0 y0 z0 u0 x1 y1 z1 u1 x2 y2 z2 u2 n0 n1 n2 h0 h1 h2 f0 f1 f2 A0 A1 A2 B0 B1 B2 c0 c1 c2 d0 d1 d2 _ k0.out k1.out k2.out l0.out l1.out l2.out)
  clear k0 k1 k2 l0 l1 l2
  go_enter Try.func20, Try.ntmps20
  go_wp2_with (first | refine wpList_load_sub rfl 25 _ rfl _ 0 rfl _ _ #[.int .i64 x0, .int .i64 y0, .int .i64 z0, .int .i64 u0, .slice A0 n0 c0, .int .i64 x1, .int .i64 y1, .int .i64 z1, .int .i64 u1, .slice A1 n1 c1, .int .i64 x2, .int .i64 y2, .int .i64 z2, .int .i64 u2, .slice A2 n2 c2] _ _ ha.out rfl Try.underlying25 rfl t3Info ?_ | refine wpList_load_sub rfl 25 _ rfl _ 0 rfl _ _ #[.int .i64 x0, .int .i64 y0, .int .i64 z0, .int .i64 u0, .slice B0 n0 d0, .int .i64 x1, .int .i64 y1, .int .i64 z1, .int .i64 u1, .slice B1 n1 d1, .int .i64 x2, .int .i64 y2, .int .i64 z2, .int .i64 u2, .slice B2 n2 d2] _ _ hb.out rfl Try.underlying25 rfl t3Info ?_)
  refine hS.out.mono ?_
  rintro e W ⟨rfl, hb2⟩
  have ca := (ha.out.call hb2).cell
  have cb := (hb.out.call hb2).cell
  replace hB := Lib.hid (below_on hB.out hb2)
  clear hb2 ha hb hS
  go_wp2
  go_ret
  exact ⟨rfl, hB.out⟩
end Go.Proofs.Ytboffbajmlkhiaa
