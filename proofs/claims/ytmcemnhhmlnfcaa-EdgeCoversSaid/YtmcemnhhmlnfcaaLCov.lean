/- EdgeCovers returns true for every triangle and point. -/
import Derived.Test.YtmcemnhhmlnfcaaLRot
import Derived.Test.YtmcemnhhmlnfcaaRBounds
import Derived.Test.YtmcemnhhmlnfcaaRWeights
import Derived.Test.YtmcemnhhmlnfcaaRCovers
namespace Go.Proofs.Ytmcemnhhmlnfcaa
open Go.RowKit
attribute [local go_sem] Ext.cell
theorem rBounds_tup (x0 y0 z0 u0 x1 y1 z1 u1 x2 y2 z2 u2 : Int) (A0 A1 A2 : Option Addr) (n0 c0 n1 c1 n2 c2 : Nat) (pr : Int) (fr : Bool) (w : World) (a b c d : Int) (h : bdV x0 y0 x1 y1 x2 y2 = .tuple #[.int .i64 a, .int .i64 b, .int .i64 c, .int .i64 d]) :
    Calls Try.prog 24 #[.agg #[.int .i64 x0, .int .i64 y0, .int .i64 z0, .int .i64 u0, .slice A0 n0 c0, .int .i64 x1, .int .i64 y1, .int .i64 z1, .int .i64 u1, .slice A1 n1 c1, .int .i64 x2, .int .i64 y2, .int .i64 z2, .int .i64 u2, .slice A2 n2 c2, .int .i64 pr, .bool fr]] w fun e w' => e = .returned (.tuple #[.int .i64 a, .int .i64 b, .int .i64 c, .int .i64 d]) ∧ Below w.heap.size w w' := by
  rw [← h]
  unfold bdV
  split
  · rename_i hv; exact rBounds_yes _ _ _ _ _ _ _ _ _ _ _ _ _ _ _ _ _ _ _ _ _ _ _ _ hv
  · rename_i hv; exact rBounds_no _ _ _ _ _ _ _ _ _ _ _ _ _ _ _ _ _ _ _ _ _ _ _ _ (by simpa using hv)
theorem rWeights_tup (x0 y0 z0 u0 x1 y1 z1 u1 x2 y2 z2 u2 : Int) (A0 A1 A2 : Option Addr) (n0 c0 n1 c1 n2 c2 : Nat) (pr : Int) (fr : Bool) (px py : Int) (w : World) (v0 v1 v2 s : Int) (h : wtV x0 y0 x1 y1 x2 y2 px py = .tuple #[.agg #[.int .i64 v0, .int .i64 v1, .int .i64 v2], .int .i64 s]) :
    Calls Try.prog 22 #[.agg #[.int .i64 x0, .int .i64 y0, .int .i64 z0, .int .i64 u0, .slice A0 n0 c0, .int .i64 x1, .int .i64 y1, .int .i64 z1, .int .i64 u1, .slice A1 n1 c1, .int .i64 x2, .int .i64 y2, .int .i64 z2, .int .i64 u2, .slice A2 n2 c2, .int .i64 pr, .bool fr], .int .i64 px, .int .i64 py] w fun e w' => e = .returned (.tuple #[.agg #[.int .i64 v0, .int .i64 v1, .int .i64 v2], .int .i64 s]) ∧ Below w.heap.size w w' := h ▸ rWeights_any _ _ _ _ _ _ _ _ _ _ _ _ _ _ _ _ _ _ _ _ _ _ _ _ _ _
theorem bdV_tup (x0 y0 x1 y1 x2 y2 : Int) : ∃ a b c d, bdV x0 y0 x1 y1 x2 y2 = .tuple #[.int .i64 a, .int .i64 b, .int .i64 c, .int .i64 d] := by unfold bdV; split; exact ⟨_, _, _, _, rfl⟩; exact ⟨_, _, _, _, rfl⟩
set_option maxRecDepth 100000 in
set_option maxHeartbeats 8000000 in
theorem law_edgeCovers (x0 y0 z0 u0 x1 y1 z1 u1 x2 y2 z2 u2 : Int) (A0 A1 A2 : Option Addr) (n0 c0 n1 c1 n2 c2 : Nat) (pr : Int) (fr : Bool) (p0 p1 : Int) (w : World) :
    Calls Try.prog 8 #[.agg #[.int .i64 x0, .int .i64 y0, .int .i64 z0, .int .i64 u0, .slice A0 n0 c0, .int .i64 x1, .int .i64 y1, .int .i64 z1, .int .i64 u1, .slice A1 n1 c1, .int .i64 x2, .int .i64 y2, .int .i64 z2, .int .i64 u2, .slice A2 n2 c2, .int .i64 pr, .bool fr], .agg #[.int .i64 p0, .int .i64 p1]] w fun e w' => e = .returned (.bool true) ∧ Below w.heap.size w w' := by
  obtain ⟨v0, v1, v2, s, hp⟩ : ∃ v0 v1 v2 s, wtV x0 y0 x1 y1 x2 y2 p0 p1 = .tuple #[.agg #[.int .i64 v0, .int .i64 v1, .int .i64 v2], .int .i64 s] := ⟨_, _, _, _, rfl⟩
  obtain ⟨a, b, c, d, hb1⟩ := bdV_tup x0 y0 x1 y1 x2 y2
  obtain ⟨v, hv⟩ : ∃ v, validB x0 y0 x1 y1 x2 y2 = v := ⟨_, rfl⟩
  obtain ⟨cv, hc⟩ : ∃ v, covB x0 y0 x1 y1 x2 y2 p0 p1 = v := ⟨_, rfl⟩
  replace hp := Lib.hid hp
  replace hb1 := Lib.hid hb1
  replace hv := Lib.hid hv
  replace hc := Lib.hid hc
  go_enter Try.func8, Try.ntmps8
  have kt := Lib.hid ((Blk.new w 34 #[.int .i64 x0, .int .i64 y0, .int .i64 z0, .int .i64 u0, .slice A0 n0 c0, .int .i64 x1, .int .i64 y1, .int .i64 z1, .int .i64 u1, .slice A1 n1 c1, .int .i64 x2, .int .i64 y2, .int .i64 z2, .int .i64 u2, .slice A2 n2 c2, .int .i64 pr, .bool fr]).alloc (.cells #[.int .i64 p0, .int .i64 p1] 22))
  have kp := Lib.hid (Blk.new1 w 22 #[.int .i64 p0, .int .i64 p1] (.cells #[.int .i64 x0, .int .i64 y0, .int .i64 z0, .int .i64 u0, .slice A0 n0 c0, .int .i64 x1, .int .i64 y1, .int .i64 z1, .int .i64 u1, .slice A1 n1 c1, .int .i64 x2, .int .i64 y2, .int .i64 z2, .int .i64 u2, .slice A2 n2 c2, .int .i64 pr, .bool fr] 34))
  have hB : Hid (Below w.heap.size w ((w.alloc (.cells #[.int .i64 x0, .int .i64 y0, .int .i64 z0, .int .i64 u0, .slice A0 n0 c0, .int .i64 x1, .int .i64 y1, .int .i64 z1, .int .i64 u1, .slice A1 n1 c1, .int .i64 x2, .int .i64 y2, .int .i64 z2, .int .i64 u2, .slice A2 n2 c2, .int .i64 pr, .bool fr] 34)).alloc (.cells #[.int .i64 p0, .int .i64 p1] 22))) := Lib.hid (by go_grown)
  have ckt := kt.out.cell
  have lkt := kt.out.lt
  have ckp := kp.out.cell
  have lkp := kp.out.lt
  go_wp2_with (first | refine wpList_load_row rfl 34 _ rfl _ rfl _ _ _ _ kt.out Try.underlying34 rfl triInfo ?_ | refine wpList_load_rowG rfl 34 _ rfl _ rfl _ _ _ _ kt.out Try.underlying34 rfl triInfo ?_)
  clear ckt lkt ckp lkp
  refine (weights_tup _ _ _ _ _ _ _ _ _ _ _ _ _ _ _ _ _ _ _ _ _ _ _ _ _ _ _ _ _ _ hp.out).mono ?_
  rintro e W1 ⟨rfl, hb⟩
  replace kt := Lib.hid (kt.out.call hb)
  replace kp := Lib.hid (kp.out.call hb)
  replace hB := Lib.hid (below_on hB.out hb)
  clear hb
  replace kt := Lib.hid (kt.out.alloc (.cells #[.int .i64 v0, .int .i64 v1, .int .i64 v2] 35))
  replace kp := Lib.hid (kp.out.alloc (.cells #[.int .i64 v0, .int .i64 v1, .int .i64 v2] 35))
  have kv := Lib.hid (Blk.new W1 35 #[.int .i64 v0, .int .i64 v1, .int .i64 v2])
  replace hB : Hid (Below w.heap.size w (W1.alloc (.cells #[.int .i64 v0, .int .i64 v1, .int .i64 v2] 35))) := Lib.hid (hB.out.alloc hB.out.size (.cells #[.int .i64 v0, .int .i64 v1, .int .i64 v2] 35))
  have ckt := kt.out.cell
  have lkt := kt.out.lt
  have ckp := kp.out.cell
  have lkp := kp.out.lt
  have ckv := kv.out.cell
  have lkv := kv.out.lt
  go_wp2_with (first | refine wpList_load_row rfl 34 _ rfl _ rfl _ _ _ _ kt.out Try.underlying34 rfl triInfo ?_ | refine wpList_load_rowG rfl 34 _ rfl _ rfl _ _ _ _ kt.out Try.underlying34 rfl triInfo ?_ | refine wpList_load_row rfl 35 _ rfl _ rfl _ _ _ _ kv.out Try.underlying35 rfl i3Info ?_ | refine wpList_load_rowG rfl 35 _ rfl _ rfl _ _ _ _ kv.out Try.underlying35 rfl i3Info ?_)
  clear ckt lkt ckp lkp ckv lkv
  refine (rWeights_tup _ _ _ _ _ _ _ _ _ _ _ _ _ _ _ _ _ _ _ _ _ _ _ _ _ _ _ _ _ _ hp.out).mono ?_
  rintro e W2 ⟨rfl, hb⟩
  replace kt := Lib.hid (kt.out.call hb)
  replace kp := Lib.hid (kp.out.call hb)
  replace kv := Lib.hid (kv.out.call hb)
  replace hB := Lib.hid (below_on hB.out hb)
  clear hb
  replace kt := Lib.hid (kt.out.alloc (.cells #[.int .i64 v0, .int .i64 v1, .int .i64 v2] 35))
  replace kp := Lib.hid (kp.out.alloc (.cells #[.int .i64 v0, .int .i64 v1, .int .i64 v2] 35))
  replace kv := Lib.hid (kv.out.alloc (.cells #[.int .i64 v0, .int .i64 v1, .int .i64 v2] 35))
  have kw := Lib.hid (Blk.new W2 35 #[.int .i64 v0, .int .i64 v1, .int .i64 v2])
  replace hB : Hid (Below w.heap.size w (W2.alloc (.cells #[.int .i64 v0, .int .i64 v1, .int .i64 v2] 35))) := Lib.hid (hB.out.alloc hB.out.size (.cells #[.int .i64 v0, .int .i64 v1, .int .i64 v2] 35))
  have ckt := kt.out.cell
  have lkt := kt.out.lt
  have ckp := kp.out.cell
  have lkp := kp.out.lt
  have ckv := kv.out.cell
  have lkv := kv.out.lt
  have ckw := kw.out.cell
  have lkw := kw.out.lt
  go_wp2_with (first | refine wpList_load_row rfl 34 _ rfl _ rfl _ _ _ _ kt.out Try.underlying34 rfl triInfo ?_ | refine wpList_load_rowG rfl 34 _ rfl _ rfl _ _ _ _ kt.out Try.underlying34 rfl triInfo ?_ | refine wpList_load_row rfl 35 _ rfl _ rfl _ _ _ _ kv.out Try.underlying35 rfl i3Info ?_ | refine wpList_load_rowG rfl 35 _ rfl _ rfl _ _ _ _ kv.out Try.underlying35 rfl i3Info ?_ | refine wpList_load_row rfl 35 _ rfl _ rfl _ _ _ _ kw.out Try.underlying35 rfl i3Info ?_ | refine wpList_load_rowG rfl 35 _ rfl _ rfl _ _ _ _ kw.out Try.underlying35 rfl i3Info ?_)
  clear ckt lkt ckp lkp ckv lkv ckw lkw
  refine (bounds_tup _ _ _ _ _ _ _ _ _ _ _ _ _ _ _ _ _ _ _ _ _ _ _ _ _ _ _ _ hb1.out).mono ?_
  rintro e W3 ⟨rfl, hb⟩
  replace kt := Lib.hid (kt.out.call hb)
  replace kp := Lib.hid (kp.out.call hb)
  replace kv := Lib.hid (kv.out.call hb)
  replace kw := Lib.hid (kw.out.call hb)
  replace hB := Lib.hid (below_on hB.out hb)
  clear hb
  have ckt := kt.out.cell
  have lkt := kt.out.lt
  have ckp := kp.out.cell
  have lkp := kp.out.lt
  have ckv := kv.out.cell
  have lkv := kv.out.lt
  have ckw := kw.out.cell
  have lkw := kw.out.lt
  go_wp2_with (first | refine wpList_load_row rfl 34 _ rfl _ rfl _ _ _ _ kt.out Try.underlying34 rfl triInfo ?_ | refine wpList_load_rowG rfl 34 _ rfl _ rfl _ _ _ _ kt.out Try.underlying34 rfl triInfo ?_ | refine wpList_load_row rfl 35 _ rfl _ rfl _ _ _ _ kv.out Try.underlying35 rfl i3Info ?_ | refine wpList_load_rowG rfl 35 _ rfl _ rfl _ _ _ _ kv.out Try.underlying35 rfl i3Info ?_ | refine wpList_load_row rfl 35 _ rfl _ rfl _ _ _ _ kw.out Try.underlying35 rfl i3Info ?_ | refine wpList_load_rowG rfl 35 _ rfl _ rfl _ _ _ _ kw.out Try.underlying35 rfl i3Info ?_)
  clear ckt lkt ckp lkp ckv lkv ckw lkw
  refine (rBounds_tup _ _ _ _ _ _ _ _ _ _ _ _ _ _ _ _ _ _ _ _ _ _ _ _ _ _ _ _ hb1.out).mono ?_
  rintro e W4 ⟨rfl, hb⟩
  replace kt := Lib.hid (kt.out.call hb)
  replace kp := Lib.hid (kp.out.call hb)
  replace kv := Lib.hid (kv.out.call hb)
  replace kw := Lib.hid (kw.out.call hb)
  replace hB := Lib.hid (below_on hB.out hb)
  clear hb
  have ckt := kt.out.cell
  have lkt := kt.out.lt
  have ckp := kp.out.cell
  have lkp := kp.out.lt
  have ckv := kv.out.cell
  have lkv := kv.out.lt
  have ckw := kw.out.cell
  have lkw := kw.out.lt
  go_wp2_with (first | refine wpList_load_row rfl 34 _ rfl _ rfl _ _ _ _ kt.out Try.underlying34 rfl triInfo ?_ | refine wpList_load_rowG rfl 34 _ rfl _ rfl _ _ _ _ kt.out Try.underlying34 rfl triInfo ?_ | refine wpList_load_row rfl 35 _ rfl _ rfl _ _ _ _ kv.out Try.underlying35 rfl i3Info ?_ | refine wpList_load_rowG rfl 35 _ rfl _ rfl _ _ _ _ kv.out Try.underlying35 rfl i3Info ?_ | refine wpList_load_row rfl 35 _ rfl _ rfl _ _ _ _ kw.out Try.underlying35 rfl i3Info ?_ | refine wpList_load_rowG rfl 35 _ rfl _ rfl _ _ _ _ kw.out Try.underlying35 rfl i3Info ?_)
  refine wp_region_ext (W4.heap.size) (by kernel_rfl) (by kernel_rfl) ?_
  repeat (first | (go_big_quiet_want; refine quiet_load_row 34 _ rfl _ rfl _ _ _ kt.out (by assumption) Try.underlying34 rfl triInfo ?_; simp only [Act.put, List.setIfInBounds_toArray, List.set_cons_zero, List.set_cons_succ]; go_big_quiet_on) | (go_big_quiet_want; refine quiet_load_row 35 _ rfl _ rfl _ _ _ kv.out (by assumption) Try.underlying35 rfl i3Info ?_; simp only [Act.put, List.setIfInBounds_toArray, List.set_cons_zero, List.set_cons_succ]; go_big_quiet_on) | (go_big_quiet_want; refine quiet_load_row 35 _ rfl _ rfl _ _ _ kw.out (by assumption) Try.underlying35 rfl i3Info ?_; simp only [Act.put, List.setIfInBounds_toArray, List.set_cons_zero, List.set_cons_succ]; go_big_quiet_on) | go_big_quiet_step (first | (go_at_call 19; exact ext_call (Nat.le_refl _) (valid_at _ _ _ _ _ _ _ _ _ _ _ _ _ _ _ _ _ _ _ _ _ _ _ _ _ hv.out)) | (go_at_call 25; exact ext_call (Nat.le_refl _) (rValid_at _ _ _ _ _ _ _ _ _ _ _ _ _ _ _ _ _ _ _ _ _ _ _ _ _ hv.out)) | (go_at_call 21; exact ext_call (Nat.le_refl _) (covers_at _ _ _ _ _ _ _ _ _ _ _ _ _ _ _ _ _ _ _ _ _ _ _ _ _ _ _ hc.out)) | (go_at_call 26; exact ext_call (Nat.le_refl _) (rCovers_at _ _ _ _ _ _ _ _ _ _ _ _ _ _ _ _ _ _ _ _ _ _ _ _ _ _ _ hc.out)) | (go_at_call 13; exact ext_call (Nat.le_refl _) (example_true _))))
  refine wpQuiet_nil ?_
  intro W5 hwx
  obtain ⟨⟨W5, hb⟩, rfl⟩ := hwx
  clear ckt lkt ckp lkp ckv lkv ckw lkw
  replace kt := Lib.hid (kt.out.call hb)
  replace kp := Lib.hid (kp.out.call hb)
  replace kv := Lib.hid (kv.out.call hb)
  replace kw := Lib.hid (kw.out.call hb)
  replace hB := Lib.hid (below_on hB.out hb)
  clear hb
  have ckt := kt.out.cell
  have lkt := kt.out.lt
  have ckp := kp.out.cell
  have lkp := kp.out.lt
  have ckv := kv.out.cell
  have lkv := kv.out.lt
  have ckw := kw.out.cell
  have lkw := kw.out.lt
  go_wp2_with (first | refine wpList_load_row rfl 34 _ rfl _ rfl _ _ _ _ kt.out Try.underlying34 rfl triInfo ?_ | refine wpList_load_rowG rfl 34 _ rfl _ rfl _ _ _ _ kt.out Try.underlying34 rfl triInfo ?_ | refine wpList_load_row rfl 35 _ rfl _ rfl _ _ _ _ kv.out Try.underlying35 rfl i3Info ?_ | refine wpList_load_rowG rfl 35 _ rfl _ rfl _ _ _ _ kv.out Try.underlying35 rfl i3Info ?_ | refine wpList_load_row rfl 35 _ rfl _ rfl _ _ _ _ kw.out Try.underlying35 rfl i3Info ?_ | refine wpList_load_rowG rfl 35 _ rfl _ rfl _ _ _ _ kw.out Try.underlying35 rfl i3Info ?_)
  go_ret
  exact ⟨rfl, hB.out⟩
end Go.Proofs.Ytmcemnhhmlnfcaa
