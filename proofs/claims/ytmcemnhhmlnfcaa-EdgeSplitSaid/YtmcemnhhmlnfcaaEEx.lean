/- The example of the law's file returns true, in any world. -/
import Derived.Test.YtmcemnhhmlnfcaaETri
import Derived.Test.YtmcemnhhmlnfcaaEq3
import Derived.Test.YtmcemnhhmlnfcaaWeights
import Derived.Test.YtmcemnhhmlnfcaaCovers
namespace Go.Proofs.Ytmcemnhhmlnfcaa
open Go.RowKit
theorem topLeft_at (ax ay bx by' : Int) (w : World) (v : Bool) (h : tlB ax ay bx by' = v) :
    Calls Try.prog 14 #[.int .i64 ax, .int .i64 ay, .int .i64 bx, .int .i64 by'] w fun e w' => e = .returned (.bool v) ∧ w = w' := h ▸ topLeft_any _ _ _ _ _
theorem covers_any (x0 y0 z0 u0 x1 y1 z1 u1 x2 y2 z2 u2 : Int) (A0 A1 A2 : Option Addr) (n0 c0 n1 c1 n2 c2 : Nat) (pr : Int) (fr : Bool) (px py : Int) (w : World) :
    Calls Try.prog 21 #[.agg #[.int .i64 x0, .int .i64 y0, .int .i64 z0, .int .i64 u0, .slice A0 n0 c0, .int .i64 x1, .int .i64 y1, .int .i64 z1, .int .i64 u1, .slice A1 n1 c1, .int .i64 x2, .int .i64 y2, .int .i64 z2, .int .i64 u2, .slice A2 n2 c2, .int .i64 pr, .bool fr], .int .i64 px, .int .i64 py] w fun e w' => e = .returned (.bool (covB x0 y0 x1 y1 x2 y2 px py)) ∧ Below w.heap.size w w' := by
  cases h : validB x0 y0 x1 y1 x2 y2
  · exact covers_no _ _ _ _ _ _ _ _ _ _ _ _ _ _ _ _ _ _ _ _ _ _ _ _ _ _ h
  · have e : covB x0 y0 x1 y1 x2 y2 px py = (accB x0 y0 x1 y1 px py && accB x1 y1 x2 y2 px py && accB x2 y2 x0 y0 px py) := by unfold covB; rw [h]; rfl
    rw [e]
    exact covers_yes _ _ _ _ _ _ _ _ _ _ _ _ _ _ _ _ _ _ _ _ _ _ _ _ _ _ h _ _ _ rfl rfl rfl
theorem covers_at (x0 y0 z0 u0 x1 y1 z1 u1 x2 y2 z2 u2 : Int) (A0 A1 A2 : Option Addr) (n0 c0 n1 c1 n2 c2 : Nat) (pr : Int) (fr : Bool) (px py : Int) (w : World) (v : Bool) (h : covB x0 y0 x1 y1 x2 y2 px py = v) :
    Calls Try.prog 21 #[.agg #[.int .i64 x0, .int .i64 y0, .int .i64 z0, .int .i64 u0, .slice A0 n0 c0, .int .i64 x1, .int .i64 y1, .int .i64 z1, .int .i64 u1, .slice A1 n1 c1, .int .i64 x2, .int .i64 y2, .int .i64 z2, .int .i64 u2, .slice A2 n2 c2, .int .i64 pr, .bool fr], .int .i64 px, .int .i64 py] w fun e w' => e = .returned (.bool v) ∧ Below w.heap.size w w' := h ▸ covers_any _ _ _ _ _ _ _ _ _ _ _ _ _ _ _ _ _ _ _ _ _ _ _ _ _ _
/-- The example's triangle. -/
def exT : Array Value := #[.int .i64 0, .int .i64 0, .int .i64 0, .int .i64 0, .slice none 0 0, .int .i64 256, .int .i64 0, .int .i64 0, .int .i64 0, .slice none 0 0, .int .i64 0, .int .i64 256, .int .i64 0, .int .i64 0, .slice none 0 0, .int .i64 0, .bool false]
set_option maxHeartbeats 8000000 in
theorem example_true (w : World) :
    Calls Try.prog 13 #[] w fun e w' => e = .returned (.bool true) ∧ Below w.heap.size w w' := by
  go_enter Try.func13, Try.ntmps13
  go_wp2_with fail
  refine (triangle_any _ _ _ _ _ _ _).mono ?_
  rintro e w1 ⟨rfl, hb⟩
  have hB1 := Lib.hid hb
  clear hb
  have hg0 := Lib.hid (Blk.new w1 34 exT)
  go_wp2_with (refine wpList_load_row rfl 34 _ rfl _ rfl _ _ _ _ hg0.out Try.underlying34 rfl triInfo ?_)
  refine (weights_yes _ _ _ _ _ _ _ _ _ _ _ _ _ _ _ _ _ _ _ _ _ _ _ _ _ _ (by decide +kernel) 65536 0 0 (by decide +kernel) (by decide +kernel) (by decide +kernel)).mono ?_
  rintro e w2 ⟨rfl, hb⟩
  have hg1 := Lib.hid ((hg0.out.call hb).alloc (.cells #[.int .i64 65536, .int .i64 0, .int .i64 0] 35))
  have hr1 := Lib.hid (Blk.new w2 35 #[.int .i64 65536, .int .i64 0, .int .i64 0])
  have hB2 : Hid (Below w.heap.size w (w2.alloc (.cells #[.int .i64 65536, .int .i64 0, .int .i64 0] 35))) := Lib.hid (by have h1 := hB1.out; have hq := h1.size; have := (h1.alloc hq (.cells exT 34)).trans (hb.mono (by simp; omega)); exact this.alloc (by have := this.size; omega) _)
  clear hb hg0
  have hc1 := hr1.out.cell
  go_wp2_with fail
  refine (topLeft_at _ _ _ _ _ _ (show _ = true by decide)).mono ?_
  rintro e w3 ⟨rfl, rfl⟩
  go_wp2_with fail
  refine (accepts_at _ _ _ _ _ _ _ _ (show _ = true by decide +kernel)).mono ?_
  rintro e w3 ⟨rfl, rfl⟩
  go_wp2_with (refine wpList_load_rowG rfl 34 _ rfl _ rfl _ _ _ _ hg1.out Try.underlying34 rfl triInfo ?_)
  refine (valid_at _ _ _ _ _ _ _ _ _ _ _ _ _ _ _ _ _ _ _ _ _ _ _ _ _ (show _ = true by decide +kernel)).mono ?_
  rintro e w3 ⟨rfl, hb⟩
  have hg2 := Lib.hid (hg1.out.call hb)
  have hr2 := Lib.hid (hr1.out.call hb)
  have hB3 := Lib.hid (hB2.out.trans (hb.mono (by have := hB2.out.size; omega)))
  clear hb
  go_wp2_with (refine wpList_load_rowG rfl 34 _ rfl _ rfl _ _ _ _ hg2.out Try.underlying34 rfl triInfo ?_)
  refine (covers_at _ _ _ _ _ _ _ _ _ _ _ _ _ _ _ _ _ _ _ _ _ _ _ _ _ _ _ (show _ = true by decide +kernel)).mono ?_
  rintro e w4 ⟨rfl, hb⟩
  have hr3 := Lib.hid (hr2.out.call hb)
  have hB4 := Lib.hid (hB3.out.trans (hb.mono (by have := hB3.out.size; omega)))
  clear hb
  have hc3 := hr3.out.cell
  go_wp2_with (refine wpList_load_rowG rfl 35 _ rfl _ rfl _ _ _ _ hr3.out Try.underlying35 rfl i3Info ?_)
  go_ret
  exact ⟨rfl, hB4.out⟩
end Go.Proofs.Ytmcemnhhmlnfcaa
