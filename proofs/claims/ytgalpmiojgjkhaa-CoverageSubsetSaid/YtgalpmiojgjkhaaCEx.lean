/- The example of chapter 35 holds, in any world. -/
import Derived.Test.YtgalpmiojgjkhaaMask
namespace Go.Proofs.Ytgalpmiojgjkhaa
open Go.RowKit
attribute [local go_sem] Ext.cell
set_option maxHeartbeats 4000000 in
theorem triangle_any (ax ay bx by' cx cy : Int) (w : World) :
    Calls Try.prog 29 #[.int .i64 ax, .int .i64 ay, .int .i64 bx, .int .i64 by', .int .i64 cx, .int .i64 cy] w fun e w' => e = .returned (.agg #[.int .i64 ax, .int .i64 ay, .int .i64 0, .int .i64 0, .slice none 0 0, .int .i64 bx, .int .i64 by', .int .i64 0, .int .i64 0, .slice none 0 0, .int .i64 cx, .int .i64 cy, .int .i64 0, .int .i64 0, .slice none 0 0, .int .i64 0, .bool false]) ∧ Below w.heap.size w w' := by
  go_enter Try.func29, Try.ntmps29
  go_wp2_with (refine wpList_store_row rfl 27 _ _ rfl w.heap.size #[.int .i64 ax, .int .i64 ay, .int .i64 0, .int .i64 0, .slice none 0 0, .int .i64 bx, .int .i64 by', .int .i64 0, .int .i64 0, .slice none 0 0, .int .i64 cx, .int .i64 cy, .int .i64 0, .int .i64 0, .slice none 0 0, .int .i64 0, .bool false] rfl rfl 27 _ (Blk.new w _ _) triInfo rfl (by kernel_rfl) ?_)
  refine bodyPost_ret (results_cell_row rfl _ _ w.heap.size _ #[.int .i64 ax, .int .i64 ay, .int .i64 0, .int .i64 0, .slice none 0 0, .int .i64 bx, .int .i64 by', .int .i64 0, .int .i64 0, .slice none 0 0, .int .i64 cx, .int .i64 cy, .int .i64 0, .int .i64 0, .slice none 0 0, .int .i64 0, .bool false] _ _ rfl (Blk.setRow (Blk.new w _ _) _) Try.underlying27 rfl triInfo) rfl ?_
  exact ⟨rfl, below_setRow (by go_grown) (Nat.le_refl _) _⟩
/-- Is it an allowed number of samples? -/
def vsB (n : Int) : Bool := n == 1 || n == 2 || n == 4 || n == 8
theorem validSamples_any (n : Int) (w : World) :
    Calls Try.prog 18 #[.int .i64 n] w fun e w' => e = .returned (.bool (vsB n)) ∧ w = w' := by
  have hV : vsB n = ((n == 1) || (n == 2) || (n == 4) || (n == 8)) := rfl
  obtain ⟨b1, e1⟩ : ∃ b, (n == 1) = b := ⟨_, rfl⟩
  obtain ⟨b2, e2⟩ : ∃ b, (n == 2) = b := ⟨_, rfl⟩
  obtain ⟨b4, e4⟩ : ∃ b, (n == 4) = b := ⟨_, rfl⟩
  obtain ⟨b8, e8⟩ : ∃ b, (n == 8) = b := ⟨_, rfl⟩
  rw [e1, e2, e4, e8] at hV
  replace hV := Lib.hid hV
  cases b1 <;> cases b2 <;> cases b4 <;> cases b8
  all_goals
    go_enter Try.func18, Try.ntmps18
    go_wp2
    go_ret
    exact ⟨ret_bool (by simpa using hV.out.symm), rfl⟩
def fullI (n : Int) : Int := if vsB n = true then 2 ^ n.toNat - 1 else 0
theorem full_any (n : Int) (w : World) :
    Calls Try.prog 22 #[.int .i64 n] w fun e w' => e = .returned (.int .i64 (fullI n)) ∧ w = w' := by
  cases h : vsB n
  · have hf : fullI n = 0 := by unfold fullI; rw [h]; rfl
    have H := Lib.hid h
    clear h
    go_enter Try.func22, Try.ntmps22
    go_wp2_with fail
    refine (validSamples_any _ _).mono ?_
    rintro e w1 ⟨rfl, rfl⟩
    rw [H.out]
    go_wp2
    go_ret
    exact ⟨ret_int hf.symm, rfl⟩
  · have h4 : n = 1 ∨ n = 2 ∨ n = 4 ∨ n = 8 := by unfold vsB at h; simpa [or_assoc] using h
    rcases h4 with rfl | rfl | rfl | rfl
    all_goals
      clear h
      go_enter Try.func22, Try.ntmps22
      go_wp2_with fail
      refine (validSamples_any _ _).mono ?_
      rintro e w1 ⟨rfl, rfl⟩
      rw [show vsB _ = true from rfl]
      go_wp2
      go_ret
      exact ⟨rfl, rfl⟩
set_option maxHeartbeats 8000000 in
theorem example_true (w : World) :
    Calls Try.prog 11 #[] w fun e w' => e = .returned (.bool true) ∧ Below w.heap.size w w' := by
  go_enter Try.func11, Try.ntmps11
  go_wp2_with fail
  refine (triangle_any _ _ _ _ _ _ _).mono ?_
  rintro e w1 ⟨rfl, hb⟩
  have hB := Lib.hid hb
  clear hb
  have hg0 := Lib.hid (Blk.new w1 27 #[.int .i64 0, .int .i64 0, .int .i64 0, .int .i64 0, .slice none 0 0, .int .i64 512, .int .i64 0, .int .i64 0, .int .i64 0, .slice none 0 0, .int .i64 0, .int .i64 512, .int .i64 0, .int .i64 0, .slice none 0 0, .int .i64 0, .bool false])
  replace hB : Hid (Below w.heap.size w (w1.alloc (.cells #[.int .i64 0, .int .i64 0, .int .i64 0, .int .i64 0, .slice none 0 0, .int .i64 512, .int .i64 0, .int .i64 0, .int .i64 0, .slice none 0 0, .int .i64 0, .int .i64 512, .int .i64 0, .int .i64 0, .slice none 0 0, .int .i64 0, .bool false] 27))) := Lib.hid (hB.out.alloc hB.out.size _)
  go_wp2_with (refine wpList_load_row rfl 27 _ rfl _ rfl _ _ _ _ hg0.out Try.underlying27 rfl triInfo ?_)
  refine (mask_at _ _ _ _ _ _ _ _ _ _ _ _ _ _ _ _ _ _ _ _ _ _ _ _ _ _ _ 1 (by decide +kernel)).mono ?_
  rintro e w2 ⟨rfl, hb⟩
  replace hg0 := Lib.hid (hg0.out.call hb)
  replace hB := Lib.hid (below_on hB.out hb)
  clear hb
  go_wp2_with (refine wpList_load_rowG rfl 27 _ rfl _ rfl _ _ _ _ hg0.out Try.underlying27 rfl triInfo ?_)
  refine (mask_at _ _ _ _ _ _ _ _ _ _ _ _ _ _ _ _ _ _ _ _ _ _ _ _ _ _ _ 0 (by decide +kernel)).mono ?_
  rintro e w3 ⟨rfl, hb⟩
  replace hB := Lib.hid (below_on hB.out hb)
  clear hb
  go_wp2_with fail
  refine (full_any _ _).mono ?_
  rintro e w4 ⟨rfl, rfl⟩
  rw [show fullI 4 = 15 by decide]
  go_wp2
  go_ret
  exact ⟨rfl, hB.out⟩
end Go.Proofs.Ytgalpmiojgjkhaa
