/- CoveragePositions returns true for all numbers. -/
import Derived.Test.YtgalpmiojgjkhaaCount
import Derived.Test.YtgalpmiojgjkhaaFullR
import Derived.Test.YtgalpmiojgjkhaaEq2
import Derived.Test.YtgalpmiojgjkhaaSamp
namespace Go.Proofs.Ytgalpmiojgjkhaa
open Go.RowKit
attribute [local go_sem] Ext.cell
theorem count_at (m : Int) (w : World) (v : Int) (h : cntI m = v) :
    Calls Try.prog 20 #[.int .i64 m] w fun e w' => e = .returned (.int .i64 v) ∧ w = w' := h ▸ count_any m w
theorem full_at (n : Int) (w : World) (v : Int) (h : fullI n = v) :
    Calls Try.prog 22 #[.int .i64 n] w fun e w' => e = .returned (.int .i64 v) ∧ w = w' := h ▸ full_any n w
theorem rFull_at (n : Int) (w : World) (v : Int) (h : fullI n = v) :
    Calls Try.prog 23 #[.int .i64 n] w fun e w' => e = .returned (.int .i64 v) ∧ Below w.heap.size w w' := h ▸ rFull_any n w
theorem vs_at (n : Int) (w : World) (v : Bool) (h : vsB n = v) :
    Calls Try.prog 18 #[.int .i64 n] w fun e w' => e = .returned (.bool v) ∧ w = w' := h ▸ validSamples_any n w
theorem rVs_at (n : Int) (w : World) (v : Bool) (h : vsB n = v) :
    Calls Try.prog 19 #[.int .i64 n] w fun e w' => e = .returned (.bool v) ∧ w = w' := h ▸ rValidSamples_any n w
set_option maxRecDepth 100000 in
set_option maxHeartbeats 8000000 in
theorem positions_1 (x y i : Int) (w : World) :
    Calls Try.prog 6 #[.int .i64 x, .int .i64 y, .int .i64 1, .int .i64 i] w fun e w' => e = .returned (.bool true) ∧ Below w.heap.size w w' := by
  obtain ⟨sx, hsx⟩ : ∃ a, spX x y 1 i = a := ⟨_, rfl⟩
  obtain ⟨sy, hsy⟩ : ∃ a, spY x y 1 i = a := ⟨_, rfl⟩
  obtain ⟨vs, hvs⟩ : ∃ a, vsB 1 = a := ⟨_, rfl⟩
  obtain ⟨ct, hct⟩ : ∃ a, cntI x = a := ⟨_, rfl⟩
  obtain ⟨fu, hfu⟩ : ∃ a, fullI 1 = a := ⟨_, rfl⟩
  replace hsx := Lib.hid hsx
  replace hsy := Lib.hid hsy
  replace hvs := Lib.hid hvs
  replace hct := Lib.hid hct
  replace hfu := Lib.hid hfu
  go_enter Try.func6, Try.ntmps6
  go_wp2_with fail
  refine (pos_1 _).mono ?_
  rintro e w1 ⟨rfl, rfl⟩
  go_wp2_with fail
  refine (rPos_1 _).mono ?_
  rintro e w1 ⟨rfl, rfl⟩
  have ka := Lib.hid ((Blk.new w 36 #[.int .i64 128, .int .i64 128]).alloc (.cells #[.int .i64 128, .int .i64 128] 36))
  have kb := Lib.hid (Blk.new1 w 36 #[.int .i64 128, .int .i64 128] (.cells #[.int .i64 128, .int .i64 128] 36))
  have hB : Hid (Below w.heap.size w ((w.alloc (.cells #[.int .i64 128, .int .i64 128] 36)).alloc (.cells #[.int .i64 128, .int .i64 128] 36))) := Lib.hid (by go_grown)
  have hz : (w.alloc (.cells #[.int .i64 128, .int .i64 128] 36)).heap.size = w.heap.size + 1 := World.size_alloc ..
  rw [hz]
  clear hz
  generalize (w.alloc (.cells #[.int .i64 128, .int .i64 128] 36)).alloc (.cells #[.int .i64 128, .int .i64 128] 36) = W1 at *
  go_wp2_with fail
  refine wp_loop_rounds 2 ?_
  rw [rounds_succ]
  go_wp2_with fail
  have cka := ka.out.cell
  have lka := ka.out.lt
  have ckb := kb.out.cell
  have lkb := kb.out.lt
  refine wp_region_ext (W1.heap.size) (by kernel_rfl) (by kernel_rfl) ?_
  repeat (go_big_quiet_step (first | fail))
  refine wpQuiet_nil ?_
  intro W2 hwx
  obtain ⟨⟨W2, hb⟩, rfl⟩ := hwx
  clear cka lka ckb lkb
  replace ka := Lib.hid (ka.out.call hb)
  replace kb := Lib.hid (kb.out.call hb)
  replace hB := Lib.hid (below_on hB.out hb)
  clear hb
  go_wp2_with fail
  rw [rounds_succ]
  clear ka kb
  go_wp2_with fail
  refine (sample_at _ _ _ _ _ _ _ hsx.out hsy.out).mono ?_
  rintro e W3 ⟨rfl, hb⟩
  replace hB := Lib.hid (below_on hB.out hb)
  clear hb
  go_wp2_with fail
  refine (rSample_at _ _ _ _ _ _ _ hsx.out hsy.out).mono ?_
  rintro e W4 ⟨rfl, hb⟩
  replace hB := Lib.hid (below_on hB.out hb)
  clear hb
  go_wp2_with fail
  refine (vs_at _ _ _ hvs.out).mono ?_
  rintro e xw ⟨rfl, rfl⟩
  go_wp2_with fail
  refine (rVs_at _ _ _ hvs.out).mono ?_
  rintro e xw ⟨rfl, rfl⟩
  go_wp2_with fail
  refine (count_at _ _ _ hct.out).mono ?_
  rintro e xw ⟨rfl, rfl⟩
  go_wp2_with fail
  refine (rCount_at _ _ _ hct.out).mono ?_
  rintro e W5 ⟨rfl, hb⟩
  replace hB := Lib.hid (below_on hB.out hb)
  clear hb
  go_wp2_with fail
  refine (full_at _ _ _ hfu.out).mono ?_
  rintro e xw ⟨rfl, rfl⟩
  go_wp2_with fail
  refine (rFull_at _ _ _ hfu.out).mono ?_
  rintro e W6 ⟨rfl, hb⟩
  replace hB := Lib.hid (below_on hB.out hb)
  clear hb
  go_wp2_with fail
  refine (example_true _).mono ?_
  rintro e W7 ⟨rfl, hb⟩
  replace hB := Lib.hid (below_on hB.out hb)
  clear hb
  go_wp2
  go_ret
  exact ⟨rfl, hB.out⟩
set_option maxRecDepth 100000 in
set_option maxHeartbeats 8000000 in
theorem positions_2 (x y i : Int) (w : World) :
    Calls Try.prog 6 #[.int .i64 x, .int .i64 y, .int .i64 2, .int .i64 i] w fun e w' => e = .returned (.bool true) ∧ Below w.heap.size w w' := by
  obtain ⟨sx, hsx⟩ : ∃ a, spX x y 2 i = a := ⟨_, rfl⟩
  obtain ⟨sy, hsy⟩ : ∃ a, spY x y 2 i = a := ⟨_, rfl⟩
  obtain ⟨vs, hvs⟩ : ∃ a, vsB 2 = a := ⟨_, rfl⟩
  obtain ⟨ct, hct⟩ : ∃ a, cntI x = a := ⟨_, rfl⟩
  obtain ⟨fu, hfu⟩ : ∃ a, fullI 2 = a := ⟨_, rfl⟩
  replace hsx := Lib.hid hsx
  replace hsy := Lib.hid hsy
  replace hvs := Lib.hid hvs
  replace hct := Lib.hid hct
  replace hfu := Lib.hid hfu
  go_enter Try.func6, Try.ntmps6
  go_wp2_with fail
  refine (pos_2 _).mono ?_
  rintro e w1 ⟨rfl, rfl⟩
  go_wp2_with fail
  refine (rPos_2 _).mono ?_
  rintro e w1 ⟨rfl, rfl⟩
  have ka := Lib.hid ((Blk.new w 36 #[.int .i64 192, .int .i64 192, .int .i64 64, .int .i64 64]).alloc (.cells #[.int .i64 192, .int .i64 192, .int .i64 64, .int .i64 64] 36))
  have kb := Lib.hid (Blk.new1 w 36 #[.int .i64 192, .int .i64 192, .int .i64 64, .int .i64 64] (.cells #[.int .i64 192, .int .i64 192, .int .i64 64, .int .i64 64] 36))
  have hB : Hid (Below w.heap.size w ((w.alloc (.cells #[.int .i64 192, .int .i64 192, .int .i64 64, .int .i64 64] 36)).alloc (.cells #[.int .i64 192, .int .i64 192, .int .i64 64, .int .i64 64] 36))) := Lib.hid (by go_grown)
  have hz : (w.alloc (.cells #[.int .i64 192, .int .i64 192, .int .i64 64, .int .i64 64] 36)).heap.size = w.heap.size + 1 := World.size_alloc ..
  rw [hz]
  clear hz
  generalize (w.alloc (.cells #[.int .i64 192, .int .i64 192, .int .i64 64, .int .i64 64] 36)).alloc (.cells #[.int .i64 192, .int .i64 192, .int .i64 64, .int .i64 64] 36) = W1 at *
  go_wp2_with fail
  refine wp_loop_rounds 3 ?_
  rw [rounds_succ]
  go_wp2_with fail
  have cka := ka.out.cell
  have lka := ka.out.lt
  have ckb := kb.out.cell
  have lkb := kb.out.lt
  refine wp_region_ext (W1.heap.size) (by kernel_rfl) (by kernel_rfl) ?_
  repeat (go_big_quiet_step (first | fail))
  refine wpQuiet_nil ?_
  intro W2 hwx
  obtain ⟨⟨W2, hb⟩, rfl⟩ := hwx
  clear cka lka ckb lkb
  replace ka := Lib.hid (ka.out.call hb)
  replace kb := Lib.hid (kb.out.call hb)
  replace hB := Lib.hid (below_on hB.out hb)
  clear hb
  go_wp2_with fail
  rw [rounds_succ]
  go_wp2_with fail
  have cka := ka.out.cell
  have lka := ka.out.lt
  have ckb := kb.out.cell
  have lkb := kb.out.lt
  refine wp_region_ext (W2.heap.size) (by kernel_rfl) (by kernel_rfl) ?_
  repeat (go_big_quiet_step (first | fail))
  refine wpQuiet_nil ?_
  intro W3 hwx
  obtain ⟨⟨W3, hb⟩, rfl⟩ := hwx
  clear cka lka ckb lkb
  replace ka := Lib.hid (ka.out.call hb)
  replace kb := Lib.hid (kb.out.call hb)
  replace hB := Lib.hid (below_on hB.out hb)
  clear hb
  go_wp2_with fail
  rw [rounds_succ]
  clear ka kb
  go_wp2_with fail
  refine (sample_at _ _ _ _ _ _ _ hsx.out hsy.out).mono ?_
  rintro e W4 ⟨rfl, hb⟩
  replace hB := Lib.hid (below_on hB.out hb)
  clear hb
  go_wp2_with fail
  refine (rSample_at _ _ _ _ _ _ _ hsx.out hsy.out).mono ?_
  rintro e W5 ⟨rfl, hb⟩
  replace hB := Lib.hid (below_on hB.out hb)
  clear hb
  go_wp2_with fail
  refine (vs_at _ _ _ hvs.out).mono ?_
  rintro e xw ⟨rfl, rfl⟩
  go_wp2_with fail
  refine (rVs_at _ _ _ hvs.out).mono ?_
  rintro e xw ⟨rfl, rfl⟩
  go_wp2_with fail
  refine (count_at _ _ _ hct.out).mono ?_
  rintro e xw ⟨rfl, rfl⟩
  go_wp2_with fail
  refine (rCount_at _ _ _ hct.out).mono ?_
  rintro e W6 ⟨rfl, hb⟩
  replace hB := Lib.hid (below_on hB.out hb)
  clear hb
  go_wp2_with fail
  refine (full_at _ _ _ hfu.out).mono ?_
  rintro e xw ⟨rfl, rfl⟩
  go_wp2_with fail
  refine (rFull_at _ _ _ hfu.out).mono ?_
  rintro e W7 ⟨rfl, hb⟩
  replace hB := Lib.hid (below_on hB.out hb)
  clear hb
  go_wp2_with fail
  refine (example_true _).mono ?_
  rintro e W8 ⟨rfl, hb⟩
  replace hB := Lib.hid (below_on hB.out hb)
  clear hb
  go_wp2
  go_ret
  exact ⟨rfl, hB.out⟩
set_option maxRecDepth 100000 in
set_option maxHeartbeats 8000000 in
theorem positions_4 (x y i : Int) (w : World) :
    Calls Try.prog 6 #[.int .i64 x, .int .i64 y, .int .i64 4, .int .i64 i] w fun e w' => e = .returned (.bool true) ∧ Below w.heap.size w w' := by
  obtain ⟨sx, hsx⟩ : ∃ a, spX x y 4 i = a := ⟨_, rfl⟩
  obtain ⟨sy, hsy⟩ : ∃ a, spY x y 4 i = a := ⟨_, rfl⟩
  obtain ⟨vs, hvs⟩ : ∃ a, vsB 4 = a := ⟨_, rfl⟩
  obtain ⟨ct, hct⟩ : ∃ a, cntI x = a := ⟨_, rfl⟩
  obtain ⟨fu, hfu⟩ : ∃ a, fullI 4 = a := ⟨_, rfl⟩
  replace hsx := Lib.hid hsx
  replace hsy := Lib.hid hsy
  replace hvs := Lib.hid hvs
  replace hct := Lib.hid hct
  replace hfu := Lib.hid hfu
  go_enter Try.func6, Try.ntmps6
  go_wp2_with fail
  refine (pos_4 _).mono ?_
  rintro e w1 ⟨rfl, rfl⟩
  go_wp2_with fail
  refine (rPos_4 _).mono ?_
  rintro e w1 ⟨rfl, rfl⟩
  have ka := Lib.hid ((Blk.new w 36 #[.int .i64 96, .int .i64 32, .int .i64 224, .int .i64 96, .int .i64 32, .int .i64 160, .int .i64 160, .int .i64 224]).alloc (.cells #[.int .i64 96, .int .i64 32, .int .i64 224, .int .i64 96, .int .i64 32, .int .i64 160, .int .i64 160, .int .i64 224] 36))
  have kb := Lib.hid (Blk.new1 w 36 #[.int .i64 96, .int .i64 32, .int .i64 224, .int .i64 96, .int .i64 32, .int .i64 160, .int .i64 160, .int .i64 224] (.cells #[.int .i64 96, .int .i64 32, .int .i64 224, .int .i64 96, .int .i64 32, .int .i64 160, .int .i64 160, .int .i64 224] 36))
  have hB : Hid (Below w.heap.size w ((w.alloc (.cells #[.int .i64 96, .int .i64 32, .int .i64 224, .int .i64 96, .int .i64 32, .int .i64 160, .int .i64 160, .int .i64 224] 36)).alloc (.cells #[.int .i64 96, .int .i64 32, .int .i64 224, .int .i64 96, .int .i64 32, .int .i64 160, .int .i64 160, .int .i64 224] 36))) := Lib.hid (by go_grown)
  have hz : (w.alloc (.cells #[.int .i64 96, .int .i64 32, .int .i64 224, .int .i64 96, .int .i64 32, .int .i64 160, .int .i64 160, .int .i64 224] 36)).heap.size = w.heap.size + 1 := World.size_alloc ..
  rw [hz]
  clear hz
  generalize (w.alloc (.cells #[.int .i64 96, .int .i64 32, .int .i64 224, .int .i64 96, .int .i64 32, .int .i64 160, .int .i64 160, .int .i64 224] 36)).alloc (.cells #[.int .i64 96, .int .i64 32, .int .i64 224, .int .i64 96, .int .i64 32, .int .i64 160, .int .i64 160, .int .i64 224] 36) = W1 at *
  go_wp2_with fail
  refine wp_loop_rounds 5 ?_
  rw [rounds_succ]
  go_wp2_with fail
  have cka := ka.out.cell
  have lka := ka.out.lt
  have ckb := kb.out.cell
  have lkb := kb.out.lt
  refine wp_region_ext (W1.heap.size) (by kernel_rfl) (by kernel_rfl) ?_
  repeat (go_big_quiet_step (first | fail))
  refine wpQuiet_nil ?_
  intro W2 hwx
  obtain ⟨⟨W2, hb⟩, rfl⟩ := hwx
  clear cka lka ckb lkb
  replace ka := Lib.hid (ka.out.call hb)
  replace kb := Lib.hid (kb.out.call hb)
  replace hB := Lib.hid (below_on hB.out hb)
  clear hb
  go_wp2_with fail
  rw [rounds_succ]
  go_wp2_with fail
  have cka := ka.out.cell
  have lka := ka.out.lt
  have ckb := kb.out.cell
  have lkb := kb.out.lt
  refine wp_region_ext (W2.heap.size) (by kernel_rfl) (by kernel_rfl) ?_
  repeat (go_big_quiet_step (first | fail))
  refine wpQuiet_nil ?_
  intro W3 hwx
  obtain ⟨⟨W3, hb⟩, rfl⟩ := hwx
  clear cka lka ckb lkb
  replace ka := Lib.hid (ka.out.call hb)
  replace kb := Lib.hid (kb.out.call hb)
  replace hB := Lib.hid (below_on hB.out hb)
  clear hb
  go_wp2_with fail
  rw [rounds_succ]
  go_wp2_with fail
  have cka := ka.out.cell
  have lka := ka.out.lt
  have ckb := kb.out.cell
  have lkb := kb.out.lt
  refine wp_region_ext (W3.heap.size) (by kernel_rfl) (by kernel_rfl) ?_
  repeat (go_big_quiet_step (first | fail))
  refine wpQuiet_nil ?_
  intro W4 hwx
  obtain ⟨⟨W4, hb⟩, rfl⟩ := hwx
  clear cka lka ckb lkb
  replace ka := Lib.hid (ka.out.call hb)
  replace kb := Lib.hid (kb.out.call hb)
  replace hB := Lib.hid (below_on hB.out hb)
  clear hb
  go_wp2_with fail
  rw [rounds_succ]
  go_wp2_with fail
  have cka := ka.out.cell
  have lka := ka.out.lt
  have ckb := kb.out.cell
  have lkb := kb.out.lt
  refine wp_region_ext (W4.heap.size) (by kernel_rfl) (by kernel_rfl) ?_
  repeat (go_big_quiet_step (first | fail))
  refine wpQuiet_nil ?_
  intro W5 hwx
  obtain ⟨⟨W5, hb⟩, rfl⟩ := hwx
  clear cka lka ckb lkb
  replace ka := Lib.hid (ka.out.call hb)
  replace kb := Lib.hid (kb.out.call hb)
  replace hB := Lib.hid (below_on hB.out hb)
  clear hb
  go_wp2_with fail
  rw [rounds_succ]
  clear ka kb
  go_wp2_with fail
  refine (sample_at _ _ _ _ _ _ _ hsx.out hsy.out).mono ?_
  rintro e W6 ⟨rfl, hb⟩
  replace hB := Lib.hid (below_on hB.out hb)
  clear hb
  go_wp2_with fail
  refine (rSample_at _ _ _ _ _ _ _ hsx.out hsy.out).mono ?_
  rintro e W7 ⟨rfl, hb⟩
  replace hB := Lib.hid (below_on hB.out hb)
  clear hb
  go_wp2_with fail
  refine (vs_at _ _ _ hvs.out).mono ?_
  rintro e xw ⟨rfl, rfl⟩
  go_wp2_with fail
  refine (rVs_at _ _ _ hvs.out).mono ?_
  rintro e xw ⟨rfl, rfl⟩
  go_wp2_with fail
  refine (count_at _ _ _ hct.out).mono ?_
  rintro e xw ⟨rfl, rfl⟩
  go_wp2_with fail
  refine (rCount_at _ _ _ hct.out).mono ?_
  rintro e W8 ⟨rfl, hb⟩
  replace hB := Lib.hid (below_on hB.out hb)
  clear hb
  go_wp2_with fail
  refine (full_at _ _ _ hfu.out).mono ?_
  rintro e xw ⟨rfl, rfl⟩
  go_wp2_with fail
  refine (rFull_at _ _ _ hfu.out).mono ?_
  rintro e W9 ⟨rfl, hb⟩
  replace hB := Lib.hid (below_on hB.out hb)
  clear hb
  go_wp2_with fail
  refine (example_true _).mono ?_
  rintro e W10 ⟨rfl, hb⟩
  replace hB := Lib.hid (below_on hB.out hb)
  clear hb
  go_wp2
  go_ret
  exact ⟨rfl, hB.out⟩
set_option maxRecDepth 100000 in
set_option maxHeartbeats 8000000 in
theorem positions_8 (x y i : Int) (w : World) :
    Calls Try.prog 6 #[.int .i64 x, .int .i64 y, .int .i64 8, .int .i64 i] w fun e w' => e = .returned (.bool true) ∧ Below w.heap.size w w' := by
  obtain ⟨sx, hsx⟩ : ∃ a, spX x y 8 i = a := ⟨_, rfl⟩
  obtain ⟨sy, hsy⟩ : ∃ a, spY x y 8 i = a := ⟨_, rfl⟩
  obtain ⟨vs, hvs⟩ : ∃ a, vsB 8 = a := ⟨_, rfl⟩
  obtain ⟨ct, hct⟩ : ∃ a, cntI x = a := ⟨_, rfl⟩
  obtain ⟨fu, hfu⟩ : ∃ a, fullI 8 = a := ⟨_, rfl⟩
  replace hsx := Lib.hid hsx
  replace hsy := Lib.hid hsy
  replace hvs := Lib.hid hvs
  replace hct := Lib.hid hct
  replace hfu := Lib.hid hfu
  go_enter Try.func6, Try.ntmps6
  go_wp2_with fail
  refine (pos_8 _).mono ?_
  rintro e w1 ⟨rfl, rfl⟩
  go_wp2_with fail
  refine (rPos_8 _).mono ?_
  rintro e w1 ⟨rfl, rfl⟩
  have ka := Lib.hid ((Blk.new w 36 #[.int .i64 144, .int .i64 80, .int .i64 112, .int .i64 176, .int .i64 208, .int .i64 144, .int .i64 80, .int .i64 48, .int .i64 48, .int .i64 208, .int .i64 16, .int .i64 112, .int .i64 176, .int .i64 240, .int .i64 240, .int .i64 16]).alloc (.cells #[.int .i64 144, .int .i64 80, .int .i64 112, .int .i64 176, .int .i64 208, .int .i64 144, .int .i64 80, .int .i64 48, .int .i64 48, .int .i64 208, .int .i64 16, .int .i64 112, .int .i64 176, .int .i64 240, .int .i64 240, .int .i64 16] 36))
  have kb := Lib.hid (Blk.new1 w 36 #[.int .i64 144, .int .i64 80, .int .i64 112, .int .i64 176, .int .i64 208, .int .i64 144, .int .i64 80, .int .i64 48, .int .i64 48, .int .i64 208, .int .i64 16, .int .i64 112, .int .i64 176, .int .i64 240, .int .i64 240, .int .i64 16] (.cells #[.int .i64 144, .int .i64 80, .int .i64 112, .int .i64 176, .int .i64 208, .int .i64 144, .int .i64 80, .int .i64 48, .int .i64 48, .int .i64 208, .int .i64 16, .int .i64 112, .int .i64 176, .int .i64 240, .int .i64 240, .int .i64 16] 36))
  have hB : Hid (Below w.heap.size w ((w.alloc (.cells #[.int .i64 144, .int .i64 80, .int .i64 112, .int .i64 176, .int .i64 208, .int .i64 144, .int .i64 80, .int .i64 48, .int .i64 48, .int .i64 208, .int .i64 16, .int .i64 112, .int .i64 176, .int .i64 240, .int .i64 240, .int .i64 16] 36)).alloc (.cells #[.int .i64 144, .int .i64 80, .int .i64 112, .int .i64 176, .int .i64 208, .int .i64 144, .int .i64 80, .int .i64 48, .int .i64 48, .int .i64 208, .int .i64 16, .int .i64 112, .int .i64 176, .int .i64 240, .int .i64 240, .int .i64 16] 36))) := Lib.hid (by go_grown)
  have hz : (w.alloc (.cells #[.int .i64 144, .int .i64 80, .int .i64 112, .int .i64 176, .int .i64 208, .int .i64 144, .int .i64 80, .int .i64 48, .int .i64 48, .int .i64 208, .int .i64 16, .int .i64 112, .int .i64 176, .int .i64 240, .int .i64 240, .int .i64 16] 36)).heap.size = w.heap.size + 1 := World.size_alloc ..
  rw [hz]
  clear hz
  generalize (w.alloc (.cells #[.int .i64 144, .int .i64 80, .int .i64 112, .int .i64 176, .int .i64 208, .int .i64 144, .int .i64 80, .int .i64 48, .int .i64 48, .int .i64 208, .int .i64 16, .int .i64 112, .int .i64 176, .int .i64 240, .int .i64 240, .int .i64 16] 36)).alloc (.cells #[.int .i64 144, .int .i64 80, .int .i64 112, .int .i64 176, .int .i64 208, .int .i64 144, .int .i64 80, .int .i64 48, .int .i64 48, .int .i64 208, .int .i64 16, .int .i64 112, .int .i64 176, .int .i64 240, .int .i64 240, .int .i64 16] 36) = W1 at *
  go_wp2_with fail
  refine wp_loop_rounds 9 ?_
  rw [rounds_succ]
  go_wp2_with fail
  have cka := ka.out.cell
  have lka := ka.out.lt
  have ckb := kb.out.cell
  have lkb := kb.out.lt
  refine wp_region_ext (W1.heap.size) (by kernel_rfl) (by kernel_rfl) ?_
  repeat (go_big_quiet_step (first | fail))
  refine wpQuiet_nil ?_
  intro W2 hwx
  obtain ⟨⟨W2, hb⟩, rfl⟩ := hwx
  clear cka lka ckb lkb
  replace ka := Lib.hid (ka.out.call hb)
  replace kb := Lib.hid (kb.out.call hb)
  replace hB := Lib.hid (below_on hB.out hb)
  clear hb
  go_wp2_with fail
  rw [rounds_succ]
  go_wp2_with fail
  have cka := ka.out.cell
  have lka := ka.out.lt
  have ckb := kb.out.cell
  have lkb := kb.out.lt
  refine wp_region_ext (W2.heap.size) (by kernel_rfl) (by kernel_rfl) ?_
  repeat (go_big_quiet_step (first | fail))
  refine wpQuiet_nil ?_
  intro W3 hwx
  obtain ⟨⟨W3, hb⟩, rfl⟩ := hwx
  clear cka lka ckb lkb
  replace ka := Lib.hid (ka.out.call hb)
  replace kb := Lib.hid (kb.out.call hb)
  replace hB := Lib.hid (below_on hB.out hb)
  clear hb
  go_wp2_with fail
  rw [rounds_succ]
  go_wp2_with fail
  have cka := ka.out.cell
  have lka := ka.out.lt
  have ckb := kb.out.cell
  have lkb := kb.out.lt
  refine wp_region_ext (W3.heap.size) (by kernel_rfl) (by kernel_rfl) ?_
  repeat (go_big_quiet_step (first | fail))
  refine wpQuiet_nil ?_
  intro W4 hwx
  obtain ⟨⟨W4, hb⟩, rfl⟩ := hwx
  clear cka lka ckb lkb
  replace ka := Lib.hid (ka.out.call hb)
  replace kb := Lib.hid (kb.out.call hb)
  replace hB := Lib.hid (below_on hB.out hb)
  clear hb
  go_wp2_with fail
  rw [rounds_succ]
  go_wp2_with fail
  have cka := ka.out.cell
  have lka := ka.out.lt
  have ckb := kb.out.cell
  have lkb := kb.out.lt
  refine wp_region_ext (W4.heap.size) (by kernel_rfl) (by kernel_rfl) ?_
  repeat (go_big_quiet_step (first | fail))
  refine wpQuiet_nil ?_
  intro W5 hwx
  obtain ⟨⟨W5, hb⟩, rfl⟩ := hwx
  clear cka lka ckb lkb
  replace ka := Lib.hid (ka.out.call hb)
  replace kb := Lib.hid (kb.out.call hb)
  replace hB := Lib.hid (below_on hB.out hb)
  clear hb
  go_wp2_with fail
  rw [rounds_succ]
  go_wp2_with fail
  have cka := ka.out.cell
  have lka := ka.out.lt
  have ckb := kb.out.cell
  have lkb := kb.out.lt
  refine wp_region_ext (W5.heap.size) (by kernel_rfl) (by kernel_rfl) ?_
  repeat (go_big_quiet_step (first | fail))
  refine wpQuiet_nil ?_
  intro W6 hwx
  obtain ⟨⟨W6, hb⟩, rfl⟩ := hwx
  clear cka lka ckb lkb
  replace ka := Lib.hid (ka.out.call hb)
  replace kb := Lib.hid (kb.out.call hb)
  replace hB := Lib.hid (below_on hB.out hb)
  clear hb
  go_wp2_with fail
  rw [rounds_succ]
  go_wp2_with fail
  have cka := ka.out.cell
  have lka := ka.out.lt
  have ckb := kb.out.cell
  have lkb := kb.out.lt
  refine wp_region_ext (W6.heap.size) (by kernel_rfl) (by kernel_rfl) ?_
  repeat (go_big_quiet_step (first | fail))
  refine wpQuiet_nil ?_
  intro W7 hwx
  obtain ⟨⟨W7, hb⟩, rfl⟩ := hwx
  clear cka lka ckb lkb
  replace ka := Lib.hid (ka.out.call hb)
  replace kb := Lib.hid (kb.out.call hb)
  replace hB := Lib.hid (below_on hB.out hb)
  clear hb
  go_wp2_with fail
  rw [rounds_succ]
  go_wp2_with fail
  have cka := ka.out.cell
  have lka := ka.out.lt
  have ckb := kb.out.cell
  have lkb := kb.out.lt
  refine wp_region_ext (W7.heap.size) (by kernel_rfl) (by kernel_rfl) ?_
  repeat (go_big_quiet_step (first | fail))
  refine wpQuiet_nil ?_
  intro W8 hwx
  obtain ⟨⟨W8, hb⟩, rfl⟩ := hwx
  clear cka lka ckb lkb
  replace ka := Lib.hid (ka.out.call hb)
  replace kb := Lib.hid (kb.out.call hb)
  replace hB := Lib.hid (below_on hB.out hb)
  clear hb
  go_wp2_with fail
  rw [rounds_succ]
  go_wp2_with fail
  have cka := ka.out.cell
  have lka := ka.out.lt
  have ckb := kb.out.cell
  have lkb := kb.out.lt
  refine wp_region_ext (W8.heap.size) (by kernel_rfl) (by kernel_rfl) ?_
  repeat (go_big_quiet_step (first | fail))
  refine wpQuiet_nil ?_
  intro W9 hwx
  obtain ⟨⟨W9, hb⟩, rfl⟩ := hwx
  clear cka lka ckb lkb
  replace ka := Lib.hid (ka.out.call hb)
  replace kb := Lib.hid (kb.out.call hb)
  replace hB := Lib.hid (below_on hB.out hb)
  clear hb
  go_wp2_with fail
  rw [rounds_succ]
  clear ka kb
  go_wp2_with fail
  refine (sample_at _ _ _ _ _ _ _ hsx.out hsy.out).mono ?_
  rintro e W10 ⟨rfl, hb⟩
  replace hB := Lib.hid (below_on hB.out hb)
  clear hb
  go_wp2_with fail
  refine (rSample_at _ _ _ _ _ _ _ hsx.out hsy.out).mono ?_
  rintro e W11 ⟨rfl, hb⟩
  replace hB := Lib.hid (below_on hB.out hb)
  clear hb
  go_wp2_with fail
  refine (vs_at _ _ _ hvs.out).mono ?_
  rintro e xw ⟨rfl, rfl⟩
  go_wp2_with fail
  refine (rVs_at _ _ _ hvs.out).mono ?_
  rintro e xw ⟨rfl, rfl⟩
  go_wp2_with fail
  refine (count_at _ _ _ hct.out).mono ?_
  rintro e xw ⟨rfl, rfl⟩
  go_wp2_with fail
  refine (rCount_at _ _ _ hct.out).mono ?_
  rintro e W12 ⟨rfl, hb⟩
  replace hB := Lib.hid (below_on hB.out hb)
  clear hb
  go_wp2_with fail
  refine (full_at _ _ _ hfu.out).mono ?_
  rintro e xw ⟨rfl, rfl⟩
  go_wp2_with fail
  refine (rFull_at _ _ _ hfu.out).mono ?_
  rintro e W13 ⟨rfl, hb⟩
  replace hB := Lib.hid (below_on hB.out hb)
  clear hb
  go_wp2_with fail
  refine (example_true _).mono ?_
  rintro e W14 ⟨rfl, hb⟩
  replace hB := Lib.hid (below_on hB.out hb)
  clear hb
  go_wp2
  go_ret
  exact ⟨rfl, hB.out⟩
set_option maxRecDepth 100000 in
set_option maxHeartbeats 8000000 in
theorem positions_no (x y n i : Int) (w : World) (h1 : (n == 1) = false) (h2 : (n == 2) = false) (h4 : (n == 4) = false) (h8 : (n == 8) = false) :
    Calls Try.prog 6 #[.int .i64 x, .int .i64 y, .int .i64 n, .int .i64 i] w fun e w' => e = .returned (.bool true) ∧ Below w.heap.size w w' := by
  obtain ⟨sx, hsx⟩ : ∃ a, spX x y n i = a := ⟨_, rfl⟩
  obtain ⟨sy, hsy⟩ : ∃ a, spY x y n i = a := ⟨_, rfl⟩
  obtain ⟨vs, hvs⟩ : ∃ a, vsB n = a := ⟨_, rfl⟩
  obtain ⟨ct, hct⟩ : ∃ a, cntI x = a := ⟨_, rfl⟩
  obtain ⟨fu, hfu⟩ : ∃ a, fullI n = a := ⟨_, rfl⟩
  replace hsx := Lib.hid hsx
  replace hsy := Lib.hid hsy
  replace hvs := Lib.hid hvs
  replace hct := Lib.hid hct
  replace hfu := Lib.hid hfu
  have hp := pos_no n w h1 h2 h4 h8
  have hq := rPos_no n w h1 h2 h4 h8
  replace hp := Lib.hid hp
  replace hq := Lib.hid hq
  clear h1 h2 h4 h8
  have hB := Lib.hid (Below.refl w.heap.size w)
  go_enter Try.func6, Try.ntmps6
  go_wp2_with fail
  refine hp.out.mono ?_
  rintro e w1 ⟨rfl, rfl⟩
  go_wp2_with fail
  refine hq.out.mono ?_
  rintro e w1 ⟨rfl, rfl⟩
  go_wp2_with fail
  refine wp_loop_rounds 1 ?_
  rw [rounds_succ]
  go_wp2_with fail
  refine (sample_at _ _ _ _ _ _ _ hsx.out hsy.out).mono ?_
  rintro e W1 ⟨rfl, hb⟩
  replace hB := Lib.hid (below_on hB.out hb)
  clear hb
  go_wp2_with fail
  refine (rSample_at _ _ _ _ _ _ _ hsx.out hsy.out).mono ?_
  rintro e W2 ⟨rfl, hb⟩
  replace hB := Lib.hid (below_on hB.out hb)
  clear hb
  go_wp2_with fail
  refine (vs_at _ _ _ hvs.out).mono ?_
  rintro e xw ⟨rfl, rfl⟩
  go_wp2_with fail
  refine (rVs_at _ _ _ hvs.out).mono ?_
  rintro e xw ⟨rfl, rfl⟩
  go_wp2_with fail
  refine (count_at _ _ _ hct.out).mono ?_
  rintro e xw ⟨rfl, rfl⟩
  go_wp2_with fail
  refine (rCount_at _ _ _ hct.out).mono ?_
  rintro e W3 ⟨rfl, hb⟩
  replace hB := Lib.hid (below_on hB.out hb)
  clear hb
  go_wp2_with fail
  refine (full_at _ _ _ hfu.out).mono ?_
  rintro e xw ⟨rfl, rfl⟩
  go_wp2_with fail
  refine (rFull_at _ _ _ hfu.out).mono ?_
  rintro e W4 ⟨rfl, hb⟩
  replace hB := Lib.hid (below_on hB.out hb)
  clear hb
  go_wp2_with fail
  refine (example_true _).mono ?_
  rintro e W5 ⟨rfl, hb⟩
  replace hB := Lib.hid (below_on hB.out hb)
  clear hb
  go_wp2
  go_ret
  exact ⟨rfl, hB.out⟩
theorem law_coveragePositions (x y n i : Int) (w : World) :
    Calls Try.prog 6 #[.int .i64 x, .int .i64 y, .int .i64 n, .int .i64 i] w fun e w' => e = .returned (.bool true) ∧ Below w.heap.size w w' := by
  by_cases h1 : n = 1
  · subst h1; exact positions_1 x y i w
  by_cases h2 : n = 2
  · subst h2; exact positions_2 x y i w
  by_cases h4 : n = 4
  · subst h4; exact positions_4 x y i w
  by_cases h8 : n = 8
  · subst h8; exact positions_8 x y i w
  exact positions_no x y n i w (by simpa using h1) (by simpa using h2) (by simpa using h4) (by simpa using h8)
end Go.Proofs.Ytgalpmiojgjkhaa
