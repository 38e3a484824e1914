/- SamplePoint of package frustumref35: for all numbers, in any world. -/
import Derived.Test.YtimgjlogbkgiaaaPosL
import Derived.Test.YtimgjlogbkgiaaaPosR
namespace Go.Proofs.Ytimgjlogbkgiaaa
open Go.RowKit
attribute [local go_sem] Ext.cell
set_option maxHeartbeats 8000000 in
theorem rSample_1 (x y i : Int) (w : World) : Calls Try.prog 31 #[.int .i64 x, .int .i64 y, .int .i64 1, .int .i64 i] w fun e w' => e = .returned (.tuple #[.int .i64 (spX x y 1 i), .int .i64 (spY x y 1 i)]) ∧ Below w.heap.size w w' := by
  have hc : (x < 0) ∨ (0 ≤ x ∧ 63 < x) ∨ (0 ≤ x ∧ x ≤ 63 ∧ y < 0) ∨ (0 ≤ x ∧ x ≤ 63 ∧ 0 ≤ y ∧ 63 < y) ∨ (0 ≤ x ∧ x ≤ 63 ∧ 0 ≤ y ∧ y ≤ 63 ∧ i < 0) ∨ (0 ≤ x ∧ x ≤ 63 ∧ 0 ≤ y ∧ y ≤ 63 ∧ 0 ≤ i ∧ 1 ≤ i) ∨ (0 ≤ x ∧ x ≤ 63 ∧ 0 ≤ y ∧ y ≤ 63 ∧ (i = 0)) := by omega
  have hl : (posL 1).length = 1 := rfl
  replace hc := Lib.hid hc
  go_enter Try.func31, Try.ntmps31
  go_wp2_with fail
  refine (rPos_1 _).mono ?_
  rintro e w1 ⟨rfl, rfl⟩
  have kq := Lib.hid (Blk.new w 22 #[.int .i64 128, .int .i64 128])
  have hB : Hid (Below w.heap.size w (w.alloc (.cells #[.int .i64 128, .int .i64 128] 22))) := Lib.hid (by go_grown)
  generalize w.alloc (.cells #[.int .i64 128, .int .i64 128] 22) = W1 at *
  obtain h | ⟨h, g⟩ | ⟨h, g, h2⟩ | ⟨h, g, h2, h3⟩ | ⟨h, g, h2, h3, h4⟩ | ⟨h, g, h2, h3, h4, h5⟩ | ⟨h, g, h2, h3, h4⟩ := hc.out
  · obtain ⟨e1, e2⟩ := sp_no (x := x) (y := y) (n := 1) (i := i) (by unfold isS; rw [hl]; omega)
    clear hc
    go_wp2
    go_returns
    exact ⟨ret_two e1.symm e2.symm, hB.out⟩
  · obtain ⟨e1, e2⟩ := sp_no (x := x) (y := y) (n := 1) (i := i) (by unfold isS; rw [hl]; omega)
    clear hc
    go_wp2
    go_returns
    exact ⟨ret_two e1.symm e2.symm, hB.out⟩
  · obtain ⟨e1, e2⟩ := sp_no (x := x) (y := y) (n := 1) (i := i) (by unfold isS; rw [hl]; omega)
    clear hc
    go_wp2
    go_returns
    exact ⟨ret_two e1.symm e2.symm, hB.out⟩
  · obtain ⟨e1, e2⟩ := sp_no (x := x) (y := y) (n := 1) (i := i) (by unfold isS; rw [hl]; omega)
    clear hc
    go_wp2
    go_returns
    exact ⟨ret_two e1.symm e2.symm, hB.out⟩
  · obtain ⟨e1, e2⟩ := sp_no (x := x) (y := y) (n := 1) (i := i) (by unfold isS; rw [hl]; omega)
    clear hc
    go_wp2
    go_returns
    exact ⟨ret_two e1.symm e2.symm, hB.out⟩
  · obtain ⟨e1, e2⟩ := sp_no (x := x) (y := y) (n := 1) (i := i) (by unfold isS; rw [hl]; omega)
    clear hc
    go_wp2
    go_returns
    exact ⟨ret_two e1.symm e2.symm, hB.out⟩
  · have hw1 : IntKind.i64.wrap (x * 256) = x * 256 := by rw [IntKind.wrap_i64]; omega
    have hw2 : IntKind.i64.wrap (y * 256) = y * 256 := by rw [IntKind.wrap_i64]; omega
    have cq := kq.out.cell
    have lq := kq.out.lt
    clear hc
    subst h4
    obtain ⟨e1, e2⟩ := sp_yes (x := x) (y := y) (n := 1) (i := 0) (by unfold isS; rw [hl]; omega)
    have hw3 : IntKind.i64.wrap (x * 256 + 128) = x * 256 + 128 := by rw [IntKind.wrap_i64]; omega
    have hw4 : IntKind.i64.wrap (y * 256 + 128) = y * 256 + 128 := by rw [IntKind.wrap_i64]; omega
    go_wp2_with fail
    refine wp_region_ext (W1.heap.size) (by kernel_rfl) (by kernel_rfl) ?_
    repeat (go_big_quiet_step (fail))
    refine wpQuiet_nil ?_
    intro W2 hwx
    obtain ⟨⟨W2, hb⟩, rfl⟩ := hwx
    replace hB := Lib.hid (below_on hB.out hb)
    go_wp2
    go_returns
    exact ⟨ret_two e1.symm e2.symm, hB.out⟩
set_option maxHeartbeats 8000000 in
theorem rSample_2 (x y i : Int) (w : World) : Calls Try.prog 31 #[.int .i64 x, .int .i64 y, .int .i64 2, .int .i64 i] w fun e w' => e = .returned (.tuple #[.int .i64 (spX x y 2 i), .int .i64 (spY x y 2 i)]) ∧ Below w.heap.size w w' := by
  have hc : (x < 0) ∨ (0 ≤ x ∧ 63 < x) ∨ (0 ≤ x ∧ x ≤ 63 ∧ y < 0) ∨ (0 ≤ x ∧ x ≤ 63 ∧ 0 ≤ y ∧ 63 < y) ∨ (0 ≤ x ∧ x ≤ 63 ∧ 0 ≤ y ∧ y ≤ 63 ∧ i < 0) ∨ (0 ≤ x ∧ x ≤ 63 ∧ 0 ≤ y ∧ y ≤ 63 ∧ 0 ≤ i ∧ 2 ≤ i) ∨ (0 ≤ x ∧ x ≤ 63 ∧ 0 ≤ y ∧ y ≤ 63 ∧ (i = 0 ∨ i = 1)) := by omega
  have hl : (posL 2).length = 2 := rfl
  replace hc := Lib.hid hc
  go_enter Try.func31, Try.ntmps31
  go_wp2_with fail
  refine (rPos_2 _).mono ?_
  rintro e w1 ⟨rfl, rfl⟩
  have kq := Lib.hid (Blk.new w 22 #[.int .i64 192, .int .i64 192, .int .i64 64, .int .i64 64])
  have hB : Hid (Below w.heap.size w (w.alloc (.cells #[.int .i64 192, .int .i64 192, .int .i64 64, .int .i64 64] 22))) := Lib.hid (by go_grown)
  generalize w.alloc (.cells #[.int .i64 192, .int .i64 192, .int .i64 64, .int .i64 64] 22) = W1 at *
  obtain h | ⟨h, g⟩ | ⟨h, g, h2⟩ | ⟨h, g, h2, h3⟩ | ⟨h, g, h2, h3, h4⟩ | ⟨h, g, h2, h3, h4, h5⟩ | ⟨h, g, h2, h3, h4⟩ := hc.out
  · obtain ⟨e1, e2⟩ := sp_no (x := x) (y := y) (n := 2) (i := i) (by unfold isS; rw [hl]; omega)
    clear hc
    go_wp2
    go_returns
    exact ⟨ret_two e1.symm e2.symm, hB.out⟩
  · obtain ⟨e1, e2⟩ := sp_no (x := x) (y := y) (n := 2) (i := i) (by unfold isS; rw [hl]; omega)
    clear hc
    go_wp2
    go_returns
    exact ⟨ret_two e1.symm e2.symm, hB.out⟩
  · obtain ⟨e1, e2⟩ := sp_no (x := x) (y := y) (n := 2) (i := i) (by unfold isS; rw [hl]; omega)
    clear hc
    go_wp2
    go_returns
    exact ⟨ret_two e1.symm e2.symm, hB.out⟩
  · obtain ⟨e1, e2⟩ := sp_no (x := x) (y := y) (n := 2) (i := i) (by unfold isS; rw [hl]; omega)
    clear hc
    go_wp2
    go_returns
    exact ⟨ret_two e1.symm e2.symm, hB.out⟩
  · obtain ⟨e1, e2⟩ := sp_no (x := x) (y := y) (n := 2) (i := i) (by unfold isS; rw [hl]; omega)
    clear hc
    go_wp2
    go_returns
    exact ⟨ret_two e1.symm e2.symm, hB.out⟩
  · obtain ⟨e1, e2⟩ := sp_no (x := x) (y := y) (n := 2) (i := i) (by unfold isS; rw [hl]; omega)
    clear hc
    go_wp2
    go_returns
    exact ⟨ret_two e1.symm e2.symm, hB.out⟩
  · have hw1 : IntKind.i64.wrap (x * 256) = x * 256 := by rw [IntKind.wrap_i64]; omega
    have hw2 : IntKind.i64.wrap (y * 256) = y * 256 := by rw [IntKind.wrap_i64]; omega
    have cq := kq.out.cell
    have lq := kq.out.lt
    clear hc
    rcases h4 with rfl | rfl
    · obtain ⟨e1, e2⟩ := sp_yes (x := x) (y := y) (n := 2) (i := 0) (by unfold isS; rw [hl]; omega)
      have hw3 : IntKind.i64.wrap (x * 256 + 192) = x * 256 + 192 := by rw [IntKind.wrap_i64]; omega
      have hw4 : IntKind.i64.wrap (y * 256 + 192) = y * 256 + 192 := by rw [IntKind.wrap_i64]; omega
      go_wp2_with fail
      refine wp_region_ext (W1.heap.size) (by kernel_rfl) (by kernel_rfl) ?_
      repeat (go_big_quiet_step (fail))
      refine wpQuiet_nil ?_
      intro W2 hwx
      obtain ⟨⟨W2, hb⟩, rfl⟩ := hwx
      replace hB := Lib.hid (below_on hB.out hb)
      go_wp2
      go_returns
      exact ⟨ret_two e1.symm e2.symm, hB.out⟩
    · obtain ⟨e1, e2⟩ := sp_yes (x := x) (y := y) (n := 2) (i := 1) (by unfold isS; rw [hl]; omega)
      have hw3 : IntKind.i64.wrap (x * 256 + 64) = x * 256 + 64 := by rw [IntKind.wrap_i64]; omega
      have hw4 : IntKind.i64.wrap (y * 256 + 64) = y * 256 + 64 := by rw [IntKind.wrap_i64]; omega
      go_wp2_with fail
      refine wp_region_ext (W1.heap.size) (by kernel_rfl) (by kernel_rfl) ?_
      repeat (go_big_quiet_step (fail))
      refine wpQuiet_nil ?_
      intro W2 hwx
      obtain ⟨⟨W2, hb⟩, rfl⟩ := hwx
      replace hB := Lib.hid (below_on hB.out hb)
      go_wp2
      go_returns
      exact ⟨ret_two e1.symm e2.symm, hB.out⟩
set_option maxHeartbeats 8000000 in
theorem rSample_4 (x y i : Int) (w : World) : Calls Try.prog 31 #[.int .i64 x, .int .i64 y, .int .i64 4, .int .i64 i] w fun e w' => e = .returned (.tuple #[.int .i64 (spX x y 4 i), .int .i64 (spY x y 4 i)]) ∧ Below w.heap.size w w' := by
  have hc : (x < 0) ∨ (0 ≤ x ∧ 63 < x) ∨ (0 ≤ x ∧ x ≤ 63 ∧ y < 0) ∨ (0 ≤ x ∧ x ≤ 63 ∧ 0 ≤ y ∧ 63 < y) ∨ (0 ≤ x ∧ x ≤ 63 ∧ 0 ≤ y ∧ y ≤ 63 ∧ i < 0) ∨ (0 ≤ x ∧ x ≤ 63 ∧ 0 ≤ y ∧ y ≤ 63 ∧ 0 ≤ i ∧ 4 ≤ i) ∨ (0 ≤ x ∧ x ≤ 63 ∧ 0 ≤ y ∧ y ≤ 63 ∧ (i = 0 ∨ i = 1 ∨ i = 2 ∨ i = 3)) := by omega
  have hl : (posL 4).length = 4 := rfl
  replace hc := Lib.hid hc
  go_enter Try.func31, Try.ntmps31
  go_wp2_with fail
  refine (rPos_4 _).mono ?_
  rintro e w1 ⟨rfl, rfl⟩
  have kq := Lib.hid (Blk.new w 22 #[.int .i64 96, .int .i64 32, .int .i64 224, .int .i64 96, .int .i64 32, .int .i64 160, .int .i64 160, .int .i64 224])
  have hB : Hid (Below w.heap.size w (w.alloc (.cells #[.int .i64 96, .int .i64 32, .int .i64 224, .int .i64 96, .int .i64 32, .int .i64 160, .int .i64 160, .int .i64 224] 22))) := Lib.hid (by go_grown)
  generalize w.alloc (.cells #[.int .i64 96, .int .i64 32, .int .i64 224, .int .i64 96, .int .i64 32, .int .i64 160, .int .i64 160, .int .i64 224] 22) = W1 at *
  obtain h | ⟨h, g⟩ | ⟨h, g, h2⟩ | ⟨h, g, h2, h3⟩ | ⟨h, g, h2, h3, h4⟩ | ⟨h, g, h2, h3, h4, h5⟩ | ⟨h, g, h2, h3, h4⟩ := hc.out
  · obtain ⟨e1, e2⟩ := sp_no (x := x) (y := y) (n := 4) (i := i) (by unfold isS; rw [hl]; omega)
    clear hc
    go_wp2
    go_returns
    exact ⟨ret_two e1.symm e2.symm, hB.out⟩
  · obtain ⟨e1, e2⟩ := sp_no (x := x) (y := y) (n := 4) (i := i) (by unfold isS; rw [hl]; omega)
    clear hc
    go_wp2
    go_returns
    exact ⟨ret_two e1.symm e2.symm, hB.out⟩
  · obtain ⟨e1, e2⟩ := sp_no (x := x) (y := y) (n := 4) (i := i) (by unfold isS; rw [hl]; omega)
    clear hc
    go_wp2
    go_returns
    exact ⟨ret_two e1.symm e2.symm, hB.out⟩
  · obtain ⟨e1, e2⟩ := sp_no (x := x) (y := y) (n := 4) (i := i) (by unfold isS; rw [hl]; omega)
    clear hc
    go_wp2
    go_returns
    exact ⟨ret_two e1.symm e2.symm, hB.out⟩
  · obtain ⟨e1, e2⟩ := sp_no (x := x) (y := y) (n := 4) (i := i) (by unfold isS; rw [hl]; omega)
    clear hc
    go_wp2
    go_returns
    exact ⟨ret_two e1.symm e2.symm, hB.out⟩
  · obtain ⟨e1, e2⟩ := sp_no (x := x) (y := y) (n := 4) (i := i) (by unfold isS; rw [hl]; omega)
    clear hc
    go_wp2
    go_returns
    exact ⟨ret_two e1.symm e2.symm, hB.out⟩
  · have hw1 : IntKind.i64.wrap (x * 256) = x * 256 := by rw [IntKind.wrap_i64]; omega
    have hw2 : IntKind.i64.wrap (y * 256) = y * 256 := by rw [IntKind.wrap_i64]; omega
    have cq := kq.out.cell
    have lq := kq.out.lt
    clear hc
    rcases h4 with rfl | rfl | rfl | rfl
    · obtain ⟨e1, e2⟩ := sp_yes (x := x) (y := y) (n := 4) (i := 0) (by unfold isS; rw [hl]; omega)
      have hw3 : IntKind.i64.wrap (x * 256 + 96) = x * 256 + 96 := by rw [IntKind.wrap_i64]; omega
      have hw4 : IntKind.i64.wrap (y * 256 + 32) = y * 256 + 32 := by rw [IntKind.wrap_i64]; omega
      go_wp2_with fail
      refine wp_region_ext (W1.heap.size) (by kernel_rfl) (by kernel_rfl) ?_
      repeat (go_big_quiet_step (fail))
      refine wpQuiet_nil ?_
      intro W2 hwx
      obtain ⟨⟨W2, hb⟩, rfl⟩ := hwx
      replace hB := Lib.hid (below_on hB.out hb)
      go_wp2
      go_returns
      exact ⟨ret_two e1.symm e2.symm, hB.out⟩
    · obtain ⟨e1, e2⟩ := sp_yes (x := x) (y := y) (n := 4) (i := 1) (by unfold isS; rw [hl]; omega)
      have hw3 : IntKind.i64.wrap (x * 256 + 224) = x * 256 + 224 := by rw [IntKind.wrap_i64]; omega
      have hw4 : IntKind.i64.wrap (y * 256 + 96) = y * 256 + 96 := by rw [IntKind.wrap_i64]; omega
      go_wp2_with fail
      refine wp_region_ext (W1.heap.size) (by kernel_rfl) (by kernel_rfl) ?_
      repeat (go_big_quiet_step (fail))
      refine wpQuiet_nil ?_
      intro W2 hwx
      obtain ⟨⟨W2, hb⟩, rfl⟩ := hwx
      replace hB := Lib.hid (below_on hB.out hb)
      go_wp2
      go_returns
      exact ⟨ret_two e1.symm e2.symm, hB.out⟩
    · obtain ⟨e1, e2⟩ := sp_yes (x := x) (y := y) (n := 4) (i := 2) (by unfold isS; rw [hl]; omega)
      have hw3 : IntKind.i64.wrap (x * 256 + 32) = x * 256 + 32 := by rw [IntKind.wrap_i64]; omega
      have hw4 : IntKind.i64.wrap (y * 256 + 160) = y * 256 + 160 := by rw [IntKind.wrap_i64]; omega
      go_wp2_with fail
      refine wp_region_ext (W1.heap.size) (by kernel_rfl) (by kernel_rfl) ?_
      repeat (go_big_quiet_step (fail))
      refine wpQuiet_nil ?_
      intro W2 hwx
      obtain ⟨⟨W2, hb⟩, rfl⟩ := hwx
      replace hB := Lib.hid (below_on hB.out hb)
      go_wp2
      go_returns
      exact ⟨ret_two e1.symm e2.symm, hB.out⟩
    · obtain ⟨e1, e2⟩ := sp_yes (x := x) (y := y) (n := 4) (i := 3) (by unfold isS; rw [hl]; omega)
      have hw3 : IntKind.i64.wrap (x * 256 + 160) = x * 256 + 160 := by rw [IntKind.wrap_i64]; omega
      have hw4 : IntKind.i64.wrap (y * 256 + 224) = y * 256 + 224 := by rw [IntKind.wrap_i64]; omega
      go_wp2_with fail
      refine wp_region_ext (W1.heap.size) (by kernel_rfl) (by kernel_rfl) ?_
      repeat (go_big_quiet_step (fail))
      refine wpQuiet_nil ?_
      intro W2 hwx
      obtain ⟨⟨W2, hb⟩, rfl⟩ := hwx
      replace hB := Lib.hid (below_on hB.out hb)
      go_wp2
      go_returns
      exact ⟨ret_two e1.symm e2.symm, hB.out⟩
set_option maxHeartbeats 8000000 in
theorem rSample_8 (x y i : Int) (w : World) : Calls Try.prog 31 #[.int .i64 x, .int .i64 y, .int .i64 8, .int .i64 i] w fun e w' => e = .returned (.tuple #[.int .i64 (spX x y 8 i), .int .i64 (spY x y 8 i)]) ∧ Below w.heap.size w w' := by
  have hc : (x < 0) ∨ (0 ≤ x ∧ 63 < x) ∨ (0 ≤ x ∧ x ≤ 63 ∧ y < 0) ∨ (0 ≤ x ∧ x ≤ 63 ∧ 0 ≤ y ∧ 63 < y) ∨ (0 ≤ x ∧ x ≤ 63 ∧ 0 ≤ y ∧ y ≤ 63 ∧ i < 0) ∨ (0 ≤ x ∧ x ≤ 63 ∧ 0 ≤ y ∧ y ≤ 63 ∧ 0 ≤ i ∧ 8 ≤ i) ∨ (0 ≤ x ∧ x ≤ 63 ∧ 0 ≤ y ∧ y ≤ 63 ∧ (i = 0 ∨ i = 1 ∨ i = 2 ∨ i = 3 ∨ i = 4 ∨ i = 5 ∨ i = 6 ∨ i = 7)) := by omega
  have hl : (posL 8).length = 8 := rfl
  replace hc := Lib.hid hc
  go_enter Try.func31, Try.ntmps31
  go_wp2_with fail
  refine (rPos_8 _).mono ?_
  rintro e w1 ⟨rfl, rfl⟩
  have kq := Lib.hid (Blk.new w 22 #[.int .i64 144, .int .i64 80, .int .i64 112, .int .i64 176, .int .i64 208, .int .i64 144, .int .i64 80, .int .i64 48, .int .i64 48, .int .i64 208, .int .i64 16, .int .i64 112, .int .i64 176, .int .i64 240, .int .i64 240, .int .i64 16])
  have hB : Hid (Below w.heap.size w (w.alloc (.cells #[.int .i64 144, .int .i64 80, .int .i64 112, .int .i64 176, .int .i64 208, .int .i64 144, .int .i64 80, .int .i64 48, .int .i64 48, .int .i64 208, .int .i64 16, .int .i64 112, .int .i64 176, .int .i64 240, .int .i64 240, .int .i64 16] 22))) := Lib.hid (by go_grown)
  generalize w.alloc (.cells #[.int .i64 144, .int .i64 80, .int .i64 112, .int .i64 176, .int .i64 208, .int .i64 144, .int .i64 80, .int .i64 48, .int .i64 48, .int .i64 208, .int .i64 16, .int .i64 112, .int .i64 176, .int .i64 240, .int .i64 240, .int .i64 16] 22) = W1 at *
  obtain h | ⟨h, g⟩ | ⟨h, g, h2⟩ | ⟨h, g, h2, h3⟩ | ⟨h, g, h2, h3, h4⟩ | ⟨h, g, h2, h3, h4, h5⟩ | ⟨h, g, h2, h3, h4⟩ := hc.out
  · obtain ⟨e1, e2⟩ := sp_no (x := x) (y := y) (n := 8) (i := i) (by unfold isS; rw [hl]; omega)
    clear hc
    go_wp2
    go_returns
    exact ⟨ret_two e1.symm e2.symm, hB.out⟩
  · obtain ⟨e1, e2⟩ := sp_no (x := x) (y := y) (n := 8) (i := i) (by unfold isS; rw [hl]; omega)
    clear hc
    go_wp2
    go_returns
    exact ⟨ret_two e1.symm e2.symm, hB.out⟩
  · obtain ⟨e1, e2⟩ := sp_no (x := x) (y := y) (n := 8) (i := i) (by unfold isS; rw [hl]; omega)
    clear hc
    go_wp2
    go_returns
    exact ⟨ret_two e1.symm e2.symm, hB.out⟩
  · obtain ⟨e1, e2⟩ := sp_no (x := x) (y := y) (n := 8) (i := i) (by unfold isS; rw [hl]; omega)
    clear hc
    go_wp2
    go_returns
    exact ⟨ret_two e1.symm e2.symm, hB.out⟩
  · obtain ⟨e1, e2⟩ := sp_no (x := x) (y := y) (n := 8) (i := i) (by unfold isS; rw [hl]; omega)
    clear hc
    go_wp2
    go_returns
    exact ⟨ret_two e1.symm e2.symm, hB.out⟩
  · obtain ⟨e1, e2⟩ := sp_no (x := x) (y := y) (n := 8) (i := i) (by unfold isS; rw [hl]; omega)
    clear hc
    go_wp2
    go_returns
    exact ⟨ret_two e1.symm e2.symm, hB.out⟩
  · have hw1 : IntKind.i64.wrap (x * 256) = x * 256 := by rw [IntKind.wrap_i64]; omega
    have hw2 : IntKind.i64.wrap (y * 256) = y * 256 := by rw [IntKind.wrap_i64]; omega
    have cq := kq.out.cell
    have lq := kq.out.lt
    clear hc
    rcases h4 with rfl | rfl | rfl | rfl | rfl | rfl | rfl | rfl
    · obtain ⟨e1, e2⟩ := sp_yes (x := x) (y := y) (n := 8) (i := 0) (by unfold isS; rw [hl]; omega)
      have hw3 : IntKind.i64.wrap (x * 256 + 144) = x * 256 + 144 := by rw [IntKind.wrap_i64]; omega
      have hw4 : IntKind.i64.wrap (y * 256 + 80) = y * 256 + 80 := by rw [IntKind.wrap_i64]; omega
      go_wp2_with fail
      refine wp_region_ext (W1.heap.size) (by kernel_rfl) (by kernel_rfl) ?_
      repeat (go_big_quiet_step (fail))
      refine wpQuiet_nil ?_
      intro W2 hwx
      obtain ⟨⟨W2, hb⟩, rfl⟩ := hwx
      replace hB := Lib.hid (below_on hB.out hb)
      go_wp2
      go_returns
      exact ⟨ret_two e1.symm e2.symm, hB.out⟩
    · obtain ⟨e1, e2⟩ := sp_yes (x := x) (y := y) (n := 8) (i := 1) (by unfold isS; rw [hl]; omega)
      have hw3 : IntKind.i64.wrap (x * 256 + 112) = x * 256 + 112 := by rw [IntKind.wrap_i64]; omega
      have hw4 : IntKind.i64.wrap (y * 256 + 176) = y * 256 + 176 := by rw [IntKind.wrap_i64]; omega
      go_wp2_with fail
      refine wp_region_ext (W1.heap.size) (by kernel_rfl) (by kernel_rfl) ?_
      repeat (go_big_quiet_step (fail))
      refine wpQuiet_nil ?_
      intro W2 hwx
      obtain ⟨⟨W2, hb⟩, rfl⟩ := hwx
      replace hB := Lib.hid (below_on hB.out hb)
      go_wp2
      go_returns
      exact ⟨ret_two e1.symm e2.symm, hB.out⟩
    · obtain ⟨e1, e2⟩ := sp_yes (x := x) (y := y) (n := 8) (i := 2) (by unfold isS; rw [hl]; omega)
      have hw3 : IntKind.i64.wrap (x * 256 + 208) = x * 256 + 208 := by rw [IntKind.wrap_i64]; omega
      have hw4 : IntKind.i64.wrap (y * 256 + 144) = y * 256 + 144 := by rw [IntKind.wrap_i64]; omega
      go_wp2_with fail
      refine wp_region_ext (W1.heap.size) (by kernel_rfl) (by kernel_rfl) ?_
      repeat (go_big_quiet_step (fail))
      refine wpQuiet_nil ?_
      intro W2 hwx
      obtain ⟨⟨W2, hb⟩, rfl⟩ := hwx
      replace hB := Lib.hid (below_on hB.out hb)
      go_wp2
      go_returns
      exact ⟨ret_two e1.symm e2.symm, hB.out⟩
    · obtain ⟨e1, e2⟩ := sp_yes (x := x) (y := y) (n := 8) (i := 3) (by unfold isS; rw [hl]; omega)
      have hw3 : IntKind.i64.wrap (x * 256 + 80) = x * 256 + 80 := by rw [IntKind.wrap_i64]; omega
      have hw4 : IntKind.i64.wrap (y * 256 + 48) = y * 256 + 48 := by rw [IntKind.wrap_i64]; omega
      go_wp2_with fail
      refine wp_region_ext (W1.heap.size) (by kernel_rfl) (by kernel_rfl) ?_
      repeat (go_big_quiet_step (fail))
      refine wpQuiet_nil ?_
      intro W2 hwx
      obtain ⟨⟨W2, hb⟩, rfl⟩ := hwx
      replace hB := Lib.hid (below_on hB.out hb)
      go_wp2
      go_returns
      exact ⟨ret_two e1.symm e2.symm, hB.out⟩
    · obtain ⟨e1, e2⟩ := sp_yes (x := x) (y := y) (n := 8) (i := 4) (by unfold isS; rw [hl]; omega)
      have hw3 : IntKind.i64.wrap (x * 256 + 48) = x * 256 + 48 := by rw [IntKind.wrap_i64]; omega
      have hw4 : IntKind.i64.wrap (y * 256 + 208) = y * 256 + 208 := by rw [IntKind.wrap_i64]; omega
      go_wp2_with fail
      refine wp_region_ext (W1.heap.size) (by kernel_rfl) (by kernel_rfl) ?_
      repeat (go_big_quiet_step (fail))
      refine wpQuiet_nil ?_
      intro W2 hwx
      obtain ⟨⟨W2, hb⟩, rfl⟩ := hwx
      replace hB := Lib.hid (below_on hB.out hb)
      go_wp2
      go_returns
      exact ⟨ret_two e1.symm e2.symm, hB.out⟩
    · obtain ⟨e1, e2⟩ := sp_yes (x := x) (y := y) (n := 8) (i := 5) (by unfold isS; rw [hl]; omega)
      have hw3 : IntKind.i64.wrap (x * 256 + 16) = x * 256 + 16 := by rw [IntKind.wrap_i64]; omega
      have hw4 : IntKind.i64.wrap (y * 256 + 112) = y * 256 + 112 := by rw [IntKind.wrap_i64]; omega
      go_wp2_with fail
      refine wp_region_ext (W1.heap.size) (by kernel_rfl) (by kernel_rfl) ?_
      repeat (go_big_quiet_step (fail))
      refine wpQuiet_nil ?_
      intro W2 hwx
      obtain ⟨⟨W2, hb⟩, rfl⟩ := hwx
      replace hB := Lib.hid (below_on hB.out hb)
      go_wp2
      go_returns
      exact ⟨ret_two e1.symm e2.symm, hB.out⟩
    · obtain ⟨e1, e2⟩ := sp_yes (x := x) (y := y) (n := 8) (i := 6) (by unfold isS; rw [hl]; omega)
      have hw3 : IntKind.i64.wrap (x * 256 + 176) = x * 256 + 176 := by rw [IntKind.wrap_i64]; omega
      have hw4 : IntKind.i64.wrap (y * 256 + 240) = y * 256 + 240 := by rw [IntKind.wrap_i64]; omega
      go_wp2_with fail
      refine wp_region_ext (W1.heap.size) (by kernel_rfl) (by kernel_rfl) ?_
      repeat (go_big_quiet_step (fail))
      refine wpQuiet_nil ?_
      intro W2 hwx
      obtain ⟨⟨W2, hb⟩, rfl⟩ := hwx
      replace hB := Lib.hid (below_on hB.out hb)
      go_wp2
      go_returns
      exact ⟨ret_two e1.symm e2.symm, hB.out⟩
    · obtain ⟨e1, e2⟩ := sp_yes (x := x) (y := y) (n := 8) (i := 7) (by unfold isS; rw [hl]; omega)
      have hw3 : IntKind.i64.wrap (x * 256 + 240) = x * 256 + 240 := by rw [IntKind.wrap_i64]; omega
      have hw4 : IntKind.i64.wrap (y * 256 + 16) = y * 256 + 16 := by rw [IntKind.wrap_i64]; omega
      go_wp2_with fail
      refine wp_region_ext (W1.heap.size) (by kernel_rfl) (by kernel_rfl) ?_
      repeat (go_big_quiet_step (fail))
      refine wpQuiet_nil ?_
      intro W2 hwx
      obtain ⟨⟨W2, hb⟩, rfl⟩ := hwx
      replace hB := Lib.hid (below_on hB.out hb)
      go_wp2
      go_returns
      exact ⟨ret_two e1.symm e2.symm, hB.out⟩
set_option maxHeartbeats 8000000 in
theorem rSample_no (x y n i : Int) (w : World) (h1 : (n == 1) = false) (h2 : (n == 2) = false) (h4 : (n == 4) = false) (h8 : (n == 8) = false) : Calls Try.prog 31 #[.int .i64 x, .int .i64 y, .int .i64 n, .int .i64 i] w fun e w' => e = .returned (.tuple #[.int .i64 (spX x y n i), .int .i64 (spY x y n i)]) ∧ Below w.heap.size w w' := by
  have hl := posL_none h1 h2 h4 h8
  obtain ⟨e1, e2⟩ := sp_no (x := x) (y := y) (n := n) (i := i) (by unfold isS; rw [hl]; simp only [List.length_nil]; omega)
  have hc : (x < 0) ∨ (0 ≤ x ∧ 63 < x) ∨ (0 ≤ x ∧ x ≤ 63 ∧ y < 0) ∨ (0 ≤ x ∧ x ≤ 63 ∧ 0 ≤ y ∧ 63 < y) ∨ (0 ≤ x ∧ x ≤ 63 ∧ 0 ≤ y ∧ y ≤ 63 ∧ i < 0) ∨ (0 ≤ x ∧ x ≤ 63 ∧ 0 ≤ y ∧ y ≤ 63 ∧ 0 ≤ i) := by omega
  replace hc := Lib.hid hc
  have hp := rPos_no n w h1 h2 h4 h8
  clear h1 h2 h4 h8 hl
  go_enter Try.func31, Try.ntmps31
  go_wp2_with fail
  refine hp.mono ?_
  rintro e w1 ⟨rfl, rfl⟩
  obtain h | ⟨h, g⟩ | ⟨h, g, h2⟩ | ⟨h, g, h2, h3⟩ | ⟨h, g, h2, h3, h4⟩ | ⟨h, g, h2, h3, h4⟩ := hc.out
  all_goals
    clear hc
    go_wp2
    go_returns
    exact ⟨ret_two e1.symm e2.symm, Below.refl _ _⟩
theorem rSample_any (x y n i : Int) (w : World) : Calls Try.prog 31 #[.int .i64 x, .int .i64 y, .int .i64 n, .int .i64 i] w fun e w' => e = .returned (.tuple #[.int .i64 (spX x y n i), .int .i64 (spY x y n i)]) ∧ Below w.heap.size w w' := by
  by_cases h1 : n = 1
  · subst h1; exact rSample_1 x y i w
  by_cases h2 : n = 2
  · subst h2; exact rSample_2 x y i w
  by_cases h4 : n = 4
  · subst h4; exact rSample_4 x y i w
  by_cases h8 : n = 8
  · subst h8; exact rSample_8 x y i w
  exact rSample_no x y n i w (by simpa using h1) (by simpa using h2) (by simpa using h4) (by simpa using h8)
theorem rSample_at (x y n i a b : Int) (w : World) (ha : spX x y n i = a) (hb : spY x y n i = b) :
    Calls Try.prog 31 #[.int .i64 x, .int .i64 y, .int .i64 n, .int .i64 i] w fun e w' => e = .returned (.tuple #[.int .i64 a, .int .i64 b]) ∧ Below w.heap.size w w' := by subst ha hb; exact rSample_any x y n i w
/-- The list that Positions makes, by its length. -/
theorem rPos_len (n : Int) (w : World) : Calls Try.prog 30 #[.int .i64 n] w fun e w' => (∃ A, e = .returned (.slice A (posL n).length (posL n).length)) ∧ Below w.heap.size w w' := by
  by_cases h1 : n = 1
  · subst h1; exact (rPos_1 w).mono fun e w' ⟨h, h'⟩ => ⟨⟨_, h⟩, by subst h'; go_grown⟩
  by_cases h2 : n = 2
  · subst h2; exact (rPos_2 w).mono fun e w' ⟨h, h'⟩ => ⟨⟨_, h⟩, by subst h'; go_grown⟩
  by_cases h4 : n = 4
  · subst h4; exact (rPos_4 w).mono fun e w' ⟨h, h'⟩ => ⟨⟨_, h⟩, by subst h'; go_grown⟩
  by_cases h8 : n = 8
  · subst h8; exact (rPos_8 w).mono fun e w' ⟨h, h'⟩ => ⟨⟨_, h⟩, by subst h'; go_grown⟩
  have q1 : (n == 1) = false := by simpa using h1
  have q2 : (n == 2) = false := by simpa using h2
  have q4 : (n == 4) = false := by simpa using h4
  have q8 : (n == 8) = false := by simpa using h8
  rw [posL_none q1 q2 q4 q8]
  exact (rPos_no n w q1 q2 q4 q8).mono fun e w' ⟨h, h'⟩ => ⟨⟨_, h⟩, by subst h'; exact Below.refl _ _⟩
end Go.Proofs.Ytimgjlogbkgiaaa
