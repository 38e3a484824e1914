/- EdgeShared returns true for every three points. -/
import Derived.Test.YtmcemnhhmlnfcaaEEx
namespace Go.Proofs.Ytmcemnhhmlnfcaa
open Go.RowKit
attribute [local go_sem] Ext.cell
theorem limited_at (x : Int) (w : World) (v : Int) (h : lim x = v) :
    Calls Try.prog 12 #[.int .i64 x] w fun e w' => e = .returned (.int .i64 v) ∧ w = w' := h ▸ limited_any _ _
set_option maxHeartbeats 16000000 in
theorem shared_walk (ax ay bx by' px py : Int) (w : World) (la lb ma mb f g : Int) (x y t s c d : Bool) (h1 : lim ax = la) (h2 : lim bx = lb) (h3 : lim ay = ma) (h4 : lim by' = mb)
    (hf : efI ax ay bx by' px py = f) (hg : efI bx by' ax ay px py = g) (hx : accB ax ay bx by' px py = x) (hy : accB bx by' ax ay px py = y) (ht : tlB ax ay bx by' = t) (hs : tlB bx by' ax ay = s)
    (e1 : (la == lb) = c) (e2 : (ma == mb) = d)
    (hgood : (c = true ∧ d = true ∧ f = 0 ∧ g = 0 ∧ x = false ∧ y = false) ∨ ((c = false ∨ d = false) ∧ f = -g ∧ y = !x ∧ s = !t ∧ (0 < f → x = true) ∧ (f < 0 → x = false))) :
    Calls Try.prog 3 #[.agg #[.int .i64 ax, .int .i64 ay], .agg #[.int .i64 bx, .int .i64 by'], .agg #[.int .i64 px, .int .i64 py]] w fun e w' => e = .returned (.bool true) ∧ Below w.heap.size w w' := by
  obtain ⟨q1, q2⟩ := efI_bound ax ay bx by' px py
  obtain ⟨q3, q4⟩ := efI_bound bx by' ax ay px py
  rw [hf] at q1 q2
  rw [hg] at q3 q4
  have hf := Lib.hid hf
  have hg := Lib.hid hg
  have hx := Lib.hid hx
  have hy := Lib.hid hy
  have ht := Lib.hid ht
  have hs := Lib.hid hs
  have h1 := Lib.hid h1
  have h2 := Lib.hid h2
  have h3 := Lib.hid h3
  have h4 := Lib.hid h4
  replace hgood := Lib.hid hgood
  go_enter Try.func3, Try.ntmps3
  have k0 := Lib.hid (((Blk.new w 22 #[.int .i64 ax, .int .i64 ay]).alloc (.cells #[.int .i64 bx, .int .i64 by'] 22)).alloc (.cells #[.int .i64 px, .int .i64 py] 22))
  have k1 := Lib.hid ((Blk.new1 w 22 #[.int .i64 bx, .int .i64 by'] (.cells #[.int .i64 ax, .int .i64 ay] 22)).alloc (.cells #[.int .i64 px, .int .i64 py] 22))
  have k2 := Lib.hid (Blk.new2 w 22 #[.int .i64 px, .int .i64 py] (.cells #[.int .i64 ax, .int .i64 ay] 22) (.cells #[.int .i64 bx, .int .i64 by'] 22))
  have hB : Hid (Below w.heap.size w (((w.alloc (.cells #[.int .i64 ax, .int .i64 ay] 22)).alloc (.cells #[.int .i64 bx, .int .i64 by'] 22)).alloc (.cells #[.int .i64 px, .int .i64 py] 22))) := Lib.hid (by go_grown)
  go_wp2_with fail
  generalize ((w.alloc (.cells #[.int .i64 ax, .int .i64 ay] 22)).alloc (.cells #[.int .i64 bx, .int .i64 by'] 22)).alloc (.cells #[.int .i64 px, .int .i64 py] 22) = W0 at *
  have c0 := k0.out.cell
  have c1 := k1.out.cell
  have c2 := k2.out.cell
  have l0 := k0.out.lt
  have l1 := k1.out.lt
  have l2 := k2.out.lt
  refine wp_region_ext (W0.heap.size) (by kernel_rfl) (by kernel_rfl) ?_
  repeat (go_big_quiet_step (first | (go_at_call 10; exact ext_same (function_at _ _ _ _ _ _ _ _ hf.out)) | (go_at_call 10; exact ext_same (function_at _ _ _ _ _ _ _ _ hg.out))))
  refine wpQuiet_nil ?_
  intro W1 hwx
  obtain ⟨⟨W1, hb⟩, rfl⟩ := hwx
  have hbx := hb
  clear hb
  clear c0 c1 c2 l0 l1 l2
  replace k0 := Lib.hid (k0.out.below hbx k0.out.lt)
  replace k1 := Lib.hid (k1.out.below hbx k1.out.lt)
  replace k2 := Lib.hid (k2.out.below hbx k2.out.lt)
  replace hB := Lib.hid (below_on hB.out hbx)
  clear hbx
  have c0 := k0.out.cell
  have c1 := k1.out.cell
  have c2 := k2.out.cell
  have l0 := k0.out.lt
  have l1 := k1.out.lt
  have l2 := k2.out.lt
  go_wp2_with fail
  refine wp_region_ext (W1.heap.size) (by kernel_rfl) (by kernel_rfl) ?_
  repeat (go_big_quiet_step (first | (go_at_call 11; exact ext_same (accepts_at _ _ _ _ _ _ _ _ hx.out)) | (go_at_call 11; exact ext_same (accepts_at _ _ _ _ _ _ _ _ hy.out))))
  refine wpQuiet_nil ?_
  intro W2 hwx
  obtain ⟨⟨W2, hb⟩, rfl⟩ := hwx
  have hbx := hb
  clear hb
  clear c0 c1 c2 l0 l1 l2
  replace k0 := Lib.hid (k0.out.below hbx k0.out.lt)
  replace k1 := Lib.hid (k1.out.below hbx k1.out.lt)
  replace k2 := Lib.hid (k2.out.below hbx k2.out.lt)
  replace hB := Lib.hid (below_on hB.out hbx)
  clear hbx
  have c0 := k0.out.cell
  have c1 := k1.out.cell
  have c2 := k2.out.cell
  have l0 := k0.out.lt
  have l1 := k1.out.lt
  have l2 := k2.out.lt
  go_wp2_with fail
  obtain ⟨rfl, rfl, rfl, rfl, rfl, rfl⟩ | ⟨hcd, hfg, rfl, rfl, p1, p2⟩ := hgood.out
  · clear hgood
    refine wp_region_ext (W2.heap.size) (by kernel_rfl) (by kernel_rfl) ?_
    repeat (go_big_quiet_step (first | (go_at_call 12; exact ext_same (limited_at _ _ _ h1.out)) | (go_at_call 12; exact ext_same (limited_at _ _ _ h2.out)) | (go_at_call 12; exact ext_same (limited_at _ _ _ h3.out)) | (go_at_call 12; exact ext_same (limited_at _ _ _ h4.out))))
    refine wpQuiet_nil ?_
    intro W3 hwx
    obtain ⟨⟨W3, hb⟩, rfl⟩ := hwx
    have hbx := hb
    clear hb
    clear c0 c1 c2 l0 l1 l2
    replace k0 := Lib.hid (k0.out.below hbx k0.out.lt)
    replace k1 := Lib.hid (k1.out.below hbx k1.out.lt)
    replace k2 := Lib.hid (k2.out.below hbx k2.out.lt)
    replace hB := Lib.hid (below_on hB.out hbx)
    clear hbx
    have c0 := k0.out.cell
    have c1 := k1.out.cell
    have c2 := k2.out.cell
    have l0 := k0.out.lt
    have l1 := k1.out.lt
    have l2 := k2.out.lt
    go_wp2_with fail
    refine (example_true _).mono ?_
    rintro e w1 ⟨rfl, hb1⟩
    have hB1 := Lib.hid (below_on hB.out hb1)
    clear hb1
    go_wp2
    go_ret
    exact ⟨rfl, hB1.out⟩
  · clear hgood
    have hw : IntKind.i64.wrap (-g) = -g := by rw [IntKind.wrap_i64]; omega
    have e3 : (f == -g) = true := by simpa using hfg
    have ez : ∃ z1 z2, decide (f ≤ 0) = z1 ∧ decide (0 ≤ f) = z2 ∧ ((x = true ∧ z2 = true) ∨ (x = false ∧ z1 = true)) := by
      refine ⟨_, _, rfl, rfl, ?_⟩
      cases x
      · have : ¬ 0 < f := fun h => by simpa using p1 h
        exact .inr ⟨rfl, by simp; omega⟩
      · have : ¬ f < 0 := fun h => by simpa using p2 h
        exact .inl ⟨rfl, by simp; omega⟩
    obtain ⟨z1, z2, ez1, ez2, hz⟩ := ez
    clear p1 p2 hfg
    have hB0 := hB
    have hcc : c = false ∨ (c = true ∧ d = false) := by cases c <;> cases d <;> simp_all
    clear hcd
    rcases hcc with rfl | ⟨rfl, rfl⟩
    all_goals
      refine wp_region_ext (W2.heap.size) (by kernel_rfl) (by kernel_rfl) ?_
      repeat (go_big_quiet_step (first | (go_at_call 12; exact ext_same (limited_at _ _ _ h1.out)) | (go_at_call 12; exact ext_same (limited_at _ _ _ h2.out)) | (go_at_call 12; exact ext_same (limited_at _ _ _ h3.out)) | (go_at_call 12; exact ext_same (limited_at _ _ _ h4.out))))
      refine wpQuiet_nil ?_
      intro W3 hwx
      obtain ⟨⟨W3, hb⟩, rfl⟩ := hwx
      have hbx := hb
      clear hb
      clear c0 c1 c2 l0 l1 l2
      replace k0 := Lib.hid (k0.out.below hbx k0.out.lt)
      replace k1 := Lib.hid (k1.out.below hbx k1.out.lt)
      replace k2 := Lib.hid (k2.out.below hbx k2.out.lt)
      replace hB := Lib.hid (below_on hB.out hbx)
      clear hbx
      have c0 := k0.out.cell
      have c1 := k1.out.cell
      have c2 := k2.out.cell
      have l0 := k0.out.lt
      have l1 := k1.out.lt
      have l2 := k2.out.lt
      go_wp2_with fail
      obtain ⟨rfl, rfl⟩ | ⟨rfl, rfl⟩ := hz
      all_goals (cases t)
      all_goals (first | cases z1 | cases z2)
      all_goals
        refine wp_region_ext (W3.heap.size) (by kernel_rfl) (by kernel_rfl) ?_
        repeat (go_big_quiet_step (first | (go_at_call 14; exact ext_same (topLeft_at _ _ _ _ _ _ ht.out)) | (go_at_call 14; exact ext_same (topLeft_at _ _ _ _ _ _ hs.out)) | (go_at_call 13; exact ext_call (Nat.le_refl _) (example_true _))))
        refine wpQuiet_nil ?_
        intro W4 hwx
        obtain ⟨⟨W4, hb⟩, rfl⟩ := hwx
        have hbx := hb
        clear hb
        clear c0 c1 c2 l0 l1 l2
        replace k0 := Lib.hid (k0.out.below hbx k0.out.lt)
        replace k1 := Lib.hid (k1.out.below hbx k1.out.lt)
        replace k2 := Lib.hid (k2.out.below hbx k2.out.lt)
        replace hB := Lib.hid (below_on hB.out hbx)
        clear hbx
        have c0 := k0.out.cell
        have c1 := k1.out.cell
        have c2 := k2.out.cell
        have l0 := k0.out.lt
        have l1 := k1.out.lt
        have l2 := k2.out.lt
        go_wp2
        go_ret
        exact ⟨rfl, hB.out⟩
end Go.Proofs.Ytmcemnhhmlnfcaa
