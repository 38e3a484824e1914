/- VaryingConstant returns true. -/
import Derived.Test.YthbagegkcpblgaaVar8
import Derived.Test.YthbagegkcpblgaaVar12
import Derived.Test.YthbagegkcpblgaaVar14
namespace Go.Proofs.Ythbagegkcpblgaa
open Go.RowKit
attribute [local go_sem] Ext.cell
theorem vals_same (r0 r1 : Int) {n : Nat} (f : Nat → Int) {k : Nat} (h : k < n) : valsAt r0 r1 n n f f f k = sat (f k) := by
  unfold valsAt compI
  rw [if_pos h]
  exact mix_same ..
set_option maxRecDepth 100000 in
set_option maxHeartbeats 16000000 in
theorem const_yes (x0 y0 z0 u0 x1 y1 z1 u1 x2 y2 z2 u2 : Int) (A0 A1 A2 : Option Addr) (n0 c0 n1 c1 n2 c2 : Nat) (pr : Int) (fr : Bool) (px py : Int) (A : Option Addr) (n c : Nat) (hn : n ≤ 17592186043904) (f : Nat → Int) (w : World) (k : Sl w A n c f) (hv : validB x0 y0 x1 y1 x2 y2 = true) :
    Calls Try.prog 8 #[.agg #[.int .i64 x0, .int .i64 y0, .int .i64 z0, .int .i64 u0, .slice A0 n0 c0, .int .i64 x1, .int .i64 y1, .int .i64 z1, .int .i64 u1, .slice A1 n1 c1, .int .i64 x2, .int .i64 y2, .int .i64 z2, .int .i64 u2, .slice A2 n2 c2, .int .i64 pr, .bool fr], .slice A n c, .agg #[.int .i64 px, .int .i64 py]] w fun e w' => e = .returned (.bool true) ∧ Below w.heap.size w w' := by
  have nn0 : (0 : Int) ≤ n := by omega
  have nn1 : (n : Int) ≤ 17592186043904 := by omega
  obtain ⟨r0, r1, hP, -⟩ := per_ex x0 y0 z0 u0 x1 y1 z1 u1 x2 y2 z2 u2 A A A n c n c n c pr fr px py
  obtain ⟨x, hx⟩ : ∃ x, clampI px 0 62 = x := ⟨_, rfl⟩
  obtain ⟨y, hy⟩ : ∃ y, clampI py 0 62 = y := ⟨_, rfl⟩
  obtain ⟨a0, a1, hQ0, -⟩ := per_ex x0 y0 z0 u0 x1 y1 z1 u1 x2 y2 z2 u2 A A A n c n c n c pr fr (x * 256 + 128) (y * 256 + 128)
  obtain ⟨b0, b1, hQ1, -⟩ := per_ex x0 y0 z0 u0 x1 y1 z1 u1 x2 y2 z2 u2 A A A n c n c n c pr fr ((x + 1) * 256 + 128) (y * 256 + 128)
  obtain ⟨d0, d1, hQ2, -⟩ := per_ex x0 y0 z0 u0 x1 y1 z1 u1 x2 y2 z2 u2 A A A n c n c n c pr fr (x * 256 + 128) ((y + 1) * 256 + 128)
  have hN : (if validB x0 y0 x1 y1 x2 y2 = true then n else 0) = n := by rw [hv]; rfl
  have hVl := Lib.hid (fun w k => values_any x0 y0 z0 u0 x1 y1 z1 u1 x2 y2 z2 u2 A A A n c n c n c pr fr px py w hn hn hn f f f k k k r0 r1 hP n hN)
  have hDr := Lib.hid (fun w k => deriv_any x0 y0 z0 u0 x1 y1 z1 u1 x2 y2 z2 u2 A A A n c n c n c pr fr px py x y hx hy w hn hn hn f f f k k k a0 a1 b0 b1 d0 d1 hQ0 hQ1 hQ2 n hN _ _ (fun _ => rfl) (fun _ => rfl))
  clear hN hP hQ0 hQ1 hQ2 hx hy
  replace hv := Lib.hid (fun w => valid_at x0 y0 z0 u0 x1 y1 z1 u1 x2 y2 z2 u2 A A A n c n c n c pr fr w true hv)
  have hl : Hid (∀ a, A = some a → 0 < n → a.block < w.heap.size) := Lib.hid (sl_lt k)
  have hk := Lib.hid ((Blk.new w 27 #[.int .i64 x0, .int .i64 y0, .int .i64 z0, .int .i64 u0, .slice A0 n0 c0, .int .i64 x1, .int .i64 y1, .int .i64 z1, .int .i64 u1, .slice A1 n1 c1, .int .i64 x2, .int .i64 y2, .int .i64 z2, .int .i64 u2, .slice A2 n2 c2, .int .i64 pr, .bool fr]).alloc (.cells #[.int .i64 px, .int .i64 py] 28))
  have hp := Lib.hid (Blk.new1 w 28 #[.int .i64 px, .int .i64 py] (.cells #[.int .i64 x0, .int .i64 y0, .int .i64 z0, .int .i64 u0, .slice A0 n0 c0, .int .i64 x1, .int .i64 y1, .int .i64 z1, .int .i64 u1, .slice A1 n1 c1, .int .i64 x2, .int .i64 y2, .int .i64 z2, .int .i64 u2, .slice A2 n2 c2, .int .i64 pr, .bool fr] 27))
  have hB : Hid (Below w.heap.size w ((w.alloc (.cells #[.int .i64 x0, .int .i64 y0, .int .i64 z0, .int .i64 u0, .slice A0 n0 c0, .int .i64 x1, .int .i64 y1, .int .i64 z1, .int .i64 u1, .slice A1 n1 c1, .int .i64 x2, .int .i64 y2, .int .i64 z2, .int .i64 u2, .slice A2 n2 c2, .int .i64 pr, .bool fr] 27)).alloc (.cells #[.int .i64 px, .int .i64 py] 28))) := Lib.hid (by go_grown)
  replace k := Lib.hid (k.call hB.out)
  go_enter Try.func8, Try.ntmps8
  go_wp2_with fail
  generalize (w.alloc (.cells #[.int .i64 x0, .int .i64 y0, .int .i64 z0, .int .i64 u0, .slice A0 n0 c0, .int .i64 x1, .int .i64 y1, .int .i64 z1, .int .i64 u1, .slice A1 n1 c1, .int .i64 x2, .int .i64 y2, .int .i64 z2, .int .i64 u2, .slice A2 n2 c2, .int .i64 pr, .bool fr] 27)).alloc (.cells #[.int .i64 px, .int .i64 py] 28) = X0 at *
  refine wp_loop_rounds 4 ?_
  rw [rounds_succ]
  have ca := hk.out.cell
  have fa := hk.out.frozen
  have la := hk.out.lt
  go_wp2_with fail
  clear ca fa la
  replace hk : Hid (Blk (X0.setCell ⟨w.heap.size, 4, none⟩ (.slice A n c)) w.heap.size 27 #[.int .i64 x0, .int .i64 y0, .int .i64 z0, .int .i64 u0, .slice A n c, .int .i64 x1, .int .i64 y1, .int .i64 z1, .int .i64 u1, .slice A1 n1 c1, .int .i64 x2, .int .i64 y2, .int .i64 z2, .int .i64 u2, .slice A2 n2 c2, .int .i64 pr, .bool fr]) := Lib.hid (hk.out.set_ 4 (.slice A n c))
  replace hp := Lib.hid (hp.out.far (p := ⟨w.heap.size, 4, none⟩) (by simp) (.slice A n c))
  replace hB := Lib.hid (hB.out.setCell (p := ⟨w.heap.size, 4, none⟩) (Nat.le_refl _) (.slice A n c))
  replace k := Lib.hid (k.out.setN (p := ⟨w.heap.size, 4, none⟩) (fun a e h => by have := hl.out a e h; simp; omega) (.slice A n c))
  generalize X0.setCell ⟨w.heap.size, 4, none⟩ (.slice A n c) = X1 at *
  rw [rounds_succ]
  have ca := hk.out.cell
  have fa := hk.out.frozen
  have la := hk.out.lt
  go_wp2_with fail
  clear ca fa la
  replace hk : Hid (Blk (X1.setCell ⟨w.heap.size, 9, none⟩ (.slice A n c)) w.heap.size 27 #[.int .i64 x0, .int .i64 y0, .int .i64 z0, .int .i64 u0, .slice A n c, .int .i64 x1, .int .i64 y1, .int .i64 z1, .int .i64 u1, .slice A n c, .int .i64 x2, .int .i64 y2, .int .i64 z2, .int .i64 u2, .slice A2 n2 c2, .int .i64 pr, .bool fr]) := Lib.hid (hk.out.set_ 9 (.slice A n c))
  replace hp := Lib.hid (hp.out.far (p := ⟨w.heap.size, 9, none⟩) (by simp) (.slice A n c))
  replace hB := Lib.hid (hB.out.setCell (p := ⟨w.heap.size, 9, none⟩) (Nat.le_refl _) (.slice A n c))
  replace k := Lib.hid (k.out.setN (p := ⟨w.heap.size, 9, none⟩) (fun a e h => by have := hl.out a e h; simp; omega) (.slice A n c))
  generalize X1.setCell ⟨w.heap.size, 9, none⟩ (.slice A n c) = X2 at *
  rw [rounds_succ]
  have ca := hk.out.cell
  have fa := hk.out.frozen
  have la := hk.out.lt
  go_wp2_with fail
  clear ca fa la
  replace hk : Hid (Blk (X2.setCell ⟨w.heap.size, 14, none⟩ (.slice A n c)) w.heap.size 27 #[.int .i64 x0, .int .i64 y0, .int .i64 z0, .int .i64 u0, .slice A n c, .int .i64 x1, .int .i64 y1, .int .i64 z1, .int .i64 u1, .slice A n c, .int .i64 x2, .int .i64 y2, .int .i64 z2, .int .i64 u2, .slice A n c, .int .i64 pr, .bool fr]) := Lib.hid (hk.out.set_ 14 (.slice A n c))
  replace hp := Lib.hid (hp.out.far (p := ⟨w.heap.size, 14, none⟩) (by simp) (.slice A n c))
  replace hB := Lib.hid (hB.out.setCell (p := ⟨w.heap.size, 14, none⟩) (Nat.le_refl _) (.slice A n c))
  replace k := Lib.hid (k.out.setN (p := ⟨w.heap.size, 14, none⟩) (fun a e h => by have := hl.out a e h; simp; omega) (.slice A n c))
  generalize X2.setCell ⟨w.heap.size, 14, none⟩ (.slice A n c) = X3 at *
  rw [rounds_succ]
  have cp := hp.out.cell
  have lp := hp.out.lt
  go_wp2_with (refine wpList_load_row rfl 27 _ rfl _ rfl _ _ _ _ hk.out Try.underlying27 rfl triInfo ?_)
  refine (hVl.out _ k.out).mono ?_
  rintro e W1 ⟨hb, G, g, rfl, hs, -⟩
  replace hk := Lib.hid (hk.out.call hb)
  replace hp := Lib.hid (hp.out.call hb)
  replace k := Lib.hid (k.out.call hb)
  replace hB := Lib.hid (below_on hB.out hb)
  replace hs := Lib.hid hs
  clear hb hVl cp lp
  have cp := hp.out.cell
  have lp := hp.out.lt
  go_wp2_with (refine wpList_load_row rfl 27 _ rfl _ rfl _ _ _ _ hk.out Try.underlying27 rfl triInfo ?_)
  refine (hDr.out _ k.out).mono ?_
  rintro e W2 ⟨hb, D, d, E, e', rfl, hs1, hs2, -, -⟩
  replace hk := Lib.hid (hk.out.call hb)
  replace hp := Lib.hid (hp.out.call hb)
  replace k := Lib.hid (k.out.call hb)
  replace hB := Lib.hid (below_on hB.out hb)
  replace hs := Lib.hid (hs.out.call hb)
  replace hs1 := Lib.hid hs1
  replace hs2 := Lib.hid hs2
  clear hb hDr cp lp
  go_wp2_with (refine wpList_load_row rfl 27 _ rfl _ rfl _ _ _ _ hk.out Try.underlying27 rfl triInfo ?_)
  refine (hv.out _).mono ?_
  rintro e W3 ⟨rfl, hb⟩
  replace hk := Lib.hid (hk.out.call hb)
  replace hp := Lib.hid (hp.out.call hb)
  replace k := Lib.hid (k.out.call hb)
  replace hB := Lib.hid (below_on hB.out hb)
  replace hs := Lib.hid ((hs.out.call hb).congr (g := fun i => sat (f i)) (fun i hi => vals_same r0 r1 f hi))
  replace hs1 := Lib.hid ((hs1.out.call hb).congr (g := fun _ => 0) (fun i hi => by rw [vals_same b0 b1 f hi, vals_same a0 a1 f hi]; exact fsub_self _))
  replace hs2 := Lib.hid ((hs2.out.call hb).congr (g := fun _ => 0) (fun i hi => by rw [vals_same d0 d1 f hi, vals_same a0 a1 f hi]; exact fsub_self _))
  clear hb hv hk hl
  go_wp2_with fail
  go_loopw [11] (fun i wr => ∃ j : Nat, j ≤ n ∧ i = .int .i64 j ∧ Below W3.heap.size W3 wr)
    (fun i _ => n - (intOf i).toNat)
  case atStart => exact ⟨0, by omega, rfl, Below.refl _ _⟩
  case round =>
    obtain ⟨j, hjn, rfl, hb⟩ := hrel
    replace hb := Lib.hid hb
    by_cases hlt : j < n
    · have hlt' : (j : Int) < n := by omega
      obtain ⟨a, rfl, -, -⟩ := k.out.get hlt
      obtain ⟨b, rfl, -, -⟩ := hs.out.get hlt
      obtain ⟨o1, rfl, -, -⟩ := hs1.out.get hlt
      obtain ⟨o2, rfl, -, -⟩ := hs2.out.get hlt
      obtain ⟨z, hz⟩ : ∃ z, f j = z := ⟨_, rfl⟩
      obtain ⟨v, hvv⟩ : ∃ v, sat z = v := ⟨_, rfl⟩
      have hS := Lib.hid (fun w => limited_at z v hvv w)
      have e1 : ∀ m : Ext wr wr.heap.size, m.val.cell? (a.add j) = some (.int .i64 z) := fun m => by
        obtain ⟨a', e, -, h⟩ := ((k.out.call hb.out).call m.below).get hlt
        obtain rfl := Option.some.inj e
        rw [← hz]; exact h
      have e2 : ∀ m : Ext wr wr.heap.size, m.val.cell? (b.add j) = some (.int .i64 v) := fun m => by
        obtain ⟨a', e, -, h⟩ := ((hs.out.call hb.out).call m.below).get hlt
        obtain rfl := Option.some.inj e
        rw [← hvv, ← hz]; exact h
      have e3 : ∀ m : Ext wr wr.heap.size, m.val.cell? (o1.add j) = some (.int .i64 0) := fun m => by
        obtain ⟨a', e, -, h⟩ := ((hs1.out.call hb.out).call m.below).get hlt
        obtain rfl := Option.some.inj e
        exact h
      have e4 : ∀ m : Ext wr wr.heap.size, m.val.cell? (o2.add j) = some (.int .i64 0) := fun m => by
        obtain ⟨a', e, -, h⟩ := ((hs2.out.call hb.out).call m.below).get hlt
        obtain rfl := Option.some.inj e
        exact h
      clear hz hvv
      go_wp2_with fail
      refine wp_region_ext wr.heap.size (by kernel_rfl) (by kernel_rfl) ?_
      repeat (go_big_quiet_step (first | (go_at_call 28; exact ext_same (hS.out _))))
      refine wpQuiet_nil ?_
      intro W4 hwx
      obtain ⟨⟨W4, hb4⟩, rfl⟩ := hwx
      clear e1 e2 e3 e4
      replace hb := Lib.hid (below_on hb.out hb4)
      clear hb4
      go_wp2_with fail
      go_roundw
      case rel => exact ⟨j + 1, by omega, by go_num, hb.out⟩
      case measure => simp [intOf]; omega
    · have he : j = n := by omega
      have hlt' : (n : Int) ≤ j := by omega
      subst he
      replace hp := Lib.hid (hp.out.call hb.out)
      replace hB := Lib.hid (below_on hB.out hb.out)
      clear hb hs hs1 hs2 k
      obtain ⟨v, hvv⟩ : ∃ v, sat px = v := ⟨_, rfl⟩
      have hS := Lib.hid (fun w => limited_at px v hvv w)
      have hM := Lib.hid (fun w => mix_at px py px px px v ((mix_same px py px).trans hvv) w)
      clear hvv
      have cp := hp.out.cell
      have lp := hp.out.lt
      go_wp2_with fail
      refine wp_region_ext wr.heap.size (by kernel_rfl) (by kernel_rfl) ?_
      repeat (go_big_quiet_step (first | (go_at_call 23; exact ext_call (Nat.le_refl _) (hM.out _)) | (go_at_call 28; exact ext_same (hS.out _)) | (go_at_call 16; exact ext_call (Nat.le_refl _) (example_true _))))
      refine wpQuiet_nil ?_
      intro W4 hwx
      obtain ⟨⟨W4, hb4⟩, rfl⟩ := hwx
      replace hB := Lib.hid (below_on hB.out hb4)
      clear hb4 cp lp
      go_wp2
      go_ret
      exact ⟨rfl, hB.out⟩
set_option maxRecDepth 100000 in
set_option maxHeartbeats 16000000 in
theorem const_no (x0 y0 z0 u0 x1 y1 z1 u1 x2 y2 z2 u2 : Int) (A0 A1 A2 : Option Addr) (n0 c0 n1 c1 n2 c2 : Nat) (pr : Int) (fr : Bool) (px py : Int) (A : Option Addr) (n c : Nat) (hn : n ≤ 17592186043904) (f : Nat → Int) (w : World) (k : Sl w A n c f) (hv : validB x0 y0 x1 y1 x2 y2 = false) :
    Calls Try.prog 8 #[.agg #[.int .i64 x0, .int .i64 y0, .int .i64 z0, .int .i64 u0, .slice A0 n0 c0, .int .i64 x1, .int .i64 y1, .int .i64 z1, .int .i64 u1, .slice A1 n1 c1, .int .i64 x2, .int .i64 y2, .int .i64 z2, .int .i64 u2, .slice A2 n2 c2, .int .i64 pr, .bool fr], .slice A n c, .agg #[.int .i64 px, .int .i64 py]] w fun e w' => e = .returned (.bool true) ∧ Below w.heap.size w w' := by
  have nn0 : (0 : Int) ≤ n := by omega
  have nn1 : (n : Int) ≤ 17592186043904 := by omega
  obtain ⟨r0, r1, hP, -⟩ := per_ex x0 y0 z0 u0 x1 y1 z1 u1 x2 y2 z2 u2 A A A n c n c n c pr fr px py
  obtain ⟨x, hx⟩ : ∃ x, clampI px 0 62 = x := ⟨_, rfl⟩
  obtain ⟨y, hy⟩ : ∃ y, clampI py 0 62 = y := ⟨_, rfl⟩
  obtain ⟨a0, a1, hQ0, -⟩ := per_ex x0 y0 z0 u0 x1 y1 z1 u1 x2 y2 z2 u2 A A A n c n c n c pr fr (x * 256 + 128) (y * 256 + 128)
  obtain ⟨b0, b1, hQ1, -⟩ := per_ex x0 y0 z0 u0 x1 y1 z1 u1 x2 y2 z2 u2 A A A n c n c n c pr fr ((x + 1) * 256 + 128) (y * 256 + 128)
  obtain ⟨d0, d1, hQ2, -⟩ := per_ex x0 y0 z0 u0 x1 y1 z1 u1 x2 y2 z2 u2 A A A n c n c n c pr fr (x * 256 + 128) ((y + 1) * 256 + 128)
  have hN : (if validB x0 y0 x1 y1 x2 y2 = true then n else 0) = 0 := by rw [hv]; rfl
  have hVl := Lib.hid (fun w k => values_any x0 y0 z0 u0 x1 y1 z1 u1 x2 y2 z2 u2 A A A n c n c n c pr fr px py w hn hn hn f f f k k k r0 r1 hP 0 hN)
  have hDr := Lib.hid (fun w k => deriv_any x0 y0 z0 u0 x1 y1 z1 u1 x2 y2 z2 u2 A A A n c n c n c pr fr px py x y hx hy w hn hn hn f f f k k k a0 a1 b0 b1 d0 d1 hQ0 hQ1 hQ2 0 hN _ _ (fun _ => rfl) (fun _ => rfl))
  clear hN hP hQ0 hQ1 hQ2 hx hy
  replace hv := Lib.hid (fun w => valid_at x0 y0 z0 u0 x1 y1 z1 u1 x2 y2 z2 u2 A A A n c n c n c pr fr w false hv)
  have hl : Hid (∀ a, A = some a → 0 < n → a.block < w.heap.size) := Lib.hid (sl_lt k)
  have hk := Lib.hid ((Blk.new w 27 #[.int .i64 x0, .int .i64 y0, .int .i64 z0, .int .i64 u0, .slice A0 n0 c0, .int .i64 x1, .int .i64 y1, .int .i64 z1, .int .i64 u1, .slice A1 n1 c1, .int .i64 x2, .int .i64 y2, .int .i64 z2, .int .i64 u2, .slice A2 n2 c2, .int .i64 pr, .bool fr]).alloc (.cells #[.int .i64 px, .int .i64 py] 28))
  have hp := Lib.hid (Blk.new1 w 28 #[.int .i64 px, .int .i64 py] (.cells #[.int .i64 x0, .int .i64 y0, .int .i64 z0, .int .i64 u0, .slice A0 n0 c0, .int .i64 x1, .int .i64 y1, .int .i64 z1, .int .i64 u1, .slice A1 n1 c1, .int .i64 x2, .int .i64 y2, .int .i64 z2, .int .i64 u2, .slice A2 n2 c2, .int .i64 pr, .bool fr] 27))
  have hB : Hid (Below w.heap.size w ((w.alloc (.cells #[.int .i64 x0, .int .i64 y0, .int .i64 z0, .int .i64 u0, .slice A0 n0 c0, .int .i64 x1, .int .i64 y1, .int .i64 z1, .int .i64 u1, .slice A1 n1 c1, .int .i64 x2, .int .i64 y2, .int .i64 z2, .int .i64 u2, .slice A2 n2 c2, .int .i64 pr, .bool fr] 27)).alloc (.cells #[.int .i64 px, .int .i64 py] 28))) := Lib.hid (by go_grown)
  replace k := Lib.hid (k.call hB.out)
  go_enter Try.func8, Try.ntmps8
  go_wp2_with fail
  generalize (w.alloc (.cells #[.int .i64 x0, .int .i64 y0, .int .i64 z0, .int .i64 u0, .slice A0 n0 c0, .int .i64 x1, .int .i64 y1, .int .i64 z1, .int .i64 u1, .slice A1 n1 c1, .int .i64 x2, .int .i64 y2, .int .i64 z2, .int .i64 u2, .slice A2 n2 c2, .int .i64 pr, .bool fr] 27)).alloc (.cells #[.int .i64 px, .int .i64 py] 28) = X0 at *
  refine wp_loop_rounds 4 ?_
  rw [rounds_succ]
  have ca := hk.out.cell
  have fa := hk.out.frozen
  have la := hk.out.lt
  go_wp2_with fail
  clear ca fa la
  replace hk : Hid (Blk (X0.setCell ⟨w.heap.size, 4, none⟩ (.slice A n c)) w.heap.size 27 #[.int .i64 x0, .int .i64 y0, .int .i64 z0, .int .i64 u0, .slice A n c, .int .i64 x1, .int .i64 y1, .int .i64 z1, .int .i64 u1, .slice A1 n1 c1, .int .i64 x2, .int .i64 y2, .int .i64 z2, .int .i64 u2, .slice A2 n2 c2, .int .i64 pr, .bool fr]) := Lib.hid (hk.out.set_ 4 (.slice A n c))
  replace hp := Lib.hid (hp.out.far (p := ⟨w.heap.size, 4, none⟩) (by simp) (.slice A n c))
  replace hB := Lib.hid (hB.out.setCell (p := ⟨w.heap.size, 4, none⟩) (Nat.le_refl _) (.slice A n c))
  replace k := Lib.hid (k.out.setN (p := ⟨w.heap.size, 4, none⟩) (fun a e h => by have := hl.out a e h; simp; omega) (.slice A n c))
  generalize X0.setCell ⟨w.heap.size, 4, none⟩ (.slice A n c) = X1 at *
  rw [rounds_succ]
  have ca := hk.out.cell
  have fa := hk.out.frozen
  have la := hk.out.lt
  go_wp2_with fail
  clear ca fa la
  replace hk : Hid (Blk (X1.setCell ⟨w.heap.size, 9, none⟩ (.slice A n c)) w.heap.size 27 #[.int .i64 x0, .int .i64 y0, .int .i64 z0, .int .i64 u0, .slice A n c, .int .i64 x1, .int .i64 y1, .int .i64 z1, .int .i64 u1, .slice A n c, .int .i64 x2, .int .i64 y2, .int .i64 z2, .int .i64 u2, .slice A2 n2 c2, .int .i64 pr, .bool fr]) := Lib.hid (hk.out.set_ 9 (.slice A n c))
  replace hp := Lib.hid (hp.out.far (p := ⟨w.heap.size, 9, none⟩) (by simp) (.slice A n c))
  replace hB := Lib.hid (hB.out.setCell (p := ⟨w.heap.size, 9, none⟩) (Nat.le_refl _) (.slice A n c))
  replace k := Lib.hid (k.out.setN (p := ⟨w.heap.size, 9, none⟩) (fun a e h => by have := hl.out a e h; simp; omega) (.slice A n c))
  generalize X1.setCell ⟨w.heap.size, 9, none⟩ (.slice A n c) = X2 at *
  rw [rounds_succ]
  have ca := hk.out.cell
  have fa := hk.out.frozen
  have la := hk.out.lt
  go_wp2_with fail
  clear ca fa la
  replace hk : Hid (Blk (X2.setCell ⟨w.heap.size, 14, none⟩ (.slice A n c)) w.heap.size 27 #[.int .i64 x0, .int .i64 y0, .int .i64 z0, .int .i64 u0, .slice A n c, .int .i64 x1, .int .i64 y1, .int .i64 z1, .int .i64 u1, .slice A n c, .int .i64 x2, .int .i64 y2, .int .i64 z2, .int .i64 u2, .slice A n c, .int .i64 pr, .bool fr]) := Lib.hid (hk.out.set_ 14 (.slice A n c))
  replace hp := Lib.hid (hp.out.far (p := ⟨w.heap.size, 14, none⟩) (by simp) (.slice A n c))
  replace hB := Lib.hid (hB.out.setCell (p := ⟨w.heap.size, 14, none⟩) (Nat.le_refl _) (.slice A n c))
  replace k := Lib.hid (k.out.setN (p := ⟨w.heap.size, 14, none⟩) (fun a e h => by have := hl.out a e h; simp; omega) (.slice A n c))
  generalize X2.setCell ⟨w.heap.size, 14, none⟩ (.slice A n c) = X3 at *
  rw [rounds_succ]
  have cp := hp.out.cell
  have lp := hp.out.lt
  go_wp2_with (refine wpList_load_row rfl 27 _ rfl _ rfl _ _ _ _ hk.out Try.underlying27 rfl triInfo ?_)
  refine (hVl.out _ k.out).mono ?_
  rintro e W1 ⟨hb, G, g, rfl, hs, -⟩
  replace hk := Lib.hid (hk.out.call hb)
  replace hp := Lib.hid (hp.out.call hb)
  replace k := Lib.hid (k.out.call hb)
  replace hB := Lib.hid (below_on hB.out hb)
  replace hs := Lib.hid hs
  clear hb hVl cp lp
  have cp := hp.out.cell
  have lp := hp.out.lt
  go_wp2_with (refine wpList_load_row rfl 27 _ rfl _ rfl _ _ _ _ hk.out Try.underlying27 rfl triInfo ?_)
  refine (hDr.out _ k.out).mono ?_
  rintro e W2 ⟨hb, D, d, E, e', rfl, hs1, hs2, -, -⟩
  replace hk := Lib.hid (hk.out.call hb)
  replace hp := Lib.hid (hp.out.call hb)
  replace k := Lib.hid (k.out.call hb)
  replace hB := Lib.hid (below_on hB.out hb)
  replace hs := Lib.hid (hs.out.call hb)
  replace hs1 := Lib.hid hs1
  replace hs2 := Lib.hid hs2
  clear hb hDr cp lp
  go_wp2_with (refine wpList_load_row rfl 27 _ rfl _ rfl _ _ _ _ hk.out Try.underlying27 rfl triInfo ?_)
  refine (hv.out _).mono ?_
  rintro e W3 ⟨rfl, hb⟩
  replace hk := Lib.hid (hk.out.call hb)
  replace hp := Lib.hid (hp.out.call hb)
  replace k := Lib.hid (k.out.call hb)
  replace hB := Lib.hid (below_on hB.out hb)
  clear hb hs hs1 hs2 hk hp k hv
  go_wp2_with fail
  refine (example_true _).mono ?_
  rintro e W4 ⟨rfl, hb⟩
  replace hB := Lib.hid (below_on hB.out hb)
  clear hb
  go_wp2
  go_ret
  exact ⟨rfl, hB.out⟩
theorem law_const (x0 y0 z0 u0 x1 y1 z1 u1 x2 y2 z2 u2 : Int) (A0 A1 A2 : Option Addr) (n0 c0 n1 c1 n2 c2 : Nat) (pr : Int) (fr : Bool) (px py : Int) (A : Option Addr) (n c : Nat) (hn : n ≤ 17592186043904) (f : Nat → Int) (w : World) (k : Sl w A n c f) :
    Calls Try.prog 8 #[.agg #[.int .i64 x0, .int .i64 y0, .int .i64 z0, .int .i64 u0, .slice A0 n0 c0, .int .i64 x1, .int .i64 y1, .int .i64 z1, .int .i64 u1, .slice A1 n1 c1, .int .i64 x2, .int .i64 y2, .int .i64 z2, .int .i64 u2, .slice A2 n2 c2, .int .i64 pr, .bool fr], .slice A n c, .agg #[.int .i64 px, .int .i64 py]] w fun e w' => e = .returned (.bool true) ∧ Below w.heap.size w w' := by
  cases hv : validB x0 y0 x1 y1 x2 y2 with
  | true => exact const_yes x0 y0 z0 u0 x1 y1 z1 u1 x2 y2 z2 u2 A0 A1 A2 n0 c0 n1 c1 n2 c2 pr fr px py A n c hn f w k hv
  | false => exact const_no x0 y0 z0 u0 x1 y1 z1 u1 x2 y2 z2 u2 A0 A1 A2 n0 c0 n1 c1 n2 c2 pr fr px py A n c hn f w k hv
end Go.Proofs.Ythbagegkcpblgaa
