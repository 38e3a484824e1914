/- The walk of CoverageOnce. -/
import Derived.Test.YtgalpmiojgjkhaaCEx
import Derived.Test.YtgalpmiojgjkhaaStSub
import Derived.Test.YtgalpmiojgjkhaaDivisor
namespace Go.Proofs.Ytgalpmiojgjkhaa
open Go.RowKit
attribute [local go_sem] Ext.cell
theorem divisor_of (dx dy a b : Int) (ha : a = max dx (-dx)) (hb : b = max dy (-dy)) (h1 : -16384 ≤ dx ∧ dx ≤ 16384) (h2 : -16384 ≤ dy ∧ dy ≤ 16384) (g : Nat) (hg : Nat.gcd dx.natAbs dy.natAbs = g) (w : World) :
    Calls Try.prog 13 #[.int .i64 a, .int .i64 b] w fun e w' => e = .returned (.int .i64 g) ∧ Below w.heap.size w w' := by
  have e1 : a = (dx.natAbs : Int) := by omega
  have e2 : b = (dy.natAbs : Int) := by omega
  rw [e1, e2, ← hg]
  exact divisor_any _ _ (by omega) (by omega) w
set_option maxRecDepth 100000 in
set_option maxHeartbeats 4000000 in
theorem once_no (x0 y0 z0 u0 x1 y1 z1 u1 x2 y2 z2 u2 : Int) (A0 A1 A2 : Option Addr) (n0 c0 n1 c1 n2 c2 : Nat) (pr : Int) (fr : Bool) (k x y n : Int) (w : World) (hv : validB x0 y0 x1 y1 x2 y2 = false) :
    Calls Try.prog 4 #[.agg #[.int .i64 x0, .int .i64 y0, .int .i64 z0, .int .i64 u0, .slice A0 n0 c0, .int .i64 x1, .int .i64 y1, .int .i64 z1, .int .i64 u1, .slice A1 n1 c1, .int .i64 x2, .int .i64 y2, .int .i64 z2, .int .i64 u2, .slice A2 n2 c2, .int .i64 pr, .bool fr], .int .i64 k, .int .i64 x, .int .i64 y, .int .i64 n] w fun e w' => e = .returned (.bool true) ∧ Below w.heap.size w w' := by
  replace hv := Lib.hid hv
  go_enter Try.func4, Try.ntmps4
  have kt := Lib.hid (Blk.new w 27 #[.int .i64 x0, .int .i64 y0, .int .i64 z0, .int .i64 u0, .slice A0 n0 c0, .int .i64 x1, .int .i64 y1, .int .i64 z1, .int .i64 u1, .slice A1 n1 c1, .int .i64 x2, .int .i64 y2, .int .i64 z2, .int .i64 u2, .slice A2 n2 c2, .int .i64 pr, .bool fr])
  have hB : Hid (Below w.heap.size w (w.alloc (.cells #[.int .i64 x0, .int .i64 y0, .int .i64 z0, .int .i64 u0, .slice A0 n0 c0, .int .i64 x1, .int .i64 y1, .int .i64 z1, .int .i64 u1, .slice A1 n1 c1, .int .i64 x2, .int .i64 y2, .int .i64 z2, .int .i64 u2, .slice A2 n2 c2, .int .i64 pr, .bool fr] 27))) := Lib.hid (by go_grown)
  have ckt := kt.out.cell
  have lkt := kt.out.lt
  go_wp2_with (first | refine wpList_load_row rfl 27 _ rfl _ rfl _ _ _ _ kt.out Try.underlying27 rfl triInfo ?_ | refine wpList_load_rowG rfl 27 _ rfl _ rfl _ _ _ _ kt.out Try.underlying27 rfl triInfo ?_)
  clear ckt lkt
  refine (valid_at _ _ _ _ _ _ _ _ _ _ _ _ _ _ _ _ _ _ _ _ _ _ _ _ _ hv.out).mono ?_
  rintro e W1 ⟨rfl, hb⟩
  replace kt := Lib.hid (kt.out.call hb)
  replace hB := Lib.hid (below_on hB.out hb)
  clear hb
  have ckt := kt.out.cell
  have lkt := kt.out.lt
  go_wp2_with (fail)
  clear ckt lkt
  refine (example_true _).mono ?_
  rintro e W2 ⟨rfl, hb⟩
  replace kt := Lib.hid (kt.out.call hb)
  replace hB := Lib.hid (below_on hB.out hb)
  clear hb
  go_wp2
  go_ret
  exact ⟨rfl, hB.out⟩
set_option maxRecDepth 100000 in
set_option maxHeartbeats 16000000 in
theorem once_walk (x0 y0 z0 u0 x1 y1 z1 u1 x2 y2 z2 u2 : Int) (A0 A1 A2 : Option Addr) (n0 c0 n1 c1 n2 c2 : Nat) (pr : Int) (fr : Bool) (k x y n : Int) (w : World) (dx dy qx qy mx my M M1 M2 : Int) (g : Nat) (hv : validB x0 y0 x1 y1 x2 y2 = true) (hdx : IntKind.i64.wrap (x2 - x1) = dx) (hdy : IntKind.i64.wrap (y2 - y1) = dy)
    (hbx : -16384 ≤ dx ∧ dx ≤ 16384) (hby : -16384 ≤ dy ∧ dy ≤ 16384) (hg : Nat.gcd dx.natAbs dy.natAbs = g) (hgood : (g : Int) < 2 ∨ (2 ≤ (g : Int) ∧ k < 1) ∨ (2 ≤ (g : Int) ∧ 1 ≤ k ∧ g ≤ k) ∨ (2 ≤ (g : Int) ∧ 1 ≤ k ∧ k < g ∧
      Int.tdiv dx g = qx ∧ Int.tdiv dy g = qy ∧ IntKind.i64.wrap qx = qx ∧ IntKind.i64.wrap qy = qy ∧ IntKind.i64.wrap (qx * k) = qx * k ∧ IntKind.i64.wrap (qy * k) = qy * k ∧ IntKind.i64.wrap (x1 + qx * k) = mx ∧ IntKind.i64.wrap (y1 + qy * k) = my ∧
      Hid (validB x0 y0 x1 y1 mx my = true) ∧ Hid (validB x0 y0 mx my x2 y2 = true) ∧ Hid (maskI x0 y0 x1 y1 x2 y2 x y n = M) ∧ Hid (maskI x0 y0 x1 y1 mx my x y n = M1) ∧ Hid (maskI x0 y0 mx my x2 y2 x y n = M2) ∧ bits .and .i64 M1 M2 = 0 ∧ bits .or .i64 M1 M2 = M)) :
    Calls Try.prog 4 #[.agg #[.int .i64 x0, .int .i64 y0, .int .i64 z0, .int .i64 u0, .slice A0 n0 c0, .int .i64 x1, .int .i64 y1, .int .i64 z1, .int .i64 u1, .slice A1 n1 c1, .int .i64 x2, .int .i64 y2, .int .i64 z2, .int .i64 u2, .slice A2 n2 c2, .int .i64 pr, .bool fr], .int .i64 k, .int .i64 x, .int .i64 y, .int .i64 n] w fun e w' => e = .returned (.bool true) ∧ Below w.heap.size w w' := by
  replace hv := Lib.hid hv
  replace hg := Lib.hid hg
  replace hgood := Lib.hid hgood
  replace hbx := Lib.hid hbx
  replace hby := Lib.hid hby
  have hw0 : IntKind.i64.wrap 0 = 0 := by decide
  have hw1 : IntKind.i64.wrap 1 = 1 := by decide
  have hw2 : IntKind.i64.wrap 2 = 2 := by decide
  have t31 : (Try.prog.info? 24).map (·.size) = some 5 := by kernel_rfl
  go_enter Try.func4, Try.ntmps4
  have kt := Lib.hid (Blk.new w 27 #[.int .i64 x0, .int .i64 y0, .int .i64 z0, .int .i64 u0, .slice A0 n0 c0, .int .i64 x1, .int .i64 y1, .int .i64 z1, .int .i64 u1, .slice A1 n1 c1, .int .i64 x2, .int .i64 y2, .int .i64 z2, .int .i64 u2, .slice A2 n2 c2, .int .i64 pr, .bool fr])
  have hB : Hid (Below w.heap.size w (w.alloc (.cells #[.int .i64 x0, .int .i64 y0, .int .i64 z0, .int .i64 u0, .slice A0 n0 c0, .int .i64 x1, .int .i64 y1, .int .i64 z1, .int .i64 u1, .slice A1 n1 c1, .int .i64 x2, .int .i64 y2, .int .i64 z2, .int .i64 u2, .slice A2 n2 c2, .int .i64 pr, .bool fr] 27))) := Lib.hid (by go_grown)
  have ckt := kt.out.cell
  have lkt := kt.out.lt
  go_wp2_with (first | refine wpList_load_row rfl 27 _ rfl _ rfl _ _ _ _ kt.out Try.underlying27 rfl triInfo ?_ | refine wpList_load_rowG rfl 27 _ rfl _ rfl _ _ _ _ kt.out Try.underlying27 rfl triInfo ?_)
  clear ckt lkt
  refine (valid_at _ _ _ _ _ _ _ _ _ _ _ _ _ _ _ _ _ _ _ _ _ _ _ _ _ hv.out).mono ?_
  rintro e W1 ⟨rfl, hb⟩
  replace kt := Lib.hid (kt.out.call hb)
  replace hB := Lib.hid (below_on hB.out hb)
  clear hb
  have ckt := kt.out.cell
  have lkt := kt.out.lt
  go_wp2_with (fail)
  clear ckt lkt
  refine' wp_region_fresh 14 [⟨9, 11, 24, #[.int .i64 0, .int .i64 0, .int .i64 0, .int .i64 0, .slice none 0 0], 12, #[.int .i64 x0, .int .i64 y0, .int .i64 z0, .int .i64 u0, .slice A0 n0 c0]⟩, ⟨10, 12, 24, #[.int .i64 0, .int .i64 0, .int .i64 0, .int .i64 0, .slice none 0 0], 13, #[.int .i64 x1, .int .i64 y1, .int .i64 z1, .int .i64 u1, .slice A1 n1 c1]⟩, ⟨11, 13, 24, #[.int .i64 0, .int .i64 0, .int .i64 0, .int .i64 0, .slice none 0 0], 14, #[.int .i64 x2, .int .i64 y2, .int .i64 z2, .int .i64 u2, .slice A2 n2 c2]⟩] (by kernel_rfl) (by kernel_rfl) (by simp) (by simp) (by simp) (by simp) ?hz ?h1 ?hs ?h2
  case hz =>
    intro z hz
    simp only [List.mem_cons, List.not_mem_nil, or_false] at hz
    rcases hz with rfl | rfl | rfl
    all_goals exact ⟨by simp, by simp, _, rfl, rfl, rfl, fun ev xw => by simp [go_sem, ptrTo, Let.at_]⟩
  case h1 =>
    intro u hu
    have ktu := kt.out.below hu kt.out.lt
    have ckt := ktu.cell
    have lkt := ktu.lt
    simp only [List.take_succ_cons, List.take_zero, List.filter, isMk, isAl, isSt, Bool.or_false, Bool.or_true, Bool.not_true, Bool.not_false]
    repeat (go_big_quiet_step (first | fail))
    exact wpQuiet_nil rfl
  case hs =>
    intro z hz
    simp only [List.mem_cons, List.not_mem_nil, or_false] at hz
    rcases hz with rfl | rfl | rfl
    · exact fun _ => ⟨_, 24, _, rfl, rfl, by simp, rfl, rfl, (by kernel_rfl), rfl, by kernel_rfl⟩
    · exact fun _ => ⟨_, 24, _, rfl, rfl, by simp, rfl, rfl, (by kernel_rfl), rfl, by kernel_rfl⟩
    · exact fun h => absurd h (by simp)
  case h2 =>
    intro ℓ xw hlet
    obtain ⟨hbx, hlx, hnx⟩ := hlet
    obtain ⟨ka, lka⟩ := hlx ⟨9, 11, 24, #[.int .i64 0, .int .i64 0, .int .i64 0, .int .i64 0, .slice none 0 0], 12, #[.int .i64 x0, .int .i64 y0, .int .i64 z0, .int .i64 u0, .slice A0 n0 c0]⟩ (by simp)
    obtain ⟨kb, lkb⟩ := hlx ⟨10, 12, 24, #[.int .i64 0, .int .i64 0, .int .i64 0, .int .i64 0, .slice none 0 0], 13, #[.int .i64 x1, .int .i64 y1, .int .i64 z1, .int .i64 u1, .slice A1 n1 c1]⟩ (by simp)
    obtain ⟨kc, lkc⟩ := hlx ⟨11, 13, 24, #[.int .i64 0, .int .i64 0, .int .i64 0, .int .i64 0, .slice none 0 0], 14, #[.int .i64 x2, .int .i64 y2, .int .i64 z2, .int .i64 u2, .slice A2 n2 c2]⟩ (by simp)
    have nkakb := hnx ⟨9, 11, 24, #[.int .i64 0, .int .i64 0, .int .i64 0, .int .i64 0, .slice none 0 0], 12, #[.int .i64 x0, .int .i64 y0, .int .i64 z0, .int .i64 u0, .slice A0 n0 c0]⟩ (by simp) ⟨10, 12, 24, #[.int .i64 0, .int .i64 0, .int .i64 0, .int .i64 0, .slice none 0 0], 13, #[.int .i64 x1, .int .i64 y1, .int .i64 z1, .int .i64 u1, .slice A1 n1 c1]⟩ (by simp) (by simp)
    have nkakc := hnx ⟨9, 11, 24, #[.int .i64 0, .int .i64 0, .int .i64 0, .int .i64 0, .slice none 0 0], 12, #[.int .i64 x0, .int .i64 y0, .int .i64 z0, .int .i64 u0, .slice A0 n0 c0]⟩ (by simp) ⟨11, 13, 24, #[.int .i64 0, .int .i64 0, .int .i64 0, .int .i64 0, .slice none 0 0], 14, #[.int .i64 x2, .int .i64 y2, .int .i64 z2, .int .i64 u2, .slice A2 n2 c2]⟩ (by simp) (by simp)
    have nkbkc := hnx ⟨10, 12, 24, #[.int .i64 0, .int .i64 0, .int .i64 0, .int .i64 0, .slice none 0 0], 13, #[.int .i64 x1, .int .i64 y1, .int .i64 z1, .int .i64 u1, .slice A1 n1 c1]⟩ (by simp) ⟨11, 13, 24, #[.int .i64 0, .int .i64 0, .int .i64 0, .int .i64 0, .slice none 0 0], 14, #[.int .i64 x2, .int .i64 y2, .int .i64 z2, .int .i64 u2, .slice A2 n2 c2]⟩ (by simp) (by simp)
    clear hnx hlx
    dsimp only [List.drop, lay, List.foldl, ptrTo] at *
    generalize ℓ 9 = pka at *
    generalize ℓ 10 = pkb at *
    generalize ℓ 11 = pkc at *
    replace ka : Hid (Blk xw pka 24 #[.int .i64 x0, .int .i64 y0, .int .i64 z0, .int .i64 u0, .slice A0 n0 c0]) := Lib.hid ka
    replace kb : Hid (Blk xw pkb 24 #[.int .i64 x1, .int .i64 y1, .int .i64 z1, .int .i64 u1, .slice A1 n1 c1]) := Lib.hid kb
    replace kc : Hid (Blk xw pkc 24 #[.int .i64 0, .int .i64 0, .int .i64 0, .int .i64 0, .slice none 0 0]) := Lib.hid kc
    simp only [Act.put, List.setIfInBounds_toArray, List.set_cons_zero, List.set_cons_succ]
    refine wpList_store_row rfl 24 _ _ rfl pkc #[.int .i64 x2, .int .i64 y2, .int .i64 z2, .int .i64 u2, .slice A2 n2 c2] rfl rfl 24 _ kc.out (by kernel_rfl) rfl (by kernel_rfl) ?_
    have ka' := Lib.hid (Blk.farRow ka.out nkakc #[.int .i64 x2, .int .i64 y2, .int .i64 z2, .int .i64 u2, .slice A2 n2 c2])
    have kb' := Lib.hid (Blk.farRow kb.out nkbkc #[.int .i64 x2, .int .i64 y2, .int .i64 z2, .int .i64 u2, .slice A2 n2 c2])
    have kc' := Lib.hid (Blk.setRow kc.out #[.int .i64 x2, .int .i64 y2, .int .i64 z2, .int .i64 u2, .slice A2 n2 c2])
    replace kt := Lib.hid (Blk.farRow (kt.out.below hbx kt.out.lt) (Nat.ne_of_lt (Nat.lt_of_lt_of_le kt.out.lt lkc)) #[.int .i64 x2, .int .i64 y2, .int .i64 z2, .int .i64 u2, .slice A2 n2 c2])
    replace hB := Lib.hid (below_setRow (below_on hB.out hbx) (Nat.le_trans hB.out.size lkc) #[.int .i64 x2, .int .i64 y2, .int .i64 z2, .int .i64 u2, .slice A2 n2 c2])
    clear ka kb kc
    have ka := ka'
    have kb := kb'
    have kc := kc'
    clear hbx ka' lka kb' lkb kc' lkc nkakb nkakc nkbkc
    refine wpList_nil ?_
    dsimp only [Act.put]
    generalize (xw.setRow pkc #[.int .i64 x2, .int .i64 y2, .int .i64 z2, .int .i64 u2, .slice A2 n2 c2]) = W2 at *
    have ckt := kt.out.cell
    have lkt := kt.out.lt
    have cka := ka.out.cell
    have lka := ka.out.lt
    have ckb := kb.out.cell
    have lkb := kb.out.lt
    have ckc := kc.out.cell
    have lkc := kc.out.lt
    go_wp2_with (fail)
    refine wp_region_ext (W2.heap.size) (by kernel_rfl) (by kernel_rfl) ?_
    repeat (go_big_quiet_step (first | fail))
    refine wpQuiet_nil ?_
    intro W3 hwx
    obtain ⟨⟨W3, hb⟩, rfl⟩ := hwx
    clear ckt lkt cka lka ckb lkb ckc lkc
    replace kt := Lib.hid (kt.out.call hb)
    replace ka := Lib.hid (ka.out.call hb)
    replace kb := Lib.hid (kb.out.call hb)
    replace kc := Lib.hid (kc.out.call hb)
    replace hB := Lib.hid (below_on hB.out hb)
    clear hb
    have hn1 : IntKind.i64.wrap (-dx) = -dx := by (have := hbx.out; rw [IntKind.wrap_i64]; omega)
    have hn2 : IntKind.i64.wrap (-dy) = -dy := by (have := hby.out; rw [IntKind.wrap_i64]; omega)
    go_upto_region 5 with fail
    go_cut [16] (fun v W' => v = .int .i64 (g : Int) ∧ Blk W' w.heap.size 27 #[.int .i64 x0, .int .i64 y0, .int .i64 z0, .int .i64 u0, .slice A0 n0 c0, .int .i64 x1, .int .i64 y1, .int .i64 z1, .int .i64 u1, .slice A1 n1 c1, .int .i64 x2, .int .i64 y2, .int .i64 z2, .int .i64 u2, .slice A2 n2 c2, .int .i64 pr, .bool fr] ∧ Blk W' pka 24 #[.int .i64 x0, .int .i64 y0, .int .i64 z0, .int .i64 u0, .slice A0 n0 c0] ∧ Blk W' pkb 24 #[.int .i64 x1, .int .i64 y1, .int .i64 z1, .int .i64 u1, .slice A1 n1 c1] ∧ Blk W' pkc 24 #[.int .i64 x2, .int .i64 y2, .int .i64 z2, .int .i64 u2, .slice A2 n2 c2] ∧ Below w.heap.size w W')
    case first =>
      go_wp2_with fail
      all_goals
        refine (divisor_of dx dy _ _ (by omega) (by omega) hbx.out hby.out g hg.out _).mono ?_
        rintro e W9 ⟨rfl, hb⟩
        have r1 := kt.out.call hb
        have r2 := ka.out.call hb
        have r3 := kb.out.call hb
        have r4 := kc.out.call hb
        have r5 := below_on hB.out hb
        clear hb
        go_wp2_with fail
        go_meet
        case rel => exact ⟨rfl, r1, r2, r3, r4, r5⟩
    obtain ⟨rfl, r1, r2, r3, r4, r5⟩ := hcut
    clear kt ka kb kc hB hn1 hn2
    have kt := Lib.hid r1
    have ka := Lib.hid r2
    have kb := Lib.hid r3
    have kc := Lib.hid r4
    have hB := Lib.hid r5
    clear r1 r2 r3 r4 r5
    obtain g1 | ⟨g1, g2⟩ | ⟨g1, g2, g3⟩ | ⟨g1, g2, g3, q1, q2, q3, q4, q5, q6, q7, q8, v1, v2, m0, m1, m2, a1, a2⟩ := hgood.out
    · clear hgood
      go_wp2_with fail
      refine (example_true _).mono ?_
      rintro e WE ⟨rfl, hb⟩
      have hB' := below_on hB.out hb
      clear hb
      go_wp2
      go_ret
      exact ⟨rfl, hB'⟩
    · clear hgood
      go_wp2_with fail
      refine (example_true _).mono ?_
      rintro e WE ⟨rfl, hb⟩
      have hB' := below_on hB.out hb
      clear hb
      go_wp2
      go_ret
      exact ⟨rfl, hB'⟩
    · clear hgood
      go_wp2_with fail
      refine (example_true _).mono ?_
      rintro e WE ⟨rfl, hb⟩
      have hB' := below_on hB.out hb
      clear hb
      go_wp2
      go_ret
      exact ⟨rfl, hB'⟩
    clear hgood
    have g0 : ¬ ((g : Int) = 0) := by omega
    go_wp2_with fail
    refine' wp_region_fresh 18 [⟨17, 17, 24, #[.int .i64 0, .int .i64 0, .int .i64 0, .int .i64 0, .slice none 0 0], 18, #[.int .i64 mx, .int .i64 my, .int .i64 0, .int .i64 0, .slice none 0 0]⟩] (by kernel_rfl) (by kernel_rfl) (by simp) (by simp) (by simp) (by simp) ?hz ?h1 ?hs ?h2
    case hz =>
      intro z hz
      simp only [List.mem_cons, List.not_mem_nil, or_false] at hz
      rcases hz with rfl
      all_goals exact ⟨by simp, by simp, _, rfl, rfl, rfl, fun ev xw => by simp [go_sem, ptrTo, Let.at_]⟩
    case h1 =>
      intro u hu
      have ktu := kt.out.below hu kt.out.lt
      have ckt := ktu.cell
      have lkt := ktu.lt
      have kau := ka.out.below hu ka.out.lt
      have cka := kau.cell
      have lka := kau.lt
      have kbu := kb.out.below hu kb.out.lt
      have ckb := kbu.cell
      have lkb := kbu.lt
      have kcu := kc.out.below hu kc.out.lt
      have ckc := kcu.cell
      have lkc := kcu.lt
      simp only [List.take_succ_cons, List.take_zero, List.filter, isMk, isAl, isSt, Bool.or_false, Bool.not_true, Bool.not_false]
      repeat (go_big_quiet_step (first | fail))
      exact wpQuiet_nil rfl
    case hs =>
      intro z hz
      simp only [List.mem_cons, List.not_mem_nil, or_false] at hz
      rcases hz with rfl
      · exact fun h => absurd h (by simp)
    case h2 =>
      intro ℓ xw hlet
      obtain ⟨hbx, hlx, hnx⟩ := hlet
      obtain ⟨km, lkm⟩ := hlx ⟨17, 17, 24, #[.int .i64 0, .int .i64 0, .int .i64 0, .int .i64 0, .slice none 0 0], 18, #[.int .i64 mx, .int .i64 my, .int .i64 0, .int .i64 0, .slice none 0 0]⟩ (by simp)
      clear hnx hlx
      dsimp only [List.drop, lay, List.foldl, ptrTo] at *
      generalize ℓ 17 = pkm at *
      replace km : Hid (Blk xw pkm 24 #[.int .i64 0, .int .i64 0, .int .i64 0, .int .i64 0, .slice none 0 0]) := Lib.hid km
      simp only [Act.put, List.setIfInBounds_toArray, List.set_cons_zero, List.set_cons_succ]
      refine wpList_store_row rfl 24 _ _ rfl pkm #[.int .i64 mx, .int .i64 my, .int .i64 0, .int .i64 0, .slice none 0 0] rfl rfl 24 _ km.out (by kernel_rfl) rfl (by kernel_rfl) ?_
      have km' := Lib.hid (Blk.setRow km.out #[.int .i64 mx, .int .i64 my, .int .i64 0, .int .i64 0, .slice none 0 0])
      replace kt := Lib.hid (Blk.farRow (kt.out.below hbx kt.out.lt) (Nat.ne_of_lt (Nat.lt_of_lt_of_le kt.out.lt lkm)) #[.int .i64 mx, .int .i64 my, .int .i64 0, .int .i64 0, .slice none 0 0])
      replace ka := Lib.hid (Blk.farRow (ka.out.below hbx ka.out.lt) (Nat.ne_of_lt (Nat.lt_of_lt_of_le ka.out.lt lkm)) #[.int .i64 mx, .int .i64 my, .int .i64 0, .int .i64 0, .slice none 0 0])
      replace kb := Lib.hid (Blk.farRow (kb.out.below hbx kb.out.lt) (Nat.ne_of_lt (Nat.lt_of_lt_of_le kb.out.lt lkm)) #[.int .i64 mx, .int .i64 my, .int .i64 0, .int .i64 0, .slice none 0 0])
      replace kc := Lib.hid (Blk.farRow (kc.out.below hbx kc.out.lt) (Nat.ne_of_lt (Nat.lt_of_lt_of_le kc.out.lt lkm)) #[.int .i64 mx, .int .i64 my, .int .i64 0, .int .i64 0, .slice none 0 0])
      replace hB := Lib.hid (below_setRow (below_on hB.out hbx) (Nat.le_trans hB.out.size lkm) #[.int .i64 mx, .int .i64 my, .int .i64 0, .int .i64 0, .slice none 0 0])
      clear km
      have km := km'
      clear hbx km' lkm 
      refine wpList_nil ?_
      dsimp only [Act.put]
      generalize (xw.setRow pkm #[.int .i64 mx, .int .i64 my, .int .i64 0, .int .i64 0, .slice none 0 0]) = W4 at *
      clear q1 q2 q3 q4 q5 q6 q7 q8 hdx hdy
      obtain ⟨pkp, hpkp⟩ : ∃ g, W4.heap.size = g := ⟨_, rfl⟩
      go_upto_region 9 with fail
      refine wp_region_lit ?_
      refine wpList_load_row rfl 24 _ rfl _ rfl _ _ _ _ ka.out Try.underlying24 rfl t31 ?_
      simp only [Act.put, List.setIfInBounds_toArray, List.set_cons_zero, List.set_cons_succ]
      refine wpList_load_row rfl 24 _ rfl _ rfl _ _ _ _ kb.out Try.underlying24 rfl t31 ?_
      simp only [Act.put, List.setIfInBounds_toArray, List.set_cons_zero, List.set_cons_succ]
      refine wpList_load_row rfl 24 _ rfl _ rfl _ _ _ _ km.out Try.underlying24 rfl t31 ?_
      simp only [Act.put, List.setIfInBounds_toArray, List.set_cons_zero, List.set_cons_succ]
      refine wpList_buildTo rfl 25 _ rfl #[.int .i64 x0, .int .i64 y0, .int .i64 z0, .int .i64 u0, .slice A0 n0 c0, .int .i64 x1, .int .i64 y1, .int .i64 z1, .int .i64 u1, .slice A1 n1 c1, .int .i64 mx, .int .i64 my, .int .i64 0, .int .i64 0, .slice none 0 0] (by kernel_rfl) ?_
      simp only [Act.put, List.setIfInBounds_toArray, List.set_cons_zero, List.set_cons_succ]
      refine wpList_buildTo rfl 27 _ rfl #[.int .i64 x0, .int .i64 y0, .int .i64 z0, .int .i64 u0, .slice A0 n0 c0, .int .i64 x1, .int .i64 y1, .int .i64 z1, .int .i64 u1, .slice A1 n1 c1, .int .i64 mx, .int .i64 my, .int .i64 0, .int .i64 0, .slice none 0 0, .int .i64 0, .bool false] (by kernel_rfl) ?_
      simp only [Act.put, List.setIfInBounds_toArray, List.set_cons_zero, List.set_cons_succ]
      refine wpList_alloc rfl (.cells #[.int .i64 0, .int .i64 0, .int .i64 0, .int .i64 0, .slice none 0 0, .int .i64 0, .int .i64 0, .int .i64 0, .int .i64 0, .slice none 0 0, .int .i64 0, .int .i64 0, .int .i64 0, .int .i64 0, .slice none 0 0, .int .i64 0, .bool false] 27) (fun ev xw => by simp [go_sem, ptrTo]) pkp hpkp ?_
      simp only [Act.put, List.setIfInBounds_toArray, List.set_cons_zero, List.set_cons_succ]
      refine wpList_store_row rfl 27 _ _ rfl pkp #[.int .i64 x0, .int .i64 y0, .int .i64 z0, .int .i64 u0, .slice A0 n0 c0, .int .i64 x1, .int .i64 y1, .int .i64 z1, .int .i64 u1, .slice A1 n1 c1, .int .i64 mx, .int .i64 my, .int .i64 0, .int .i64 0, .slice none 0 0, .int .i64 0, .bool false] rfl rfl 27 _ (Blk.new_at hpkp) triInfo rfl (by kernel_rfl) ?_
      have kp := Lib.hid (Blk.setRow (Blk.new_at (t := 27) (cs := #[.int .i64 0, .int .i64 0, .int .i64 0, .int .i64 0, .slice none 0 0, .int .i64 0, .int .i64 0, .int .i64 0, .int .i64 0, .slice none 0 0, .int .i64 0, .int .i64 0, .int .i64 0, .int .i64 0, .slice none 0 0, .int .i64 0, .bool false]) hpkp) #[.int .i64 x0, .int .i64 y0, .int .i64 z0, .int .i64 u0, .slice A0 n0 c0, .int .i64 x1, .int .i64 y1, .int .i64 z1, .int .i64 u1, .slice A1 n1 c1, .int .i64 mx, .int .i64 my, .int .i64 0, .int .i64 0, .slice none 0 0, .int .i64 0, .bool false])
      replace kt := Lib.hid (Blk.farRow (kt.out.alloc (.cells #[.int .i64 0, .int .i64 0, .int .i64 0, .int .i64 0, .slice none 0 0, .int .i64 0, .int .i64 0, .int .i64 0, .int .i64 0, .slice none 0 0, .int .i64 0, .int .i64 0, .int .i64 0, .int .i64 0, .slice none 0 0, .int .i64 0, .bool false] 27)) (Nat.ne_of_lt (hpkp ▸ kt.out.lt)) #[.int .i64 x0, .int .i64 y0, .int .i64 z0, .int .i64 u0, .slice A0 n0 c0, .int .i64 x1, .int .i64 y1, .int .i64 z1, .int .i64 u1, .slice A1 n1 c1, .int .i64 mx, .int .i64 my, .int .i64 0, .int .i64 0, .slice none 0 0, .int .i64 0, .bool false])
      replace ka := Lib.hid (Blk.farRow (ka.out.alloc (.cells #[.int .i64 0, .int .i64 0, .int .i64 0, .int .i64 0, .slice none 0 0, .int .i64 0, .int .i64 0, .int .i64 0, .int .i64 0, .slice none 0 0, .int .i64 0, .int .i64 0, .int .i64 0, .int .i64 0, .slice none 0 0, .int .i64 0, .bool false] 27)) (Nat.ne_of_lt (hpkp ▸ ka.out.lt)) #[.int .i64 x0, .int .i64 y0, .int .i64 z0, .int .i64 u0, .slice A0 n0 c0, .int .i64 x1, .int .i64 y1, .int .i64 z1, .int .i64 u1, .slice A1 n1 c1, .int .i64 mx, .int .i64 my, .int .i64 0, .int .i64 0, .slice none 0 0, .int .i64 0, .bool false])
      replace kb := Lib.hid (Blk.farRow (kb.out.alloc (.cells #[.int .i64 0, .int .i64 0, .int .i64 0, .int .i64 0, .slice none 0 0, .int .i64 0, .int .i64 0, .int .i64 0, .int .i64 0, .slice none 0 0, .int .i64 0, .int .i64 0, .int .i64 0, .int .i64 0, .slice none 0 0, .int .i64 0, .bool false] 27)) (Nat.ne_of_lt (hpkp ▸ kb.out.lt)) #[.int .i64 x0, .int .i64 y0, .int .i64 z0, .int .i64 u0, .slice A0 n0 c0, .int .i64 x1, .int .i64 y1, .int .i64 z1, .int .i64 u1, .slice A1 n1 c1, .int .i64 mx, .int .i64 my, .int .i64 0, .int .i64 0, .slice none 0 0, .int .i64 0, .bool false])
      replace kc := Lib.hid (Blk.farRow (kc.out.alloc (.cells #[.int .i64 0, .int .i64 0, .int .i64 0, .int .i64 0, .slice none 0 0, .int .i64 0, .int .i64 0, .int .i64 0, .int .i64 0, .slice none 0 0, .int .i64 0, .int .i64 0, .int .i64 0, .int .i64 0, .slice none 0 0, .int .i64 0, .bool false] 27)) (Nat.ne_of_lt (hpkp ▸ kc.out.lt)) #[.int .i64 x0, .int .i64 y0, .int .i64 z0, .int .i64 u0, .slice A0 n0 c0, .int .i64 x1, .int .i64 y1, .int .i64 z1, .int .i64 u1, .slice A1 n1 c1, .int .i64 mx, .int .i64 my, .int .i64 0, .int .i64 0, .slice none 0 0, .int .i64 0, .bool false])
      replace km := Lib.hid (Blk.farRow (km.out.alloc (.cells #[.int .i64 0, .int .i64 0, .int .i64 0, .int .i64 0, .slice none 0 0, .int .i64 0, .int .i64 0, .int .i64 0, .int .i64 0, .slice none 0 0, .int .i64 0, .int .i64 0, .int .i64 0, .int .i64 0, .slice none 0 0, .int .i64 0, .bool false] 27)) (Nat.ne_of_lt (hpkp ▸ km.out.lt)) #[.int .i64 x0, .int .i64 y0, .int .i64 z0, .int .i64 u0, .slice A0 n0 c0, .int .i64 x1, .int .i64 y1, .int .i64 z1, .int .i64 u1, .slice A1 n1 c1, .int .i64 mx, .int .i64 my, .int .i64 0, .int .i64 0, .slice none 0 0, .int .i64 0, .bool false])
      replace hB := Lib.hid (below_setRow (hB.out.alloc hB.out.size (.cells #[.int .i64 0, .int .i64 0, .int .i64 0, .int .i64 0, .slice none 0 0, .int .i64 0, .int .i64 0, .int .i64 0, .int .i64 0, .slice none 0 0, .int .i64 0, .int .i64 0, .int .i64 0, .int .i64 0, .slice none 0 0, .int .i64 0, .bool false] 27)) (hpkp ▸ hB.out.size) #[.int .i64 x0, .int .i64 y0, .int .i64 z0, .int .i64 u0, .slice A0 n0 c0, .int .i64 x1, .int .i64 y1, .int .i64 z1, .int .i64 u1, .slice A1 n1 c1, .int .i64 mx, .int .i64 my, .int .i64 0, .int .i64 0, .slice none 0 0, .int .i64 0, .bool false])
      generalize (W4.alloc (.cells #[.int .i64 0, .int .i64 0, .int .i64 0, .int .i64 0, .slice none 0 0, .int .i64 0, .int .i64 0, .int .i64 0, .int .i64 0, .slice none 0 0, .int .i64 0, .int .i64 0, .int .i64 0, .int .i64 0, .slice none 0 0, .int .i64 0, .bool false] 27)).setRow pkp #[.int .i64 x0, .int .i64 y0, .int .i64 z0, .int .i64 u0, .slice A0 n0 c0, .int .i64 x1, .int .i64 y1, .int .i64 z1, .int .i64 u1, .slice A1 n1 c1, .int .i64 mx, .int .i64 my, .int .i64 0, .int .i64 0, .slice none 0 0, .int .i64 0, .bool false] = W5 at *
      refine wpList_nil ?_
      dsimp only [Act.put]
      clear hpkp
      obtain ⟨pkq, hpkq⟩ : ∃ g, W5.heap.size = g := ⟨_, rfl⟩
      go_upto_region 10 with fail
      refine wp_region_lit ?_
      refine wpList_load_row rfl 24 _ rfl _ rfl _ _ _ _ ka.out Try.underlying24 rfl t31 ?_
      simp only [Act.put, List.setIfInBounds_toArray, List.set_cons_zero, List.set_cons_succ]
      refine wpList_load_row rfl 24 _ rfl _ rfl _ _ _ _ km.out Try.underlying24 rfl t31 ?_
      simp only [Act.put, List.setIfInBounds_toArray, List.set_cons_zero, List.set_cons_succ]
      refine wpList_load_row rfl 24 _ rfl _ rfl _ _ _ _ kc.out Try.underlying24 rfl t31 ?_
      simp only [Act.put, List.setIfInBounds_toArray, List.set_cons_zero, List.set_cons_succ]
      refine wpList_buildTo rfl 25 _ rfl #[.int .i64 x0, .int .i64 y0, .int .i64 z0, .int .i64 u0, .slice A0 n0 c0, .int .i64 mx, .int .i64 my, .int .i64 0, .int .i64 0, .slice none 0 0, .int .i64 x2, .int .i64 y2, .int .i64 z2, .int .i64 u2, .slice A2 n2 c2] (by kernel_rfl) ?_
      simp only [Act.put, List.setIfInBounds_toArray, List.set_cons_zero, List.set_cons_succ]
      refine wpList_buildTo rfl 27 _ rfl #[.int .i64 x0, .int .i64 y0, .int .i64 z0, .int .i64 u0, .slice A0 n0 c0, .int .i64 mx, .int .i64 my, .int .i64 0, .int .i64 0, .slice none 0 0, .int .i64 x2, .int .i64 y2, .int .i64 z2, .int .i64 u2, .slice A2 n2 c2, .int .i64 0, .bool false] (by kernel_rfl) ?_
      simp only [Act.put, List.setIfInBounds_toArray, List.set_cons_zero, List.set_cons_succ]
      refine wpList_alloc rfl (.cells #[.int .i64 0, .int .i64 0, .int .i64 0, .int .i64 0, .slice none 0 0, .int .i64 0, .int .i64 0, .int .i64 0, .int .i64 0, .slice none 0 0, .int .i64 0, .int .i64 0, .int .i64 0, .int .i64 0, .slice none 0 0, .int .i64 0, .bool false] 27) (fun ev xw => by simp [go_sem, ptrTo]) pkq hpkq ?_
      simp only [Act.put, List.setIfInBounds_toArray, List.set_cons_zero, List.set_cons_succ]
      refine wpList_store_row rfl 27 _ _ rfl pkq #[.int .i64 x0, .int .i64 y0, .int .i64 z0, .int .i64 u0, .slice A0 n0 c0, .int .i64 mx, .int .i64 my, .int .i64 0, .int .i64 0, .slice none 0 0, .int .i64 x2, .int .i64 y2, .int .i64 z2, .int .i64 u2, .slice A2 n2 c2, .int .i64 0, .bool false] rfl rfl 27 _ (Blk.new_at hpkq) triInfo rfl (by kernel_rfl) ?_
      have kq := Lib.hid (Blk.setRow (Blk.new_at (t := 27) (cs := #[.int .i64 0, .int .i64 0, .int .i64 0, .int .i64 0, .slice none 0 0, .int .i64 0, .int .i64 0, .int .i64 0, .int .i64 0, .slice none 0 0, .int .i64 0, .int .i64 0, .int .i64 0, .int .i64 0, .slice none 0 0, .int .i64 0, .bool false]) hpkq) #[.int .i64 x0, .int .i64 y0, .int .i64 z0, .int .i64 u0, .slice A0 n0 c0, .int .i64 mx, .int .i64 my, .int .i64 0, .int .i64 0, .slice none 0 0, .int .i64 x2, .int .i64 y2, .int .i64 z2, .int .i64 u2, .slice A2 n2 c2, .int .i64 0, .bool false])
      replace kt := Lib.hid (Blk.farRow (kt.out.alloc (.cells #[.int .i64 0, .int .i64 0, .int .i64 0, .int .i64 0, .slice none 0 0, .int .i64 0, .int .i64 0, .int .i64 0, .int .i64 0, .slice none 0 0, .int .i64 0, .int .i64 0, .int .i64 0, .int .i64 0, .slice none 0 0, .int .i64 0, .bool false] 27)) (Nat.ne_of_lt (hpkq ▸ kt.out.lt)) #[.int .i64 x0, .int .i64 y0, .int .i64 z0, .int .i64 u0, .slice A0 n0 c0, .int .i64 mx, .int .i64 my, .int .i64 0, .int .i64 0, .slice none 0 0, .int .i64 x2, .int .i64 y2, .int .i64 z2, .int .i64 u2, .slice A2 n2 c2, .int .i64 0, .bool false])
      replace ka := Lib.hid (Blk.farRow (ka.out.alloc (.cells #[.int .i64 0, .int .i64 0, .int .i64 0, .int .i64 0, .slice none 0 0, .int .i64 0, .int .i64 0, .int .i64 0, .int .i64 0, .slice none 0 0, .int .i64 0, .int .i64 0, .int .i64 0, .int .i64 0, .slice none 0 0, .int .i64 0, .bool false] 27)) (Nat.ne_of_lt (hpkq ▸ ka.out.lt)) #[.int .i64 x0, .int .i64 y0, .int .i64 z0, .int .i64 u0, .slice A0 n0 c0, .int .i64 mx, .int .i64 my, .int .i64 0, .int .i64 0, .slice none 0 0, .int .i64 x2, .int .i64 y2, .int .i64 z2, .int .i64 u2, .slice A2 n2 c2, .int .i64 0, .bool false])
      replace kb := Lib.hid (Blk.farRow (kb.out.alloc (.cells #[.int .i64 0, .int .i64 0, .int .i64 0, .int .i64 0, .slice none 0 0, .int .i64 0, .int .i64 0, .int .i64 0, .int .i64 0, .slice none 0 0, .int .i64 0, .int .i64 0, .int .i64 0, .int .i64 0, .slice none 0 0, .int .i64 0, .bool false] 27)) (Nat.ne_of_lt (hpkq ▸ kb.out.lt)) #[.int .i64 x0, .int .i64 y0, .int .i64 z0, .int .i64 u0, .slice A0 n0 c0, .int .i64 mx, .int .i64 my, .int .i64 0, .int .i64 0, .slice none 0 0, .int .i64 x2, .int .i64 y2, .int .i64 z2, .int .i64 u2, .slice A2 n2 c2, .int .i64 0, .bool false])
      replace kc := Lib.hid (Blk.farRow (kc.out.alloc (.cells #[.int .i64 0, .int .i64 0, .int .i64 0, .int .i64 0, .slice none 0 0, .int .i64 0, .int .i64 0, .int .i64 0, .int .i64 0, .slice none 0 0, .int .i64 0, .int .i64 0, .int .i64 0, .int .i64 0, .slice none 0 0, .int .i64 0, .bool false] 27)) (Nat.ne_of_lt (hpkq ▸ kc.out.lt)) #[.int .i64 x0, .int .i64 y0, .int .i64 z0, .int .i64 u0, .slice A0 n0 c0, .int .i64 mx, .int .i64 my, .int .i64 0, .int .i64 0, .slice none 0 0, .int .i64 x2, .int .i64 y2, .int .i64 z2, .int .i64 u2, .slice A2 n2 c2, .int .i64 0, .bool false])
      replace km := Lib.hid (Blk.farRow (km.out.alloc (.cells #[.int .i64 0, .int .i64 0, .int .i64 0, .int .i64 0, .slice none 0 0, .int .i64 0, .int .i64 0, .int .i64 0, .int .i64 0, .slice none 0 0, .int .i64 0, .int .i64 0, .int .i64 0, .int .i64 0, .slice none 0 0, .int .i64 0, .bool false] 27)) (Nat.ne_of_lt (hpkq ▸ km.out.lt)) #[.int .i64 x0, .int .i64 y0, .int .i64 z0, .int .i64 u0, .slice A0 n0 c0, .int .i64 mx, .int .i64 my, .int .i64 0, .int .i64 0, .slice none 0 0, .int .i64 x2, .int .i64 y2, .int .i64 z2, .int .i64 u2, .slice A2 n2 c2, .int .i64 0, .bool false])
      replace kp := Lib.hid (Blk.farRow (kp.out.alloc (.cells #[.int .i64 0, .int .i64 0, .int .i64 0, .int .i64 0, .slice none 0 0, .int .i64 0, .int .i64 0, .int .i64 0, .int .i64 0, .slice none 0 0, .int .i64 0, .int .i64 0, .int .i64 0, .int .i64 0, .slice none 0 0, .int .i64 0, .bool false] 27)) (Nat.ne_of_lt (hpkq ▸ kp.out.lt)) #[.int .i64 x0, .int .i64 y0, .int .i64 z0, .int .i64 u0, .slice A0 n0 c0, .int .i64 mx, .int .i64 my, .int .i64 0, .int .i64 0, .slice none 0 0, .int .i64 x2, .int .i64 y2, .int .i64 z2, .int .i64 u2, .slice A2 n2 c2, .int .i64 0, .bool false])
      replace hB := Lib.hid (below_setRow (hB.out.alloc hB.out.size (.cells #[.int .i64 0, .int .i64 0, .int .i64 0, .int .i64 0, .slice none 0 0, .int .i64 0, .int .i64 0, .int .i64 0, .int .i64 0, .slice none 0 0, .int .i64 0, .int .i64 0, .int .i64 0, .int .i64 0, .slice none 0 0, .int .i64 0, .bool false] 27)) (hpkq ▸ hB.out.size) #[.int .i64 x0, .int .i64 y0, .int .i64 z0, .int .i64 u0, .slice A0 n0 c0, .int .i64 mx, .int .i64 my, .int .i64 0, .int .i64 0, .slice none 0 0, .int .i64 x2, .int .i64 y2, .int .i64 z2, .int .i64 u2, .slice A2 n2 c2, .int .i64 0, .bool false])
      generalize (W5.alloc (.cells #[.int .i64 0, .int .i64 0, .int .i64 0, .int .i64 0, .slice none 0 0, .int .i64 0, .int .i64 0, .int .i64 0, .int .i64 0, .slice none 0 0, .int .i64 0, .int .i64 0, .int .i64 0, .int .i64 0, .slice none 0 0, .int .i64 0, .bool false] 27)).setRow pkq #[.int .i64 x0, .int .i64 y0, .int .i64 z0, .int .i64 u0, .slice A0 n0 c0, .int .i64 mx, .int .i64 my, .int .i64 0, .int .i64 0, .slice none 0 0, .int .i64 x2, .int .i64 y2, .int .i64 z2, .int .i64 u2, .slice A2 n2 c2, .int .i64 0, .bool false] = W6 at *
      refine wpList_nil ?_
      dsimp only [Act.put]
      clear hpkq
      clear ka kb kc km
      have ckt := kt.out.cell
      have lkt := kt.out.lt
      have ckp := kp.out.cell
      have lkp := kp.out.lt
      have ckq := kq.out.cell
      have lkq := kq.out.lt
      go_wp2_with (first | refine wpList_load_row rfl 27 _ rfl _ rfl _ _ _ _ kt.out Try.underlying27 rfl triInfo ?_ | refine wpList_load_rowG rfl 27 _ rfl _ rfl _ _ _ _ kt.out Try.underlying27 rfl triInfo ?_ | refine wpList_load_row rfl 27 _ rfl _ rfl _ _ _ _ kp.out Try.underlying27 rfl triInfo ?_ | refine wpList_load_rowG rfl 27 _ rfl _ rfl _ _ _ _ kp.out Try.underlying27 rfl triInfo ?_ | refine wpList_load_row rfl 27 _ rfl _ rfl _ _ _ _ kq.out Try.underlying27 rfl triInfo ?_ | refine wpList_load_rowG rfl 27 _ rfl _ rfl _ _ _ _ kq.out Try.underlying27 rfl triInfo ?_)
      clear ckt lkt ckp lkp ckq lkq
      refine (valid_at _ _ _ _ _ _ _ _ _ _ _ _ _ _ _ _ _ _ _ _ _ _ _ _ _ v1.out).mono ?_
      rintro e W7 ⟨rfl, hb⟩
      replace kt := Lib.hid (kt.out.call hb)
      replace kp := Lib.hid (kp.out.call hb)
      replace kq := Lib.hid (kq.out.call hb)
      replace hB := Lib.hid (below_on hB.out hb)
      clear hb
      have ckt := kt.out.cell
      have lkt := kt.out.lt
      have ckp := kp.out.cell
      have lkp := kp.out.lt
      have ckq := kq.out.cell
      have lkq := kq.out.lt
      go_wp2_with (first | refine wpList_load_row rfl 27 _ rfl _ rfl _ _ _ _ kt.out Try.underlying27 rfl triInfo ?_ | refine wpList_load_rowG rfl 27 _ rfl _ rfl _ _ _ _ kt.out Try.underlying27 rfl triInfo ?_ | refine wpList_load_row rfl 27 _ rfl _ rfl _ _ _ _ kp.out Try.underlying27 rfl triInfo ?_ | refine wpList_load_rowG rfl 27 _ rfl _ rfl _ _ _ _ kp.out Try.underlying27 rfl triInfo ?_ | refine wpList_load_row rfl 27 _ rfl _ rfl _ _ _ _ kq.out Try.underlying27 rfl triInfo ?_ | refine wpList_load_rowG rfl 27 _ rfl _ rfl _ _ _ _ kq.out Try.underlying27 rfl triInfo ?_)
      clear ckt lkt ckp lkp ckq lkq
      refine (valid_at _ _ _ _ _ _ _ _ _ _ _ _ _ _ _ _ _ _ _ _ _ _ _ _ _ v2.out).mono ?_
      rintro e W8 ⟨rfl, hb⟩
      replace kt := Lib.hid (kt.out.call hb)
      replace kp := Lib.hid (kp.out.call hb)
      replace kq := Lib.hid (kq.out.call hb)
      replace hB := Lib.hid (below_on hB.out hb)
      clear hb
      have ckt := kt.out.cell
      have lkt := kt.out.lt
      have ckp := kp.out.cell
      have lkp := kp.out.lt
      have ckq := kq.out.cell
      have lkq := kq.out.lt
      go_wp2_with (first | refine wpList_load_row rfl 27 _ rfl _ rfl _ _ _ _ kt.out Try.underlying27 rfl triInfo ?_ | refine wpList_load_rowG rfl 27 _ rfl _ rfl _ _ _ _ kt.out Try.underlying27 rfl triInfo ?_ | refine wpList_load_row rfl 27 _ rfl _ rfl _ _ _ _ kp.out Try.underlying27 rfl triInfo ?_ | refine wpList_load_rowG rfl 27 _ rfl _ rfl _ _ _ _ kp.out Try.underlying27 rfl triInfo ?_ | refine wpList_load_row rfl 27 _ rfl _ rfl _ _ _ _ kq.out Try.underlying27 rfl triInfo ?_ | refine wpList_load_rowG rfl 27 _ rfl _ rfl _ _ _ _ kq.out Try.underlying27 rfl triInfo ?_)
      clear ckt lkt ckp lkp ckq lkq
      refine (mask_at _ _ _ _ _ _ _ _ _ _ _ _ _ _ _ _ _ _ _ _ _ _ _ _ _ _ _ _ m0.out).mono ?_
      rintro e W9 ⟨rfl, hb⟩
      replace kt := Lib.hid (kt.out.call hb)
      replace kp := Lib.hid (kp.out.call hb)
      replace kq := Lib.hid (kq.out.call hb)
      replace hB := Lib.hid (below_on hB.out hb)
      clear hb
      have ckt := kt.out.cell
      have lkt := kt.out.lt
      have ckp := kp.out.cell
      have lkp := kp.out.lt
      have ckq := kq.out.cell
      have lkq := kq.out.lt
      go_wp2_with (first | refine wpList_load_row rfl 27 _ rfl _ rfl _ _ _ _ kt.out Try.underlying27 rfl triInfo ?_ | refine wpList_load_rowG rfl 27 _ rfl _ rfl _ _ _ _ kt.out Try.underlying27 rfl triInfo ?_ | refine wpList_load_row rfl 27 _ rfl _ rfl _ _ _ _ kp.out Try.underlying27 rfl triInfo ?_ | refine wpList_load_rowG rfl 27 _ rfl _ rfl _ _ _ _ kp.out Try.underlying27 rfl triInfo ?_ | refine wpList_load_row rfl 27 _ rfl _ rfl _ _ _ _ kq.out Try.underlying27 rfl triInfo ?_ | refine wpList_load_rowG rfl 27 _ rfl _ rfl _ _ _ _ kq.out Try.underlying27 rfl triInfo ?_)
      clear ckt lkt ckp lkp ckq lkq
      refine (mask_at _ _ _ _ _ _ _ _ _ _ _ _ _ _ _ _ _ _ _ _ _ _ _ _ _ _ _ _ m1.out).mono ?_
      rintro e W10 ⟨rfl, hb⟩
      replace kt := Lib.hid (kt.out.call hb)
      replace kp := Lib.hid (kp.out.call hb)
      replace kq := Lib.hid (kq.out.call hb)
      replace hB := Lib.hid (below_on hB.out hb)
      clear hb
      have ckt := kt.out.cell
      have lkt := kt.out.lt
      have ckp := kp.out.cell
      have lkp := kp.out.lt
      have ckq := kq.out.cell
      have lkq := kq.out.lt
      go_wp2_with (first | refine wpList_load_row rfl 27 _ rfl _ rfl _ _ _ _ kt.out Try.underlying27 rfl triInfo ?_ | refine wpList_load_rowG rfl 27 _ rfl _ rfl _ _ _ _ kt.out Try.underlying27 rfl triInfo ?_ | refine wpList_load_row rfl 27 _ rfl _ rfl _ _ _ _ kp.out Try.underlying27 rfl triInfo ?_ | refine wpList_load_rowG rfl 27 _ rfl _ rfl _ _ _ _ kp.out Try.underlying27 rfl triInfo ?_ | refine wpList_load_row rfl 27 _ rfl _ rfl _ _ _ _ kq.out Try.underlying27 rfl triInfo ?_ | refine wpList_load_rowG rfl 27 _ rfl _ rfl _ _ _ _ kq.out Try.underlying27 rfl triInfo ?_)
      clear ckt lkt ckp lkp ckq lkq
      refine (mask_at _ _ _ _ _ _ _ _ _ _ _ _ _ _ _ _ _ _ _ _ _ _ _ _ _ _ _ _ m2.out).mono ?_
      rintro e W11 ⟨rfl, hb⟩
      replace kt := Lib.hid (kt.out.call hb)
      replace kp := Lib.hid (kp.out.call hb)
      replace kq := Lib.hid (kq.out.call hb)
      replace hB := Lib.hid (below_on hB.out hb)
      clear hb
      have ckt := kt.out.cell
      have lkt := kt.out.lt
      have ckp := kp.out.cell
      have lkp := kp.out.lt
      have ckq := kq.out.cell
      have lkq := kq.out.lt
      go_wp2_with (first | refine wpList_load_row rfl 27 _ rfl _ rfl _ _ _ _ kt.out Try.underlying27 rfl triInfo ?_ | refine wpList_load_rowG rfl 27 _ rfl _ rfl _ _ _ _ kt.out Try.underlying27 rfl triInfo ?_ | refine wpList_load_row rfl 27 _ rfl _ rfl _ _ _ _ kp.out Try.underlying27 rfl triInfo ?_ | refine wpList_load_rowG rfl 27 _ rfl _ rfl _ _ _ _ kp.out Try.underlying27 rfl triInfo ?_ | refine wpList_load_row rfl 27 _ rfl _ rfl _ _ _ _ kq.out Try.underlying27 rfl triInfo ?_ | refine wpList_load_rowG rfl 27 _ rfl _ rfl _ _ _ _ kq.out Try.underlying27 rfl triInfo ?_)
      clear ckt lkt ckp lkp ckq lkq
      refine (example_true _).mono ?_
      rintro e W12 ⟨rfl, hb⟩
      replace kt := Lib.hid (kt.out.call hb)
      replace kp := Lib.hid (kp.out.call hb)
      replace kq := Lib.hid (kq.out.call hb)
      replace hB := Lib.hid (below_on hB.out hb)
      clear hb
      go_wp2
      go_ret
      exact ⟨rfl, hB.out⟩
end Go.Proofs.Ytgalpmiojgjkhaa
