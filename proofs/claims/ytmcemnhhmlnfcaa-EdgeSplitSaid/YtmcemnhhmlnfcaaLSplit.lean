/- The walk of EdgeSplit. -/
import Derived.Test.YtmcemnhhmlnfcaaEEx
namespace Go.Proofs.Ytmcemnhhmlnfcaa
open Go.RowKit
attribute [local go_sem] Ext.cell
set_option maxRecDepth 100000 in
set_option maxHeartbeats 16000000 in
theorem split_walk (x0 y0 z0 u0 x1 y1 z1 u1 x2 y2 z2 u2 : Int) (A0 A1 A2 : Option Addr) (n0 c0 n1 c1 n2 c2 : Nat) (pr : Int) (fr : Bool) (m0 m1 p0 p1 : Int) (w : World) (vt vu vv ct cx cy : Bool) (f : Int) (h1 : validB x0 y0 x1 y1 x2 y2 = vt) (h2 : validB x0 y0 x1 y1 m0 m1 = vu) (h3 : validB x0 y0 m0 m1 x2 y2 = vv) (h4 : efI x1 y1 x2 y2 m0 m1 = f)
    (h5 : covB x0 y0 x1 y1 x2 y2 p0 p1 = ct) (h6 : covB x0 y0 x1 y1 m0 m1 p0 p1 = cx) (h7 : covB x0 y0 m0 m1 x2 y2 p0 p1 = cy) (e0 : Bool) (he : (f != 0) = e0)
    (hgood : vt = false ∨ (vt = true ∧ vu = false) ∨ (vt = true ∧ vu = true ∧ vv = false) ∨ (vt = true ∧ vu = true ∧ vv = true ∧ e0 = true) ∨ (vt = true ∧ vu = true ∧ vv = true ∧ e0 = false ∧ ((cx = false ∧ cy = false ∧ ct = false) ∨ (cx = true ∧ cy = false ∧ ct = true) ∨ (cx = false ∧ cy = true ∧ ct = true)))) :
    Calls Try.prog 7 #[.agg #[.int .i64 x0, .int .i64 y0, .int .i64 z0, .int .i64 u0, .slice A0 n0 c0, .int .i64 x1, .int .i64 y1, .int .i64 z1, .int .i64 u1, .slice A1 n1 c1, .int .i64 x2, .int .i64 y2, .int .i64 z2, .int .i64 u2, .slice A2 n2 c2, .int .i64 pr, .bool fr], .agg #[.int .i64 m0, .int .i64 m1], .agg #[.int .i64 p0, .int .i64 p1]] w fun e w' => e = .returned (.bool true) ∧ Below w.heap.size w w' := by
  replace h1 := Lib.hid h1
  replace h2 := Lib.hid h2
  replace h3 := Lib.hid h3
  replace h4 := Lib.hid h4
  replace h5 := Lib.hid h5
  replace h6 := Lib.hid h6
  replace h7 := Lib.hid h7
  replace hgood := Lib.hid hgood
  have hw0 : IntKind.i64.wrap 0 = 0 := by decide
  have hw1 : IntKind.i64.wrap 1 = 1 := by decide
  have hw2 : IntKind.i64.wrap 2 = 2 := by decide
  go_enter Try.func7, Try.ntmps7
  have kt := Lib.hid (((Blk.new w 34 #[.int .i64 x0, .int .i64 y0, .int .i64 z0, .int .i64 u0, .slice A0 n0 c0, .int .i64 x1, .int .i64 y1, .int .i64 z1, .int .i64 u1, .slice A1 n1 c1, .int .i64 x2, .int .i64 y2, .int .i64 z2, .int .i64 u2, .slice A2 n2 c2, .int .i64 pr, .bool fr]).alloc (.cells #[.int .i64 m0, .int .i64 m1] 22)).alloc (.cells #[.int .i64 p0, .int .i64 p1] 22))
  have km := Lib.hid ((Blk.new1 w 22 #[.int .i64 m0, .int .i64 m1] (.cells #[.int .i64 x0, .int .i64 y0, .int .i64 z0, .int .i64 u0, .slice A0 n0 c0, .int .i64 x1, .int .i64 y1, .int .i64 z1, .int .i64 u1, .slice A1 n1 c1, .int .i64 x2, .int .i64 y2, .int .i64 z2, .int .i64 u2, .slice A2 n2 c2, .int .i64 pr, .bool fr] 34)).alloc (.cells #[.int .i64 p0, .int .i64 p1] 22))
  have kp := Lib.hid (Blk.new2 w 22 #[.int .i64 p0, .int .i64 p1] (.cells #[.int .i64 x0, .int .i64 y0, .int .i64 z0, .int .i64 u0, .slice A0 n0 c0, .int .i64 x1, .int .i64 y1, .int .i64 z1, .int .i64 u1, .slice A1 n1 c1, .int .i64 x2, .int .i64 y2, .int .i64 z2, .int .i64 u2, .slice A2 n2 c2, .int .i64 pr, .bool fr] 34) (.cells #[.int .i64 m0, .int .i64 m1] 22))
  have hB : Hid (Below w.heap.size w (((w.alloc (.cells #[.int .i64 x0, .int .i64 y0, .int .i64 z0, .int .i64 u0, .slice A0 n0 c0, .int .i64 x1, .int .i64 y1, .int .i64 z1, .int .i64 u1, .slice A1 n1 c1, .int .i64 x2, .int .i64 y2, .int .i64 z2, .int .i64 u2, .slice A2 n2 c2, .int .i64 pr, .bool fr] 34)).alloc (.cells #[.int .i64 m0, .int .i64 m1] 22)).alloc (.cells #[.int .i64 p0, .int .i64 p1] 22))) := Lib.hid (by go_grown)
  go_wp2_with fail
  generalize (((w.alloc (.cells #[.int .i64 x0, .int .i64 y0, .int .i64 z0, .int .i64 u0, .slice A0 n0 c0, .int .i64 x1, .int .i64 y1, .int .i64 z1, .int .i64 u1, .slice A1 n1 c1, .int .i64 x2, .int .i64 y2, .int .i64 z2, .int .i64 u2, .slice A2 n2 c2, .int .i64 pr, .bool fr] 34)).alloc (.cells #[.int .i64 m0, .int .i64 m1] 22)).alloc (.cells #[.int .i64 p0, .int .i64 p1] 22)) = W1 at *
  refine' wp_region_fresh 32 [⟨27, 7, 22, #[.int .i64 0, .int .i64 0], 30, #[.int .i64 x0, .int .i64 y0]⟩, ⟨28, 8, 22, #[.int .i64 0, .int .i64 0], 31, #[.int .i64 x1, .int .i64 y1]⟩, ⟨29, 9, 22, #[.int .i64 0, .int .i64 0], 32, #[.int .i64 x2, .int .i64 y2]⟩] (by kernel_rfl) (by kernel_rfl) (by simp) (by simp) (by simp) (by simp) ?hz ?h1 ?hs ?h2
  case hz =>
    intro z hz
    simp only [List.mem_cons, List.not_mem_nil, or_false] at hz
    rcases hz with rfl | rfl | rfl
    all_goals exact ⟨by simp, by simp, _, rfl, rfl, rfl, fun ev xw => by simp [go_sem, ptrTo, Let.at_]⟩
  case h1 =>
    intro u hu
    have ktu := kt.out.below hu kt.out.lt
    have ckt := ktu.cell
    have lkt := ktu.lt
    have kmu := km.out.below hu km.out.lt
    have ckm := kmu.cell
    have lkm := kmu.lt
    have kpu := kp.out.below hu kp.out.lt
    have ckp := kpu.cell
    have lkp := kpu.lt
    simp only [List.take_succ_cons, List.take_zero, List.filter, isMk, isAl, isSt, Bool.or_false, Bool.or_true, Bool.not_true, Bool.not_false]
    repeat (go_big_quiet_step (first | fail))
    exact wpQuiet_nil rfl
  case hs =>
    intro z hz
    simp only [List.mem_cons, List.not_mem_nil, or_false] at hz
    rcases hz with rfl | rfl | rfl
    · exact fun _ => ⟨_, 22, _, rfl, rfl, by simp, rfl, rfl, (by kernel_rfl), rfl, by kernel_rfl⟩
    · exact fun _ => ⟨_, 22, _, rfl, rfl, by simp, rfl, rfl, (by kernel_rfl), rfl, by kernel_rfl⟩
    · exact fun h => absurd h (by simp)
  case h2 =>
    intro ℓ xw hlet
    obtain ⟨hbx, hlx, hnx⟩ := hlet
    obtain ⟨ka, lka⟩ := hlx ⟨27, 7, 22, #[.int .i64 0, .int .i64 0], 30, #[.int .i64 x0, .int .i64 y0]⟩ (by simp)
    obtain ⟨kb, lkb⟩ := hlx ⟨28, 8, 22, #[.int .i64 0, .int .i64 0], 31, #[.int .i64 x1, .int .i64 y1]⟩ (by simp)
    obtain ⟨kc, lkc⟩ := hlx ⟨29, 9, 22, #[.int .i64 0, .int .i64 0], 32, #[.int .i64 x2, .int .i64 y2]⟩ (by simp)
    have nkakb := hnx ⟨27, 7, 22, #[.int .i64 0, .int .i64 0], 30, #[.int .i64 x0, .int .i64 y0]⟩ (by simp) ⟨28, 8, 22, #[.int .i64 0, .int .i64 0], 31, #[.int .i64 x1, .int .i64 y1]⟩ (by simp) (by simp)
    have nkakc := hnx ⟨27, 7, 22, #[.int .i64 0, .int .i64 0], 30, #[.int .i64 x0, .int .i64 y0]⟩ (by simp) ⟨29, 9, 22, #[.int .i64 0, .int .i64 0], 32, #[.int .i64 x2, .int .i64 y2]⟩ (by simp) (by simp)
    have nkbkc := hnx ⟨28, 8, 22, #[.int .i64 0, .int .i64 0], 31, #[.int .i64 x1, .int .i64 y1]⟩ (by simp) ⟨29, 9, 22, #[.int .i64 0, .int .i64 0], 32, #[.int .i64 x2, .int .i64 y2]⟩ (by simp) (by simp)
    clear hnx hlx
    dsimp only [List.drop, lay, List.foldl, ptrTo] at *
    generalize ℓ 27 = pka at *
    generalize ℓ 28 = pkb at *
    generalize ℓ 29 = pkc at *
    replace ka : Hid (Blk xw pka 22 #[.int .i64 x0, .int .i64 y0]) := Lib.hid ka
    replace kb : Hid (Blk xw pkb 22 #[.int .i64 x1, .int .i64 y1]) := Lib.hid kb
    replace kc : Hid (Blk xw pkc 22 #[.int .i64 0, .int .i64 0]) := Lib.hid kc
    simp only [Act.put, List.setIfInBounds_toArray, List.set_cons_zero, List.set_cons_succ]
    refine wpList_store_row rfl 22 _ _ rfl pkc #[.int .i64 x2, .int .i64 y2] rfl rfl 22 _ kc.out (by kernel_rfl) rfl (by kernel_rfl) ?_
    have ka' := Lib.hid (Blk.farRow ka.out nkakc #[.int .i64 x2, .int .i64 y2])
    have kb' := Lib.hid (Blk.farRow kb.out nkbkc #[.int .i64 x2, .int .i64 y2])
    have kc' := Lib.hid (Blk.setRow kc.out #[.int .i64 x2, .int .i64 y2])
    have ne_kt_ka := Nat.ne_of_lt (Nat.lt_of_lt_of_le kt.out.lt lka)
    have ne_ka_kt := Ne.symm ne_kt_ka
    have ne_kt_kb := Nat.ne_of_lt (Nat.lt_of_lt_of_le kt.out.lt lkb)
    have ne_kb_kt := Ne.symm ne_kt_kb
    have ne_kt_kc := Nat.ne_of_lt (Nat.lt_of_lt_of_le kt.out.lt lkc)
    have ne_kc_kt := Ne.symm ne_kt_kc
    replace kt := Lib.hid (Blk.farRow (kt.out.below hbx kt.out.lt) (Nat.ne_of_lt (Nat.lt_of_lt_of_le kt.out.lt lkc)) #[.int .i64 x2, .int .i64 y2])
    replace km := Lib.hid (Blk.farRow (km.out.below hbx km.out.lt) (Nat.ne_of_lt (Nat.lt_of_lt_of_le km.out.lt lkc)) #[.int .i64 x2, .int .i64 y2])
    replace kp := Lib.hid (Blk.farRow (kp.out.below hbx kp.out.lt) (Nat.ne_of_lt (Nat.lt_of_lt_of_le kp.out.lt lkc)) #[.int .i64 x2, .int .i64 y2])
    replace hB := Lib.hid (below_setRow (below_on hB.out hbx) (Nat.le_trans hB.out.size lkc) #[.int .i64 x2, .int .i64 y2])
    clear ka kb kc
    have ka := ka'
    have kb := kb'
    have kc := kc'
    clear hbx ka' lka kb' lkb kc' lkc nkakb nkakc nkbkc
    refine wpList_nil ?_
    dsimp only [Act.put]
    generalize (xw.setRow pkc #[.int .i64 x2, .int .i64 y2]) = W2 at *
    have ckt := kt.out.cell
    have lkt := kt.out.lt
    have ckm := km.out.cell
    have lkm := km.out.lt
    have ckp := kp.out.cell
    have lkp := kp.out.lt
    have cka := ka.out.cell
    have lka := ka.out.lt
    have ckb := kb.out.cell
    have lkb := kb.out.lt
    have ckc := kc.out.cell
    have lkc := kc.out.lt
    go_wp2_with (fail)
    clear ckt lkt ckm lkm ckp lkp cka lka ckb lkb ckc lkc
    refine' wp_region_fresh 14 [⟨12, 10, 34, #[.int .i64 0, .int .i64 0, .int .i64 0, .int .i64 0, .slice none 0 0, .int .i64 0, .int .i64 0, .int .i64 0, .int .i64 0, .slice none 0 0, .int .i64 0, .int .i64 0, .int .i64 0, .int .i64 0, .slice none 0 0, .int .i64 0, .bool false], 15, #[.int .i64 x0, .int .i64 y0, .int .i64 0, .int .i64 0, .slice none 0 0, .int .i64 x1, .int .i64 y1, .int .i64 0, .int .i64 0, .slice none 0 0, .int .i64 m0, .int .i64 m1, .int .i64 0, .int .i64 0, .slice none 0 0, .int .i64 0, .bool false]⟩, ⟨13, 11, 34, #[.int .i64 0, .int .i64 0, .int .i64 0, .int .i64 0, .slice none 0 0, .int .i64 0, .int .i64 0, .int .i64 0, .int .i64 0, .slice none 0 0, .int .i64 0, .int .i64 0, .int .i64 0, .int .i64 0, .slice none 0 0, .int .i64 0, .bool false], 16, #[.int .i64 x0, .int .i64 y0, .int .i64 0, .int .i64 0, .slice none 0 0, .int .i64 m0, .int .i64 m1, .int .i64 0, .int .i64 0, .slice none 0 0, .int .i64 x2, .int .i64 y2, .int .i64 0, .int .i64 0, .slice none 0 0, .int .i64 0, .bool false]⟩] (by kernel_rfl) (by kernel_rfl) (by simp) (by simp) (by simp) (by simp) ?hz ?h1 ?hs ?h2
    case hz =>
      intro z hz
      simp only [List.mem_cons, List.not_mem_nil, or_false] at hz
      rcases hz with rfl | rfl
      all_goals exact ⟨by simp, by simp, _, rfl, rfl, rfl, fun ev xw => by simp [go_sem, ptrTo, Let.at_]⟩
    case h1 =>
      intro u hu
      have ktu := kt.out.below hu kt.out.lt
      have ckt := ktu.cell
      have lkt := ktu.lt
      have kmu := km.out.below hu km.out.lt
      have ckm := kmu.cell
      have lkm := kmu.lt
      have kpu := kp.out.below hu kp.out.lt
      have ckp := kpu.cell
      have lkp := kpu.lt
      have kau := ka.out.below hu ka.out.lt
      have cka := kau.cell
      have lka := kau.lt
      have kbu := kb.out.below hu kb.out.lt
      have ckb := kbu.cell
      have lkb := kbu.lt
      have kcu := kc.out.below hu kc.out.lt
      have ckc := kcu.cell
      have lkc := kcu.lt
      simp only [List.take_succ_cons, List.take_zero, List.filter, isMk, isAl, isSt, Bool.or_false, Bool.not_true, Bool.not_false]
      repeat (go_big_quiet_step (first | (go_at_call 20; exact ext_call (Nat.le_refl _) (triangle_any _ _ _ _ _ _ _))))
      exact wpQuiet_nil rfl
    case hs =>
      intro z hz
      simp only [List.mem_cons, List.not_mem_nil, or_false] at hz
      rcases hz with rfl | rfl
      · exact fun h => absurd h (by simp)
      · exact fun h => absurd h (by simp)
    case h2 =>
      intro ℓ xw hlet
      obtain ⟨hbx, hlx, hnx⟩ := hlet
      obtain ⟨k1, lk1⟩ := hlx ⟨12, 10, 34, #[.int .i64 0, .int .i64 0, .int .i64 0, .int .i64 0, .slice none 0 0, .int .i64 0, .int .i64 0, .int .i64 0, .int .i64 0, .slice none 0 0, .int .i64 0, .int .i64 0, .int .i64 0, .int .i64 0, .slice none 0 0, .int .i64 0, .bool false], 15, #[.int .i64 x0, .int .i64 y0, .int .i64 0, .int .i64 0, .slice none 0 0, .int .i64 x1, .int .i64 y1, .int .i64 0, .int .i64 0, .slice none 0 0, .int .i64 m0, .int .i64 m1, .int .i64 0, .int .i64 0, .slice none 0 0, .int .i64 0, .bool false]⟩ (by simp)
      obtain ⟨k2, lk2⟩ := hlx ⟨13, 11, 34, #[.int .i64 0, .int .i64 0, .int .i64 0, .int .i64 0, .slice none 0 0, .int .i64 0, .int .i64 0, .int .i64 0, .int .i64 0, .slice none 0 0, .int .i64 0, .int .i64 0, .int .i64 0, .int .i64 0, .slice none 0 0, .int .i64 0, .bool false], 16, #[.int .i64 x0, .int .i64 y0, .int .i64 0, .int .i64 0, .slice none 0 0, .int .i64 m0, .int .i64 m1, .int .i64 0, .int .i64 0, .slice none 0 0, .int .i64 x2, .int .i64 y2, .int .i64 0, .int .i64 0, .slice none 0 0, .int .i64 0, .bool false]⟩ (by simp)
      have nk1k2 := hnx ⟨12, 10, 34, #[.int .i64 0, .int .i64 0, .int .i64 0, .int .i64 0, .slice none 0 0, .int .i64 0, .int .i64 0, .int .i64 0, .int .i64 0, .slice none 0 0, .int .i64 0, .int .i64 0, .int .i64 0, .int .i64 0, .slice none 0 0, .int .i64 0, .bool false], 15, #[.int .i64 x0, .int .i64 y0, .int .i64 0, .int .i64 0, .slice none 0 0, .int .i64 x1, .int .i64 y1, .int .i64 0, .int .i64 0, .slice none 0 0, .int .i64 m0, .int .i64 m1, .int .i64 0, .int .i64 0, .slice none 0 0, .int .i64 0, .bool false]⟩ (by simp) ⟨13, 11, 34, #[.int .i64 0, .int .i64 0, .int .i64 0, .int .i64 0, .slice none 0 0, .int .i64 0, .int .i64 0, .int .i64 0, .int .i64 0, .slice none 0 0, .int .i64 0, .int .i64 0, .int .i64 0, .int .i64 0, .slice none 0 0, .int .i64 0, .bool false], 16, #[.int .i64 x0, .int .i64 y0, .int .i64 0, .int .i64 0, .slice none 0 0, .int .i64 m0, .int .i64 m1, .int .i64 0, .int .i64 0, .slice none 0 0, .int .i64 x2, .int .i64 y2, .int .i64 0, .int .i64 0, .slice none 0 0, .int .i64 0, .bool false]⟩ (by simp) (by simp)
      clear hnx hlx
      dsimp only [List.drop, lay, List.foldl, ptrTo] at *
      generalize ℓ 12 = pk1 at *
      generalize ℓ 13 = pk2 at *
      replace k1 : Hid (Blk xw pk1 34 #[.int .i64 0, .int .i64 0, .int .i64 0, .int .i64 0, .slice none 0 0, .int .i64 0, .int .i64 0, .int .i64 0, .int .i64 0, .slice none 0 0, .int .i64 0, .int .i64 0, .int .i64 0, .int .i64 0, .slice none 0 0, .int .i64 0, .bool false]) := Lib.hid k1
      replace k2 : Hid (Blk xw pk2 34 #[.int .i64 0, .int .i64 0, .int .i64 0, .int .i64 0, .slice none 0 0, .int .i64 0, .int .i64 0, .int .i64 0, .int .i64 0, .slice none 0 0, .int .i64 0, .int .i64 0, .int .i64 0, .int .i64 0, .slice none 0 0, .int .i64 0, .bool false]) := Lib.hid k2
      simp only [Act.put, List.setIfInBounds_toArray, List.set_cons_zero, List.set_cons_succ]
      refine wpList_store_row rfl 34 _ _ rfl (w.heap.size) #[.int .i64 x0, .int .i64 y0, .int .i64 0, .int .i64 0, .slice none 0 0, .int .i64 x1, .int .i64 y1, .int .i64 0, .int .i64 0, .slice none 0 0, .int .i64 x2, .int .i64 y2, .int .i64 0, .int .i64 0, .slice none 0 0, .int .i64 0, .bool false] rfl rfl 34 _ (kt.out.below hbx kt.out.lt) triInfo rfl (by kernel_rfl) ?_
      have no_k1 : pk1 ≠ w.heap.size := Ne.symm (Nat.ne_of_lt (Nat.lt_of_lt_of_le kt.out.lt lk1))
      replace k1 := Lib.hid (Blk.farRow k1.out no_k1 #[.int .i64 x0, .int .i64 y0, .int .i64 0, .int .i64 0, .slice none 0 0, .int .i64 x1, .int .i64 y1, .int .i64 0, .int .i64 0, .slice none 0 0, .int .i64 x2, .int .i64 y2, .int .i64 0, .int .i64 0, .slice none 0 0, .int .i64 0, .bool false])
      have no_k2 : pk2 ≠ w.heap.size := Ne.symm (Nat.ne_of_lt (Nat.lt_of_lt_of_le kt.out.lt lk2))
      replace k2 := Lib.hid (Blk.farRow k2.out no_k2 #[.int .i64 x0, .int .i64 y0, .int .i64 0, .int .i64 0, .slice none 0 0, .int .i64 x1, .int .i64 y1, .int .i64 0, .int .i64 0, .slice none 0 0, .int .i64 x2, .int .i64 y2, .int .i64 0, .int .i64 0, .slice none 0 0, .int .i64 0, .bool false])
      refine wpList_store_row rfl 34 _ _ rfl pk1 #[.int .i64 x0, .int .i64 y0, .int .i64 0, .int .i64 0, .slice none 0 0, .int .i64 x1, .int .i64 y1, .int .i64 0, .int .i64 0, .slice none 0 0, .int .i64 m0, .int .i64 m1, .int .i64 0, .int .i64 0, .slice none 0 0, .int .i64 0, .bool false] rfl rfl 34 _ k1.out triInfo rfl (by kernel_rfl) ?_
      refine wpList_store_row rfl 34 _ _ rfl pk2 #[.int .i64 x0, .int .i64 y0, .int .i64 0, .int .i64 0, .slice none 0 0, .int .i64 m0, .int .i64 m1, .int .i64 0, .int .i64 0, .slice none 0 0, .int .i64 x2, .int .i64 y2, .int .i64 0, .int .i64 0, .slice none 0 0, .int .i64 0, .bool false] rfl rfl 34 _ (Blk.farRow k2.out (Ne.symm nk1k2) #[.int .i64 x0, .int .i64 y0, .int .i64 0, .int .i64 0, .slice none 0 0, .int .i64 x1, .int .i64 y1, .int .i64 0, .int .i64 0, .slice none 0 0, .int .i64 m0, .int .i64 m1, .int .i64 0, .int .i64 0, .slice none 0 0, .int .i64 0, .bool false]) triInfo rfl (by kernel_rfl) ?_
      have k1' := Lib.hid (Blk.farRow (Blk.setRow k1.out #[.int .i64 x0, .int .i64 y0, .int .i64 0, .int .i64 0, .slice none 0 0, .int .i64 x1, .int .i64 y1, .int .i64 0, .int .i64 0, .slice none 0 0, .int .i64 m0, .int .i64 m1, .int .i64 0, .int .i64 0, .slice none 0 0, .int .i64 0, .bool false]) nk1k2 #[.int .i64 x0, .int .i64 y0, .int .i64 0, .int .i64 0, .slice none 0 0, .int .i64 m0, .int .i64 m1, .int .i64 0, .int .i64 0, .slice none 0 0, .int .i64 x2, .int .i64 y2, .int .i64 0, .int .i64 0, .slice none 0 0, .int .i64 0, .bool false])
      have k2' := Lib.hid (Blk.setRow (Blk.farRow k2.out (Ne.symm nk1k2) #[.int .i64 x0, .int .i64 y0, .int .i64 0, .int .i64 0, .slice none 0 0, .int .i64 x1, .int .i64 y1, .int .i64 0, .int .i64 0, .slice none 0 0, .int .i64 m0, .int .i64 m1, .int .i64 0, .int .i64 0, .slice none 0 0, .int .i64 0, .bool false]) #[.int .i64 x0, .int .i64 y0, .int .i64 0, .int .i64 0, .slice none 0 0, .int .i64 m0, .int .i64 m1, .int .i64 0, .int .i64 0, .slice none 0 0, .int .i64 x2, .int .i64 y2, .int .i64 0, .int .i64 0, .slice none 0 0, .int .i64 0, .bool false])
      replace kt := Lib.hid (Blk.farRow (Blk.farRow (Blk.setRow (kt.out.below hbx kt.out.lt) #[.int .i64 x0, .int .i64 y0, .int .i64 0, .int .i64 0, .slice none 0 0, .int .i64 x1, .int .i64 y1, .int .i64 0, .int .i64 0, .slice none 0 0, .int .i64 x2, .int .i64 y2, .int .i64 0, .int .i64 0, .slice none 0 0, .int .i64 0, .bool false]) (Nat.ne_of_lt (Nat.lt_of_lt_of_le kt.out.lt lk1)) #[.int .i64 x0, .int .i64 y0, .int .i64 0, .int .i64 0, .slice none 0 0, .int .i64 x1, .int .i64 y1, .int .i64 0, .int .i64 0, .slice none 0 0, .int .i64 m0, .int .i64 m1, .int .i64 0, .int .i64 0, .slice none 0 0, .int .i64 0, .bool false]) (Nat.ne_of_lt (Nat.lt_of_lt_of_le kt.out.lt lk2)) #[.int .i64 x0, .int .i64 y0, .int .i64 0, .int .i64 0, .slice none 0 0, .int .i64 m0, .int .i64 m1, .int .i64 0, .int .i64 0, .slice none 0 0, .int .i64 x2, .int .i64 y2, .int .i64 0, .int .i64 0, .slice none 0 0, .int .i64 0, .bool false])
      replace km := Lib.hid (Blk.farRow (Blk.farRow (Blk.farRow (km.out.below hbx km.out.lt) (show w.heap.size + 1 ≠ w.heap.size by omega) #[.int .i64 x0, .int .i64 y0, .int .i64 0, .int .i64 0, .slice none 0 0, .int .i64 x1, .int .i64 y1, .int .i64 0, .int .i64 0, .slice none 0 0, .int .i64 x2, .int .i64 y2, .int .i64 0, .int .i64 0, .slice none 0 0, .int .i64 0, .bool false]) (Nat.ne_of_lt (Nat.lt_of_lt_of_le km.out.lt lk1)) #[.int .i64 x0, .int .i64 y0, .int .i64 0, .int .i64 0, .slice none 0 0, .int .i64 x1, .int .i64 y1, .int .i64 0, .int .i64 0, .slice none 0 0, .int .i64 m0, .int .i64 m1, .int .i64 0, .int .i64 0, .slice none 0 0, .int .i64 0, .bool false]) (Nat.ne_of_lt (Nat.lt_of_lt_of_le km.out.lt lk2)) #[.int .i64 x0, .int .i64 y0, .int .i64 0, .int .i64 0, .slice none 0 0, .int .i64 m0, .int .i64 m1, .int .i64 0, .int .i64 0, .slice none 0 0, .int .i64 x2, .int .i64 y2, .int .i64 0, .int .i64 0, .slice none 0 0, .int .i64 0, .bool false])
      replace kp := Lib.hid (Blk.farRow (Blk.farRow (Blk.farRow (kp.out.below hbx kp.out.lt) (show w.heap.size + 1 + 1 ≠ w.heap.size by omega) #[.int .i64 x0, .int .i64 y0, .int .i64 0, .int .i64 0, .slice none 0 0, .int .i64 x1, .int .i64 y1, .int .i64 0, .int .i64 0, .slice none 0 0, .int .i64 x2, .int .i64 y2, .int .i64 0, .int .i64 0, .slice none 0 0, .int .i64 0, .bool false]) (Nat.ne_of_lt (Nat.lt_of_lt_of_le kp.out.lt lk1)) #[.int .i64 x0, .int .i64 y0, .int .i64 0, .int .i64 0, .slice none 0 0, .int .i64 x1, .int .i64 y1, .int .i64 0, .int .i64 0, .slice none 0 0, .int .i64 m0, .int .i64 m1, .int .i64 0, .int .i64 0, .slice none 0 0, .int .i64 0, .bool false]) (Nat.ne_of_lt (Nat.lt_of_lt_of_le kp.out.lt lk2)) #[.int .i64 x0, .int .i64 y0, .int .i64 0, .int .i64 0, .slice none 0 0, .int .i64 m0, .int .i64 m1, .int .i64 0, .int .i64 0, .slice none 0 0, .int .i64 x2, .int .i64 y2, .int .i64 0, .int .i64 0, .slice none 0 0, .int .i64 0, .bool false])
      replace ka := Lib.hid (Blk.farRow (Blk.farRow (Blk.farRow (ka.out.below hbx ka.out.lt) ne_ka_kt #[.int .i64 x0, .int .i64 y0, .int .i64 0, .int .i64 0, .slice none 0 0, .int .i64 x1, .int .i64 y1, .int .i64 0, .int .i64 0, .slice none 0 0, .int .i64 x2, .int .i64 y2, .int .i64 0, .int .i64 0, .slice none 0 0, .int .i64 0, .bool false]) (Nat.ne_of_lt (Nat.lt_of_lt_of_le ka.out.lt lk1)) #[.int .i64 x0, .int .i64 y0, .int .i64 0, .int .i64 0, .slice none 0 0, .int .i64 x1, .int .i64 y1, .int .i64 0, .int .i64 0, .slice none 0 0, .int .i64 m0, .int .i64 m1, .int .i64 0, .int .i64 0, .slice none 0 0, .int .i64 0, .bool false]) (Nat.ne_of_lt (Nat.lt_of_lt_of_le ka.out.lt lk2)) #[.int .i64 x0, .int .i64 y0, .int .i64 0, .int .i64 0, .slice none 0 0, .int .i64 m0, .int .i64 m1, .int .i64 0, .int .i64 0, .slice none 0 0, .int .i64 x2, .int .i64 y2, .int .i64 0, .int .i64 0, .slice none 0 0, .int .i64 0, .bool false])
      replace kb := Lib.hid (Blk.farRow (Blk.farRow (Blk.farRow (kb.out.below hbx kb.out.lt) ne_kb_kt #[.int .i64 x0, .int .i64 y0, .int .i64 0, .int .i64 0, .slice none 0 0, .int .i64 x1, .int .i64 y1, .int .i64 0, .int .i64 0, .slice none 0 0, .int .i64 x2, .int .i64 y2, .int .i64 0, .int .i64 0, .slice none 0 0, .int .i64 0, .bool false]) (Nat.ne_of_lt (Nat.lt_of_lt_of_le kb.out.lt lk1)) #[.int .i64 x0, .int .i64 y0, .int .i64 0, .int .i64 0, .slice none 0 0, .int .i64 x1, .int .i64 y1, .int .i64 0, .int .i64 0, .slice none 0 0, .int .i64 m0, .int .i64 m1, .int .i64 0, .int .i64 0, .slice none 0 0, .int .i64 0, .bool false]) (Nat.ne_of_lt (Nat.lt_of_lt_of_le kb.out.lt lk2)) #[.int .i64 x0, .int .i64 y0, .int .i64 0, .int .i64 0, .slice none 0 0, .int .i64 m0, .int .i64 m1, .int .i64 0, .int .i64 0, .slice none 0 0, .int .i64 x2, .int .i64 y2, .int .i64 0, .int .i64 0, .slice none 0 0, .int .i64 0, .bool false])
      replace kc := Lib.hid (Blk.farRow (Blk.farRow (Blk.farRow (kc.out.below hbx kc.out.lt) ne_kc_kt #[.int .i64 x0, .int .i64 y0, .int .i64 0, .int .i64 0, .slice none 0 0, .int .i64 x1, .int .i64 y1, .int .i64 0, .int .i64 0, .slice none 0 0, .int .i64 x2, .int .i64 y2, .int .i64 0, .int .i64 0, .slice none 0 0, .int .i64 0, .bool false]) (Nat.ne_of_lt (Nat.lt_of_lt_of_le kc.out.lt lk1)) #[.int .i64 x0, .int .i64 y0, .int .i64 0, .int .i64 0, .slice none 0 0, .int .i64 x1, .int .i64 y1, .int .i64 0, .int .i64 0, .slice none 0 0, .int .i64 m0, .int .i64 m1, .int .i64 0, .int .i64 0, .slice none 0 0, .int .i64 0, .bool false]) (Nat.ne_of_lt (Nat.lt_of_lt_of_le kc.out.lt lk2)) #[.int .i64 x0, .int .i64 y0, .int .i64 0, .int .i64 0, .slice none 0 0, .int .i64 m0, .int .i64 m1, .int .i64 0, .int .i64 0, .slice none 0 0, .int .i64 x2, .int .i64 y2, .int .i64 0, .int .i64 0, .slice none 0 0, .int .i64 0, .bool false])
      replace hB := Lib.hid (below_setRow (below_setRow (below_setRow (below_on hB.out hbx) (Nat.le_refl _) #[.int .i64 x0, .int .i64 y0, .int .i64 0, .int .i64 0, .slice none 0 0, .int .i64 x1, .int .i64 y1, .int .i64 0, .int .i64 0, .slice none 0 0, .int .i64 x2, .int .i64 y2, .int .i64 0, .int .i64 0, .slice none 0 0, .int .i64 0, .bool false]) (Nat.le_trans hB.out.size lk1) #[.int .i64 x0, .int .i64 y0, .int .i64 0, .int .i64 0, .slice none 0 0, .int .i64 x1, .int .i64 y1, .int .i64 0, .int .i64 0, .slice none 0 0, .int .i64 m0, .int .i64 m1, .int .i64 0, .int .i64 0, .slice none 0 0, .int .i64 0, .bool false]) (Nat.le_trans hB.out.size lk2) #[.int .i64 x0, .int .i64 y0, .int .i64 0, .int .i64 0, .slice none 0 0, .int .i64 m0, .int .i64 m1, .int .i64 0, .int .i64 0, .slice none 0 0, .int .i64 x2, .int .i64 y2, .int .i64 0, .int .i64 0, .slice none 0 0, .int .i64 0, .bool false])
      clear k1 k2
      have k1 := k1'
      have k2 := k2'
      clear hbx k1' lk1 k2' lk2 nk1k2
      refine wpList_nil ?_
      dsimp only [Act.put]
      generalize (((xw.setRow (w.heap.size) #[.int .i64 x0, .int .i64 y0, .int .i64 0, .int .i64 0, .slice none 0 0, .int .i64 x1, .int .i64 y1, .int .i64 0, .int .i64 0, .slice none 0 0, .int .i64 x2, .int .i64 y2, .int .i64 0, .int .i64 0, .slice none 0 0, .int .i64 0, .bool false]).setRow pk1 #[.int .i64 x0, .int .i64 y0, .int .i64 0, .int .i64 0, .slice none 0 0, .int .i64 x1, .int .i64 y1, .int .i64 0, .int .i64 0, .slice none 0 0, .int .i64 m0, .int .i64 m1, .int .i64 0, .int .i64 0, .slice none 0 0, .int .i64 0, .bool false]).setRow pk2 #[.int .i64 x0, .int .i64 y0, .int .i64 0, .int .i64 0, .slice none 0 0, .int .i64 m0, .int .i64 m1, .int .i64 0, .int .i64 0, .slice none 0 0, .int .i64 x2, .int .i64 y2, .int .i64 0, .int .i64 0, .slice none 0 0, .int .i64 0, .bool false]) = W3 at *
      clear ka
      clear ne_kt_ka ne_kt_kb ne_kt_kc ne_ka_kt ne_kb_kt ne_kc_kt no_k1 no_k2
      obtain rfl | ⟨rfl, rfl⟩ | ⟨rfl, rfl, rfl⟩ | ⟨rfl, rfl, rfl, rfl⟩ | ⟨rfl, rfl, rfl, rfl, hg⟩ := hgood.out
      · clear hgood
        have ckt := kt.out.cell
        have lkt := kt.out.lt
        have ckm := km.out.cell
        have lkm := km.out.lt
        have ckp := kp.out.cell
        have lkp := kp.out.lt
        have ckb := kb.out.cell
        have lkb := kb.out.lt
        have ckc := kc.out.cell
        have lkc := kc.out.lt
        have ck1 := k1.out.cell
        have lk1 := k1.out.lt
        have ck2 := k2.out.cell
        have lk2 := k2.out.lt
        go_wp2_with (refine wpList_load_row rfl 34 _ rfl _ rfl _ _ _ _ kt.out Try.underlying34 rfl triInfo ?_)
        clear ckt lkt ckm lkm ckp lkp ckb lkb ckc lkc ck1 lk1 ck2 lk2
        refine (valid_at _ _ _ _ _ _ _ _ _ _ _ _ _ _ _ _ _ _ _ _ _ _ _ _ _ h1.out).mono ?_
        rintro e W4 ⟨rfl, hb⟩
        replace kt := Lib.hid (kt.out.call hb)
        replace km := Lib.hid (km.out.call hb)
        replace kp := Lib.hid (kp.out.call hb)
        replace kb := Lib.hid (kb.out.call hb)
        replace kc := Lib.hid (kc.out.call hb)
        replace k1 := Lib.hid (k1.out.call hb)
        replace k2 := Lib.hid (k2.out.call hb)
        replace hB := Lib.hid (below_on hB.out hb)
        clear hb
        have ckt := kt.out.cell
        have lkt := kt.out.lt
        have ckm := km.out.cell
        have lkm := km.out.lt
        have ckp := kp.out.cell
        have lkp := kp.out.lt
        have ckb := kb.out.cell
        have lkb := kb.out.lt
        have ckc := kc.out.cell
        have lkc := kc.out.lt
        have ck1 := k1.out.cell
        have lk1 := k1.out.lt
        have ck2 := k2.out.cell
        have lk2 := k2.out.lt
        go_wp2_with fail
        clear ckt lkt ckm lkm ckp lkp ckb lkb ckc lkc ck1 lk1 ck2 lk2
        refine (example_true _).mono ?_
        rintro e W5 ⟨rfl, hb⟩
        replace kt := Lib.hid (kt.out.call hb)
        replace km := Lib.hid (km.out.call hb)
        replace kp := Lib.hid (kp.out.call hb)
        replace kb := Lib.hid (kb.out.call hb)
        replace kc := Lib.hid (kc.out.call hb)
        replace k1 := Lib.hid (k1.out.call hb)
        replace k2 := Lib.hid (k2.out.call hb)
        replace hB := Lib.hid (below_on hB.out hb)
        clear hb
        go_wp2
        go_ret
        exact ⟨rfl, hB.out⟩
      · clear hgood
        have ckt := kt.out.cell
        have lkt := kt.out.lt
        have ckm := km.out.cell
        have lkm := km.out.lt
        have ckp := kp.out.cell
        have lkp := kp.out.lt
        have ckb := kb.out.cell
        have lkb := kb.out.lt
        have ckc := kc.out.cell
        have lkc := kc.out.lt
        have ck1 := k1.out.cell
        have lk1 := k1.out.lt
        have ck2 := k2.out.cell
        have lk2 := k2.out.lt
        go_wp2_with (refine wpList_load_row rfl 34 _ rfl _ rfl _ _ _ _ kt.out Try.underlying34 rfl triInfo ?_)
        clear ckt lkt ckm lkm ckp lkp ckb lkb ckc lkc ck1 lk1 ck2 lk2
        refine (valid_at _ _ _ _ _ _ _ _ _ _ _ _ _ _ _ _ _ _ _ _ _ _ _ _ _ h1.out).mono ?_
        rintro e W6 ⟨rfl, hb⟩
        replace kt := Lib.hid (kt.out.call hb)
        replace km := Lib.hid (km.out.call hb)
        replace kp := Lib.hid (kp.out.call hb)
        replace kb := Lib.hid (kb.out.call hb)
        replace kc := Lib.hid (kc.out.call hb)
        replace k1 := Lib.hid (k1.out.call hb)
        replace k2 := Lib.hid (k2.out.call hb)
        replace hB := Lib.hid (below_on hB.out hb)
        clear hb
        have ckt := kt.out.cell
        have lkt := kt.out.lt
        have ckm := km.out.cell
        have lkm := km.out.lt
        have ckp := kp.out.cell
        have lkp := kp.out.lt
        have ckb := kb.out.cell
        have lkb := kb.out.lt
        have ckc := kc.out.cell
        have lkc := kc.out.lt
        have ck1 := k1.out.cell
        have lk1 := k1.out.lt
        have ck2 := k2.out.cell
        have lk2 := k2.out.lt
        go_wp2_with (refine wpList_load_rowG rfl 34 _ rfl _ rfl _ _ _ _ k1.out Try.underlying34 rfl triInfo ?_)
        clear ckt lkt ckm lkm ckp lkp ckb lkb ckc lkc ck1 lk1 ck2 lk2
        refine (valid_at _ _ _ _ _ _ _ _ _ _ _ _ _ _ _ _ _ _ _ _ _ _ _ _ _ h2.out).mono ?_
        rintro e W7 ⟨rfl, hb⟩
        replace kt := Lib.hid (kt.out.call hb)
        replace km := Lib.hid (km.out.call hb)
        replace kp := Lib.hid (kp.out.call hb)
        replace kb := Lib.hid (kb.out.call hb)
        replace kc := Lib.hid (kc.out.call hb)
        replace k1 := Lib.hid (k1.out.call hb)
        replace k2 := Lib.hid (k2.out.call hb)
        replace hB := Lib.hid (below_on hB.out hb)
        clear hb
        have ckt := kt.out.cell
        have lkt := kt.out.lt
        have ckm := km.out.cell
        have lkm := km.out.lt
        have ckp := kp.out.cell
        have lkp := kp.out.lt
        have ckb := kb.out.cell
        have lkb := kb.out.lt
        have ckc := kc.out.cell
        have lkc := kc.out.lt
        have ck1 := k1.out.cell
        have lk1 := k1.out.lt
        have ck2 := k2.out.cell
        have lk2 := k2.out.lt
        go_wp2_with fail
        clear ckt lkt ckm lkm ckp lkp ckb lkb ckc lkc ck1 lk1 ck2 lk2
        refine (example_true _).mono ?_
        rintro e W8 ⟨rfl, hb⟩
        replace kt := Lib.hid (kt.out.call hb)
        replace km := Lib.hid (km.out.call hb)
        replace kp := Lib.hid (kp.out.call hb)
        replace kb := Lib.hid (kb.out.call hb)
        replace kc := Lib.hid (kc.out.call hb)
        replace k1 := Lib.hid (k1.out.call hb)
        replace k2 := Lib.hid (k2.out.call hb)
        replace hB := Lib.hid (below_on hB.out hb)
        clear hb
        go_wp2
        go_ret
        exact ⟨rfl, hB.out⟩
      · clear hgood
        have ckt := kt.out.cell
        have lkt := kt.out.lt
        have ckm := km.out.cell
        have lkm := km.out.lt
        have ckp := kp.out.cell
        have lkp := kp.out.lt
        have ckb := kb.out.cell
        have lkb := kb.out.lt
        have ckc := kc.out.cell
        have lkc := kc.out.lt
        have ck1 := k1.out.cell
        have lk1 := k1.out.lt
        have ck2 := k2.out.cell
        have lk2 := k2.out.lt
        go_wp2_with (refine wpList_load_row rfl 34 _ rfl _ rfl _ _ _ _ kt.out Try.underlying34 rfl triInfo ?_)
        clear ckt lkt ckm lkm ckp lkp ckb lkb ckc lkc ck1 lk1 ck2 lk2
        refine (valid_at _ _ _ _ _ _ _ _ _ _ _ _ _ _ _ _ _ _ _ _ _ _ _ _ _ h1.out).mono ?_
        rintro e W9 ⟨rfl, hb⟩
        replace kt := Lib.hid (kt.out.call hb)
        replace km := Lib.hid (km.out.call hb)
        replace kp := Lib.hid (kp.out.call hb)
        replace kb := Lib.hid (kb.out.call hb)
        replace kc := Lib.hid (kc.out.call hb)
        replace k1 := Lib.hid (k1.out.call hb)
        replace k2 := Lib.hid (k2.out.call hb)
        replace hB := Lib.hid (below_on hB.out hb)
        clear hb
        have ckt := kt.out.cell
        have lkt := kt.out.lt
        have ckm := km.out.cell
        have lkm := km.out.lt
        have ckp := kp.out.cell
        have lkp := kp.out.lt
        have ckb := kb.out.cell
        have lkb := kb.out.lt
        have ckc := kc.out.cell
        have lkc := kc.out.lt
        have ck1 := k1.out.cell
        have lk1 := k1.out.lt
        have ck2 := k2.out.cell
        have lk2 := k2.out.lt
        go_wp2_with (refine wpList_load_rowG rfl 34 _ rfl _ rfl _ _ _ _ k1.out Try.underlying34 rfl triInfo ?_)
        clear ckt lkt ckm lkm ckp lkp ckb lkb ckc lkc ck1 lk1 ck2 lk2
        refine (valid_at _ _ _ _ _ _ _ _ _ _ _ _ _ _ _ _ _ _ _ _ _ _ _ _ _ h2.out).mono ?_
        rintro e W10 ⟨rfl, hb⟩
        replace kt := Lib.hid (kt.out.call hb)
        replace km := Lib.hid (km.out.call hb)
        replace kp := Lib.hid (kp.out.call hb)
        replace kb := Lib.hid (kb.out.call hb)
        replace kc := Lib.hid (kc.out.call hb)
        replace k1 := Lib.hid (k1.out.call hb)
        replace k2 := Lib.hid (k2.out.call hb)
        replace hB := Lib.hid (below_on hB.out hb)
        clear hb
        have ckt := kt.out.cell
        have lkt := kt.out.lt
        have ckm := km.out.cell
        have lkm := km.out.lt
        have ckp := kp.out.cell
        have lkp := kp.out.lt
        have ckb := kb.out.cell
        have lkb := kb.out.lt
        have ckc := kc.out.cell
        have lkc := kc.out.lt
        have ck1 := k1.out.cell
        have lk1 := k1.out.lt
        have ck2 := k2.out.cell
        have lk2 := k2.out.lt
        go_wp2_with (refine wpList_load_rowG rfl 34 _ rfl _ rfl _ _ _ _ k2.out Try.underlying34 rfl triInfo ?_)
        clear ckt lkt ckm lkm ckp lkp ckb lkb ckc lkc ck1 lk1 ck2 lk2
        refine (valid_at _ _ _ _ _ _ _ _ _ _ _ _ _ _ _ _ _ _ _ _ _ _ _ _ _ h3.out).mono ?_
        rintro e W11 ⟨rfl, hb⟩
        replace kt := Lib.hid (kt.out.call hb)
        replace km := Lib.hid (km.out.call hb)
        replace kp := Lib.hid (kp.out.call hb)
        replace kb := Lib.hid (kb.out.call hb)
        replace kc := Lib.hid (kc.out.call hb)
        replace k1 := Lib.hid (k1.out.call hb)
        replace k2 := Lib.hid (k2.out.call hb)
        replace hB := Lib.hid (below_on hB.out hb)
        clear hb
        have ckt := kt.out.cell
        have lkt := kt.out.lt
        have ckm := km.out.cell
        have lkm := km.out.lt
        have ckp := kp.out.cell
        have lkp := kp.out.lt
        have ckb := kb.out.cell
        have lkb := kb.out.lt
        have ckc := kc.out.cell
        have lkc := kc.out.lt
        have ck1 := k1.out.cell
        have lk1 := k1.out.lt
        have ck2 := k2.out.cell
        have lk2 := k2.out.lt
        go_wp2_with fail
        clear ckt lkt ckm lkm ckp lkp ckb lkb ckc lkc ck1 lk1 ck2 lk2
        refine (example_true _).mono ?_
        rintro e W12 ⟨rfl, hb⟩
        replace kt := Lib.hid (kt.out.call hb)
        replace km := Lib.hid (km.out.call hb)
        replace kp := Lib.hid (kp.out.call hb)
        replace kb := Lib.hid (kb.out.call hb)
        replace kc := Lib.hid (kc.out.call hb)
        replace k1 := Lib.hid (k1.out.call hb)
        replace k2 := Lib.hid (k2.out.call hb)
        replace hB := Lib.hid (below_on hB.out hb)
        clear hb
        go_wp2
        go_ret
        exact ⟨rfl, hB.out⟩
      · clear hgood
        have ckt := kt.out.cell
        have lkt := kt.out.lt
        have ckm := km.out.cell
        have lkm := km.out.lt
        have ckp := kp.out.cell
        have lkp := kp.out.lt
        have ckb := kb.out.cell
        have lkb := kb.out.lt
        have ckc := kc.out.cell
        have lkc := kc.out.lt
        have ck1 := k1.out.cell
        have lk1 := k1.out.lt
        have ck2 := k2.out.cell
        have lk2 := k2.out.lt
        go_wp2_with (refine wpList_load_row rfl 34 _ rfl _ rfl _ _ _ _ kt.out Try.underlying34 rfl triInfo ?_)
        clear ckt lkt ckm lkm ckp lkp ckb lkb ckc lkc ck1 lk1 ck2 lk2
        refine (valid_at _ _ _ _ _ _ _ _ _ _ _ _ _ _ _ _ _ _ _ _ _ _ _ _ _ h1.out).mono ?_
        rintro e W13 ⟨rfl, hb⟩
        replace kt := Lib.hid (kt.out.call hb)
        replace km := Lib.hid (km.out.call hb)
        replace kp := Lib.hid (kp.out.call hb)
        replace kb := Lib.hid (kb.out.call hb)
        replace kc := Lib.hid (kc.out.call hb)
        replace k1 := Lib.hid (k1.out.call hb)
        replace k2 := Lib.hid (k2.out.call hb)
        replace hB := Lib.hid (below_on hB.out hb)
        clear hb
        have ckt := kt.out.cell
        have lkt := kt.out.lt
        have ckm := km.out.cell
        have lkm := km.out.lt
        have ckp := kp.out.cell
        have lkp := kp.out.lt
        have ckb := kb.out.cell
        have lkb := kb.out.lt
        have ckc := kc.out.cell
        have lkc := kc.out.lt
        have ck1 := k1.out.cell
        have lk1 := k1.out.lt
        have ck2 := k2.out.cell
        have lk2 := k2.out.lt
        go_wp2_with (refine wpList_load_rowG rfl 34 _ rfl _ rfl _ _ _ _ k1.out Try.underlying34 rfl triInfo ?_)
        clear ckt lkt ckm lkm ckp lkp ckb lkb ckc lkc ck1 lk1 ck2 lk2
        refine (valid_at _ _ _ _ _ _ _ _ _ _ _ _ _ _ _ _ _ _ _ _ _ _ _ _ _ h2.out).mono ?_
        rintro e W14 ⟨rfl, hb⟩
        replace kt := Lib.hid (kt.out.call hb)
        replace km := Lib.hid (km.out.call hb)
        replace kp := Lib.hid (kp.out.call hb)
        replace kb := Lib.hid (kb.out.call hb)
        replace kc := Lib.hid (kc.out.call hb)
        replace k1 := Lib.hid (k1.out.call hb)
        replace k2 := Lib.hid (k2.out.call hb)
        replace hB := Lib.hid (below_on hB.out hb)
        clear hb
        have ckt := kt.out.cell
        have lkt := kt.out.lt
        have ckm := km.out.cell
        have lkm := km.out.lt
        have ckp := kp.out.cell
        have lkp := kp.out.lt
        have ckb := kb.out.cell
        have lkb := kb.out.lt
        have ckc := kc.out.cell
        have lkc := kc.out.lt
        have ck1 := k1.out.cell
        have lk1 := k1.out.lt
        have ck2 := k2.out.cell
        have lk2 := k2.out.lt
        go_wp2_with (refine wpList_load_rowG rfl 34 _ rfl _ rfl _ _ _ _ k2.out Try.underlying34 rfl triInfo ?_)
        clear ckt lkt ckm lkm ckp lkp ckb lkb ckc lkc ck1 lk1 ck2 lk2
        refine (valid_at _ _ _ _ _ _ _ _ _ _ _ _ _ _ _ _ _ _ _ _ _ _ _ _ _ h3.out).mono ?_
        rintro e W15 ⟨rfl, hb⟩
        replace kt := Lib.hid (kt.out.call hb)
        replace km := Lib.hid (km.out.call hb)
        replace kp := Lib.hid (kp.out.call hb)
        replace kb := Lib.hid (kb.out.call hb)
        replace kc := Lib.hid (kc.out.call hb)
        replace k1 := Lib.hid (k1.out.call hb)
        replace k2 := Lib.hid (k2.out.call hb)
        replace hB := Lib.hid (below_on hB.out hb)
        clear hb
        have ckt := kt.out.cell
        have lkt := kt.out.lt
        have ckm := km.out.cell
        have lkm := km.out.lt
        have ckp := kp.out.cell
        have lkp := kp.out.lt
        have ckb := kb.out.cell
        have lkb := kb.out.lt
        have ckc := kc.out.cell
        have lkc := kc.out.lt
        have ck1 := k1.out.cell
        have lk1 := k1.out.lt
        have ck2 := k2.out.cell
        have lk2 := k2.out.lt
        go_wp2_with fail
        refine (function_at _ _ _ _ _ _ _ _ h4.out).mono ?_
        rintro e xw ⟨rfl, rfl⟩
        go_wp2_with fail
        clear ckt lkt ckm lkm ckp lkp ckb lkb ckc lkc ck1 lk1 ck2 lk2
        refine (example_true _).mono ?_
        rintro e W16 ⟨rfl, hb⟩
        replace kt := Lib.hid (kt.out.call hb)
        replace km := Lib.hid (km.out.call hb)
        replace kp := Lib.hid (kp.out.call hb)
        replace kb := Lib.hid (kb.out.call hb)
        replace kc := Lib.hid (kc.out.call hb)
        replace k1 := Lib.hid (k1.out.call hb)
        replace k2 := Lib.hid (k2.out.call hb)
        replace hB := Lib.hid (below_on hB.out hb)
        clear hb
        go_wp2
        go_ret
        exact ⟨rfl, hB.out⟩
      · clear hgood
        have ckt := kt.out.cell
        have lkt := kt.out.lt
        have ckm := km.out.cell
        have lkm := km.out.lt
        have ckp := kp.out.cell
        have lkp := kp.out.lt
        have ckb := kb.out.cell
        have lkb := kb.out.lt
        have ckc := kc.out.cell
        have lkc := kc.out.lt
        have ck1 := k1.out.cell
        have lk1 := k1.out.lt
        have ck2 := k2.out.cell
        have lk2 := k2.out.lt
        go_wp2_with (refine wpList_load_row rfl 34 _ rfl _ rfl _ _ _ _ kt.out Try.underlying34 rfl triInfo ?_)
        clear ckt lkt ckm lkm ckp lkp ckb lkb ckc lkc ck1 lk1 ck2 lk2
        refine (valid_at _ _ _ _ _ _ _ _ _ _ _ _ _ _ _ _ _ _ _ _ _ _ _ _ _ h1.out).mono ?_
        rintro e W17 ⟨rfl, hb⟩
        replace kt := Lib.hid (kt.out.call hb)
        replace km := Lib.hid (km.out.call hb)
        replace kp := Lib.hid (kp.out.call hb)
        replace kb := Lib.hid (kb.out.call hb)
        replace kc := Lib.hid (kc.out.call hb)
        replace k1 := Lib.hid (k1.out.call hb)
        replace k2 := Lib.hid (k2.out.call hb)
        replace hB := Lib.hid (below_on hB.out hb)
        clear hb
        have ckt := kt.out.cell
        have lkt := kt.out.lt
        have ckm := km.out.cell
        have lkm := km.out.lt
        have ckp := kp.out.cell
        have lkp := kp.out.lt
        have ckb := kb.out.cell
        have lkb := kb.out.lt
        have ckc := kc.out.cell
        have lkc := kc.out.lt
        have ck1 := k1.out.cell
        have lk1 := k1.out.lt
        have ck2 := k2.out.cell
        have lk2 := k2.out.lt
        go_wp2_with (refine wpList_load_rowG rfl 34 _ rfl _ rfl _ _ _ _ k1.out Try.underlying34 rfl triInfo ?_)
        clear ckt lkt ckm lkm ckp lkp ckb lkb ckc lkc ck1 lk1 ck2 lk2
        refine (valid_at _ _ _ _ _ _ _ _ _ _ _ _ _ _ _ _ _ _ _ _ _ _ _ _ _ h2.out).mono ?_
        rintro e W18 ⟨rfl, hb⟩
        replace kt := Lib.hid (kt.out.call hb)
        replace km := Lib.hid (km.out.call hb)
        replace kp := Lib.hid (kp.out.call hb)
        replace kb := Lib.hid (kb.out.call hb)
        replace kc := Lib.hid (kc.out.call hb)
        replace k1 := Lib.hid (k1.out.call hb)
        replace k2 := Lib.hid (k2.out.call hb)
        replace hB := Lib.hid (below_on hB.out hb)
        clear hb
        have ckt := kt.out.cell
        have lkt := kt.out.lt
        have ckm := km.out.cell
        have lkm := km.out.lt
        have ckp := kp.out.cell
        have lkp := kp.out.lt
        have ckb := kb.out.cell
        have lkb := kb.out.lt
        have ckc := kc.out.cell
        have lkc := kc.out.lt
        have ck1 := k1.out.cell
        have lk1 := k1.out.lt
        have ck2 := k2.out.cell
        have lk2 := k2.out.lt
        go_wp2_with (refine wpList_load_rowG rfl 34 _ rfl _ rfl _ _ _ _ k2.out Try.underlying34 rfl triInfo ?_)
        clear ckt lkt ckm lkm ckp lkp ckb lkb ckc lkc ck1 lk1 ck2 lk2
        refine (valid_at _ _ _ _ _ _ _ _ _ _ _ _ _ _ _ _ _ _ _ _ _ _ _ _ _ h3.out).mono ?_
        rintro e W19 ⟨rfl, hb⟩
        replace kt := Lib.hid (kt.out.call hb)
        replace km := Lib.hid (km.out.call hb)
        replace kp := Lib.hid (kp.out.call hb)
        replace kb := Lib.hid (kb.out.call hb)
        replace kc := Lib.hid (kc.out.call hb)
        replace k1 := Lib.hid (k1.out.call hb)
        replace k2 := Lib.hid (k2.out.call hb)
        replace hB := Lib.hid (below_on hB.out hb)
        clear hb
        have ckt := kt.out.cell
        have lkt := kt.out.lt
        have ckm := km.out.cell
        have lkm := km.out.lt
        have ckp := kp.out.cell
        have lkp := kp.out.lt
        have ckb := kb.out.cell
        have lkb := kb.out.lt
        have ckc := kc.out.cell
        have lkc := kc.out.lt
        have ck1 := k1.out.cell
        have lk1 := k1.out.lt
        have ck2 := k2.out.cell
        have lk2 := k2.out.lt
        go_wp2_with fail
        refine (function_at _ _ _ _ _ _ _ _ h4.out).mono ?_
        rintro e xw ⟨rfl, rfl⟩
        go_wp2_with fail
        clear ckt lkt ckm lkm ckp lkp ckb lkb ckc lkc ck1 lk1 ck2 lk2
        clear kb kc km
        replace hg := Lib.hid hg
        have ckt := kt.out.cell
        have lkt := kt.out.lt
        have ckp := kp.out.cell
        have lkp := kp.out.lt
        have ck1 := k1.out.cell
        have lk1 := k1.out.lt
        have ck2 := k2.out.cell
        have lk2 := k2.out.lt
        refine wp_region_ext (W19.heap.size) (by kernel_rfl) (by kernel_rfl) ?_
        repeat (first | (go_big_quiet_want; refine quiet_load_row 34 _ rfl _ rfl _ _ _ k1.out (by assumption) Try.underlying34 rfl triInfo ?_; simp only [Act.put, List.setIfInBounds_toArray, List.set_cons_zero, List.set_cons_succ]; go_big_quiet_on) | (go_big_quiet_want; refine quiet_load_row 34 _ rfl _ rfl _ _ _ k2.out (by assumption) Try.underlying34 rfl triInfo ?_; simp only [Act.put, List.setIfInBounds_toArray, List.set_cons_zero, List.set_cons_succ]; go_big_quiet_on) | go_big_quiet_step (first | (go_at_call 21; exact ext_call (Nat.le_refl _) (covers_at _ _ _ _ _ _ _ _ _ _ _ _ _ _ _ _ _ _ _ _ _ _ _ _ _ _ _ h6.out)) | (go_at_call 21; exact ext_call (Nat.le_refl _) (covers_at _ _ _ _ _ _ _ _ _ _ _ _ _ _ _ _ _ _ _ _ _ _ _ _ _ _ _ h7.out))))
        refine wpQuiet_nil ?_
        intro W20 hwx
        obtain ⟨⟨W20, hb⟩, rfl⟩ := hwx
        clear ckt lkt ckp lkp ck1 lk1 ck2 lk2
        replace kt := Lib.hid (kt.out.call hb)
        replace kp := Lib.hid (kp.out.call hb)
        replace k1 := Lib.hid (k1.out.call hb)
        replace k2 := Lib.hid (k2.out.call hb)
        replace hB := Lib.hid (below_on hB.out hb)
        clear hb
        have ckt := kt.out.cell
        have lkt := kt.out.lt
        have ckp := kp.out.cell
        have lkp := kp.out.lt
        have ck1 := k1.out.cell
        have lk1 := k1.out.lt
        have ck2 := k2.out.cell
        have lk2 := k2.out.lt
        go_wp2_with (refine wpList_load_row rfl 34 _ rfl _ rfl _ _ _ _ kt.out Try.underlying34 rfl triInfo ?_)
        clear ckt lkt ckp lkp ck1 lk1 ck2 lk2
        refine (covers_at _ _ _ _ _ _ _ _ _ _ _ _ _ _ _ _ _ _ _ _ _ _ _ _ _ _ _ h5.out).mono ?_
        rintro e W21 ⟨rfl, hb⟩
        replace kt := Lib.hid (kt.out.call hb)
        replace kp := Lib.hid (kp.out.call hb)
        replace k1 := Lib.hid (k1.out.call hb)
        replace k2 := Lib.hid (k2.out.call hb)
        replace hB := Lib.hid (below_on hB.out hb)
        clear hb
        obtain ⟨rfl, rfl, rfl⟩ | ⟨rfl, rfl, rfl⟩ | ⟨rfl, rfl, rfl⟩ := hg.out
        all_goals
          have ckt := kt.out.cell
          have lkt := kt.out.lt
          have ckp := kp.out.cell
          have lkp := kp.out.lt
          have ck1 := k1.out.cell
          have lk1 := k1.out.lt
          have ck2 := k2.out.cell
          have lk2 := k2.out.lt
          go_wp2_with fail
          clear ckt lkt ckp lkp ck1 lk1 ck2 lk2
          refine (example_true _).mono ?_
          rintro e W22 ⟨rfl, hb⟩
          replace kt := Lib.hid (kt.out.call hb)
          replace kp := Lib.hid (kp.out.call hb)
          replace k1 := Lib.hid (k1.out.call hb)
          replace k2 := Lib.hid (k2.out.call hb)
          replace hB := Lib.hid (below_on hB.out hb)
          clear hb
          go_wp2
          go_ret
          exact ⟨rfl, hB.out⟩
end Go.Proofs.Ytmcemnhhmlnfcaa
