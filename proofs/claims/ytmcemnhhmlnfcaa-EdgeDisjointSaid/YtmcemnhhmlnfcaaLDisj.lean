/- The walk of EdgeDisjoint: true where the two triangles do not both cover the point, and a triangle that covers a point is valid. -/
import Derived.Test.YtmcemnhhmlnfcaaEEx
namespace Go.Proofs.Ytmcemnhhmlnfcaa
open Go.RowKit
attribute [local go_sem] Ext.cell
set_option maxHeartbeats 4000000 in
theorem disj_walk (a0 a1 b0 b1 c0 c1 d0 d1 p0 p1 : Int) (w : World) (x y v u : Bool) (h1 : covB a0 a1 b0 b1 c0 c1 p0 p1 = x) (h2 : covB b0 b1 a0 a1 d0 d1 p0 p1 = y) (h3 : validB a0 a1 b0 b1 c0 c1 = v) (h4 : validB b0 b1 a0 a1 d0 d1 = u) (hgood : (x = false ∧ y = false) ∨ (x = true ∧ v = true ∧ y = false) ∨ (x = false ∧ y = true ∧ u = true)) :
    Calls Try.prog 6 #[.agg #[.int .i64 a0, .int .i64 a1, .int .i64 b0, .int .i64 b1, .int .i64 c0, .int .i64 c1, .int .i64 d0, .int .i64 d1], .agg #[.int .i64 p0, .int .i64 p1]] w fun e w' => e = .returned (.bool true) ∧ Below w.heap.size w w' := by
  have e1 := Lib.hid h1
  have e2 := Lib.hid h2
  have e3 := Lib.hid h3
  have e4 := Lib.hid h4
  replace hgood := Lib.hid hgood
  clear h1 h2 h3 h4
  have hw0 : IntKind.i64.wrap 0 = 0 := by decide
  have hw1 : IntKind.i64.wrap 1 = 1 := by decide
  have hw2 : IntKind.i64.wrap 2 = 2 := by decide
  have hw3 : IntKind.i64.wrap 3 = 3 := by decide
  go_enter Try.func6, Try.ntmps6
  have kq := Lib.hid ((Blk.new w 40 #[.int .i64 a0, .int .i64 a1, .int .i64 b0, .int .i64 b1, .int .i64 c0, .int .i64 c1, .int .i64 d0, .int .i64 d1]).alloc (.cells #[.int .i64 p0, .int .i64 p1] 22))
  have k3 := Lib.hid (Blk.new1 w 22 #[.int .i64 p0, .int .i64 p1] (.cells #[.int .i64 a0, .int .i64 a1, .int .i64 b0, .int .i64 b1, .int .i64 c0, .int .i64 c1, .int .i64 d0, .int .i64 d1] 40))
  have hB : Hid (Below w.heap.size w ((w.alloc (.cells #[.int .i64 a0, .int .i64 a1, .int .i64 b0, .int .i64 b1, .int .i64 c0, .int .i64 c1, .int .i64 d0, .int .i64 d1] 40)).alloc (.cells #[.int .i64 p0, .int .i64 p1] 22))) := Lib.hid (by go_grown)
  go_wp2_with fail
  generalize ((w.alloc (.cells #[.int .i64 a0, .int .i64 a1, .int .i64 b0, .int .i64 b1, .int .i64 c0, .int .i64 c1, .int .i64 d0, .int .i64 d1] 40)).alloc (.cells #[.int .i64 p0, .int .i64 p1] 22)) = W1 at *
  refine' wp_region_fresh 7 [⟨4, 5, 22, #[.int .i64 0, .int .i64 0], 6, #[.int .i64 a0, .int .i64 a1]⟩, ⟨5, 6, 22, #[.int .i64 0, .int .i64 0], 7, #[.int .i64 b0, .int .i64 b1]⟩] (by kernel_rfl) (by kernel_rfl) (by simp) (by simp) (by simp) (by simp) ?hz ?h1 ?hs ?h2
  case hz =>
    intro z hz
    simp only [List.mem_cons, List.not_mem_nil, or_false] at hz
    rcases hz with rfl | rfl
    all_goals exact ⟨by simp, by simp, _, rfl, rfl, rfl, fun ev xw => by simp [go_sem, ptrTo, Let.at_]⟩
  case h1 =>
    intro u hu
    have kqu := kq.out.below hu kq.out.lt
    have ckq := kqu.cell
    have lkq := kqu.lt
    have k3u := k3.out.below hu k3.out.lt
    have ck3 := k3u.cell
    have lk3 := k3u.lt
    simp only [List.take_succ_cons, List.take_zero, List.filter, isMk, isAl, isSt, Bool.or_false, Bool.or_true, Bool.not_true, Bool.not_false]
    repeat (go_big_quiet_step (first | fail))
    exact wpQuiet_nil rfl
  case hs =>
    intro z hz
    simp only [List.mem_cons, List.not_mem_nil, or_false] at hz
    rcases hz with rfl | rfl
    · exact fun _ => ⟨_, 22, _, rfl, rfl, by simp, rfl, rfl, (by kernel_rfl), rfl, by kernel_rfl⟩
    · exact fun h => absurd h (by simp)
  case h2 =>
    intro ℓ xw hlet
    obtain ⟨hbx, hlx, hnx⟩ := hlet
    obtain ⟨ka, lka⟩ := hlx ⟨4, 5, 22, #[.int .i64 0, .int .i64 0], 6, #[.int .i64 a0, .int .i64 a1]⟩ (by simp)
    obtain ⟨kb, lkb⟩ := hlx ⟨5, 6, 22, #[.int .i64 0, .int .i64 0], 7, #[.int .i64 b0, .int .i64 b1]⟩ (by simp)
    have nkakb := hnx ⟨4, 5, 22, #[.int .i64 0, .int .i64 0], 6, #[.int .i64 a0, .int .i64 a1]⟩ (by simp) ⟨5, 6, 22, #[.int .i64 0, .int .i64 0], 7, #[.int .i64 b0, .int .i64 b1]⟩ (by simp) (by simp)
    clear hnx hlx
    dsimp only [List.drop, lay, List.foldl, ptrTo] at *
    generalize ℓ 4 = pka at *
    generalize ℓ 5 = pkb at *
    replace ka : Hid (Blk xw pka 22 #[.int .i64 a0, .int .i64 a1]) := Lib.hid ka
    replace kb : Hid (Blk xw pkb 22 #[.int .i64 0, .int .i64 0]) := Lib.hid kb
    simp only [Act.put, List.setIfInBounds_toArray, List.set_cons_zero, List.set_cons_succ]
    refine wpList_store_row rfl 22 _ _ rfl pkb #[.int .i64 b0, .int .i64 b1] rfl rfl 22 _ kb.out (by kernel_rfl) rfl (by kernel_rfl) ?_
    have ka' := Lib.hid (Blk.farRow ka.out nkakb #[.int .i64 b0, .int .i64 b1])
    have kb' := Lib.hid (Blk.setRow kb.out #[.int .i64 b0, .int .i64 b1])
    replace kq := Lib.hid (Blk.farRow (kq.out.below hbx kq.out.lt) (Nat.ne_of_lt (Nat.lt_of_lt_of_le kq.out.lt lkb)) #[.int .i64 b0, .int .i64 b1])
    replace k3 := Lib.hid (Blk.farRow (k3.out.below hbx k3.out.lt) (Nat.ne_of_lt (Nat.lt_of_lt_of_le k3.out.lt lkb)) #[.int .i64 b0, .int .i64 b1])
    replace hB := Lib.hid (below_setRow (below_on hB.out hbx) (Nat.le_trans hB.out.size lkb) #[.int .i64 b0, .int .i64 b1])
    clear ka kb
    have ka := ka'
    have kb := kb'
    clear hbx ka' lka kb' lkb nkakb
    refine wpList_nil ?_
    dsimp only [Act.put]
    generalize (xw.setRow pkb #[.int .i64 b0, .int .i64 b1]) = W2 at *
    have ckq := kq.out.cell
    have lkq := kq.out.lt
    have ck3 := k3.out.cell
    have lk3 := k3.out.lt
    have cka := ka.out.cell
    have lka := ka.out.lt
    have ckb := kb.out.cell
    have lkb := kb.out.lt
    go_wp2_with (fail)
    clear ckq lkq ck3 lk3 cka lka ckb lkb
    refine' wp_region_fresh 13 [⟨10, 7, 34, #[.int .i64 0, .int .i64 0, .int .i64 0, .int .i64 0, .slice none 0 0, .int .i64 0, .int .i64 0, .int .i64 0, .int .i64 0, .slice none 0 0, .int .i64 0, .int .i64 0, .int .i64 0, .int .i64 0, .slice none 0 0, .int .i64 0, .bool false], 12, #[.int .i64 a0, .int .i64 a1, .int .i64 0, .int .i64 0, .slice none 0 0, .int .i64 b0, .int .i64 b1, .int .i64 0, .int .i64 0, .slice none 0 0, .int .i64 c0, .int .i64 c1, .int .i64 0, .int .i64 0, .slice none 0 0, .int .i64 0, .bool false]⟩, ⟨11, 8, 34, #[.int .i64 0, .int .i64 0, .int .i64 0, .int .i64 0, .slice none 0 0, .int .i64 0, .int .i64 0, .int .i64 0, .int .i64 0, .slice none 0 0, .int .i64 0, .int .i64 0, .int .i64 0, .int .i64 0, .slice none 0 0, .int .i64 0, .bool false], 13, #[.int .i64 b0, .int .i64 b1, .int .i64 0, .int .i64 0, .slice none 0 0, .int .i64 a0, .int .i64 a1, .int .i64 0, .int .i64 0, .slice none 0 0, .int .i64 d0, .int .i64 d1, .int .i64 0, .int .i64 0, .slice none 0 0, .int .i64 0, .bool false]⟩] (by kernel_rfl) (by kernel_rfl) (by simp) (by simp) (by simp) (by simp) ?hz ?h1 ?hs ?h2
    case hz =>
      intro z hz
      simp only [List.mem_cons, List.not_mem_nil, or_false] at hz
      rcases hz with rfl | rfl
      all_goals exact ⟨by simp, by simp, _, rfl, rfl, rfl, fun ev xw => by simp [go_sem, ptrTo, Let.at_]⟩
    case h1 =>
      intro u hu
      have kqu := kq.out.below hu kq.out.lt
      have ckq := kqu.cell
      have lkq := kqu.lt
      have k3u := k3.out.below hu k3.out.lt
      have ck3 := k3u.cell
      have lk3 := k3u.lt
      have kau := ka.out.below hu ka.out.lt
      have cka := kau.cell
      have lka := kau.lt
      have kbu := kb.out.below hu kb.out.lt
      have ckb := kbu.cell
      have lkb := kbu.lt
      simp only [List.take_succ_cons, List.take_zero, List.filter, isMk, isAl, isSt, Bool.or_false, Bool.or_true, Bool.not_true, Bool.not_false]
      repeat (go_big_quiet_step (first | (go_at_call 20; exact ext_call (Nat.le_refl _) (triangle_any _ _ _ _ _ _ _))))
      exact wpQuiet_nil rfl
    case hs =>
      intro z hz
      simp only [List.mem_cons, List.not_mem_nil, or_false] at hz
      rcases hz with rfl | rfl
      · exact fun _ => ⟨_, 34, _, rfl, rfl, by simp, rfl, rfl, triInfo, rfl, by kernel_rfl⟩
      · exact fun h => absurd h (by simp)
    case h2 =>
      intro ℓ xw hlet
      obtain ⟨hbx, hlx, hnx⟩ := hlet
      obtain ⟨k1, lk1⟩ := hlx ⟨10, 7, 34, #[.int .i64 0, .int .i64 0, .int .i64 0, .int .i64 0, .slice none 0 0, .int .i64 0, .int .i64 0, .int .i64 0, .int .i64 0, .slice none 0 0, .int .i64 0, .int .i64 0, .int .i64 0, .int .i64 0, .slice none 0 0, .int .i64 0, .bool false], 12, #[.int .i64 a0, .int .i64 a1, .int .i64 0, .int .i64 0, .slice none 0 0, .int .i64 b0, .int .i64 b1, .int .i64 0, .int .i64 0, .slice none 0 0, .int .i64 c0, .int .i64 c1, .int .i64 0, .int .i64 0, .slice none 0 0, .int .i64 0, .bool false]⟩ (by simp)
      obtain ⟨k2, lk2⟩ := hlx ⟨11, 8, 34, #[.int .i64 0, .int .i64 0, .int .i64 0, .int .i64 0, .slice none 0 0, .int .i64 0, .int .i64 0, .int .i64 0, .int .i64 0, .slice none 0 0, .int .i64 0, .int .i64 0, .int .i64 0, .int .i64 0, .slice none 0 0, .int .i64 0, .bool false], 13, #[.int .i64 b0, .int .i64 b1, .int .i64 0, .int .i64 0, .slice none 0 0, .int .i64 a0, .int .i64 a1, .int .i64 0, .int .i64 0, .slice none 0 0, .int .i64 d0, .int .i64 d1, .int .i64 0, .int .i64 0, .slice none 0 0, .int .i64 0, .bool false]⟩ (by simp)
      have nk1k2 := hnx ⟨10, 7, 34, #[.int .i64 0, .int .i64 0, .int .i64 0, .int .i64 0, .slice none 0 0, .int .i64 0, .int .i64 0, .int .i64 0, .int .i64 0, .slice none 0 0, .int .i64 0, .int .i64 0, .int .i64 0, .int .i64 0, .slice none 0 0, .int .i64 0, .bool false], 12, #[.int .i64 a0, .int .i64 a1, .int .i64 0, .int .i64 0, .slice none 0 0, .int .i64 b0, .int .i64 b1, .int .i64 0, .int .i64 0, .slice none 0 0, .int .i64 c0, .int .i64 c1, .int .i64 0, .int .i64 0, .slice none 0 0, .int .i64 0, .bool false]⟩ (by simp) ⟨11, 8, 34, #[.int .i64 0, .int .i64 0, .int .i64 0, .int .i64 0, .slice none 0 0, .int .i64 0, .int .i64 0, .int .i64 0, .int .i64 0, .slice none 0 0, .int .i64 0, .int .i64 0, .int .i64 0, .int .i64 0, .slice none 0 0, .int .i64 0, .bool false], 13, #[.int .i64 b0, .int .i64 b1, .int .i64 0, .int .i64 0, .slice none 0 0, .int .i64 a0, .int .i64 a1, .int .i64 0, .int .i64 0, .slice none 0 0, .int .i64 d0, .int .i64 d1, .int .i64 0, .int .i64 0, .slice none 0 0, .int .i64 0, .bool false]⟩ (by simp) (by simp)
      clear hnx hlx
      dsimp only [List.drop, lay, List.foldl, ptrTo] at *
      generalize ℓ 10 = pk1 at *
      generalize ℓ 11 = pk2 at *
      replace k1 : Hid (Blk xw pk1 34 #[.int .i64 a0, .int .i64 a1, .int .i64 0, .int .i64 0, .slice none 0 0, .int .i64 b0, .int .i64 b1, .int .i64 0, .int .i64 0, .slice none 0 0, .int .i64 c0, .int .i64 c1, .int .i64 0, .int .i64 0, .slice none 0 0, .int .i64 0, .bool false]) := Lib.hid k1
      replace k2 : Hid (Blk xw pk2 34 #[.int .i64 0, .int .i64 0, .int .i64 0, .int .i64 0, .slice none 0 0, .int .i64 0, .int .i64 0, .int .i64 0, .int .i64 0, .slice none 0 0, .int .i64 0, .int .i64 0, .int .i64 0, .int .i64 0, .slice none 0 0, .int .i64 0, .bool false]) := Lib.hid k2
      simp only [Act.put, List.setIfInBounds_toArray, List.set_cons_zero, List.set_cons_succ]
      refine wpList_store_row rfl 34 _ _ rfl pk2 #[.int .i64 b0, .int .i64 b1, .int .i64 0, .int .i64 0, .slice none 0 0, .int .i64 a0, .int .i64 a1, .int .i64 0, .int .i64 0, .slice none 0 0, .int .i64 d0, .int .i64 d1, .int .i64 0, .int .i64 0, .slice none 0 0, .int .i64 0, .bool false] rfl rfl 34 _ k2.out triInfo rfl (by kernel_rfl) ?_
      have k1' := Lib.hid (Blk.farRow k1.out nk1k2 #[.int .i64 b0, .int .i64 b1, .int .i64 0, .int .i64 0, .slice none 0 0, .int .i64 a0, .int .i64 a1, .int .i64 0, .int .i64 0, .slice none 0 0, .int .i64 d0, .int .i64 d1, .int .i64 0, .int .i64 0, .slice none 0 0, .int .i64 0, .bool false])
      have k2' := Lib.hid (Blk.setRow k2.out #[.int .i64 b0, .int .i64 b1, .int .i64 0, .int .i64 0, .slice none 0 0, .int .i64 a0, .int .i64 a1, .int .i64 0, .int .i64 0, .slice none 0 0, .int .i64 d0, .int .i64 d1, .int .i64 0, .int .i64 0, .slice none 0 0, .int .i64 0, .bool false])
      replace kq := Lib.hid (Blk.farRow (kq.out.below hbx kq.out.lt) (Nat.ne_of_lt (Nat.lt_of_lt_of_le kq.out.lt lk2)) #[.int .i64 b0, .int .i64 b1, .int .i64 0, .int .i64 0, .slice none 0 0, .int .i64 a0, .int .i64 a1, .int .i64 0, .int .i64 0, .slice none 0 0, .int .i64 d0, .int .i64 d1, .int .i64 0, .int .i64 0, .slice none 0 0, .int .i64 0, .bool false])
      replace k3 := Lib.hid (Blk.farRow (k3.out.below hbx k3.out.lt) (Nat.ne_of_lt (Nat.lt_of_lt_of_le k3.out.lt lk2)) #[.int .i64 b0, .int .i64 b1, .int .i64 0, .int .i64 0, .slice none 0 0, .int .i64 a0, .int .i64 a1, .int .i64 0, .int .i64 0, .slice none 0 0, .int .i64 d0, .int .i64 d1, .int .i64 0, .int .i64 0, .slice none 0 0, .int .i64 0, .bool false])
      replace ka := Lib.hid (Blk.farRow (ka.out.below hbx ka.out.lt) (Nat.ne_of_lt (Nat.lt_of_lt_of_le ka.out.lt lk2)) #[.int .i64 b0, .int .i64 b1, .int .i64 0, .int .i64 0, .slice none 0 0, .int .i64 a0, .int .i64 a1, .int .i64 0, .int .i64 0, .slice none 0 0, .int .i64 d0, .int .i64 d1, .int .i64 0, .int .i64 0, .slice none 0 0, .int .i64 0, .bool false])
      replace kb := Lib.hid (Blk.farRow (kb.out.below hbx kb.out.lt) (Nat.ne_of_lt (Nat.lt_of_lt_of_le kb.out.lt lk2)) #[.int .i64 b0, .int .i64 b1, .int .i64 0, .int .i64 0, .slice none 0 0, .int .i64 a0, .int .i64 a1, .int .i64 0, .int .i64 0, .slice none 0 0, .int .i64 d0, .int .i64 d1, .int .i64 0, .int .i64 0, .slice none 0 0, .int .i64 0, .bool false])
      replace hB := Lib.hid (below_setRow (below_on hB.out hbx) (Nat.le_trans hB.out.size lk2) #[.int .i64 b0, .int .i64 b1, .int .i64 0, .int .i64 0, .slice none 0 0, .int .i64 a0, .int .i64 a1, .int .i64 0, .int .i64 0, .slice none 0 0, .int .i64 d0, .int .i64 d1, .int .i64 0, .int .i64 0, .slice none 0 0, .int .i64 0, .bool false])
      clear k1 k2
      have k1 := k1'
      have k2 := k2'
      clear hbx k1' lk1 k2' lk2 nk1k2
      refine wpList_nil ?_
      dsimp only [Act.put]
      generalize (xw.setRow pk2 #[.int .i64 b0, .int .i64 b1, .int .i64 0, .int .i64 0, .slice none 0 0, .int .i64 a0, .int .i64 a1, .int .i64 0, .int .i64 0, .slice none 0 0, .int .i64 d0, .int .i64 d1, .int .i64 0, .int .i64 0, .slice none 0 0, .int .i64 0, .bool false]) = W3 at *
      clear kq ka kb
      obtain ⟨rfl, rfl⟩ | ⟨rfl, rfl, rfl⟩ | ⟨rfl, rfl, rfl⟩ := hgood.out
      · have ck3 := k3.out.cell
        have lk3 := k3.out.lt
        have ck1 := k1.out.cell
        have lk1 := k1.out.lt
        have ck2 := k2.out.cell
        have lk2 := k2.out.lt
        go_wp2_with (first | refine wpList_load_row rfl 34 _ rfl _ rfl _ _ _ _ k1.out Try.underlying34 rfl triInfo ?_ | refine wpList_load_rowG rfl 34 _ rfl _ rfl _ _ _ _ k1.out Try.underlying34 rfl triInfo ?_ | refine wpList_load_row rfl 34 _ rfl _ rfl _ _ _ _ k2.out Try.underlying34 rfl triInfo ?_ | refine wpList_load_rowG rfl 34 _ rfl _ rfl _ _ _ _ k2.out Try.underlying34 rfl triInfo ?_)
        clear ck3 lk3 ck1 lk1 ck2 lk2
        refine (covers_at _ _ _ _ _ _ _ _ _ _ _ _ _ _ _ _ _ _ _ _ _ _ _ _ _ _ _ e1.out).mono ?_
        rintro e W4 ⟨rfl, hb⟩
        replace k3 := Lib.hid (k3.out.call hb)
        replace k1 := Lib.hid (k1.out.call hb)
        replace k2 := Lib.hid (k2.out.call hb)
        replace hB := Lib.hid (below_on hB.out hb)
        clear hb
        have ck3 := k3.out.cell
        have lk3 := k3.out.lt
        have ck1 := k1.out.cell
        have lk1 := k1.out.lt
        have ck2 := k2.out.cell
        have lk2 := k2.out.lt
        go_wp2_with (first | refine wpList_load_row rfl 34 _ rfl _ rfl _ _ _ _ k1.out Try.underlying34 rfl triInfo ?_ | refine wpList_load_rowG rfl 34 _ rfl _ rfl _ _ _ _ k1.out Try.underlying34 rfl triInfo ?_ | refine wpList_load_row rfl 34 _ rfl _ rfl _ _ _ _ k2.out Try.underlying34 rfl triInfo ?_ | refine wpList_load_rowG rfl 34 _ rfl _ rfl _ _ _ _ k2.out Try.underlying34 rfl triInfo ?_)
        clear ck3 lk3 ck1 lk1 ck2 lk2
        refine (covers_at _ _ _ _ _ _ _ _ _ _ _ _ _ _ _ _ _ _ _ _ _ _ _ _ _ _ _ e1.out).mono ?_
        rintro e W5 ⟨rfl, hb⟩
        replace k3 := Lib.hid (k3.out.call hb)
        replace k1 := Lib.hid (k1.out.call hb)
        replace k2 := Lib.hid (k2.out.call hb)
        replace hB := Lib.hid (below_on hB.out hb)
        clear hb
        have ck3 := k3.out.cell
        have lk3 := k3.out.lt
        have ck1 := k1.out.cell
        have lk1 := k1.out.lt
        have ck2 := k2.out.cell
        have lk2 := k2.out.lt
        go_wp2_with (first | refine wpList_load_row rfl 34 _ rfl _ rfl _ _ _ _ k1.out Try.underlying34 rfl triInfo ?_ | refine wpList_load_rowG rfl 34 _ rfl _ rfl _ _ _ _ k1.out Try.underlying34 rfl triInfo ?_ | refine wpList_load_row rfl 34 _ rfl _ rfl _ _ _ _ k2.out Try.underlying34 rfl triInfo ?_ | refine wpList_load_rowG rfl 34 _ rfl _ rfl _ _ _ _ k2.out Try.underlying34 rfl triInfo ?_)
        clear ck3 lk3 ck1 lk1 ck2 lk2
        refine (covers_at _ _ _ _ _ _ _ _ _ _ _ _ _ _ _ _ _ _ _ _ _ _ _ _ _ _ _ e2.out).mono ?_
        rintro e W6 ⟨rfl, hb⟩
        replace k3 := Lib.hid (k3.out.call hb)
        replace k1 := Lib.hid (k1.out.call hb)
        replace k2 := Lib.hid (k2.out.call hb)
        replace hB := Lib.hid (below_on hB.out hb)
        clear hb
        have ck3 := k3.out.cell
        have lk3 := k3.out.lt
        have ck1 := k1.out.cell
        have lk1 := k1.out.lt
        have ck2 := k2.out.cell
        have lk2 := k2.out.lt
        go_wp2_with (first | refine wpList_load_row rfl 34 _ rfl _ rfl _ _ _ _ k1.out Try.underlying34 rfl triInfo ?_ | refine wpList_load_rowG rfl 34 _ rfl _ rfl _ _ _ _ k1.out Try.underlying34 rfl triInfo ?_ | refine wpList_load_row rfl 34 _ rfl _ rfl _ _ _ _ k2.out Try.underlying34 rfl triInfo ?_ | refine wpList_load_rowG rfl 34 _ rfl _ rfl _ _ _ _ k2.out Try.underlying34 rfl triInfo ?_)
        clear ck3 lk3 ck1 lk1 ck2 lk2
        refine (example_true _).mono ?_
        rintro e W7 ⟨rfl, hb⟩
        replace k3 := Lib.hid (k3.out.call hb)
        replace k1 := Lib.hid (k1.out.call hb)
        replace k2 := Lib.hid (k2.out.call hb)
        replace hB := Lib.hid (below_on hB.out hb)
        clear hb
        go_wp2
        go_ret
        exact ⟨rfl, hB.out⟩
      · have ck3 := k3.out.cell
        have lk3 := k3.out.lt
        have ck1 := k1.out.cell
        have lk1 := k1.out.lt
        have ck2 := k2.out.cell
        have lk2 := k2.out.lt
        go_wp2_with (first | refine wpList_load_row rfl 34 _ rfl _ rfl _ _ _ _ k1.out Try.underlying34 rfl triInfo ?_ | refine wpList_load_rowG rfl 34 _ rfl _ rfl _ _ _ _ k1.out Try.underlying34 rfl triInfo ?_ | refine wpList_load_row rfl 34 _ rfl _ rfl _ _ _ _ k2.out Try.underlying34 rfl triInfo ?_ | refine wpList_load_rowG rfl 34 _ rfl _ rfl _ _ _ _ k2.out Try.underlying34 rfl triInfo ?_)
        clear ck3 lk3 ck1 lk1 ck2 lk2
        refine (covers_at _ _ _ _ _ _ _ _ _ _ _ _ _ _ _ _ _ _ _ _ _ _ _ _ _ _ _ e1.out).mono ?_
        rintro e W8 ⟨rfl, hb⟩
        replace k3 := Lib.hid (k3.out.call hb)
        replace k1 := Lib.hid (k1.out.call hb)
        replace k2 := Lib.hid (k2.out.call hb)
        replace hB := Lib.hid (below_on hB.out hb)
        clear hb
        have ck3 := k3.out.cell
        have lk3 := k3.out.lt
        have ck1 := k1.out.cell
        have lk1 := k1.out.lt
        have ck2 := k2.out.cell
        have lk2 := k2.out.lt
        go_wp2_with (first | refine wpList_load_row rfl 34 _ rfl _ rfl _ _ _ _ k1.out Try.underlying34 rfl triInfo ?_ | refine wpList_load_rowG rfl 34 _ rfl _ rfl _ _ _ _ k1.out Try.underlying34 rfl triInfo ?_ | refine wpList_load_row rfl 34 _ rfl _ rfl _ _ _ _ k2.out Try.underlying34 rfl triInfo ?_ | refine wpList_load_rowG rfl 34 _ rfl _ rfl _ _ _ _ k2.out Try.underlying34 rfl triInfo ?_)
        clear ck3 lk3 ck1 lk1 ck2 lk2
        refine (covers_at _ _ _ _ _ _ _ _ _ _ _ _ _ _ _ _ _ _ _ _ _ _ _ _ _ _ _ e2.out).mono ?_
        rintro e W9 ⟨rfl, hb⟩
        replace k3 := Lib.hid (k3.out.call hb)
        replace k1 := Lib.hid (k1.out.call hb)
        replace k2 := Lib.hid (k2.out.call hb)
        replace hB := Lib.hid (below_on hB.out hb)
        clear hb
        have ck3 := k3.out.cell
        have lk3 := k3.out.lt
        have ck1 := k1.out.cell
        have lk1 := k1.out.lt
        have ck2 := k2.out.cell
        have lk2 := k2.out.lt
        go_wp2_with (first | refine wpList_load_row rfl 34 _ rfl _ rfl _ _ _ _ k1.out Try.underlying34 rfl triInfo ?_ | refine wpList_load_rowG rfl 34 _ rfl _ rfl _ _ _ _ k1.out Try.underlying34 rfl triInfo ?_ | refine wpList_load_row rfl 34 _ rfl _ rfl _ _ _ _ k2.out Try.underlying34 rfl triInfo ?_ | refine wpList_load_rowG rfl 34 _ rfl _ rfl _ _ _ _ k2.out Try.underlying34 rfl triInfo ?_)
        clear ck3 lk3 ck1 lk1 ck2 lk2
        refine (covers_at _ _ _ _ _ _ _ _ _ _ _ _ _ _ _ _ _ _ _ _ _ _ _ _ _ _ _ e1.out).mono ?_
        rintro e W10 ⟨rfl, hb⟩
        replace k3 := Lib.hid (k3.out.call hb)
        replace k1 := Lib.hid (k1.out.call hb)
        replace k2 := Lib.hid (k2.out.call hb)
        replace hB := Lib.hid (below_on hB.out hb)
        clear hb
        have ck3 := k3.out.cell
        have lk3 := k3.out.lt
        have ck1 := k1.out.cell
        have lk1 := k1.out.lt
        have ck2 := k2.out.cell
        have lk2 := k2.out.lt
        go_wp2_with (first | refine wpList_load_row rfl 34 _ rfl _ rfl _ _ _ _ k1.out Try.underlying34 rfl triInfo ?_ | refine wpList_load_rowG rfl 34 _ rfl _ rfl _ _ _ _ k1.out Try.underlying34 rfl triInfo ?_ | refine wpList_load_row rfl 34 _ rfl _ rfl _ _ _ _ k2.out Try.underlying34 rfl triInfo ?_ | refine wpList_load_rowG rfl 34 _ rfl _ rfl _ _ _ _ k2.out Try.underlying34 rfl triInfo ?_)
        clear ck3 lk3 ck1 lk1 ck2 lk2
        refine (valid_at _ _ _ _ _ _ _ _ _ _ _ _ _ _ _ _ _ _ _ _ _ _ _ _ _ e3.out).mono ?_
        rintro e W11 ⟨rfl, hb⟩
        replace k3 := Lib.hid (k3.out.call hb)
        replace k1 := Lib.hid (k1.out.call hb)
        replace k2 := Lib.hid (k2.out.call hb)
        replace hB := Lib.hid (below_on hB.out hb)
        clear hb
        have ck3 := k3.out.cell
        have lk3 := k3.out.lt
        have ck1 := k1.out.cell
        have lk1 := k1.out.lt
        have ck2 := k2.out.cell
        have lk2 := k2.out.lt
        go_wp2_with (first | refine wpList_load_row rfl 34 _ rfl _ rfl _ _ _ _ k1.out Try.underlying34 rfl triInfo ?_ | refine wpList_load_rowG rfl 34 _ rfl _ rfl _ _ _ _ k1.out Try.underlying34 rfl triInfo ?_ | refine wpList_load_row rfl 34 _ rfl _ rfl _ _ _ _ k2.out Try.underlying34 rfl triInfo ?_ | refine wpList_load_rowG rfl 34 _ rfl _ rfl _ _ _ _ k2.out Try.underlying34 rfl triInfo ?_)
        clear ck3 lk3 ck1 lk1 ck2 lk2
        refine (covers_at _ _ _ _ _ _ _ _ _ _ _ _ _ _ _ _ _ _ _ _ _ _ _ _ _ _ _ e2.out).mono ?_
        rintro e W12 ⟨rfl, hb⟩
        replace k3 := Lib.hid (k3.out.call hb)
        replace k1 := Lib.hid (k1.out.call hb)
        replace k2 := Lib.hid (k2.out.call hb)
        replace hB := Lib.hid (below_on hB.out hb)
        clear hb
        have ck3 := k3.out.cell
        have lk3 := k3.out.lt
        have ck1 := k1.out.cell
        have lk1 := k1.out.lt
        have ck2 := k2.out.cell
        have lk2 := k2.out.lt
        go_wp2_with (first | refine wpList_load_row rfl 34 _ rfl _ rfl _ _ _ _ k1.out Try.underlying34 rfl triInfo ?_ | refine wpList_load_rowG rfl 34 _ rfl _ rfl _ _ _ _ k1.out Try.underlying34 rfl triInfo ?_ | refine wpList_load_row rfl 34 _ rfl _ rfl _ _ _ _ k2.out Try.underlying34 rfl triInfo ?_ | refine wpList_load_rowG rfl 34 _ rfl _ rfl _ _ _ _ k2.out Try.underlying34 rfl triInfo ?_)
        clear ck3 lk3 ck1 lk1 ck2 lk2
        refine (example_true _).mono ?_
        rintro e W13 ⟨rfl, hb⟩
        replace k3 := Lib.hid (k3.out.call hb)
        replace k1 := Lib.hid (k1.out.call hb)
        replace k2 := Lib.hid (k2.out.call hb)
        replace hB := Lib.hid (below_on hB.out hb)
        clear hb
        go_wp2
        go_ret
        exact ⟨rfl, hB.out⟩
      · have ck3 := k3.out.cell
        have lk3 := k3.out.lt
        have ck1 := k1.out.cell
        have lk1 := k1.out.lt
        have ck2 := k2.out.cell
        have lk2 := k2.out.lt
        go_wp2_with (first | refine wpList_load_row rfl 34 _ rfl _ rfl _ _ _ _ k1.out Try.underlying34 rfl triInfo ?_ | refine wpList_load_rowG rfl 34 _ rfl _ rfl _ _ _ _ k1.out Try.underlying34 rfl triInfo ?_ | refine wpList_load_row rfl 34 _ rfl _ rfl _ _ _ _ k2.out Try.underlying34 rfl triInfo ?_ | refine wpList_load_rowG rfl 34 _ rfl _ rfl _ _ _ _ k2.out Try.underlying34 rfl triInfo ?_)
        clear ck3 lk3 ck1 lk1 ck2 lk2
        refine (covers_at _ _ _ _ _ _ _ _ _ _ _ _ _ _ _ _ _ _ _ _ _ _ _ _ _ _ _ e1.out).mono ?_
        rintro e W14 ⟨rfl, hb⟩
        replace k3 := Lib.hid (k3.out.call hb)
        replace k1 := Lib.hid (k1.out.call hb)
        replace k2 := Lib.hid (k2.out.call hb)
        replace hB := Lib.hid (below_on hB.out hb)
        clear hb
        have ck3 := k3.out.cell
        have lk3 := k3.out.lt
        have ck1 := k1.out.cell
        have lk1 := k1.out.lt
        have ck2 := k2.out.cell
        have lk2 := k2.out.lt
        go_wp2_with (first | refine wpList_load_row rfl 34 _ rfl _ rfl _ _ _ _ k1.out Try.underlying34 rfl triInfo ?_ | refine wpList_load_rowG rfl 34 _ rfl _ rfl _ _ _ _ k1.out Try.underlying34 rfl triInfo ?_ | refine wpList_load_row rfl 34 _ rfl _ rfl _ _ _ _ k2.out Try.underlying34 rfl triInfo ?_ | refine wpList_load_rowG rfl 34 _ rfl _ rfl _ _ _ _ k2.out Try.underlying34 rfl triInfo ?_)
        clear ck3 lk3 ck1 lk1 ck2 lk2
        refine (covers_at _ _ _ _ _ _ _ _ _ _ _ _ _ _ _ _ _ _ _ _ _ _ _ _ _ _ _ e1.out).mono ?_
        rintro e W15 ⟨rfl, hb⟩
        replace k3 := Lib.hid (k3.out.call hb)
        replace k1 := Lib.hid (k1.out.call hb)
        replace k2 := Lib.hid (k2.out.call hb)
        replace hB := Lib.hid (below_on hB.out hb)
        clear hb
        have ck3 := k3.out.cell
        have lk3 := k3.out.lt
        have ck1 := k1.out.cell
        have lk1 := k1.out.lt
        have ck2 := k2.out.cell
        have lk2 := k2.out.lt
        go_wp2_with (first | refine wpList_load_row rfl 34 _ rfl _ rfl _ _ _ _ k1.out Try.underlying34 rfl triInfo ?_ | refine wpList_load_rowG rfl 34 _ rfl _ rfl _ _ _ _ k1.out Try.underlying34 rfl triInfo ?_ | refine wpList_load_row rfl 34 _ rfl _ rfl _ _ _ _ k2.out Try.underlying34 rfl triInfo ?_ | refine wpList_load_rowG rfl 34 _ rfl _ rfl _ _ _ _ k2.out Try.underlying34 rfl triInfo ?_)
        clear ck3 lk3 ck1 lk1 ck2 lk2
        refine (covers_at _ _ _ _ _ _ _ _ _ _ _ _ _ _ _ _ _ _ _ _ _ _ _ _ _ _ _ e2.out).mono ?_
        rintro e W16 ⟨rfl, hb⟩
        replace k3 := Lib.hid (k3.out.call hb)
        replace k1 := Lib.hid (k1.out.call hb)
        replace k2 := Lib.hid (k2.out.call hb)
        replace hB := Lib.hid (below_on hB.out hb)
        clear hb
        have ck3 := k3.out.cell
        have lk3 := k3.out.lt
        have ck1 := k1.out.cell
        have lk1 := k1.out.lt
        have ck2 := k2.out.cell
        have lk2 := k2.out.lt
        go_wp2_with (first | refine wpList_load_row rfl 34 _ rfl _ rfl _ _ _ _ k1.out Try.underlying34 rfl triInfo ?_ | refine wpList_load_rowG rfl 34 _ rfl _ rfl _ _ _ _ k1.out Try.underlying34 rfl triInfo ?_ | refine wpList_load_row rfl 34 _ rfl _ rfl _ _ _ _ k2.out Try.underlying34 rfl triInfo ?_ | refine wpList_load_rowG rfl 34 _ rfl _ rfl _ _ _ _ k2.out Try.underlying34 rfl triInfo ?_)
        clear ck3 lk3 ck1 lk1 ck2 lk2
        refine (valid_at _ _ _ _ _ _ _ _ _ _ _ _ _ _ _ _ _ _ _ _ _ _ _ _ _ e4.out).mono ?_
        rintro e W17 ⟨rfl, hb⟩
        replace k3 := Lib.hid (k3.out.call hb)
        replace k1 := Lib.hid (k1.out.call hb)
        replace k2 := Lib.hid (k2.out.call hb)
        replace hB := Lib.hid (below_on hB.out hb)
        clear hb
        have ck3 := k3.out.cell
        have lk3 := k3.out.lt
        have ck1 := k1.out.cell
        have lk1 := k1.out.lt
        have ck2 := k2.out.cell
        have lk2 := k2.out.lt
        go_wp2_with (first | refine wpList_load_row rfl 34 _ rfl _ rfl _ _ _ _ k1.out Try.underlying34 rfl triInfo ?_ | refine wpList_load_rowG rfl 34 _ rfl _ rfl _ _ _ _ k1.out Try.underlying34 rfl triInfo ?_ | refine wpList_load_row rfl 34 _ rfl _ rfl _ _ _ _ k2.out Try.underlying34 rfl triInfo ?_ | refine wpList_load_rowG rfl 34 _ rfl _ rfl _ _ _ _ k2.out Try.underlying34 rfl triInfo ?_)
        clear ck3 lk3 ck1 lk1 ck2 lk2
        refine (example_true _).mono ?_
        rintro e W18 ⟨rfl, hb⟩
        replace k3 := Lib.hid (k3.out.call hb)
        replace k1 := Lib.hid (k1.out.call hb)
        replace k2 := Lib.hid (k2.out.call hb)
        replace hB := Lib.hid (below_on hB.out hb)
        clear hb
        go_wp2
        go_ret
        exact ⟨rfl, hB.out⟩
end Go.Proofs.Ytmcemnhhmlnfcaa
