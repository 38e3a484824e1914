/- Covers of the reference of chapter 34. -/
import Derived.Test.YtmcemnhhmlnfcaaRFrom
import Derived.Test.YtmcemnhhmlnfcaaRAcc
namespace Go.Proofs.Ytmcemnhhmlnfcaa
open Go.RowKit
attribute [local go_sem] Ext.cell
theorem rAccepts_at (ax ay bx by' px py : Int) (w : World) (v : Bool) (h : accB ax ay bx by' px py = v) :
    Calls Try.prog 17 #[.int .i64 ax, .int .i64 ay, .int .i64 bx, .int .i64 by', .int .i64 px, .int .i64 py] w fun e w' => e = .returned (.bool v) ∧ w = w' := h ▸ rAccepts_any _ _ _ _ _ _ _
set_option maxHeartbeats 8000000 in
theorem rCovers_any (x0 y0 z0 u0 x1 y1 z1 u1 x2 y2 z2 u2 : Int) (A0 A1 A2 : Option Addr) (n0 c0 n1 c1 n2 c2 : Nat) (pr : Int) (fr : Bool) (px py : Int) (w : World) :
    Calls Try.prog 26 #[.agg #[.int .i64 x0, .int .i64 y0, .int .i64 z0, .int .i64 u0, .slice A0 n0 c0, .int .i64 x1, .int .i64 y1, .int .i64 z1, .int .i64 u1, .slice A1 n1 c1, .int .i64 x2, .int .i64 y2, .int .i64 z2, .int .i64 u2, .slice A2 n2 c2, .int .i64 pr, .bool fr], .int .i64 px, .int .i64 py] w fun e w' => e = .returned (.bool (covB x0 y0 x1 y1 x2 y2 px py)) ∧ Below w.heap.size w w' := by
  have hw0 : IntKind.i64.wrap 0 = 0 := by decide
  have hw1 : IntKind.i64.wrap 1 = 1 := by decide
  have hw2 : IntKind.i64.wrap 2 = 2 := by decide
  have hV : covB x0 y0 x1 y1 x2 y2 px py = (validB x0 y0 x1 y1 x2 y2 && (accB x0 y0 x1 y1 px py && accB x1 y1 x2 y2 px py && accB x2 y2 x0 y0 px py)) := rfl
  obtain ⟨v, hv⟩ : ∃ b, validB x0 y0 x1 y1 x2 y2 = b := ⟨_, rfl⟩
  obtain ⟨b0, h0⟩ : ∃ b, accB x0 y0 x1 y1 px py = b := ⟨_, rfl⟩
  obtain ⟨b1, h1⟩ : ∃ b, accB x1 y1 x2 y2 px py = b := ⟨_, rfl⟩
  obtain ⟨b2, h2⟩ : ∃ b, accB x2 y2 x0 y0 px py = b := ⟨_, rfl⟩
  rw [hv, h0, h1, h2] at hV
  replace hv := Lib.hid hv
  replace h0 := Lib.hid h0
  replace h1 := Lib.hid h1
  replace h2 := Lib.hid h2
  replace hV := Lib.hid hV
  go_enter Try.func26, Try.ntmps26
  have kt := Lib.hid (Blk.new w 34 #[.int .i64 x0, .int .i64 y0, .int .i64 z0, .int .i64 u0, .slice A0 n0 c0, .int .i64 x1, .int .i64 y1, .int .i64 z1, .int .i64 u1, .slice A1 n1 c1, .int .i64 x2, .int .i64 y2, .int .i64 z2, .int .i64 u2, .slice A2 n2 c2, .int .i64 pr, .bool fr])
  have hB : Hid (Below w.heap.size w (w.alloc (.cells #[.int .i64 x0, .int .i64 y0, .int .i64 z0, .int .i64 u0, .slice A0 n0 c0, .int .i64 x1, .int .i64 y1, .int .i64 z1, .int .i64 u1, .slice A1 n1 c1, .int .i64 x2, .int .i64 y2, .int .i64 z2, .int .i64 u2, .slice A2 n2 c2, .int .i64 pr, .bool fr] 34))) := Lib.hid (by go_grown)
  have ckt := kt.out.cell
  have lkt := kt.out.lt
  go_wp2_with (first | refine wpList_load_row rfl 34 _ rfl _ rfl _ _ _ _ kt.out Try.underlying34 rfl triInfo ?_ | refine wpList_load_rowG rfl 34 _ rfl _ rfl _ _ _ _ kt.out Try.underlying34 rfl triInfo ?_)
  clear ckt lkt
  refine (rValid_at _ _ _ _ _ _ _ _ _ _ _ _ _ _ _ _ _ _ _ _ _ _ _ _ _ hv.out).mono ?_
  rintro e W1 ⟨rfl, hb⟩
  replace kt := Lib.hid (kt.out.call hb)
  replace hB := Lib.hid (below_on hB.out hb)
  clear hb
  cases v
  · have ckt := kt.out.cell
    have lkt := kt.out.lt
    go_wp2_with (first | refine wpList_load_row rfl 34 _ rfl _ rfl _ _ _ _ kt.out Try.underlying34 rfl triInfo ?_ | refine wpList_load_rowG rfl 34 _ rfl _ rfl _ _ _ _ kt.out Try.underlying34 rfl triInfo ?_)
    go_ret
    exact ⟨ret_bool (by simpa using hV.out.symm), hB.out⟩
  have ckt := kt.out.cell
  have lkt := kt.out.lt
  go_wp2_with (fail)
  refine wp_loop_rounds 4 ?_
  rw [rounds_succ]
  go_wp2_with (fail)
  clear ckt lkt
  refine' wp_region_fresh 13 [⟨10, 8, 31, #[.int .i64 0, .int .i64 0, .int .i64 0, .int .i64 0, .slice none 0 0], 12, #[.int .i64 x0, .int .i64 y0, .int .i64 z0, .int .i64 u0, .slice A0 n0 c0]⟩, ⟨11, 9, 31, #[.int .i64 0, .int .i64 0, .int .i64 0, .int .i64 0, .slice none 0 0], 13, #[.int .i64 x1, .int .i64 y1, .int .i64 z1, .int .i64 u1, .slice A1 n1 c1]⟩] (by kernel_rfl) (by kernel_rfl) (by simp) (by simp) (by simp) (by simp) ?hz ?h1 ?hs ?h2
  case hz =>
    intro z hz
    simp only [List.mem_cons, List.not_mem_nil, or_false] at hz
    rcases hz with rfl | rfl
    all_goals exact ⟨by simp, by simp, _, rfl, rfl, rfl, fun ev xw => by simp [go_sem, ptrTo, Let.at_]⟩
  case h1 =>
    intro u hu
    have ktu := kt.out.below hu kt.out.lt
    have ckt := ktu.cell
    have lkt := ktu.lt
    simp only [List.take_succ_cons, List.take_zero, List.filter, isMk, isAl, isSt, Bool.or_false, Bool.or_true, Bool.not_true, Bool.not_false]
    repeat (go_big_quiet_step (first | fail))
    exact wpQuiet_nil rfl
  case hs =>
    intro z hz
    simp only [List.mem_cons, List.not_mem_nil, or_false] at hz
    rcases hz with rfl | rfl
    · exact fun _ => ⟨_, 31, _, rfl, rfl, by simp, rfl, rfl, (by kernel_rfl), rfl, by kernel_rfl⟩
    · exact fun h => absurd h (by simp)
  case h2 =>
    intro ℓ xw hlet
    obtain ⟨hbx, hlx, hnx⟩ := hlet
    obtain ⟨ka, lka⟩ := hlx ⟨10, 8, 31, #[.int .i64 0, .int .i64 0, .int .i64 0, .int .i64 0, .slice none 0 0], 12, #[.int .i64 x0, .int .i64 y0, .int .i64 z0, .int .i64 u0, .slice A0 n0 c0]⟩ (by simp)
    obtain ⟨kb, lkb⟩ := hlx ⟨11, 9, 31, #[.int .i64 0, .int .i64 0, .int .i64 0, .int .i64 0, .slice none 0 0], 13, #[.int .i64 x1, .int .i64 y1, .int .i64 z1, .int .i64 u1, .slice A1 n1 c1]⟩ (by simp)
    have nkakb := hnx ⟨10, 8, 31, #[.int .i64 0, .int .i64 0, .int .i64 0, .int .i64 0, .slice none 0 0], 12, #[.int .i64 x0, .int .i64 y0, .int .i64 z0, .int .i64 u0, .slice A0 n0 c0]⟩ (by simp) ⟨11, 9, 31, #[.int .i64 0, .int .i64 0, .int .i64 0, .int .i64 0, .slice none 0 0], 13, #[.int .i64 x1, .int .i64 y1, .int .i64 z1, .int .i64 u1, .slice A1 n1 c1]⟩ (by simp) (by simp)
    clear hnx hlx
    dsimp only [List.drop, lay, List.foldl, ptrTo] at *
    generalize ℓ 10 = pka at *
    generalize ℓ 11 = pkb at *
    replace ka : Hid (Blk xw pka 31 #[.int .i64 x0, .int .i64 y0, .int .i64 z0, .int .i64 u0, .slice A0 n0 c0]) := Lib.hid ka
    replace kb : Hid (Blk xw pkb 31 #[.int .i64 0, .int .i64 0, .int .i64 0, .int .i64 0, .slice none 0 0]) := Lib.hid kb
    simp only [Act.put, List.setIfInBounds_toArray, List.set_cons_zero, List.set_cons_succ]
    refine wpList_store_row rfl 31 _ _ rfl pkb #[.int .i64 x1, .int .i64 y1, .int .i64 z1, .int .i64 u1, .slice A1 n1 c1] rfl rfl 31 _ kb.out (by kernel_rfl) rfl (by kernel_rfl) ?_
    have ka' := Lib.hid (Blk.farRow ka.out nkakb #[.int .i64 x1, .int .i64 y1, .int .i64 z1, .int .i64 u1, .slice A1 n1 c1])
    have kb' := Lib.hid (Blk.setRow kb.out #[.int .i64 x1, .int .i64 y1, .int .i64 z1, .int .i64 u1, .slice A1 n1 c1])
    replace kt := Lib.hid (Blk.farRow (kt.out.below hbx kt.out.lt) (Nat.ne_of_lt (Nat.lt_of_lt_of_le kt.out.lt lkb)) #[.int .i64 x1, .int .i64 y1, .int .i64 z1, .int .i64 u1, .slice A1 n1 c1])
    replace hB := Lib.hid (below_setRow (below_on hB.out hbx) (Nat.le_trans hB.out.size lkb) #[.int .i64 x1, .int .i64 y1, .int .i64 z1, .int .i64 u1, .slice A1 n1 c1])
    clear ka kb
    have ka := ka'
    have kb := kb'
    clear hbx ka' lka kb' lkb nkakb
    refine wpList_nil ?_
    dsimp only [Act.put]
    generalize (xw.setRow pkb #[.int .i64 x1, .int .i64 y1, .int .i64 z1, .int .i64 u1, .slice A1 n1 c1]) = W2 at *
    have ckt := kt.out.cell
    have lkt := kt.out.lt
    have cka := ka.out.cell
    have lka := ka.out.lt
    have ckb := kb.out.cell
    have lkb := kb.out.lt
    go_wp2_with (fail)
    refine (rAccepts_at _ _ _ _ _ _ _ _ h0.out).mono ?_
    rintro e xw ⟨rfl, rfl⟩
    cases b0
    · go_wp2_with (fail)
      go_ret
      exact ⟨ret_bool (by simpa using hV.out.symm), hB.out⟩
    clear ckt lkt cka lka ckb lkb
    clear ka kb
    have ckt := kt.out.cell
    have lkt := kt.out.lt
    go_wp2_with (fail)
    rw [rounds_succ]
    go_wp2_with (fail)
    clear ckt lkt
    refine' wp_region_fresh 13 [⟨10, 8, 31, #[.int .i64 0, .int .i64 0, .int .i64 0, .int .i64 0, .slice none 0 0], 12, #[.int .i64 x1, .int .i64 y1, .int .i64 z1, .int .i64 u1, .slice A1 n1 c1]⟩, ⟨11, 9, 31, #[.int .i64 0, .int .i64 0, .int .i64 0, .int .i64 0, .slice none 0 0], 13, #[.int .i64 x2, .int .i64 y2, .int .i64 z2, .int .i64 u2, .slice A2 n2 c2]⟩] (by kernel_rfl) (by kernel_rfl) (by simp) (by simp) (by simp) (by simp) ?hz ?h1 ?hs ?h2
    case hz =>
      intro z hz
      simp only [List.mem_cons, List.not_mem_nil, or_false] at hz
      rcases hz with rfl | rfl
      all_goals exact ⟨by simp, by simp, _, rfl, rfl, rfl, fun ev xw => by simp [go_sem, ptrTo, Let.at_]⟩
    case h1 =>
      intro u hu
      have ktu := kt.out.below hu kt.out.lt
      have ckt := ktu.cell
      have lkt := ktu.lt
      simp only [List.take_succ_cons, List.take_zero, List.filter, isMk, isAl, isSt, Bool.or_false, Bool.or_true, Bool.not_true, Bool.not_false]
      repeat (go_big_quiet_step (first | fail))
      exact wpQuiet_nil rfl
    case hs =>
      intro z hz
      simp only [List.mem_cons, List.not_mem_nil, or_false] at hz
      rcases hz with rfl | rfl
      · exact fun _ => ⟨_, 31, _, rfl, rfl, by simp, rfl, rfl, (by kernel_rfl), rfl, by kernel_rfl⟩
      · exact fun h => absurd h (by simp)
    case h2 =>
      intro ℓ xw hlet
      obtain ⟨hbx, hlx, hnx⟩ := hlet
      obtain ⟨ka, lka⟩ := hlx ⟨10, 8, 31, #[.int .i64 0, .int .i64 0, .int .i64 0, .int .i64 0, .slice none 0 0], 12, #[.int .i64 x1, .int .i64 y1, .int .i64 z1, .int .i64 u1, .slice A1 n1 c1]⟩ (by simp)
      obtain ⟨kb, lkb⟩ := hlx ⟨11, 9, 31, #[.int .i64 0, .int .i64 0, .int .i64 0, .int .i64 0, .slice none 0 0], 13, #[.int .i64 x2, .int .i64 y2, .int .i64 z2, .int .i64 u2, .slice A2 n2 c2]⟩ (by simp)
      have nkakb := hnx ⟨10, 8, 31, #[.int .i64 0, .int .i64 0, .int .i64 0, .int .i64 0, .slice none 0 0], 12, #[.int .i64 x1, .int .i64 y1, .int .i64 z1, .int .i64 u1, .slice A1 n1 c1]⟩ (by simp) ⟨11, 9, 31, #[.int .i64 0, .int .i64 0, .int .i64 0, .int .i64 0, .slice none 0 0], 13, #[.int .i64 x2, .int .i64 y2, .int .i64 z2, .int .i64 u2, .slice A2 n2 c2]⟩ (by simp) (by simp)
      clear hnx hlx
      dsimp only [List.drop, lay, List.foldl, ptrTo] at *
      generalize ℓ 10 = pka at *
      generalize ℓ 11 = pkb at *
      replace ka : Hid (Blk xw pka 31 #[.int .i64 x1, .int .i64 y1, .int .i64 z1, .int .i64 u1, .slice A1 n1 c1]) := Lib.hid ka
      replace kb : Hid (Blk xw pkb 31 #[.int .i64 0, .int .i64 0, .int .i64 0, .int .i64 0, .slice none 0 0]) := Lib.hid kb
      simp only [Act.put, List.setIfInBounds_toArray, List.set_cons_zero, List.set_cons_succ]
      refine wpList_store_row rfl 31 _ _ rfl pkb #[.int .i64 x2, .int .i64 y2, .int .i64 z2, .int .i64 u2, .slice A2 n2 c2] rfl rfl 31 _ kb.out (by kernel_rfl) rfl (by kernel_rfl) ?_
      have ka' := Lib.hid (Blk.farRow ka.out nkakb #[.int .i64 x2, .int .i64 y2, .int .i64 z2, .int .i64 u2, .slice A2 n2 c2])
      have kb' := Lib.hid (Blk.setRow kb.out #[.int .i64 x2, .int .i64 y2, .int .i64 z2, .int .i64 u2, .slice A2 n2 c2])
      replace kt := Lib.hid (Blk.farRow (kt.out.below hbx kt.out.lt) (Nat.ne_of_lt (Nat.lt_of_lt_of_le kt.out.lt lkb)) #[.int .i64 x2, .int .i64 y2, .int .i64 z2, .int .i64 u2, .slice A2 n2 c2])
      replace hB := Lib.hid (below_setRow (below_on hB.out hbx) (Nat.le_trans hB.out.size lkb) #[.int .i64 x2, .int .i64 y2, .int .i64 z2, .int .i64 u2, .slice A2 n2 c2])
      clear ka kb
      have ka := ka'
      have kb := kb'
      clear hbx ka' lka kb' lkb nkakb
      refine wpList_nil ?_
      dsimp only [Act.put]
      generalize (xw.setRow pkb #[.int .i64 x2, .int .i64 y2, .int .i64 z2, .int .i64 u2, .slice A2 n2 c2]) = W3 at *
      have ckt := kt.out.cell
      have lkt := kt.out.lt
      have cka := ka.out.cell
      have lka := ka.out.lt
      have ckb := kb.out.cell
      have lkb := kb.out.lt
      go_wp2_with (fail)
      refine (rAccepts_at _ _ _ _ _ _ _ _ h1.out).mono ?_
      rintro e xw ⟨rfl, rfl⟩
      cases b1
      · go_wp2_with (fail)
        go_ret
        exact ⟨ret_bool (by simpa using hV.out.symm), hB.out⟩
      clear ckt lkt cka lka ckb lkb
      clear ka kb
      have ckt := kt.out.cell
      have lkt := kt.out.lt
      go_wp2_with (fail)
      rw [rounds_succ]
      go_wp2_with (fail)
      clear ckt lkt
      refine' wp_region_fresh 13 [⟨10, 8, 31, #[.int .i64 0, .int .i64 0, .int .i64 0, .int .i64 0, .slice none 0 0], 12, #[.int .i64 x2, .int .i64 y2, .int .i64 z2, .int .i64 u2, .slice A2 n2 c2]⟩, ⟨11, 9, 31, #[.int .i64 0, .int .i64 0, .int .i64 0, .int .i64 0, .slice none 0 0], 13, #[.int .i64 x0, .int .i64 y0, .int .i64 z0, .int .i64 u0, .slice A0 n0 c0]⟩] (by kernel_rfl) (by kernel_rfl) (by simp) (by simp) (by simp) (by simp) ?hz ?h1 ?hs ?h2
      case hz =>
        intro z hz
        simp only [List.mem_cons, List.not_mem_nil, or_false] at hz
        rcases hz with rfl | rfl
        all_goals exact ⟨by simp, by simp, _, rfl, rfl, rfl, fun ev xw => by simp [go_sem, ptrTo, Let.at_]⟩
      case h1 =>
        intro u hu
        have ktu := kt.out.below hu kt.out.lt
        have ckt := ktu.cell
        have lkt := ktu.lt
        simp only [List.take_succ_cons, List.take_zero, List.filter, isMk, isAl, isSt, Bool.or_false, Bool.or_true, Bool.not_true, Bool.not_false]
        repeat (go_big_quiet_step (first | fail))
        exact wpQuiet_nil rfl
      case hs =>
        intro z hz
        simp only [List.mem_cons, List.not_mem_nil, or_false] at hz
        rcases hz with rfl | rfl
        · exact fun _ => ⟨_, 31, _, rfl, rfl, by simp, rfl, rfl, (by kernel_rfl), rfl, by kernel_rfl⟩
        · exact fun h => absurd h (by simp)
      case h2 =>
        intro ℓ xw hlet
        obtain ⟨hbx, hlx, hnx⟩ := hlet
        obtain ⟨ka, lka⟩ := hlx ⟨10, 8, 31, #[.int .i64 0, .int .i64 0, .int .i64 0, .int .i64 0, .slice none 0 0], 12, #[.int .i64 x2, .int .i64 y2, .int .i64 z2, .int .i64 u2, .slice A2 n2 c2]⟩ (by simp)
        obtain ⟨kb, lkb⟩ := hlx ⟨11, 9, 31, #[.int .i64 0, .int .i64 0, .int .i64 0, .int .i64 0, .slice none 0 0], 13, #[.int .i64 x0, .int .i64 y0, .int .i64 z0, .int .i64 u0, .slice A0 n0 c0]⟩ (by simp)
        have nkakb := hnx ⟨10, 8, 31, #[.int .i64 0, .int .i64 0, .int .i64 0, .int .i64 0, .slice none 0 0], 12, #[.int .i64 x2, .int .i64 y2, .int .i64 z2, .int .i64 u2, .slice A2 n2 c2]⟩ (by simp) ⟨11, 9, 31, #[.int .i64 0, .int .i64 0, .int .i64 0, .int .i64 0, .slice none 0 0], 13, #[.int .i64 x0, .int .i64 y0, .int .i64 z0, .int .i64 u0, .slice A0 n0 c0]⟩ (by simp) (by simp)
        clear hnx hlx
        dsimp only [List.drop, lay, List.foldl, ptrTo] at *
        generalize ℓ 10 = pka at *
        generalize ℓ 11 = pkb at *
        replace ka : Hid (Blk xw pka 31 #[.int .i64 x2, .int .i64 y2, .int .i64 z2, .int .i64 u2, .slice A2 n2 c2]) := Lib.hid ka
        replace kb : Hid (Blk xw pkb 31 #[.int .i64 0, .int .i64 0, .int .i64 0, .int .i64 0, .slice none 0 0]) := Lib.hid kb
        simp only [Act.put, List.setIfInBounds_toArray, List.set_cons_zero, List.set_cons_succ]
        refine wpList_store_row rfl 31 _ _ rfl pkb #[.int .i64 x0, .int .i64 y0, .int .i64 z0, .int .i64 u0, .slice A0 n0 c0] rfl rfl 31 _ kb.out (by kernel_rfl) rfl (by kernel_rfl) ?_
        have ka' := Lib.hid (Blk.farRow ka.out nkakb #[.int .i64 x0, .int .i64 y0, .int .i64 z0, .int .i64 u0, .slice A0 n0 c0])
        have kb' := Lib.hid (Blk.setRow kb.out #[.int .i64 x0, .int .i64 y0, .int .i64 z0, .int .i64 u0, .slice A0 n0 c0])
        replace kt := Lib.hid (Blk.farRow (kt.out.below hbx kt.out.lt) (Nat.ne_of_lt (Nat.lt_of_lt_of_le kt.out.lt lkb)) #[.int .i64 x0, .int .i64 y0, .int .i64 z0, .int .i64 u0, .slice A0 n0 c0])
        replace hB := Lib.hid (below_setRow (below_on hB.out hbx) (Nat.le_trans hB.out.size lkb) #[.int .i64 x0, .int .i64 y0, .int .i64 z0, .int .i64 u0, .slice A0 n0 c0])
        clear ka kb
        have ka := ka'
        have kb := kb'
        clear hbx ka' lka kb' lkb nkakb
        refine wpList_nil ?_
        dsimp only [Act.put]
        generalize (xw.setRow pkb #[.int .i64 x0, .int .i64 y0, .int .i64 z0, .int .i64 u0, .slice A0 n0 c0]) = W4 at *
        have ckt := kt.out.cell
        have lkt := kt.out.lt
        have cka := ka.out.cell
        have lka := ka.out.lt
        have ckb := kb.out.cell
        have lkb := kb.out.lt
        go_wp2_with (fail)
        refine (rAccepts_at _ _ _ _ _ _ _ _ h2.out).mono ?_
        rintro e xw ⟨rfl, rfl⟩
        cases b2
        · go_wp2_with (fail)
          go_ret
          exact ⟨ret_bool (by simpa using hV.out.symm), hB.out⟩
        clear ckt lkt cka lka ckb lkb
        clear ka kb
        have ckt := kt.out.cell
        have lkt := kt.out.lt
        go_wp2_with (fail)
        rw [rounds_succ]
        go_wp2_with (fail)
        go_ret
        exact ⟨ret_bool (by simpa using hV.out.symm), hB.out⟩
theorem rCovers_at (x0 y0 z0 u0 x1 y1 z1 u1 x2 y2 z2 u2 : Int) (A0 A1 A2 : Option Addr) (n0 c0 n1 c1 n2 c2 : Nat) (pr : Int) (fr : Bool) (px py : Int) (w : World) (v : Bool) (h : covB x0 y0 x1 y1 x2 y2 px py = v) :
    Calls Try.prog 26 #[.agg #[.int .i64 x0, .int .i64 y0, .int .i64 z0, .int .i64 u0, .slice A0 n0 c0, .int .i64 x1, .int .i64 y1, .int .i64 z1, .int .i64 u1, .slice A1 n1 c1, .int .i64 x2, .int .i64 y2, .int .i64 z2, .int .i64 u2, .slice A2 n2 c2, .int .i64 pr, .bool fr], .int .i64 px, .int .i64 py] w fun e w' => e = .returned (.bool v) ∧ Below w.heap.size w w' := h ▸ rCovers_any _ _ _ _ _ _ _ _ _ _ _ _ _ _ _ _ _ _ _ _ _ _ _ _ _ _
end Go.Proofs.Ytmcemnhhmlnfcaa
