/- The reference's function of the edge from a vertex to the next one. -/
import Derived.Test.YthbagegkcpblgaaRValid
import Derived.Test.YthbagegkcpblgaaRFn
namespace Go.Proofs.Ythbagegkcpblgaa
open Go.RowKit
attribute [local go_sem] Ext.cell
theorem rFunction_at (ax ay bx by' px py : Int) (w : World) (v : Int) (h : efI ax ay bx by' px py = v) :
    Calls Try.prog 65 #[.int .i64 ax, .int .i64 ay, .int .i64 bx, .int .i64 by', .int .i64 px, .int .i64 py] w fun e w' => e = .returned (.int .i64 v) ∧ w = w' := h ▸ rFunction_any _ _ _ _ _ _ _
set_option maxHeartbeats 4000000 in
theorem from_0 (x0 y0 z0 u0 x1 y1 z1 u1 x2 y2 z2 u2 : Int) (A0 A1 A2 : Option Addr) (n0 c0 n1 c1 n2 c2 : Nat) (pr : Int) (fr : Bool) (px py : Int) (w : World) (v : Int) (h : efI x0 y0 x1 y1 px py = v) :
    Calls Try.prog 63 #[.agg #[.int .i64 x0, .int .i64 y0, .int .i64 z0, .int .i64 u0, .slice A0 n0 c0, .int .i64 x1, .int .i64 y1, .int .i64 z1, .int .i64 u1, .slice A1 n1 c1, .int .i64 x2, .int .i64 y2, .int .i64 z2, .int .i64 u2, .slice A2 n2 c2, .int .i64 pr, .bool fr], .int .i64 0, .int .i64 px, .int .i64 py] w fun e w' => e = .returned (.int .i64 v) ∧ Below w.heap.size w w' := by
  replace h := Lib.hid h
  have hw0 : IntKind.i64.wrap 0 = 0 := by decide
  have hw1 : IntKind.i64.wrap 1 = 1 := by decide
  have hw2 : IntKind.i64.wrap 2 = 2 := by decide
  go_enter Try.func63, Try.ntmps63
  have kt := Lib.hid (Blk.new w 27 #[.int .i64 x0, .int .i64 y0, .int .i64 z0, .int .i64 u0, .slice A0 n0 c0, .int .i64 x1, .int .i64 y1, .int .i64 z1, .int .i64 u1, .slice A1 n1 c1, .int .i64 x2, .int .i64 y2, .int .i64 z2, .int .i64 u2, .slice A2 n2 c2, .int .i64 pr, .bool fr])
  have hB : Hid (Below w.heap.size w (w.alloc (.cells #[.int .i64 x0, .int .i64 y0, .int .i64 z0, .int .i64 u0, .slice A0 n0 c0, .int .i64 x1, .int .i64 y1, .int .i64 z1, .int .i64 u1, .slice A1 n1 c1, .int .i64 x2, .int .i64 y2, .int .i64 z2, .int .i64 u2, .slice A2 n2 c2, .int .i64 pr, .bool fr] 27))) := Lib.hid (by go_grown)
  go_wp2_with fail
  generalize (w.alloc (.cells #[.int .i64 x0, .int .i64 y0, .int .i64 z0, .int .i64 u0, .slice A0 n0 c0, .int .i64 x1, .int .i64 y1, .int .i64 z1, .int .i64 u1, .slice A1 n1 c1, .int .i64 x2, .int .i64 y2, .int .i64 z2, .int .i64 u2, .slice A2 n2 c2, .int .i64 pr, .bool fr] 27)) = W1 at *
  refine' wp_region_fresh 13 [⟨10, 9, 24, #[.int .i64 0, .int .i64 0, .int .i64 0, .int .i64 0, .slice none 0 0], 12, #[.int .i64 x0, .int .i64 y0, .int .i64 z0, .int .i64 u0, .slice A0 n0 c0]⟩, ⟨11, 10, 24, #[.int .i64 0, .int .i64 0, .int .i64 0, .int .i64 0, .slice none 0 0], 13, #[.int .i64 x1, .int .i64 y1, .int .i64 z1, .int .i64 u1, .slice A1 n1 c1]⟩] (by kernel_rfl) (by kernel_rfl) (by simp) (by simp) (by simp) (by simp) ?hz ?h1 ?hs ?h2
  case hz =>
    intro z hz
    simp only [List.mem_cons, List.not_mem_nil, or_false] at hz
    rcases hz with rfl | rfl
    all_goals exact ⟨by simp, by simp, _, rfl, rfl, rfl, fun ev xw => by simp [go_sem, ptrTo, Let.at_]⟩
  case h1 =>
    intro u hu
    have ktu := kt.out.below hu kt.out.lt
    have ckt := ktu.cell
    have lkt := ktu.lt
    simp only [List.take_succ_cons, List.take_zero, List.filter, isMk, isAl, isSt, Bool.or_false, Bool.or_true, Bool.not_true, Bool.not_false]
    repeat (go_big_quiet_step (first | fail))
    exact wpQuiet_nil rfl
  case hs =>
    intro z hz
    simp only [List.mem_cons, List.not_mem_nil, or_false] at hz
    rcases hz with rfl | rfl
    · exact fun _ => ⟨_, 24, _, rfl, rfl, by simp, rfl, rfl, (by kernel_rfl), rfl, by kernel_rfl⟩
    · exact fun h => absurd h (by simp)
  case h2 =>
    intro ℓ xw hlet
    obtain ⟨hbx, hlx, hnx⟩ := hlet
    obtain ⟨ka, lka⟩ := hlx ⟨10, 9, 24, #[.int .i64 0, .int .i64 0, .int .i64 0, .int .i64 0, .slice none 0 0], 12, #[.int .i64 x0, .int .i64 y0, .int .i64 z0, .int .i64 u0, .slice A0 n0 c0]⟩ (by simp)
    obtain ⟨kb, lkb⟩ := hlx ⟨11, 10, 24, #[.int .i64 0, .int .i64 0, .int .i64 0, .int .i64 0, .slice none 0 0], 13, #[.int .i64 x1, .int .i64 y1, .int .i64 z1, .int .i64 u1, .slice A1 n1 c1]⟩ (by simp)
    have nkakb := hnx ⟨10, 9, 24, #[.int .i64 0, .int .i64 0, .int .i64 0, .int .i64 0, .slice none 0 0], 12, #[.int .i64 x0, .int .i64 y0, .int .i64 z0, .int .i64 u0, .slice A0 n0 c0]⟩ (by simp) ⟨11, 10, 24, #[.int .i64 0, .int .i64 0, .int .i64 0, .int .i64 0, .slice none 0 0], 13, #[.int .i64 x1, .int .i64 y1, .int .i64 z1, .int .i64 u1, .slice A1 n1 c1]⟩ (by simp) (by simp)
    clear hnx hlx
    dsimp only [List.drop, lay, List.foldl, ptrTo] at *
    generalize ℓ 10 = pka at *
    generalize ℓ 11 = pkb at *
    replace ka : Hid (Blk xw pka 24 #[.int .i64 x0, .int .i64 y0, .int .i64 z0, .int .i64 u0, .slice A0 n0 c0]) := Lib.hid ka
    replace kb : Hid (Blk xw pkb 24 #[.int .i64 0, .int .i64 0, .int .i64 0, .int .i64 0, .slice none 0 0]) := Lib.hid kb
    simp only [Act.put, List.setIfInBounds_toArray, List.set_cons_zero, List.set_cons_succ]
    refine wpList_store_row rfl 24 _ _ rfl pkb #[.int .i64 x1, .int .i64 y1, .int .i64 z1, .int .i64 u1, .slice A1 n1 c1] rfl rfl 24 _ kb.out (by kernel_rfl) rfl (by kernel_rfl) ?_
    have ka' := Lib.hid (Blk.farRow ka.out nkakb #[.int .i64 x1, .int .i64 y1, .int .i64 z1, .int .i64 u1, .slice A1 n1 c1])
    have kb' := Lib.hid (Blk.setRow kb.out #[.int .i64 x1, .int .i64 y1, .int .i64 z1, .int .i64 u1, .slice A1 n1 c1])
    replace kt := Lib.hid (Blk.farRow (kt.out.below hbx kt.out.lt) (Nat.ne_of_lt (Nat.lt_of_lt_of_le kt.out.lt lkb)) #[.int .i64 x1, .int .i64 y1, .int .i64 z1, .int .i64 u1, .slice A1 n1 c1])
    replace hB := Lib.hid (below_setRow (below_on hB.out hbx) (Nat.le_trans hB.out.size lkb) #[.int .i64 x1, .int .i64 y1, .int .i64 z1, .int .i64 u1, .slice A1 n1 c1])
    clear ka kb
    have ka := ka'
    have kb := kb'
    clear hbx ka' lka kb' lkb nkakb
    refine wpList_nil ?_
    dsimp only [Act.put]
    generalize (xw.setRow pkb #[.int .i64 x1, .int .i64 y1, .int .i64 z1, .int .i64 u1, .slice A1 n1 c1]) = W2 at *
    have ckt := kt.out.cell
    have lkt := kt.out.lt
    have cka := ka.out.cell
    have lka := ka.out.lt
    have ckb := kb.out.cell
    have lkb := kb.out.lt
    go_wp2_with (fail)
    refine (rFunction_at _ _ _ _ _ _ _ _ h.out).mono ?_
    rintro e xw ⟨rfl, rfl⟩
    go_wp2
    go_ret
    exact ⟨rfl, hB.out⟩
set_option maxHeartbeats 4000000 in
theorem from_1 (x0 y0 z0 u0 x1 y1 z1 u1 x2 y2 z2 u2 : Int) (A0 A1 A2 : Option Addr) (n0 c0 n1 c1 n2 c2 : Nat) (pr : Int) (fr : Bool) (px py : Int) (w : World) (v : Int) (h : efI x1 y1 x2 y2 px py = v) :
    Calls Try.prog 63 #[.agg #[.int .i64 x0, .int .i64 y0, .int .i64 z0, .int .i64 u0, .slice A0 n0 c0, .int .i64 x1, .int .i64 y1, .int .i64 z1, .int .i64 u1, .slice A1 n1 c1, .int .i64 x2, .int .i64 y2, .int .i64 z2, .int .i64 u2, .slice A2 n2 c2, .int .i64 pr, .bool fr], .int .i64 1, .int .i64 px, .int .i64 py] w fun e w' => e = .returned (.int .i64 v) ∧ Below w.heap.size w w' := by
  replace h := Lib.hid h
  have hw0 : IntKind.i64.wrap 0 = 0 := by decide
  have hw1 : IntKind.i64.wrap 1 = 1 := by decide
  have hw2 : IntKind.i64.wrap 2 = 2 := by decide
  go_enter Try.func63, Try.ntmps63
  have kt := Lib.hid (Blk.new w 27 #[.int .i64 x0, .int .i64 y0, .int .i64 z0, .int .i64 u0, .slice A0 n0 c0, .int .i64 x1, .int .i64 y1, .int .i64 z1, .int .i64 u1, .slice A1 n1 c1, .int .i64 x2, .int .i64 y2, .int .i64 z2, .int .i64 u2, .slice A2 n2 c2, .int .i64 pr, .bool fr])
  have hB : Hid (Below w.heap.size w (w.alloc (.cells #[.int .i64 x0, .int .i64 y0, .int .i64 z0, .int .i64 u0, .slice A0 n0 c0, .int .i64 x1, .int .i64 y1, .int .i64 z1, .int .i64 u1, .slice A1 n1 c1, .int .i64 x2, .int .i64 y2, .int .i64 z2, .int .i64 u2, .slice A2 n2 c2, .int .i64 pr, .bool fr] 27))) := Lib.hid (by go_grown)
  go_wp2_with fail
  generalize (w.alloc (.cells #[.int .i64 x0, .int .i64 y0, .int .i64 z0, .int .i64 u0, .slice A0 n0 c0, .int .i64 x1, .int .i64 y1, .int .i64 z1, .int .i64 u1, .slice A1 n1 c1, .int .i64 x2, .int .i64 y2, .int .i64 z2, .int .i64 u2, .slice A2 n2 c2, .int .i64 pr, .bool fr] 27)) = W1 at *
  refine' wp_region_fresh 13 [⟨10, 9, 24, #[.int .i64 0, .int .i64 0, .int .i64 0, .int .i64 0, .slice none 0 0], 12, #[.int .i64 x1, .int .i64 y1, .int .i64 z1, .int .i64 u1, .slice A1 n1 c1]⟩, ⟨11, 10, 24, #[.int .i64 0, .int .i64 0, .int .i64 0, .int .i64 0, .slice none 0 0], 13, #[.int .i64 x2, .int .i64 y2, .int .i64 z2, .int .i64 u2, .slice A2 n2 c2]⟩] (by kernel_rfl) (by kernel_rfl) (by simp) (by simp) (by simp) (by simp) ?hz ?h1 ?hs ?h2
  case hz =>
    intro z hz
    simp only [List.mem_cons, List.not_mem_nil, or_false] at hz
    rcases hz with rfl | rfl
    all_goals exact ⟨by simp, by simp, _, rfl, rfl, rfl, fun ev xw => by simp [go_sem, ptrTo, Let.at_]⟩
  case h1 =>
    intro u hu
    have ktu := kt.out.below hu kt.out.lt
    have ckt := ktu.cell
    have lkt := ktu.lt
    simp only [List.take_succ_cons, List.take_zero, List.filter, isMk, isAl, isSt, Bool.or_false, Bool.or_true, Bool.not_true, Bool.not_false]
    repeat (go_big_quiet_step (first | fail))
    exact wpQuiet_nil rfl
  case hs =>
    intro z hz
    simp only [List.mem_cons, List.not_mem_nil, or_false] at hz
    rcases hz with rfl | rfl
    · exact fun _ => ⟨_, 24, _, rfl, rfl, by simp, rfl, rfl, (by kernel_rfl), rfl, by kernel_rfl⟩
    · exact fun h => absurd h (by simp)
  case h2 =>
    intro ℓ xw hlet
    obtain ⟨hbx, hlx, hnx⟩ := hlet
    obtain ⟨ka, lka⟩ := hlx ⟨10, 9, 24, #[.int .i64 0, .int .i64 0, .int .i64 0, .int .i64 0, .slice none 0 0], 12, #[.int .i64 x1, .int .i64 y1, .int .i64 z1, .int .i64 u1, .slice A1 n1 c1]⟩ (by simp)
    obtain ⟨kb, lkb⟩ := hlx ⟨11, 10, 24, #[.int .i64 0, .int .i64 0, .int .i64 0, .int .i64 0, .slice none 0 0], 13, #[.int .i64 x2, .int .i64 y2, .int .i64 z2, .int .i64 u2, .slice A2 n2 c2]⟩ (by simp)
    have nkakb := hnx ⟨10, 9, 24, #[.int .i64 0, .int .i64 0, .int .i64 0, .int .i64 0, .slice none 0 0], 12, #[.int .i64 x1, .int .i64 y1, .int .i64 z1, .int .i64 u1, .slice A1 n1 c1]⟩ (by simp) ⟨11, 10, 24, #[.int .i64 0, .int .i64 0, .int .i64 0, .int .i64 0, .slice none 0 0], 13, #[.int .i64 x2, .int .i64 y2, .int .i64 z2, .int .i64 u2, .slice A2 n2 c2]⟩ (by simp) (by simp)
    clear hnx hlx
    dsimp only [List.drop, lay, List.foldl, ptrTo] at *
    generalize ℓ 10 = pka at *
    generalize ℓ 11 = pkb at *
    replace ka : Hid (Blk xw pka 24 #[.int .i64 x1, .int .i64 y1, .int .i64 z1, .int .i64 u1, .slice A1 n1 c1]) := Lib.hid ka
    replace kb : Hid (Blk xw pkb 24 #[.int .i64 0, .int .i64 0, .int .i64 0, .int .i64 0, .slice none 0 0]) := Lib.hid kb
    simp only [Act.put, List.setIfInBounds_toArray, List.set_cons_zero, List.set_cons_succ]
    refine wpList_store_row rfl 24 _ _ rfl pkb #[.int .i64 x2, .int .i64 y2, .int .i64 z2, .int .i64 u2, .slice A2 n2 c2] rfl rfl 24 _ kb.out (by kernel_rfl) rfl (by kernel_rfl) ?_
    have ka' := Lib.hid (Blk.farRow ka.out nkakb #[.int .i64 x2, .int .i64 y2, .int .i64 z2, .int .i64 u2, .slice A2 n2 c2])
    have kb' := Lib.hid (Blk.setRow kb.out #[.int .i64 x2, .int .i64 y2, .int .i64 z2, .int .i64 u2, .slice A2 n2 c2])
    replace kt := Lib.hid (Blk.farRow (kt.out.below hbx kt.out.lt) (Nat.ne_of_lt (Nat.lt_of_lt_of_le kt.out.lt lkb)) #[.int .i64 x2, .int .i64 y2, .int .i64 z2, .int .i64 u2, .slice A2 n2 c2])
    replace hB := Lib.hid (below_setRow (below_on hB.out hbx) (Nat.le_trans hB.out.size lkb) #[.int .i64 x2, .int .i64 y2, .int .i64 z2, .int .i64 u2, .slice A2 n2 c2])
    clear ka kb
    have ka := ka'
    have kb := kb'
    clear hbx ka' lka kb' lkb nkakb
    refine wpList_nil ?_
    dsimp only [Act.put]
    generalize (xw.setRow pkb #[.int .i64 x2, .int .i64 y2, .int .i64 z2, .int .i64 u2, .slice A2 n2 c2]) = W2 at *
    have ckt := kt.out.cell
    have lkt := kt.out.lt
    have cka := ka.out.cell
    have lka := ka.out.lt
    have ckb := kb.out.cell
    have lkb := kb.out.lt
    go_wp2_with (fail)
    refine (rFunction_at _ _ _ _ _ _ _ _ h.out).mono ?_
    rintro e xw ⟨rfl, rfl⟩
    go_wp2
    go_ret
    exact ⟨rfl, hB.out⟩
set_option maxHeartbeats 4000000 in
theorem from_2 (x0 y0 z0 u0 x1 y1 z1 u1 x2 y2 z2 u2 : Int) (A0 A1 A2 : Option Addr) (n0 c0 n1 c1 n2 c2 : Nat) (pr : Int) (fr : Bool) (px py : Int) (w : World) (v : Int) (h : efI x2 y2 x0 y0 px py = v) :
    Calls Try.prog 63 #[.agg #[.int .i64 x0, .int .i64 y0, .int .i64 z0, .int .i64 u0, .slice A0 n0 c0, .int .i64 x1, .int .i64 y1, .int .i64 z1, .int .i64 u1, .slice A1 n1 c1, .int .i64 x2, .int .i64 y2, .int .i64 z2, .int .i64 u2, .slice A2 n2 c2, .int .i64 pr, .bool fr], .int .i64 2, .int .i64 px, .int .i64 py] w fun e w' => e = .returned (.int .i64 v) ∧ Below w.heap.size w w' := by
  replace h := Lib.hid h
  have hw0 : IntKind.i64.wrap 0 = 0 := by decide
  have hw1 : IntKind.i64.wrap 1 = 1 := by decide
  have hw2 : IntKind.i64.wrap 2 = 2 := by decide
  go_enter Try.func63, Try.ntmps63
  have kt := Lib.hid (Blk.new w 27 #[.int .i64 x0, .int .i64 y0, .int .i64 z0, .int .i64 u0, .slice A0 n0 c0, .int .i64 x1, .int .i64 y1, .int .i64 z1, .int .i64 u1, .slice A1 n1 c1, .int .i64 x2, .int .i64 y2, .int .i64 z2, .int .i64 u2, .slice A2 n2 c2, .int .i64 pr, .bool fr])
  have hB : Hid (Below w.heap.size w (w.alloc (.cells #[.int .i64 x0, .int .i64 y0, .int .i64 z0, .int .i64 u0, .slice A0 n0 c0, .int .i64 x1, .int .i64 y1, .int .i64 z1, .int .i64 u1, .slice A1 n1 c1, .int .i64 x2, .int .i64 y2, .int .i64 z2, .int .i64 u2, .slice A2 n2 c2, .int .i64 pr, .bool fr] 27))) := Lib.hid (by go_grown)
  go_wp2_with fail
  generalize (w.alloc (.cells #[.int .i64 x0, .int .i64 y0, .int .i64 z0, .int .i64 u0, .slice A0 n0 c0, .int .i64 x1, .int .i64 y1, .int .i64 z1, .int .i64 u1, .slice A1 n1 c1, .int .i64 x2, .int .i64 y2, .int .i64 z2, .int .i64 u2, .slice A2 n2 c2, .int .i64 pr, .bool fr] 27)) = W1 at *
  refine' wp_region_fresh 13 [⟨10, 9, 24, #[.int .i64 0, .int .i64 0, .int .i64 0, .int .i64 0, .slice none 0 0], 12, #[.int .i64 x2, .int .i64 y2, .int .i64 z2, .int .i64 u2, .slice A2 n2 c2]⟩, ⟨11, 10, 24, #[.int .i64 0, .int .i64 0, .int .i64 0, .int .i64 0, .slice none 0 0], 13, #[.int .i64 x0, .int .i64 y0, .int .i64 z0, .int .i64 u0, .slice A0 n0 c0]⟩] (by kernel_rfl) (by kernel_rfl) (by simp) (by simp) (by simp) (by simp) ?hz ?h1 ?hs ?h2
  case hz =>
    intro z hz
    simp only [List.mem_cons, List.not_mem_nil, or_false] at hz
    rcases hz with rfl | rfl
    all_goals exact ⟨by simp, by simp, _, rfl, rfl, rfl, fun ev xw => by simp [go_sem, ptrTo, Let.at_]⟩
  case h1 =>
    intro u hu
    have ktu := kt.out.below hu kt.out.lt
    have ckt := ktu.cell
    have lkt := ktu.lt
    simp only [List.take_succ_cons, List.take_zero, List.filter, isMk, isAl, isSt, Bool.or_false, Bool.or_true, Bool.not_true, Bool.not_false]
    repeat (go_big_quiet_step (first | fail))
    exact wpQuiet_nil rfl
  case hs =>
    intro z hz
    simp only [List.mem_cons, List.not_mem_nil, or_false] at hz
    rcases hz with rfl | rfl
    · exact fun _ => ⟨_, 24, _, rfl, rfl, by simp, rfl, rfl, (by kernel_rfl), rfl, by kernel_rfl⟩
    · exact fun h => absurd h (by simp)
  case h2 =>
    intro ℓ xw hlet
    obtain ⟨hbx, hlx, hnx⟩ := hlet
    obtain ⟨ka, lka⟩ := hlx ⟨10, 9, 24, #[.int .i64 0, .int .i64 0, .int .i64 0, .int .i64 0, .slice none 0 0], 12, #[.int .i64 x2, .int .i64 y2, .int .i64 z2, .int .i64 u2, .slice A2 n2 c2]⟩ (by simp)
    obtain ⟨kb, lkb⟩ := hlx ⟨11, 10, 24, #[.int .i64 0, .int .i64 0, .int .i64 0, .int .i64 0, .slice none 0 0], 13, #[.int .i64 x0, .int .i64 y0, .int .i64 z0, .int .i64 u0, .slice A0 n0 c0]⟩ (by simp)
    have nkakb := hnx ⟨10, 9, 24, #[.int .i64 0, .int .i64 0, .int .i64 0, .int .i64 0, .slice none 0 0], 12, #[.int .i64 x2, .int .i64 y2, .int .i64 z2, .int .i64 u2, .slice A2 n2 c2]⟩ (by simp) ⟨11, 10, 24, #[.int .i64 0, .int .i64 0, .int .i64 0, .int .i64 0, .slice none 0 0], 13, #[.int .i64 x0, .int .i64 y0, .int .i64 z0, .int .i64 u0, .slice A0 n0 c0]⟩ (by simp) (by simp)
    clear hnx hlx
    dsimp only [List.drop, lay, List.foldl, ptrTo] at *
    generalize ℓ 10 = pka at *
    generalize ℓ 11 = pkb at *
    replace ka : Hid (Blk xw pka 24 #[.int .i64 x2, .int .i64 y2, .int .i64 z2, .int .i64 u2, .slice A2 n2 c2]) := Lib.hid ka
    replace kb : Hid (Blk xw pkb 24 #[.int .i64 0, .int .i64 0, .int .i64 0, .int .i64 0, .slice none 0 0]) := Lib.hid kb
    simp only [Act.put, List.setIfInBounds_toArray, List.set_cons_zero, List.set_cons_succ]
    refine wpList_store_row rfl 24 _ _ rfl pkb #[.int .i64 x0, .int .i64 y0, .int .i64 z0, .int .i64 u0, .slice A0 n0 c0] rfl rfl 24 _ kb.out (by kernel_rfl) rfl (by kernel_rfl) ?_
    have ka' := Lib.hid (Blk.farRow ka.out nkakb #[.int .i64 x0, .int .i64 y0, .int .i64 z0, .int .i64 u0, .slice A0 n0 c0])
    have kb' := Lib.hid (Blk.setRow kb.out #[.int .i64 x0, .int .i64 y0, .int .i64 z0, .int .i64 u0, .slice A0 n0 c0])
    replace kt := Lib.hid (Blk.farRow (kt.out.below hbx kt.out.lt) (Nat.ne_of_lt (Nat.lt_of_lt_of_le kt.out.lt lkb)) #[.int .i64 x0, .int .i64 y0, .int .i64 z0, .int .i64 u0, .slice A0 n0 c0])
    replace hB := Lib.hid (below_setRow (below_on hB.out hbx) (Nat.le_trans hB.out.size lkb) #[.int .i64 x0, .int .i64 y0, .int .i64 z0, .int .i64 u0, .slice A0 n0 c0])
    clear ka kb
    have ka := ka'
    have kb := kb'
    clear hbx ka' lka kb' lkb nkakb
    refine wpList_nil ?_
    dsimp only [Act.put]
    generalize (xw.setRow pkb #[.int .i64 x0, .int .i64 y0, .int .i64 z0, .int .i64 u0, .slice A0 n0 c0]) = W2 at *
    have ckt := kt.out.cell
    have lkt := kt.out.lt
    have cka := ka.out.cell
    have lka := ka.out.lt
    have ckb := kb.out.cell
    have lkb := kb.out.lt
    go_wp2_with (fail)
    refine (rFunction_at _ _ _ _ _ _ _ _ h.out).mono ?_
    rintro e xw ⟨rfl, rfl⟩
    go_wp2
    go_ret
    exact ⟨rfl, hB.out⟩
end Go.Proofs.Ythbagegkcpblgaa
