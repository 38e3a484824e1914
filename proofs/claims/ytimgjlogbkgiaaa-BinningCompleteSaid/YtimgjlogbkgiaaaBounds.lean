/- Bounds of package edge returns the least and the greatest coordinates of a valid triangle, and four zeros otherwise. -/
import Derived.Test.YtimgjlogbkgiaaaValid
import Derived.Test.YtimgjlogbkgiaaaFresh
namespace Go.Proofs.Ytimgjlogbkgiaaa
open Go.RowKit
attribute [local go_sem] Ext.cell
theorem ret_tup4 {a b c d a' b' c' d' : Int} (h1 : a = a') (h2 : b = b') (h3 : c = c') (h4 : d = d') : Ending.returned (.tuple #[.int .i64 a, .int .i64 b, .int .i64 c, .int .i64 d]) = .returned (.tuple #[.int .i64 a', .int .i64 b', .int .i64 c', .int .i64 d']) := by rw [h1, h2, h3, h4]
set_option maxHeartbeats 4000000 in
theorem bounds_no (x0 y0 z0 u0 x1 y1 z1 u1 x2 y2 z2 u2 : Int) (A0 A1 A2 : Option Addr) (n0 c0 n1 c1 n2 c2 : Nat) (pr : Int) (fr : Bool) (w : World) (h : validB x0 y0 x1 y1 x2 y2 = false) :
    Calls Try.prog 27 #[.agg #[.int .i64 x0, .int .i64 y0, .int .i64 z0, .int .i64 u0, .slice A0 n0 c0, .int .i64 x1, .int .i64 y1, .int .i64 z1, .int .i64 u1, .slice A1 n1 c1, .int .i64 x2, .int .i64 y2, .int .i64 z2, .int .i64 u2, .slice A2 n2 c2, .int .i64 pr, .bool fr]] w fun e w' => e = .returned (.tuple #[.int .i64 0, .int .i64 0, .int .i64 0, .int .i64 0]) ∧ Below w.heap.size w w' := by
  replace h := Lib.hid h
  go_enter Try.func27, Try.ntmps27
  have kt := Lib.hid (Blk.new w 37 #[.int .i64 x0, .int .i64 y0, .int .i64 z0, .int .i64 u0, .slice A0 n0 c0, .int .i64 x1, .int .i64 y1, .int .i64 z1, .int .i64 u1, .slice A1 n1 c1, .int .i64 x2, .int .i64 y2, .int .i64 z2, .int .i64 u2, .slice A2 n2 c2, .int .i64 pr, .bool fr])
  have hB : Hid (Below w.heap.size w (w.alloc (.cells #[.int .i64 x0, .int .i64 y0, .int .i64 z0, .int .i64 u0, .slice A0 n0 c0, .int .i64 x1, .int .i64 y1, .int .i64 z1, .int .i64 u1, .slice A1 n1 c1, .int .i64 x2, .int .i64 y2, .int .i64 z2, .int .i64 u2, .slice A2 n2 c2, .int .i64 pr, .bool fr] 37))) := Lib.hid (by go_grown)
  have ckt := kt.out.cell
  have lkt := kt.out.lt
  go_wp2_with (first | refine wpList_load_row rfl 37 _ rfl _ rfl _ _ _ _ kt.out Try.underlying37 rfl triInfo ?_ | refine wpList_load_rowG rfl 37 _ rfl _ rfl _ _ _ _ kt.out Try.underlying37 rfl triInfo ?_)
  clear ckt lkt
  refine (valid_at _ _ _ _ _ _ _ _ _ _ _ _ _ _ _ _ _ _ _ _ _ _ _ _ _ h.out).mono ?_
  rintro e W1 ⟨rfl, hb⟩
  replace kt := Lib.hid (kt.out.call hb)
  replace hB := Lib.hid (below_on hB.out hb)
  clear hb
  have ckt := kt.out.cell
  have lkt := kt.out.lt
  go_wp2_with (first | refine wpList_load_row rfl 37 _ rfl _ rfl _ _ _ _ kt.out Try.underlying37 rfl triInfo ?_ | refine wpList_load_rowG rfl 37 _ rfl _ rfl _ _ _ _ kt.out Try.underlying37 rfl triInfo ?_)
  go_returns
  exact ⟨rfl, hB.out⟩
set_option maxHeartbeats 8000000 in
theorem bounds_yes (x0 y0 z0 u0 x1 y1 z1 u1 x2 y2 z2 u2 : Int) (A0 A1 A2 : Option Addr) (n0 c0 n1 c1 n2 c2 : Nat) (pr : Int) (fr : Bool) (w : World) (h : validB x0 y0 x1 y1 x2 y2 = true) :
    Calls Try.prog 27 #[.agg #[.int .i64 x0, .int .i64 y0, .int .i64 z0, .int .i64 u0, .slice A0 n0 c0, .int .i64 x1, .int .i64 y1, .int .i64 z1, .int .i64 u1, .slice A1 n1 c1, .int .i64 x2, .int .i64 y2, .int .i64 z2, .int .i64 u2, .slice A2 n2 c2, .int .i64 pr, .bool fr]] w fun e w' => e = .returned (.tuple #[.int .i64 (min (min x0 x1) x2), .int .i64 (min (min y0 y1) y2), .int .i64 (max (max x0 x1) x2), .int .i64 (max (max y0 y1) y2)]) ∧ Below w.heap.size w w' := by
  replace h := Lib.hid h
  have hw0 : IntKind.i64.wrap 0 = 0 := by decide
  have hw1 : IntKind.i64.wrap 1 = 1 := by decide
  have hw2 : IntKind.i64.wrap 2 = 2 := by decide
  go_enter Try.func27, Try.ntmps27
  have kt := Lib.hid (Blk.new w 37 #[.int .i64 x0, .int .i64 y0, .int .i64 z0, .int .i64 u0, .slice A0 n0 c0, .int .i64 x1, .int .i64 y1, .int .i64 z1, .int .i64 u1, .slice A1 n1 c1, .int .i64 x2, .int .i64 y2, .int .i64 z2, .int .i64 u2, .slice A2 n2 c2, .int .i64 pr, .bool fr])
  have hB : Hid (Below w.heap.size w (w.alloc (.cells #[.int .i64 x0, .int .i64 y0, .int .i64 z0, .int .i64 u0, .slice A0 n0 c0, .int .i64 x1, .int .i64 y1, .int .i64 z1, .int .i64 u1, .slice A1 n1 c1, .int .i64 x2, .int .i64 y2, .int .i64 z2, .int .i64 u2, .slice A2 n2 c2, .int .i64 pr, .bool fr] 37))) := Lib.hid (by go_grown)
  have ckt := kt.out.cell
  have lkt := kt.out.lt
  go_wp2_with (first | refine wpList_load_row rfl 37 _ rfl _ rfl _ _ _ _ kt.out Try.underlying37 rfl triInfo ?_ | refine wpList_load_rowG rfl 37 _ rfl _ rfl _ _ _ _ kt.out Try.underlying37 rfl triInfo ?_)
  clear ckt lkt
  refine (valid_at _ _ _ _ _ _ _ _ _ _ _ _ _ _ _ _ _ _ _ _ _ _ _ _ _ h.out).mono ?_
  rintro e W1 ⟨rfl, hb⟩
  replace kt := Lib.hid (kt.out.call hb)
  replace hB := Lib.hid (below_on hB.out hb)
  clear hb
  have ckt := kt.out.cell
  have lkt := kt.out.lt
  go_wp2_with (first | refine wpList_load_row rfl 37 _ rfl _ rfl _ _ _ _ kt.out Try.underlying37 rfl triInfo ?_ | refine wpList_load_rowG rfl 37 _ rfl _ rfl _ _ _ _ kt.out Try.underlying37 rfl triInfo ?_)
  clear ckt lkt
  refine' wp_region_fresh 14 [⟨9, 6, 34, #[.int .i64 0, .int .i64 0, .int .i64 0, .int .i64 0, .slice none 0 0], 12, #[.int .i64 x0, .int .i64 y0, .int .i64 z0, .int .i64 u0, .slice A0 n0 c0]⟩, ⟨10, 7, 34, #[.int .i64 0, .int .i64 0, .int .i64 0, .int .i64 0, .slice none 0 0], 13, #[.int .i64 x1, .int .i64 y1, .int .i64 z1, .int .i64 u1, .slice A1 n1 c1]⟩, ⟨11, 8, 34, #[.int .i64 0, .int .i64 0, .int .i64 0, .int .i64 0, .slice none 0 0], 14, #[.int .i64 x2, .int .i64 y2, .int .i64 z2, .int .i64 u2, .slice A2 n2 c2]⟩] (by kernel_rfl) (by kernel_rfl) (by simp) (by simp) (by simp) (by simp) ?hz ?h1 ?hs ?h2
  case hz =>
    intro z hz
    simp only [List.mem_cons, List.not_mem_nil, or_false] at hz
    rcases hz with rfl | rfl | rfl
    all_goals exact ⟨by simp, by simp, _, rfl, rfl, rfl, fun ev xw => by simp [go_sem, ptrTo, Let.at_]⟩
  case h1 =>
    intro u hu
    have ktu := kt.out.below hu kt.out.lt
    have ckt := ktu.cell
    have lkt := ktu.lt
    simp only [List.take_succ_cons, List.take_zero, List.filter, isMk, isAl, isSt, Bool.or_false, Bool.or_true, Bool.not_true, Bool.not_false]
    repeat (go_big_quiet_step (first | fail))
    exact wpQuiet_nil rfl
  case hs =>
    intro z hz
    simp only [List.mem_cons, List.not_mem_nil, or_false] at hz
    rcases hz with rfl | rfl | rfl
    · exact fun _ => ⟨_, 34, _, rfl, rfl, by simp, rfl, rfl, (by kernel_rfl), rfl, by kernel_rfl⟩
    · exact fun _ => ⟨_, 34, _, rfl, rfl, by simp, rfl, rfl, (by kernel_rfl), rfl, by kernel_rfl⟩
    · exact fun h => absurd h (by simp)
  case h2 =>
    intro ℓ xw hlet
    obtain ⟨hbx, hlx, hnx⟩ := hlet
    obtain ⟨ka, lka⟩ := hlx ⟨9, 6, 34, #[.int .i64 0, .int .i64 0, .int .i64 0, .int .i64 0, .slice none 0 0], 12, #[.int .i64 x0, .int .i64 y0, .int .i64 z0, .int .i64 u0, .slice A0 n0 c0]⟩ (by simp)
    obtain ⟨kb, lkb⟩ := hlx ⟨10, 7, 34, #[.int .i64 0, .int .i64 0, .int .i64 0, .int .i64 0, .slice none 0 0], 13, #[.int .i64 x1, .int .i64 y1, .int .i64 z1, .int .i64 u1, .slice A1 n1 c1]⟩ (by simp)
    obtain ⟨kc, lkc⟩ := hlx ⟨11, 8, 34, #[.int .i64 0, .int .i64 0, .int .i64 0, .int .i64 0, .slice none 0 0], 14, #[.int .i64 x2, .int .i64 y2, .int .i64 z2, .int .i64 u2, .slice A2 n2 c2]⟩ (by simp)
    have nkakb := hnx ⟨9, 6, 34, #[.int .i64 0, .int .i64 0, .int .i64 0, .int .i64 0, .slice none 0 0], 12, #[.int .i64 x0, .int .i64 y0, .int .i64 z0, .int .i64 u0, .slice A0 n0 c0]⟩ (by simp) ⟨10, 7, 34, #[.int .i64 0, .int .i64 0, .int .i64 0, .int .i64 0, .slice none 0 0], 13, #[.int .i64 x1, .int .i64 y1, .int .i64 z1, .int .i64 u1, .slice A1 n1 c1]⟩ (by simp) (by simp)
    have nkakc := hnx ⟨9, 6, 34, #[.int .i64 0, .int .i64 0, .int .i64 0, .int .i64 0, .slice none 0 0], 12, #[.int .i64 x0, .int .i64 y0, .int .i64 z0, .int .i64 u0, .slice A0 n0 c0]⟩ (by simp) ⟨11, 8, 34, #[.int .i64 0, .int .i64 0, .int .i64 0, .int .i64 0, .slice none 0 0], 14, #[.int .i64 x2, .int .i64 y2, .int .i64 z2, .int .i64 u2, .slice A2 n2 c2]⟩ (by simp) (by simp)
    have nkbkc := hnx ⟨10, 7, 34, #[.int .i64 0, .int .i64 0, .int .i64 0, .int .i64 0, .slice none 0 0], 13, #[.int .i64 x1, .int .i64 y1, .int .i64 z1, .int .i64 u1, .slice A1 n1 c1]⟩ (by simp) ⟨11, 8, 34, #[.int .i64 0, .int .i64 0, .int .i64 0, .int .i64 0, .slice none 0 0], 14, #[.int .i64 x2, .int .i64 y2, .int .i64 z2, .int .i64 u2, .slice A2 n2 c2]⟩ (by simp) (by simp)
    clear hnx hlx
    dsimp only [List.drop, lay, List.foldl, ptrTo] at *
    generalize ℓ 9 = pka at *
    generalize ℓ 10 = pkb at *
    generalize ℓ 11 = pkc at *
    replace ka : Hid (Blk xw pka 34 #[.int .i64 x0, .int .i64 y0, .int .i64 z0, .int .i64 u0, .slice A0 n0 c0]) := Lib.hid ka
    replace kb : Hid (Blk xw pkb 34 #[.int .i64 x1, .int .i64 y1, .int .i64 z1, .int .i64 u1, .slice A1 n1 c1]) := Lib.hid kb
    replace kc : Hid (Blk xw pkc 34 #[.int .i64 0, .int .i64 0, .int .i64 0, .int .i64 0, .slice none 0 0]) := Lib.hid kc
    simp only [Act.put, List.setIfInBounds_toArray, List.set_cons_zero, List.set_cons_succ]
    refine wpList_store_row rfl 34 _ _ rfl pkc #[.int .i64 x2, .int .i64 y2, .int .i64 z2, .int .i64 u2, .slice A2 n2 c2] rfl rfl 34 _ kc.out (by kernel_rfl) rfl (by kernel_rfl) ?_
    have ka' := Lib.hid (Blk.farRow ka.out nkakc #[.int .i64 x2, .int .i64 y2, .int .i64 z2, .int .i64 u2, .slice A2 n2 c2])
    have kb' := Lib.hid (Blk.farRow kb.out nkbkc #[.int .i64 x2, .int .i64 y2, .int .i64 z2, .int .i64 u2, .slice A2 n2 c2])
    have kc' := Lib.hid (Blk.setRow kc.out #[.int .i64 x2, .int .i64 y2, .int .i64 z2, .int .i64 u2, .slice A2 n2 c2])
    replace kt := Lib.hid (Blk.farRow (kt.out.below hbx kt.out.lt) (Nat.ne_of_lt (Nat.lt_of_lt_of_le kt.out.lt lkc)) #[.int .i64 x2, .int .i64 y2, .int .i64 z2, .int .i64 u2, .slice A2 n2 c2])
    replace hB := Lib.hid (below_setRow (below_on hB.out hbx) (Nat.le_trans hB.out.size lkc) #[.int .i64 x2, .int .i64 y2, .int .i64 z2, .int .i64 u2, .slice A2 n2 c2])
    clear ka kb kc
    have ka := ka'
    have kb := kb'
    have kc := kc'
    clear hbx ka' lka kb' lkb kc' lkc nkakb nkakc nkbkc
    refine wpList_nil ?_
    dsimp only [Act.put]
    generalize (xw.setRow pkc #[.int .i64 x2, .int .i64 y2, .int .i64 z2, .int .i64 u2, .slice A2 n2 c2]) = W2 at *
    have ckt := kt.out.cell
    have lkt := kt.out.lt
    have cka := ka.out.cell
    have lka := ka.out.lt
    have ckb := kb.out.cell
    have lkb := kb.out.lt
    have ckc := kc.out.cell
    have lkc := kc.out.lt
    go_wp2_with (fail)
    refine wp_region_ext (W2.heap.size) (by kernel_rfl) (by kernel_rfl) ?_
    repeat (go_big_quiet_step (first | fail))
    refine wpQuiet_nil ?_
    intro W3 hwx
    obtain ⟨⟨W3, hb⟩, rfl⟩ := hwx
    clear ckt lkt cka lka ckb lkb ckc lkc
    replace kt := Lib.hid (kt.out.call hb)
    replace ka := Lib.hid (ka.out.call hb)
    replace kb := Lib.hid (kb.out.call hb)
    replace kc := Lib.hid (kc.out.call hb)
    replace hB := Lib.hid (below_on hB.out hb)
    clear hb
    have ckt := kt.out.cell
    have lkt := kt.out.lt
    have cka := ka.out.cell
    have lka := ka.out.lt
    have ckb := kb.out.cell
    have lkb := kb.out.lt
    have ckc := kc.out.cell
    have lkc := kc.out.lt
    go_wp2_with (fail)
    all_goals go_returns
    all_goals exact ⟨ret_tup4 (by omega) (by omega) (by omega) (by omega), hB.out⟩
end Go.Proofs.Ytimgjlogbkgiaaa
