/- Weights of the reference of chapter 34. -/
import Derived.Test.YthbagegkcpblgaaRFrom
import Derived.Test.YthbagegkcpblgaaWeights
namespace Go.Proofs.Ythbagegkcpblgaa
open Go.RowKit
attribute [local go_sem] Ext.cell
set_option maxHeartbeats 4000000 in
theorem rWeights_no (x0 y0 z0 u0 x1 y1 z1 u1 x2 y2 z2 u2 : Int) (A0 A1 A2 : Option Addr) (n0 c0 n1 c1 n2 c2 : Nat) (pr : Int) (fr : Bool) (px py : Int) (w : World) (h : validB x0 y0 x1 y1 x2 y2 = false) :
    Calls Try.prog 56 #[.agg #[.int .i64 x0, .int .i64 y0, .int .i64 z0, .int .i64 u0, .slice A0 n0 c0, .int .i64 x1, .int .i64 y1, .int .i64 z1, .int .i64 u1, .slice A1 n1 c1, .int .i64 x2, .int .i64 y2, .int .i64 z2, .int .i64 u2, .slice A2 n2 c2, .int .i64 pr, .bool fr], .int .i64 px, .int .i64 py] w fun e w' => e = .returned (.tuple #[.agg #[.int .i64 0, .int .i64 0, .int .i64 0], .int .i64 0]) ∧ Below w.heap.size w w' := by
  replace h := Lib.hid h
  go_enter Try.func56, Try.ntmps56
  have kt := Lib.hid ((Blk.new w 27 #[.int .i64 x0, .int .i64 y0, .int .i64 z0, .int .i64 u0, .slice A0 n0 c0, .int .i64 x1, .int .i64 y1, .int .i64 z1, .int .i64 u1, .slice A1 n1 c1, .int .i64 x2, .int .i64 y2, .int .i64 z2, .int .i64 u2, .slice A2 n2 c2, .int .i64 pr, .bool fr]).alloc (.cells #[.int .i64 0, .int .i64 0, .int .i64 0] 36))
  have kr := Lib.hid (Blk.new1 w 36 #[.int .i64 0, .int .i64 0, .int .i64 0] (.cells #[.int .i64 x0, .int .i64 y0, .int .i64 z0, .int .i64 u0, .slice A0 n0 c0, .int .i64 x1, .int .i64 y1, .int .i64 z1, .int .i64 u1, .slice A1 n1 c1, .int .i64 x2, .int .i64 y2, .int .i64 z2, .int .i64 u2, .slice A2 n2 c2, .int .i64 pr, .bool fr] 27))
  have hB : Hid (Below w.heap.size w ((w.alloc (.cells #[.int .i64 x0, .int .i64 y0, .int .i64 z0, .int .i64 u0, .slice A0 n0 c0, .int .i64 x1, .int .i64 y1, .int .i64 z1, .int .i64 u1, .slice A1 n1 c1, .int .i64 x2, .int .i64 y2, .int .i64 z2, .int .i64 u2, .slice A2 n2 c2, .int .i64 pr, .bool fr] 27)).alloc (.cells #[.int .i64 0, .int .i64 0, .int .i64 0] 36))) := Lib.hid (by go_grown)
  have ckt := kt.out.cell
  have lkt := kt.out.lt
  have ckr := kr.out.cell
  have lkr := kr.out.lt
  go_wp2_with (first | refine wpList_load_row rfl 27 _ rfl _ rfl _ _ _ _ kt.out Try.underlying27 rfl triInfo ?_ | refine wpList_load_rowG rfl 27 _ rfl _ rfl _ _ _ _ kt.out Try.underlying27 rfl triInfo ?_)
  clear ckt lkt ckr lkr
  refine (rValid_at _ _ _ _ _ _ _ _ _ _ _ _ _ _ _ _ _ _ _ _ _ _ _ _ _ h.out).mono ?_
  rintro e W1 ⟨rfl, hb⟩
  replace kt := Lib.hid (kt.out.call hb)
  replace kr := Lib.hid (kr.out.call hb)
  replace hB := Lib.hid (below_on hB.out hb)
  clear hb
  have hcr := kr.out.cell
  have hfr := kr.out.frozen
  go_wp2_with fail
  refine bodyPost_ret (results_row_tmp rfl _ _ (w.heap.size + 1) _ #[.int .i64 0, .int .i64 0, .int .i64 0] _ _ rfl (((kr.out.set_ 0 (.int .i64 0)).set_ 1 (.int .i64 0)).set_ 2 (.int .i64 0)) Try.underlying36 rfl i3Info) rfl ?_
  exact ⟨rfl, ((hB.out.setCell (p := ⟨w.heap.size + 1, 0, none⟩) (by simp) _).setCell (p := ⟨w.heap.size + 1, 1, none⟩) (by simp) _).setCell (p := ⟨w.heap.size + 1, 2, none⟩) (by simp) _⟩
set_option maxHeartbeats 8000000 in
theorem rWeights_yes (x0 y0 z0 u0 x1 y1 z1 u1 x2 y2 z2 u2 : Int) (A0 A1 A2 : Option Addr) (n0 c0 n1 c1 n2 c2 : Nat) (pr : Int) (fr : Bool) (px py : Int) (w : World) (h : validB x0 y0 x1 y1 x2 y2 = true) (e0 e1 e2 : Int) (h0 : efI x1 y1 x2 y2 px py = e0) (h1 : efI x2 y2 x0 y0 px py = e1) (h2 : efI x0 y0 x1 y1 px py = e2) :
    Calls Try.prog 56 #[.agg #[.int .i64 x0, .int .i64 y0, .int .i64 z0, .int .i64 u0, .slice A0 n0 c0, .int .i64 x1, .int .i64 y1, .int .i64 z1, .int .i64 u1, .slice A1 n1 c1, .int .i64 x2, .int .i64 y2, .int .i64 z2, .int .i64 u2, .slice A2 n2 c2, .int .i64 pr, .bool fr], .int .i64 px, .int .i64 py] w fun e w' => e = .returned (.tuple #[.agg #[.int .i64 e0, .int .i64 e1, .int .i64 e2], .int .i64 (e0 + e1 + e2)]) ∧ Below w.heap.size w w' := by
  obtain ⟨q1, q2⟩ := efI_bound x1 y1 x2 y2 px py
  rw [h0] at q1 q2
  obtain ⟨q3, q4⟩ := efI_bound x2 y2 x0 y0 px py
  rw [h1] at q3 q4
  obtain ⟨q5, q6⟩ := efI_bound x0 y0 x1 y1 px py
  rw [h2] at q5 q6
  replace h := Lib.hid h
  replace h0 := Lib.hid h0
  replace h1 := Lib.hid h1
  replace h2 := Lib.hid h2
  go_enter Try.func56, Try.ntmps56
  have kt := Lib.hid ((Blk.new w 27 #[.int .i64 x0, .int .i64 y0, .int .i64 z0, .int .i64 u0, .slice A0 n0 c0, .int .i64 x1, .int .i64 y1, .int .i64 z1, .int .i64 u1, .slice A1 n1 c1, .int .i64 x2, .int .i64 y2, .int .i64 z2, .int .i64 u2, .slice A2 n2 c2, .int .i64 pr, .bool fr]).alloc (.cells #[.int .i64 0, .int .i64 0, .int .i64 0] 36))
  have kr := Lib.hid (Blk.new1 w 36 #[.int .i64 0, .int .i64 0, .int .i64 0] (.cells #[.int .i64 x0, .int .i64 y0, .int .i64 z0, .int .i64 u0, .slice A0 n0 c0, .int .i64 x1, .int .i64 y1, .int .i64 z1, .int .i64 u1, .slice A1 n1 c1, .int .i64 x2, .int .i64 y2, .int .i64 z2, .int .i64 u2, .slice A2 n2 c2, .int .i64 pr, .bool fr] 27))
  have hB : Hid (Below w.heap.size w ((w.alloc (.cells #[.int .i64 x0, .int .i64 y0, .int .i64 z0, .int .i64 u0, .slice A0 n0 c0, .int .i64 x1, .int .i64 y1, .int .i64 z1, .int .i64 u1, .slice A1 n1 c1, .int .i64 x2, .int .i64 y2, .int .i64 z2, .int .i64 u2, .slice A2 n2 c2, .int .i64 pr, .bool fr] 27)).alloc (.cells #[.int .i64 0, .int .i64 0, .int .i64 0] 36))) := Lib.hid (by go_grown)
  have ckt := kt.out.cell
  have lkt := kt.out.lt
  have ckr := kr.out.cell
  have lkr := kr.out.lt
  go_wp2_with (first | refine wpList_load_row rfl 27 _ rfl _ rfl _ _ _ _ kt.out Try.underlying27 rfl triInfo ?_ | refine wpList_load_rowG rfl 27 _ rfl _ rfl _ _ _ _ kt.out Try.underlying27 rfl triInfo ?_)
  clear ckt lkt ckr lkr
  refine (rValid_at _ _ _ _ _ _ _ _ _ _ _ _ _ _ _ _ _ _ _ _ _ _ _ _ _ h.out).mono ?_
  rintro e W1 ⟨rfl, hb⟩
  replace kt := Lib.hid (kt.out.call hb)
  replace kr := Lib.hid (kr.out.call hb)
  replace hB := Lib.hid (below_on hB.out hb)
  clear hb
  have ckt := kt.out.cell
  have lkt := kt.out.lt
  have ckr := kr.out.cell
  have lkr := kr.out.lt
  go_wp2_with (first | refine wpList_load_row rfl 27 _ rfl _ rfl _ _ _ _ kt.out Try.underlying27 rfl triInfo ?_ | refine wpList_load_rowG rfl 27 _ rfl _ rfl _ _ _ _ kt.out Try.underlying27 rfl triInfo ?_)
  clear ckt lkt ckr lkr
  refine' wp_region_fresh 14 [⟨13, 8, 36, #[.int .i64 0, .int .i64 0, .int .i64 0], 14, #[.int .i64 e0, .int .i64 e1, .int .i64 e2]⟩] (by kernel_rfl) (by kernel_rfl) (by simp) (by simp) (by simp) (by simp) ?hz ?h1 ?hs ?h2
  case hz =>
    intro z hz
    simp only [List.mem_cons, List.not_mem_nil, or_false] at hz
    rcases hz with rfl
    all_goals exact ⟨by simp, by simp, _, rfl, rfl, rfl, fun ev xw => by simp [go_sem, ptrTo, Let.at_]⟩
  case h1 =>
    intro u hu
    have ktu := kt.out.below hu kt.out.lt
    have ckt := ktu.cell
    have lkt := ktu.lt
    have kru := kr.out.below hu kr.out.lt
    have ckr := kru.cell
    have lkr := kru.lt
    simp only [List.take_succ_cons, List.take_zero, List.filter, isMk, isAl, isSt, Bool.or_false, Bool.not_true, Bool.not_false]
    repeat (first | (go_big_quiet_want; refine quiet_load_row 27 _ rfl _ rfl _ _ _ ktu (by assumption) Try.underlying27 rfl triInfo ?_; simp only [Act.put, List.setIfInBounds_toArray, List.set_cons_zero, List.set_cons_succ]; go_big_quiet_on) | go_big_quiet_step (first | (go_at_call_of 63 (Value.int IntKind.i64 1); exact ext_call (Nat.le_refl _) (from_1 _ _ _ _ _ _ _ _ _ _ _ _ _ _ _ _ _ _ _ _ _ _ _ _ _ _ _ h0.out)) | (go_at_call_of 63 (Value.int IntKind.i64 2); exact ext_call (Nat.le_refl _) (from_2 _ _ _ _ _ _ _ _ _ _ _ _ _ _ _ _ _ _ _ _ _ _ _ _ _ _ _ h1.out)) | (go_at_call_of 63 (Value.int IntKind.i64 0); exact ext_call (Nat.le_refl _) (from_0 _ _ _ _ _ _ _ _ _ _ _ _ _ _ _ _ _ _ _ _ _ _ _ _ _ _ _ h2.out))))
    exact wpQuiet_nil rfl
  case hs =>
    intro z hz
    simp only [List.mem_cons, List.not_mem_nil, or_false] at hz
    rcases hz with rfl
    · exact fun h => absurd h (by simp)
  case h2 =>
    intro ℓ xw hlet
    obtain ⟨hbx, hlx, hnx⟩ := hlet
    obtain ⟨ks, lks⟩ := hlx ⟨13, 8, 36, #[.int .i64 0, .int .i64 0, .int .i64 0], 14, #[.int .i64 e0, .int .i64 e1, .int .i64 e2]⟩ (by simp)
    clear hnx hlx
    dsimp only [List.drop, lay, List.foldl, ptrTo] at *
    generalize ℓ 13 = pks at *
    replace ks : Hid (Blk xw pks 36 #[.int .i64 0, .int .i64 0, .int .i64 0]) := Lib.hid ks
    simp only [Act.put, List.setIfInBounds_toArray, List.set_cons_zero, List.set_cons_succ]
    refine wpList_store_row rfl 36 _ _ rfl pks #[.int .i64 e0, .int .i64 e1, .int .i64 e2] rfl rfl 36 _ ks.out (by kernel_rfl) rfl (by kernel_rfl) ?_
    have ks' := Lib.hid (Blk.setRow ks.out #[.int .i64 e0, .int .i64 e1, .int .i64 e2])
    have ne_kr_ks := Nat.ne_of_lt (Nat.lt_of_lt_of_le kr.out.lt lks)
    have ne_ks_kr := Ne.symm ne_kr_ks
    replace kt := Lib.hid (Blk.farRow (kt.out.below hbx kt.out.lt) (Nat.ne_of_lt (Nat.lt_of_lt_of_le kt.out.lt lks)) #[.int .i64 e0, .int .i64 e1, .int .i64 e2])
    replace kr := Lib.hid (Blk.farRow (kr.out.below hbx kr.out.lt) (Nat.ne_of_lt (Nat.lt_of_lt_of_le kr.out.lt lks)) #[.int .i64 e0, .int .i64 e1, .int .i64 e2])
    replace hB := Lib.hid (below_setRow (below_on hB.out hbx) (Nat.le_trans hB.out.size lks) #[.int .i64 e0, .int .i64 e1, .int .i64 e2])
    clear ks
    have ks := ks'
    clear hbx ks' lks 
    refine wpList_nil ?_
    dsimp only [Act.put]
    generalize (xw.setRow pks #[.int .i64 e0, .int .i64 e1, .int .i64 e2]) = W2 at *
    clear kt
    have hcs := ks.out.cell
    have hcr := kr.out.cell
    have hfr := kr.out.frozen
    have hB0 := hB.out
    go_wp2_with fail
    go_region
    all_goals
      go_wp2
      refine bodyPost_ret (results_row_tmp rfl _ _ (w.heap.size + 1) _ #[.int .i64 e0, .int .i64 e1, .int .i64 e2] _ _ rfl (((kr.out.set_ 0 (.int .i64 e0)).set_ 1 (.int .i64 e1)).set_ 2 (.int .i64 e2)).drew Try.underlying36 rfl i3Info) rfl ?_
      exact ⟨rfl, (((hB0.setCell (p := ⟨w.heap.size + 1, 0, none⟩) (by simp) _).setCell (p := ⟨w.heap.size + 1, 1, none⟩) (by simp) _).setCell (p := ⟨w.heap.size + 1, 2, none⟩) (by simp) _).drew⟩
theorem rWeights_any (x0 y0 z0 u0 x1 y1 z1 u1 x2 y2 z2 u2 : Int) (A0 A1 A2 : Option Addr) (n0 c0 n1 c1 n2 c2 : Nat) (pr : Int) (fr : Bool) (px py : Int) (w : World) :
    Calls Try.prog 56 #[.agg #[.int .i64 x0, .int .i64 y0, .int .i64 z0, .int .i64 u0, .slice A0 n0 c0, .int .i64 x1, .int .i64 y1, .int .i64 z1, .int .i64 u1, .slice A1 n1 c1, .int .i64 x2, .int .i64 y2, .int .i64 z2, .int .i64 u2, .slice A2 n2 c2, .int .i64 pr, .bool fr], .int .i64 px, .int .i64 py] w fun e w' => e = .returned (wtV x0 y0 x1 y1 x2 y2 px py) ∧ Below w.heap.size w w' := by
  cases h : validB x0 y0 x1 y1 x2 y2
  · have e : wtV x0 y0 x1 y1 x2 y2 px py = .tuple #[.agg #[.int .i64 0, .int .i64 0, .int .i64 0], .int .i64 0] := by unfold wtV wtI; rw [h]; rfl
    rw [e]
    exact rWeights_no _ _ _ _ _ _ _ _ _ _ _ _ _ _ _ _ _ _ _ _ _ _ _ _ _ _ h
  · have e : wtV x0 y0 x1 y1 x2 y2 px py = .tuple #[.agg #[.int .i64 (efI x1 y1 x2 y2 px py), .int .i64 (efI x2 y2 x0 y0 px py), .int .i64 (efI x0 y0 x1 y1 px py)], .int .i64 (efI x1 y1 x2 y2 px py + efI x2 y2 x0 y0 px py + efI x0 y0 x1 y1 px py)] := by unfold wtV wtI; rw [h]; rfl
    rw [e]
    exact rWeights_yes _ _ _ _ _ _ _ _ _ _ _ _ _ _ _ _ _ _ _ _ _ _ _ _ _ _ h _ _ _ rfl rfl rfl
end Go.Proofs.Ythbagegkcpblgaa
