/- VaryingRange returns true. -/
import Derived.Test.YthbagegkcpblgaaVWLaw
namespace Go.Proofs.Ythbagegkcpblgaa
open Go.RowKit
attribute [local go_sem] Ext.cell
theorem i22Info : (Try.prog.info? 41).map (·.size) = some 4 := by kernel_rfl
@[go_sem] theorem eq22_zero (w : World) : (Op.equalIn 10000 41 (.agg #[.int .i64 0, .int .i64 0, .int .i64 0, .int .i64 0]) (.agg #[.int .i64 0, .int .i64 0, .int .i64 0, .int .i64 0])).run Try.prog w = .ok true w := by
  kernel_rfl
theorem rat_bd {a b c r0 r1 : Int} (ha : 0 ≤ a) (hb : 0 ≤ b) (hc : 0 ≤ c) (hs : a + b + c ≤ 4611686018427387904) (q0 : ratio a (a + b + c) = r0) (q1 : ratio b (a + b + c) = r1) : 0 ≤ r0 ∧ r0 ≤ 65536 ∧ 0 ≤ r1 ∧ r1 ≤ 65536 ∧ r0 + r1 ≤ 65537 := by
  subst q0 q1
  exact ⟨ratio_lo _ _, ratio_hi _ _, ratio_lo _ _, ratio_hi _ _, ratio_sum ha hb (by omega) hs⟩
theorem dep_bd (x0 y0 x1 y1 x2 y2 z0 z1 z2 r0 r1 : Int) : 0 ≤ depI x0 y0 x1 y1 x2 y2 z0 z1 z2 r0 r1 ∧ depI x0 y0 x1 y1 x2 y2 z0 z1 z2 r0 r1 ≤ 65536 := by
  unfold depI clampI
  split <;> omega
set_option maxRecDepth 100000 in
set_option maxHeartbeats 16000000 in
theorem range_yes (x0 y0 z0 u0 x1 y1 z1 u1 x2 y2 z2 u2 : Int) (A0 A1 A2 : Option Addr) (n0 c0 n1 c1 n2 c2 : Nat) (pr : Int) (fr : Bool) (px py : Int) (w : World) (hv : validB x0 y0 x1 y1 x2 y2 = true) (r0 r1 s0 s1 d : Int) (b1 : 0 ≤ r0 ∧ r0 ≤ 65536 ∧ 0 ≤ r1 ∧ r1 ≤ 65536 ∧ r0 + r1 ≤ 65537) (b2 : 0 ≤ s0 ∧ s0 ≤ 65536 ∧ 0 ≤ s1 ∧ s1 ≤ 65536 ∧ s0 + s1 ≤ 65537) (b3 : 0 ≤ d ∧ d ≤ 65536)
    (hL : ∀ w, Calls Try.prog 17 #[.agg #[.int .i64 x0, .int .i64 y0, .int .i64 z0, .int .i64 u0, .slice A0 n0 c0, .int .i64 x1, .int .i64 y1, .int .i64 z1, .int .i64 u1, .slice A1 n1 c1, .int .i64 x2, .int .i64 y2, .int .i64 z2, .int .i64 u2, .slice A2 n2 c2, .int .i64 pr, .bool fr], .int .i64 px, .int .i64 py] w fun e w' => e = .returned (.agg #[.int .i64 r0, .int .i64 r1]) ∧ Below w.heap.size w w') (hP : ∀ w, Calls Try.prog 19 #[.agg #[.int .i64 x0, .int .i64 y0, .int .i64 z0, .int .i64 u0, .slice A0 n0 c0, .int .i64 x1, .int .i64 y1, .int .i64 z1, .int .i64 u1, .slice A1 n1 c1, .int .i64 x2, .int .i64 y2, .int .i64 z2, .int .i64 u2, .slice A2 n2 c2, .int .i64 pr, .bool fr], .int .i64 px, .int .i64 py] w fun e w' => e = .returned (.agg #[.int .i64 s0, .int .i64 s1]) ∧ Below w.heap.size w w')
    (hD : ∀ w, Calls Try.prog 21 #[.agg #[.int .i64 x0, .int .i64 y0, .int .i64 z0, .int .i64 u0, .slice A0 n0 c0, .int .i64 x1, .int .i64 y1, .int .i64 z1, .int .i64 u1, .slice A1 n1 c1, .int .i64 x2, .int .i64 y2, .int .i64 z2, .int .i64 u2, .slice A2 n2 c2, .int .i64 pr, .bool fr], .int .i64 px, .int .i64 py] w fun e w' => e = .returned (.int .i64 d) ∧ Below w.heap.size w w') :
    Calls Try.prog 6 #[.agg #[.int .i64 x0, .int .i64 y0, .int .i64 z0, .int .i64 u0, .slice A0 n0 c0, .int .i64 x1, .int .i64 y1, .int .i64 z1, .int .i64 u1, .slice A1 n1 c1, .int .i64 x2, .int .i64 y2, .int .i64 z2, .int .i64 u2, .slice A2 n2 c2, .int .i64 pr, .bool fr], .agg #[.int .i64 px, .int .i64 py]] w fun e w' => e = .returned (.bool true) ∧ Below w.heap.size w w' := by
  replace hL := Lib.hid hL
  replace hP := Lib.hid hP
  replace hD := Lib.hid hD
  replace hv := Lib.hid (fun w => valid_at x0 y0 z0 u0 x1 y1 z1 u1 x2 y2 z2 u2 A0 A1 A2 n0 c0 n1 c1 n2 c2 pr fr w true hv)
  obtain ⟨a1, a2, a3, a4, a5⟩ := b1
  obtain ⟨a6, a7, a8, a9, a10⟩ := b2
  obtain ⟨d1, d2⟩ := b3
  have g00 : decide (r0 < 0) = false := decide_eq_false (by omega)
  have j00 : decide (65536 < r0) = false := decide_eq_false (by omega)
  have g01 : decide (r1 < 0) = false := decide_eq_false (by omega)
  have j01 : decide (65536 < r1) = false := decide_eq_false (by omega)
  have w0 : IntKind.i64.wrap (r0 + r1) = r0 + r1 := by rw [IntKind.wrap_i64]; omega
  have u0' : decide (65537 < r0 + r1) = false := decide_eq_false (by omega)
  have g10 : decide (s0 < 0) = false := decide_eq_false (by omega)
  have j10 : decide (65536 < s0) = false := decide_eq_false (by omega)
  have g11 : decide (s1 < 0) = false := decide_eq_false (by omega)
  have j11 : decide (65536 < s1) = false := decide_eq_false (by omega)
  have w1 : IntKind.i64.wrap (s0 + s1) = s0 + s1 := by rw [IntKind.wrap_i64]; omega
  have u1' : decide (65537 < s0 + s1) = false := decide_eq_false (by omega)
  go_enter Try.func6, Try.ntmps6
  have kt := Lib.hid ((Blk.new w 27 #[.int .i64 x0, .int .i64 y0, .int .i64 z0, .int .i64 u0, .slice A0 n0 c0, .int .i64 x1, .int .i64 y1, .int .i64 z1, .int .i64 u1, .slice A1 n1 c1, .int .i64 x2, .int .i64 y2, .int .i64 z2, .int .i64 u2, .slice A2 n2 c2, .int .i64 pr, .bool fr]).alloc (.cells #[.int .i64 px, .int .i64 py] 28))
  have kp := Lib.hid (Blk.new1 w 28 #[.int .i64 px, .int .i64 py] (.cells #[.int .i64 x0, .int .i64 y0, .int .i64 z0, .int .i64 u0, .slice A0 n0 c0, .int .i64 x1, .int .i64 y1, .int .i64 z1, .int .i64 u1, .slice A1 n1 c1, .int .i64 x2, .int .i64 y2, .int .i64 z2, .int .i64 u2, .slice A2 n2 c2, .int .i64 pr, .bool fr] 27))
  have hB : Hid (Below w.heap.size w ((w.alloc (.cells #[.int .i64 x0, .int .i64 y0, .int .i64 z0, .int .i64 u0, .slice A0 n0 c0, .int .i64 x1, .int .i64 y1, .int .i64 z1, .int .i64 u1, .slice A1 n1 c1, .int .i64 x2, .int .i64 y2, .int .i64 z2, .int .i64 u2, .slice A2 n2 c2, .int .i64 pr, .bool fr] 27)).alloc (.cells #[.int .i64 px, .int .i64 py] 28))) := Lib.hid (by go_grown)
  have ckt := kt.out.cell
  have lkt := kt.out.lt
  have ckp := kp.out.cell
  have lkp := kp.out.lt
  go_wp2_with (first | refine wpList_load_row rfl 27 _ rfl _ rfl _ _ _ _ kt.out Try.underlying27 rfl triInfo ?_ | refine wpList_load_rowG rfl 27 _ rfl _ rfl _ _ _ _ kt.out Try.underlying27 rfl triInfo ?_)
  generalize ((w.alloc (.cells #[.int .i64 x0, .int .i64 y0, .int .i64 z0, .int .i64 u0, .slice A0 n0 c0, .int .i64 x1, .int .i64 y1, .int .i64 z1, .int .i64 u1, .slice A1 n1 c1, .int .i64 x2, .int .i64 y2, .int .i64 z2, .int .i64 u2, .slice A2 n2 c2, .int .i64 pr, .bool fr] 27)).alloc (.cells #[.int .i64 px, .int .i64 py] 28)) = W1 at *
  clear ckt lkt ckp lkp
  refine' wp_region_fresh 14 [⟨13, 5, 41, #[.int .i64 0, .int .i64 0, .int .i64 0, .int .i64 0], 14, #[.int .i64 r0, .int .i64 r1, .int .i64 s0, .int .i64 s1]⟩] (by kernel_rfl) (by kernel_rfl) (by simp) (by simp) (by simp) (by simp) ?hz ?h1 ?hs ?h2
  case hz =>
    intro z hz
    simp only [List.mem_cons, List.not_mem_nil, or_false] at hz
    rcases hz with rfl
    all_goals exact ⟨by simp, by simp, _, rfl, rfl, rfl, fun ev xw => by simp [go_sem, ptrTo, Let.at_]⟩
  case h1 =>
    intro u hu
    have ktu := kt.out.below hu kt.out.lt
    have ckt := ktu.cell
    have lkt := ktu.lt
    have kpu := kp.out.below hu kp.out.lt
    have ckp := kpu.cell
    have lkp := kpu.lt
    simp only [List.take_succ_cons, List.take_zero, List.filter, isMk, isAl, isSt, Bool.or_false, Bool.not_true, Bool.not_false]
    repeat (first | (go_big_quiet_want; refine quiet_load_row 27 _ rfl _ rfl _ _ _ ktu (by assumption) Try.underlying27 rfl triInfo ?_; simp only [Act.put, List.setIfInBounds_toArray, List.set_cons_zero, List.set_cons_succ]; go_big_quiet_on) | go_big_quiet_step (first | (go_at_call 17; exact ext_call (Nat.le_refl _) (hL.out _)) | (go_at_call 19; exact ext_call (Nat.le_refl _) (hP.out _))))
    exact wpQuiet_nil rfl
  case hs =>
    intro z hz
    simp only [List.mem_cons, List.not_mem_nil, or_false] at hz
    rcases hz with rfl
    · exact fun h => absurd h (by simp)
  case h2 =>
    intro ℓ xw hlet
    obtain ⟨hbx, hlx, hnx⟩ := hlet
    obtain ⟨ka, lka⟩ := hlx ⟨13, 5, 41, #[.int .i64 0, .int .i64 0, .int .i64 0, .int .i64 0], 14, #[.int .i64 r0, .int .i64 r1, .int .i64 s0, .int .i64 s1]⟩ (by simp)
    clear hnx hlx
    dsimp only [List.drop, lay, List.foldl, ptrTo] at *
    generalize ℓ 13 = pka at *
    replace ka : Hid (Blk xw pka 41 #[.int .i64 0, .int .i64 0, .int .i64 0, .int .i64 0]) := Lib.hid ka
    simp only [Act.put, List.setIfInBounds_toArray, List.set_cons_zero, List.set_cons_succ]
    refine wpList_store_row rfl 41 _ _ rfl pka #[.int .i64 r0, .int .i64 r1, .int .i64 s0, .int .i64 s1] rfl rfl 41 _ ka.out i22Info rfl (by kernel_rfl) ?_
    have ka' := Lib.hid (Blk.setRow ka.out #[.int .i64 r0, .int .i64 r1, .int .i64 s0, .int .i64 s1])
    replace kt := Lib.hid (Blk.farRow (kt.out.below hbx kt.out.lt) (Nat.ne_of_lt (Nat.lt_of_lt_of_le kt.out.lt lka)) #[.int .i64 r0, .int .i64 r1, .int .i64 s0, .int .i64 s1])
    replace kp := Lib.hid (Blk.farRow (kp.out.below hbx kp.out.lt) (Nat.ne_of_lt (Nat.lt_of_lt_of_le kp.out.lt lka)) #[.int .i64 r0, .int .i64 r1, .int .i64 s0, .int .i64 s1])
    replace hB := Lib.hid (below_setRow (below_on hB.out hbx) (Nat.le_trans hB.out.size lka) #[.int .i64 r0, .int .i64 r1, .int .i64 s0, .int .i64 s1])
    clear ka
    have ka := ka'
    clear hbx ka' lka 
    refine wpList_nil ?_
    dsimp only [Act.put]
    generalize (xw.setRow pka #[.int .i64 r0, .int .i64 r1, .int .i64 s0, .int .i64 s1]) = W2 at *
    have ckt := kt.out.cell
    have lkt := kt.out.lt
    have ckp := kp.out.cell
    have lkp := kp.out.lt
    have cka := ka.out.cell
    have lka := ka.out.lt
    go_wp2_with fail
    refine wp_loop_rounds 3 ?_
    rw [rounds_succ]
    go_wp2_with fail
    refine wp_region_ext (W2.heap.size) (by kernel_rfl) (by kernel_rfl) ?_
    repeat (first | (go_big_quiet_want; refine quiet_load_row 27 _ rfl _ rfl _ _ _ kt.out (by assumption) Try.underlying27 rfl triInfo ?_; simp only [Act.put, List.setIfInBounds_toArray, List.set_cons_zero, List.set_cons_succ]; go_big_quiet_on) | go_big_quiet_step (first | fail))
    refine wpQuiet_nil ?_
    intro W3 hwx
    obtain ⟨⟨W3, hb⟩, rfl⟩ := hwx
    clear ckt lkt ckp lkp cka lka
    replace kt := Lib.hid (kt.out.call hb)
    replace kp := Lib.hid (kp.out.call hb)
    replace ka := Lib.hid (ka.out.call hb)
    replace hB := Lib.hid (below_on hB.out hb)
    clear hb
    have ckt := kt.out.cell
    have lkt := kt.out.lt
    have ckp := kp.out.cell
    have lkp := kp.out.lt
    have cka := ka.out.cell
    have lka := ka.out.lt
    go_wp2_with fail
    rw [rounds_succ]
    go_wp2_with fail
    refine wp_region_ext (W3.heap.size) (by kernel_rfl) (by kernel_rfl) ?_
    repeat (first | (go_big_quiet_want; refine quiet_load_row 27 _ rfl _ rfl _ _ _ kt.out (by assumption) Try.underlying27 rfl triInfo ?_; simp only [Act.put, List.setIfInBounds_toArray, List.set_cons_zero, List.set_cons_succ]; go_big_quiet_on) | go_big_quiet_step (first | fail))
    refine wpQuiet_nil ?_
    intro W4 hwx
    obtain ⟨⟨W4, hb⟩, rfl⟩ := hwx
    clear ckt lkt ckp lkp cka lka
    replace kt := Lib.hid (kt.out.call hb)
    replace kp := Lib.hid (kp.out.call hb)
    replace ka := Lib.hid (ka.out.call hb)
    replace hB := Lib.hid (below_on hB.out hb)
    clear hb
    have ckt := kt.out.cell
    have lkt := kt.out.lt
    have ckp := kp.out.cell
    have lkp := kp.out.lt
    have cka := ka.out.cell
    have lka := ka.out.lt
    go_wp2_with fail
    rw [rounds_succ]
    go_wp2_with (first | refine wpList_load_row rfl 27 _ rfl _ rfl _ _ _ _ kt.out Try.underlying27 rfl triInfo ?_ | refine wpList_load_rowG rfl 27 _ rfl _ rfl _ _ _ _ kt.out Try.underlying27 rfl triInfo ?_ | refine wpList_load_row rfl 41 _ rfl _ rfl _ _ _ _ ka.out Try.underlying41 rfl i22Info ?_ | refine wpList_load_rowG rfl 41 _ rfl _ rfl _ _ _ _ ka.out Try.underlying41 rfl i22Info ?_)
    clear ckt lkt ckp lkp cka lka
    refine (hD.out _).mono ?_
    rintro e W5 ⟨rfl, hb⟩
    replace kt := Lib.hid (kt.out.call hb)
    replace kp := Lib.hid (kp.out.call hb)
    replace ka := Lib.hid (ka.out.call hb)
    replace hB := Lib.hid (below_on hB.out hb)
    clear hb
    have ckt := kt.out.cell
    have lkt := kt.out.lt
    have ckp := kp.out.cell
    have lkp := kp.out.lt
    have cka := ka.out.cell
    have lka := ka.out.lt
    go_wp2_with (first | refine wpList_load_row rfl 27 _ rfl _ rfl _ _ _ _ kt.out Try.underlying27 rfl triInfo ?_ | refine wpList_load_rowG rfl 27 _ rfl _ rfl _ _ _ _ kt.out Try.underlying27 rfl triInfo ?_ | refine wpList_load_row rfl 41 _ rfl _ rfl _ _ _ _ ka.out Try.underlying41 rfl i22Info ?_ | refine wpList_load_rowG rfl 41 _ rfl _ rfl _ _ _ _ ka.out Try.underlying41 rfl i22Info ?_)
    clear ckt lkt ckp lkp cka lka
    refine (hv.out _).mono ?_
    rintro e W6 ⟨rfl, hb⟩
    replace kt := Lib.hid (kt.out.call hb)
    replace kp := Lib.hid (kp.out.call hb)
    replace ka := Lib.hid (ka.out.call hb)
    replace hB := Lib.hid (below_on hB.out hb)
    clear hb
    have ckt := kt.out.cell
    have lkt := kt.out.lt
    have ckp := kp.out.cell
    have lkp := kp.out.lt
    have cka := ka.out.cell
    have lka := ka.out.lt
    go_wp2_with (first | refine wpList_load_row rfl 27 _ rfl _ rfl _ _ _ _ kt.out Try.underlying27 rfl triInfo ?_ | refine wpList_load_rowG rfl 27 _ rfl _ rfl _ _ _ _ kt.out Try.underlying27 rfl triInfo ?_ | refine wpList_load_row rfl 41 _ rfl _ rfl _ _ _ _ ka.out Try.underlying41 rfl i22Info ?_ | refine wpList_load_rowG rfl 41 _ rfl _ rfl _ _ _ _ ka.out Try.underlying41 rfl i22Info ?_)
    clear ckt lkt ckp lkp cka lka
    refine (example_true _).mono ?_
    rintro e W7 ⟨rfl, hb⟩
    replace kt := Lib.hid (kt.out.call hb)
    replace kp := Lib.hid (kp.out.call hb)
    replace ka := Lib.hid (ka.out.call hb)
    replace hB := Lib.hid (below_on hB.out hb)
    clear hb
    go_wp2
    go_ret
    exact ⟨rfl, hB.out⟩
set_option maxRecDepth 100000 in
set_option maxHeartbeats 16000000 in
theorem range_no (x0 y0 z0 u0 x1 y1 z1 u1 x2 y2 z2 u2 : Int) (A0 A1 A2 : Option Addr) (n0 c0 n1 c1 n2 c2 : Nat) (pr : Int) (fr : Bool) (px py : Int) (w : World) (hv : validB x0 y0 x1 y1 x2 y2 = false)
    (hL : ∀ w, Calls Try.prog 17 #[.agg #[.int .i64 x0, .int .i64 y0, .int .i64 z0, .int .i64 u0, .slice A0 n0 c0, .int .i64 x1, .int .i64 y1, .int .i64 z1, .int .i64 u1, .slice A1 n1 c1, .int .i64 x2, .int .i64 y2, .int .i64 z2, .int .i64 u2, .slice A2 n2 c2, .int .i64 pr, .bool fr], .int .i64 px, .int .i64 py] w fun e w' => e = .returned (.agg #[.int .i64 0, .int .i64 0]) ∧ Below w.heap.size w w') (hP : ∀ w, Calls Try.prog 19 #[.agg #[.int .i64 x0, .int .i64 y0, .int .i64 z0, .int .i64 u0, .slice A0 n0 c0, .int .i64 x1, .int .i64 y1, .int .i64 z1, .int .i64 u1, .slice A1 n1 c1, .int .i64 x2, .int .i64 y2, .int .i64 z2, .int .i64 u2, .slice A2 n2 c2, .int .i64 pr, .bool fr], .int .i64 px, .int .i64 py] w fun e w' => e = .returned (.agg #[.int .i64 0, .int .i64 0]) ∧ Below w.heap.size w w')
    (hD : ∀ w, Calls Try.prog 21 #[.agg #[.int .i64 x0, .int .i64 y0, .int .i64 z0, .int .i64 u0, .slice A0 n0 c0, .int .i64 x1, .int .i64 y1, .int .i64 z1, .int .i64 u1, .slice A1 n1 c1, .int .i64 x2, .int .i64 y2, .int .i64 z2, .int .i64 u2, .slice A2 n2 c2, .int .i64 pr, .bool fr], .int .i64 px, .int .i64 py] w fun e w' => e = .returned (.int .i64 0) ∧ Below w.heap.size w w') :
    Calls Try.prog 6 #[.agg #[.int .i64 x0, .int .i64 y0, .int .i64 z0, .int .i64 u0, .slice A0 n0 c0, .int .i64 x1, .int .i64 y1, .int .i64 z1, .int .i64 u1, .slice A1 n1 c1, .int .i64 x2, .int .i64 y2, .int .i64 z2, .int .i64 u2, .slice A2 n2 c2, .int .i64 pr, .bool fr], .agg #[.int .i64 px, .int .i64 py]] w fun e w' => e = .returned (.bool true) ∧ Below w.heap.size w w' := by
  replace hL := Lib.hid hL
  replace hP := Lib.hid hP
  replace hD := Lib.hid hD
  have hN := Lib.hid (fun w => values_no x0 y0 z0 u0 x1 y1 z1 u1 x2 y2 z2 u2 A0 A1 A2 n0 c0 n1 c1 n2 c2 pr fr px py w hv)
  replace hv := Lib.hid (fun w => valid_at x0 y0 z0 u0 x1 y1 z1 u1 x2 y2 z2 u2 A0 A1 A2 n0 c0 n1 c1 n2 c2 pr fr w false hv)
  go_enter Try.func6, Try.ntmps6
  have kt := Lib.hid ((Blk.new w 27 #[.int .i64 x0, .int .i64 y0, .int .i64 z0, .int .i64 u0, .slice A0 n0 c0, .int .i64 x1, .int .i64 y1, .int .i64 z1, .int .i64 u1, .slice A1 n1 c1, .int .i64 x2, .int .i64 y2, .int .i64 z2, .int .i64 u2, .slice A2 n2 c2, .int .i64 pr, .bool fr]).alloc (.cells #[.int .i64 px, .int .i64 py] 28))
  have kp := Lib.hid (Blk.new1 w 28 #[.int .i64 px, .int .i64 py] (.cells #[.int .i64 x0, .int .i64 y0, .int .i64 z0, .int .i64 u0, .slice A0 n0 c0, .int .i64 x1, .int .i64 y1, .int .i64 z1, .int .i64 u1, .slice A1 n1 c1, .int .i64 x2, .int .i64 y2, .int .i64 z2, .int .i64 u2, .slice A2 n2 c2, .int .i64 pr, .bool fr] 27))
  have hB : Hid (Below w.heap.size w ((w.alloc (.cells #[.int .i64 x0, .int .i64 y0, .int .i64 z0, .int .i64 u0, .slice A0 n0 c0, .int .i64 x1, .int .i64 y1, .int .i64 z1, .int .i64 u1, .slice A1 n1 c1, .int .i64 x2, .int .i64 y2, .int .i64 z2, .int .i64 u2, .slice A2 n2 c2, .int .i64 pr, .bool fr] 27)).alloc (.cells #[.int .i64 px, .int .i64 py] 28))) := Lib.hid (by go_grown)
  have ckt := kt.out.cell
  have lkt := kt.out.lt
  have ckp := kp.out.cell
  have lkp := kp.out.lt
  go_wp2_with (first | refine wpList_load_row rfl 27 _ rfl _ rfl _ _ _ _ kt.out Try.underlying27 rfl triInfo ?_ | refine wpList_load_rowG rfl 27 _ rfl _ rfl _ _ _ _ kt.out Try.underlying27 rfl triInfo ?_)
  generalize ((w.alloc (.cells #[.int .i64 x0, .int .i64 y0, .int .i64 z0, .int .i64 u0, .slice A0 n0 c0, .int .i64 x1, .int .i64 y1, .int .i64 z1, .int .i64 u1, .slice A1 n1 c1, .int .i64 x2, .int .i64 y2, .int .i64 z2, .int .i64 u2, .slice A2 n2 c2, .int .i64 pr, .bool fr] 27)).alloc (.cells #[.int .i64 px, .int .i64 py] 28)) = W1 at *
  clear ckt lkt ckp lkp
  refine' wp_region_fresh 14 [⟨13, 5, 41, #[.int .i64 0, .int .i64 0, .int .i64 0, .int .i64 0], 14, #[.int .i64 0, .int .i64 0, .int .i64 0, .int .i64 0]⟩] (by kernel_rfl) (by kernel_rfl) (by simp) (by simp) (by simp) (by simp) ?hz ?h1 ?hs ?h2
  case hz =>
    intro z hz
    simp only [List.mem_cons, List.not_mem_nil, or_false] at hz
    rcases hz with rfl
    all_goals exact ⟨by simp, by simp, _, rfl, rfl, rfl, fun ev xw => by simp [go_sem, ptrTo, Let.at_]⟩
  case h1 =>
    intro u hu
    have ktu := kt.out.below hu kt.out.lt
    have ckt := ktu.cell
    have lkt := ktu.lt
    have kpu := kp.out.below hu kp.out.lt
    have ckp := kpu.cell
    have lkp := kpu.lt
    simp only [List.take_succ_cons, List.take_zero, List.filter, isMk, isAl, isSt, Bool.or_false, Bool.not_true, Bool.not_false]
    repeat (first | (go_big_quiet_want; refine quiet_load_row 27 _ rfl _ rfl _ _ _ ktu (by assumption) Try.underlying27 rfl triInfo ?_; simp only [Act.put, List.setIfInBounds_toArray, List.set_cons_zero, List.set_cons_succ]; go_big_quiet_on) | go_big_quiet_step (first | (go_at_call 17; exact ext_call (Nat.le_refl _) (hL.out _)) | (go_at_call 19; exact ext_call (Nat.le_refl _) (hP.out _))))
    exact wpQuiet_nil rfl
  case hs =>
    intro z hz
    simp only [List.mem_cons, List.not_mem_nil, or_false] at hz
    rcases hz with rfl
    · exact fun h => absurd h (by simp)
  case h2 =>
    intro ℓ xw hlet
    obtain ⟨hbx, hlx, hnx⟩ := hlet
    obtain ⟨ka, lka⟩ := hlx ⟨13, 5, 41, #[.int .i64 0, .int .i64 0, .int .i64 0, .int .i64 0], 14, #[.int .i64 0, .int .i64 0, .int .i64 0, .int .i64 0]⟩ (by simp)
    clear hnx hlx
    dsimp only [List.drop, lay, List.foldl, ptrTo] at *
    generalize ℓ 13 = pka at *
    replace ka : Hid (Blk xw pka 41 #[.int .i64 0, .int .i64 0, .int .i64 0, .int .i64 0]) := Lib.hid ka
    simp only [Act.put, List.setIfInBounds_toArray, List.set_cons_zero, List.set_cons_succ]
    refine wpList_store_row rfl 41 _ _ rfl pka #[.int .i64 0, .int .i64 0, .int .i64 0, .int .i64 0] rfl rfl 41 _ ka.out i22Info rfl (by kernel_rfl) ?_
    have ka' := Lib.hid (Blk.setRow ka.out #[.int .i64 0, .int .i64 0, .int .i64 0, .int .i64 0])
    replace kt := Lib.hid (Blk.farRow (kt.out.below hbx kt.out.lt) (Nat.ne_of_lt (Nat.lt_of_lt_of_le kt.out.lt lka)) #[.int .i64 0, .int .i64 0, .int .i64 0, .int .i64 0])
    replace kp := Lib.hid (Blk.farRow (kp.out.below hbx kp.out.lt) (Nat.ne_of_lt (Nat.lt_of_lt_of_le kp.out.lt lka)) #[.int .i64 0, .int .i64 0, .int .i64 0, .int .i64 0])
    replace hB := Lib.hid (below_setRow (below_on hB.out hbx) (Nat.le_trans hB.out.size lka) #[.int .i64 0, .int .i64 0, .int .i64 0, .int .i64 0])
    clear ka
    have ka := ka'
    clear hbx ka' lka 
    refine wpList_nil ?_
    dsimp only [Act.put]
    generalize (xw.setRow pka #[.int .i64 0, .int .i64 0, .int .i64 0, .int .i64 0]) = W2 at *
    have ckt := kt.out.cell
    have lkt := kt.out.lt
    have ckp := kp.out.cell
    have lkp := kp.out.lt
    have cka := ka.out.cell
    have lka := ka.out.lt
    go_wp2_with fail
    refine wp_loop_rounds 3 ?_
    rw [rounds_succ]
    go_wp2_with fail
    refine wp_region_ext (W2.heap.size) (by kernel_rfl) (by kernel_rfl) ?_
    repeat (first | (go_big_quiet_want; refine quiet_load_row 27 _ rfl _ rfl _ _ _ kt.out (by assumption) Try.underlying27 rfl triInfo ?_; simp only [Act.put, List.setIfInBounds_toArray, List.set_cons_zero, List.set_cons_succ]; go_big_quiet_on) | go_big_quiet_step (first | fail))
    refine wpQuiet_nil ?_
    intro W3 hwx
    obtain ⟨⟨W3, hb⟩, rfl⟩ := hwx
    clear ckt lkt ckp lkp cka lka
    replace kt := Lib.hid (kt.out.call hb)
    replace kp := Lib.hid (kp.out.call hb)
    replace ka := Lib.hid (ka.out.call hb)
    replace hB := Lib.hid (below_on hB.out hb)
    clear hb
    have ckt := kt.out.cell
    have lkt := kt.out.lt
    have ckp := kp.out.cell
    have lkp := kp.out.lt
    have cka := ka.out.cell
    have lka := ka.out.lt
    go_wp2_with fail
    rw [rounds_succ]
    go_wp2_with fail
    refine wp_region_ext (W3.heap.size) (by kernel_rfl) (by kernel_rfl) ?_
    repeat (first | (go_big_quiet_want; refine quiet_load_row 27 _ rfl _ rfl _ _ _ kt.out (by assumption) Try.underlying27 rfl triInfo ?_; simp only [Act.put, List.setIfInBounds_toArray, List.set_cons_zero, List.set_cons_succ]; go_big_quiet_on) | go_big_quiet_step (first | fail))
    refine wpQuiet_nil ?_
    intro W4 hwx
    obtain ⟨⟨W4, hb⟩, rfl⟩ := hwx
    clear ckt lkt ckp lkp cka lka
    replace kt := Lib.hid (kt.out.call hb)
    replace kp := Lib.hid (kp.out.call hb)
    replace ka := Lib.hid (ka.out.call hb)
    replace hB := Lib.hid (below_on hB.out hb)
    clear hb
    have ckt := kt.out.cell
    have lkt := kt.out.lt
    have ckp := kp.out.cell
    have lkp := kp.out.lt
    have cka := ka.out.cell
    have lka := ka.out.lt
    go_wp2_with fail
    rw [rounds_succ]
    go_wp2_with (first | refine wpList_load_row rfl 27 _ rfl _ rfl _ _ _ _ kt.out Try.underlying27 rfl triInfo ?_ | refine wpList_load_rowG rfl 27 _ rfl _ rfl _ _ _ _ kt.out Try.underlying27 rfl triInfo ?_ | refine wpList_load_row rfl 41 _ rfl _ rfl _ _ _ _ ka.out Try.underlying41 rfl i22Info ?_ | refine wpList_load_rowG rfl 41 _ rfl _ rfl _ _ _ _ ka.out Try.underlying41 rfl i22Info ?_)
    clear ckt lkt ckp lkp cka lka
    refine (hD.out _).mono ?_
    rintro e W5 ⟨rfl, hb⟩
    replace kt := Lib.hid (kt.out.call hb)
    replace kp := Lib.hid (kp.out.call hb)
    replace ka := Lib.hid (ka.out.call hb)
    replace hB := Lib.hid (below_on hB.out hb)
    clear hb
    have ckt := kt.out.cell
    have lkt := kt.out.lt
    have ckp := kp.out.cell
    have lkp := kp.out.lt
    have cka := ka.out.cell
    have lka := ka.out.lt
    go_wp2_with (first | refine wpList_load_row rfl 27 _ rfl _ rfl _ _ _ _ kt.out Try.underlying27 rfl triInfo ?_ | refine wpList_load_rowG rfl 27 _ rfl _ rfl _ _ _ _ kt.out Try.underlying27 rfl triInfo ?_ | refine wpList_load_row rfl 41 _ rfl _ rfl _ _ _ _ ka.out Try.underlying41 rfl i22Info ?_ | refine wpList_load_rowG rfl 41 _ rfl _ rfl _ _ _ _ ka.out Try.underlying41 rfl i22Info ?_)
    clear ckt lkt ckp lkp cka lka
    refine (hv.out _).mono ?_
    rintro e W6 ⟨rfl, hb⟩
    replace kt := Lib.hid (kt.out.call hb)
    replace kp := Lib.hid (kp.out.call hb)
    replace ka := Lib.hid (ka.out.call hb)
    replace hB := Lib.hid (below_on hB.out hb)
    clear hb
    have ckt := kt.out.cell
    have lkt := kt.out.lt
    have ckp := kp.out.cell
    have lkp := kp.out.lt
    have cka := ka.out.cell
    have lka := ka.out.lt
    go_wp2_with (first | refine wpList_load_row rfl 27 _ rfl _ rfl _ _ _ _ kt.out Try.underlying27 rfl triInfo ?_ | refine wpList_load_rowG rfl 27 _ rfl _ rfl _ _ _ _ kt.out Try.underlying27 rfl triInfo ?_ | refine wpList_load_row rfl 41 _ rfl _ rfl _ _ _ _ ka.out Try.underlying41 rfl i22Info ?_ | refine wpList_load_rowG rfl 41 _ rfl _ rfl _ _ _ _ ka.out Try.underlying41 rfl i22Info ?_)
    clear ckt lkt ckp lkp cka lka
    refine (hN.out _).mono ?_
    rintro e W7 ⟨rfl, hb⟩
    replace kt := Lib.hid (kt.out.call hb)
    replace kp := Lib.hid (kp.out.call hb)
    replace ka := Lib.hid (ka.out.call hb)
    replace hB := Lib.hid (below_on hB.out hb)
    clear hb
    have ckt := kt.out.cell
    have lkt := kt.out.lt
    have ckp := kp.out.cell
    have lkp := kp.out.lt
    have cka := ka.out.cell
    have lka := ka.out.lt
    go_wp2_with (first | refine wpList_load_row rfl 27 _ rfl _ rfl _ _ _ _ kt.out Try.underlying27 rfl triInfo ?_ | refine wpList_load_rowG rfl 27 _ rfl _ rfl _ _ _ _ kt.out Try.underlying27 rfl triInfo ?_ | refine wpList_load_row rfl 41 _ rfl _ rfl _ _ _ _ ka.out Try.underlying41 rfl i22Info ?_ | refine wpList_load_rowG rfl 41 _ rfl _ rfl _ _ _ _ ka.out Try.underlying41 rfl i22Info ?_)
    clear ckt lkt ckp lkp cka lka
    refine (example_true _).mono ?_
    rintro e W8 ⟨rfl, hb⟩
    replace kt := Lib.hid (kt.out.call hb)
    replace kp := Lib.hid (kp.out.call hb)
    replace ka := Lib.hid (ka.out.call hb)
    replace hB := Lib.hid (below_on hB.out hb)
    clear hb
    go_wp2
    go_ret
    exact ⟨rfl, hB.out⟩
theorem law_range (x0 y0 z0 u0 x1 y1 z1 u1 x2 y2 z2 u2 : Int) (A0 A1 A2 : Option Addr) (n0 c0 n1 c1 n2 c2 : Nat) (pr : Int) (fr : Bool) (px py : Int) (w : World) :
    Calls Try.prog 6 #[.agg #[.int .i64 x0, .int .i64 y0, .int .i64 z0, .int .i64 u0, .slice A0 n0 c0, .int .i64 x1, .int .i64 y1, .int .i64 z1, .int .i64 u1, .slice A1 n1 c1, .int .i64 x2, .int .i64 y2, .int .i64 z2, .int .i64 u2, .slice A2 n2 c2, .int .i64 pr, .bool fr], .agg #[.int .i64 px, .int .i64 py]] w fun e w' => e = .returned (.bool true) ∧ Below w.heap.size w w' := by
  obtain ⟨m0, h0⟩ : ∃ m, max 0 (wtI (validB x0 y0 x1 y1 x2 y2) x1 y1 x2 y2 px py) = m := ⟨_, rfl⟩
  obtain ⟨m1, h1⟩ : ∃ m, max 0 (wtI (validB x0 y0 x1 y1 x2 y2) x2 y2 x0 y0 px py) = m := ⟨_, rfl⟩
  obtain ⟨m2, h2⟩ : ∃ m, max 0 (wtI (validB x0 y0 x1 y1 x2 y2) x0 y0 x1 y1 px py) = m := ⟨_, rfl⟩
  obtain ⟨p0, k0⟩ : ∃ p, m0 * clampI u0 0 16777216 = p := ⟨_, rfl⟩
  obtain ⟨p1, k1⟩ : ∃ p, m1 * clampI u1 0 16777216 = p := ⟨_, rfl⟩
  obtain ⟨p2, k2⟩ : ∃ p, m2 * clampI u2 0 16777216 = p := ⟨_, rfl⟩
  obtain ⟨r0, q0⟩ : ∃ r, ratio m0 (m0 + m1 + m2) = r := ⟨_, rfl⟩
  obtain ⟨r1, q1⟩ : ∃ r, ratio m1 (m0 + m1 + m2) = r := ⟨_, rfl⟩
  obtain ⟨s0, s1, hs⟩ := pres_ex m0 m1 m2 p0 p1 p2
  obtain ⟨d, hd⟩ : ∃ d, depI x0 y0 x1 y1 x2 y2 z0 z1 z2 r0 r1 = d := ⟨_, rfl⟩
  have hL := fun w => linear_at x0 y0 z0 u0 x1 y1 z1 u1 x2 y2 z2 u2 A0 A1 A2 n0 c0 n1 c1 n2 c2 pr fr px py w m0 m1 m2 h0 h1 h2 r0 r1 q0 q1
  have hP := fun w => persp_at x0 y0 z0 u0 x1 y1 z1 u1 x2 y2 z2 u2 A0 A1 A2 n0 c0 n1 c1 n2 c2 pr fr px py w m0 m1 m2 h0 h1 h2 p0 p1 p2 k0 k1 k2 s0 s1 hs
  have hD := fun w => depth_at x0 y0 z0 u0 x1 y1 z1 u1 x2 y2 z2 u2 A0 A1 A2 n0 c0 n1 c1 n2 c2 pr fr px py w m0 m1 m2 h0 h1 h2 r0 r1 q0 q1 d hd
  cases hv : validB x0 y0 x1 y1 x2 y2 with
  | true =>
    have b0 := mx_bd h0
    have b1 := mx_bd h1
    have b2 := mx_bd h2
    have d0 := pb_bd u0 b0.1 b0.2
    have d1 := pb_bd u1 b1.1 b1.2
    have d2 := pb_bd u2 b2.1 b2.2
    rw [k0] at d0
    rw [k1] at d1
    rw [k2] at d2
    refine range_yes x0 y0 z0 u0 x1 y1 z1 u1 x2 y2 z2 u2 A0 A1 A2 n0 c0 n1 c1 n2 c2 pr fr px py w hv r0 r1 s0 s1 d (rat_bd b0.1 b1.1 b2.1 (by omega) q0 q1) ?_ (hd ▸ dep_bd ..) hL hP hD
    rcases hs with ⟨-, -, -, e0, e1⟩ | ⟨-, e0, e1⟩
    · exact rat_bd b0.1 b1.1 b2.1 (by omega) e0 e1
    · exact rat_bd d0.1 d1.1 d2.1 (by omega) e0 e1
  | false =>
    have a0 := m_no h0 hv
    have a1 := m_no h1 hv
    have a2 := m_no h2 hv
    have e0 : r0 = 0 := by rw [← q0, a0, ratio_zero]
    have e1 : r1 = 0 := by rw [← q1, a1, ratio_zero]
    have f0 : p0 = 0 := by rw [← k0, a0, Int.zero_mul]
    have f1 : p1 = 0 := by rw [← k1, a1, Int.zero_mul]
    have e2 : s0 = 0 := by
      rcases hs with ⟨-, -, -, g0, -⟩ | ⟨-, g0, -⟩
      · rw [← g0, a0, ratio_zero]
      · rw [← g0, f0, ratio_zero]
    have e3 : s1 = 0 := by
      rcases hs with ⟨-, -, -, -, g0⟩ | ⟨-, -, g0⟩
      · rw [← g0, a1, ratio_zero]
      · rw [← g0, f1, ratio_zero]
    have e4 : d = 0 := by
      rw [← hd]
      unfold depI
      rw [if_neg (by rw [hv]; simp)]
    rw [e0, e1] at hL
    rw [e2, e3] at hP
    rw [e4] at hD
    exact range_no x0 y0 z0 u0 x1 y1 z1 u1 x2 y2 z2 u2 A0 A1 A2 n0 c0 n1 c1 n2 c2 pr fr px py w hv hL hP hD
end Go.Proofs.Ythbagegkcpblgaa
