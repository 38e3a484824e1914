/- CoverageSubset returns true for every triangle, rectangle and number of samples. -/
import Derived.Test.YtgalpmiojgjkhaaPixLaw
import Derived.Test.YtgalpmiojgjkhaaStSub
import Derived.Test.YtgalpmiojgjkhaaFullR
namespace Go.Proofs.Ytgalpmiojgjkhaa
open Go.RowKit
theorem full_at (n : Int) (w : World) (v : Int) (h : fullI n = v) :
    Calls Try.prog 22 #[.int .i64 n] w fun e w' => e = .returned (.int .i64 v) ∧ w = w' := h ▸ full_any n w
theorem mask_bd (x0 y0 x1 y1 x2 y2 x y n : Int) : 0 ≤ maskI x0 y0 x1 y1 x2 y2 x y n ∧ maskI x0 y0 x1 y1 x2 y2 x y n ≤ fullI n := by
  rw [full_len]
  unfold maskI
  have := maskN_lt (smB x0 y0 x1 y1 x2 y2 x y n) (posL n).length
  omega
theorem wpList_buildG {P : Program} {ops : Array Oper} {rest : List Oper} {o : Oper} {a : Act} {w : World} {Q : Exit → Act → World → Prop} (hw : Region.wanted o (yielded ops a.tmps) = true) (t : TypeId) (parts : Array (Nat × Operand)) (ho : o.op = .build t parts)
    (cells : Array Value) (hb : P.built t (parts.map fun (i, x) => (i, a.eval x)).toList = some cells) (h : wpList P ops Q rest (a.put o.dst (.agg cells)) w) : wpList P ops Q (o :: rest) a w :=
  wpList_step fun K hK => by
    rw [if_pos hw]
    exact wp_build t parts ho (by rw [hb]; rfl) (hK _ _ (by rw [hb]; exact h))
set_option maxRecDepth 100000 in
set_option maxHeartbeats 16000000 in
theorem sub_out (x0 y0 z0 u0 x1 y1 z1 u1 x2 y2 z2 u2 : Int) (A0 A1 A2 : Option Addr) (n0 c0 n1 c1 n2 c2 : Nat) (pr : Int) (fr : Bool) (a b wd hg n : Int) (w : World) (h : ¬ (0 ≤ a ∧ a ≤ 64 ∧ 0 ≤ b ∧ b ≤ 64 ∧ 0 ≤ wd ∧ wd ≤ 64 ∧ 0 ≤ hg ∧ hg ≤ 64)) :
    Calls Try.prog 8 #[.agg #[.int .i64 x0, .int .i64 y0, .int .i64 z0, .int .i64 u0, .slice A0 n0 c0, .int .i64 x1, .int .i64 y1, .int .i64 z1, .int .i64 u1, .slice A1 n1 c1, .int .i64 x2, .int .i64 y2, .int .i64 z2, .int .i64 u2, .slice A2 n2 c2, .int .i64 pr, .bool fr], .int .i64 a, .int .i64 b, .int .i64 wd, .int .i64 hg, .int .i64 n] w fun e w' => e = .returned (.bool true) ∧ Below w.heap.size w w' := by
  have hB : Hid (Below w.heap.size w (w.alloc (.cells #[.int .i64 x0, .int .i64 y0, .int .i64 z0, .int .i64 u0, .slice A0 n0 c0, .int .i64 x1, .int .i64 y1, .int .i64 z1, .int .i64 u1, .slice A1 n1 c1, .int .i64 x2, .int .i64 y2, .int .i64 z2, .int .i64 u2, .slice A2 n2 c2, .int .i64 pr, .bool fr] 27))) := Lib.hid (by go_grown)
  have hc : (a < 0) ∨ (0 ≤ a ∧ 64 < a) ∨ (0 ≤ a ∧ a ≤ 64 ∧ b < 0) ∨ (0 ≤ a ∧ a ≤ 64 ∧ 0 ≤ b ∧ 64 < b) ∨ (0 ≤ a ∧ a ≤ 64 ∧ 0 ≤ b ∧ b ≤ 64 ∧ wd < 0) ∨ (0 ≤ a ∧ a ≤ 64 ∧ 0 ≤ b ∧ b ≤ 64 ∧ 0 ≤ wd ∧ 64 < wd) ∨ (0 ≤ a ∧ a ≤ 64 ∧ 0 ≤ b ∧ b ≤ 64 ∧ 0 ≤ wd ∧ wd ≤ 64 ∧ hg < 0) ∨ (0 ≤ a ∧ a ≤ 64 ∧ 0 ≤ b ∧ b ≤ 64 ∧ 0 ≤ wd ∧ wd ≤ 64 ∧ 0 ≤ hg ∧ 64 < hg) := by omega
  clear h
  rcases hc with g0 | ⟨g0, g1⟩ | ⟨g0, g1, g2⟩ | ⟨g0, g1, g2, g3⟩ | ⟨g0, g1, g2, g3, g4⟩ | ⟨g0, g1, g2, g3, g4, g5⟩ | ⟨g0, g1, g2, g3, g4, g5, g6⟩ | ⟨g0, g1, g2, g3, g4, g5, g6, g7⟩
  all_goals
    go_enter Try.func8, Try.ntmps8
    go_wp2_with fail
    refine (example_true _).mono ?_
    rintro e w1 ⟨rfl, hb⟩
    replace hB := Lib.hid (below_on hB.out hb)
    clear hb
    go_wp2
    go_ret
    exact ⟨rfl, hB.out⟩
set_option maxRecDepth 100000 in
set_option maxHeartbeats 16000000 in
theorem sub_in (x0 y0 z0 u0 x1 y1 z1 u1 x2 y2 z2 u2 : Int) (A0 A1 A2 : Option Addr) (n0 c0 n1 c1 n2 c2 : Nat) (pr : Int) (fr : Bool) (a b wd hg : Int) (an bn : Nat) (n : Int) (ea : (an : Int) = a) (eb : (bn : Int) = b) (a0 : 0 ≤ a) (b0 : 0 ≤ b) (w0 : 0 ≤ wd) (h0 : 0 ≤ hg) (ha : a ≤ 64) (hb : b ≤ 64) (hw : wd ≤ 64) (hh : hg ≤ 64) (w : World) :
    Calls Try.prog 8 #[.agg #[.int .i64 x0, .int .i64 y0, .int .i64 z0, .int .i64 u0, .slice A0 n0 c0, .int .i64 x1, .int .i64 y1, .int .i64 z1, .int .i64 u1, .slice A1 n1 c1, .int .i64 x2, .int .i64 y2, .int .i64 z2, .int .i64 u2, .slice A2 n2 c2, .int .i64 pr, .bool fr], .int .i64 a, .int .i64 b, .int .i64 wd, .int .i64 hg, .int .i64 n] w fun e w' => e = .returned (.bool true) ∧ Below w.heap.size w w' := by
  obtain ⟨s, hs⟩ : ∃ s : Nat → Nat → Bool, ∀ x y : Nat, s x y = (spB a wd x && spB b hg y) := ⟨_, fun _ _ => rfl⟩
  obtain ⟨m, hm⟩ : ∃ m : Nat → Nat → Int, ∀ x y : Nat, maskI x0 y0 x1 y1 x2 y2 x y n = m x y := ⟨_, fun _ _ => rfl⟩
  have hlen := all_len (s := s) (m := m)
  obtain ⟨L, hLL⟩ : ∃ L, allP s m 64 = L := ⟨_, rfl⟩
  have hat := fun (y x : Nat) (h1 : y < 64) (h2 : x < 64) (h3 : selB s m x y = true) => pre_at (s := s) (m := m) h1 h2 h3
  rw [hLL] at hlen hat
  have hP := Lib.hid (fun w => pixels_any x0 y0 z0 u0 x1 y1 z1 u1 x2 y2 z2 u2 A0 A1 A2 n0 c0 n1 c1 n2 c2 pr fr a b wd hg n (by omega) (by omega) (by omega) (by omega) w s hs m hm L hLL)
  have hend : ∀ j, j ≤ 64 → (∀ y, j ≤ y → y < 64 → ∀ x, x < 64 → selB s m x y = false) → allP s m j = L := fun j h1 h2 => by rw [← hLL]; exact (allP_stay h1 h2).symm
  obtain ⟨fu, hfu⟩ : ∃ q, fullI n = q := ⟨_, rfl⟩
  have hF := Lib.hid (fun w => full_at n w fu hfu)
  have hbd := fun x y : Nat => mask_bd x0 y0 x1 y1 x2 y2 x y n
  have hval : ∀ x y : Nat, m x y ≠ 0 → validB x0 y0 x1 y1 x2 y2 = true := fun x y h => by
    cases hv : validB x0 y0 x1 y1 x2 y2 with
    | true => rfl
    | false => exact absurd (by rw [← hm, mask_no hv]) h
  have hbd' : ∀ x y : Nat, 0 ≤ m x y ∧ m x y ≤ fu := fun x y => by rw [← hm, ← hfu]; exact hbd x y
  obtain ⟨X, hX⟩ : ∃ X : Nat, (X : Int) = min (a + wd) 64 := ⟨(min (a + wd) 64).toNat, by omega⟩
  obtain ⟨Y, hY⟩ : ∃ Y : Nat, (Y : Int) = min (b + hg) 64 := ⟨(min (b + hg) 64).toNat, by omega⟩
  have hin : ∀ x y : Nat, an ≤ x → x < X → bn ≤ y → y < Y → s x y = true := fun x y h3 h4 h5 h6 => by
    rw [hs]; unfold spB; rw [Bool.and_eq_true, decide_eq_true_eq, decide_eq_true_eq]; omega
  have hout : ∀ x y : Nat, x < 64 → y < 64 → ¬ (an ≤ x ∧ x < X ∧ bn ≤ y ∧ y < Y) → s x y = false := fun x y h1 h2 h3 => by
    rw [hs, ← Bool.not_eq_true, Bool.and_eq_true]; unfold spB; rw [decide_eq_true_eq, decide_eq_true_eq]; omega
  have wX : IntKind.i64.wrap (a + wd) = a + wd := by rw [IntKind.wrap_i64]; omega
  have wY : IntKind.i64.wrap (b + hg) = b + hg := by rw [IntKind.wrap_i64]; omega
  have mX : (if 64 < a + wd then 64 else a + wd) = (X : Int) := by split <;> omega
  have mY : (if 64 < b + hg then 64 else b + hg) = (Y : Int) := by split <;> omega
  have aX : an ≤ X := by omega
  have bY : bn ≤ Y := by omega
  have X64 : X ≤ 64 := by omega
  have Y64 : Y ≤ 64 := by omega
  have hk := Lib.hid (Blk.new w 27 #[.int .i64 x0, .int .i64 y0, .int .i64 z0, .int .i64 u0, .slice A0 n0 c0, .int .i64 x1, .int .i64 y1, .int .i64 z1, .int .i64 u1, .slice A1 n1 c1, .int .i64 x2, .int .i64 y2, .int .i64 z2, .int .i64 u2, .slice A2 n2 c2, .int .i64 pr, .bool fr])
  have hB : Hid (Below w.heap.size w (w.alloc (.cells #[.int .i64 x0, .int .i64 y0, .int .i64 z0, .int .i64 u0, .slice A0 n0 c0, .int .i64 x1, .int .i64 y1, .int .i64 z1, .int .i64 u1, .slice A1 n1 c1, .int .i64 x2, .int .i64 y2, .int .i64 z2, .int .i64 u2, .slice A2 n2 c2, .int .i64 pr, .bool fr] 27))) := Lib.hid (by go_grown)
  replace hend := Lib.hid hend
  replace hat := Lib.hid hat
  replace hm := Lib.hid hm
  replace hval := Lib.hid hval
  replace hbd' := Lib.hid hbd'
  replace hin := Lib.hid hin
  replace hout := Lib.hid hout
  replace wX := Lib.hid wX
  replace wY := Lib.hid wY
  replace mX := Lib.hid mX
  replace mY := Lib.hid mY
  replace ea := Lib.hid ea
  replace eb := Lib.hid eb
  clear hs hbd hfu hX hY hLL
  go_enter Try.func8, Try.ntmps8
  go_upto_region 3 with fail
  go_wp2_with (refine wpList_load_row rfl 27 _ rfl _ rfl _ _ _ _ hk.out Try.underlying27 rfl triInfo ?_)
  refine (hP.out _).mono ?_
  rintro e W1 ⟨hb2, A, c, rfl, hp⟩
  replace hk := Lib.hid (hk.out.call hb2)
  replace hB := Lib.hid (below_on hB.out hb2)
  have wX := wX.out
  have wY := wY.out
  have mX := mX.out
  have mY := mY.out
  replace hp := Lib.hid hp
  clear hb2 hP
  obtain ⟨N, hN⟩ : ∃ N, L.length = N := ⟨_, rfl⟩
  rw [hN]
  have hN2 : (N : Int) ≤ 4096 := by omega
  go_wp2_with fail
  refine (hF.out _).mono ?_
  rintro e xw ⟨rfl, rfl⟩
  go_wp2_with fail
  go_loopw [14, 16, 17, 18] (fun q y _ _ wr => ∃ j : Nat, bn ≤ j ∧ j ≤ Y ∧ y = .int .i64 j ∧ q = .int .i64 ((allP s m j).length : Nat) ∧ PSl wr A c L ∧ Blk wr w.heap.size 27 #[.int .i64 x0, .int .i64 y0, .int .i64 z0, .int .i64 u0, .slice A0 n0 c0, .int .i64 x1, .int .i64 y1, .int .i64 z1, .int .i64 u1, .slice A1 n1 c1, .int .i64 x2, .int .i64 y2, .int .i64 z2, .int .i64 u2, .slice A2 n2 c2, .int .i64 pr, .bool fr] ∧ Below w.heap.size w wr)
    (fun _ y _ _ _ => Y - (intOf y).toNat)
  case atStart =>
    have e0 : allP s m bn = [] := allP_none fun y hy x hx => selB_s (hout.out x y hx (by omega) (by omega))
    exact ⟨bn, by omega, by omega, by rw [eb.out], by rw [e0]; rfl, hp.out, hk.out, hB.out⟩
  case round =>
    clear hB hk hp
    obtain ⟨j, hj1, hj2, rfl, rfl, hp, hk, hB⟩ := hrel
    replace hp := Lib.hid hp
    replace hB := Lib.hid hB
    replace hk := Lib.hid hk
    by_cases hlt : j < Y
    · have hlt' : (j : Int) < Y := by omega
      have hj64 : j < 64 := by omega
      obtain ⟨M, hM0⟩ : ∃ M, (allP s m j).length = M := ⟨_, rfl⟩
      rw [hM0]
      go_wp2_with fail
      go_loopw [14, 17, 18] (fun q x _ wv => ∃ k : Nat, an ≤ k ∧ k ≤ X ∧ x = .int .i64 k ∧ q = .int .i64 ((preP' s m j k).length : Nat) ∧ PSl wv A c L ∧ Blk wv w.heap.size 27 #[.int .i64 x0, .int .i64 y0, .int .i64 z0, .int .i64 u0, .slice A0 n0 c0, .int .i64 x1, .int .i64 y1, .int .i64 z1, .int .i64 u1, .slice A1 n1 c1, .int .i64 x2, .int .i64 y2, .int .i64 z2, .int .i64 u2, .slice A2 n2 c2, .int .i64 pr, .bool fr] ∧ Below w.heap.size w wv)
        (fun _ x _ _ => X - (intOf x).toNat)
      case atStart =>
        have e0 : preP' s m j an = allP s m j := by
          unfold preP'
          rw [rowP_none fun x hx => selB_s (hout.out x j (by omega) hj64 (by omega)), List.append_nil]
        exact ⟨an, by omega, by omega, by rw [ea.out], by rw [e0, hM0], hp.out, hk.out, hB.out⟩
      case round =>
        clear hB hk hp hM0
        obtain ⟨k, hk1, hk2, rfl, rfl, hp, hk, hB⟩ := hrel
        replace hp := Lib.hid hp
        replace hB := Lib.hid hB
        replace hk := Lib.hid hk
        by_cases hlx : k < X
        · have hlx' : (k : Int) < X := by omega
          have hk64 : k < 64 := by omega
          have hsel := hin.out k j hk1 hlx hj1 hlt
          have hpl := pre_len (s := s) (m := m) hj64 (show k ≤ 64 by omega)
          obtain ⟨mv, hmv⟩ : ∃ q, m k j = q := ⟨_, rfl⟩
          have hM := Lib.hid (fun w => mask_at x0 y0 z0 u0 x1 y1 z1 u1 x2 y2 z2 u2 A0 A1 A2 n0 c0 n1 c1 n2 c2 pr fr k j n w mv ((hm.out k j).trans hmv))
          obtain ⟨b1, b2⟩ := hbd'.out k j
          rw [hmv] at b1 b2
          obtain ⟨q, hq⟩ : ∃ q, (preP' s m j k).length = q := ⟨_, rfl⟩
          rw [hq]
          rw [hq] at hpl
          have hq2 : (q : Int) ≤ 4096 := by omega
          have hq0 : (0 : Int) ≤ q := by omega
          go_wp2_with (refine wpList_load_row rfl 27 _ rfl _ rfl _ _ _ _ hk.out Try.underlying27 rfl triInfo ?_)
          refine (hM.out _).mono ?_
          rintro e w2 ⟨rfl, hb⟩
          replace hp := Lib.hid (hp.out.call hb)
          replace hk := Lib.hid (hk.out.call hb)
          replace hB := Lib.hid (below_on hB.out hb)
          clear hb hM
          by_cases h0 : mv = 0
          · have hne : (mv != 0) = false := by rw [h0]; rfl
            have heq : (mv == 0) = true := by rw [h0]; rfl
            have e1 : preP' s m j (k + 1) = preP' s m j k := by
              unfold preP'
              show allP s m j ++ (rowP s m j k ++ pixOf s m k j) = _
              rw [pix_no (by unfold selB; rw [hmv, hne, Bool.and_false]), List.append_nil]
            have e2 := Lib.hid (show ((preP' s m j (k + 1)).length : Nat) = q by rw [e1, hq])
            clear h0 hmv hsel hq e1
            go_wp2
            go_roundw
            case rel => exact ⟨k + 1, by omega, by omega, by go_num, by rw [e2.out], hp.out, hk.out, hB.out⟩
            case measure => simp [intOf]; omega
          · have hne : (mv != 0) = true := by simpa using h0
            have heq : (mv == 0) = false := by simpa using h0
            have hvd := Lib.hid (hval.out k j (by rw [hmv]; exact h0))
            have e1 : preP' s m j (k + 1) = preP' s m j k ++ [((k : Int), (j : Int), mv)] := by
              unfold preP'
              show allP s m j ++ (rowP s m j k ++ pixOf s m k j) = _
              rw [pix_yes (by unfold selB; rw [hmv, hne, Bool.and_true]; exact hsel), hmv, List.append_assoc]
            have e2 := Lib.hid (show ((preP' s m j (k + 1)).length : Int) = (q : Int) + 1 by rw [e1, List.length_append, hq]; simp)
            obtain ⟨t1, t2⟩ := hat.out j k hj64 hk64 (by unfold selB; rw [hmv, hne, Bool.and_true]; exact hsel)
            rw [hq, hmv] at t2
            rw [hq, hN] at t1
            have t1' : (q : Int) < N := by omega
            have hge : decide (N ≤ q) = false := by rw [decide_eq_false_iff_not]; omega
            clear h0 hmv hsel hq e1
            go_wp2_with (refine wpList_load_rowG rfl 27 _ rfl _ rfl _ _ _ _ hk.out Try.underlying27 rfl triInfo ?_)
            refine (valid_at x0 y0 z0 u0 x1 y1 z1 u1 x2 y2 z2 u2 A0 A1 A2 n0 c0 n1 c1 n2 c2 pr fr _ _ hvd.out).mono ?_
            rintro e w3 ⟨rfl, hb⟩
            replace hk := Lib.hid (hk.out.call hb)
            replace hB := Lib.hid (below_on hB.out hb)
            have hp3 := hp.out.call hb
            obtain ⟨g, cur, ge, q1, r1⟩ := hp3.lies (by omega)
            have hp3' := Lib.hid hp3
            have s1 := Lib.hid (px_sub (r1 q _ t2))
            replace q1 := Lib.hid q1
            subst ge
            clear hp3 hp r1 t2 hb t1
            go_wp2_with (first
              | refine wpList_load_subG rfl 46 _ rfl g (q * 3) rfl _ _ _ _ _ q1.out s1.out Try.underlying46 rfl i3Info' ?_
              | refine wpList_buildG rfl 46 _ rfl #[.int .i64 (k : Int), .int .i64 (j : Int), .int .i64 mv] (by kernel_rfl) ?_)
            go_roundw
            case rel => exact ⟨k + 1, by omega, by omega, by go_num, by rw [e2.out], hp3'.out, hk.out, hB.out⟩
            case measure => simp [intOf]; omega
        · have hlx' : (X : Int) ≤ k := by omega
          have hkr : k = X := by omega
          have e1 : preP' s m j k = allP s m (j + 1) := by
            rw [hkr, allP_succ]
            unfold preP'
            rw [rowP_stay (b := 64) X64 fun x h1 h2 => selB_s (hout.out x j (by omega) hj64 (by omega))]
          rw [e1]
          obtain ⟨q, hq⟩ : ∃ q, (allP s m (j + 1)).length = q := ⟨_, rfl⟩
          rw [hq]
          replace hq := Lib.hid hq
          clear e1 hkr
          go_wp2
          go_roundw
          case rel => exact ⟨j + 1, by omega, by omega, by go_num, by rw [hq.out], hp.out, hk.out, hB.out⟩
          case measure => simp [intOf]; omega
    · have hlt' : (Y : Int) ≤ j := by omega
      have hjo : j = Y := by omega
      have e1 : (allP s m j).length = N := by
        rw [← hN, hjo, hend.out Y Y64 fun y h1 h2 x hx => selB_s (hout.out x y hx (by omega) (by omega))]
      rw [e1]
      clear hjo e1
      go_wp2_with fail
      refine (example_true _).mono ?_
      rintro e w1 ⟨rfl, hb⟩
      replace hB := Lib.hid (below_on hB.out hb)
      clear hb
      go_wp2
      go_ret
      exact ⟨rfl, hB.out⟩
theorem law_subset (x0 y0 z0 u0 x1 y1 z1 u1 x2 y2 z2 u2 : Int) (A0 A1 A2 : Option Addr) (n0 c0 n1 c1 n2 c2 : Nat) (pr : Int) (fr : Bool) (a b wd hg n : Int) (w : World) :
    Calls Try.prog 8 #[.agg #[.int .i64 x0, .int .i64 y0, .int .i64 z0, .int .i64 u0, .slice A0 n0 c0, .int .i64 x1, .int .i64 y1, .int .i64 z1, .int .i64 u1, .slice A1 n1 c1, .int .i64 x2, .int .i64 y2, .int .i64 z2, .int .i64 u2, .slice A2 n2 c2, .int .i64 pr, .bool fr], .int .i64 a, .int .i64 b, .int .i64 wd, .int .i64 hg, .int .i64 n] w fun e w' => e = .returned (.bool true) ∧ Below w.heap.size w w' := by
  by_cases h : 0 ≤ a ∧ a ≤ 64 ∧ 0 ≤ b ∧ b ≤ 64 ∧ 0 ≤ wd ∧ wd ≤ 64 ∧ 0 ≤ hg ∧ hg ≤ 64
  · obtain ⟨a', ha'⟩ : ∃ q : Nat, (q : Int) = a := ⟨a.toNat, by omega⟩
    obtain ⟨b', hb'⟩ : ∃ q : Nat, (q : Int) = b := ⟨b.toNat, by omega⟩
    exact sub_in x0 y0 z0 u0 x1 y1 z1 u1 x2 y2 z2 u2 A0 A1 A2 n0 c0 n1 c1 n2 c2 pr fr a b wd hg a' b' n ha' hb' (by omega) (by omega) (by omega) (by omega) (by omega) (by omega) (by omega) (by omega) w
  · exact sub_out x0 y0 z0 u0 x1 y1 z1 u1 x2 y2 z2 u2 A0 A1 A2 n0 c0 n1 c1 n2 c2 pr fr a b wd hg n w h
end Go.Proofs.Ytgalpmiojgjkhaa
