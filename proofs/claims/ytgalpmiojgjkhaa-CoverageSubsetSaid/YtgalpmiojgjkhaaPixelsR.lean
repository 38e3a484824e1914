/- Pixels of the reference of chapter 35. -/
import Derived.Test.YtgalpmiojgjkhaaPixels
namespace Go.Proofs.Ytgalpmiojgjkhaa
open Go.RowKit
theorem spans_at (low size n : Int) (h1 : -9223372036854775808 ≤ low) (h2 : size ≤ 9223372036854775807) (h3 : n ≤ 9223372036854775807) (w : World) (v : Bool) (h : spB low size n = v) :
    Calls Try.prog 35 #[.int .i64 low, .int .i64 size, .int .i64 n] w fun e w' => e = .returned (.bool v) ∧ w = w' := h ▸ spans_any low size n h1 h2 h3 w
set_option maxRecDepth 100000 in
set_option maxHeartbeats 16000000 in
theorem rPixels_no (x0 y0 z0 u0 x1 y1 z1 u1 x2 y2 z2 u2 : Int) (A0 A1 A2 : Option Addr) (n0 c0 n1 c1 n2 c2 : Nat) (pr : Int) (fr : Bool) (a b wd hg n : Int) (w : World) (hv : validB x0 y0 x1 y1 x2 y2 = false) :
    Calls Try.prog 26 #[.agg #[.int .i64 x0, .int .i64 y0, .int .i64 z0, .int .i64 u0, .slice A0 n0 c0, .int .i64 x1, .int .i64 y1, .int .i64 z1, .int .i64 u1, .slice A1 n1 c1, .int .i64 x2, .int .i64 y2, .int .i64 z2, .int .i64 u2, .slice A2 n2 c2, .int .i64 pr, .bool fr], .int .i64 a, .int .i64 b, .int .i64 wd, .int .i64 hg, .int .i64 n] w fun e w' => (∃ q, e = .returned (.slice (some q) 0 0)) ∧ Below w.heap.size w w' := by
  have hk := Lib.hid ((Blk.new w 27 #[.int .i64 x0, .int .i64 y0, .int .i64 z0, .int .i64 u0, .slice A0 n0 c0, .int .i64 x1, .int .i64 y1, .int .i64 z1, .int .i64 u1, .slice A1 n1 c1, .int .i64 x2, .int .i64 y2, .int .i64 z2, .int .i64 u2, .slice A2 n2 c2, .int .i64 pr, .bool fr]).alloc (.cells #[] 46))
  have hB : Hid (Below w.heap.size w ((w.alloc (.cells #[.int .i64 x0, .int .i64 y0, .int .i64 z0, .int .i64 u0, .slice A0 n0 c0, .int .i64 x1, .int .i64 y1, .int .i64 z1, .int .i64 u1, .slice A1 n1 c1, .int .i64 x2, .int .i64 y2, .int .i64 z2, .int .i64 u2, .slice A2 n2 c2, .int .i64 pr, .bool fr] 27)).alloc (.cells #[] 46))) := Lib.hid (by go_grown)
  replace hv := Lib.hid hv
  go_enter Try.func26, Try.ntmps26
  go_wp2_with (refine wpList_load_row rfl 27 _ rfl _ rfl _ _ _ _ hk.out Try.underlying27 rfl triInfo ?_)
  refine (valid35_at x0 y0 z0 u0 x1 y1 z1 u1 x2 y2 z2 u2 A0 A1 A2 n0 c0 n1 c1 n2 c2 pr fr _ _ hv.out).mono ?_
  rintro e W ⟨rfl, hb⟩
  replace hB := Lib.hid (below_on hB.out hb)
  clear hb
  go_wp2
  go_ret
  exact ⟨⟨_, rfl⟩, hB.out⟩
set_option maxRecDepth 100000 in
set_option maxHeartbeats 16000000 in
theorem rPixels_yes (x0 y0 z0 u0 x1 y1 z1 u1 x2 y2 z2 u2 : Int) (A0 A1 A2 : Option Addr) (n0 c0 n1 c1 n2 c2 : Nat) (pr : Int) (fr : Bool) (a b wd hg n : Int) (ha : -9223372036854775808 ≤ a) (hb : -9223372036854775808 ≤ b) (hw : wd ≤ 9223372036854775807) (hh : hg ≤ 9223372036854775807) (w : World) (hv : validB x0 y0 x1 y1 x2 y2 = true)
    (s : Nat → Nat → Bool) (hs : ∀ x y : Nat, s x y = (spB a wd x && spB b hg y)) (m : Nat → Nat → Int) (hm : ∀ x y : Nat, maskI x0 y0 x1 y1 x2 y2 x y n = m x y) (L : List Px) (hLL : allP s m 64 = L) :
    Calls Try.prog 26 #[.agg #[.int .i64 x0, .int .i64 y0, .int .i64 z0, .int .i64 u0, .slice A0 n0 c0, .int .i64 x1, .int .i64 y1, .int .i64 z1, .int .i64 u1, .slice A1 n1 c1, .int .i64 x2, .int .i64 y2, .int .i64 z2, .int .i64 u2, .slice A2 n2 c2, .int .i64 pr, .bool fr], .int .i64 a, .int .i64 b, .int .i64 wd, .int .i64 hg, .int .i64 n] w fun e w' => Below w.heap.size w w' ∧ ∃ A c, e = .returned (.slice A L.length c) ∧ PSl w' A c L := by
  have hk := Lib.hid ((Blk.new w 27 #[.int .i64 x0, .int .i64 y0, .int .i64 z0, .int .i64 u0, .slice A0 n0 c0, .int .i64 x1, .int .i64 y1, .int .i64 z1, .int .i64 u1, .slice A1 n1 c1, .int .i64 x2, .int .i64 y2, .int .i64 z2, .int .i64 u2, .slice A2 n2 c2, .int .i64 pr, .bool fr]).alloc (.cells #[] 46))
  have hB : Hid (Below w.heap.size w ((w.alloc (.cells #[.int .i64 x0, .int .i64 y0, .int .i64 z0, .int .i64 u0, .slice A0 n0 c0, .int .i64 x1, .int .i64 y1, .int .i64 z1, .int .i64 u1, .slice A1 n1 c1, .int .i64 x2, .int .i64 y2, .int .i64 z2, .int .i64 u2, .slice A2 n2 c2, .int .i64 pr, .bool fr] 27)).alloc (.cells #[] 46))) := Lib.hid (by go_grown)
  have hO : Hid (((w.alloc (.cells #[.int .i64 x0, .int .i64 y0, .int .i64 z0, .int .i64 u0, .slice A0 n0 c0, .int .i64 x1, .int .i64 y1, .int .i64 z1, .int .i64 u1, .slice A1 n1 c1, .int .i64 x2, .int .i64 y2, .int .i64 z2, .int .i64 u2, .slice A2 n2 c2, .int .i64 pr, .bool fr] 27)).alloc (.cells #[] 46)).ownsRow (w.heap.size + 1) 46 3 (.slice (some ⟨w.heap.size + 1, 0, none⟩) 0 0) 0 []) := Lib.hid (by
    have h := World.ownsRow_made (e := 46) (size := 3) (base := w.heap.size + 1) (w.alloc (.cells #[.int .i64 x0, .int .i64 y0, .int .i64 z0, .int .i64 u0, .slice A0 n0 c0, .int .i64 x1, .int .i64 y1, .int .i64 z1, .int .i64 u1, .slice A1 n1 c1, .int .i64 x2, .int .i64 y2, .int .i64 z2, .int .i64 u2, .slice A2 n2 c2, .int .i64 pr, .bool fr] 27)) #[] 0 (by simp) (Nat.zero_le _) rfl
    rwa [World.size_alloc] at h)
  have hX := Lib.hid (fun (k : Nat) (h : k < 64) w v hv => spans_at a wd k ha hw (by omega) w v hv)
  have hY := Lib.hid (fun (k : Nat) (h : k < 64) w v hv => spans_at b hg k hb hh (by omega) w v hv)
  replace hLL := Lib.hid hLL
  replace hs := Lib.hid hs
  replace hm := Lib.hid hm
  replace hv := Lib.hid hv
  clear ha hb hw hh
  go_enter Try.func26, Try.ntmps26
  go_wp2_with (refine wpList_load_row rfl 27 _ rfl _ rfl _ _ _ _ hk.out Try.underlying27 rfl triInfo ?_)
  refine (valid35_at x0 y0 z0 u0 x1 y1 z1 u1 x2 y2 z2 u2 A0 A1 A2 n0 c0 n1 c1 n2 c2 pr fr _ _ hv.out).mono ?_
  rintro e W ⟨rfl, hb⟩
  replace hO := Lib.hid (own_call hO.out hb)
  replace hk := Lib.hid (hk.out.call hb)
  replace hB := Lib.hid (below_on hB.out hb)
  clear hb
  go_wp2_with fail
  go_loopw [13, 14, 15, 16] (fun v y _ _ wr => ∃ j : Nat, j ≤ 64 ∧ y = .int .i64 j ∧ wr.ownsRow (w.heap.size + 1) 46 3 v (allP s m j).length (flatP (allP s m j)) ∧ Blk wr w.heap.size 27 #[.int .i64 x0, .int .i64 y0, .int .i64 z0, .int .i64 u0, .slice A0 n0 c0, .int .i64 x1, .int .i64 y1, .int .i64 z1, .int .i64 u1, .slice A1 n1 c1, .int .i64 x2, .int .i64 y2, .int .i64 z2, .int .i64 u2, .slice A2 n2 c2, .int .i64 pr, .bool fr] ∧ Below w.heap.size w wr)
    (fun _ y _ _ _ => 64 - (intOf y).toNat)
  case atStart => exact ⟨0, by omega, rfl, hO.out, hk.out, hB.out⟩
  case round =>
    clear hB hk hO
    obtain ⟨j, hj2, rfl, hO, hk, hB⟩ := hrel
    replace hO := Lib.hid hO
    replace hB := Lib.hid hB
    replace hk := Lib.hid hk
    by_cases hlt : j < 64
    · have hlt' : (j : Int) < 64 := by omega
      go_wp2_with fail
      go_loopw [13, 15, 16] (fun v x _ wv => ∃ k : Nat, k ≤ 64 ∧ x = .int .i64 k ∧ wv.ownsRow (w.heap.size + 1) 46 3 v (preP' s m j k).length (flatP (preP' s m j k)) ∧ Blk wv w.heap.size 27 #[.int .i64 x0, .int .i64 y0, .int .i64 z0, .int .i64 u0, .slice A0 n0 c0, .int .i64 x1, .int .i64 y1, .int .i64 z1, .int .i64 u1, .slice A1 n1 c1, .int .i64 x2, .int .i64 y2, .int .i64 z2, .int .i64 u2, .slice A2 n2 c2, .int .i64 pr, .bool fr] ∧ Below w.heap.size w wv)
        (fun _ x _ _ => 64 - (intOf x).toNat)
      case atStart =>
        have e0 : preP' s m j 0 = allP s m j := by
          unfold preP'
          show _ ++ [] = _
          rw [List.append_nil]
        exact ⟨0, by omega, rfl, by rw [e0]; exact hO.out, hk.out, hB.out⟩
      case round =>
        clear hB hk hO
        obtain ⟨k, hk2, rfl, hO, hk, hB⟩ := hrel
        replace hO := Lib.hid hO
        replace hB := Lib.hid hB
        replace hk := Lib.hid hk
        by_cases hlx : k < 64
        · have hlx' : (k : Int) < 64 := by omega
          have hpl := pre_len (s := s) (m := m) hlt (show k ≤ 64 by omega)
          have skip : selB s m k j = false → preP' s m j (k + 1) = preP' s m j k := fun h => by
            unfold preP'
            show allP s m j ++ (rowP s m j k ++ pixOf s m k j) = _
            rw [pix_no h, List.append_nil]
          have take : selB s m k j = true → preP' s m j (k + 1) = preP' s m j k ++ [((k : Int), (j : Int), m k j)] := fun h => by
            unfold preP'
            show allP s m j ++ (rowP s m j k ++ pixOf s m k j) = _
            rw [pix_yes h, List.append_assoc]
          have hsk := hs.out k j
          replace skip := Lib.hid skip
          replace take := Lib.hid take
          cases hc1 : spB a wd k with
          | false =>
            have hx := Lib.hid (fun w => hX.out k hlx w _ hc1)
            have e1 := Lib.hid (skip.out (selB_s (by rw [hsk, hc1]; rfl)))
            clear hsk hpl hc1
            go_wp2_with fail
            refine (hx.out _).mono ?_
            rintro e xw ⟨rfl, rfl⟩
            go_wp2
            go_roundw
            case rel => exact ⟨k + 1, by omega, by go_num, by rw [e1.out]; exact hO.out, hk.out, hB.out⟩
            case measure => simp [intOf]; omega
          | true =>
            have hx := Lib.hid (fun w => hX.out k hlx w _ hc1)
            cases hc2 : spB b hg j with
            | false =>
              have hy := Lib.hid (fun w => hY.out j hlt w _ hc2)
              have e1 := Lib.hid (skip.out (selB_s (by rw [hsk, hc1, hc2]; rfl)))
              clear hsk hpl hc1 hc2
              go_wp2_with fail
              refine (hx.out _).mono ?_
              rintro e xw ⟨rfl, rfl⟩
              go_wp2_with fail
              refine (hy.out _).mono ?_
              rintro e xw ⟨rfl, rfl⟩
              go_wp2
              go_roundw
              case rel => exact ⟨k + 1, by omega, by go_num, by rw [e1.out]; exact hO.out, hk.out, hB.out⟩
              case measure => simp [intOf]; omega
            | true =>
              have hy := Lib.hid (fun w => hY.out j hlt w _ hc2)
              obtain ⟨mv, hmv⟩ : ∃ q, m k j = q := ⟨_, rfl⟩
              have hM := Lib.hid (fun w => rMask_at x0 y0 z0 u0 x1 y1 z1 u1 x2 y2 z2 u2 A0 A1 A2 n0 c0 n1 c1 n2 c2 pr fr k j n w mv ((hm.out k j).trans hmv))
              rw [hc1, hc2] at hsk
              clear hc1 hc2
              go_wp2_with fail
              refine (hx.out _).mono ?_
              rintro e xw ⟨rfl, rfl⟩
              go_wp2_with fail
              refine (hy.out _).mono ?_
              rintro e xw ⟨rfl, rfl⟩
              go_wp2_with (refine wpList_load_row rfl 27 _ rfl _ rfl _ _ _ _ hk.out Try.underlying27 rfl triInfo ?_)
              refine (hM.out _).mono ?_
              rintro e w2 ⟨rfl, hb⟩
              replace hO := Lib.hid (own_call hO.out hb)
              replace hk := Lib.hid (hk.out.call hb)
              replace hB := Lib.hid (below_on hB.out hb)
              clear hb hM hx hy
              by_cases h0 : mv = 0
              · have hne : (mv != 0) = false := by rw [h0]; rfl
                have e1 := Lib.hid (skip.out (by unfold selB; rw [hmv, hne, Bool.and_false]))
                clear h0 hmv hsk hpl
                go_wp2
                go_roundw
                case rel => exact ⟨k + 1, by omega, by go_num, by rw [e1.out]; exact hO.out, hk.out, hB.out⟩
                case measure => simp [intOf]; omega
              · have hne : (mv != 0) = true := by simpa using h0
                have e1 := take.out (by unfold selB; rw [hmv, hne, Bool.and_true, hsk]; rfl)
                rw [hmv] at e1
                replace e1 := Lib.hid e1
                have hO' := Lib.hid (hO.out.alloc (.cells #[.int .i64 (k : Int), .int .i64 (j : Int), .int .i64 mv] 46))
                have hk' := Lib.hid (hk.out.alloc (.cells #[.int .i64 (k : Int), .int .i64 (j : Int), .int .i64 mv] 46))
                have hB' := Lib.hid (hB.out.alloc hB.out.size (.cells #[.int .i64 (k : Int), .int .i64 (j : Int), .int .i64 mv] 46))
                have hNb := Lib.hid (Blk.new w2 46 #[.int .i64 (k : Int), .int .i64 (j : Int), .int .i64 mv])
                clear h0 hmv hsk
                go_wp2_with (at_builtin; refine wpList_append_px rfl _ _ rfl (w.heap.size + 1) (preP' s m j k) _ rfl hO'.out w2.heap.size ((k : Int), (j : Int), mv) rfl hNb.out hpl (by have := hk'.out.lt; omega) ?_; intro v3 w3 hown hg3; replace hown := Lib.hid hown; replace hg3 := Lib.hid hg3)
                go_roundw
                case rel => exact ⟨k + 1, by omega, by go_num, by rw [e1.out]; exact hown.out, hk'.out.below hg3.out (by omega), hB'.out.trans (hg3.out.mono (by omega))⟩
                case measure => simp [intOf]; omega
        · obtain rfl : k = 64 := by omega
          rw [← allP_succ j] at hO
          clear hlx hk2
          go_wp2
          go_roundw
          case rel => exact ⟨j + 1, by omega, by go_num, hO.out, hk.out, hB.out⟩
          case measure => simp [intOf]; omega
    · obtain rfl : j = 64 := by omega
      rw [hLL.out] at hO
      clear hlt hj2
      obtain ⟨A, c, rfl, hP⟩ := own_px hO.out
      replace hP := Lib.hid hP
      clear hO
      go_wp2
      go_ret
      exact ⟨hB.out, A, c, rfl, hP.out⟩
end Go.Proofs.Ytgalpmiojgjkhaa
