/- Pixels of package coverage: the list of the rectangle's pixels with a mask. -/
import Derived.Test.YtgalpmiojgjkhaaPix
namespace Go.Proofs.Ytgalpmiojgjkhaa
open Go.RowKit
theorem lim_iff {a s k : Int} (h0 : 0 ≤ k) (h1 : k < 64) : spB a s k = true ↔ limL a s ≤ k ∧ k < limH a s := by
  unfold spB limL limH
  rw [decide_eq_true_eq]
  by_cases h : s ≤ 0
  · rw [if_pos h, if_pos h]; omega
  · rw [if_neg h, if_neg h]; split <;> omega
theorem lim_bd (a s : Int) : 0 ≤ limL a s ∧ limH a s ≤ 64 := by
  unfold limL limH
  by_cases h : s ≤ 0
  · rw [if_pos h, if_pos h]; omega
  · rw [if_neg h, if_neg h]; split <;> omega
theorem own_call {W W' : World} {base n k : Nat} {t : TypeId} {v : Value} {xs : List Value} (h : W.ownsRow base t k v n xs) (hb : Below W.heap.size W W') : W'.ownsRow base t k v n xs := by
  obtain ⟨h1, h2 | ⟨g, c, cur, e, h3, hg, rest⟩⟩ := h
  · exact ⟨h1, .inl h2⟩
  · exact ⟨h1, .inr ⟨g, c, cur, e, h3, (hb.block g (Blk.lt (t := t) (cs := cur) hg)).trans hg, rest⟩⟩
theorem limits_at (a s : Int) (h1 : -9223372036854775808 ≤ a) (h2 : s ≤ 9223372036854775807) (l r : Int) (w : World) (hl : limL a s = l) (hr : limH a s = r) :
    Calls Try.prog 33 #[.int .i64 a, .int .i64 s] w fun e w' => e = .returned (.tuple #[.int .i64 l, .int .i64 r]) ∧ w = w' := hl ▸ hr ▸ limits_any a s h1 h2 w
theorem selB_s {s : Nat → Nat → Bool} {m : Nat → Nat → Int} {x y : Nat} (h : s x y = false) : selB s m x y = false := by unfold selB; rw [h]; rfl
set_option maxRecDepth 100000 in
set_option maxHeartbeats 16000000 in
theorem pixels_none (x0 y0 z0 u0 x1 y1 z1 u1 x2 y2 z2 u2 : Int) (A0 A1 A2 : Option Addr) (n0 c0 n1 c1 n2 c2 : Nat) (pr : Int) (fr : Bool) (a b wd hg n : Int) (ha : -9223372036854775808 ≤ a) (hb : -9223372036854775808 ≤ b) (hw : wd ≤ 9223372036854775807) (hh : hg ≤ 9223372036854775807) (w : World) (hno : ¬ (limL a wd < limH a wd ∧ limL b hg < limH b hg)) :
    Calls Try.prog 25 #[.agg #[.int .i64 x0, .int .i64 y0, .int .i64 z0, .int .i64 u0, .slice A0 n0 c0, .int .i64 x1, .int .i64 y1, .int .i64 z1, .int .i64 u1, .slice A1 n1 c1, .int .i64 x2, .int .i64 y2, .int .i64 z2, .int .i64 u2, .slice A2 n2 c2, .int .i64 pr, .bool fr], .int .i64 a, .int .i64 b, .int .i64 wd, .int .i64 hg, .int .i64 n] w fun e w' => e = .returned (.slice none 0 0) ∧ Below w.heap.size w w' := by
  obtain ⟨p1, p2⟩ := lim_bd a wd
  obtain ⟨p3, p4⟩ := lim_bd b hg
  obtain ⟨l, hl⟩ : ∃ l, limL a wd = l := ⟨_, rfl⟩
  obtain ⟨r, hr⟩ : ∃ r, limH a wd = r := ⟨_, rfl⟩
  obtain ⟨t, ht⟩ : ∃ t, limL b hg = t := ⟨_, rfl⟩
  obtain ⟨o, ho⟩ : ∃ o, limH b hg = o := ⟨_, rfl⟩
  rw [hl, hr, ht, ho] at hno
  rw [hl] at p1
  rw [hr] at p2
  rw [ht] at p3
  rw [ho] at p4
  have hL := Lib.hid (fun w => limits_at a wd ha hw l r w hl hr)
  have hT := Lib.hid (fun w => limits_at b hg hb hh t o w ht ho)
  have hB : Hid (Below w.heap.size w (w.alloc (.cells #[.int .i64 x0, .int .i64 y0, .int .i64 z0, .int .i64 u0, .slice A0 n0 c0, .int .i64 x1, .int .i64 y1, .int .i64 z1, .int .i64 u1, .slice A1 n1 c1, .int .i64 x2, .int .i64 y2, .int .i64 z2, .int .i64 u2, .slice A2 n2 c2, .int .i64 pr, .bool fr] 27))) := Lib.hid (by go_grown)
  clear hl hr ht ho ha hb hw hh
  by_cases hto : t < o
  · have hlr : r ≤ l := by omega
    clear hno
    go_enter Try.func25, Try.ntmps25
    go_wp2_with fail
    refine (hL.out _).mono ?_
    rintro e xw ⟨rfl, rfl⟩
    go_wp2_with fail
    refine (hT.out _).mono ?_
    rintro e xw ⟨rfl, rfl⟩
    go_wp2_with fail
    go_loopw [17, 18, 19, 20] (fun v y _ _ wr => ∃ j : Nat, t ≤ j ∧ (j : Int) ≤ o ∧ y = .int .i64 j ∧ v = .slice none 0 0 ∧ Below w.heap.size w wr) (fun _ y _ _ _ => o.toNat - (intOf y).toNat)
    case atStart => exact ⟨t.toNat, by omega, by omega, by rw [Int.toNat_of_nonneg p3], rfl, hB.out⟩
    case round =>
      clear hB
      obtain ⟨j, hj1, hj2, rfl, rfl, hB⟩ := hrel
      replace hB := Lib.hid hB
      by_cases hlt : (j : Int) < o
      · go_wp2_with fail
        refine wp_loop_rounds 1 ?_
        rw [rounds_succ]
        go_wp2
        go_roundw
        case rel => exact ⟨j + 1, by omega, by omega, by go_num, rfl, hB.out⟩
        case measure => simp [intOf]; omega
      · have hlt' : o ≤ (j : Int) := by omega
        clear hlt
        go_wp2
        go_ret
        exact ⟨rfl, hB.out⟩
  · have hto' : o ≤ t := by omega
    clear hno hto
    go_enter Try.func25, Try.ntmps25
    go_wp2_with fail
    refine (hL.out _).mono ?_
    rintro e xw ⟨rfl, rfl⟩
    go_wp2_with fail
    refine (hT.out _).mono ?_
    rintro e xw ⟨rfl, rfl⟩
    go_wp2_with fail
    refine wp_loop_rounds 1 ?_
    rw [rounds_succ]
    go_wp2
    go_ret
    exact ⟨rfl, hB.out⟩
set_option maxRecDepth 100000 in
set_option maxHeartbeats 16000000 in
theorem pixels_some (x0 y0 z0 u0 x1 y1 z1 u1 x2 y2 z2 u2 : Int) (A0 A1 A2 : Option Addr) (n0 c0 n1 c1 n2 c2 : Nat) (pr : Int) (fr : Bool) (a b wd hg n : Int) (ha : -9223372036854775808 ≤ a) (hb : -9223372036854775808 ≤ b) (hw : wd ≤ 9223372036854775807) (hh : hg ≤ 9223372036854775807) (w : World) (l r t o : Nat) (hl : limL a wd = l) (hr : limH a wd = r) (ht : limL b hg = t) (ho : limH b hg = o) (hlr : l < r) (hto : t < o)
    (s : Nat → Nat → Bool) (hs : ∀ x y, x < 64 → y < 64 → s x y = (decide (l ≤ x ∧ x < r) && decide (t ≤ y ∧ y < o))) (m : Nat → Nat → Int) (hm : ∀ x y : Nat, maskI x0 y0 x1 y1 x2 y2 x y n = m x y) (L : List Px) (hLL : allP s m 64 = L) :
    Calls Try.prog 25 #[.agg #[.int .i64 x0, .int .i64 y0, .int .i64 z0, .int .i64 u0, .slice A0 n0 c0, .int .i64 x1, .int .i64 y1, .int .i64 z1, .int .i64 u1, .slice A1 n1 c1, .int .i64 x2, .int .i64 y2, .int .i64 z2, .int .i64 u2, .slice A2 n2 c2, .int .i64 pr, .bool fr], .int .i64 a, .int .i64 b, .int .i64 wd, .int .i64 hg, .int .i64 n] w fun e w' => Below w.heap.size w w' ∧ ∃ A c, e = .returned (.slice A L.length c) ∧ PSl w' A c L := by
  obtain ⟨-, p2⟩ := lim_bd a wd
  obtain ⟨-, p4⟩ := lim_bd b hg
  rw [hr] at p2
  rw [ho] at p4
  have hr64 : r ≤ 64 := by omega
  have ho64 : o ≤ 64 := by omega
  have hL := Lib.hid (fun w => limits_at a wd ha hw l r w hl hr)
  have hT := Lib.hid (fun w => limits_at b hg hb hh t o w ht ho)
  have hk := Lib.hid (Blk.new w 27 #[.int .i64 x0, .int .i64 y0, .int .i64 z0, .int .i64 u0, .slice A0 n0 c0, .int .i64 x1, .int .i64 y1, .int .i64 z1, .int .i64 u1, .slice A1 n1 c1, .int .i64 x2, .int .i64 y2, .int .i64 z2, .int .i64 u2, .slice A2 n2 c2, .int .i64 pr, .bool fr])
  have hB : Hid (Below w.heap.size w (w.alloc (.cells #[.int .i64 x0, .int .i64 y0, .int .i64 z0, .int .i64 u0, .slice A0 n0 c0, .int .i64 x1, .int .i64 y1, .int .i64 z1, .int .i64 u1, .slice A1 n1 c1, .int .i64 x2, .int .i64 y2, .int .i64 z2, .int .i64 u2, .slice A2 n2 c2, .int .i64 pr, .bool fr] 27))) := Lib.hid (by go_grown)
  obtain ⟨i, hi, hz, hsz, hb24⟩ := px_info
  replace hi := Lib.hid hi
  replace hz := Lib.hid hz
  replace hsz := Lib.hid hsz
  replace hb24 := Lib.hid hb24
  replace hLL := Lib.hid hLL
  replace hs := Lib.hid hs
  replace hm := Lib.hid hm
  have hin : ∀ x y : Nat, x < 64 → y < 64 → l ≤ x → x < r → t ≤ y → y < o → s x y = true := fun x y h1 h2 h3 h4 h5 h6 => by rw [hs.out x y h1 h2]; simp; omega
  have hout : ∀ x y : Nat, x < 64 → y < 64 → ¬ (l ≤ x ∧ x < r ∧ t ≤ y ∧ y < o) → s x y = false := fun x y h1 h2 h3 => by rw [hs.out x y h1 h2]; simp; omega
  replace hin := Lib.hid hin
  replace hout := Lib.hid hout
  clear hl hr ht ho ha hb hw hh p2 p4
  go_enter Try.func25, Try.ntmps25
  go_wp2_with fail
  refine (hL.out _).mono ?_
  rintro e xw ⟨rfl, rfl⟩
  go_wp2_with fail
  refine (hT.out _).mono ?_
  rintro e xw ⟨rfl, rfl⟩
  go_wp2_with fail
  go_loopw [17, 18, 19, 20] (fun v y _ _ wr => ∃ j : Nat, t ≤ j ∧ j ≤ o ∧ y = .int .i64 j ∧ wr.ownsRow (w.heap.size + 1) 46 3 v (allP s m j).length (flatP (allP s m j)) ∧ Blk wr w.heap.size 27 #[.int .i64 x0, .int .i64 y0, .int .i64 z0, .int .i64 u0, .slice A0 n0 c0, .int .i64 x1, .int .i64 y1, .int .i64 z1, .int .i64 u1, .slice A1 n1 c1, .int .i64 x2, .int .i64 y2, .int .i64 z2, .int .i64 u2, .slice A2 n2 c2, .int .i64 pr, .bool fr] ∧ Below w.heap.size w wr)
    (fun _ y _ _ _ => o - (intOf y).toNat)
  case atStart =>
    have e0 : allP s m t = [] := allP_none fun y hy x hx => selB_s (hout.out x y hx (by omega) (by omega))
    exact ⟨t, by omega, by omega, rfl, by rw [e0]; exact World.ownsRow_nil _ _ _ _, hk.out, hB.out⟩
  case round =>
    clear hB hk
    obtain ⟨j, hj1, hj2, rfl, hO, hk, hB⟩ := hrel
    replace hO := Lib.hid hO
    replace hB := Lib.hid hB
    replace hk := Lib.hid hk
    by_cases hlt : j < o
    · have hlt' : (j : Int) < o := by omega
      have hj64 : j < 64 := by omega
      go_wp2_with fail
      go_loopw [17, 19, 20] (fun v x _ wv => ∃ k : Nat, l ≤ k ∧ k ≤ r ∧ x = .int .i64 k ∧ wv.ownsRow (w.heap.size + 1) 46 3 v (preP' s m j k).length (flatP (preP' s m j k)) ∧ Blk wv w.heap.size 27 #[.int .i64 x0, .int .i64 y0, .int .i64 z0, .int .i64 u0, .slice A0 n0 c0, .int .i64 x1, .int .i64 y1, .int .i64 z1, .int .i64 u1, .slice A1 n1 c1, .int .i64 x2, .int .i64 y2, .int .i64 z2, .int .i64 u2, .slice A2 n2 c2, .int .i64 pr, .bool fr] ∧ Below w.heap.size w wv)
        (fun _ x _ _ => r - (intOf x).toNat)
      case atStart =>
        have e0 : preP' s m j l = allP s m j := by
          unfold preP'
          rw [rowP_none fun x hx => selB_s (hout.out x j (by omega) hj64 (by omega)), List.append_nil]
        exact ⟨l, by omega, by omega, rfl, by rw [e0]; exact hO.out, hk.out, hB.out⟩
      case round =>
        clear hB hk hO
        obtain ⟨k, hk1, hk2, rfl, hO, hk, hB⟩ := hrel
        replace hO := Lib.hid hO
        replace hB := Lib.hid hB
        replace hk := Lib.hid hk
        by_cases hlx : k < r
        · have hlx' : (k : Int) < r := by omega
          have hk64 : k < 64 := by omega
          have hsel := hin.out k j hk64 hj64 hk1 hlx hj1 hlt
          have hpl := pre_len (s := s) (m := m) hj64 (show k ≤ 64 by omega)
          obtain ⟨mv, hmv⟩ : ∃ q, m k j = q := ⟨_, rfl⟩
          have hM := Lib.hid (fun w => mask_at x0 y0 z0 u0 x1 y1 z1 u1 x2 y2 z2 u2 A0 A1 A2 n0 c0 n1 c1 n2 c2 pr fr k j n w mv ((hm.out k j).trans hmv))
          go_wp2_with (refine wpList_load_row rfl 27 _ rfl _ rfl _ _ _ _ hk.out Try.underlying27 rfl triInfo ?_)
          refine (hM.out _).mono ?_
          rintro e w2 ⟨rfl, hb⟩
          replace hO := Lib.hid (own_call hO.out hb)
          replace hk := Lib.hid (hk.out.call hb)
          replace hB := Lib.hid (below_on hB.out hb)
          clear hb hM
          by_cases h0 : mv = 0
          · have hne : (mv != 0) = false := by rw [h0]; rfl
            have e1 : preP' s m j (k + 1) = preP' s m j k := by
              unfold preP'
              show allP s m j ++ (rowP s m j k ++ pixOf s m k j) = _
              rw [pix_no (by unfold selB; rw [hmv, hne, Bool.and_false]), List.append_nil]
            replace e1 := Lib.hid e1
            clear h0 hmv hsel hpl
            go_wp2
            go_roundw
            case rel => exact ⟨k + 1, by omega, by omega, by go_num, by rw [e1.out]; exact hO.out, hk.out, hB.out⟩
            case measure => simp [intOf]; omega
          · have hne : (mv != 0) = true := by simpa using h0
            have e1 : preP' s m j (k + 1) = preP' s m j k ++ [((k : Int), (j : Int), mv)] := by
              unfold preP'
              show allP s m j ++ (rowP s m j k ++ pixOf s m k j) = _
              rw [pix_yes (by unfold selB; rw [hmv, hne, Bool.and_true]; exact hsel), hmv, List.append_assoc]
            replace e1 := Lib.hid e1
            have hO' := Lib.hid (hO.out.alloc (.cells #[.int .i64 (k : Int), .int .i64 (j : Int), .int .i64 mv] 46))
            have hk' := Lib.hid (hk.out.alloc (.cells #[.int .i64 (k : Int), .int .i64 (j : Int), .int .i64 mv] 46))
            have hB' := Lib.hid (hB.out.alloc hB.out.size (.cells #[.int .i64 (k : Int), .int .i64 (j : Int), .int .i64 mv] 46))
            have hNb := Lib.hid (Blk.new w2 46 #[.int .i64 (k : Int), .int .i64 (j : Int), .int .i64 mv])
            clear h0 hmv hsel
            go_wp2_with (at_builtin; refine wpList_append_px rfl _ _ rfl (w.heap.size + 1) (preP' s m j k) _ rfl hO'.out w2.heap.size ((k : Int), (j : Int), mv) rfl hNb.out hpl (by have := hk'.out.lt; omega) ?_; intro v3 w3 hown hg3; replace hown := Lib.hid hown; replace hg3 := Lib.hid hg3)
            go_roundw
            case rel => exact ⟨k + 1, by omega, by omega, by go_num, by rw [e1.out]; exact hown.out, hk'.out.below hg3.out (by omega), hB'.out.trans (hg3.out.mono (by omega))⟩
            case measure => simp [intOf]; omega
        · have hlx' : (r : Int) ≤ k := by omega
          have hkr : k = r := by omega
          have e1 : preP' s m j k = allP s m (j + 1) := by
            rw [hkr]
            unfold preP'
            show _ = allP s m j ++ rowP s m j 64
            rw [rowP_stay (b := 64) hr64 fun x h1 h2 => selB_s (hout.out x j (by omega) hj64 (by omega))]
          rw [e1] at hO
          clear e1 hkr
          go_wp2
          go_roundw
          case rel => exact ⟨j + 1, by omega, by omega, by go_num, hO.out, hk.out, hB.out⟩
          case measure => simp [intOf]; omega
    · have hlt' : (o : Int) ≤ j := by omega
      have hjo : j = o := by omega
      have e1 : allP s m j = L := by
        rw [← hLL.out, hjo, allP_stay (b := 64) ho64 fun y h1 h2 x hx => selB_s (hout.out x y hx (by omega) (by omega))]
      rw [e1] at hO
      obtain ⟨A, c, rfl, hP⟩ := own_px hO.out
      replace hP := Lib.hid hP
      clear hO hjo e1
      go_wp2
      go_ret
      exact ⟨hB.out, A, c, rfl, hP.out⟩
end Go.Proofs.Ytgalpmiojgjkhaa
