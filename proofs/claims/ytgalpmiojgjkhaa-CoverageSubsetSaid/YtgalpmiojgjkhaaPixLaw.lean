/- CoveragePixels returns true for every triangle, rectangle and number of samples. -/
import Derived.Test.YtgalpmiojgjkhaaPixelsR
import Derived.Test.YtgalpmiojgjkhaaSame35
import Derived.Test.YtgalpmiojgjkhaaCEx
import Derived.Test.YtgalpmiojgjkhaaChain
namespace Go.Proofs.Ytgalpmiojgjkhaa
open Go.RowKit
attribute [local go_sem] Ext.cell
theorem mask_no {x0 y0 x1 y1 x2 y2 : Int} (h : validB x0 y0 x1 y1 x2 y2 = false) (x y n : Int) : maskI x0 y0 x1 y1 x2 y2 x y n = 0 := by
  unfold maskI
  rw [maskN_zero fun i _ => by unfold smB covB; rw [h, Bool.false_and, Bool.and_false]]
  rfl
theorem pixels_any (x0 y0 z0 u0 x1 y1 z1 u1 x2 y2 z2 u2 : Int) (A0 A1 A2 : Option Addr) (n0 c0 n1 c1 n2 c2 : Nat) (pr : Int) (fr : Bool) (a b wd hg n : Int) (ha : -9223372036854775808 ≤ a) (hb : -9223372036854775808 ≤ b) (hw : wd ≤ 9223372036854775807) (hh : hg ≤ 9223372036854775807) (w : World)
    (s : Nat → Nat → Bool) (hs : ∀ x y : Nat, s x y = (spB a wd x && spB b hg y)) (m : Nat → Nat → Int) (hm : ∀ x y : Nat, maskI x0 y0 x1 y1 x2 y2 x y n = m x y) (L : List Px) (hLL : allP s m 64 = L) :
    Calls Try.prog 25 #[.agg #[.int .i64 x0, .int .i64 y0, .int .i64 z0, .int .i64 u0, .slice A0 n0 c0, .int .i64 x1, .int .i64 y1, .int .i64 z1, .int .i64 u1, .slice A1 n1 c1, .int .i64 x2, .int .i64 y2, .int .i64 z2, .int .i64 u2, .slice A2 n2 c2, .int .i64 pr, .bool fr], .int .i64 a, .int .i64 b, .int .i64 wd, .int .i64 hg, .int .i64 n] w fun e w' => Below w.heap.size w w' ∧ ∃ A c, e = .returned (.slice A L.length c) ∧ PSl w' A c L := by
  obtain ⟨p1, p2⟩ := lim_bd a wd
  obtain ⟨p3, p4⟩ := lim_bd b hg
  by_cases hno : limL a wd < limH a wd ∧ limL b hg < limH b hg
  · obtain ⟨l, hl⟩ : ∃ l : Nat, limL a wd = l := ⟨(limL a wd).toNat, by omega⟩
    obtain ⟨r, hr⟩ : ∃ r : Nat, limH a wd = r := ⟨(limH a wd).toNat, by omega⟩
    obtain ⟨t, ht⟩ : ∃ t : Nat, limL b hg = t := ⟨(limL b hg).toNat, by omega⟩
    obtain ⟨o, ho⟩ : ∃ o : Nat, limH b hg = o := ⟨(limH b hg).toNat, by omega⟩
    refine pixels_some x0 y0 z0 u0 x1 y1 z1 u1 x2 y2 z2 u2 A0 A1 A2 n0 c0 n1 c1 n2 c2 pr fr a b wd hg n ha hb hw hh w l r t o hl hr ht ho (by omega) (by omega) s (fun x y hx hy => ?_) m hm L hLL
    have i1 := lim_iff (a := a) (s := wd) (k := x) (by omega) (by omega)
    have i2 := lim_iff (a := b) (s := hg) (k := y) (by omega) (by omega)
    rw [hl, hr] at i1
    rw [ht, ho] at i2
    rw [hs, Bool.eq_iff_iff, Bool.and_eq_true, Bool.and_eq_true, i1, i2, decide_eq_true_eq, decide_eq_true_eq]
    omega
  · have e : L = [] := by
      rw [← hLL]
      refine allP_none fun y hy x hx => selB_s ?_
      have i1 := lim_iff (a := a) (s := wd) (k := x) (by omega) (by omega)
      have i2 := lim_iff (a := b) (s := hg) (k := y) (by omega) (by omega)
      rw [hs, ← Bool.not_eq_true, Bool.and_eq_true, i1, i2]
      omega
    subst e
    exact (pixels_none x0 y0 z0 u0 x1 y1 z1 u1 x2 y2 z2 u2 A0 A1 A2 n0 c0 n1 c1 n2 c2 pr fr a b wd hg n ha hb hw hh w hno).mono fun e w' ⟨h1, h2⟩ => ⟨h2, none, 0, h1, fun _ => ⟨rfl, rfl⟩, fun h => absurd h (Nat.lt_irrefl _)⟩
theorem rPixels_any (x0 y0 z0 u0 x1 y1 z1 u1 x2 y2 z2 u2 : Int) (A0 A1 A2 : Option Addr) (n0 c0 n1 c1 n2 c2 : Nat) (pr : Int) (fr : Bool) (a b wd hg n : Int) (ha : -9223372036854775808 ≤ a) (hb : -9223372036854775808 ≤ b) (hw : wd ≤ 9223372036854775807) (hh : hg ≤ 9223372036854775807) (w : World)
    (s : Nat → Nat → Bool) (hs : ∀ x y : Nat, s x y = (spB a wd x && spB b hg y)) (m : Nat → Nat → Int) (hm : ∀ x y : Nat, maskI x0 y0 x1 y1 x2 y2 x y n = m x y) (L : List Px) (hLL : allP s m 64 = L) :
    Calls Try.prog 26 #[.agg #[.int .i64 x0, .int .i64 y0, .int .i64 z0, .int .i64 u0, .slice A0 n0 c0, .int .i64 x1, .int .i64 y1, .int .i64 z1, .int .i64 u1, .slice A1 n1 c1, .int .i64 x2, .int .i64 y2, .int .i64 z2, .int .i64 u2, .slice A2 n2 c2, .int .i64 pr, .bool fr], .int .i64 a, .int .i64 b, .int .i64 wd, .int .i64 hg, .int .i64 n] w fun e w' => Below w.heap.size w w' ∧ ∃ A c, e = .returned (.slice A L.length c) ∧ PSl w' A c L := by
  cases hv : validB x0 y0 x1 y1 x2 y2 with
  | true => exact rPixels_yes x0 y0 z0 u0 x1 y1 z1 u1 x2 y2 z2 u2 A0 A1 A2 n0 c0 n1 c1 n2 c2 pr fr a b wd hg n ha hb hw hh w hv s hs m hm L hLL
  | false =>
    have e : L = [] := by
      rw [← hLL]
      refine allP_none fun y hy x hx => ?_
      unfold selB
      rw [← hm, mask_no hv]
      simp
    subst e
    exact (rPixels_no x0 y0 z0 u0 x1 y1 z1 u1 x2 y2 z2 u2 A0 A1 A2 n0 c0 n1 c1 n2 c2 pr fr a b wd hg n w hv).mono fun e w' ⟨⟨q, h1⟩, h2⟩ => ⟨h2, some q, 0, h1, nofun, fun h => absurd h (Nat.lt_irrefl _)⟩
set_option maxRecDepth 100000 in
set_option maxHeartbeats 16000000 in
theorem law_pixels (x0 y0 z0 u0 x1 y1 z1 u1 x2 y2 z2 u2 : Int) (A0 A1 A2 : Option Addr) (n0 c0 n1 c1 n2 c2 : Nat) (pr : Int) (fr : Bool) (a b wd hg n : Int) (ha : -9223372036854775808 ≤ a) (hb : -9223372036854775808 ≤ b) (hw : wd ≤ 9223372036854775807) (hh : hg ≤ 9223372036854775807) (w : World) :
    Calls Try.prog 7 #[.agg #[.int .i64 x0, .int .i64 y0, .int .i64 z0, .int .i64 u0, .slice A0 n0 c0, .int .i64 x1, .int .i64 y1, .int .i64 z1, .int .i64 u1, .slice A1 n1 c1, .int .i64 x2, .int .i64 y2, .int .i64 z2, .int .i64 u2, .slice A2 n2 c2, .int .i64 pr, .bool fr], .int .i64 a, .int .i64 b, .int .i64 wd, .int .i64 hg, .int .i64 n] w fun e w' => e = .returned (.bool true) ∧ Below w.heap.size w w' := by
  obtain ⟨s, hs⟩ : ∃ s : Nat → Nat → Bool, ∀ x y : Nat, s x y = (spB a wd x && spB b hg y) := ⟨_, fun _ _ => rfl⟩
  obtain ⟨m, hm⟩ : ∃ m : Nat → Nat → Int, ∀ x y : Nat, maskI x0 y0 x1 y1 x2 y2 x y n = m x y := ⟨_, fun _ _ => rfl⟩
  have hlen := all_len (s := s) (m := m)
  obtain ⟨L, hLL⟩ : ∃ L, allP s m 64 = L := ⟨_, rfl⟩
  rw [hLL] at hlen
  have hP := Lib.hid (fun w => pixels_any x0 y0 z0 u0 x1 y1 z1 u1 x2 y2 z2 u2 A0 A1 A2 n0 c0 n1 c1 n2 c2 pr fr a b wd hg n ha hb hw hh w s hs m hm L hLL)
  have hR := Lib.hid (fun w => rPixels_any x0 y0 z0 u0 x1 y1 z1 u1 x2 y2 z2 u2 A0 A1 A2 n0 c0 n1 c1 n2 c2 pr fr a b wd hg n ha hb hw hh w s hs m hm L hLL)
  clear hLL hs hm ha hb hw hh
  have hk := Lib.hid (Blk.new w 27 #[.int .i64 x0, .int .i64 y0, .int .i64 z0, .int .i64 u0, .slice A0 n0 c0, .int .i64 x1, .int .i64 y1, .int .i64 z1, .int .i64 u1, .slice A1 n1 c1, .int .i64 x2, .int .i64 y2, .int .i64 z2, .int .i64 u2, .slice A2 n2 c2, .int .i64 pr, .bool fr])
  have hB : Hid (Below w.heap.size w (w.alloc (.cells #[.int .i64 x0, .int .i64 y0, .int .i64 z0, .int .i64 u0, .slice A0 n0 c0, .int .i64 x1, .int .i64 y1, .int .i64 z1, .int .i64 u1, .slice A1 n1 c1, .int .i64 x2, .int .i64 y2, .int .i64 z2, .int .i64 u2, .slice A2 n2 c2, .int .i64 pr, .bool fr] 27))) := Lib.hid (by go_grown)
  go_enter Try.func7, Try.ntmps7
  go_wp2_with fail
  generalize w.alloc (.cells #[.int .i64 x0, .int .i64 y0, .int .i64 z0, .int .i64 u0, .slice A0 n0 c0, .int .i64 x1, .int .i64 y1, .int .i64 z1, .int .i64 u1, .slice A1 n1 c1, .int .i64 x2, .int .i64 y2, .int .i64 z2, .int .i64 u2, .slice A2 n2 c2, .int .i64 pr, .bool fr] 27) = X at *
  have lk := hk.out.lt
  refine wp_region_noPanic ?_
  refine wp_region_held_drew (S := fun w' => ∃ n : Ext X (X.heap.size), w' = n.val) (by kernel_rfl) ⟨⟨X.drew, (Below.refl _ _).drew⟩, rfl⟩ (fun _ => ?_)
  refine held_quiets (fun _ _ _ _ _ h => h) (by kernel_rfl) ⟨⟨_, (((Below.refl _ _).drew).mono (Nat.le_refl _))⟩, rfl⟩ [0, 1, 2, 3, 4, 5, 7, 8, 9, 10, 11, 12] _ _ _ (by kernel_rfl) (by kernel_rfl) (of_decide_eq_true (by kernel_rfl)) ?_
  simp only [List.filterMap, List.getElem?_toArray, List.getElem?_cons_succ, List.getElem?_cons_zero]
  repeat (first | (go_big_quiet_want; refine quiet_load_row 27 _ rfl _ rfl _ _ _ hk.out (by first | assumption | omega) Try.underlying27 rfl triInfo ?_; simp only [Act.put, List.setIfInBounds_toArray, List.set_cons_zero, List.set_cons_succ]; go_big_quiet_on) | go_big_quiet_step (fail))
  refine wpQuiet_nil ?_
  refine held_heavy (i := 6) (by kernel_rfl) rfl (by rfl) (of_decide_eq_true (by kernel_rfl)) (fun K hK => ?_)
  go_simp
  refine (hP.out _).mono ?_
  rintro e U1 ⟨hv1, A, ca, rfl, hp⟩
  have hbU1 : Below X.heap.size X U1 := (((Below.refl _ _).drew).trans (hv1.mono (Nat.le_refl _)))
  replace hp := Lib.hid hp
  refine hK _ _ ⟨⟨U1, (hbU1.mono (Nat.le_refl _))⟩, rfl⟩ ?_
  clear hK K
  try simp only [Act.put, List.setIfInBounds_toArray, List.set_cons_zero, List.set_cons_succ]
  refine held_heavy (i := 13) (by kernel_rfl) rfl (by rfl) (of_decide_eq_true (by kernel_rfl)) (fun K hK => ?_)
  go_simp
  refine (hR.out _).mono ?_
  rintro e U2 ⟨hv2, B, cb, rfl, hq⟩
  have hbU2 : Below X.heap.size X U2 := (below_on hbU1 hv2)
  replace hp := Lib.hid (hp.out.call hv2)
  replace hq := Lib.hid hq
  refine hK _ _ ⟨⟨U2, (hbU2.mono (Nat.le_refl _))⟩, rfl⟩ ?_
  clear hK K
  try simp only [Act.put, List.setIfInBounds_toArray, List.set_cons_zero, List.set_cons_succ]
  refine held_heavy (i := 14) (by kernel_rfl) rfl (by rfl) (of_decide_eq_true (by kernel_rfl)) (fun K hK => ?_)
  go_simp
  refine (samePx L hlen A B ca cb _ hp.out hq.out).mono ?_
  rintro e U3 ⟨rfl, hv3⟩
  have hbU3 : Below X.heap.size X U3 := (below_on hbU2 hv3)
  refine hK _ _ ⟨⟨U3, (hbU3.mono (Nat.le_refl _))⟩, rfl⟩ ?_
  clear hK K
  try simp only [Act.put, List.setIfInBounds_toArray, List.set_cons_zero, List.set_cons_succ]
  refine held_quiets (fun _ _ _ _ _ h => h) (by kernel_rfl) ⟨⟨_, (hbU3.mono (Nat.le_refl _))⟩, rfl⟩ [15] _ _ _ (by kernel_rfl) (by kernel_rfl) (of_decide_eq_true (by kernel_rfl)) ?_
  simp only [List.filterMap, List.getElem?_toArray, List.getElem?_cons_succ, List.getElem?_cons_zero]
  repeat (first | (go_big_quiet_want; refine quiet_load_row 27 _ rfl _ rfl _ _ _ hk.out (by first | assumption | omega) Try.underlying27 rfl triInfo ?_; simp only [Act.put, List.setIfInBounds_toArray, List.set_cons_zero, List.set_cons_succ]; go_big_quiet_on) | go_big_quiet_step (fail))
  refine wpQuiet_nil ?_
  refine held_heavy (i := 16) (by kernel_rfl) rfl (by rfl) (of_decide_eq_true (by kernel_rfl)) (fun K hK => ?_)
  go_simp
  refine (example_true _).mono ?_
  rintro e U4 ⟨rfl, hv4⟩
  have hbU4 : Below X.heap.size X U4 := (below_on hbU3 hv4)
  refine hK _ _ ⟨⟨U4, (hbU4.mono (Nat.le_refl _))⟩, rfl⟩ ?_
  clear hK K
  try simp only [Act.put, List.setIfInBounds_toArray, List.set_cons_zero, List.set_cons_succ]
  refine held_quiets (fun _ _ _ _ _ h => h) (by kernel_rfl) ⟨⟨_, (hbU4.mono (Nat.le_refl _))⟩, rfl⟩ [17, 18] _ _ _ (by kernel_rfl) (by kernel_rfl) (of_decide_eq_true (by kernel_rfl)) ?_
  simp only [List.filterMap, List.getElem?_toArray, List.getElem?_cons_succ, List.getElem?_cons_zero]
  repeat (first | (go_big_quiet_want; refine quiet_load_row 27 _ rfl _ rfl _ _ _ hk.out (by first | assumption | omega) Try.underlying27 rfl triInfo ?_; simp only [Act.put, List.setIfInBounds_toArray, List.set_cons_zero, List.set_cons_succ]; go_big_quiet_on) | go_big_quiet_step (fail))
  refine wpQuiet_nil ?_
  refine wpAnyH_done (by kernel_rfl) ?_ _
  refine NoPanic.normal ?_
  replace hB := Lib.hid (below_on hB.out hbU4)
  clear hbU1 hbU2 hbU3 hbU4
  go_wp2
  go_ret
  exact ⟨rfl, hB.out⟩
end Go.Proofs.Ytgalpmiojgjkhaa
