/- BinningBins and BinningAscending return true for every scene. -/
import Derived.Test.YtimgjlogbkgiaaaBinsR
import Derived.Test.YtimgjlogbkgiaaaSame36
import Derived.Test.YtimgjlogbkgiaaaChain
namespace Go.Proofs.Ytimgjlogbkgiaaa
open Go.RowKit
attribute [local go_sem] Ext.cell
theorem tiles_nat (W H : Int) : ∃ K : Nat, tilesI W H = K ∧ K ≤ 64 := by
  have := tiles_bd W H
  exact ⟨(tilesI W H).toNat, by unfold tilesI; omega, by unfold tilesI; omega⟩
set_option maxHeartbeats 8000000 in
theorem BinningBins_big (A : Option Addr) (n c : Nat) (h : 50 < n) (W H : Int) (w : World) :
    Calls Try.prog 6 #[.agg #[.slice A n c, .int .i64 W, .int .i64 H]] w fun e w' => e = .returned (.bool true) ∧ Below w.heap.size w w' := by
  have hn : (50 : Int) < n := by omega
  have hk := Lib.hid (Blk.new w 42 #[.slice A n c, .int .i64 W, .int .i64 H])
  have hB : Hid (Below w.heap.size w (w.alloc (.cells #[.slice A n c, .int .i64 W, .int .i64 H] 42))) := Lib.hid (by go_grown)
  clear h
  go_enter Try.func6, Try.ntmps6
  have ck := hk.out.cell
  go_wp2_with fail
  refine (example_true _).mono ?_
  rintro e w4 ⟨rfl, hb⟩
  replace hB := Lib.hid (below_on hB.out hb)
  clear hb
  go_wp2
  go_ret
  exact ⟨rfl, hB.out⟩
set_option maxRecDepth 100000 in
set_option maxHeartbeats 16000000 in
theorem bins_law (A : Option Addr) (n c : Nat) (T : Nat → Array Value) (hn : n ≤ 50) (W H : Int) (K : Nat) (hK : tilesI W H = K) (hK64 : K ≤ 64) (w : World) (hT : TrisW w A n c T) :
    Calls Try.prog 6 #[.agg #[.slice A n c, .int .i64 W, .int .i64 H]] w fun e w' => e = .returned (.bool true) ∧ Below w.heap.size w w' := by
  obtain ⟨p, hp⟩ : ∃ p : Nat → Nat → Bool, ∀ t i : Nat, tcT (T i) W H t = p t i := ⟨_, fun _ _ => rfl⟩
  have hn2 : (n : Int) ≤ 50 := by omega
  have hK2 : (K : Int) ≤ 64 := by omega
  have hk := Lib.hid (Blk.new w 42 #[.slice A n c, .int .i64 W, .int .i64 H])
  have hB : Hid (Below w.heap.size w (w.alloc (.cells #[.slice A n c, .int .i64 W, .int .i64 H] 42))) := Lib.hid (by go_grown)
  have hb1 := Lib.hid (fun w hT => bins_any A n c T hn W H K hK hK64 p hp w hT)
  have hb2 := Lib.hid (fun w hT => rBins_any A n c T hn W H K hK hK64 p hp w hT)
  replace hT := Lib.hid (hT.call hB.out)
  clear hp hK
  go_enter Try.func6, Try.ntmps6
  have ck := hk.out.cell
  go_wp2_with fail
  generalize w.alloc (.cells #[.slice A n c, .int .i64 W, .int .i64 H] 42) = X at *
  have lk := hk.out.lt
  refine wp_region_noPanic ?_
  refine wp_region_held_drew (S := fun w' => ∃ n : Ext X (X.heap.size), w' = n.val) (by kernel_rfl) ⟨⟨X.drew, (Below.refl _ _).drew⟩, rfl⟩ (fun _ => ?_)
  refine held_quiets (fun _ _ _ _ _ h => h) (by kernel_rfl) ⟨⟨_, (((Below.refl _ _).drew).mono (Nat.le_refl _))⟩, rfl⟩ [0, 1, 2, 3, 4, 5, 7, 8, 9, 10, 11, 12] _ _ _ (by kernel_rfl) (by kernel_rfl) (of_decide_eq_true (by kernel_rfl)) ?_
  simp only [List.filterMap, List.getElem?_toArray, List.getElem?_cons_succ, List.getElem?_cons_zero]
  repeat (first | go_big_quiet_step (fail))
  refine wpQuiet_nil ?_
  refine held_heavy (i := 6) (by kernel_rfl) rfl (by rfl) (of_decide_eq_true (by kernel_rfl)) (fun K hK => ?_)
  go_simp
  refine (hb1.out _ (hT.out.call (Below.refl _ _).drew)).mono ?_
  rintro e U1 ⟨hv1, v1, rfl, hp1⟩
  have hbU1 : Below X.heap.size X U1 := (((Below.refl _ _).drew).trans (hv1.mono (Nat.le_refl _)))
  obtain ⟨A1, c1, rfl⟩ := hp1.form
  replace hp1 := Lib.hid (hp1.weak (Nat.zero_le _))
  refine hK _ _ ⟨⟨U1, (hbU1.mono (Nat.le_refl _))⟩, rfl⟩ ?_
  clear hK K
  try simp only [Act.put, List.setIfInBounds_toArray, List.set_cons_zero, List.set_cons_succ]
  refine held_heavy (i := 13) (by kernel_rfl) rfl (by rfl) (of_decide_eq_true (by kernel_rfl)) (fun K hK => ?_)
  go_simp
  refine (hb2.out _ ((hT.out.call (Below.refl _ _).drew).call hv1)).mono ?_
  rintro e U2 ⟨hv2, v2, rfl, hp2⟩
  have hbU2 : Below X.heap.size X U2 := (below_on hbU1 hv2)
  obtain ⟨A2, c2, rfl⟩ := hp2.form
  replace hp1 := Lib.hid (hp1.out.call hv2)
  replace hp2 := Lib.hid (hp2.weak (Nat.zero_le _))
  refine hK _ _ ⟨⟨U2, (hbU2.mono (Nat.le_refl _))⟩, rfl⟩ ?_
  clear hK K
  try simp only [Act.put, List.setIfInBounds_toArray, List.set_cons_zero, List.set_cons_succ]
  refine held_quiets (fun _ _ _ _ _ h => h) (by kernel_rfl) ⟨⟨_, (hbU2.mono (Nat.le_refl _))⟩, rfl⟩ [14, 15] _ _ _ (by kernel_rfl) (by kernel_rfl) (of_decide_eq_true (by kernel_rfl)) ?_
  simp only [List.filterMap, List.getElem?_toArray, List.getElem?_cons_succ, List.getElem?_cons_zero]
  repeat (first | go_big_quiet_step (fail))
  refine wpQuiet_nil ?_
  refine wpAnyH_done (by kernel_rfl) ?_ _
  refine NoPanic.normal ?_
  replace hB := Lib.hid (below_on hB.out hbU2)
  clear hbU1 hbU2 hv1 hv2 ck lk hk hT hb1 hb2
  go_wp2_with fail
  go_loopw [5] (fun i wr => ∃ k : Nat, k ≤ K ∧ i = .int .i64 k ∧ Below U2.heap.size U2 wr)
    (fun i _ => K - (intOf i).toNat)
  case atStart => exact ⟨0, by omega, rfl, Below.refl _ _⟩
  case round =>
    obtain ⟨k, hkk, rfl, hC⟩ := hrel
    by_cases hlt : k < K
    · have hlt' : (k : Int) < K := by omega
      have hk0 : (0 : Int) ≤ k := by omega
      obtain ⟨b1, cur1, B1, d1, rfl, q1, g1, s1⟩ := (hp1.out.call hC).get hlt
      obtain ⟨b2, cur2, B2, d2, rfl, q2, g2, s2⟩ := (hp2.out.call hC).get hlt
      have e1 : wr.cell? ⟨b1, k, none⟩ = some (.slice B1 (filt (p k) n).length d1) := by rw [q1.cell]; exact g1
      have e2 : wr.cell? ⟨b2, k, none⟩ = some (.slice B2 (filt (p k) n).length d2) := by rw [q2.cell]; exact g2
      have l1 := q1.lt
      have l2 := q2.lt
      replace s1 := Lib.hid s1
      replace s2 := Lib.hid s2
      replace hC := Lib.hid hC
      clear q1 q2 g1 g2
      go_wp2_with fail
      refine wp_region_noPanic ?_
      refine wp_region_held_drew (S := fun w' => ∃ n : Ext wr (wr.heap.size), w' = n.val) (by kernel_rfl) ⟨⟨wr.drew, (Below.refl _ _).drew⟩, rfl⟩ (fun _ => ?_)
      refine held_quiets (fun _ _ _ _ _ h => h) (by kernel_rfl) ⟨⟨_, (((Below.refl _ _).drew).mono (Nat.le_refl _))⟩, rfl⟩ [0, 1, 2, 3, 4, 5, 6, 7] _ _ _ (by kernel_rfl) (by kernel_rfl) (of_decide_eq_true (by kernel_rfl)) ?_
      simp only [List.filterMap, List.getElem?_toArray, List.getElem?_cons_succ, List.getElem?_cons_zero]
      repeat (first | go_big_quiet_step (fail))
      refine wpQuiet_nil ?_
      refine held_heavy (i := 8) (by kernel_rfl) rfl (by rfl) (of_decide_eq_true (by kernel_rfl)) (fun K hK => ?_)
      go_simp
      refine (same_sl _ (by have := filt_len (p k) n; omega) _ B1 B2 d1 d2 _ s1.out.drew s2.out.drew).mono ?_
      rintro e V3 ⟨rfl, hv3⟩
      have hbV3 : Below wr.heap.size wr V3 := (((Below.refl _ _).drew).trans (hv3.mono (Nat.le_refl _)))
      refine hK _ _ ⟨⟨V3, (hbV3.mono (Nat.le_refl _))⟩, rfl⟩ ?_
      clear hK K
      try simp only [Act.put, List.setIfInBounds_toArray, List.set_cons_zero, List.set_cons_succ]
      refine held_quiets (fun _ _ _ _ _ h => h) (by kernel_rfl) ⟨⟨_, (hbV3.mono (Nat.le_refl _))⟩, rfl⟩ [9] _ _ _ (by kernel_rfl) (by kernel_rfl) (of_decide_eq_true (by kernel_rfl)) ?_
      simp only [List.filterMap, List.getElem?_toArray, List.getElem?_cons_succ, List.getElem?_cons_zero]
      repeat (first | go_big_quiet_step (fail))
      refine wpQuiet_nil ?_
      refine wpAnyH_done (by kernel_rfl) ?_ _
      refine NoPanic.normal ?_
      replace hC := Lib.hid (below_on hC.out hbV3)
      clear hbV3 hv3 e1 e2 l1 l2 s1 s2
      go_wp2
      go_roundw
      case rel => exact ⟨k + 1, by omega, by go_num, hC.out⟩
      case measure => simp [intOf]; omega
    · have hlt' : (K : Int) ≤ k := by omega
      replace hB := Lib.hid (below_on hB.out hC)
      clear hC
      go_wp2_with fail
      refine (example_true _).mono ?_
      rintro e w4 ⟨rfl, hb⟩
      replace hB := Lib.hid (below_on hB.out hb)
      clear hb
      go_wp2
      go_ret
      exact ⟨rfl, hB.out⟩
theorem law_bins (A : Option Addr) (n c : Nat) (T : Nat → Array Value) (W H : Int) (w : World) (hT : TrisW w A n c T) :
    Calls Try.prog 6 #[.agg #[.slice A n c, .int .i64 W, .int .i64 H]] w fun e w' => e = .returned (.bool true) ∧ Below w.heap.size w w' := by
  obtain ⟨K, hK, hK64⟩ := tiles_nat W H
  rcases Nat.lt_or_ge 50 n with h | h
  · exact BinningBins_big A n c h W H w
  · exact bins_law A n c T h W H K hK hK64 w hT
end Go.Proofs.Ytimgjlogbkgiaaa
