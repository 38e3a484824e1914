/- PermutePermIsPermutation returns true for every length and state. -/
import Derived.Test.YthbhhodlggkegaaInv
import Derived.Test.YthbhhodlggkegaaPEx2
namespace Go.Proofs.Ythbhhodlggkegaa
open Go.RowKit
theorem swp_isP {n : Nat} {f : Nat → Int} (h : IsP n f) {i k : Nat} (hi : i < n) (hk : k < n) : IsP n (swp f i k) := by
  have val : ∀ j, swp f i k j = f (if j = k then i else if j = i then k else j) := fun j => by
    unfold swp upd
    by_cases e : j = k
    · rw [if_pos e, if_pos e]
    · rw [if_neg e, if_neg e]
      by_cases e2 : j = i
      · rw [if_pos e2, if_pos e2]
      · rw [if_neg e2, if_neg e2]
  have lt : ∀ j, j < n → (if j = k then i else if j = i then k else j) < n := fun j hj => by
    split
    · exact hi
    · split
      · exact hk
      · exact hj
  refine ⟨fun j hj => by rw [val]; exact h.rng _ (lt j hj), fun a b ha hb e => ?_⟩
  rw [val, val] at e
  have := h.inj _ _ (lt a ha) (lt b hb) e
  revert this
  split <;> split <;> (try split) <;> (try split) <;> omega
theorem runP_isP {n : Nat} : ∀ (j : Nat) (f : Nat → Int) (s : Int), j < n → IsP n f → IsP n (runP j f s).1
  | 0, _, _, _, h => h
  | j + 1, f, s, hj, h => by
    obtain ⟨b0, b1⟩ := belowK_bound s ((j : Int) + 2) (by omega)
    unfold runP
    exact runP_isP j _ _ (by omega) (swp_isP h hj (by omega))
theorem runP_state : ∀ (j : Nat) (f : Nat → Int) (s : Int), 0 ≤ s → s < 18446744073709551616 → (runP j f s).2 = (s + (j : Int) * 11400714819323198485) % 18446744073709551616
  | 0, _, s, h0, h1 => by show s = _; simp; omega
  | j + 1, f, s, h0, h1 => by
    obtain ⟨b0, b1⟩ := sI_bound s
    have e : belowS s ((j : Int) + 2) = sI s := by unfold belowS; rw [if_neg (by omega)]
    unfold runP
    rw [e, runP_state j _ _ b0 b1]
    unfold sI
    rw [IntKind.wrap_u64]
    omega
theorem id_isP (n : Nat) : IsP n (fun i => (i : Int)) := ⟨fun i hi => by omega, fun i j _ _ e => by omega⟩
theorem perm_no (n : Int) (s : Int) (h : n < 1 ∨ (1 ≤ n ∧ 4096 < n)) (w : World) :
    Calls Try.prog 14 #[.int .i64 n, .int .u64 s] w fun e w' => e = .returned (.tuple #[.slice none 0 0, .int .u64 s]) ∧ w = w' := by
  obtain h | ⟨h, g⟩ := h
  all_goals
    go_enter Try.func14, Try.ntmps14
    go_wp2
    go_returns
    exact ⟨rfl, rfl⟩
set_option maxHeartbeats 4000000 in
theorem law_no (n : Int) (s : Int) (h : n < 1 ∨ (1 ≤ n ∧ 4096 < n)) (w : World) :
    Calls Try.prog 7 #[.int .i64 n, .int .u64 s] w fun e w' => e = .returned (.bool true) ∧ Below w.heap.size w w' := by
  have hp := Lib.hid (fun w => perm_no n s h w)
  obtain h | ⟨h, g⟩ := h
  all_goals
    go_enter Try.func7, Try.ntmps7
    go_wp2_with fail
    refine (hp.out _).mono ?_
    rintro e w1 ⟨rfl, rfl⟩
    go_wp2_with fail
    refine (example_true _).mono ?_
    rintro e w2 ⟨rfl, hb⟩
    replace hb := Lib.hid hb
    go_wp2
    go_ret
    exact ⟨rfl, hb.out⟩
set_option maxRecDepth 100000 in
set_option maxHeartbeats 8000000 in
theorem law_yes (n : Nat) (h1 : 1 ≤ n) (h2 : n ≤ 4096) (s : Int) (s0 : 0 ≤ s) (s1 : s < 18446744073709551616) (w : World) :
    Calls Try.prog 7 #[.int .i64 (n : Int), .int .u64 s] w fun e w' => e = .returned (.bool true) ∧ Below w.heap.size w w' := by
  have hp := perm_yes n h1 h2 s w
  have hP := runP_isP (n - 1) (fun i => (i : Int)) s (by omega) (id_isP n)
  have hs := runP_state (n - 1) (fun i => (i : Int)) s s0 s1
  obtain ⟨S, hS⟩ : ∃ S, (runP (n - 1) (fun i => (i : Int)) s).2 = S := ⟨_, rfl⟩
  obtain ⟨F, hF⟩ : ∃ F, (runP (n - 1) (fun i => (i : Int)) s).1 = F := ⟨_, rfl⟩
  rw [hS, hF] at hp
  rw [hF] at hP
  rw [hS] at hs
  clear hS hF
  have n0 : (0 : Int) ≤ n := by omega
  have n1 : (1 : Int) ≤ n := by omega
  have n2 : (n : Int) ≤ 4096 := by omega
  have w1' : IntKind.i64.wrap ((n : Int) - 1) = (n : Int) - 1 := by rw [IntKind.wrap_i64]; omega
  have w2' : IntKind.u64.wrap ((n : Int) - 1) = (n : Int) - 1 := by rw [IntKind.wrap_u64]; omega
  have w3' : IntKind.u64.wrap (s + IntKind.u64.wrap (((n : Int) - 1) * 11400714819323198485)) = S := by
    rw [hs, IntKind.wrap_u64, IntKind.wrap_u64, show ((n - 1 : Nat) : Int) = (n : Int) - 1 by omega]
    omega
  have hmb : ∀ w : World, (Instr.makeSlice 41 (.int .i64 (n : Int)) (.int .i64 (n : Int))).run Try.prog w = .ok (.slice (some ⟨w.heap.size, 0, none⟩) n n) (w.alloc (.cells (rowB n (fun _ => false)) 4)) := fun w => by rw [make_bools n (by omega), made_rowB]
  replace hp := Lib.hid hp
  replace hP := Lib.hid hP
  clear hs s0 s1
  go_enter Try.func7, Try.ntmps7
  go_wp2_with fail
  refine hp.out.mono ?_
  rintro e W1 ⟨rfl, hB, hb⟩
  obtain ⟨q, hq⟩ : ∃ q, W1.heap.size = q := ⟨_, rfl⟩
  have lq : w.heap.size < q := hq ▸ hb.lt
  have ka := Lib.hid (hb.alloc (.cells (rowB n (fun _ => false)) 4))
  have kc : Hid (Blk (W1.alloc (.cells (rowB n (fun _ => false)) 4)) q 4 (rowB n (fun _ => false))) := Lib.hid (hq ▸ Blk.new W1 _ _)
  replace hB := Lib.hid (hB.alloc hB.size (.cells (rowB n (fun _ => false)) 4))
  clear hb hp
  go_wp2_with fail
  go_loopw [8] (fun i wr => ∃ (k : Nat) (p : Nat → Bool), k ≤ n ∧ i = .int .i64 k ∧ Hid (Marked n F k p) ∧ Blk wr w.heap.size 3 (rowOf n F) ∧ Blk wr q 4 (rowB n p) ∧ Below w.heap.size w wr)
    (fun i _ => n - (intOf i).toNat)
  case atStart => exact ⟨0, _, by omega, rfl, Lib.hid (marked_zero n F), ka.out, kc.out, hB.out⟩
  case round =>
    clear ka kc hB
    obtain ⟨k, p, hk, rfl, hM, ha, hc, hB⟩ := hrel
    replace ha := Lib.hid ha
    replace hc := Lib.hid hc
    replace hB := Lib.hid hB
    by_cases hlt : k < n
    · have hlt' : (k : Int) < n := by omega
      obtain ⟨r1, r2⟩ := hP.out.rng k hlt
      obtain ⟨m, hm⟩ : ∃ m : Nat, F k = (m : Int) := ⟨(F k).toNat, by omega⟩
      rw [hm] at r1 r2
      have hmn : m < n := by omega
      have hp := not_marked hP.out hM.out hlt hmn hm
      have c1 : wr.cell? ⟨w.heap.size, k, none⟩ = some (.int .i64 (m : Int)) := by rw [ha.out.cell, rowOf_get hlt, hm]
      have c2 : wr.cell? ⟨q, m, none⟩ = some (.bool false) := by rw [hc.out.cell, rowB_get hmn, hp]
      have f2 : wr.frozen? ⟨q, m, none⟩ = false := hc.out.frozen m
      have ha' := Lib.hid (ha.out.far (p := ⟨q, m, none⟩) (show w.heap.size ≠ q by omega) (.bool true))
      have hc' : Hid (Blk (wr.setCell ⟨q, m, none⟩ (.bool true)) q 4 (rowB n (updB p m true))) := Lib.hid (by rw [← rowB_set]; exact hc.out.set_ m _)
      have hB' := Lib.hid (hB.out.setCell (p := ⟨q, m, none⟩) (show w.heap.size ≤ q by omega) (.bool true))
      have hM2 := Lib.hid (marked_succ hM.out hm)
      replace hm := Lib.hid hm
      go_wp2
      go_roundw
      case rel => exact ⟨k + 1, _, by omega, by go_num, hM2, ha'.out, hc'.out, hB'.out⟩
      case measure => simp [intOf]; omega
    · have hlt' : (n : Int) ≤ k := by omega
      have hI := Lib.hid (isPermutation_yes n h1 h2 F hP.out w.heap.size wr ha.out)
      go_wp2_with fail
      refine hI.out.mono ?_
      rintro e W2 ⟨rfl, hb⟩
      replace hB := Lib.hid (below_on hB.out hb)
      clear hb
      go_wp2_with fail
      refine (example_true _).mono ?_
      rintro e W3 ⟨rfl, hb⟩
      replace hB := Lib.hid (below_on hB.out hb)
      clear hb
      go_wp2
      go_ret
      exact ⟨rfl, hB.out⟩
theorem law_perm (n s : Int) (s0 : 0 ≤ s) (s1 : s < 18446744073709551616) (w : World) :
    Calls Try.prog 7 #[.int .i64 n, .int .u64 s] w fun e w' => e = .returned (.bool true) ∧ Below w.heap.size w w' := by
  by_cases h : n < 1 ∨ (1 ≤ n ∧ 4096 < n)
  · exact law_no n s h w
  · obtain ⟨m, rfl⟩ : ∃ m : Nat, n = (m : Int) := ⟨n.toNat, by omega⟩
    exact law_yes m (by omega) (by omega) s s0 s1 w
end Go.Proofs.Ythbhhodlggkegaa
