/- Inverse of package permute at a permutation, with what it returns. -/
import Derived.Test.YthbhhodlggkegaaInv
namespace Go.Proofs.Ythbhhodlggkegaa
open Go.RowKit
/-- g turns back the first k numbers of f. -/
def Turned (k : Nat) (f g : Nat → Int) : Prop := ∀ i, i < k → g (f i).toNat = (i : Int)
theorem turned_zero (f g : Nat → Int) : Turned 0 f g := fun i hi => absurd hi (Nat.not_lt_zero i)
theorem turned_succ {n k m : Nat} {f g : Nat → Int} (hP : IsP n f) (h : Turned k f g) (hk : k < n) (hm : f k = (m : Int)) : Turned (k + 1) f (upd g m (k : Int)) := fun i hi => by
  unfold upd
  by_cases e : i = k
  · subst e; rw [hm]; simp
  · have hne : (f i).toNat ≠ m := fun hh => by
      have r := (hP.rng i (by omega)).1
      have : f i = f k := by omega
      exact e (hP.inj i k (by omega) hk this)
    rw [if_neg hne]
    exact h i (by omega)
/-- Each number below n is met. -/
def Surj (n : Nat) (f : Nat → Int) : Prop := ∀ j, j < n → ∃ i, i < n ∧ f i = (j : Int)
theorem swp_at (f : Nat → Int) (i k j : Nat) : swp f i k j = f (if j = k then i else if j = i then k else j) := by
  unfold swp upd
  by_cases e : j = k
  · rw [if_pos e, if_pos e]
  · rw [if_neg e, if_neg e]
    by_cases e2 : j = i
    · rw [if_pos e2, if_pos e2]
    · rw [if_neg e2, if_neg e2]
theorem swp_surj {n : Nat} {f : Nat → Int} (h : Surj n f) {i k : Nat} (hi : i < n) (hk : k < n) : Surj n (swp f i k) := fun j hj => by
  obtain ⟨a, ha, he⟩ := h j hj
  by_cases e : a = i
  · exact ⟨k, hk, by rw [swp_at, if_pos rfl, ← e]; exact he⟩
  · by_cases e2 : a = k
    · by_cases e3 : i = k
      · exact absurd (e2.trans e3.symm) e
      · exact ⟨i, hi, by rw [swp_at, if_neg e3, if_pos rfl, ← e2]; exact he⟩
    · exact ⟨a, ha, by rw [swp_at, if_neg e2, if_neg e]; exact he⟩
theorem runP_surj {n : Nat} : ∀ (j : Nat) (f : Nat → Int) (s : Int), j < n → Surj n f → Surj n (runP j f s).1
  | 0, _, _, _, h => h
  | j + 1, f, s, hj, h => by
    obtain ⟨b0, b1⟩ := belowK_bound s ((j : Int) + 2) (by omega)
    unfold runP
    exact runP_surj j _ _ (by omega) (swp_surj h hj (by omega))
theorem id_surj (n : Nat) : Surj n (fun i => (i : Int)) := fun j hj => ⟨j, hj, rfl⟩
/-- The inverse is a permutation, too. -/
theorem turned_isP {n : Nat} {f g : Nat → Int} (h : Turned n f g) (hs : Surj n f) : IsP n g := by
  refine ⟨fun j hj => ?_, fun a b ha hb e => ?_⟩
  · obtain ⟨i, hi, he⟩ := hs j hj
    have := h i hi
    rw [he] at this
    simp only [Int.toNat_natCast] at this
    rw [this]
    omega
  · obtain ⟨i, hi, he⟩ := hs a ha
    obtain ⟨l, hl, hel⟩ := hs b hb
    have h1 := h i hi
    have h2 := h l hl
    rw [he] at h1
    rw [hel] at h2
    simp only [Int.toNat_natCast] at h1 h2
    have : i = l := by omega
    subst this
    omega
set_option maxRecDepth 100000 in
set_option maxHeartbeats 8000000 in
theorem inverse_content (n : Nat) (h1 : 1 ≤ n) (h2 : n ≤ 4096) (f : Nat → Int) (hP : IsP n f) (B : Nat) (w : World) (hb : Blk w B 3 (rowOf n f)) :
    Calls Try.prog 18 #[.slice (some ⟨B, 0, none⟩) n n] w fun e w' => e = .returned (.tuple #[.slice (some ⟨w.heap.size, 0, none⟩) n n, .int .i64 0]) ∧ Below w.heap.size w w' ∧ ∃ g, Blk w' w.heap.size 3 (rowOf n g) ∧ Turned n f g := by
  have n0 : (0 : Int) ≤ n := by omega
  have n1 : (1 : Int) ≤ n := by omega
  have n2 : (n : Int) ≤ 4096 := by omega
  have hmk : ∀ w : World, (Instr.makeSlice 27 (.int .i64 (n : Int)) (.int .i64 (n : Int))).run Try.prog w = .ok (.slice (some ⟨w.heap.size, 0, none⟩) n n) (w.alloc (.cells (rowOf n (fun _ => 0)) 3)) := fun w => make_row n h2 w
  have hmb : ∀ w : World, (Instr.makeSlice 41 (.int .i64 (n : Int)) (.int .i64 (n : Int))).run Try.prog w = .ok (.slice (some ⟨w.heap.size, 0, none⟩) n n) (w.alloc (.cells (rowB n (fun _ => false)) 4)) := fun w => by rw [make_bools n (by omega), made_rowB]
  have lB := hb.lt
  have ka := Lib.hid ((hb.alloc (.cells (rowOf n (fun _ => 0)) 3)).alloc (.cells (rowB n (fun _ => false)) 4))
  have kb := Lib.hid ((Blk.new w 3 (rowOf n (fun _ => 0))).alloc (.cells (rowB n (fun _ => false)) 4))
  have kc := Lib.hid (Blk.new1 w 4 (rowB n (fun _ => false)) (.cells (rowOf n (fun _ => 0)) 3))
  have hB : Hid (Below w.heap.size w ((w.alloc (.cells (rowOf n (fun _ => 0)) 3)).alloc (.cells (rowB n (fun _ => false)) 4))) := Lib.hid (by go_grown)
  replace hP := Lib.hid hP
  clear hb
  go_enter Try.func18, Try.ntmps18
  go_wp2_with fail
  go_loopw [6, 7, 16] (fun _ _ i wr => ∃ (k : Nat) (g : Nat → Int) (p : Nat → Bool), k ≤ n ∧ i = .int .i64 k ∧ Hid (Marked n f k p) ∧ Hid (Turned k f g) ∧ Blk wr B 3 (rowOf n f) ∧ Blk wr w.heap.size 3 (rowOf n g) ∧ Blk wr (w.heap.size + 1) 4 (rowB n p) ∧ Below w.heap.size w wr)
    (fun _ _ i _ => n - (intOf i).toNat)
  case atStart => exact ⟨0, _, _, by omega, rfl, Lib.hid (marked_zero n f), Lib.hid (turned_zero f _), ka.out, kb.out, kc.out, hB.out⟩
  case round =>
    clear ka kb kc hB
    obtain ⟨k, g, p, hk, rfl, hM, hT, ha, hb, hc, hB⟩ := hrel
    replace ha := Lib.hid ha
    replace hb := Lib.hid hb
    replace hc := Lib.hid hc
    replace hB := Lib.hid hB
    by_cases hlt : k < n
    · have hlt' : (k : Int) < n := by omega
      obtain ⟨r1, r2⟩ := hP.out.rng k hlt
      obtain ⟨m, hm⟩ : ∃ m : Nat, f k = (m : Int) := ⟨(f k).toNat, by omega⟩
      rw [hm] at r1 r2
      have hmn : m < n := by omega
      have hp := not_marked hP.out hM.out hlt hmn hm
      have c1 : wr.cell? ⟨B, k, none⟩ = some (.int .i64 (m : Int)) := by rw [ha.out.cell, rowOf_get hlt, hm]
      have c2 : wr.cell? ⟨w.heap.size + 1, m, none⟩ = some (.bool false) := by rw [hc.out.cell, rowB_get hmn, hp]
      have f2 : wr.frozen? ⟨w.heap.size + 1, m, none⟩ = false := hc.out.frozen m
      have ha' := ha.out.far (p := ⟨w.heap.size + 1, m, none⟩) (by simp; omega) (.bool true)
      have hb' := hb.out.far (p := ⟨w.heap.size + 1, m, none⟩) (by simp) (.bool true)
      have hc' : Blk (wr.setCell ⟨w.heap.size + 1, m, none⟩ (.bool true)) (w.heap.size + 1) 4 (rowB n (updB p m true)) := by rw [← rowB_set]; exact hc.out.set_ m _
      have c3 : (wr.setCell ⟨w.heap.size + 1, m, none⟩ (.bool true)).cell? ⟨w.heap.size, m, none⟩ = some (.int .i64 (g m)) := by rw [hb'.cell, rowOf_get hmn]
      have f3 : (wr.setCell ⟨w.heap.size + 1, m, none⟩ (.bool true)).frozen? ⟨w.heap.size, m, none⟩ = false := hb'.frozen m
      have ha2 := ha'.far (p := ⟨w.heap.size, m, none⟩) (by simp; omega) (.int .i64 (k : Int))
      have hb2 : Blk ((wr.setCell ⟨w.heap.size + 1, m, none⟩ (.bool true)).setCell ⟨w.heap.size, m, none⟩ (.int .i64 (k : Int))) w.heap.size 3 (rowOf n (upd g m (k : Int))) := by rw [← rowOf_set]; exact hb'.set_ m _
      have hc2 := hc'.far (p := ⟨w.heap.size, m, none⟩) (by simp) (.int .i64 (k : Int))
      have hB2 := (hB.out.setCell (p := ⟨w.heap.size + 1, m, none⟩) (by simp) (.bool true)).setCell (p := ⟨w.heap.size, m, none⟩) (by simp) (.int .i64 (k : Int))
      have hM2 := Lib.hid (marked_succ hM.out hm)
      have hT2 := Lib.hid (turned_succ hP.out hT.out hlt hm)
      clear ha' hb' hc'
      replace ha2 := Lib.hid ha2
      replace hb2 := Lib.hid hb2
      replace hc2 := Lib.hid hc2
      replace hB2 := Lib.hid hB2
      replace hm := Lib.hid hm
      go_wp2
      go_roundw
      case rel => exact ⟨k + 1, _, _, by omega, by go_num, hM2, hT2, ha2.out, hb2.out, hc2.out, hB2.out⟩
      case measure => simp [intOf]; omega
    · have hlt' : (n : Int) ≤ k := by omega
      have he : k = n := by omega
      have hT' := hT.out
      rw [he] at hT'
      replace hT' := Lib.hid hT'
      clear he
      go_wp2
      go_returns
      exact ⟨rfl, hB.out, g, hb.out, hT'.out⟩
end Go.Proofs.Ythbhhodlggkegaa
