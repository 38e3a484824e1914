/- Inverse and IsPermutation of package permute at a list in which each number below its length occurs once. -/
import Derived.Test.YthbhhodlggkegaaPerm
namespace Go.Proofs.Ythbhhodlggkegaa
open Go.RowKit
def rowB (n : Nat) (p : Nat → Bool) : Array Value := ((List.range n).map fun i => Value.bool (p i)).toArray
theorem rowB_get {n i : Nat} {p : Nat → Bool} (h : i < n) : (rowB n p)[i]? = some (.bool (p i)) := by unfold rowB; simp [h]
def updB (p : Nat → Bool) (i : Nat) (v : Bool) : Nat → Bool := fun j => if j = i then v else p j
theorem rowB_set {n i : Nat} {p : Nat → Bool} {v : Bool} : (rowB n p).setIfInBounds i (.bool v) = rowB n (updB p i v) := by
  apply Array.ext_getElem?
  intro j
  unfold rowB updB
  rw [Array.getElem?_setIfInBounds]
  by_cases hj : j < n
  · by_cases e : i = j
    · subst e; simp [hj]
    · have e' : ¬ j = i := fun h => e h.symm
      simp [hj, e, e']
  · by_cases e : i = j
    · subst e; simp [hj]
    · simp [hj, e]
theorem made_rowB (n : Nat) : madeCells #[.bool false] n = rowB n (fun _ => false) := by
  unfold madeCells rowB
  apply Array.ext_getElem?
  intro j
  by_cases hj : j < n
  · simp [hj, Nat.mod_one]
  · simp [hj]
/-- Each number below n once. -/
structure IsP (n : Nat) (f : Nat → Int) : Prop where
  rng : ∀ i, i < n → 0 ≤ f i ∧ f i < n
  inj : ∀ i j, i < n → j < n → f i = f j → i = j
/-- What is marked behind k of the numbers. -/
def Marked (n : Nat) (f : Nat → Int) (k : Nat) (p : Nat → Bool) : Prop := ∀ j, j < n → (p j = true ↔ ∃ i, i < k ∧ f i = (j : Int))
theorem marked_zero (n : Nat) (f : Nat → Int) : Marked n f 0 (fun _ => false) := fun j _ => by simp
theorem marked_succ {n : Nat} {f : Nat → Int} {k m : Nat} {p : Nat → Bool} (h : Marked n f k p) (hm : f k = (m : Int)) : Marked n f (k + 1) (updB p m true) := fun j hj => by
  unfold updB
  by_cases e : j = m
  · subst e; simp only [if_true, true_iff]; exact ⟨k, by omega, hm⟩
  · rw [if_neg e, h j hj]
    constructor
    · rintro ⟨i, hi, he⟩; exact ⟨i, by omega, he⟩
    · rintro ⟨i, hi, he⟩
      refine ⟨i, ?_, he⟩
      rcases Nat.lt_or_ge i k with h' | h'
      · exact h'
      · exfalso
        obtain rfl : i = k := by omega
        omega
theorem not_marked {n : Nat} {f : Nat → Int} {k m : Nat} {p : Nat → Bool} (hP : IsP n f) (h : Marked n f k p) (hk : k < n) (hmn : m < n) (hm : f k = (m : Int)) : p m = false := by
  cases hp : p m with
  | false => rfl
  | true =>
    obtain ⟨i, hi, he⟩ := (h m hmn).1 hp
    have := hP.inj i k (by omega) hk (he.trans hm.symm)
    omega
set_option maxRecDepth 100000 in
set_option maxHeartbeats 8000000 in
theorem inverse_yes (n : Nat) (h1 : 1 ≤ n) (h2 : n ≤ 4096) (f : Nat → Int) (hP : IsP n f) (B : Nat) (w : World) (hb : Blk w B 3 (rowOf n f)) :
    Calls Try.prog 18 #[.slice (some ⟨B, 0, none⟩) n n] w fun e w' => e = .returned (.tuple #[.slice (some ⟨w.heap.size, 0, none⟩) n n, .int .i64 0]) ∧ Below w.heap.size w w' := by
  have n0 : (0 : Int) ≤ n := by omega
  have n1 : (1 : Int) ≤ n := by omega
  have n2 : (n : Int) ≤ 4096 := by omega
  have hmk : ∀ w : World, (Instr.makeSlice 27 (.int .i64 (n : Int)) (.int .i64 (n : Int))).run Try.prog w = .ok (.slice (some ⟨w.heap.size, 0, none⟩) n n) (w.alloc (.cells (rowOf n (fun _ => 0)) 3)) := fun w => make_row n h2 w
  have hmb : ∀ w : World, (Instr.makeSlice 41 (.int .i64 (n : Int)) (.int .i64 (n : Int))).run Try.prog w = .ok (.slice (some ⟨w.heap.size, 0, none⟩) n n) (w.alloc (.cells (rowB n (fun _ => false)) 4)) := fun w => by rw [make_bools n (by omega), made_rowB]
  have lB := hb.lt
  have ka := Lib.hid ((hb.alloc (.cells (rowOf n (fun _ => 0)) 3)).alloc (.cells (rowB n (fun _ => false)) 4))
  have kb := Lib.hid ((Blk.new w 3 (rowOf n (fun _ => 0))).alloc (.cells (rowB n (fun _ => false)) 4))
  have kc := Lib.hid (Blk.new1 w 4 (rowB n (fun _ => false)) (.cells (rowOf n (fun _ => 0)) 3))
  have hB : Hid (Below w.heap.size w ((w.alloc (.cells (rowOf n (fun _ => 0)) 3)).alloc (.cells (rowB n (fun _ => false)) 4))) := Lib.hid (by go_grown)
  replace hP := Lib.hid hP
  clear hb
  go_enter Try.func18, Try.ntmps18
  go_wp2_with fail
  go_loopw [6, 7, 16] (fun _ _ i wr => ∃ (k : Nat) (g : Nat → Int) (p : Nat → Bool), k ≤ n ∧ i = .int .i64 k ∧ Hid (Marked n f k p) ∧ Blk wr B 3 (rowOf n f) ∧ Blk wr w.heap.size 3 (rowOf n g) ∧ Blk wr (w.heap.size + 1) 4 (rowB n p) ∧ Below w.heap.size w wr)
    (fun _ _ i _ => n - (intOf i).toNat)
  case atStart => exact ⟨0, _, _, by omega, rfl, Lib.hid (marked_zero n f), ka.out, kb.out, kc.out, hB.out⟩
  case round =>
    clear ka kb kc hB
    obtain ⟨k, g, p, hk, rfl, hM, ha, hb, hc, hB⟩ := hrel
    replace ha := Lib.hid ha
    replace hb := Lib.hid hb
    replace hc := Lib.hid hc
    replace hB := Lib.hid hB
    by_cases hlt : k < n
    · have hlt' : (k : Int) < n := by omega
      obtain ⟨r1, r2⟩ := hP.out.rng k hlt
      obtain ⟨m, hm⟩ : ∃ m : Nat, f k = (m : Int) := ⟨(f k).toNat, by omega⟩
      rw [hm] at r1 r2
      have hmn : m < n := by omega
      have hp := not_marked hP.out hM.out hlt hmn hm
      have c1 : wr.cell? ⟨B, k, none⟩ = some (.int .i64 (m : Int)) := by rw [ha.out.cell, rowOf_get hlt, hm]
      have c2 : wr.cell? ⟨w.heap.size + 1, m, none⟩ = some (.bool false) := by rw [hc.out.cell, rowB_get hmn, hp]
      have f2 : wr.frozen? ⟨w.heap.size + 1, m, none⟩ = false := hc.out.frozen m
      have ha' := ha.out.far (p := ⟨w.heap.size + 1, m, none⟩) (by simp; omega) (.bool true)
      have hb' := hb.out.far (p := ⟨w.heap.size + 1, m, none⟩) (by simp) (.bool true)
      have hc' : Blk (wr.setCell ⟨w.heap.size + 1, m, none⟩ (.bool true)) (w.heap.size + 1) 4 (rowB n (updB p m true)) := by rw [← rowB_set]; exact hc.out.set_ m _
      have c3 : (wr.setCell ⟨w.heap.size + 1, m, none⟩ (.bool true)).cell? ⟨w.heap.size, m, none⟩ = some (.int .i64 (g m)) := by rw [hb'.cell, rowOf_get hmn]
      have f3 : (wr.setCell ⟨w.heap.size + 1, m, none⟩ (.bool true)).frozen? ⟨w.heap.size, m, none⟩ = false := hb'.frozen m
      have ha2 := ha'.far (p := ⟨w.heap.size, m, none⟩) (by simp; omega) (.int .i64 (k : Int))
      have hb2 : Blk ((wr.setCell ⟨w.heap.size + 1, m, none⟩ (.bool true)).setCell ⟨w.heap.size, m, none⟩ (.int .i64 (k : Int))) w.heap.size 3 (rowOf n (upd g m (k : Int))) := by rw [← rowOf_set]; exact hb'.set_ m _
      have hc2 := hc'.far (p := ⟨w.heap.size, m, none⟩) (by simp) (.int .i64 (k : Int))
      have hB2 := (hB.out.setCell (p := ⟨w.heap.size + 1, m, none⟩) (by simp) (.bool true)).setCell (p := ⟨w.heap.size, m, none⟩) (by simp) (.int .i64 (k : Int))
      have hM2 := Lib.hid (marked_succ hM.out hm)
      clear ha' hb' hc'
      replace ha2 := Lib.hid ha2
      replace hb2 := Lib.hid hb2
      replace hc2 := Lib.hid hc2
      replace hB2 := Lib.hid hB2
      replace hm := Lib.hid hm
      go_wp2
      go_roundw
      case rel => exact ⟨k + 1, _, _, by omega, by go_num, hM2, ha2.out, hb2.out, hc2.out, hB2.out⟩
      case measure => simp [intOf]; omega
    · have hlt' : (n : Int) ≤ k := by omega
      go_wp2
      go_returns
      exact ⟨rfl, hB.out⟩
theorem isPermutation_yes (n : Nat) (h1 : 1 ≤ n) (h2 : n ≤ 4096) (f : Nat → Int) (hP : IsP n f) (B : Nat) (w : World) (hb : Blk w B 3 (rowOf n f)) :
    Calls Try.prog 20 #[.slice (some ⟨B, 0, none⟩) n n] w fun e w' => e = .returned (.bool true) ∧ Below w.heap.size w w' := by
  have hI := Lib.hid (inverse_yes n h1 h2 f hP B w hb)
  clear hb hP
  go_enter Try.func20, Try.ntmps20
  go_wp2_with fail
  refine hI.out.mono ?_
  rintro e w1 ⟨rfl, hb⟩
  replace hb := Lib.hid hb
  go_wp2
  go_ret
  exact ⟨rfl, hb.out⟩
end Go.Proofs.Ythbhhodlggkegaa
