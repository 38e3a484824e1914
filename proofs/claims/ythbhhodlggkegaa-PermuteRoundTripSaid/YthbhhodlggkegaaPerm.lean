/- Perm of package permute: fills a list and exchanges its items from the last one down. -/
import Derived.Test.YthbhhodlggkegaaPBelow
import Derived.Test.YthbhhodlggkegaaPEx
import Derived.Test.YthbhhodlggkegaaFresh
import Derived.BigRegion
namespace Go.Proofs.Ythbhhodlggkegaa
open Go.RowKit
attribute [local go_sem] Ext.cell
/-- A row of n numbers. -/
def rowOf (n : Nat) (f : Nat → Int) : Array Value := ((List.range n).map fun i => Value.int .i64 (f i)).toArray
theorem rowOf_get {n i : Nat} {f : Nat → Int} (h : i < n) : (rowOf n f)[i]? = some (.int .i64 (f i)) := by unfold rowOf; simp [h]
def upd (f : Nat → Int) (i : Nat) (v : Int) : Nat → Int := fun j => if j = i then v else f j
theorem rowOf_set {n i : Nat} {f : Nat → Int} {v : Int} : (rowOf n f).setIfInBounds i (.int .i64 v) = rowOf n (upd f i v) := by
  apply Array.ext_getElem?
  intro j
  unfold rowOf upd
  rw [Array.getElem?_setIfInBounds]
  by_cases hj : j < n
  · by_cases e : i = j
    · subst e; simp [hj]
    · have e' : ¬ j = i := fun h => e h.symm
      simp [hj, e, e']
  · by_cases e : i = j
    · subst e; simp [hj]
    · simp [hj, e]
theorem made_row (n : Nat) : madeCells #[.int .i64 0] n = rowOf n (fun _ => 0) := by
  unfold madeCells rowOf
  apply Array.ext_getElem?
  intro j
  by_cases hj : j < n
  · simp [hj, Nat.mod_one]
  · simp [hj]
def fillF (k : Nat) : Nat → Int := fun i => if i < k then (i : Int) else 0
theorem fill_zero : fillF 0 = fun _ => 0 := by funext i; simp [fillF]
theorem fill_succ (k : Nat) : upd (fillF k) k (k : Int) = fillF (k + 1) := by
  funext i
  unfold upd fillF
  by_cases e : i = k
  · subst e; simp
  · rw [if_neg e]
    by_cases h : i < k
    · rw [if_pos h, if_pos (by omega)]
    · rw [if_neg h, if_neg (by omega)]
theorem rowOf_congr {n : Nat} {f g : Nat → Int} (h : ∀ i, i < n → f i = g i) : rowOf n f = rowOf n g := by
  unfold rowOf
  congr 1
  apply List.map_congr_left
  intro i hi
  rw [h i (List.mem_range.1 hi)]
theorem fill_all {n : Nat} : rowOf n (fillF n) = rowOf n (fun i => (i : Int)) := rowOf_congr fun i hi => by unfold fillF; rw [if_pos hi]
/-- One exchange. -/
def swp (f : Nat → Int) (i k : Nat) : Nat → Int := upd (upd f i (f k)) k (f i)
/-- The exchanges from item i down: the row and the state. -/
def runP : Nat → (Nat → Int) → Int → (Nat → Int) × Int
  | 0, f, s => (f, s)
  | i + 1, f, s => runP i (swp f (i + 1) (belowK s (i + 2)).toNat) (belowS s (i + 2))
@[go_sem] theorem make_row (n : Nat) (h : n ≤ 4096) (w : World) : (Instr.makeSlice 27 (.int .i64 (n : Int)) (.int .i64 (n : Int))).run Try.prog w = .ok (.slice (some ⟨w.heap.size, 0, none⟩) n n) (w.alloc (.cells (rowOf n (fun _ => 0)) 3)) := by
  rw [make_ints n (by omega), made_row]
set_option maxRecDepth 100000 in
set_option maxHeartbeats 8000000 in
theorem perm_yes (n : Nat) (h1 : 1 ≤ n) (h2 : n ≤ 4096) (s : Int) (w : World) :
    Calls Try.prog 14 #[.int .i64 (n : Int), .int .u64 s] w fun e w' => e = .returned (.tuple #[.slice (some ⟨w.heap.size, 0, none⟩) n n, .int .u64 (runP (n - 1) (fun i => (i : Int)) s).2]) ∧ Below w.heap.size w w' ∧ Blk w' w.heap.size 3 (rowOf n (runP (n - 1) (fun i => (i : Int)) s).1) := by
  obtain ⟨R, hR⟩ : ∃ R, runP (n - 1) (fun i => (i : Int)) s = R := ⟨_, rfl⟩
  rw [hR]
  replace hR := Lib.hid hR
  have n0 : (0 : Int) ≤ n := by omega
  have n1 : (1 : Int) ≤ n := by omega
  have n2 : (n : Int) ≤ 4096 := by omega
  have hw : IntKind.i64.wrap ((n : Int) - 1) = (n : Int) - 1 := by rw [IntKind.wrap_i64]; omega
  have hmk : ∀ w : World, (Instr.makeSlice 27 (.int .i64 (n : Int)) (.int .i64 (n : Int))).run Try.prog w = .ok (.slice (some ⟨w.heap.size, 0, none⟩) n n) (w.alloc (.cells (rowOf n (fun _ => 0)) 3)) := fun w => make_row n h2 w
  go_enter Try.func14, Try.ntmps14
  go_wp2_with fail
  go_loopw [7, 23] (fun _ i wr => ∃ k : Nat, k ≤ n ∧ i = .int .i64 k ∧ Blk wr w.heap.size 3 (rowOf n (fillF k)) ∧ Below w.heap.size w wr)
    (fun _ i _ => n - (intOf i).toNat)
  case atStart => exact ⟨0, by omega, rfl, by rw [fill_zero]; exact Blk.new w _ _, by go_grown⟩
  case round =>
    obtain ⟨k, hk, rfl, hb, hB⟩ := hrel
    replace hb := Lib.hid hb
    replace hB := Lib.hid hB
    by_cases hlt : k < n
    · have hlt' : (k : Int) < n := by omega
      have hc : wr.cell? ⟨w.heap.size, k, none⟩ = some (.int .i64 (fillF k k)) := by rw [hb.out.cell, rowOf_get hlt]
      have hf : wr.frozen? ⟨w.heap.size, k, none⟩ = false := hb.out.frozen k
      go_wp2
      go_roundw
      case rel => exact ⟨k + 1, by omega, by go_num, by rw [← fill_succ, ← rowOf_set]; exact hb.out.set_ k (.int .i64 (k : Int)), hB.out.setCell (p := ⟨w.heap.size, k, none⟩) (Nat.le_refl _) _⟩
      case measure => simp [intOf]; omega
    · have he : n = k := by omega
      have hlt' : (n : Int) ≤ k := by omega
      clear hk hlt hlt'
      subst he
      replace hb := hb.out
      rw [fill_all] at hb
      replace hb := Lib.hid hb
      go_wp2_with fail
      go_loopw [8, 9, 10, 11] (fun u i _ _ wr => ∃ (j : Nat) (f : Nat → Int) (t : Int), j < n ∧ u = .int .u64 t ∧ i = .int .i64 j ∧ Hid (runP j f t = R) ∧ Blk wr w.heap.size 3 (rowOf n f) ∧ Below w.heap.size w wr)
        (fun _ i _ _ _ => (intOf i).toNat)
      case atStart => exact ⟨n - 1, _, s, by omega, rfl, by go_num, hR, hb.out, hB.out⟩
      case round =>
        clear hb hB
        obtain ⟨j, f, t, hj, rfl, rfl, hr, hb, hB⟩ := hrel
        replace hb := Lib.hid hb
        replace hB := Lib.hid hB
        by_cases h0 : 0 < j
        · have h0' : (0 : Int) < j := by omega
          have hw1 : IntKind.i64.wrap ((j : Int) + 1) = (j : Int) + 1 := by rw [IntKind.wrap_i64]; omega
          have hw2 : IntKind.i64.wrap ((j : Int) - 1) = (j : Int) - 1 := by rw [IntKind.wrap_i64]; omega
          obtain ⟨b0, b1⟩ := belowK_bound t ((j : Int) + 1) (by omega)
          obtain ⟨m, hm⟩ : ∃ m : Nat, belowK t ((j : Int) + 1) = (m : Int) := ⟨(belowK t ((j : Int) + 1)).toNat, by omega⟩
          rw [hm] at b0 b1
          have hmj : m ≤ j := by omega
          obtain ⟨t', ht'⟩ : ∃ t', belowS t ((j : Int) + 1) = t' := ⟨_, rfl⟩
          replace hm := Lib.hid hm
          replace ht' := Lib.hid ht'
          go_wp2_with fail
          refine (below_at _ _ _ _ (by omega) _ hm.out ht'.out).mono ?_
          rintro e w1 ⟨rfl, rfl⟩
          go_wp2_with fail
          have hr' : runP (j - 1) (swp f j m) t' = R := by
            obtain ⟨q, rfl⟩ : ∃ q, j = q + 1 := ⟨j - 1, by omega⟩
            have h := hr.out
            have e : ((q : Int) + 2) = ((q + 1 : Nat) : Int) + 1 := by omega
            unfold runP at h
            rw [e, hm.out, ht'.out] at h
            simpa using h
          replace hr' := Lib.hid hr'
          have hjn : (j : Int) < n := by omega
          have hmn : (m : Int) < n := by omega
          have hm0 : (0 : Int) ≤ m := by omega
          have hb2 := hb.out
          have c1 : wr.cell? ⟨w.heap.size, j, none⟩ = some (.int .i64 (f j)) := by rw [hb2.cell, rowOf_get hj]
          have c3 : wr.cell? ⟨w.heap.size, m, none⟩ = some (.int .i64 (f m)) := by rw [hb2.cell, rowOf_get (by omega)]
          have f1 : wr.frozen? ⟨w.heap.size, j, none⟩ = false := hb2.frozen j
          have hb3 : Blk (wr.setCell ⟨w.heap.size, j, none⟩ (.int .i64 (f m))) w.heap.size 3 (rowOf n (upd f j (f m))) := by rw [← rowOf_set]; exact hb2.set_ j _
          have c2 : (wr.setCell ⟨w.heap.size, j, none⟩ (.int .i64 (f m))).cell? ⟨w.heap.size, m, none⟩ = some (.int .i64 (upd f j (f m) m)) := by rw [hb3.cell, rowOf_get (by omega)]
          have f2 : (wr.setCell ⟨w.heap.size, j, none⟩ (.int .i64 (f m))).frozen? ⟨w.heap.size, m, none⟩ = false := hb3.frozen m
          have hb4 : Blk ((wr.setCell ⟨w.heap.size, j, none⟩ (.int .i64 (f m))).setCell ⟨w.heap.size, m, none⟩ (.int .i64 (f j))) w.heap.size 3 (rowOf n (swp f j m)) := by unfold swp; rw [← rowOf_set]; exact hb3.set_ m _
          have hB4 := (hB.out.setCell (p := ⟨w.heap.size, j, none⟩) (Nat.le_refl _) (.int .i64 (f m))).setCell (p := ⟨w.heap.size, m, none⟩) (Nat.le_refl _) (.int .i64 (f j))
          replace hb2 := Lib.hid hb2
          replace hb3 := Lib.hid hb3
          replace hb4 := Lib.hid hb4
          replace hB4 := Lib.hid hB4
          go_region
          all_goals
            go_wp2
            go_roundw
            case rel => exact ⟨j - 1, swp f j m, t', by omega, rfl, by go_num, hr', hb4.out.drew, hB4.out.drew⟩
            case measure => simp [intOf]; omega
        · have h0' : (j : Int) ≤ 0 := by omega
          have hj0 : j = 0 := by omega
          have hr' := hr.out
          rw [hj0] at hr'
          unfold runP at hr'
          replace hr' := Lib.hid hr'
          go_wp2
          go_returns
          rw [← hr'.out]
          exact ⟨rfl, hB.out, hb.out⟩
end Go.Proofs.Ythbhhodlggkegaa
