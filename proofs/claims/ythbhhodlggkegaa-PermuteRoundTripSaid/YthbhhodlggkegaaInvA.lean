/- Inverse and IsPermutation of package permute at any list. -/
import Derived.Test.YthbhhodlggkegaaLst
import Derived.Test.YthbhhodlggkegaaPCnt
namespace Go.Proofs.Ythbhhodlggkegaa
open Go.RowKit
/-- The first k numbers are below n, each once. -/
structure PreP (n k : Nat) (f : Nat → Int) : Prop where
  rng : ∀ i, i < k → 0 ≤ f i ∧ f i < n
  inj : ∀ i j, i < k → j < k → f i = f j → i = j
theorem preP_zero (n : Nat) (f : Nat → Int) : PreP n 0 f := ⟨fun i hi => absurd hi (Nat.not_lt_zero i), fun i _ hi => absurd hi (Nat.not_lt_zero i)⟩
theorem preP_succ {n k m : Nat} {f : Nat → Int} {p : Nat → Bool} (h : PreP n k f) (hM : Marked n f k p) (hm : f k = (m : Int)) (hmn : m < n) (hp : p m = false) : PreP n (k + 1) f := by
  have no : ∀ i, i < k → f i ≠ f k := fun i hi e => by
    have := (hM m hmn).2 ⟨i, hi, e.trans hm⟩
    rw [hp] at this
    cases this
  refine ⟨fun i hi => ?_, fun i j hi hj e => ?_⟩
  · by_cases c : i = k
    · subst c; omega
    · exact h.rng i (by omega)
  · by_cases c : i = k
    · by_cases d : j = k
      · omega
      · subst c; exact absurd e.symm (no j (by omega))
    · by_cases d : j = k
      · subst d; exact absurd e (no i (by omega))
      · exact h.inj i j (by omega) (by omega) e
theorem preP_all {n : Nat} {f : Nat → Int} (h : PreP n n f) : IsP n f := ⟨h.rng, h.inj⟩
theorem turned_succ' {n k m : Nat} {f g : Nat → Int} (hP : PreP n (k + 1) f) (h : Turned k f g) (hm : f k = (m : Int)) : Turned (k + 1) f (upd g m (k : Int)) := fun i hi => by
  unfold upd
  by_cases e : i = k
  · subst e; rw [hm]; simp
  · have hne : (f i).toNat ≠ m := fun hh => by
      have r := (hP.rng i (by omega)).1
      have : f i = f k := by omega
      exact e (hP.inj i k (by omega) (by omega) this)
    rw [if_neg hne]
    exact h i (by omega)
set_option maxRecDepth 100000 in
set_option maxHeartbeats 8000000 in
theorem inverse_any (n cap : Nat) (h2 : n ≤ 17592186043904) (f : Nat → Int) (a : Addr) (w : World) (hl : Lie w a n f) :
    Calls Try.prog 18 #[.slice (some a) n cap] w fun e w' => Below w.heap.size w w' ∧ ((e = .returned (.tuple #[.slice (some ⟨w.heap.size, 0, none⟩) n n, .int .i64 0]) ∧ onceB n f = true ∧ ∃ g, Blk w' w.heap.size 3 (rowOf n g) ∧ Turned n f g) ∨ (e = .returned (.tuple #[.slice none 0 0, .int .i64 2]) ∧ onceB n f = false)) := by
  have n0 : (0 : Int) ≤ n := by omega
  have n2 : (n : Int) ≤ 17592186043904 := by omega
  have hmk : ∀ w : World, (Instr.makeSlice 27 (.int .i64 (n : Int)) (.int .i64 (n : Int))).run Try.prog w = .ok (.slice (some ⟨w.heap.size, 0, none⟩) n n) (w.alloc (.cells (rowOf n (fun _ => 0)) 3)) := fun w => make_intsL n h2 w
  have hmb : ∀ w : World, (Instr.makeSlice 41 (.int .i64 (n : Int)) (.int .i64 (n : Int))).run Try.prog w = .ok (.slice (some ⟨w.heap.size, 0, none⟩) n n) (w.alloc (.cells (rowB n (fun _ => false)) 4)) := fun w => make_boolsL n h2 w
  have kb := Lib.hid ((Blk.new w 3 (rowOf n (fun _ => 0))).alloc (.cells (rowB n (fun _ => false)) 4))
  have kc := Lib.hid (Blk.new1 w 4 (rowB n (fun _ => false)) (.cells (rowOf n (fun _ => 0)) 3))
  have hB : Hid (Below w.heap.size w ((w.alloc (.cells (rowOf n (fun _ => 0)) 3)).alloc (.cells (rowB n (fun _ => false)) 4))) := Lib.hid (by go_grown)
  replace hl := Lib.hid hl
  go_enter Try.func18, Try.ntmps18
  go_wp2_with fail
  go_loopw [6, 7, 16] (fun _ _ i wr => ∃ (k : Nat) (g : Nat → Int) (p : Nat → Bool), k ≤ n ∧ i = .int .i64 k ∧ Hid (Marked n f k p) ∧ Hid (PreP n k f) ∧ Hid (Turned k f g) ∧ Blk wr w.heap.size 3 (rowOf n g) ∧ Blk wr (w.heap.size + 1) 4 (rowB n p) ∧ Below w.heap.size w wr)
    (fun _ _ i _ => n - (intOf i).toNat)
  case atStart => exact ⟨0, _, _, by omega, rfl, Lib.hid (marked_zero n f), Lib.hid (preP_zero n f), Lib.hid (turned_zero f _), kb.out, kc.out, hB.out⟩
  case round =>
    clear kb kc hB
    obtain ⟨k, g, p, hk, rfl, hM, hP, hT, hb, hc, hB⟩ := hrel
    replace hb := Lib.hid hb
    replace hc := Lib.hid hc
    replace hB := Lib.hid hB
    by_cases hlt : k < n
    · have hlt' : (k : Int) < n := by omega
      have c1 : wr.cell? (a.add k) = some (.int .i64 (f k)) := (hl.out.call hB.out).at_ k hlt
      by_cases hr : 0 ≤ f k ∧ f k < (n : Int)
      · obtain ⟨r1, r2⟩ := hr
        obtain ⟨m, hm⟩ : ∃ m : Nat, f k = (m : Int) := ⟨(f k).toNat, by omega⟩
        rw [hm] at r1 r2 c1
        have hmn : m < n := by omega
        cases hp : p m with
        | true =>
          have c2 : wr.cell? ⟨w.heap.size + 1, m, none⟩ = some (.bool true) := by rw [hc.out.cell, rowB_get hmn, hp]
          obtain ⟨i, hi, he⟩ := (hM.out m hmn).1 hp
          have hno := Lib.hid (once_no_twice hlt hi (he.trans hm.symm))
          clear hp hm he hi
          go_wp2
          go_returns
          exact ⟨hB.out, .inr ⟨rfl, hno.out⟩⟩
        | false =>
          have c2 : wr.cell? ⟨w.heap.size + 1, m, none⟩ = some (.bool false) := by rw [hc.out.cell, rowB_get hmn, hp]
          have f2 : wr.frozen? ⟨w.heap.size + 1, m, none⟩ = false := hc.out.frozen m
          have hb' := hb.out.far (p := ⟨w.heap.size + 1, m, none⟩) (by simp) (.bool true)
          have hc' : Blk (wr.setCell ⟨w.heap.size + 1, m, none⟩ (.bool true)) (w.heap.size + 1) 4 (rowB n (updB p m true)) := by rw [← rowB_set]; exact hc.out.set_ m _
          have c3 : (wr.setCell ⟨w.heap.size + 1, m, none⟩ (.bool true)).cell? ⟨w.heap.size, m, none⟩ = some (.int .i64 (g m)) := by rw [hb'.cell, rowOf_get hmn]
          have f3 : (wr.setCell ⟨w.heap.size + 1, m, none⟩ (.bool true)).frozen? ⟨w.heap.size, m, none⟩ = false := hb'.frozen m
          have hb2 : Blk ((wr.setCell ⟨w.heap.size + 1, m, none⟩ (.bool true)).setCell ⟨w.heap.size, m, none⟩ (.int .i64 (k : Int))) w.heap.size 3 (rowOf n (upd g m (k : Int))) := by rw [← rowOf_set]; exact hb'.set_ m _
          have hc2 := hc'.far (p := ⟨w.heap.size, m, none⟩) (by simp) (.int .i64 (k : Int))
          have hB2 := (hB.out.setCell (p := ⟨w.heap.size + 1, m, none⟩) (by simp) (.bool true)).setCell (p := ⟨w.heap.size, m, none⟩) (by simp) (.int .i64 (k : Int))
          have hM2 := Lib.hid (marked_succ hM.out hm)
          have hP2 := Lib.hid (preP_succ hP.out hM.out hm hmn hp)
          have hT2 := Lib.hid (turned_succ' hP2.out hT.out hm)
          clear hb' hc' hp
          replace hb2 := Lib.hid hb2
          replace hc2 := Lib.hid hc2
          replace hB2 := Lib.hid hB2
          replace hm := Lib.hid hm
          go_wp2
          go_roundw
          case rel => exact ⟨k + 1, _, _, by omega, by go_num, hM2, hP2, hT2, hb2.out, hc2.out, hB2.out⟩
          case measure => simp [intOf]; omega
      · have hno := Lib.hid (once_no_rng hlt hr)
        by_cases r0 : f k < 0
        · clear hr
          go_wp2
          go_returns
          exact ⟨hB.out, .inr ⟨rfl, hno.out⟩⟩
        · have r1 : (n : Int) ≤ f k := by omega
          have r0' : (0 : Int) ≤ f k := by omega
          clear hr r0
          go_wp2
          go_returns
          exact ⟨hB.out, .inr ⟨rfl, hno.out⟩⟩
    · have hlt' : (n : Int) ≤ k := by omega
      have he : k = n := by omega
      have hT' := hT.out
      have hP' := hP.out
      rw [he] at hT' hP'
      replace hT' := Lib.hid hT'
      have hyes := Lib.hid (once_of_isP (preP_all hP'))
      clear he hP'
      go_wp2
      go_returns
      exact ⟨hB.out, .inl ⟨rfl, hyes.out, g, hb.out, hT'.out⟩⟩
set_option maxHeartbeats 4000000 in
theorem isPermutation_any (n cap : Nat) (h2 : n ≤ 17592186043904) (f : Nat → Int) (a : Addr) (w : World) (hl : Lie w a n f) :
    Calls Try.prog 20 #[.slice (some a) n cap] w fun e w' => e = .returned (.bool (onceB n f)) ∧ Below w.heap.size w w' := by
  have hI := Lib.hid (inverse_any n cap h2 f a w hl)
  clear hl
  go_enter Try.func20, Try.ntmps20
  go_wp2_with fail
  refine hI.out.mono ?_
  rintro e w1 ⟨hb, ⟨rfl, ho, -⟩ | ⟨rfl, ho⟩⟩
  · replace hb := Lib.hid hb
    replace ho := Lib.hid ho
    clear hI
    go_wp2
    go_ret
    exact ⟨ret_bool ho.out.symm, hb.out⟩
  · replace hb := Lib.hid hb
    replace ho := Lib.hid ho
    clear hI
    go_wp2
    go_ret
    exact ⟨ret_bool ho.out.symm, hb.out⟩
end Go.Proofs.Ythbhhodlggkegaa
