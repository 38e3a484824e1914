/- The walks of the laws CullKeep and CullModes: true for all numbers. -/
import Derived.Test.YtboffbajmlkhiaaCullEx
namespace Go.Proofs.Ytboffbajmlkhiaa
open Go.RowKit
theorem keep_zero (m : Int) (c : Bool) : keepB 0 m c = false := by unfold keepB; simp
theorem front_zero (c : Bool) : frontB 0 c = false := by unfold frontB; cases c <;> simp
theorem keep_none {a : Int} (h : a ≠ 0) (c : Bool) : keepB a 1 c = true := by unfold keepB; simp [h]
theorem keep_front {a : Int} (h : a ≠ 0) (c : Bool) : keepB a 2 c = !frontB a c := by unfold keepB; simp [h]
theorem keep_back {a : Int} (h : a ≠ 0) (c : Bool) : keepB a 3 c = frontB a c := by unfold keepB; simp [h]
theorem front_not {a : Int} (h : a ≠ 0) (c : Bool) : frontB a (!c) = !frontB a c := by
  unfold frontB
  cases c
  · simp; rw [Bool.eq_iff_iff]; simp; omega
  · simp; rw [Bool.eq_iff_iff]; simp; omega
theorem keep_at (a m : Int) (c v : Bool) (w : World) (h : keepB a m c = v) :
    Calls Try.prog 16 #[.int .i64 a, .int .i64 m, .bool c] w fun e w' => e = .returned (.bool v) ∧ w = w' := h ▸ keep_any _ _ _ _
theorem front_at (a : Int) (c v : Bool) (w : World) (h : frontB a c = v) :
    Calls Try.prog 14 #[.int .i64 a, .bool c] w fun e w' => e = .returned (.bool v) ∧ w = w' := h ▸ isFront_any _ _ _
set_option maxHeartbeats 4000000 in
theorem law_cullKeep (a m : Int) (c : Bool) (w : World) :
    Calls Try.prog 5 #[.int .i64 a, .int .i64 m, .bool c] w fun e w' => e = .returned (.bool true) ∧ Below w.heap.size w w' := by
  go_enter Try.func5, Try.ntmps5
  go_wp2_with (first
    | (go_at_call 14; refine (isFront_any _ _ _).mono ?_; rintro e w1 ⟨rfl, rfl⟩)
    | (go_at_call 15; refine (rIsFront_any _ _ _).mono ?_; rintro e w1 ⟨rfl, rfl⟩)
    | (go_at_call 16; refine (keep_any _ _ _ _).mono ?_; rintro e w1 ⟨rfl, rfl⟩)
    | (go_at_call 17; refine (rKeep_any _ _ _ _).mono ?_; rintro e w1 ⟨rfl, rfl⟩)
    | (go_at_call 13; refine (example_true _).mono ?_; rintro e w1 ⟨rfl, hb⟩))
  go_ret
  exact ⟨rfl, hb⟩
set_option maxHeartbeats 4000000 in
theorem law_cullModes (a : Int) (c : Bool) (w : World) :
    Calls Try.prog 6 #[.int .i64 a, .bool c] w fun e w' => e = .returned (.bool true) ∧ Below w.heap.size w w' := by
  by_cases h : a = 0
  · subst h
    go_enter Try.func6, Try.ntmps6
    go_wp2_with (first
      | (go_at_call 14; refine (front_at _ _ _ _ (front_zero _)).mono ?_; rintro e w1 ⟨rfl, rfl⟩)
      | (go_at_call 16; refine (keep_at _ _ _ _ _ (keep_zero _ _)).mono ?_; rintro e w1 ⟨rfl, rfl⟩)
      | (go_at_call 13; refine (example_true _).mono ?_; rintro e w1 ⟨rfl, hb⟩))
    go_ret
    exact ⟨rfl, hb⟩
  · have g1 := Lib.hid (keep_none h c)
    have g2 := Lib.hid (keep_front h c)
    have g3 := Lib.hid (keep_back h c)
    have g4 := Lib.hid (front_not h c)
    have hb0 : ((a : Int) == 0) = false := by simpa using h
    obtain ⟨f, hf⟩ : ∃ f, f = frontB a c := ⟨_, rfl⟩
    have q1 := Lib.hid (g2.out.trans (congrArg (! ·) hf.symm))
    have q2 := Lib.hid (g3.out.trans hf.symm)
    have q3 := Lib.hid (g4.out.trans (congrArg (! ·) hf.symm))
    have q4 := Lib.hid hf.symm
    clear h g2 g3 g4 hf
    go_enter Try.func6, Try.ntmps6
    go_wp2_with fail
    refine (keep_at _ _ _ _ _ g1.out).mono ?_
    rintro e w1 ⟨rfl, rfl⟩
    go_wp2_with fail
    refine (keep_at _ _ _ _ _ q1.out).mono ?_
    rintro e w1 ⟨rfl, rfl⟩
    go_wp2_with fail
    refine (keep_at _ _ _ _ _ q2.out).mono ?_
    rintro e w1 ⟨rfl, rfl⟩
    cases f
    all_goals
      go_wp2_with fail
      refine (front_at _ _ _ _ q4.out).mono ?_
      rintro e w1 ⟨rfl, rfl⟩
      go_wp2_with fail
      refine (front_at _ _ _ _ q3.out).mono ?_
      rintro e w1 ⟨rfl, rfl⟩
      go_wp2_with fail
      refine (example_true _).mono ?_
      rintro e w1 ⟨rfl, hb⟩
      go_wp2
      go_ret
      exact ⟨rfl, hb⟩
end Go.Proofs.Ytboffbajmlkhiaa
