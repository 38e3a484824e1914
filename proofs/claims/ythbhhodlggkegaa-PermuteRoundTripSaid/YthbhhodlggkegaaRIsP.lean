/- IsPermutation of the reference of chapter 7, of a list at the start of a block. -/
import Derived.Test.YthbhhodlggkegaaCnt
namespace Go.Proofs.Ythbhhodlggkegaa
open Go.RowKit
/-- Each number below n occurs once among the first n. -/
def onceB (n : Nat) (f : Nat → Int) : Bool := decide (∀ x, x < n → cntN f (x : Int) n = 1)
theorem onceB_yes {n : Nat} {f : Nat → Int} (h : ∀ x, x < n → cntN f (x : Int) n = 1) : onceB n f = true := by unfold onceB; simpa using h
theorem onceB_no {n : Nat} {f : Nat → Int} {x : Nat} (hx : x < n) (h : ¬ cntN f (x : Int) n = 1) : onceB n f = false := by
  unfold onceB
  rw [decide_eq_false_iff_not]
  exact fun hh => h (hh x hx)
set_option maxHeartbeats 4000000 in
theorem rIsPerm_any (n cap : Nat) (hn : (n : Int) ≤ 4611686018427387904) (f : Nat → Int) (B : Nat) (cur : Array Value) (w : World) (hb : Blk w B 3 cur) (hf : Begins n cur f) :
    Calls Try.prog 21 #[.slice (some ⟨B, 0, none⟩) n cap] w fun e w' => e = .returned (.bool (onceB n f)) ∧ Below w.heap.size w w' := by
  have n0 : (0 : Int) ≤ n := by omega
  replace hb := Lib.hid hb
  replace hf := Lib.hid hf
  go_enter Try.func21, Try.ntmps21
  go_wp2_with fail
  go_loopw [3] (fun i wr => ∃ k : Nat, k ≤ n ∧ i = .int .i64 k ∧ Hid (∀ x : Nat, x < k → cntN f (x : Int) n = 1) ∧ Blk wr B 3 cur ∧ Below w.heap.size w wr)
    (fun i _ => n - (intOf i).toNat)
  case atStart => exact ⟨0, by omega, rfl, Lib.hid (fun x hx => absurd hx (Nat.not_lt_zero x)), hb.out, Below.refl _ _⟩
  case round =>
    clear hb
    obtain ⟨k, hk, rfl, hA, hb, hB⟩ := hrel
    replace hb := Lib.hid hb
    replace hB := Lib.hid hB
    by_cases hlt : k < n
    · have hlt' : (k : Int) < n := by omega
      have hC := Lib.hid (count_any n cap hn f (k : Int) B cur wr hb.out hf.out)
      obtain ⟨c, hc⟩ : ∃ c, cntN f (k : Int) n = c := ⟨_, rfl⟩
      rw [hc] at hC
      by_cases he : c = 1
      · have hA2 := Lib.hid (show ∀ x : Nat, x < k + 1 → cntN f (x : Int) n = 1 from fun x hx => by
          by_cases e : x = k
          · subst e; rw [hc]; exact he
          · exact hA.out x (by omega))
        subst he
        replace hc := Lib.hid hc
        go_wp2_with fail
        refine hC.out.mono ?_
        rintro e w1 ⟨rfl, hb1⟩
        have hb2 := Lib.hid (hb.out.call hb1)
        have hB2 := Lib.hid (below_on hB.out hb1)
        clear hb1
        go_wp2
        go_roundw
        case rel => exact ⟨k + 1, by omega, by go_num, hA2, hb2.out, hB2.out⟩
        case measure => simp [intOf]; omega
      · have hno := onceB_no hlt (show ¬ cntN f (k : Int) n = 1 by rw [hc]; exact he)
        have he' : ((c : Int) != 1) = true := by simp; omega
        replace hno := Lib.hid hno
        replace hc := Lib.hid hc
        go_wp2_with fail
        refine hC.out.mono ?_
        rintro e w1 ⟨rfl, hb1⟩
        have hB2 := Lib.hid (below_on hB.out hb1)
        clear hb1
        go_wp2
        go_ret
        exact ⟨ret_bool hno.out.symm, hB2.out⟩
    · have he : n = k := by omega
      have hlt' : (n : Int) ≤ k := by omega
      clear hk hlt
      subst he
      have hy := Lib.hid (onceB_yes hA.out)
      go_wp2
      go_ret
      exact ⟨ret_bool hy.out.symm, hB.out⟩
end Go.Proofs.Ythbhhodlggkegaa
