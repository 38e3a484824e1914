/- count of the reference of chapter 7: how often a number occurs in a list. -/
import Derived.Test.YthbhhodlggkegaaPermR
namespace Go.Proofs.Ythbhhodlggkegaa
open Go.RowKit
/-- How many of the first k numbers are x. -/
def cntN (f : Nat → Int) (x : Int) : Nat → Nat
  | 0 => 0
  | k + 1 => cntN f x k + if f k = x then 1 else 0
theorem cntN_le (f : Nat → Int) (x : Int) : ∀ k, cntN f x k ≤ k
  | 0 => Nat.le_refl _
  | k + 1 => by unfold cntN; have := cntN_le f x k; split <;> omega
set_option maxHeartbeats 4000000 in
theorem count_any (n cap : Nat) (hn : (n : Int) ≤ 4611686018427387904) (f : Nat → Int) (x : Int) (B : Nat) (cur : Array Value) (w : World) (hb : Blk w B 3 cur) (hf : Begins n cur f) :
    Calls Try.prog 25 #[.slice (some ⟨B, 0, none⟩) n cap, .int .i64 x] w fun e w' => e = .returned (.int .i64 (cntN f x n : Nat)) ∧ Below w.heap.size w w' := by
  have n0 : (0 : Int) ≤ n := by omega
  replace hb := Lib.hid hb
  replace hf := Lib.hid hf
  go_enter Try.func25, Try.ntmps25
  go_wp2_with fail
  go_loopw [5, 6] (fun c i wr => ∃ k : Nat, k ≤ n ∧ i = .int .i64 k ∧ c = .int .i64 (cntN f x k : Nat) ∧ Blk wr B 3 cur ∧ Below w.heap.size w wr)
    (fun _ i _ => n - (intOf i).toNat)
  case atStart => exact ⟨0, by omega, rfl, rfl, hb.out, Below.refl _ _⟩
  case round =>
    clear hb
    obtain ⟨k, hk, rfl, rfl, hb, hB⟩ := hrel
    replace hb := Lib.hid hb
    replace hB := Lib.hid hB
    by_cases hlt : k < n
    · have hlt' : (k : Int) < n := by omega
      have c1 : wr.cell? ⟨B, k, none⟩ = some (.int .i64 (f k)) := by rw [hb.out.cell]; exact hf.out k hlt
      have hle := cntN_le f x k
      have hs : cntN f x (k + 1) = cntN f x k + if f k = x then 1 else 0 := rfl
      generalize cntN f x k = c at *
      have hw1 : IntKind.i64.wrap ((c : Int) + 1) = (c : Int) + 1 := by rw [IntKind.wrap_i64]; omega
      by_cases he : f k = x
      · have hb1 : (f k == x) = true := beq_iff_eq.2 he
        rw [if_pos he] at hs
        replace hs := Lib.hid hs
        replace he := Lib.hid he
        go_wp2
        go_roundw
        case rel => exact ⟨k + 1, by omega, by go_num, by rw [hs.out]; go_num, hb.out, hB.out⟩
        case measure => simp [intOf]; omega
      · have hb1 : (f k == x) = false := beq_eq_false_iff_ne.2 he
        rw [if_neg he, Nat.add_zero] at hs
        replace hs := Lib.hid hs
        replace he := Lib.hid he
        go_wp2
        go_roundw
        case rel => exact ⟨k + 1, by omega, by go_num, by rw [hs.out]; rfl, hb.out, hB.out⟩
        case measure => simp [intOf]; omega
    · have he : n = k := by omega
      have hlt' : (n : Int) ≤ k := by omega
      clear hk hlt
      subst he
      go_wp2
      go_ret
      exact ⟨rfl, hB.out⟩
end Go.Proofs.Ythbhhodlggkegaa
