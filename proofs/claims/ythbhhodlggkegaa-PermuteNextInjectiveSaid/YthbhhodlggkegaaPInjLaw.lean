/- PermuteNextInjective returns true for every two states. -/
import Derived.Test.YthbhhodlggkegaaPInj
import Derived.Test.YthbhhodlggkegaaPEx2
namespace Go.Proofs.Ythbhhodlggkegaa
open Go.RowKit
set_option maxHeartbeats 1000000 in
theorem law_next (a b : Int) (w : World) (ha : (Lit.int .u64 a).wf = true) (hb : (Lit.int .u64 b).wf = true) :
    Calls Try.prog 4 #[.int .u64 a, .int .u64 b] w fun e w' => e = .returned (.bool true) ∧ Below w.heap.size w w' := by
  obtain ⟨a0, a1⟩ := u64_range ha
  obtain ⟨b0, b1⟩ := u64_range hb
  obtain ⟨x, hx⟩ : ∃ x, zI a = x := ⟨_, rfl⟩
  obtain ⟨y, hy⟩ : ∃ y, zI b = y := ⟨_, rfl⟩
  obtain ⟨s, hs⟩ : ∃ s, sI a = s := ⟨_, rfl⟩
  obtain ⟨t, ht⟩ : ∃ t, sI b = t := ⟨_, rfl⟩
  have e1 : IntKind.u64.wrap (s - a) = 11400714819323198485 := hs ▸ sI_sub ⟨a0, a1⟩
  have e2 : IntKind.u64.wrap (t - b) = 11400714819323198485 := ht ▸ sI_sub ⟨b0, b1⟩
  obtain ⟨c, e3⟩ : ∃ c, (a == b) = c := ⟨_, rfl⟩
  have e4 : (x == y) = c := by
    rw [← e3, Bool.eq_iff_iff]
    simp only [beq_iff_eq]
    rw [← hx, ← hy]
    exact ⟨zI_inj a0 a1 b0 b1, fun h => by rw [h]⟩
  have e5 : (c == c) = true := by simp
  have hx := Lib.hid hx
  have hy := Lib.hid hy
  have hs := Lib.hid hs
  have ht := Lib.hid ht
  clear a0 a1 b0 b1 ha hb
  go_enter Try.func4, Try.ntmps4
  go_wp2_with fail
  refine (next_at _ _ _ _ hx.out hs.out).mono ?_
  rintro e w1 ⟨rfl, rfl⟩
  go_wp2_with fail
  refine (next_at _ _ _ _ hy.out ht.out).mono ?_
  rintro e w1 ⟨rfl, rfl⟩
  go_wp2_with fail
  refine (example_true _).mono ?_
  rintro e w1 ⟨rfl, hb⟩
  go_wp2
  go_ret
  exact ⟨rfl, hb⟩
end Go.Proofs.Ythbhhodlggkegaa
