/- PermuteInverts returns true at every list. -/
import Derived.Test.YthbhhodlggkegaaInvA
import Derived.Test.YthbhhodlggkegaaRInv
import Derived.Test.YthbhhodlggkegaaShufLaw
import Derived.Laws.AppendOwnNone
namespace Go.Proofs.Ythbhhodlggkegaa
open Go.RowKit
set_option maxHeartbeats 4000000 in
theorem inverse_none (w : World) :
    Calls Try.prog 18 #[.slice none 0 0] w fun e w' => Below w.heap.size w w' ∧ e = .returned (.tuple #[.slice (some ⟨w.heap.size, 0, none⟩) 0 0, .int .i64 0]) := by
  have hmk : ∀ w : World, (Instr.makeSlice 27 (.int .i64 0) (.int .i64 0)).run Try.prog w = .ok (.slice (some ⟨w.heap.size, 0, none⟩) 0 0) (w.alloc (.cells (rowOf 0 (fun _ => 0)) 3)) := fun w => make_intsL 0 (by omega) w
  have hmb : ∀ w : World, (Instr.makeSlice 41 (.int .i64 0) (.int .i64 0)).run Try.prog w = .ok (.slice (some ⟨w.heap.size, 0, none⟩) 0 0) (w.alloc (.cells (rowB 0 (fun _ => false)) 4)) := fun w => make_boolsL 0 (by omega) w
  have hB : Hid (Below w.heap.size w ((w.alloc (.cells (rowOf 0 (fun _ => 0)) 3)).alloc (.cells (rowB 0 (fun _ => false)) 4))) := Lib.hid (by go_grown)
  go_enter Try.func18, Try.ntmps18
  go_wp2_with fail
  refine wp_loop_rounds 1 ?_
  rw [rounds_succ]
  go_wp2
  go_returns
  exact ⟨hB.out, rfl⟩
set_option maxHeartbeats 4000000 in
theorem isPermutation_none (w : World) :
    Calls Try.prog 20 #[.slice none 0 0] w fun e w' => e = .returned (.bool true) ∧ Below w.heap.size w w' := by
  go_enter Try.func20, Try.ntmps20
  go_wp2_with fail
  refine (inverse_none w).mono ?_
  rintro e w1 ⟨hb, rfl⟩
  replace hb := Lib.hid hb
  go_wp2
  go_ret
  exact ⟨rfl, hb.out⟩
set_option maxHeartbeats 4000000 in
theorem rIsPerm_none (w : World) :
    Calls Try.prog 21 #[.slice none 0 0] w fun e w' => e = .returned (.bool true) ∧ w = w' := by
  go_enter Try.func21, Try.ntmps21
  go_wp2_with fail
  refine wp_loop_rounds 1 ?_
  rw [rounds_succ]
  go_wp2
  go_ret
  exact ⟨rfl, rfl⟩
set_option maxHeartbeats 4000000 in
theorem rInverse_none (w : World) :
    Calls Try.prog 19 #[.slice none 0 0] w fun e w' => e = .returned (.tuple #[.slice none 0 0, .int .i64 0]) ∧ w = w' := by
  go_enter Try.func19, Try.ntmps19
  go_wp2_with fail
  refine (rIsPerm_none w).mono ?_
  rintro e w1 ⟨rfl, rfl⟩
  go_wp2_with fail
  refine wp_loop_rounds 1 ?_
  rw [rounds_succ]
  go_wp2
  go_returns
  exact ⟨rfl, rfl⟩
/-- Same of two lists without items. -/
theorem same_zero (p q : Option Addr) (c d : Nat) (w : World) :
    Calls Try.prog 16 #[.slice p 0 c, .slice q 0 d] w fun e w' => e = .returned (.bool true) ∧ w = w' := by
  go_enter Try.func16, Try.ntmps16
  go_wp2_with fail
  refine wp_loop_rounds 1 ?_
  rw [rounds_succ]
  go_wp2
  go_ret
  exact ⟨rfl, rfl⟩
set_option maxHeartbeats 4000000 in
theorem rInverse_no (n cap : Nat) (h1 : 1 ≤ n) (h2 : n ≤ 17592186043904) (f : Nat → Int) (ho : onceB n f = false) (B : Nat) (cur : Array Value) (w : World) (hb : Blk w B 3 cur) (hf : Begins n cur f) :
    Calls Try.prog 19 #[.slice (some ⟨B, 0, none⟩) n cap] w fun e w' => e = .returned (.tuple #[.slice none 0 0, .int .i64 2]) ∧ Below w.heap.size w w' := by
  have hC := rIsPerm_any n cap (by omega) f B cur w hb hf
  rw [ho] at hC
  replace hC := Lib.hid hC
  clear ho hb hf
  go_enter Try.func19, Try.ntmps19
  go_wp2_with fail
  refine hC.out.mono ?_
  rintro e w1 ⟨rfl, hB1⟩
  replace hB1 := Lib.hid hB1
  clear hC
  go_wp2
  go_returns
  exact ⟨rfl, hB1.out⟩
theorem once_zero (f : Nat → Int) : onceB 0 f = true := onceB_yes fun x hx => absurd hx (Nat.not_lt_zero x)
set_option maxRecDepth 100000 in
set_option maxHeartbeats 8000000 in
theorem inverts_none (w : World) :
    Calls Try.prog 6 #[.slice none 0 0] w fun e w' => e = .returned (.bool true) ∧ Below w.heap.size w w' := by
  obtain ⟨i, hi, hz, hs, hb8⟩ := int_info
  replace hi := Lib.hid hi
  have hO := Lib.hid (World.ownsRow_nil w w.heap.size 3 1)
  go_enter Try.func6, Try.ntmps6
  go_wp2_with (refine wpList_append_own_none rfl _ _ 27 rfl w.heap.size 3 i 1 Try.underlying27 hi.out _ 0 [] rfl hO.out rfl ?_)
  go_wp2_with fail
  refine (inverse_none _).mono ?_
  rintro e w1 ⟨hB, rfl⟩
  replace hB := Lib.hid hB
  obtain ⟨s, hs⟩ : ∃ s, w.heap.size = s := ⟨_, rfl⟩
  rw [hs] at hB
  rw [hs]
  replace hs := Lib.hid hs
  go_wp2_with fail
  refine (rInverse_none _).mono ?_
  rintro e w2 ⟨rfl, rfl⟩
  go_wp2_with fail
  refine (isPermutation_none _).mono ?_
  rintro e w2 ⟨rfl, hb⟩
  replace hB := Lib.hid (hB.out.trans (hb.mono (hs.out ▸ hB.out.size)))
  clear hb
  go_wp2_with fail
  refine (rIsPerm_none _).mono ?_
  rintro e w3 ⟨rfl, rfl⟩
  go_wp2_with fail
  refine (same_zero _ _ _ _ _).mono ?_
  rintro e w3 ⟨rfl, rfl⟩
  go_wp2_with fail
  refine (same_zero _ _ _ _ _).mono ?_
  rintro e w3 ⟨rfl, rfl⟩
  go_wp2_with fail
  refine (example_true _).mono ?_
  rintro e w3 ⟨rfl, hb⟩
  replace hB := Lib.hid (hB.out.trans (hb.mono (hs.out ▸ hB.out.size)))
  clear hb
  go_wp2
  go_ret
  exact ⟨rfl, by rw [hs.out]; exact hB.out⟩
theorem own_form {n : Nat} (h1 : 1 ≤ n) {W : World} {base : Nat} {v : Value} {f : Nat → Int} {p : Prop} (h : W.ownsRow base 3 1 v (0 + n) ([] ++ intsOf f n)) (_ : p) :
    ∃ b c cur, v = .slice (some ⟨b, 0, none⟩) n c ∧ base ≤ b ∧ Blk W b 3 cur ∧ Begins n cur f := by
  rw [Nat.zero_add, List.nil_append] at h
  obtain ⟨-, ⟨-, h0⟩ | ⟨b, c, cur, rfl, hb, hg, hnc, -, hcs, htk⟩⟩ := h
  · omega
  · exact ⟨b, c, cur, rfl, hb, hg, begins_take htk⟩
set_option maxRecDepth 100000 in
set_option maxHeartbeats 8000000 in
theorem inverts_zero (cap : Nat) (f : Nat → Int) (a : Addr) (w : World) (hl : Lie w a 0 f) :
    Calls Try.prog 6 #[.slice (some a) 0 cap] w fun e w' => e = .returned (.bool true) ∧ Below w.heap.size w w' := by
  obtain ⟨i, hi, hz, hs, hb8⟩ := int_info
  replace hi := Lib.hid hi
  replace hz := Lib.hid hz
  replace hs := Lib.hid hs
  replace hb8 := Lib.hid hb8
  have hO := Lib.hid (World.ownsRow_nil w w.heap.size 3 1)
  have hnews := Lib.hid (show ∀ j u, (intsOf f 0)[j]? = some u → w.cell? (a.add j) = some u from fun j u hu => by
    unfold intsOf at hu
    simp at hu)
  have hone := Lib.hid (show ∀ u ∈ intsOf f 0, u.oneCell' = true from fun u hu => by
    unfold intsOf at hu
    obtain ⟨j, -, rfl⟩ := List.mem_map.1 hu
    rfl)
  replace hl := Lib.hid hl
  go_enter Try.func6, Try.ntmps6
  go_wp2_with (refine wpList_append_own _ rfl _ _ 27 rfl w.heap.size 3 i (.int .i64 0) 1 8 Try.underlying27 hi.out hz.out hs.out hb8.out rfl (by omega) _ 0 [] rfl hO.out a 0 cap (intsOf f 0) rfl (by simp [intsOf]) hnews.out hone.out (by simp only [maxLen]; omega) (by omega) (Nat.le_refl _) ?_; intro kv w1 hown hgrow hnil; replace hown := Lib.hid hown; replace hgrow := Lib.hid hgrow; obtain rfl : kv = .slice none 0 0 := hnil.2 ⟨rfl, rfl⟩; replace hnil := Lib.hid hnil)
  have hB0 := Lib.hid (show Below w.heap.size w w1 from (Below.refl _ _).grown hgrow.out (Nat.le_refl _) (fun k hk => by cases hk))
  replace hl := Lib.hid (hl.out.call hB0.out)
  clear hO hnews hone hown hgrow hnil
  have hI := Lib.hid (inverse_any 0 cap (by omega) f a w1 hl.out)
  go_wp2_with fail
  refine hI.out.mono ?_
  rintro e w2 ⟨hB, ⟨rfl, -, -⟩ | ⟨rfl, hno⟩⟩
  case inr => rw [once_zero] at hno; cases hno
  clear hI
  replace hl := hl.out.call hB
  replace hB := below_on hB0.out hB
  obtain ⟨s, hs1⟩ : ∃ s, w1.heap.size = s := ⟨_, rfl⟩
  rw [hs1]
  replace hs1 := Lib.hid hs1
  have hP := isPermutation_any 0 cap (by omega) f a w2 hl
  rw [once_zero] at hP
  replace hP := Lib.hid hP
  replace hB := Lib.hid hB
  replace hl := Lib.hid hl
  go_wp2_with fail
  refine (rInverse_none _).mono ?_
  rintro e w3 ⟨rfl, rfl⟩
  go_wp2_with fail
  refine hP.out.mono ?_
  rintro e w3 ⟨rfl, hb⟩
  replace hB := Lib.hid (below_on hB.out hb)
  clear hb hP
  go_wp2_with fail
  refine (rIsPerm_none _).mono ?_
  rintro e w4 ⟨rfl, rfl⟩
  go_wp2_with fail
  refine (same_zero _ _ _ _ _).mono ?_
  rintro e w4 ⟨rfl, rfl⟩
  go_wp2_with fail
  refine (same_zero _ _ _ _ _).mono ?_
  rintro e w4 ⟨rfl, rfl⟩
  go_wp2_with fail
  refine (example_true _).mono ?_
  rintro e w4 ⟨rfl, hb⟩
  replace hB := Lib.hid (below_on hB.out hb)
  clear hb
  go_wp2
  go_ret
  exact ⟨rfl, hB.out⟩
set_option maxRecDepth 100000 in
set_option maxHeartbeats 8000000 in
theorem inverts_some (n cap : Nat) (h1 : 1 ≤ n) (h2 : n ≤ 17592186043904) (f : Nat → Int) (a : Addr) (w : World) (hl : Lie w a n f) :
    Calls Try.prog 6 #[.slice (some a) n cap] w fun e w' => e = .returned (.bool true) ∧ Below w.heap.size w w' := by
  obtain ⟨i, hi, hz, hs, hb8⟩ := int_info
  replace hi := Lib.hid hi
  replace hz := Lib.hid hz
  replace hs := Lib.hid hs
  replace hb8 := Lib.hid hb8
  have hO := Lib.hid (World.ownsRow_nil w w.heap.size 3 1)
  have hnews := Lib.hid (show ∀ j u, (intsOf f n)[j]? = some u → w.cell? (a.add j) = some u from fun j u hu => by
    unfold intsOf at hu
    by_cases hj : j < n
    · rw [hl.at_ j hj]; simpa [hj] using hu
    · simp [hj] at hu)
  have hone := Lib.hid (show ∀ u ∈ intsOf f n, u.oneCell' = true from fun u hu => by
    unfold intsOf at hu
    obtain ⟨j, -, rfl⟩ := List.mem_map.1 hu
    rfl)
  replace hl := Lib.hid hl
  go_enter Try.func6, Try.ntmps6
  go_wp2_with (refine wpList_append_own _ rfl _ _ 27 rfl w.heap.size 3 i (.int .i64 0) 1 8 Try.underlying27 hi.out hz.out hs.out hb8.out rfl (by omega) _ 0 [] rfl hO.out a n cap (intsOf f n) rfl (by simp [intsOf]) hnews.out hone.out (by simp only [maxLen]; omega) (by omega) (Nat.le_refl _) ?_; intro kv w1 hown hgrow hnil; replace hgrow := Lib.hid hgrow; obtain ⟨b, c, cur, rfl, hbw, hblk, hbeg⟩ := own_form h1 hown hnil)
  have hB0 := Lib.hid (show Below w.heap.size w w1 from (Below.refl _ _).grown hgrow.out (Nat.le_refl _) (fun k hk => by cases hk))
  replace hl := Lib.hid (hl.out.call hB0.out)
  replace hblk := Lib.hid hblk
  replace hbeg := Lib.hid hbeg
  clear hO hnews hone hgrow
  have hI := Lib.hid (inverse_any n cap h2 f a w1 hl.out)
  go_wp2_with fail
  refine hI.out.mono ?_
  rintro e w2 ⟨hB, ⟨rfl, ho, G, hG, hT⟩ | ⟨rfl, ho⟩⟩
  · clear hI
    replace hl := hl.out.call hB
    replace hblk := hblk.out.call hB
    replace hB := below_on hB0.out hB
    obtain ⟨s, hs1⟩ : ∃ s, w1.heap.size = s := ⟨_, rfl⟩
    rw [hs1] at hG
    rw [hs1]
    replace hs1 := Lib.hid hs1
    obtain ⟨g, hg⟩ := where_ex ho
    have hGb : Begins n (rowOf n G) (fun i => (g i : Int)) := fun x hx => by
      obtain ⟨q1, q2⟩ := hg x hx
      have q := hT (g x) q1
      rw [q2] at q
      rw [rowOf_get hx]
      simp only [Int.toNat_natCast] at q
      rw [q]
    have hR := Lib.hid (rInverse_yes n c h1 h2 f ho g hg b cur w2 hblk hbeg.out)
    replace hl := Lib.hid hl
    replace hblk := Lib.hid hblk
    replace hB := Lib.hid hB
    replace hG := Lib.hid hG
    replace hGb := Lib.hid hGb
    replace ho := Lib.hid ho
    clear hg hT
    go_wp2_with fail
    refine hR.out.mono ?_
    rintro e w3 ⟨b2, c2, cur2, rfl, hb, hk2, hg2⟩
    clear hR
    replace hl := hl.out.call hb
    replace hblk := Lib.hid (hblk.out.call hb)
    replace hG := Lib.hid (hG.out.call hb)
    replace hB := Lib.hid (below_on hB.out hb)
    replace hk2 := Lib.hid hk2
    replace hg2 := Lib.hid hg2
    clear hb
    have hP := isPermutation_any n cap h2 f a w3 hl
    rw [ho.out] at hP
    replace hP := Lib.hid hP
    replace hl := Lib.hid hl
    go_wp2_with fail
    refine hP.out.mono ?_
    rintro e w4 ⟨rfl, hb⟩
    replace hl := Lib.hid (hl.out.call hb)
    replace hblk := Lib.hid (hblk.out.call hb)
    replace hG := Lib.hid (hG.out.call hb)
    replace hk2 := Lib.hid (hk2.out.call hb)
    replace hB := Lib.hid (below_on hB.out hb)
    clear hb hP
    have hP := rIsPerm_any n c (by omega) f b cur w4 hblk.out hbeg.out
    rw [ho.out] at hP
    replace hP := Lib.hid hP
    go_wp2_with fail
    refine hP.out.mono ?_
    rintro e w5 ⟨rfl, hb⟩
    replace hl := Lib.hid (hl.out.call hb)
    replace hblk := Lib.hid (hblk.out.call hb)
    replace hG := Lib.hid (hG.out.call hb)
    replace hk2 := Lib.hid (hk2.out.call hb)
    replace hB := Lib.hid (below_on hB.out hb)
    clear hb hP
    have hS := Lib.hid (same_lie n h2 (fun i => (g i : Int)) ⟨s, 0, none⟩ ⟨b2, 0, none⟩ n c2 w5 (lie_block hG.out hGb.out) (lie_block hk2.out hg2.out))
    go_wp2_with fail
    refine hS.out.mono ?_
    rintro e w6 ⟨rfl, hb⟩
    replace hl := Lib.hid (hl.out.call hb)
    replace hblk := Lib.hid (hblk.out.call hb)
    replace hB := Lib.hid (below_on hB.out hb)
    clear hb hS hG hk2
    have hS := Lib.hid (same_lie n h2 f a ⟨b, 0, none⟩ cap c w6 hl.out (lie_block hblk.out hbeg.out))
    go_wp2_with fail
    refine hS.out.mono ?_
    rintro e w7 ⟨rfl, hb⟩
    replace hB := Lib.hid (below_on hB.out hb)
    clear hb hS
    go_wp2_with fail
    refine (example_true _).mono ?_
    rintro e w8 ⟨rfl, hb⟩
    replace hB := Lib.hid (below_on hB.out hb)
    clear hb
    go_wp2
    go_ret
    exact ⟨rfl, hB.out⟩
  · clear hI
    replace hl := hl.out.call hB
    replace hblk := hblk.out.call hB
    replace hB := below_on hB0.out hB
    have hR := Lib.hid (rInverse_no n c h1 h2 f ho b cur w2 hblk hbeg.out)
    replace hl := Lib.hid hl
    replace hblk := Lib.hid hblk
    replace hB := Lib.hid hB
    replace ho := Lib.hid ho
    go_wp2_with fail
    refine hR.out.mono ?_
    rintro e w3 ⟨rfl, hb⟩
    clear hR
    replace hl := hl.out.call hb
    replace hblk := Lib.hid (hblk.out.call hb)
    replace hB := Lib.hid (below_on hB.out hb)
    clear hb
    have hP := isPermutation_any n cap h2 f a w3 hl
    rw [ho.out] at hP
    replace hP := Lib.hid hP
    replace hl := Lib.hid hl
    go_wp2_with fail
    refine hP.out.mono ?_
    rintro e w4 ⟨rfl, hb⟩
    replace hl := Lib.hid (hl.out.call hb)
    replace hblk := Lib.hid (hblk.out.call hb)
    replace hB := Lib.hid (below_on hB.out hb)
    clear hb hP
    have hP := rIsPerm_any n c (by omega) f b cur w4 hblk.out hbeg.out
    rw [ho.out] at hP
    replace hP := Lib.hid hP
    go_wp2_with fail
    refine hP.out.mono ?_
    rintro e w5 ⟨rfl, hb⟩
    replace hl := Lib.hid (hl.out.call hb)
    replace hblk := Lib.hid (hblk.out.call hb)
    replace hB := Lib.hid (below_on hB.out hb)
    clear hb hP
    go_wp2_with fail
    refine (same_zero _ _ _ _ _).mono ?_
    rintro e w6 ⟨rfl, rfl⟩
    have hS := Lib.hid (same_lie n h2 f a ⟨b, 0, none⟩ cap c w5 hl.out (lie_block hblk.out hbeg.out))
    go_wp2_with fail
    refine hS.out.mono ?_
    rintro e w7 ⟨rfl, hb⟩
    replace hB := Lib.hid (below_on hB.out hb)
    clear hb hS
    go_wp2_with fail
    refine (example_true _).mono ?_
    rintro e w8 ⟨rfl, hb⟩
    replace hB := Lib.hid (below_on hB.out hb)
    clear hb
    go_wp2
    go_ret
    exact ⟨rfl, hB.out⟩
theorem law_inverts (n cap : Nat) (h2 : n ≤ 17592186043904) (f : Nat → Int) (a : Addr) (w : World) (hl : Lie w a n f) :
    Calls Try.prog 6 #[.slice (some a) n cap] w fun e w' => e = .returned (.bool true) ∧ Below w.heap.size w w' := by
  rcases Nat.eq_zero_or_pos n with rfl | h
  · exact inverts_zero cap f a w hl
  · exact inverts_some n cap h h2 f a w hl
theorem law_inv (A : Option Addr) (n c : Nat) (f : Nat → Int) (w : World) (h2 : n ≤ 17592186043904) (hl : Sl w A n c f) :
    Calls Try.prog 6 #[.slice A n c] w fun e w' => e = .returned (.bool true) ∧ Below w.heap.size w w' := by
  rcases A with _ | a
  · obtain ⟨rfl, rfl⟩ := hl.nil rfl
    exact inverts_none w
  · refine law_inverts n c h2 f a w ?_
    rcases Nat.eq_zero_or_pos n with rfl | h
    · exact ⟨fun h => absurd h (Nat.lt_irrefl _), fun i hi => absurd hi (Nat.not_lt_zero i)⟩
    · obtain ⟨a', e, h'⟩ := hl.lies h
      obtain rfl := Option.some.inj e
      exact h'
end Go.Proofs.Ythbhhodlggkegaa
