/- Apply of the reference of chapter 7; the law PermuteApplies. -/
import Derived.Test.YthbhhodlggkegaaAppI
import Derived.Test.YthbhhodlggkegaaSame07
import Derived.Test.YthbhhodlggkegaaPEx2
namespace Go.Proofs.Ythbhhodlggkegaa
open Go.RowKit
set_option maxRecDepth 100000 in
set_option maxHeartbeats 8000000 in
theorem rApply_any (n m ca cb : Nat) (hn : n ≤ 17592186043904) (h2 : m ≤ 17592186043904) (f : Nat → Int) (o : Nat → Int) (A B : Option Addr) (w : World) (k1 : Sl w A n ca f) (k2 : Sl w B m cb o) :
    Calls Try.prog 23 #[.slice A n ca, .slice B m cb] w fun e w' => Below w.heap.size w w' ∧ (((∀ i, i < m → 0 ≤ o i ∧ o i < n) ∧ ∃ G c, e = .returned (.slice G m c) ∧ Sl w' G m c (fun i => f (o i).toNat)) ∨ (e = .returned (.slice none 0 0) ∧ ¬ (∀ i, i < m → 0 ≤ o i ∧ o i < n))) := by
  have n0 : (0 : Int) ≤ n := by omega
  have n2 : (n : Int) ≤ 17592186043904 := by omega
  have m0 : (0 : Int) ≤ m := by omega
  have m2 : (m : Int) ≤ 17592186043904 := by omega
  obtain ⟨i, hi, hz, hs, hb8⟩ := int_info
  replace hi := Lib.hid hi
  replace hz := Lib.hid hz
  replace hs := Lib.hid hs
  replace hb8 := Lib.hid hb8
  have hO := Lib.hid (own_nil w (fun j => f (o j).toNat))
  replace k1 := Lib.hid k1
  replace k2 := Lib.hid k2
  go_enter Try.func23, Try.ntmps23
  go_wp2_with fail
  go_loopw [5, 6] (fun v i wr => ∃ k : Nat, k ≤ m ∧ i = .int .i64 k ∧ Hid (∀ j, j < k → 0 ≤ o j ∧ o j < n) ∧ wr.ownsRow w.heap.size 3 1 v k (intsOf (fun j => f (o j).toNat) k) ∧ Below w.heap.size w wr)
    (fun _ i _ => m - (intOf i).toNat)
  case atStart => exact ⟨0, by omega, rfl, Lib.hid (fun j hj => absurd hj (Nat.not_lt_zero j)), hO.out, Below.refl _ _⟩
  case round =>
    clear hO
    obtain ⟨k, hk, rfl, hR, hO, hB⟩ := hrel
    replace hO := Lib.hid hO
    replace hB := Lib.hid hB
    by_cases hlt : k < m
    · have hlt' : (k : Int) < m := by omega
      obtain ⟨b, rfl, -, c1⟩ := (k2.out.call hB.out).get hlt
      by_cases hr : 0 ≤ o k ∧ o k < (n : Int)
      · have hR2 := Lib.hid (show ∀ j, j < k + 1 → 0 ≤ o j ∧ o j < n from fun j hj => by
          by_cases e : j = k
          · subst e; exact hr
          · exact hR.out j (by omega))
        obtain ⟨r1, r2⟩ := hr
        obtain ⟨q, hq⟩ : ∃ q : Nat, o k = (q : Int) := ⟨(o k).toNat, by omega⟩
        rw [hq] at r1 r2 c1
        have hqn : q < n := by omega
        have hfq := Lib.hid (show f (o k).toNat = f q from by rw [hq]; simp)
        obtain ⟨a, rfl, -, c2⟩ := (k1.out.call hB.out).get hqn
        have hO' := Lib.hid (hO.out.alloc (.cells #[.int .i64 (f q)] 3))
        have hB' := Lib.hid (hB.out.alloc hB.out.size (.cells #[.int .i64 (f q)] 3))
        have hN := Lib.hid (Blk.new wr 3 #[.int .i64 (f q)])
        replace hq := Lib.hid hq
        go_wp2_with (refine wpList_append_lies _ rfl _ _ 27 rfl w.heap.size 3 i (.int .i64 0) 1 8 Try.underlying27 hi.out hz.out hs.out hb8.out rfl (by omega) _ k (intsOf (fun j => f (o j).toNat) k) rfl hO'.out ⟨wr.heap.size, 0, none⟩ 1 1 [.int .i64 (f q)] rfl rfl (by
            intro p u hu
            rw [add_plain, hN.out.cell]
            simpa using hu) (by intro u hu; simp only [List.mem_singleton] at hu; subst hu; rfl) (by omega) (by simp only [maxLen]; omega) (by omega) hB'.out.size _ rfl ?_; intro g cap w2 hown hgrow hat hlt2; replace hown := Lib.hid hown; replace hgrow := Lib.hid hgrow; replace hat := Lib.hid hat; replace hlt2 := Lib.hid hlt2)
        go_roundw
        case rel => exact ⟨k + 1, by omega, by go_num, hR2, by rw [← intsOf_succ, hfq.out]; exact hown.out, hB'.out.grown hgrow.out hB'.out.size fun b hbk => (hO'.out.lt b hbk).1⟩
        case measure => simp [intOf]; omega
      · have hno := Lib.hid (show ¬ (∀ j, j < m → 0 ≤ o j ∧ o j < n) from fun h => hr (h k hlt))
        by_cases r0 : o k < 0
        · clear hr
          go_wp2
          go_ret
          exact ⟨hB.out, .inr ⟨rfl, hno.out⟩⟩
        · have r1 : (n : Int) ≤ o k := by omega
          have r0' : (0 : Int) ≤ o k := by omega
          clear hr r0
          go_wp2
          go_ret
          exact ⟨hB.out, .inr ⟨rfl, hno.out⟩⟩
    · have he : k = m := by omega
      have hlt' : (m : Int) ≤ k := by omega
      subst he
      obtain ⟨G, c, rfl, hG, -⟩ := own_sl hO.out
      replace hG := Lib.hid hG
      clear hO
      go_wp2
      go_ret
      exact ⟨hB.out, .inl ⟨hR.out, G, c, rfl, hG.out⟩⟩
set_option maxHeartbeats 8000000 in
theorem law_applies (n m ca cb : Nat) (hn : n ≤ 17592186043904) (h2 : m ≤ 17592186043904) (f : Nat → Int) (o : Nat → Int) (A B : Option Addr) (w : World) (k1 : Sl w A n ca f) (k2 : Sl w B m cb o) :
    Calls Try.prog 8 #[.slice A n ca, .slice B m cb] w fun e w' => e = .returned (.bool true) ∧ Below w.heap.size w w' := by
  have hA := Lib.hid (applyI_any n m ca cb hn h2 f o A B w k1 k2)
  replace k1 := Lib.hid k1
  replace k2 := Lib.hid k2
  go_enter Try.func8, Try.ntmps8
  go_wp2_with fail
  refine hA.out.mono ?_
  rintro e w1 ⟨hb, hA⟩
  have hR := Lib.hid (rApply_any n m ca cb hn h2 f o A B w1 (k1.out.call hb) (k2.out.call hb))
  replace hb := Lib.hid hb
  rcases hA with ⟨rfl, hin, hs⟩ | ⟨rfl, hno⟩
  · replace hs := Lib.hid hs
    obtain ⟨s, hs0⟩ : ∃ s, w.heap.size = s := ⟨_, rfl⟩
    rw [hs0] at hs
    rw [hs0]
    replace hs0 := Lib.hid hs0
    go_wp2_with fail
    refine hR.out.mono ?_
    rintro e w2 ⟨hb2, ⟨-, G, c, rfl, hg⟩ | ⟨rfl, hno⟩⟩
    case inr => exact absurd hin hno
    have hS := Lib.hid (same_sl m (by omega) _ _ _ _ _ w2 (hs.out.call hb2) hg)
    replace hb := Lib.hid (below_on hb.out hb2)
    clear hb2 hg hin hs hR
    go_wp2_with fail
    refine hS.out.mono ?_
    rintro e w3 ⟨rfl, hb2⟩
    replace hb := Lib.hid (below_on hb.out hb2)
    clear hb2 hS
    go_wp2_with fail
    refine (example_true _).mono ?_
    rintro e w4 ⟨rfl, hb2⟩
    replace hb := Lib.hid (below_on hb.out hb2)
    clear hb2
    go_wp2
    go_ret
    exact ⟨rfl, hs0.out ▸ hb.out⟩
  · go_wp2_with fail
    refine hR.out.mono ?_
    rintro e w2 ⟨hb2, ⟨hin, G, c, rfl, hg⟩ | ⟨rfl, -⟩⟩
    case inl => exact absurd hin hno
    have hS := Lib.hid (same_sl 0 (by omega) (fun _ => 0) _ _ _ _ w2 (Sl.none _ _) (Sl.none _ _))
    replace hb := Lib.hid (below_on hb.out hb2)
    clear hb2 hno hR
    go_wp2_with fail
    refine hS.out.mono ?_
    rintro e w3 ⟨rfl, hb2⟩
    replace hb := Lib.hid (below_on hb.out hb2)
    clear hb2 hS
    go_wp2_with fail
    refine (example_true _).mono ?_
    rintro e w4 ⟨rfl, hb2⟩
    replace hb := Lib.hid (below_on hb.out hb2)
    clear hb2
    go_wp2
    go_ret
    exact ⟨rfl, hb.out⟩
end Go.Proofs.Ythbhhodlggkegaa
