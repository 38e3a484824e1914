/- Apply of package permute, of a list of strings. -/
import Derived.Test.YthbhhodlggkegaaSl
import Derived.Test.YthbhhodlggkegaaLst
import Derived.Deep.DeepAppendRoom
import Derived.Test.YthbhhodlggkegaaVals
namespace Go.Proofs.Ythbhhodlggkegaa
open Go.RowKit
set_option maxRecDepth 100000 in
set_option maxHeartbeats 8000000 in
theorem applyS_any (n m ca cb : Nat) (hn : n ≤ 17592186043904) (h2 : m ≤ 17592186043904) (f : Nat → ByteArray) (o : Nat → Int) (A B : Option Addr) (w : World) (k1 : SlS w A n ca f) (k2 : Sl w B m cb o) :
    Calls Try.prog 24 #[.slice A n ca, .slice B m cb] w fun e w' => Below w.heap.size w w' ∧ ((e = .returned (.slice (some ⟨w.heap.size, 0, none⟩) m m) ∧ (∀ i, i < m → 0 ≤ o i ∧ o i < n) ∧ SlS w' (some ⟨w.heap.size, 0, none⟩) m m (fun i => f (o i).toNat)) ∨ (e = .returned (.slice none 0 0) ∧ ¬ (∀ i, i < m → 0 ≤ o i ∧ o i < n))) := by
  have n0 : (0 : Int) ≤ n := by omega
  have n2 : (n : Int) ≤ 17592186043904 := by omega
  have m0 : (0 : Int) ≤ m := by omega
  have m2 : (m : Int) ≤ 17592186043904 := by omega
  obtain ⟨i, hi, hz, hs, hb8⟩ := str_info
  replace hi := Lib.hid hi
  replace hs := Lib.hid hs
  have hmk : ∀ w : World, (Instr.makeSlice 43 (.int .i64 0) (.int .i64 (m : Int))).run Try.prog w = .ok (.slice (some ⟨w.heap.size, 0, none⟩) 0 m) (w.alloc (.cells (madeCells #[.string ByteArray.empty] m) 9)) := fun w => make_str0 m h2 w
  have hO := Lib.hid (World.ownsRow_made (e := 9) (size := 1) w (madeCells #[.string ByteArray.empty] m) m (Nat.le_refl _) (by simp only [maxLen]; omega) (by simp [madeCells]))
  have hB : Hid (Below w.heap.size w (w.alloc (.cells (madeCells #[.string ByteArray.empty] m) 9))) := Lib.hid (by go_grown)
  replace k1 := Lib.hid k1
  replace k2 := Lib.hid k2
  go_enter Try.func24, Try.ntmps24
  go_wp2_with fail
  go_loopw [5, 7, 13] (fun u _ i wr => ∃ k : Nat, k ≤ m ∧ i = .int .i64 k ∧ u = .slice (some ⟨w.heap.size, 0, none⟩) k m ∧ Hid (∀ j, j < k → 0 ≤ o j ∧ o j < n) ∧ wr.ownsRow w.heap.size 9 1 (.slice (some ⟨w.heap.size, 0, none⟩) k m) k (valsOf (fun j => .string (f (o j).toNat)) k) ∧ Below w.heap.size w wr)
    (fun _ _ i _ => m - (intOf i).toNat)
  case atStart => exact ⟨0, by omega, rfl, rfl, Lib.hid (fun j hj => absurd hj (Nat.not_lt_zero j)), hO.out, hB.out⟩
  case round =>
    clear hO hB
    obtain ⟨k, hk, rfl, rfl, hR, hO, hB⟩ := hrel
    replace hO := Lib.hid hO
    replace hB := Lib.hid hB
    by_cases hlt : k < m
    · have hlt' : (k : Int) < m := by omega
      obtain ⟨b, rfl, -, c1⟩ := (k2.out.call hB.out).get hlt
      by_cases hr : 0 ≤ o k ∧ o k < (n : Int)
      · have hR2 := Lib.hid (show ∀ j, j < k + 1 → 0 ≤ o j ∧ o j < n from fun j hj => by
          by_cases e : j = k
          · subst e; exact hr
          · exact hR.out j (by omega))
        obtain ⟨r1, r2⟩ := hr
        obtain ⟨q, hq⟩ : ∃ q : Nat, o k = (q : Int) := ⟨(o k).toNat, by omega⟩
        rw [hq] at r1 r2 c1
        have hqn : q < n := by omega
        have hfq := Lib.hid (show (Value.string (f (o k).toNat)) = (Value.string (f q)) from by rw [hq]; simp)
        obtain ⟨a, rfl, -, c2⟩ := (k1.out.call hB.out).get hqn
        have hO' := Lib.hid (hO.out.alloc (.cells #[.string (f q)] 9))
        have hB' := Lib.hid (hB.out.alloc hB.out.size (.cells #[.string (f q)] 9))
        have hN := Lib.hid (Blk.new wr 9 #[.string (f q)])
        replace hq := Lib.hid hq
        go_wp2_with (refine wpList_append_own_spare _ rfl _ _ 43 rfl w.heap.size 9 i 1 Try.underlying43 hi.out hs.out w.heap.size k m (valsOf (fun j => .string (f (o j).toNat)) k) rfl hO'.out ⟨wr.heap.size, 0, none⟩ 1 1 [.string (f q)] rfl rfl (by
            intro p u hu
            rw [add_plain, hN.out.cell]
            simpa using hu) (by intro u hu; simp only [List.mem_singleton] at hu; subst hu; rfl) (by omega) ?_; intro w2 hown hgrow; replace hown := Lib.hid hown; replace hgrow := Lib.hid hgrow)
        go_roundw
        case rel => exact ⟨k + 1, by omega, by go_num, rfl, hR2, by rw [← valsOf_succ, hfq.out]; exact hown.out, hB'.out.grown hgrow.out hB'.out.size fun b hbk => (hO'.out.lt b hbk).1⟩
        case measure => simp [intOf]; omega
      · have hno := Lib.hid (show ¬ (∀ j, j < m → 0 ≤ o j ∧ o j < n) from fun h => hr (h k hlt))
        by_cases r0 : o k < 0
        · clear hr
          go_wp2
          go_ret
          exact ⟨hB.out, .inr ⟨rfl, hno.out⟩⟩
        · have r1 : (n : Int) ≤ o k := by omega
          have r0' : (0 : Int) ≤ o k := by omega
          clear hr r0
          go_wp2
          go_ret
          exact ⟨hB.out, .inr ⟨rfl, hno.out⟩⟩
    · have he : k = m := by omega
      have hlt' : (m : Int) ≤ k := by omega
      subst he
      go_wp2
      go_ret
      exact ⟨hB.out, .inl ⟨rfl, hR.out, own_SlS hO.out⟩⟩
end Go.Proofs.Ythbhhodlggkegaa
