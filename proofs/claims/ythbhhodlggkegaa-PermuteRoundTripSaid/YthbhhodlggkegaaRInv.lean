/- Inverse of the reference of chapter 7, of a list at the start of a block. -/
import Derived.Test.YthbhhodlggkegaaPCnt
import Derived.Test.YthbhhodlggkegaaLst
namespace Go.Proofs.Ythbhhodlggkegaa
open Go.RowKit
theorem begins_take {n : Nat} {cur : Array Value} {f : Nat → Int} (h : cur.toList.take (n * 1) = intsOf f n) : Begins n cur f := fun a ha => by
  have e : (cur.toList.take (n * 1))[a]? = (intsOf f n)[a]? := by rw [h]
  unfold intsOf at e
  simpa [ha] using e
/-- Where each number stands. -/
theorem where_ex {n : Nat} {f : Nat → Int} (h : onceB n f = true) : ∃ g : Nat → Nat, ∀ x, x < n → g x < n ∧ f (g x) = (x : Int) := by
  have hs := surj_of_once h
  refine ⟨fun x => if hx : x < n then (hs x hx).choose else 0, fun x hx => ?_⟩
  simp only [hx, dif_pos]
  exact (hs x hx).choose_spec
set_option maxRecDepth 100000 in
set_option maxHeartbeats 8000000 in
theorem rInverse_yes (n cap : Nat) (h1 : 1 ≤ n) (h2 : n ≤ 17592186043904) (f : Nat → Int) (ho : onceB n f = true) (g : Nat → Nat) (hg : ∀ x, x < n → g x < n ∧ f (g x) = (x : Int)) (B : Nat) (cur : Array Value) (w : World) (hb : Blk w B 3 cur) (hf : Begins n cur f) :
    Calls Try.prog 19 #[.slice (some ⟨B, 0, none⟩) n cap] w fun e w' => ∃ b c cur', e = .returned (.tuple #[.slice (some ⟨b, 0, none⟩) n c, .int .i64 0]) ∧ Below w.heap.size w w' ∧ Blk w' b 3 cur' ∧ Begins n cur' (fun i => (g i : Int)) := by
  have n0 : (0 : Int) ≤ n := by omega
  have n1 : (1 : Int) ≤ n := by omega
  have n2 : (n : Int) ≤ 17592186043904 := by omega
  obtain ⟨i, hi, hz, hs, hb8⟩ := int_info
  replace hi := Lib.hid hi
  replace hz := Lib.hid hz
  replace hs := Lib.hid hs
  replace hb8 := Lib.hid hb8
  have hC := rIsPerm_any n cap (by omega) f B cur w hb hf
  rw [ho] at hC
  replace hC := Lib.hid hC
  have hinj := Lib.hid (isP_of_once ho).inj
  replace hg := Lib.hid hg
  have hl := Lib.hid (lie_block hb hf)
  clear ho hb hf
  go_enter Try.func19, Try.ntmps19
  go_wp2_with fail
  refine hC.out.mono ?_
  rintro e w1 ⟨rfl, hB1⟩
  replace hl := Lib.hid (hl.out.call hB1)
  replace hB1 := Lib.hid hB1
  clear hC
  go_wp2_with fail
  go_loopw [4, 5, 6] (fun v x _ wr => ∃ k : Nat, k ≤ n ∧ x = .int .i64 k ∧ wr.ownsRow w1.heap.size 3 1 v k (intsOf (fun i => (g i : Int)) k) ∧ Below w1.heap.size w1 wr)
    (fun _ x _ _ => n - (intOf x).toNat)
  case atStart => exact ⟨0, by omega, rfl, ⟨rfl, .inl ⟨rfl, rfl⟩⟩, Below.refl _ _⟩
  case round =>
    obtain ⟨k, hk, rfl, hO, hB⟩ := hrel
    replace hO := Lib.hid hO
    replace hB := Lib.hid hB
    by_cases hlt : k < n
    · have hlt' : (k : Int) < n := by omega
      obtain ⟨g1, g2⟩ := hg.out k hlt
      obtain ⟨m, hm⟩ : ∃ m, g k = m := ⟨_, rfl⟩
      rw [hm] at g1 g2
      replace g2 := Lib.hid g2
      replace hm := Lib.hid hm
      go_wp2_with fail
      go_loopw [6] (fun t wv => ∃ j : Nat, j ≤ m ∧ t = .int .i64 j ∧ wv = wr) (fun t _ => m - (intOf t).toNat)
      case atStart => exact ⟨0, by omega, rfl, rfl⟩
      case round =>
        obtain ⟨j, hj, rfl, rfl⟩ := hrel
        have hjn : j < n := by omega
        have hjn' : (j : Int) < n := by omega
        have c1 : wr.cell? ⟨B, j, none⟩ = some (.int .i64 (f j)) := by have := (hl.out.call hB.out).at_ j hjn; rw [add_plain] at this; exact this
        by_cases he : j = m
        · have hne : (f j != (k : Int)) = false := by rw [he, g2.out]; simp
          have hj2 : (j : Int) = (g k : Int) := by rw [hm.out, he]
          have hO' := Lib.hid (hO.out.alloc (.cells #[.int .i64 (j : Int)] 3))
          have hB' := Lib.hid (hB.out.alloc hB.out.size (.cells #[.int .i64 (j : Int)] 3))
          have hN := Lib.hid (Blk.new wr 3 #[.int .i64 (j : Int)])
          replace he := Lib.hid he
          replace hj2 := Lib.hid hj2
          go_wp2_with (refine wpList_append_lies _ rfl _ _ 27 rfl w1.heap.size 3 i (.int .i64 0) 1 8 Try.underlying27 hi.out hz.out hs.out hb8.out rfl (by omega) _ k (intsOf (fun i => (g i : Int)) k) rfl hO'.out ⟨wr.heap.size, 0, none⟩ 1 1 [.int .i64 (j : Int)] rfl rfl (by
            intro q u hu
            rw [add_plain, hN.out.cell]
            simpa using hu) (by intro u hu; simp only [List.mem_singleton] at hu; subst hu; rfl) (by omega) (by simp only [maxLen]; omega) (by omega) hB'.out.size _ rfl ?_; intro b c w2 hown hgrow hat hlt2; replace hown := Lib.hid hown; replace hgrow := Lib.hid hgrow; replace hat := Lib.hid hat; replace hlt2 := Lib.hid hlt2)
          go_roundw
          case rel => exact ⟨k + 1, by omega, by go_num, by rw [← intsOf_succ, ← hj2.out]; exact hown.out, hB'.out.grown hgrow.out hB'.out.size fun b hbk => (hO'.out.lt b hbk).1⟩
          case measure => simp [intOf]; omega
        · have hne : (f j != (k : Int)) = true := by
            rw [bne_iff_ne]
            intro e
            exact he (hinj.out j m hjn g1 (e.trans g2.out.symm))
          have hjm : j < m := by omega
          replace he := Lib.hid he
          go_wp2
          go_roundw
          case rel => exact ⟨j + 1, by omega, by go_num, trivial⟩
          case measure => simp [intOf]; omega
    · have he : n = k := by omega
      clear hk hlt
      subst he
      obtain ⟨-, hv⟩ := hO.out
      rcases hv with ⟨-, h0⟩ | ⟨b, c, cur', rfl, hg1, hgb, hnc, -, hcs, htk⟩
      · omega
      have hbeg := Lib.hid (begins_take htk)
      have hb := Lib.hid (show Blk wr b 3 cur' from hgb)
      clear hO hgb htk hcs
      go_wp2
      go_returns
      exact ⟨b, c, cur', rfl, below_on hB1.out hB.out, hb.out, hbeg.out⟩
end Go.Proofs.Ythbhhodlggkegaa
