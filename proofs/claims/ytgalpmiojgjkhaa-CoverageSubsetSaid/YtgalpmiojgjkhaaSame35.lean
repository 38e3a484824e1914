/- Same of the reference of chapter 35, at two equal lists of pixels. -/
import Derived.Test.YtgalpmiojgjkhaaPix
import Derived.Test.YtgalpmiojgjkhaaFresh
namespace Go.Proofs.Ytgalpmiojgjkhaa
open Go.RowKit
attribute [local go_sem] Ext.cell
theorem i3Info' : (Try.prog.info? 46).map (·.size) = some 3 := by kernel_rfl
theorem px_sub {cur : Array Value} {k : Nat} {p : Px} (h : (cur.toList.drop (k * 3)).take 3 = cellsP p) : (cur.toList.drop (k * 3)).take (#[Value.int .i64 p.1, .int .i64 p.2.1, .int .i64 p.2.2] : Array Value).toList.length = (#[Value.int .i64 p.1, .int .i64 p.2.1, .int .i64 p.2.2] : Array Value).toList := h
set_option maxRecDepth 100000 in
set_option maxHeartbeats 8000000 in
theorem samePx (L : List Px) (hn : L.length ≤ 4096) (A B : Option Addr) (ca cb : Nat) (w : World) (k1 : PSl w A ca L) (k2 : PSl w B cb L) :
    Calls Try.prog 24 #[.slice A L.length ca, .slice B L.length cb] w fun e w' => e = .returned (.bool true) ∧ Below w.heap.size w w' := by
  obtain ⟨n, hN⟩ : ∃ n, L.length = n := ⟨_, rfl⟩
  rw [hN] at hn ⊢
  have n0 : (0 : Int) ≤ n := by omega
  have n2 : (n : Int) ≤ 4096 := by omega
  replace k1 := Lib.hid k1
  replace k2 := Lib.hid k2
  go_enter Try.func24, Try.ntmps24
  go_wp2_with fail
  go_loopw [5] (fun i wr => ∃ k : Nat, k ≤ n ∧ i = .int .i64 k ∧ Below w.heap.size w wr)
    (fun i _ => n - (intOf i).toNat)
  case atStart => exact ⟨0, by omega, rfl, Below.refl _ _⟩
  case round =>
    obtain ⟨k, hk, rfl, hB⟩ := hrel
    replace hB := Lib.hid hB
    by_cases hlt : k < n
    · have hlt' : (k : Int) < n := by omega
      have hk0 : (0 : Int) ≤ k := by omega
      obtain ⟨p, hp⟩ : ∃ p, L[k]? = some p := ⟨L[k]'(by omega), by simp [hN, hlt]⟩
      obtain ⟨b1, c1, rfl, q1, r1⟩ := (k1.out.call hB.out).lies (by omega)
      obtain ⟨b2, c2, rfl, q2, r2⟩ := (k2.out.call hB.out).lies (by omega)
      have s1 := Lib.hid (px_sub (r1 k p hp))
      have s2 := Lib.hid (px_sub (r2 k p hp))
      have l1 := q1.lt
      have l2 := q2.lt
      replace q1 := Lib.hid q1
      replace q2 := Lib.hid q2
      clear r1 r2 hp
      obtain ⟨px, py, pm⟩ := p
      go_wp2_with fail
      refine wp_region_ext wr.heap.size (by kernel_rfl) (by kernel_rfl) ?_
      repeat (first
        | (go_big_quiet_want; refine quiet_load_sub 46 _ rfl b1 (k * 3) rfl _ _ _ _ q1.out (by assumption) s1.out Try.underlying46 rfl i3Info' ?_; simp only [Act.put, List.setIfInBounds_toArray, List.set_cons_zero, List.set_cons_succ]; go_big_quiet_on)
        | (go_big_quiet_want; refine quiet_load_sub 46 _ rfl b2 (k * 3) rfl _ _ _ _ q2.out (by assumption) s2.out Try.underlying46 rfl i3Info' ?_; simp only [Act.put, List.setIfInBounds_toArray, List.set_cons_zero, List.set_cons_succ]; go_big_quiet_on)
        | go_big_quiet_step (fail))
      refine wpQuiet_nil ?_
      intro w3 hwx
      obtain ⟨⟨w3, hb⟩, rfl⟩ := hwx
      replace hB := Lib.hid (below_on hB.out hb)
      clear hb
      go_wp2
      go_roundw
      case rel => exact ⟨k + 1, by omega, by go_num, hB.out⟩
      case measure => simp [intOf]; omega
    · have hlt' : (n : Int) ≤ k := by omega
      go_wp2
      go_ret
      exact ⟨rfl, hB.out⟩
end Go.Proofs.Ytgalpmiojgjkhaa
