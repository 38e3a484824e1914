/- BinningAscending returns true for every scene. -/
import Derived.Test.YtimgjlogbkgiaaaBinLaw
namespace Go.Proofs.Ytimgjlogbkgiaaa
open Go.RowKit
attribute [local go_sem] Ext.cell
set_option maxHeartbeats 8000000 in
theorem BinningAscending_big (A : Option Addr) (n c : Nat) (h : 50 < n) (W H : Int) (w : World) :
    Calls Try.prog 7 #[.agg #[.slice A n c, .int .i64 W, .int .i64 H]] w fun e w' => e = .returned (.bool true) ∧ Below w.heap.size w w' := by
  have hn : (50 : Int) < n := by omega
  have hk := Lib.hid (Blk.new w 42 #[.slice A n c, .int .i64 W, .int .i64 H])
  have hB : Hid (Below w.heap.size w (w.alloc (.cells #[.slice A n c, .int .i64 W, .int .i64 H] 42))) := Lib.hid (by go_grown)
  clear h
  go_enter Try.func7, Try.ntmps7
  have ck := hk.out.cell
  go_wp2_with fail
  refine (example_true _).mono ?_
  rintro e w4 ⟨rfl, hb⟩
  replace hB := Lib.hid (below_on hB.out hb)
  clear hb
  go_wp2
  go_ret
  exact ⟨rfl, hB.out⟩
set_option maxRecDepth 100000 in
set_option maxHeartbeats 16000000 in
theorem asc_law (A : Option Addr) (n c : Nat) (T : Nat → Array Value) (hn : n ≤ 50) (W H : Int) (K : Nat) (hK : tilesI W H = K) (hK64 : K ≤ 64) (w : World) (hT : TrisW w A n c T) :
    Calls Try.prog 7 #[.agg #[.slice A n c, .int .i64 W, .int .i64 H]] w fun e w' => e = .returned (.bool true) ∧ Below w.heap.size w w' := by
  obtain ⟨p, hp⟩ : ∃ p : Nat → Nat → Bool, ∀ t i : Nat, tcT (T i) W H t = p t i := ⟨_, fun _ _ => rfl⟩
  have hn2 : (n : Int) ≤ 50 := by omega
  have hK2 : (K : Int) ≤ 64 := by omega
  have hk := Lib.hid (Blk.new w 42 #[.slice A n c, .int .i64 W, .int .i64 H])
  have hB : Hid (Below w.heap.size w (w.alloc (.cells #[.slice A n c, .int .i64 W, .int .i64 H] 42))) := Lib.hid (by go_grown)
  have hb1 := Lib.hid (fun w hT => bins_any A n c T hn W H K hK hK64 p hp w hT)
  have hTi := Lib.hid (fun w : World => hK ▸ tiles_any W H w)
  replace hT := Lib.hid (hT.call hB.out)
  replace hp := Lib.hid hp
  clear hK
  go_enter Try.func7, Try.ntmps7
  have ck := hk.out.cell
  go_wp2_with fail
  refine (hb1.out _ hT.out).mono ?_
  rintro e w1 ⟨hb, v1, rfl, hp1⟩
  obtain ⟨A1, c1, rfl⟩ := hp1.form
  replace hp1 := Lib.hid (hp1.weak (Nat.zero_le _))
  clear ck
  replace hk := Lib.hid (hk.out.call hb)
  replace hT := Lib.hid (hT.out.call hb)
  replace hB := Lib.hid (below_on hB.out hb)
  clear hb hb1
  have ck := hk.out.cell
  go_wp2_with fail
  refine (hTi.out _).mono ?_
  rintro e xw ⟨rfl, rfl⟩
  clear ck
  go_wp2_with fail
  go_loopw [4, 5, 6] (fun i _ _ wr => ∃ k : Nat, k ≤ K ∧ i = .int .i64 k ∧ Below w1.heap.size w1 wr)
    (fun i _ _ _ => K - (intOf i).toNat)
  case atStart => exact ⟨0, by omega, rfl, Below.refl _ _⟩
  case round =>
    obtain ⟨wq, rfl⟩ : ∃ q, q = wr := ⟨_, rfl⟩
    obtain ⟨k, hkk, rfl, hD⟩ := hrel
    have hTq := Lib.hid (hT.out.call hD)
    have hkq := Lib.hid (hk.out.call hD)
    have hpq := Lib.hid (hp1.out.call hD)
    replace hD := Lib.hid hD
    by_cases hlt : k < K
    · have hlt' : (k : Int) < K := by omega
      have hk0 : (0 : Int) ≤ k := by omega
      have hO0 : Hid ((wq.alloc (.cells #[] 3)).ownsRow wq.heap.size 3 1 (.slice (some ⟨wq.heap.size, 0, none⟩) 0 0) 0 []) := Lib.hid (World.ownsRow_made wq #[] 0 (Nat.le_refl _) (Nat.zero_le _) rfl)
      have hC0 : Hid (Below wq.heap.size wq (wq.alloc (.cells #[] 3))) := Lib.hid (by go_grown)
      go_wp2_with fail
      go_loopw [5, 6] (fun u i wv => ∃ j : Nat, j ≤ n ∧ i = .int .i64 j ∧ wv.ownsRow wq.heap.size 3 1 u (filt (p k) j).length (valsL (filt (p k) j)) ∧ Below wq.heap.size wq wv)
        (fun _ i _ => n - (intOf i).toNat)
      case atStart => exact ⟨0, by omega, rfl, hO0.out, hC0.out⟩
      case round =>
        clear hO0 hC0
        obtain ⟨j, hj, rfl, hO, hC⟩ := hrel
        have hkr := hkq.out.call hC
        have ck := hkr.cell
        have lk := hkr.lt
        replace hO := Lib.hid hO
        by_cases hlj : j < n
        · have hlj' : (j : Int) < n := by omega
          have hj0 : (0 : Int) ≤ j := by omega
          have hlen := filt_len (p k) j
          have hT2 := hTq.out.call hC
          obtain ⟨b, o, rfl, hb, hcell⟩ := hT2.lies (by omega)
          have htri := hT2.tri j hlj
          have hcj := hcell j hlj
          have hpj := hp.out k j
          obtain ⟨Tj, hTj⟩ : ∃ q, T j = q := ⟨_, rfl⟩
          rw [hTj] at htri hcj hpj
          have hsz := isTri_size htri
          have hinf : Hid ((Try.prog.info? 37).map (·.size) = some Tj.size) := Lib.hid (by rw [hsz]; exact triInfo)
          have hto := Lib.hid (fun w => touchesT Tj htri W H k w _ hpj)
          replace hcj := Lib.hid hcj
          replace hC := Lib.hid hC
          replace hkr := Lib.hid hkr
          clear hT2 hcell htri hpj hTj hsz
          go_wp2_with fail
          refine wp_region_noPanic ?_
          refine wp_region_held_drew (S := fun w' => ∃ n : Ext wr (wr.heap.size), w' = n.val) (by kernel_rfl) ⟨⟨wr.drew, (Below.refl _ _).drew⟩, rfl⟩ (fun _ => ?_)
          refine held_quiets (fun _ _ _ _ _ h => h) (by kernel_rfl) ⟨⟨_, (((Below.refl _ _).drew).mono (Nat.le_refl _))⟩, rfl⟩ [0, 1, 2, 3, 4, 5, 6, 7, 8, 9] _ _ _ (by kernel_rfl) (by kernel_rfl) (of_decide_eq_true (by kernel_rfl)) ?_
          simp only [List.filterMap, List.getElem?_toArray, List.getElem?_cons_succ, List.getElem?_cons_zero]
          repeat (first | (go_big_quiet_want; refine quiet_load_at 37 _ rfl b (o + j * 17) rfl Tj _ hcj.out (by assumption) Try.underlying37 rfl hinf.out ?_; simp only [Act.put, List.setIfInBounds_toArray, List.set_cons_zero, List.set_cons_succ]; go_big_quiet_on) | go_big_quiet_step (fail))
          refine wpQuiet_nil ?_
          refine held_heavy (i := 10) (by kernel_rfl) rfl (by rfl) (of_decide_eq_true (by kernel_rfl)) (fun K hK => ?_)
          go_simp
          refine (hto.out _).mono ?_
          rintro e V3 ⟨rfl, hv3⟩
          have hbV3 : Below wr.heap.size wr V3 := (((Below.refl _ _).drew).trans (hv3.mono (Nat.le_refl _)))
          refine hK _ _ ⟨⟨V3, (hbV3.mono (Nat.le_refl _))⟩, rfl⟩ ?_
          clear hK K
          try simp only [Act.put, List.setIfInBounds_toArray, List.set_cons_zero, List.set_cons_succ]
          refine wpAnyH_done (by kernel_rfl) ?_ _
          refine NoPanic.normal ?_
          replace hO := Lib.hid (own_callB hO.out hbV3)
          replace hC := Lib.hid (below_on hC.out hbV3)
          clear hbV3 hv3 hcj hto ck lk hb hkr
          cases hpb : p k j with
          | false =>
            have e1 := Lib.hid (filt_no hpb)
            clear hpb
            go_wp2
            go_roundw
            case rel => exact ⟨j + 1, by omega, by go_num, by rw [e1.out]; exact hO.out, hC.out⟩
            case measure => simp [intOf]; omega
          | true =>
            have e1 := Lib.hid (filt_yes hpb)
            have hO' := Lib.hid (hO.out.alloc (.cells #[.int .i64 (j : Int)] 3))
            have hC' := Lib.hid (hC.out.alloc hC.out.size (.cells #[.int .i64 (j : Int)] 3))
            have hNb := Lib.hid (Blk.new V3 3 #[.int .i64 (j : Int)])
            clear hpb
            go_wp2_with (at_builtin; refine wpList_append_int rfl _ _ rfl wq.heap.size (filt (p k) j) _ rfl hO'.out V3.heap.size j rfl hNb.out (by omega) hC'.out.size ?_; intro v3 w3 hown hg3; replace hown := Lib.hid hown; replace hg3 := Lib.hid hg3)
            go_roundw
            case rel => exact ⟨j + 1, by omega, by go_num, by rw [e1.out]; exact hown.out, hC'.out.trans hg3.out⟩
            case measure => simp [intOf]; omega
        · obtain rfl : j = n := by omega
          obtain ⟨A', c', rfl, hs⟩ := own_list hO.out
          obtain ⟨b1, cur1, B1, d1, rfl, q1, g1, s1⟩ := (hpq.out.call hC).get hlt
          have e1 : wr.cell? ⟨b1, k, none⟩ = some (.slice B1 (filt (p k) j).length d1) := by rw [q1.cell]; exact g1
          have hS := Lib.hid (same_sl _ (by have := filt_len (p k) j; omega) _ B1 A' d1 c' wr s1 hs)
          replace hC := Lib.hid hC
          replace hkr := Lib.hid hkr
          clear hO hj hlj q1 g1 s1 hs
          go_wp2_with fail
          refine hS.out.mono ?_
          rintro e w5 ⟨rfl, hb⟩
          replace hC := Lib.hid (below_on hC.out hb)
          clear hb hS e1 ck lk hkr
          go_wp2
          go_roundw
          case rel => exact ⟨k + 1, by omega, by go_num, below_on hD.out hC.out⟩
          case measure => simp [intOf]; omega
    · obtain rfl : k = K := by omega
      clear hlt hkk
      replace hB := Lib.hid (below_on hB.out hD.out)
      go_wp2_with fail
      refine (example_true _).mono ?_
      rintro e w4 ⟨rfl, hb⟩
      replace hB := Lib.hid (below_on hB.out hb)
      clear hb
      go_wp2
      go_ret
      exact ⟨rfl, hB.out⟩
theorem law_asc (A : Option Addr) (n c : Nat) (T : Nat → Array Value) (W H : Int) (w : World) (hT : TrisW w A n c T) :
    Calls Try.prog 7 #[.agg #[.slice A n c, .int .i64 W, .int .i64 H]] w fun e w' => e = .returned (.bool true) ∧ Below w.heap.size w w' := by
  obtain ⟨K, hK, hK64⟩ := tiles_nat W H
  rcases Nat.lt_or_ge 50 n with h | h
  · exact BinningAscending_big A n c h W H w
  · exact asc_law A n c T h W H K hK hK64 w hT
end Go.Proofs.Ytimgjlogbkgiaaa
