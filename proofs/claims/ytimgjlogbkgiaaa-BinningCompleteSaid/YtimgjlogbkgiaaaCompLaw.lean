/- BinningComplete returns true for every scene and pixel. -/
import Derived.Test.YtimgjlogbkgiaaaBinLaw
import Derived.Test.YtimgjlogbkgiaaaMaskR
namespace Go.Proofs.Ytimgjlogbkgiaaa
open Go.RowKit
theorem mask_touch {x0 y0 x1 y1 x2 y2 x y n W H : Int} (hp : (1 ≤ W ∧ W ≤ 64 ∧ 1 ≤ H ∧ H ≤ 64) ∧ 0 ≤ x ∧ x < W ∧ 0 ≤ y ∧ y < H) (hm : maskI x0 y0 x1 y1 x2 y2 x y n ≠ 0) : tcB x0 y0 x1 y1 x2 y2 W H (tileOfI W H x y) = true := by
  have hm' : maskN (smB x0 y0 x1 y1 x2 y2 x y n) (posL n).length ≠ 0 := fun e => hm (by unfold maskI; rw [e]; rfl)
  obtain ⟨i, -, hi⟩ := maskN_pos hm'
  unfold smB at hi
  rw [Bool.and_eq_true, decide_eq_true_eq] at hi
  obtain ⟨h0, hc⟩ := hi
  have hs : isS x y n i := by
    by_cases h : isS x y n i
    · exact h
    · rw [(sp_no h).1] at h0; omega
  have hbd := posL_bd n ((i : Int).toNat)
  obtain ⟨e1, e2⟩ := sp_yes hs
  generalize ((posL n).getD ((i : Int).toNat) (0, 0)).1 = a at e1 hbd
  generalize ((posL n).getD ((i : Int).toNat) (0, 0)).2 = b at e2 hbd
  rw [e1, e2] at hc
  obtain ⟨hv, hcov⟩ := (covB_iff ..).1 hc
  have hl1 : lim (x * 256 + a) = x * 256 + a := by unfold lim; omega
  have hl2 : lim (y * 256 + b) = y * 256 + b := by unfold lim; omega
  rw [hl1, hl2] at hcov
  have hbox := cov_box ((validB_iff ..).1 hv).2 hcov
  obtain ⟨⟨w1, w2, w3, w4⟩, q1, q2, q3, q4⟩ := hp
  have hg := grid_yes (W := W) (H := H) ⟨w1, w2, w3, w4⟩
  have ht := tileOf_yes (W := W) (H := H) (x := x) (y := y) ⟨⟨w1, w2, w3, w4⟩, q1, q2, q3, q4⟩
  obtain ⟨C, hC⟩ : ∃ C, (W + 7) / 8 = C := ⟨_, rfl⟩
  obtain ⟨R, hR⟩ : ∃ R, (H + 7) / 8 = R := ⟨_, rfl⟩
  obtain ⟨u, hu⟩ : ∃ u, x / 8 = u := ⟨_, rfl⟩
  obtain ⟨v, hv'⟩ : ∃ v, y / 8 = v := ⟨_, rfl⟩
  rw [hC] at hg ht
  rw [hR] at hg
  rw [hu, hv'] at ht
  have u0 : 0 ≤ u := by omega
  have uC : u < C := by omega
  have v0 : 0 ≤ v := by omega
  have vR : v < R := by omega
  have m1 : (v * C + u) % C = u := by rw [Int.add_comm, Int.add_mul_emod_self_right]; exact Int.emod_eq_of_lt u0 uC
  have m2 : (v * C + u) / C = v := by rw [Int.add_comm, Int.add_mul_ediv_right _ _ (by omega), Int.ediv_eq_zero_of_lt u0 uC, Int.zero_add]
  have k1 : 0 ≤ v * C + u := by have := Int.mul_nonneg v0 (show 0 ≤ C by omega); omega
  have k2 : v * C + u < tilesI W H := by
    unfold tilesI
    rw [hg.1, hg.2]
    have h1 : (v + 1) * C ≤ R * C := Int.mul_le_mul_of_nonneg_right (by omega) (by omega)
    rw [Int.add_mul, Int.one_mul] at h1
    rw [Int.mul_comm C R]
    omega
  obtain ⟨r1, r2, r3, r4⟩ := rect_yes (W := W) (H := H) (t := v * C + u) ⟨k1, k2⟩
  rw [hg.1, m1] at r1 r3
  rw [hg.1, m2] at r2 r4
  rw [ht]
  unfold tcB
  rw [hv, r1, r2, r3, r4]
  simp only [Bool.and_eq_true, Bool.not_eq_true', beq_eq_false_iff_ne, ne_eq, decide_eq_true_eq, true_and]
  omega
theorem tileOf_lt {x y W H : Int} (hp : (1 ≤ W ∧ W ≤ 64 ∧ 1 ≤ H ∧ H ≤ 64) ∧ 0 ≤ x ∧ x < W ∧ 0 ≤ y ∧ y < H) : tileOfI W H x y < tilesI W H := by
  obtain ⟨⟨w1, w2, w3, w4⟩, q1, q2, q3, q4⟩ := hp
  have hg := grid_yes (W := W) (H := H) ⟨w1, w2, w3, w4⟩
  rw [tileOf_yes (W := W) (H := H) (x := x) (y := y) ⟨⟨w1, w2, w3, w4⟩, q1, q2, q3, q4⟩]
  unfold tilesI
  rw [hg.1, hg.2]
  have h1 : (y / 8 + 1) * ((W + 7) / 8) ≤ (H + 7) / 8 * ((W + 7) / 8) := Int.mul_le_mul_of_nonneg_right (by omega) (by omega)
  rw [Int.add_mul, Int.one_mul] at h1
  rw [Int.mul_comm ((W + 7) / 8)]
  omega
def maskT (c : Array Value) (x y n : Int) : Int := maskI (iv c 0) (iv c 1) (iv c 5) (iv c 6) (iv c 10) (iv c 11) x y n
theorem rMaskT (c : Array Value) (hc : IsTri c) (x y n : Int) (w : World) (v : Int) (h : maskT c x y n = v) :
    Calls Try.prog 23 #[.agg c, .int .i64 x, .int .i64 y, .int .i64 n] w fun e w' => e = .returned (.int .i64 v) ∧ Below w.heap.size w w' := by
  obtain ⟨x0, y0, z0, u0, x1, y1, z1, u1, x2, y2, z2, u2, A0, A1, A2, n0, c0, n1, c1, n2, c2, pr, fr, rfl⟩ := hc
  exact rMask_at x0 y0 z0 u0 x1 y1 z1 u1 x2 y2 z2 u2 A0 A1 A2 n0 c0 n1 c1 n2 c2 pr fr x y n w v h
theorem tileOf_at (W H x y : Int) (w : World) (v : Int) (h : tileOfI W H x y = v) :
    Calls Try.prog 15 #[.int .i64 W, .int .i64 H, .int .i64 x, .int .i64 y] w fun e w' => e = .returned (.int .i64 v) ∧ w = w' := h ▸ tileOf_any W H x y w
set_option maxHeartbeats 4000000 in
theorem has_yes (l : List Nat) (hn : l.length ≤ 4096) (i : Nat) (hi : i ∈ l) (A : Option Addr) (c : Nat) (w : World) (k1 : Sl w A l.length c (lf l)) :
    Calls Try.prog 24 #[.slice A l.length c, .int .i64 (i : Int)] w fun e w' => e = .returned (.bool true) ∧ Below w.heap.size w w' := by
  obtain ⟨q, hq, hqi⟩ := List.mem_iff_getElem.1 hi
  have hqf : lf l q = (i : Int) := by unfold lf; simp [hq, hqi]
  obtain ⟨n, hN⟩ : ∃ n, l.length = n := ⟨_, rfl⟩
  rw [hN] at hn k1 hq ⊢
  have n2 : (n : Int) ≤ 4096 := by omega
  replace k1 := Lib.hid k1
  replace hqf := Lib.hid hqf
  clear hqi hi hN
  go_enter Try.func24, Try.ntmps24
  go_wp2_with fail
  go_loopw [5] (fun t wv => ∃ j : Nat, j ≤ q ∧ t = .int .i64 j ∧ wv = w) (fun t _ => q - (intOf t).toNat)
  case atStart => exact ⟨0, by omega, rfl, rfl⟩
  case round =>
    obtain ⟨j, hj, rfl, rfl⟩ := hrel
    have hjn : j < n := by omega
    have hjn' : (j : Int) < n := by omega
    have hj0 : (0 : Int) ≤ j := by omega
    obtain ⟨a, rfl, -, c1⟩ := k1.out.get hjn
    obtain ⟨f, hf⟩ : ∃ f, lf l j = f := ⟨_, rfl⟩
    rw [hf] at c1
    by_cases he : f = (i : Int)
    · have heq : (f == (i : Int)) = true := by simpa using he
      clear hf he
      go_wp2
      go_ret
      exact ⟨rfl, Below.refl _ _⟩
    · have heq : (f == (i : Int)) = false := by simpa using he
      have hjq : j < q := by
        rcases Nat.lt_or_ge j q with h | h
        · exact h
        · exact absurd (by rw [← hf, ← hqf.out, show j = q by omega]) he
      clear hf he
      go_wp2
      go_roundw
      case rel => exact ⟨j + 1, by omega, by go_num, trivial⟩
      case measure => simp [intOf]; omega
set_option maxHeartbeats 8000000 in
theorem comp_out (A : Option Addr) (n c : Nat) (W H x y : Int) (w : World) (h : 50 < n ∨ (n ≤ 50 ∧ tileOfI W H x y < 0)) :
    Calls Try.prog 8 #[.agg #[.slice A n c, .int .i64 W, .int .i64 H], .int .i64 x, .int .i64 y] w fun e w' => e = .returned (.bool true) ∧ Below w.heap.size w w' := by
  obtain ⟨tl, htl⟩ : ∃ t, tileOfI W H x y = t := ⟨_, rfl⟩
  rw [htl] at h
  have hT := Lib.hid (fun w => tileOf_at W H x y w tl htl)
  have hk := Lib.hid (Blk.new w 42 #[.slice A n c, .int .i64 W, .int .i64 H])
  have hB : Hid (Below w.heap.size w (w.alloc (.cells #[.slice A n c, .int .i64 W, .int .i64 H] 42))) := Lib.hid (by go_grown)
  clear htl
  rcases h with h | ⟨h, g⟩
  · have h' : (50 : Int) < n := by omega
    have hd : decide (50 < n) = true := by simpa using h
    clear h
    go_enter Try.func8, Try.ntmps8
    have ck := hk.out.cell
    go_wp2_with fail
    refine (hT.out _).mono ?_
    rintro e xw ⟨rfl, rfl⟩
    go_wp2_with fail
    refine (example_true _).mono ?_
    rintro e w4 ⟨rfl, hb⟩
    replace hB := Lib.hid (below_on hB.out hb)
    clear hb
    go_wp2
    go_ret
    exact ⟨rfl, hB.out⟩
  · have h' : (n : Int) ≤ 50 := by omega
    have hd : decide (50 < n) = false := by simpa using h
    clear h
    go_enter Try.func8, Try.ntmps8
    have ck := hk.out.cell
    go_wp2_with fail
    refine (hT.out _).mono ?_
    rintro e xw ⟨rfl, rfl⟩
    go_wp2_with fail
    refine (example_true _).mono ?_
    rintro e w4 ⟨rfl, hb⟩
    replace hB := Lib.hid (below_on hB.out hb)
    clear hb
    go_wp2
    go_ret
    exact ⟨rfl, hB.out⟩
set_option maxRecDepth 100000 in
set_option maxHeartbeats 16000000 in
theorem comp_in (A : Option Addr) (n c : Nat) (T : Nat → Array Value) (hn : n ≤ 50) (W H : Int) (K : Nat) (hK : tilesI W H = K) (hK64 : K ≤ 64) (w : World) (hT : TrisW w A n c T) (x y : Int) (tl : Nat) (htl : tileOfI W H x y = tl) (hlt : tl < K) (hpx : (1 ≤ W ∧ W ≤ 64 ∧ 1 ≤ H ∧ H ≤ 64) ∧ 0 ≤ x ∧ x < W ∧ 0 ≤ y ∧ y < H) :
    Calls Try.prog 8 #[.agg #[.slice A n c, .int .i64 W, .int .i64 H], .int .i64 x, .int .i64 y] w fun e w' => e = .returned (.bool true) ∧ Below w.heap.size w w' := by
  obtain ⟨p, hp⟩ : ∃ p : Nat → Nat → Bool, ∀ t i : Nat, tcT (T i) W H t = p t i := ⟨_, fun _ _ => rfl⟩
  have hn2 : (n : Int) ≤ 50 := by omega
  have hK2 : (K : Int) ≤ 64 := by omega
  have hk := Lib.hid (Blk.new w 42 #[.slice A n c, .int .i64 W, .int .i64 H])
  have hB : Hid (Below w.heap.size w (w.alloc (.cells #[.slice A n c, .int .i64 W, .int .i64 H] 42))) := Lib.hid (by go_grown)
  have hb1 := Lib.hid (fun w hT => bins_any A n c T hn W H K hK hK64 p hp w hT)
  have hTO := Lib.hid (fun w => tileOf_at W H x y w tl htl)
  have htouch : Hid (∀ i q, maskT (T i) x y q ≠ 0 → p tl i = true) := Lib.hid (fun i q h => by
    rw [← hp tl i, ← htl]
    exact mask_touch hpx h)
  have htl0 : (0 : Int) ≤ tl := by omega
  have htlK : (tl : Int) < K := by omega
  have hd : decide (50 < n) = false := by simpa using hn
  have hd2 : decide (K ≤ tl) = false := by simpa using hlt
  replace hT := Lib.hid (hT.call hB.out)
  clear hp hK hpx htl
  go_enter Try.func8, Try.ntmps8
  have ck := hk.out.cell
  go_wp2_with fail
  refine (hTO.out _).mono ?_
  rintro e xw ⟨rfl, rfl⟩
  go_wp2_with fail
  refine (hb1.out _ hT.out).mono ?_
  rintro e w1 ⟨hb, v1, rfl, hp1⟩
  obtain ⟨A1, c1, rfl⟩ := hp1.form
  replace hp1 := Lib.hid (hp1.weak (Nat.zero_le _))
  clear ck
  replace hk := Lib.hid (hk.out.call hb)
  replace hT := Lib.hid (hT.out.call hb)
  replace hB := Lib.hid (below_on hB.out hb)
  clear hb hb1 hd
  go_wp2_with fail
  go_loopw [9, 10] (fun i _ wr => ∃ k : Nat, k ≤ n ∧ i = .int .i64 k ∧ Below w1.heap.size w1 wr)
    (fun i _ _ => n - (intOf i).toNat)
  case atStart => exact ⟨0, by omega, rfl, Below.refl _ _⟩
  case round =>
    obtain ⟨wq, rfl⟩ : ∃ q, q = wr := ⟨_, rfl⟩
    obtain ⟨k, hkk, rfl, hD⟩ := hrel
    have hTq := Lib.hid (hT.out.call hD)
    have hkq := Lib.hid (hk.out.call hD)
    have hpq := Lib.hid (hp1.out.call hD)
    replace hD := Lib.hid hD
    have ck := hkq.out.cell
    by_cases hln : k < n
    · have hln' : (k : Int) < n := by omega
      have hk0 : (0 : Int) ≤ k := by omega
      go_wp2_with fail
      go_loopw [10] (fun u wv => ∃ q : Nat, (q = 1 ∨ q = 2 ∨ q = 4 ∨ q = 8 ∨ q = 16) ∧ u = .int .i64 q ∧ Below wq.heap.size wq wv) (fun u _ => 17 - (intOf u).toNat)
      case atStart => exact ⟨1, .inl rfl, rfl, Below.refl _ _⟩
      case round =>
        obtain ⟨q, hq, rfl, hC⟩ := hrel
        have hkr := hkq.out.call hC
        clear ck
        have ck := hkr.cell
        by_cases hq16 : q = 16
        · subst hq16
          replace hC := Lib.hid hC
          clear hq
          go_wp2
          go_roundw
          case rel => exact ⟨k + 1, by omega, by go_num, below_on hD.out hC.out⟩
          case measure => simp [intOf]; omega
        · have hq8 : q = 1 ∨ q = 2 ∨ q = 4 ∨ q = 8 := by omega
          have hqn : 2 * q = 1 ∨ 2 * q = 2 ∨ 2 * q = 4 ∨ 2 * q = 8 ∨ 2 * q = 16 := by omega
          have hqi : (q : Int) ≤ 8 := by omega
          have hqi0 : (0 : Int) ≤ q := by omega
          have hqw : IntKind.i64.wrap (2 * (q : Int)) = 2 * (q : Int) := by rw [IntKind.wrap_i64]; omega
          have hq17 : q < 17 := by omega
          have hqpos : 0 < q := by omega
          have hT2 := hTq.out.call hC
          obtain ⟨b, o, rfl, hb, hcell⟩ := hT2.lies (by omega)
          have htri := hT2.tri k hln
          have hcj := hcell k hln
          have htk := htouch.out k q
          obtain ⟨Tj, hTj⟩ : ∃ q, T k = q := ⟨_, rfl⟩
          rw [hTj] at htri hcj htk
          have hsz := isTri_size htri
          have hinf : Hid ((Try.prog.info? 37).map (·.size) = some Tj.size) := Lib.hid (by rw [hsz]; exact triInfo)
          obtain ⟨mv, hmv⟩ : ∃ m, maskT Tj x y q = m := ⟨_, rfl⟩
          rw [hmv] at htk
          have hto := Lib.hid (fun w => rMaskT Tj htri x y q w mv hmv)
          replace hcj := Lib.hid hcj
          replace hC := Lib.hid hC
          replace hkr := Lib.hid hkr
          replace hqn := Lib.hid hqn
          replace hqw := Lib.hid hqw
          clear hT2 hcell htri hTj hsz hb hq hq16 hq8 hmv
          go_wp2_with (refine wpList_load_at rfl 37 _ rfl b (o + k * 17) rfl Tj _ hcj.out Try.underlying37 rfl hinf.out ?_)
          refine (hto.out _).mono ?_
          rintro e wv2 ⟨rfl, hb⟩
          clear ck
          replace hC := Lib.hid (below_on hC.out hb)
          clear hb hto hcj hkr
          by_cases h0 : mv = 0
          · have hne : (mv != 0) = false := by rw [h0]; rfl
            have hqw' := hqw.out
            clear h0 htk
            go_wp2
            go_roundw
            case rel => exact ⟨2 * q, hqn.out, by go_num, hC.out⟩
            case measure => simp [intOf]; omega
          · have hne : (mv != 0) = true := by simpa using h0
            have hmem := filt_mem.2 ⟨hln, htk h0⟩
            obtain ⟨b1, cur1, B1, d1, rfl, q1, g1, s1⟩ := (hpq.out.call hC.out).get hlt
            have e1 : wv2.cell? ⟨b1, tl, none⟩ = some (.slice B1 (filt (p tl) n).length d1) := by rw [q1.cell]; exact g1
            have hH := Lib.hid (has_yes (filt (p tl) n) (by have := filt_len (p tl) n; omega) k hmem B1 d1 wv2 s1)
            clear h0 htk q1 g1 s1 hmem
            go_wp2_with fail
            refine hH.out.mono ?_
            rintro e wv3 ⟨rfl, hb⟩
            replace hC := Lib.hid (below_on hC.out hb)
            have hqw' := hqw.out
            clear hb hH e1
            go_wp2
            go_roundw
            case rel => exact ⟨2 * q, hqn.out, by go_num, hC.out⟩
            case measure => simp [intOf]; omega
    · obtain rfl : k = n := by omega
      clear hln hkk
      replace hB := Lib.hid (below_on hB.out hD.out)
      go_wp2_with fail
      refine (example_true _).mono ?_
      rintro e w4 ⟨rfl, hb⟩
      replace hB := Lib.hid (below_on hB.out hb)
      clear hb
      go_wp2
      go_ret
      exact ⟨rfl, hB.out⟩
theorem law_comp (A : Option Addr) (n c : Nat) (T : Nat → Array Value) (W H x y : Int) (w : World) (hT : TrisW w A n c T) :
    Calls Try.prog 8 #[.agg #[.slice A n c, .int .i64 W, .int .i64 H], .int .i64 x, .int .i64 y] w fun e w' => e = .returned (.bool true) ∧ Below w.heap.size w w' := by
  by_cases h : 50 < n ∨ (n ≤ 50 ∧ tileOfI W H x y < 0)
  · exact comp_out A n c W H x y w h
  · obtain ⟨K, hK, hK64⟩ := tiles_nat W H
    by_cases hpx : (1 ≤ W ∧ W ≤ 64 ∧ 1 ≤ H ∧ H ≤ 64) ∧ 0 ≤ x ∧ x < W ∧ 0 ≤ y ∧ y < H
    · obtain ⟨tl, htl⟩ : ∃ t : Nat, tileOfI W H x y = t := ⟨(tileOfI W H x y).toNat, by omega⟩
      refine comp_in A n c T (by omega) W H K hK hK64 w hT x y tl htl ?_ hpx
      have := tileOf_lt hpx
      omega
    · have := tileOf_no hpx
      omega
end Go.Proofs.Ytimgjlogbkgiaaa
