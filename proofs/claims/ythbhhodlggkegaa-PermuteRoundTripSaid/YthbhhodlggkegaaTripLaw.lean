/- PermuteRoundTrip returns true at every list of strings. -/
import Derived.Test.YthbhhodlggkegaaAppS
import Derived.Test.YthbhhodlggkegaaInvLaw
import Derived.Test.YthbhhodlggkegaaPermLaw
namespace Go.Proofs.Ythbhhodlggkegaa
open Go.RowKit
set_option maxHeartbeats 8000000 in
theorem trip_big (n c : Nat) (h : 4096 < n) (hn : n ≤ 17592186043904) (A : Option Addr) (s : Int) (w : World) :
    Calls Try.prog 9 #[.slice A n c, .int .u64 s] w fun e w' => e = .returned (.bool true) ∧ Below w.heap.size w w' := by
  have h' : (4096 : Int) < n := by omega
  clear h hn
  go_enter Try.func9, Try.ntmps9
  go_wp2_with fail
  refine (example_true _).mono ?_
  rintro e w4 ⟨rfl, hb⟩
  replace hb := Lib.hid hb
  go_wp2
  go_ret
  exact ⟨rfl, hb.out⟩
set_option maxRecDepth 100000 in
set_option maxHeartbeats 8000000 in
theorem trip_zero (c : Nat) (A : Option Addr) (f : Nat → ByteArray) (s : Int) (w : World) (hl : SlS w A 0 c f) :
    Calls Try.prog 9 #[.slice A 0 c, .int .u64 s] w fun e w' => e = .returned (.bool true) ∧ Below w.heap.size w w' := by
  have hp := Lib.hid (fun w => perm_no' 0 s (.inl (by omega)) w)
  replace hl := Lib.hid hl
  go_enter Try.func9, Try.ntmps9
  go_wp2_with fail
  refine (hp.out _).mono ?_
  rintro e w1 ⟨rfl, rfl⟩
  go_wp2_with fail
  refine (inverse_none _).mono ?_
  rintro e w1 ⟨hB, rfl⟩
  have hI := Lib.hid (inverse_any 0 0 (by omega) (fun _ => 0) ⟨w.heap.size, 0, none⟩ w1 ⟨fun h => absurd h (Nat.lt_irrefl _), fun i hi => absurd hi (Nat.not_lt_zero i)⟩)
  have hA := Lib.hid (hl.out.call hB)
  replace hB := Lib.hid hB
  go_wp2_with fail
  refine wp_loop_rounds 1 ?_
  rw [rounds_succ]
  go_wp2_with fail
  refine hI.out.mono ?_
  rintro e w2 ⟨hb, ⟨rfl, -, -⟩ | ⟨rfl, hno⟩⟩
  case inr => rw [once_zero] at hno; cases hno
  clear hI
  have hT := Lib.hid (applyS_any 0 0 c 0 (by omega) (by omega) f (fun _ => 0) A none w2 (hA.out.call hb) (Sl.none _ _))
  replace hB := Lib.hid (below_on hB.out hb)
  obtain ⟨q1, hq1⟩ : ∃ s, w1.heap.size = s := ⟨_, rfl⟩
  rw [hq1]
  clear hb hq1
  go_wp2_with fail
  refine hT.out.mono ?_
  rintro e w3 ⟨hb, ⟨rfl, -, hs⟩ | ⟨rfl, hno⟩⟩
  case inr => exact absurd (fun i hi => absurd hi (Nat.not_lt_zero i)) hno
  clear hT
  replace hB := Lib.hid (below_on hB.out hb)
  obtain ⟨q2, hq2⟩ : ∃ s, w2.heap.size = s := ⟨_, rfl⟩
  rw [hq2] at hs
  rw [hq2]
  have hT := Lib.hid (applyS_any 0 0 0 0 (by omega) (by omega) _ (fun _ => 0) _ (some ⟨w.heap.size, 0, none⟩) w3 hs (Sl.zero _ _ _ _))
  clear hb hq2 hs
  go_wp2_with fail
  refine hT.out.mono ?_
  rintro e w4 ⟨hb, ⟨rfl, -, -⟩ | ⟨rfl, hno⟩⟩
  case inr => exact absurd (fun i hi => absurd hi (Nat.not_lt_zero i)) hno
  clear hT
  replace hB := Lib.hid (below_on hB.out hb)
  obtain ⟨q3, hq3⟩ : ∃ s, w3.heap.size = s := ⟨_, rfl⟩
  rw [hq3]
  clear hb hq3
  go_wp2_with fail
  refine wp_loop_rounds 1 ?_
  rw [rounds_succ]
  go_wp2_with fail
  refine (example_true _).mono ?_
  rintro e w5 ⟨rfl, hb⟩
  replace hB := Lib.hid (below_on hB.out hb)
  clear hb
  go_wp2
  go_ret
  exact ⟨rfl, hB.out⟩
theorem trip_back {n : Nat} {F g g2 : Nat → Int} (hP : IsP n F) (h1 : Turned n F g) (h2 : Turned n g g2) : ∀ k, k < n → g2 k = F k := fun k hk => by
  obtain ⟨r0, r1⟩ := hP.rng k hk
  have e1 := h1 k hk
  have e2 := h2 (F k).toNat (by omega)
  rw [e1] at e2
  simp only [Int.toNat_natCast] at e2
  omega
theorem trip_there {n : Nat} {F g : Nat → Int} (hS : Surj n F) (h1 : Turned n F g) : ∀ k, k < n → F (g k).toNat = (k : Int) := fun k hk => by
  obtain ⟨i, hi, he⟩ := hS k hk
  have e1 := h1 i hi
  rw [he] at e1
  simp only [Int.toNat_natCast] at e1
  rw [e1]
  simpa using he
set_option maxRecDepth 100000 in
set_option maxHeartbeats 16000000 in
theorem trip_yes (n c : Nat) (h1 : 1 ≤ n) (h2 : n ≤ 4096) (a : Addr) (f : Nat → ByteArray) (s : Int) (w : World) (hl : LieS w a n f) :
    Calls Try.prog 9 #[.slice (some a) n c, .int .u64 s] w fun e w' => e = .returned (.bool true) ∧ Below w.heap.size w w' := by
  have hp := perm_yes n h1 h2 s w
  have hP := runP_isP (n - 1) (fun i => (i : Int)) s (by omega) (id_isP n)
  have hS := runP_surj (n - 1) (fun i => (i : Int)) s (by omega) (id_surj n)
  obtain ⟨S, hS0⟩ : ∃ S, (runP (n - 1) (fun i => (i : Int)) s).2 = S := ⟨_, rfl⟩
  obtain ⟨F, hF⟩ : ∃ F, (runP (n - 1) (fun i => (i : Int)) s).1 = F := ⟨_, rfl⟩
  rw [hS0, hF] at hp
  rw [hF] at hP hS
  clear hS0 hF
  have n0 : (0 : Int) ≤ n := by omega
  have n1 : (1 : Int) ≤ n := by omega
  have n2 : (n : Int) ≤ 4096 := by omega
  replace hp := Lib.hid hp
  replace hP := Lib.hid hP
  replace hS := Lib.hid hS
  replace hl := Lib.hid hl
  go_enter Try.func9, Try.ntmps9
  go_wp2_with fail
  refine hp.out.mono ?_
  rintro e W1 ⟨rfl, hB, hk⟩
  clear hp
  have hI := Lib.hid (inverse_content n h1 h2 F hP.out w.heap.size W1 hk)
  replace hk := Lib.hid hk
  replace hB := Lib.hid hB
  obtain ⟨q, hq⟩ : ∃ q, W1.heap.size = q := ⟨_, rfl⟩
  go_wp2_with fail
  refine hI.out.mono ?_
  rintro e W2 ⟨rfl, hb, g, hkg, hT⟩
  clear hI
  rw [hq] at hkg
  rw [hq]
  have hPg := Lib.hid (turned_isP hT hS.out)
  have hI := Lib.hid (inverse_content n h1 h2 g hPg.out q W2 hkg)
  replace hk := Lib.hid (hk.out.call hb)
  replace hB := Lib.hid (below_on hB.out hb)
  replace hkg := Lib.hid hkg
  replace hT := Lib.hid hT
  clear hb hq
  go_wp2_with fail
  go_loopw [10] (fun i wr => ∃ k : Nat, k ≤ n ∧ i = .int .i64 k ∧ wr = W2) (fun i _ => n - (intOf i).toNat)
  case atStart => exact ⟨0, by omega, rfl, rfl⟩
  case round =>
    obtain ⟨k, hkn, rfl, rfl⟩ := hrel
    by_cases hlt : k < n
    · have hlt' : (k : Int) < n := by omega
      obtain ⟨r1, r2⟩ := hP.out.rng k hlt
      obtain ⟨m, hm⟩ : ∃ m : Nat, F k = (m : Int) := ⟨(F k).toNat, by omega⟩
      have e1 := hT.out k hlt
      rw [hm] at r1 r2 e1
      simp only [Int.toNat_natCast] at e1
      have hmn : m < n := by omega
      have c1 : wr.cell? ⟨w.heap.size, k, none⟩ = some (.int .i64 (m : Int)) := by rw [hk.out.cell, rowOf_get hlt, hm]
      have c2 : wr.cell? ⟨q, m, none⟩ = some (.int .i64 (k : Int)) := by rw [hkg.out.cell, rowOf_get hmn, e1]
      clear hm e1
      go_wp2
      go_roundw
      case rel => exact ⟨k + 1, by omega, by go_num, trivial⟩
      case measure => simp [intOf]; omega
    · have he : k = n := by omega
      have hlt' : (n : Int) ≤ k := by omega
      clear hlt hkn
      subst he
      go_wp2_with fail
      refine hI.out.mono ?_
      rintro e W3 ⟨rfl, hb, g2, hk2, hT2⟩
      clear hI
      obtain ⟨q2, hq2⟩ : ∃ q, wr.heap.size = q := ⟨_, rfl⟩
      rw [hq2] at hk2
      rw [hq2]
      have hback := Lib.hid (trip_back hP.out hT.out hT2)
      have hthere := Lib.hid (trip_there hS.out hT.out)
      clear hT2
      replace hk := Lib.hid (hk.out.call hb)
      replace hkg := Lib.hid (hkg.out.call hb)
      replace hB := Lib.hid (below_on hB.out hb)
      have hL : SlS W3 (some a) k c f := ⟨nofun, fun _ => ⟨a, rfl, hl.out.call hB.out⟩⟩
      have hA := Lib.hid (applyS_any k k c k (by omega) (by omega) f F (some a) (some ⟨w.heap.size, 0, none⟩) W3 hL (Sl.some (lie_block hk.out (begins_row k F))))
      replace hk2 := Lib.hid hk2
      clear hb hq2 hL
      go_wp2_with fail
      refine hA.out.mono ?_
      rintro e W4 ⟨hb, ⟨rfl, -, hs⟩ | ⟨rfl, hno⟩⟩
      case inr => exact absurd hP.out.rng hno
      clear hA
      replace hk := Lib.hid (hk.out.call hb)
      replace hkg := Lib.hid (hkg.out.call hb)
      replace hk2 := Lib.hid (hk2.out.call hb)
      replace hB := Lib.hid (below_on hB.out hb)
      obtain ⟨q3, hq3⟩ : ∃ q, W3.heap.size = q := ⟨_, rfl⟩
      rw [hq3] at hs
      rw [hq3]
      have hA := Lib.hid (applyS_any k k k k (by omega) (by omega) _ g _ (some ⟨q, 0, none⟩) W4 hs (Sl.some (lie_block hkg.out (begins_row k g))))
      replace hs := Lib.hid hs
      clear hb hq3
      go_wp2_with fail
      refine hA.out.mono ?_
      rintro e W5 ⟨hb, ⟨rfl, -, hs2⟩ | ⟨rfl, hno⟩⟩
      case inr => exact absurd hPg.out.rng hno
      clear hA
      replace hk := Lib.hid (hk.out.call hb)
      replace hk2 := Lib.hid (hk2.out.call hb)
      replace hs := Lib.hid (hs.out.call hb)
      replace hB := Lib.hid (below_on hB.out hb)
      have hL := Lib.hid (hl.out.call hB.out)
      obtain ⟨q4, hq4⟩ : ∃ q, W4.heap.size = q := ⟨_, rfl⟩
      rw [hq4] at hs2
      rw [hq4]
      replace hs2 := Lib.hid hs2
      clear hb hq4 hl hkg
      go_wp2_with fail
      go_loopw [15] (fun i wr => ∃ j : Nat, j ≤ k ∧ i = .int .i64 j ∧ Below W5.heap.size W5 wr) (fun i _ => k - (intOf i).toNat)
      case atStart => exact ⟨0, by omega, rfl, Below.refl _ _⟩
      case round =>
        obtain ⟨j, hjn, rfl, hC⟩ := hrel
        by_cases hlt : j < k
        · have hlt1 : (j : Int) < k := by omega
          have hj0 : (0 : Int) ≤ j := by omega
          obtain ⟨r1, r2⟩ := hP.out.rng j hlt
          obtain ⟨m, hm⟩ : ∃ m : Nat, F j = (m : Int) := ⟨(F j).toNat, by omega⟩
          have e1 := hback.out j hlt
          have e2 := hthere.out j hlt
          have c3 := (hs.out.call hC).get hlt
          have c4 := (hs2.out.call hC).get hlt
          obtain ⟨p3, ep3, -, c3⟩ := c3
          obtain rfl := Option.some.inj ep3
          obtain ⟨p4, ep4, -, c4⟩ := c4
          obtain rfl := Option.some.inj ep4
          rw [add_plain] at c3 c4
          simp only [e2, Int.toNat_natCast] at c4
          rw [hm] at r1 r2 e1 c3
          simp only [Int.toNat_natCast] at c3
          have hmn : m < k := by omega
          have c1 : wr.cell? ⟨w.heap.size, j, none⟩ = some (.int .i64 (m : Int)) := by rw [(hk.out.call hC).cell, rowOf_get hlt, hm]
          have c2 : wr.cell? ⟨q2, j, none⟩ = some (.int .i64 (m : Int)) := by rw [(hk2.out.call hC).cell, rowOf_get hlt, e1]
          have c5 := (hL.out.call hC).at_ m hmn
          have c6 := (hL.out.call hC).at_ j hlt
          generalize f m = s1 at c3 c5
          generalize f j = s2 at c4 c6
          have hC' := Lib.hid hC
          clear hm e1 e2 hC ep3 ep4
          go_wp2_with fail
          go_quiet (fail)
          go_wp2
          go_roundw
          case rel => exact ⟨j + 1, by omega, by go_num, below_drewN hC'.out⟩
          case measure => simp [intOf]; omega
        · have hlt1 : (k : Int) ≤ j := by omega
          have hC' := Lib.hid hC
          clear hC
          go_wp2_with fail
          refine (example_true _).mono ?_
          rintro e w5 ⟨rfl, hb⟩
          replace hB := Lib.hid (below_on (below_on hB.out hC'.out) hb)
          clear hb
          go_wp2
          go_ret
          exact ⟨rfl, hB.out⟩
theorem law_trip (n c : Nat) (hn : n ≤ 17592186043904) (A : Option Addr) (f : Nat → ByteArray) (s : Int) (w : World) (hl : SlS w A n c f) :
    Calls Try.prog 9 #[.slice A n c, .int .u64 s] w fun e w' => e = .returned (.bool true) ∧ Below w.heap.size w w' := by
  rcases Nat.lt_or_ge 4096 n with h | h
  · exact trip_big n c h hn A s w
  · rcases Nat.eq_zero_or_pos n with rfl | h1
    · exact trip_zero c A f s w hl
    · obtain ⟨a, rfl, h'⟩ := hl.lies h1
      exact trip_yes n c h1 h a f s w h'
end Go.Proofs.Ythbhhodlggkegaa
