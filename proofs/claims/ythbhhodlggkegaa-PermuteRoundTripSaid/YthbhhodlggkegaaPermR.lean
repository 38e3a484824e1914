/- Below and Perm of the reference of chapter 7. -/
import Derived.Test.YthbhhodlggkegaaPerm
import Derived.Deep.AppendLies
namespace Go.Proofs.Ythbhhodlggkegaa
open Go.RowKit
theorem rNext_at (s z t : Int) (w : World) (hz : zI s = z) (ht : sI s = t) :
    Calls Try.prog 11 #[.int .u64 s] w fun e w' => e = .returned (.tuple #[.int .u64 z, .int .u64 t]) ∧ w = w' := by
  subst hz ht
  exact rNext_any s w
set_option maxHeartbeats 1000000 in
theorem rBelow_any (s n : Int) (hn : n ≤ 9223372036854775807) (w : World) :
    Calls Try.prog 13 #[.int .u64 s, .int .i64 n] w fun e w' => e = .returned (.tuple #[.int .i64 (belowK s n), .int .u64 (belowS s n)]) ∧ w = w' := by
  by_cases h : n < 1
  · have hd : decide (n < 1) = true := by simpa using h
    have k1 : belowK s n = 0 := by unfold belowK; rw [if_pos h]
    have k2 : belowS s n = s := by unfold belowS; rw [if_pos h]
    rw [k1, k2]
    go_enter Try.func13, Try.ntmps13
    go_wp2
    go_returns
    exact ⟨rfl, rfl⟩
  · have hd : decide (n < 1) = false := by simpa using h
    have hb := zI_bound s
    obtain ⟨z, hz⟩ : ∃ z, zI s = z := ⟨_, rfl⟩
    obtain ⟨r, hr⟩ : ∃ r, z % n = r := ⟨_, rfl⟩
    rw [hz] at hb
    have k1 : belowK s n = r := by unfold belowK; rw [if_neg h, hz, hr]
    have k2 : belowS s n = sI s := by unfold belowS; rw [if_neg h]
    have r0 : 0 ≤ r := hr ▸ Int.emod_nonneg _ (by omega)
    have r1 : r < n := hr ▸ Int.emod_lt_of_pos _ (by omega)
    have w1 : IntKind.u64.wrap n = n := by rw [IntKind.wrap_u64]; omega
    have w2 : z.tmod n = r := by rw [Int.tmod_eq_emod_of_nonneg hb.1]; exact hr
    have w3 : IntKind.u64.wrap r = r := by rw [IntKind.wrap_u64]; omega
    have w4 : IntKind.i64.wrap r = r := by rw [IntKind.wrap_i64]; omega
    have w5 : ¬ n = 0 := by omega
    have w6 : (n == 0) = false := by simpa using w5
    obtain ⟨t, ht⟩ : ∃ t, sI s = t := ⟨_, rfl⟩
    rw [k1, k2, ht]
    have hz := Lib.hid hz
    have ht := Lib.hid ht
    clear hr k1 k2 h hb
    go_enter Try.func13, Try.ntmps13
    go_wp2_with fail
    refine (rNext_at _ _ _ _ hz.out ht.out).mono ?_
    rintro e w' ⟨rfl, rfl⟩
    go_wp2
    go_returns
    exact ⟨rfl, rfl⟩
theorem rBelow_at (s n k t : Int) (hn : n ≤ 9223372036854775807) (w : World) (hk : belowK s n = k) (ht : belowS s n = t) :
    Calls Try.prog 13 #[.int .u64 s, .int .i64 n] w fun e w' => e = .returned (.tuple #[.int .i64 k, .int .u64 t]) ∧ w = w' := by
  subst hk ht
  exact rBelow_any s n hn w
def ints (k : Nat) : List Value := (List.range k).map fun i : Nat => Value.int .i64 (i : Int)
theorem ints_succ (k : Nat) : ints k ++ [.int .i64 (k : Int)] = ints (k + 1) := by unfold ints; rw [List.range_succ, List.map_append]; rfl
/-- The first n cells are these numbers. -/
def Begins (n : Nat) (cur : Array Value) (f : Nat → Int) : Prop := ∀ i, i < n → cur[i]? = some (.int .i64 (f i))
theorem begins_set {n : Nat} {cur : Array Value} {f : Nat → Int} (h : Begins n cur f) {i : Nat} (hi : i < n) (v : Int) : Begins n (cur.setIfInBounds i (.int .i64 v)) (upd f i v) := fun j hj => by
  have hs : i < cur.size := (Array.getElem?_eq_some_iff.1 (h i hi)).1
  rw [Array.getElem?_setIfInBounds]
  unfold upd
  by_cases e : i = j
  · subst e; simp [hs]
  · have e' : ¬ j = i := fun h => e h.symm
    simp [e, e', h j hj]
set_option maxRecDepth 100000 in
set_option maxHeartbeats 8000000 in
theorem rPerm_yes (n : Nat) (h1 : 1 ≤ n) (h2 : n ≤ 4096) (s : Int) (w : World) :
    Calls Try.prog 15 #[.int .i64 (n : Int), .int .u64 s] w fun e w' => ∃ g cap cur, e = .returned (.tuple #[.slice (some ⟨g, 0, none⟩) n cap, .int .u64 (runP (n - 1) (fun i => (i : Int)) s).2]) ∧ Below w.heap.size w w' ∧ Blk w' g 3 cur ∧ Begins n cur (runP (n - 1) (fun i => (i : Int)) s).1 := by
  obtain ⟨R, hR⟩ : ∃ R, runP (n - 1) (fun i => (i : Int)) s = R := ⟨_, rfl⟩
  rw [hR]
  replace hR := Lib.hid hR
  obtain ⟨i, hi⟩ : ∃ i, Try.prog.info? 3 = some i := Option.isSome_iff_exists.1 (by kernel_rfl)
  have hz : i.zero = some (.int .i64 0) := by
    have : (Try.prog.info? 3).bind (·.zero) = some (.int .i64 0) := by kernel_rfl
    simpa [hi] using this
  have hs : i.size = 1 := by
    have : (Try.prog.info? 3).map (·.size) = some 1 := by kernel_rfl
    simpa [hi] using this
  have hb8 : i.bytes = 8 := by
    have : (Try.prog.info? 3).map (·.bytes) = some 8 := by kernel_rfl
    simpa [hi] using this
  replace hi := Lib.hid hi
  replace hz := Lib.hid hz
  replace hs := Lib.hid hs
  replace hb8 := Lib.hid hb8
  have n0 : (0 : Int) ≤ n := by omega
  have n1 : (1 : Int) ≤ n := by omega
  have n2 : (n : Int) ≤ 4096 := by omega
  have hw : IntKind.i64.wrap ((n : Int) - 1) = (n : Int) - 1 := by rw [IntKind.wrap_i64]; omega
  go_enter Try.func15, Try.ntmps15
  go_wp2_with fail
  go_loopw [6, 7] (fun v i wr => ∃ k : Nat, k ≤ n ∧ i = .int .i64 k ∧ wr.ownsRow w.heap.size 3 1 v k (ints k) ∧ Below w.heap.size w wr)
    (fun _ i _ => n - (intOf i).toNat)
  case atStart => exact ⟨0, by omega, rfl, ⟨rfl, .inl ⟨rfl, rfl⟩⟩, Below.refl _ _⟩
  case round =>
    rename_i v _ wr _
    obtain ⟨k, hk, rfl, hO, hB⟩ := hrel
    replace hO := Lib.hid hO
    replace hB := Lib.hid hB
    by_cases hlt : k < n
    · have hlt' : (k : Int) < n := by omega
      have hO' := Lib.hid (hO.out.alloc (.cells #[.int .i64 (k : Int)] 3))
      have hB' := Lib.hid (hB.out.alloc hB.out.size (.cells #[.int .i64 (k : Int)] 3))
      have hN := Lib.hid (Blk.new wr 3 #[.int .i64 (k : Int)])
      go_wp2_with (refine wpList_append_lies _ rfl _ _ 27 rfl w.heap.size 3 i (.int .i64 0) 1 8 Try.underlying27 hi.out hz.out hs.out hb8.out rfl (by omega) _ k (ints k) rfl hO'.out ⟨wr.heap.size, 0, none⟩ 1 1 [.int .i64 (k : Int)] rfl rfl (by
          intro j u hu
          have hadd : (⟨wr.heap.size, 0, none⟩ : Addr).add j = ⟨wr.heap.size, j, none⟩ := by unfold Addr.add; split <;> simp_all
          rw [hadd, hN.out.cell]
          simpa using hu) (by intro u hu; simp only [List.mem_singleton] at hu; subst hu; rfl) (by omega) (by simp only [maxLen]; omega) (by omega) hB'.out.size _ rfl ?_; intro g cap w1 hown hgrow hat hlt2; replace hown := Lib.hid hown; replace hgrow := Lib.hid hgrow; replace hat := Lib.hid hat; replace hlt2 := Lib.hid hlt2)
      go_roundw
      case rel => exact ⟨k + 1, by omega, by go_num, by rw [← ints_succ]; exact hown.out, hB'.out.grown hgrow.out hB'.out.size fun b hbk => (hO'.out.lt b hbk).1⟩
      case measure => simp [intOf]; omega
    · have he : n = k := by omega
      clear hk hlt
      subst he
      obtain ⟨-, hv⟩ := hO.out
      rcases hv with ⟨-, h0⟩ | ⟨g, cap, cur, rfl, hg1, hg, hnc, -, hcs, htk⟩
      · omega
      have hbeg : Begins n cur (fun i => (i : Int)) := fun a ha => by
        have e : (cur.toList.take (n * 1))[a]? = (ints n)[a]? := by rw [htk]
        unfold ints at e
        simpa [ha] using e
      replace hbeg := Lib.hid hbeg
      have hb := Lib.hid (show Blk wr g 3 cur from hg)
      clear hO hg htk hcs
      have hnc' : (n : Int) ≤ cap := by omega
      go_wp2_with fail
      go_loopw [1, 8, 9, 10, 11, 12] (fun u i _ _ _ _ wr => ∃ (j : Nat) (f : Nat → Int) (t : Int) (cur : Array Value), j < n ∧ u = .int .u64 t ∧ i = .int .i64 j ∧ Hid (runP j f t = R) ∧ Blk wr g 3 cur ∧ Hid (Begins n cur f) ∧ Below w.heap.size w wr)
        (fun _ i _ _ _ _ _ => (intOf i).toNat)
      case atStart => exact ⟨n - 1, _, s, cur, by omega, rfl, by go_num, hR, hb.out, hbeg, hB.out⟩
      case round =>
        clear hb hB hbeg
        obtain ⟨j, f, t, cur, hj, rfl, rfl, hr, hb, hbeg, hB⟩ := hrel
        replace hb := Lib.hid hb
        replace hB := Lib.hid hB
        by_cases h0 : 0 < j
        · have h0' : (1 : Int) ≤ j := by omega
          have hw1 : IntKind.i64.wrap ((j : Int) + 1) = (j : Int) + 1 := by rw [IntKind.wrap_i64]; omega
          have hw2 : IntKind.i64.wrap ((j : Int) - 1) = (j : Int) - 1 := by rw [IntKind.wrap_i64]; omega
          obtain ⟨b0, b1⟩ := belowK_bound t ((j : Int) + 1) (by omega)
          obtain ⟨m, hm⟩ : ∃ m : Nat, belowK t ((j : Int) + 1) = (m : Int) := ⟨(belowK t ((j : Int) + 1)).toNat, by omega⟩
          rw [hm] at b0 b1
          obtain ⟨t', ht'⟩ : ∃ t', belowS t ((j : Int) + 1) = t' := ⟨_, rfl⟩
          replace hm := Lib.hid hm
          replace ht' := Lib.hid ht'
          have hr' : runP (j - 1) (swp f j m) t' = R := by
            obtain ⟨q, rfl⟩ : ∃ q, j = q + 1 := ⟨j - 1, by omega⟩
            have h := hr.out
            have e : ((q : Int) + 2) = ((q + 1 : Nat) : Int) + 1 := by omega
            unfold runP at h
            rw [e, hm.out, ht'.out] at h
            simpa using h
          replace hr' := Lib.hid hr'
          have hjn : (j : Int) < n := by omega
          have hmn : (m : Int) < n := by omega
          have hm0 : (0 : Int) ≤ m := by omega
          have hmn' : m < n := by omega
          go_wp2_with fail
          refine (rBelow_at _ _ _ _ (by omega) _ hm.out ht'.out).mono ?_
          rintro e w1 ⟨rfl, rfl⟩
          go_wp2_with fail
          have c1 : wr.cell? ⟨g, j, none⟩ = some (.int .i64 (f j)) := by rw [hb.out.cell]; exact hbeg.out j hj
          have c3 : wr.cell? ⟨g, m, none⟩ = some (.int .i64 (f m)) := by rw [hb.out.cell]; exact hbeg.out m hmn'
          have f1 : wr.frozen? ⟨g, j, none⟩ = false := hb.out.frozen j
          have hb3 := hb.out.set_ j (.int .i64 (f m))
          have g3 := begins_set hbeg.out hj (f m)
          have c2 : (wr.setCell ⟨g, j, none⟩ (.int .i64 (f m))).cell? ⟨g, m, none⟩ = some (.int .i64 (upd f j (f m) m)) := by rw [hb3.cell]; exact g3 m hmn'
          have f2 : (wr.setCell ⟨g, j, none⟩ (.int .i64 (f m))).frozen? ⟨g, m, none⟩ = false := hb3.frozen m
          have hb4 := hb3.set_ m (.int .i64 (f j))
          have g4 : Begins n _ (swp f j m) := begins_set g3 hmn' (f j)
          have hB4 := (hB.out.setCell (p := ⟨g, j, none⟩) hg1 (.int .i64 (f m))).setCell (p := ⟨g, m, none⟩) hg1 (.int .i64 (f j))
          replace hb3 := Lib.hid hb3
          replace hb4 := Lib.hid hb4
          replace hB4 := Lib.hid hB4
          replace g3 := Lib.hid g3
          replace g4 := Lib.hid g4
          go_region
          all_goals
            go_wp2
            go_roundw
            case rel => exact ⟨j - 1, swp f j m, t', _, by omega, rfl, by go_num, hr', hb4.out.drew, g4, hB4.out.drew⟩
            case measure => simp [intOf]; omega
        · have h0' : (j : Int) < 1 := by omega
          have hj0 : j = 0 := by omega
          have hr' := hr.out
          rw [hj0] at hr'
          unfold runP at hr'
          replace hr' := Lib.hid hr'
          go_wp2
          go_returns
          rw [← hr'.out]
          exact ⟨g, cap, cur, rfl, hB.out, hb.out, hbeg.out⟩
end Go.Proofs.Ythbhhodlggkegaa
