/- Bins of the reference of chapter 36: for each tile the list of the triangles that touch it. -/
import Derived.Test.YtimgjlogbkgiaaaBin
import Derived.Test.YtimgjlogbkgiaaaTiles
import Derived.Test.YtimgjlogbkgiaaaBins
namespace Go.Proofs.Ytimgjlogbkgiaaa
open Go.RowKit
set_option maxRecDepth 100000 in
set_option maxHeartbeats 16000000 in
theorem rBins_any (A : Option Addr) (n c : Nat) (T : Nat → Array Value) (hn : n ≤ 50) (W H : Int) (K : Nat) (hK : tilesI W H = K) (hK64 : K ≤ 64) (p : Nat → Nat → Bool) (hp : ∀ t i : Nat, tcT (T i) W H t = p t i) (w : World) (hT : TrisW w A n c T) :
    Calls Try.prog 21 #[.slice A n c, .int .i64 W, .int .i64 H] w fun e w' => Below w.heap.size w w' ∧ ∃ v, e = .returned v ∧ BinsP w' w.heap.size v K (fun t => filt (p t) n) := by
  have hK2 : (K : Int) ≤ 64 := by omega
  have hn2 : (n : Int) ≤ 50 := by omega
  have hTi := Lib.hid (fun w : World => rTiles_at W H K w hK)
  replace hp := Lib.hid hp
  have hF : Hid (BinsP (w.alloc (.cells #[] 32)) w.heap.size (.slice (some ⟨w.heap.size, 0, none⟩) 0 0) 0 (fun t => filt (p t) n)) := Lib.hid ⟨[], World.ownsRow_made w #[] 0 (Nat.le_refl _) (Nat.zero_le _) rfl, fun t ht => absurd ht (Nat.not_lt_zero t)⟩
  have hB0 : Hid (Below w.heap.size w (w.alloc (.cells #[] 32))) := Lib.hid (by go_grown)
  replace hT := Lib.hid hT
  clear hK
  go_enter Try.func21, Try.ntmps21
  go_wp2_with fail
  go_loopw [7, 8, 9, 10] (fun v i _ _ wr => ∃ k : Nat, k ≤ K ∧ i = .int .i64 k ∧ BinsP wr w.heap.size v k (fun t => filt (p t) n) ∧ Below w.heap.size w wr)
    (fun _ i _ _ _ => K - (intOf i).toNat)
  case atStart => exact ⟨0, by omega, rfl, hF.out, hB0.out⟩
  case round =>
    clear hF hB0
    obtain ⟨wq, rfl⟩ : ∃ q, q = wr := ⟨_, rfl⟩
    obtain ⟨k, hk, rfl, hF, hB⟩ := hrel
    replace hB := Lib.hid hB
    have hTr := Lib.hid (hT.out.call hB.out)
    replace hF := Lib.hid hF
    by_cases hlt : k < K
    · have hlt' : (k : Int) < K := by omega
      go_wp2_with fail
      refine (hTi.out _).mono ?_
      rintro e xw ⟨rfl, rfl⟩
      have hO0 : Hid ((wq.alloc (.cells #[] 3)).ownsRow wq.heap.size 3 1 (.slice (some ⟨wq.heap.size, 0, none⟩) 0 0) 0 []) := Lib.hid (World.ownsRow_made wq #[] 0 (Nat.le_refl _) (Nat.zero_le _) rfl)
      have hC0 : Hid (Below wq.heap.size wq (wq.alloc (.cells #[] 3))) := Lib.hid (by go_grown)
      go_wp2_with fail
      go_loopw [9, 10] (fun u i wr => ∃ j : Nat, j ≤ n ∧ i = .int .i64 j ∧ wr.ownsRow wq.heap.size 3 1 u (filt (p k) j).length (valsL (filt (p k) j)) ∧ Below wq.heap.size wq wr)
        (fun _ i _ => n - (intOf i).toNat)
      case atStart => exact ⟨0, by omega, rfl, hO0.out, hC0.out⟩
      case round =>
        clear hO0 hC0
        obtain ⟨j, hj, rfl, hO, hC⟩ := hrel
        replace hO := Lib.hid hO
        replace hC := Lib.hid hC
        by_cases hlj : j < n
        · have hlj' : (j : Int) < n := by omega
          have hj0 : (0 : Int) ≤ j := by omega
          have hlen := filt_len (p k) j
          have hT2 := hTr.out.call hC.out
          obtain ⟨b, o, rfl, hb, hcell⟩ := hT2.lies (by omega)
          have htri := hT2.tri j hlj
          have hcj := hcell j hlj
          have hpj := hp.out k j
          obtain ⟨Tj, hTj⟩ : ∃ q, T j = q := ⟨_, rfl⟩
          rw [hTj] at htri hcj hpj
          have hsz := isTri_size htri
          have hinf : Hid ((Try.prog.info? 37).map (·.size) = some Tj.size) := Lib.hid (by rw [hsz]; exact triInfo)
          have hto := Lib.hid (fun w => rTouchesT Tj htri W H k w _ hpj)
          replace hcj := Lib.hid hcj
          clear hT2 hcell htri hpj hTj hsz hb
          go_wp2_with (refine wpList_load_at rfl 37 _ rfl b (o + j * 17) rfl Tj _ hcj.out Try.underlying37 rfl hinf.out ?_)
          refine (hto.out _).mono ?_
          rintro e wv2 ⟨rfl, hb⟩
          replace hO := Lib.hid (own_callB hO.out hb)
          replace hC := Lib.hid (below_on hC.out hb)
          clear hb hcj hto
          cases hpb : p k j with
          | false =>
            have e1 := Lib.hid (filt_no hpb)
            clear hpb
            go_wp2
            go_roundw
            case rel => exact ⟨j + 1, by omega, by go_num, by rw [e1.out]; exact hO.out, hC.out⟩
            case measure => simp [intOf]; omega
          | true =>
            have e1 := Lib.hid (filt_yes hpb)
            have hO' := Lib.hid (hO.out.alloc (.cells #[.int .i64 (j : Int)] 3))
            have hC' := Lib.hid (hC.out.alloc hC.out.size (.cells #[.int .i64 (j : Int)] 3))
            have hNb := Lib.hid (Blk.new wv2 3 #[.int .i64 (j : Int)])
            clear hpb
            go_wp2_with (at_builtin; refine wpList_append_int rfl _ _ rfl wq.heap.size (filt (p k) j) _ rfl hO'.out wv2.heap.size j rfl hNb.out (by omega) hC'.out.size ?_; intro v3 w3 hown hg3; replace hown := Lib.hid hown; replace hg3 := Lib.hid hg3)
            go_roundw
            case rel => exact ⟨j + 1, by omega, by go_num, by rw [e1.out]; exact hown.out, hC'.out.trans hg3.out⟩
            case measure => simp [intOf]; omega
        · obtain rfl : j = n := by omega
          obtain ⟨A', c', rfl, -⟩ := own_list hO.out
          have hlen := filt_len (p k) j
          have hF2 := Lib.hid ((hF.out.call hC.out).call ((Below.refl _ _).alloc (Nat.le_refl _) (.cells #[.slice A' (filt (p k) j).length c'] 32)))
          have hO2 := Lib.hid (own_weak ((hO.out.alloc (.cells #[.slice A' (filt (p k) j).length c'] 32))) hB.out.size)
          have hNb := Lib.hid (Blk.new wr 32 #[.slice A' (filt (p k) j).length c'])
          have hB2 := Lib.hid ((below_on hB.out hC.out).alloc (below_on hB.out hC.out).size (.cells #[.slice A' (filt (p k) j).length c'] 32))
          clear hO hj hlj
          go_wp2_with (at_builtin; refine wpList_append_bin rfl _ _ rfl w.heap.size k (fun t => filt (p t) j) _ rfl hF2.out wr.heap.size _ rfl hNb.out hO2.out (by omega) hB2.out.size ?_; intro v3 w3 hown hg3; replace hown := Lib.hid hown; replace hg3 := Lib.hid hg3)
          go_roundw
          case rel => exact ⟨k + 1, by omega, by go_num, hown.out, hB2.out.trans hg3.out⟩
          case measure => simp [intOf]; omega
    · obtain rfl : k = K := by omega
      clear hlt hk
      go_wp2_with fail
      refine (hTi.out _).mono ?_
      rintro e xw ⟨rfl, rfl⟩
      go_wp2
      go_ret
      exact ⟨hB.out, _, rfl, hF.out⟩
end Go.Proofs.Ytimgjlogbkgiaaa
