/- Bins of package binning: for each tile the list of the triangles that touch it. -/
import Derived.Test.YtimgjlogbkgiaaaBin
import Derived.Test.YtimgjlogbkgiaaaTiles
namespace Go.Proofs.Ytimgjlogbkgiaaa
open Go.RowKit
theorem own_made {W : World} {base n k : Nat} {t : TypeId} {v : Value} {xs : List Value} (h : W.ownsRow base t k v n xs) (O : Obj) (cs : Array Value) : ((W.alloc O).setRow W.heap.size cs).ownsRow base t k v n xs := by
  obtain ⟨h1, h2 | ⟨g, c, cur, e, h3, hg, rest⟩⟩ := h
  · exact ⟨h1, .inl h2⟩
  · have hb : Blk W g t cur := hg
    exact ⟨h1, .inr ⟨g, c, cur, e, h3, (hb.alloc O).farRow (Nat.ne_of_lt hb.lt) cs, rest⟩⟩
set_option maxRecDepth 100000 in
set_option maxHeartbeats 16000000 in
theorem bins_any (A : Option Addr) (n c : Nat) (T : Nat → Array Value) (hn : n ≤ 50) (W H : Int) (K : Nat) (hK : tilesI W H = K) (hK64 : K ≤ 64) (p : Nat → Nat → Bool) (hp : ∀ t i : Nat, tcT (T i) W H t = p t i) (w : World) (hT : TrisW w A n c T) :
    Calls Try.prog 20 #[.slice A n c, .int .i64 W, .int .i64 H] w fun e w' => Below w.heap.size w w' ∧ ∃ v, e = .returned v ∧ BinsP w' w.heap.size v K (fun t => filt (p t) n) := by
  have hK2 : (K : Int) ≤ 64 := by omega
  have hn2 : (n : Int) ≤ 50 := by omega
  have hTi := Lib.hid (fun w : World => hK ▸ tiles_any W H w)
  replace hp := Lib.hid hp
  replace hT := Lib.hid hT
  have hF : Hid (BinsP w w.heap.size (.slice none 0 0) 0 (fun t => filt (p t) n)) := Lib.hid ⟨[], World.ownsRow_nil _ _ _ _, fun t ht => absurd ht (Nat.not_lt_zero t)⟩
  clear hK
  go_enter Try.func20, Try.ntmps20
  go_wp2_with fail
  refine (hTi.out _).mono ?_
  rintro e xw ⟨rfl, rfl⟩
  go_wp2_with fail
  go_loopw [7, 8, 9, 10, 11, 15] (fun v _ _ _ _ i wr => ∃ k : Nat, k ≤ K ∧ i = .int .i64 k ∧ BinsP wr w.heap.size v k (fun t => filt (p t) n) ∧ Below w.heap.size w wr)
    (fun _ _ _ _ _ i _ => K - (intOf i).toNat)
  case atStart => exact ⟨0, by omega, rfl, hF.out, Below.refl _ _⟩
  case round =>
    clear hF
    obtain ⟨wq, rfl⟩ : ∃ q, q = wr := ⟨_, rfl⟩
    obtain ⟨k, hk, rfl, hF, hB⟩ := hrel
    replace hB := Lib.hid hB
    have hTr := Lib.hid (hT.out.call hB.out)
    replace hF := Lib.hid hF
    by_cases hlt : k < K
    · have hlt' : (k : Int) < K := by omega
      have hO0 : Hid (wq.ownsRow wq.heap.size 3 1 (.slice none 0 0) 0 []) := Lib.hid (World.ownsRow_nil _ _ _ _)
      go_wp2_with fail
      go_loopw [9, 10, 11, 20] (fun u _ _ i wr => ∃ j : Nat, j ≤ n ∧ i = .int .i64 j ∧ wr.ownsRow wq.heap.size 3 1 u (filt (p k) j).length (valsL (filt (p k) j)) ∧ Below wq.heap.size wq wr)
        (fun _ _ _ i _ => n - (intOf i).toNat)
      case atStart => exact ⟨0, by omega, rfl, hO0.out, Below.refl _ _⟩
      case round =>
        clear hO0
        obtain ⟨j, hj, rfl, hO, hC⟩ := hrel
        replace hO := Lib.hid hO
        replace hC := Lib.hid hC
        by_cases hlj : j < n
        · have hlj' : (j : Int) < n := by omega
          have hj0 : (0 : Int) ≤ j := by omega
          have hlen := filt_len (p k) j
          have hT2 := hTr.out.call hC.out
          obtain ⟨b, o, rfl, hb, hcell⟩ := hT2.lies (by omega)
          have htri := hT2.tri j hlj
          have hcj := hcell j hlj
          have hpj := hp.out k j
          obtain ⟨Tj, hTj⟩ : ∃ q, T j = q := ⟨_, rfl⟩
          rw [hTj] at htri hcj hpj
          have hsz := isTri_size htri
          have hone := Lib.hid (isTri_one htri)
          have hinf : Hid ((Try.prog.info? 37).map (·.size) = some Tj.size) := Lib.hid (by rw [hsz]; exact triInfo)
          have hz17 : Hid ((#[.int .i64 0, .int .i64 0, .int .i64 0, .int .i64 0, .slice none 0 0, .int .i64 0, .int .i64 0, .int .i64 0, .int .i64 0, .slice none 0 0, .int .i64 0, .int .i64 0, .int .i64 0, .int .i64 0, .slice none 0 0, .int .i64 0, .bool false] : Array Value).size = Tj.size) := Lib.hid (by rw [hsz]; rfl)
          have hto := Lib.hid (fun w => touchesT Tj htri W H k w _ hpj)
          replace hcj := Lib.hid hcj
          have hrow := Lib.hid (Blk.setRow (Blk.new wr 37 #[.int .i64 0, .int .i64 0, .int .i64 0, .int .i64 0, .slice none 0 0, .int .i64 0, .int .i64 0, .int .i64 0, .int .i64 0, .slice none 0 0, .int .i64 0, .int .i64 0, .int .i64 0, .int .i64 0, .slice none 0 0, .int .i64 0, .bool false]) Tj)
          replace hO := Lib.hid (own_made hO.out (.cells #[.int .i64 0, .int .i64 0, .int .i64 0, .int .i64 0, .slice none 0 0, .int .i64 0, .int .i64 0, .int .i64 0, .int .i64 0, .slice none 0 0, .int .i64 0, .int .i64 0, .int .i64 0, .int .i64 0, .slice none 0 0, .int .i64 0, .bool false] 37) Tj)
          replace hC := Lib.hid (below_setRow (hC.out.alloc hC.out.size (.cells #[.int .i64 0, .int .i64 0, .int .i64 0, .int .i64 0, .slice none 0 0, .int .i64 0, .int .i64 0, .int .i64 0, .int .i64 0, .slice none 0 0, .int .i64 0, .int .i64 0, .int .i64 0, .int .i64 0, .slice none 0 0, .int .i64 0, .bool false] 37)) hC.out.size Tj)
          clear hT2 hcell htri hpj hTj hsz hb
          go_upto_region 9 with (first
            | refine wpList_load_at rfl 37 _ rfl b (o + j * 17) rfl Tj _ hcj.out Try.underlying37 rfl hinf.out ?_
            | refine wpList_store_row rfl 37 _ _ rfl wr.heap.size Tj rfl rfl 37 _ (Blk.new wr 37 #[.int .i64 0, .int .i64 0, .int .i64 0, .int .i64 0, .slice none 0 0, .int .i64 0, .int .i64 0, .int .i64 0, .int .i64 0, .slice none 0 0, .int .i64 0, .int .i64 0, .int .i64 0, .int .i64 0, .slice none 0 0, .int .i64 0, .bool false]) hinf.out hz17.out hone.out ?_)
          generalize (wr.alloc (.cells #[.int .i64 0, .int .i64 0, .int .i64 0, .int .i64 0, .slice none 0 0, .int .i64 0, .int .i64 0, .int .i64 0, .int .i64 0, .slice none 0 0, .int .i64 0, .int .i64 0, .int .i64 0, .int .i64 0, .slice none 0 0, .int .i64 0, .bool false] 37)).setRow wr.heap.size Tj = wv1 at *
          go_wp2_with (refine wpList_load_row rfl 37 _ rfl _ rfl _ _ _ _ hrow.out Try.underlying37 rfl hinf.out ?_)
          refine (hto.out _).mono ?_
          rintro e wv2 ⟨rfl, hb⟩
          replace hO := Lib.hid (own_callB hO.out hb)
          replace hC := Lib.hid (below_on hC.out hb)
          clear hb hrow hcj hto
          cases hpb : p k j with
          | false =>
            have e1 := Lib.hid (filt_no hpb)
            clear hpb
            go_wp2
            go_roundw
            case rel => exact ⟨j + 1, by omega, by go_num, by rw [e1.out]; exact hO.out, hC.out⟩
            case measure => simp [intOf]; omega
          | true =>
            have e1 := Lib.hid (filt_yes hpb)
            have hO' := Lib.hid (hO.out.alloc (.cells #[.int .i64 (j : Int)] 3))
            have hC' := Lib.hid (hC.out.alloc hC.out.size (.cells #[.int .i64 (j : Int)] 3))
            have hNb := Lib.hid (Blk.new wv2 3 #[.int .i64 (j : Int)])
            clear hpb
            go_wp2_with (at_builtin; refine wpList_append_int rfl _ _ rfl wq.heap.size (filt (p k) j) _ rfl hO'.out wv2.heap.size j rfl hNb.out (by omega) hC'.out.size ?_; intro v3 w3 hown hg3; replace hown := Lib.hid hown; replace hg3 := Lib.hid hg3)
            go_roundw
            case rel => exact ⟨j + 1, by omega, by go_num, by rw [e1.out]; exact hown.out, hC'.out.trans hg3.out⟩
            case measure => simp [intOf]; omega
        · obtain rfl : j = n := by omega
          obtain ⟨A', c', rfl, -⟩ := own_list hO.out
          have hlen := filt_len (p k) j
          have hF2 := Lib.hid ((hF.out.call hC.out).call ((Below.refl _ _).alloc (Nat.le_refl _) (.cells #[.slice A' (filt (p k) j).length c'] 32)))
          have hO2 := Lib.hid (own_weak ((hO.out.alloc (.cells #[.slice A' (filt (p k) j).length c'] 32))) hB.out.size)
          have hNb := Lib.hid (Blk.new wr 32 #[.slice A' (filt (p k) j).length c'])
          have hB2 := Lib.hid ((below_on hB.out hC.out).alloc (below_on hB.out hC.out).size (.cells #[.slice A' (filt (p k) j).length c'] 32))
          clear hO hj hlj
          go_wp2_with (at_builtin; refine wpList_append_bin rfl _ _ rfl w.heap.size k (fun t => filt (p t) j) _ rfl hF2.out wr.heap.size _ rfl hNb.out hO2.out (by omega) hB2.out.size ?_; intro v3 w3 hown hg3; replace hown := Lib.hid hown; replace hg3 := Lib.hid hg3)
          go_roundw
          case rel => exact ⟨k + 1, by omega, by go_num, hown.out, hB2.out.trans hg3.out⟩
          case measure => simp [intOf]; omega
    · obtain rfl : k = K := by omega
      clear hlt hk
      go_wp2
      go_ret
      exact ⟨hB.out, _, rfl, hF.out⟩
end Go.Proofs.Ytimgjlogbkgiaaa
