/- SameVertex, SameVertices, SameTriangle of the reference of chapter 33, at equal ones; copied. -/
import Derived.Test.YtboffbajmlkhiaaSl
import Derived.Test.YtboffbajmlkhiaaFresh
namespace Go.Proofs.Ytboffbajmlkhiaa
open Go.RowKit
theorem vInfo : (Try.prog.info? 24).map (·.size) = some 5 := by kernel_rfl
set_option maxRecDepth 100000 in
set_option maxHeartbeats 8000000 in
theorem sameVertex_sl (x y z u : Int) (n : Nat) (hn : n ≤ 17592186043904) (f : Nat → Int) (A B : Option Addr) (ca cb : Nat) (w : World) (k1 : Sl w A n ca f) (k2 : Sl w B n cb f) :
    Calls Try.prog 24 #[.agg #[.int .i64 x, .int .i64 y, .int .i64 z, .int .i64 u, .slice A n ca], .agg #[.int .i64 x, .int .i64 y, .int .i64 z, .int .i64 u, .slice B n cb]] w fun e w' => e = .returned (.bool true) ∧ Below w.heap.size w w' := by
  have n0 : (0 : Int) ≤ n := by omega
  have n2 : (n : Int) ≤ 17592186043904 := by omega
  obtain ⟨CA, hCA⟩ : ∃ c, #[Value.int .i64 x, .int .i64 y, .int .i64 z, .int .i64 u, .slice A n ca] = c := ⟨_, rfl⟩
  obtain ⟨CB, hCB⟩ : ∃ c, #[Value.int .i64 x, .int .i64 y, .int .i64 z, .int .i64 u, .slice B n cb] = c := ⟨_, rfl⟩
  have ha := Lib.hid ((Blk.new w 24 #[.int .i64 x, .int .i64 y, .int .i64 z, .int .i64 u, .slice A n ca]).alloc (.cells #[.int .i64 x, .int .i64 y, .int .i64 z, .int .i64 u, .slice B n cb] 24))
  have hb := Lib.hid (Blk.new1 w 24 #[.int .i64 x, .int .i64 y, .int .i64 z, .int .i64 u, .slice B n cb] (.cells #[.int .i64 x, .int .i64 y, .int .i64 z, .int .i64 u, .slice A n ca] 24))
  have hB : Hid (Below w.heap.size w ((w.alloc (.cells #[.int .i64 x, .int .i64 y, .int .i64 z, .int .i64 u, .slice A n ca] 24)).alloc (.cells #[.int .i64 x, .int .i64 y, .int .i64 z, .int .i64 u, .slice B n cb] 24))) := Lib.hid (by go_grown)
  clear hCA hCB CA CB
  replace k1 := Lib.hid k1
  replace k2 := Lib.hid k2
  go_enter Try.func24, Try.ntmps24
  have ca0 := ha.out.cell
  have cb0 := hb.out.cell
  go_wp2_with fail
  go_loopw [5] (fun i wr => ∃ k : Nat, k ≤ n ∧ i = .int .i64 k ∧ Blk wr w.heap.size 24 #[.int .i64 x, .int .i64 y, .int .i64 z, .int .i64 u, .slice A n ca] ∧ Blk wr (w.heap.size + 1) 24 #[.int .i64 x, .int .i64 y, .int .i64 z, .int .i64 u, .slice B n cb] ∧ Below w.heap.size w wr)
    (fun i _ => n - (intOf i).toNat)
  case atStart => exact ⟨0, by omega, rfl, ha.out, hb.out, hB.out⟩
  case round =>
    clear ha hb hB ca0 cb0
    obtain ⟨k, hk, rfl, ha, hb, hB⟩ := hrel
    have ca0 := ha.cell
    have cb0 := hb.cell
    replace ha := Lib.hid ha
    replace hb := Lib.hid hb
    replace hB := Lib.hid hB
    by_cases hlt : k < n
    · have hlt' : (k : Int) < n := by omega
      have hk0 : (0 : Int) ≤ k := by omega
      obtain ⟨a, rfl, -, c1⟩ := (k1.out.call hB.out).get hlt
      obtain ⟨b, rfl, -, c2⟩ := (k2.out.call hB.out).get hlt
      go_wp2_with fail
      go_quiet (fail)
      go_wp2
      go_roundw
      case rel => exact ⟨k + 1, by omega, by go_num, ha.out.drewN _, hb.out.drewN _, below_drewN hB.out⟩
      case measure => simp [intOf]; omega
    · have hlt' : (n : Int) ≤ k := by omega
      go_wp2
      go_ret
      exact ⟨rfl, hB.out⟩
set_option maxRecDepth 100000 in
set_option maxHeartbeats 8000000 in
theorem copied_sl (x y z u : Int) (n : Nat) (hn : n ≤ 17592186043904) (f : Nat → Int) (A : Option Addr) (ca : Nat) (w : World) (k1 : Sl w A n ca f) :
    Calls Try.prog 25 #[.agg #[.int .i64 x, .int .i64 y, .int .i64 z, .int .i64 u, .slice A n ca]] w fun e w' => Below w.heap.size w w' ∧ ∃ B c, e = .returned (.agg #[.int .i64 x, .int .i64 y, .int .i64 z, .int .i64 u, .slice B n c]) ∧ Sl w' B n c f ∧ ∀ a, B = some a → w.heap.size ≤ a.block := by
  have ha := Lib.hid ((Blk.new w 24 #[.int .i64 x, .int .i64 y, .int .i64 z, .int .i64 u, .slice A n ca]).alloc (.cells #[.int .i64 0, .int .i64 0, .int .i64 0, .int .i64 0, .slice none 0 0] 24))
  have hb := Lib.hid (Blk.new1 w 24 #[.int .i64 0, .int .i64 0, .int .i64 0, .int .i64 0, .slice none 0 0] (.cells #[.int .i64 x, .int .i64 y, .int .i64 z, .int .i64 u, .slice A n ca] 24))
  have hB : Hid (Below w.heap.size w ((w.alloc (.cells #[.int .i64 x, .int .i64 y, .int .i64 z, .int .i64 u, .slice A n ca] 24)).alloc (.cells #[.int .i64 0, .int .i64 0, .int .i64 0, .int .i64 0, .slice none 0 0] 24))) := Lib.hid (by go_grown)
  replace k1 := Lib.hid ((k1.call hB.out).alloc (.cells #[] 3))
  go_enter Try.func25, Try.ntmps25
  have hO : Hid ((((w.alloc (.cells #[.int .i64 x, .int .i64 y, .int .i64 z, .int .i64 u, .slice A n ca] 24)).alloc (.cells #[.int .i64 0, .int .i64 0, .int .i64 0, .int .i64 0, .slice none 0 0] 24)).alloc (.cells #[] 3)).ownsRow (w.heap.size + 1 + 1) 3 1 (.slice (some ⟨w.heap.size + 1 + 1, 0, none⟩) 0 0) 0 (intsOf (fun _ => 0) 0)) := Lib.hid (by
    have h := own_empty ((w.alloc (.cells #[.int .i64 x, .int .i64 y, .int .i64 z, .int .i64 u, .slice A n ca] 24)).alloc (.cells #[.int .i64 0, .int .i64 0, .int .i64 0, .int .i64 0, .slice none 0 0] 24)) (fun _ => 0)
    rwa [World.size_alloc, World.size_alloc] at h)
  replace ha := Lib.hid (ha.out.alloc (.cells #[] 3))
  replace hb := Lib.hid (hb.out.alloc (.cells #[] 3))
  replace hB := Lib.hid (hB.out.alloc (by simp; omega) (.cells #[] 3))
  have ca0 := ha.out.cell
  go_wp2_with (first
    | (at_builtin; refine wpList_copy_sl rfl _ _ rfl (w.heap.size + 1 + 1) _ rfl hO.out A n ca f rfl k1.out (by omega) (by simp) ?_; intro B c W2 hs hbk hb2; replace hs := Lib.hid hs; replace hbk := Lib.hid hbk; replace hb2 := Lib.hid hb2;
       have hz : w.heap.size < W2.heap.size := by have := (ha.out.below hb2.out (by omega)).lt; omega;
       have fa := (ha.out.below hb2.out (by omega)).frozen;
       have ca2 := (ha.out.below hb2.out (by omega)).cell;
       have ha2 := (ha.out.below hb2.out (by omega)).set_ 4 (.slice B n c);
       have hb3 := Lib.hid ((hb.out.below hb2.out (by omega)).far (p := ⟨w.heap.size, 4, none⟩) (by simp) (.slice B n c));
       have hs2 := Lib.hid (hs.out.set (p := ⟨w.heap.size, 4, none⟩) (fun a e => by have := hbk.out a e; simp; omega) (.slice B n c));
       have hB2 := Lib.hid ((hB.out.trans (hb2.out.mono (by omega))).setCell (p := ⟨w.heap.size, 4, none⟩) (Nat.le_refl _) (.slice B n c));
       replace ha2 := Lib.hid ha2;
       clear ha hb hB ca0 hb2)
    | refine wpList_load_row rfl 24 _ rfl _ rfl _ _ _ _ ha2.out Try.underlying24 rfl vInfo ?_
    | refine wpList_store_row rfl 24 _ _ rfl (w.heap.size + 1) #[.int .i64 x, .int .i64 y, .int .i64 z, .int .i64 u, .slice B n c] rfl rfl 24 _ hb3.out vInfo rfl (by kernel_rfl) ?_)
  refine bodyPost_ret (results_cell_row rfl _ _ (w.heap.size + 1) _ #[.int .i64 x, .int .i64 y, .int .i64 z, .int .i64 u, .slice B n c] _ _ rfl (hb3.out.setRow _) Try.underlying24 rfl vInfo) rfl ?_
  exact ⟨below_setRow hB2.out (by omega) _, B, c, rfl, hs2.out.setRow (fun a e => by have := hbk.out a e; omega) _, fun a e => by have := hbk.out a e; omega⟩
end Go.Proofs.Ytboffbajmlkhiaa
