/- Lists of numbers that are made and filled. No function of the program is walked here. -/
import Derived.Test.YthbagegkcpblgaaSl
import Derived.Laws.MakeOwn
namespace Go.Proofs.Ythbagegkcpblgaa
open Go.RowKit
def rowOf (n : Nat) (f : Nat → Int) : Array Value := ((List.range n).map fun i => Value.int .i64 (f i)).toArray
theorem rowOf_get {n i : Nat} {f : Nat → Int} (h : i < n) : (rowOf n f)[i]? = some (.int .i64 (f i)) := by unfold rowOf; simp [h]
def upd (f : Nat → Int) (i : Nat) (v : Int) : Nat → Int := fun j => if j = i then v else f j
theorem rowOf_set {n i : Nat} {f : Nat → Int} {v : Int} : (rowOf n f).setIfInBounds i (.int .i64 v) = rowOf n (upd f i v) := by
  apply Array.ext_getElem?
  intro j
  unfold rowOf upd
  rw [Array.getElem?_setIfInBounds]
  by_cases hj : j < n
  · by_cases e : i = j
    · subst e; simp [hj]
    · have e' : ¬ j = i := fun h => e h.symm
      simp [hj, e, e']
  · by_cases e : i = j
    · subst e; simp [hj]
    · simp [hj, e]
theorem made_row (n : Nat) : madeCells #[.int .i64 0] n = rowOf n (fun _ => 0) := by
  unfold madeCells rowOf
  apply Array.ext_getElem?
  intro j
  by_cases hj : j < n
  · simp [hj, Nat.mod_one]
  · simp [hj]
theorem make_intsL (n : Nat) (h : n ≤ 17592186043904) (w : World) : (Instr.makeSlice 22 (.int .i64 (n : Int)) (.int .i64 (n : Int))).run Try.prog w = .ok (.slice (some ⟨w.heap.size, 0, none⟩) n n) (w.alloc (.cells (rowOf n (fun _ => 0)) 3)) := by
  obtain ⟨i, hi, hz, hs, hb⟩ := int_info
  have := run_make (P := Try.prog) w 22 3 i _ Try.underlying22 hi hz .i64 .i64 n n (by omega) (Int.le_refl _) (by rw [hb]; omega) (by omega)
  rw [← made_row]
  simpa [hs, Value.cells] using this
theorem sl_row {W : World} {B n : Nat} {f : Nat → Int} (hb : Blk W B 3 (rowOf n f)) (c : Nat) : Sl W (some ⟨B, 0, none⟩) n c f :=
  Sl.some ⟨fun _ => hb.lt, fun i hi => by rw [add_plain, hb.cell]; exact rowOf_get hi⟩
/-- The first k numbers of g are those of f. -/
def Upto (k : Nat) (g f : Nat → Int) : Prop := ∀ i, i < k → g i = f i
theorem upto_zero (g f : Nat → Int) : Upto 0 g f := fun i hi => absurd hi (Nat.not_lt_zero i)
theorem upto_succ {k : Nat} {g f : Nat → Int} (h : Upto k g f) : Upto (k + 1) (upd g k (f k)) f := fun i hi => by
  unfold upd
  by_cases e : i = k
  · rw [if_pos e, e]
  · rw [if_neg e]; exact h i (by omega)
theorem sl_lt {W : World} {A : Option Addr} {n c : Nat} {f : Nat → Int} (h : Sl W A n c f) : ∀ a, A = some a → 0 < n → a.block < W.heap.size := fun a e h0 => by
  obtain ⟨b, e', hl⟩ := h.lies h0
  obtain rfl := Option.some.inj (e.symm.trans e')
  exact hl.lt h0
theorem Sl.setN {W : World} {A : Option Addr} {n c : Nat} {f : Nat → Int} (h : Sl W A n c f) {p : Addr} (hp : ∀ a, A = Option.some a → 0 < n → a.block ≠ p.block) (u : Value) : Sl (W.setCell p u) A n c f :=
  ⟨h.nil, fun h0 => by
    obtain ⟨a, e, hl⟩ := h.lies h0
    refine ⟨a, e, fun h1 => by simpa using hl.lt h1, fun i hi => ?_⟩
    rw [← hl.at_ i hi]
    refine World.cell?_of_block ?_
    rw [Go.ChangeShapes.block_add]
    exact Below.heap_setCell W p u a.block (hp a e h0)⟩
theorem own_callB {W W' : World} {base n k : Nat} {t : TypeId} {v : Value} {xs : List Value} (h : W.ownsRow base t k v n xs) (hb : Below W.heap.size W W') : W'.ownsRow base t k v n xs := by
  obtain ⟨h1, h2 | ⟨g, c, cur, e, h3, hg, rest⟩⟩ := h
  · exact ⟨h1, .inl h2⟩
  · exact ⟨h1, .inr ⟨g, c, cur, e, h3, (hb.block g (Blk.lt (t := t) (cs := cur) hg)).trans hg, rest⟩⟩
end Go.Proofs.Ythbagegkcpblgaa
