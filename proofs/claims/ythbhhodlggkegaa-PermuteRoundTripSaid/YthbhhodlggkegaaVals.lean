/- Lists of strings in memory, as Sl for lists of numbers; lists made with room. -/
import Derived.Test.YthbhhodlggkegaaSl
import Derived.Laws.MakeOwn
namespace Go.Proofs.Ythbhhodlggkegaa
open Go.RowKit
def valsOf (v : Nat → Value) (k : Nat) : List Value := (List.range k).map v
theorem valsOf_succ (v : Nat → Value) (k : Nat) : valsOf v k ++ [v k] = valsOf v (k + 1) := by unfold valsOf; rw [List.range_succ, List.map_append]; rfl
theorem valsOf_get {v : Nat → Value} {k i : Nat} (h : i < k) : (valsOf v k)[i]? = some (v i) := by unfold valsOf; simp [h]
theorem valsOf_len (v : Nat → Value) (k : Nat) : (valsOf v k).length = k := by simp [valsOf]
/-- A string of a list that is known, and where it lies. -/
structure LieS (W : World) (a : Addr) (n : Nat) (f : Nat → ByteArray) : Prop where
  lt : 0 < n → a.block < W.heap.size
  at_ : ∀ i, i < n → W.cell? (a.add i) = some (.string (f i))
theorem LieS.call {W W' : World} {a : Addr} {n : Nat} {f : Nat → ByteArray} (h : LieS W a n f) (hb : Below W.heap.size W W') : LieS W' a n f :=
  ⟨fun h0 => Nat.lt_of_lt_of_le (h.lt h0) hb.size, fun i hi => by rw [hb.cell (by rw [Go.ChangeShapes.block_add]; exact h.lt (by omega))]; exact h.at_ i hi⟩
structure SlS (W : World) (A : Option Addr) (n c : Nat) (f : Nat → ByteArray) : Prop where
  nil : A = none → n = 0 ∧ c = 0
  lies : 0 < n → ∃ a, A = some a ∧ LieS W a n f
theorem SlS.call {W W' : World} {A : Option Addr} {n c : Nat} {f : Nat → ByteArray} (h : SlS W A n c f) (hb : Below W.heap.size W W') : SlS W' A n c f :=
  ⟨h.nil, fun h0 => let ⟨a, e, hl⟩ := h.lies h0; ⟨a, e, hl.call hb⟩⟩
theorem SlS.get {W : World} {A : Option Addr} {n c : Nat} {f : Nat → ByteArray} (h : SlS W A n c f) {i : Nat} (hi : i < n) : ∃ a, A = some a ∧ a.block < W.heap.size ∧ W.cell? (a.add i) = some (.string (f i)) :=
  let ⟨a, e, hl⟩ := h.lies (by omega); ⟨a, e, hl.lt (by omega), hl.at_ i hi⟩
section
variable {W : World} {base s n m : Nat} {t : TypeId} {v : Nat → Value}
theorem own_cells (h : W.ownsRow base t 1 (.slice (some ⟨s, 0, none⟩) n m) n (valsOf v n)) : s < W.heap.size ∧ ∀ i, i < n → W.cell? ⟨s, i, none⟩ = some (v i) := by
  obtain ⟨-, ⟨h, -⟩ | ⟨b, c, cur, h, hb, hg, hnc, -, hcs, htk⟩⟩ := h
  · simp at h
  · simp only [Value.slice.injEq, Option.some.injEq, Addr.mk.injEq, and_true, true_and] at h
    obtain ⟨rfl, rfl⟩ := h
    refine ⟨Blk.lt (t := t) (cs := cur) hg, fun i hi => ?_⟩
    rw [Blk.cell (t := t) (cs := cur) hg]
    have e : (cur.toList.take (n * 1))[i]? = (valsOf v n)[i]? := by rw [htk]
    rw [valsOf_get hi] at e
    simpa [hi] using e
theorem own_Sl {f : Nat → Int} (h : W.ownsRow base 3 1 (.slice (some ⟨s, 0, none⟩) n m) n (valsOf (fun j => .int .i64 (f j)) n)) : Sl W (some ⟨s, 0, none⟩) n m f :=
  Sl.some ⟨fun _ => (own_cells h).1, fun i hi => by rw [add_plain]; exact (own_cells h).2 i hi⟩
end
theorem own_SlS {W : World} {base s n m : Nat} {f : Nat → ByteArray} (h : W.ownsRow base 9 1 (.slice (some ⟨s, 0, none⟩) n m) n (valsOf (fun j => .string (f j)) n)) : SlS W (some ⟨s, 0, none⟩) n m f :=
  ⟨nofun, fun _ => ⟨_, rfl, fun _ => (own_cells h).1, fun i hi => by rw [add_plain]; exact (own_cells h).2 i hi⟩⟩
theorem str_info : ∃ i, Try.prog.info? 9 = some i ∧ i.zero = some (.string ByteArray.empty) ∧ i.size = 1 ∧ i.bytes = 16 := by
  obtain ⟨i, hi⟩ : ∃ i, Try.prog.info? 9 = some i := Option.isSome_iff_exists.1 (by kernel_rfl)
  refine ⟨i, hi, ?_, ?_, ?_⟩
  · have : (Try.prog.info? 9).bind (·.zero) = some (.string ByteArray.empty) := by kernel_rfl
    simpa [hi] using this
  · have : (Try.prog.info? 9).map (·.size) = some 1 := by kernel_rfl
    simpa [hi] using this
  · have : (Try.prog.info? 9).map (·.bytes) = some 16 := by kernel_rfl
    simpa [hi] using this
theorem make_str0 (n : Nat) (h : n ≤ 17592186043904) (w : World) : (Instr.makeSlice 43 (.int .i64 0) (.int .i64 (n : Int))).run Try.prog w = .ok (.slice (some ⟨w.heap.size, 0, none⟩) 0 n) (w.alloc (.cells (madeCells #[.string ByteArray.empty] n) 9)) := by
  obtain ⟨i, hi, hz, hs, hb⟩ := str_info
  have := run_make (P := Try.prog) w 43 9 i _ Try.underlying43 hi hz .i64 .i64 0 n (by omega) (by omega) (by rw [hb]; omega) (by omega)
  simpa [hs, Value.cells] using this
theorem int_info' : True := trivial
theorem make_int0 (n : Nat) (h : n ≤ 17592186043904) (w : World) : (Instr.makeSlice 27 (.int .i64 0) (.int .i64 (n : Int))).run Try.prog w = .ok (.slice (some ⟨w.heap.size, 0, none⟩) 0 n) (w.alloc (.cells (madeCells #[.int .i64 0] n) 3)) := by
  obtain ⟨i, hi, hz, hs, hb⟩ := int_info
  have := run_make (P := Try.prog) w 27 3 i _ Try.underlying27 hi hz .i64 .i64 0 n (by omega) (by omega) (by rw [hb]; omega) (by omega)
  simpa [hs, Value.cells] using this
theorem make_int (n : Nat) (h : n ≤ 17592186043904) (w : World) : (Instr.makeSlice 27 (.int .i64 (n : Int)) (.int .i64 (n : Int))).run Try.prog w = .ok (.slice (some ⟨w.heap.size, 0, none⟩) n n) (w.alloc (.cells (madeCells #[.int .i64 0] n) 3)) := by
  obtain ⟨i, hi, hz, hs, hb⟩ := int_info
  have := run_make (P := Try.prog) w 27 3 i _ Try.underlying27 hi hz .i64 .i64 n n (by omega) (Int.le_refl _) (by rw [hb]; omega) (by omega)
  simpa [hs, Value.cells] using this
end Go.Proofs.Ythbhhodlggkegaa
