/- An argument that is a list of strings, opened. -/
import Derived.Test.YthbhhodlggkegaaOwn
import Derived.Test.YthbhhodlggkegaaVals
import Derived.Deep.Strs
namespace Go.Proofs.Ythbhhodlggkegaa
open Go.ChangeShapes Go.WideShapes Go.ChangeAt Go.RowKit
section
variable {H : Type} {enc : TypeId × Value → H} {w : World} {base : Nat} {spare : Nat → Bool} {held : Bool}
theorem open_strsW {r : Reach} {b0 : Nat} {v : Value} {d : DataW H} {p : List MemPlace} (hv : Value.okWide Try.prog w r b0 43 v) (h : DataW.Trod enc Try.prog w base spare held 43 v d p)
    (hs : ∀ el sp, d = .slice el sp → (el.length + sp.length) * Try.prog.bytesOf 9 ≤ reachBytes) :
    ∃ (A : Option Addr) (n c : Nat) (f : Nat → ByteArray), v = .slice A n c ∧ n ≤ 17592186043904 ∧ SlS w A n c f := by
  obtain ⟨fuel, hf⟩ := h
  have hc : ∃ q, v.cells.toList = [q] ∧ v = q := by
    unfold Value.okWide at hv
    rw [Try.underlying43] at hv
    unfold Cell.okWide at hv
    rw [Try.underlying43] at hv
    cases v <;> first | exact ⟨_, rfl, rfl⟩ | (simp [Cell.ok, Try.underlying43] at hv)
  obtain ⟨q, hq, rfl⟩ := hc
  have e8 : Try.prog.bytesOf 9 = 16 := by kernel_rfl
  rw [e8] at hs
  rw [hq] at hf
  rcases Go.Deep.open_strs Try.underlying43 Try.underlying9 (by kernel_rfl) hf with ⟨hcs, hx⟩ | ⟨a, len, cap, m, Sx, hcs, hb, hl, hm, hz, hx, hcell⟩
  · exact ⟨none, 0, 0, fun _ => ByteArray.empty, by simpa using hcs, by omega, ⟨fun _ => ⟨rfl, rfl⟩, fun h => absurd h (Nat.lt_irrefl _)⟩⟩
  · have hzl : len ≤ m := by rw [hz]; split <;> omega
    refine ⟨some a, len, cap, Sx, by simpa using hcs, ?_, ⟨nofun, fun _ => ⟨a, rfl, fun h0 => ?_, fun i hi => (hcell i (by omega)).1⟩⟩⟩
    · have hd := hs _ _ (congrArg Prod.fst hx)
      simp only [List.length_map, List.length_range] at hd
      have hr : reachBytes = 140737488351232 := by decide
      omega
    · have := World.block_lt_of_cell? w _ (hcell 0 (by omega)).1
      simpa [Addr.add] using this
end
end Go.Proofs.Ythbhhodlggkegaa
