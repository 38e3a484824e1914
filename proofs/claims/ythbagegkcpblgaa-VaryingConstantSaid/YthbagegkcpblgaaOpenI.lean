/- An argument that is a list of numbers, opened. -/
import Derived.Test.YthbagegkcpblgaaOwn
import Derived.Test.YthbagegkcpblgaaSl
namespace Go.Proofs.Ythbagegkcpblgaa
open Go.ChangeShapes Go.WideShapes Go.ChangeAt Go.RowKit
section
variable {H : Type} {enc : TypeId × Value → H} {w : World} {base : Nat} {spare : Nat → Bool} {held : Bool}
theorem open_intsW {r : Reach} {b0 : Nat} {v : Value} {d : DataW H} {p : List MemPlace} (hv : Value.okWide Try.prog w r b0 22 v) (h : DataW.Trod enc Try.prog w base spare held 22 v d p)
    (hs : ∀ el sp, d = .slice el sp → (el.length + sp.length) * Try.prog.bytesOf 3 ≤ reachBytes) :
    ∃ (A : Option Addr) (n c : Nat) (f : Nat → Int), v = .slice A n c ∧ n ≤ 17592186043904 ∧ Sl w A n c f := by
  obtain ⟨fuel, hf⟩ := h
  have hc : ∃ q, v.cells.toList = [q] ∧ v = q := by
    unfold Value.okWide at hv
    rw [Try.underlying22] at hv
    unfold Cell.okWide at hv
    rw [Try.underlying22] at hv
    cases v <;> first | exact ⟨_, rfl, rfl⟩ | (simp [Cell.ok, Try.underlying22] at hv)
  obtain ⟨q, hq, rfl⟩ := hc
  have e8 : Try.prog.bytesOf 3 = 8 := by kernel_rfl
  rw [e8] at hs
  rw [hq] at hf
  rcases open_ints Try.underlying22 Try.underlying3 (by kernel_rfl) hf with ⟨hcs, hx⟩ | ⟨a, len, cap, zs, hcs, hb, hl, hm, hz, hx, hcell, hwz⟩
  · exact ⟨none, 0, 0, fun _ => 0, by simpa using hcs, by omega, Sl.none _ _⟩
  · have hzl : len ≤ zs.length := by rw [hz]; split <;> omega
    refine ⟨some a, len, cap, fun i => zs.getD i 0, by simpa using hcs, ?_, Sl.some ⟨fun h0 => ?_, fun i hi => hcell i (by omega)⟩⟩
    · have hd := hs _ _ (congrArg Prod.fst hx)
      have e1 : (lits (H := H) IntKind.i64 (zs.take len)).length = len := by simp [lits, hzl]
      have hr : reachBytes = 140737488351232 := by decide
      omega
    · have := World.block_lt_of_cell? w _ (hcell 0 (by omega))
      simpa [Addr.add] using this
end
end Go.Proofs.Ythbagegkcpblgaa
