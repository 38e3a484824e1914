/- The words that the walks of this seat use, and plain facts about them: no call is walked here. -/
import Derived.Test.YthbagegkcpblgaaChecked
import Derived.WalkKit
import Derived.Handy
import Derived.WalkLawsBesides
import Derived.WalkSpells
import Derived.Lib.Hide
import Derived.Deep.QuietTactic
import Derived.BigQuiet
import Derived.Deep.RegionHeld3
import Derived.Deep.RegionWith
import Derived.Deep.DeepCutAuto
import Derived.Deep.DeepFit
namespace Go.Proofs.Ythbagegkcpblgaa
open Go.RowKit

/-! ### Worlds -/
theorem bcell {W w1 : World} (hb : Below W.heap.size W w1) : (∀ b o, b < W.heap.size → w1.cell? ⟨b, o, none⟩ = W.cell? ⟨b, o, none⟩) ∧ (∀ b o, b < W.heap.size → w1.frozen? ⟨b, o, none⟩ = W.frozen? ⟨b, o, none⟩) :=
  ⟨fun b o h => hb.cell (p := ⟨b, o, none⟩) h, fun b o h => hb.frozen (p := ⟨b, o, none⟩) h⟩
/-- A block below the heap's size lies below it behind new blocks, too, in the walk's own spelling. -/
theorem more {b n : Nat} (h : b < n) : b < n ∧ b < n + 1 ∧ b < n + 1 + 1 ∧ b < n + 1 + 1 + 1 ∧ b < n + 1 + 1 + 1 + 1 := ⟨h, by omega, by omega, by omega, by omega⟩
/-- Two steps, the second one from the world in which the first one ended. -/
theorem below_on {w W w1 : World} (h : Below w.heap.size w W) (hb : Below W.heap.size W w1) : Below w.heap.size w w1 := h.trans (hb.mono h.size)
theorem below_box {w w1 : World} {o : Obj} (hb : Below (w.alloc o).heap.size (w.alloc o) w1) : Below w.heap.size w w1 := below_on ((Below.refl _ _).alloc (Nat.le_refl _) _) hb
theorem below_box2 {w w1 : World} {o o' : Obj} (hb : Below ((w.alloc o).alloc o').heap.size ((w.alloc o).alloc o') w1) : Below w.heap.size w w1 :=
  below_on (((Below.refl _ _).alloc (Nat.le_refl _) _).alloc (by simp) _) hb
theorem below_drewN {w w1 : World} {B n : Nat} (h : Below B w w1) : Below B w (w1.drewN n) := ⟨h.os, h.tape, h.output, h.size, h.block⟩
theorem ret_int {k : IntKind} {a b : Int} (h : a = b) : Ending.returned (.int k a) = .returned (.int k b) := by rw [h]
theorem ret_bool {a b : Bool} (h : a = b) : Ending.returned (.bool a) = .returned (.bool b) := by rw [h]

/-! ### A region that draws its order, reads what lies below B, and calls functions that make memory of their own: one walk of the text's order -/
/-- A world that is as w was, below block B. -/
structure Ext (w : World) (B : Nat) where
  val : World
  below : Below B w val
instance extInhabited (w : World) (B : Nat) : Nonempty (Ext w B) := ⟨⟨w, Below.refl _ _⟩⟩
theorem Ext.cell {w : World} {B : Nat} (n : Ext w B) {b o : Nat} (h : b < B) : n.val.cell? ⟨b, o, none⟩ = w.cell? ⟨b, o, none⟩ := n.below.cell (p := ⟨b, o, none⟩) h
theorem wp_region_ext {P : Program} {id : Nat} {Q : Exit → Act → World → Prop} {a : Act} {w : World} {l : List Oper} (B : Nat) (hm : P.follows .mixedOrders = true) (hB : Region.lexB .any l.toArray = true)
    (h : wpQuiet P l.toArray (fun w' => ∃ n : Ext w B, w' = n.val) (fun a' => ∀ w', (∃ n : Ext w B, w' = n.val) → Q .normal a' w') l a) : (Code.region id l.toArray true).wp P Q a w :=
  wp_region_quiet (C := fun w' => ∃ n : Ext w B, w' = n.val) hm hB ⟨⟨w.drew, (Below.refl _ _).drew⟩, rfl⟩ (by simpa using h)
theorem ext_call {P : Program} {f : FuncId} {args : Array Value} {w : World} {B : Nat} {n : Ext w B} {v : Value} (hB : B ≤ w.heap.size)
    (h : Calls P f args n.val fun e w' => e = .returned v ∧ Below n.val.heap.size n.val w') : Calls P f args n.val fun e w'' => e = .returned v ∧ ∃ m : Ext w B, w'' = m.val :=
  h.mono fun _ w' ⟨he, hb⟩ => ⟨he, ⟨w', n.below.trans (hb.mono (Nat.le_trans hB n.below.size))⟩, rfl⟩
theorem ext_same {P : Program} {f : FuncId} {args : Array Value} {w : World} {B : Nat} {n : Ext w B} {v : Value}
    (h : Calls P f args n.val fun e w' => e = .returned v ∧ n.val = w') : Calls P f args n.val fun e w'' => e = .returned v ∧ ∃ m : Ext w B, w'' = m.val :=
  h.mono fun _ _ ⟨he, hb⟩ => ⟨he, n, hb.symm⟩

/-! ### Numbers -/
theorem mul_bound {a b : Int} (ha : -16384 ≤ a) (ha' : a ≤ 16384) (hb : -16384 ≤ b) (hb' : b ≤ 16384) : -268435456 ≤ a * b ∧ a * b ≤ 268435456 := by
  have h1 : 0 ≤ (16384 - a) * (16384 - b) := Int.mul_nonneg (by omega) (by omega)
  have h2 : 0 ≤ (16384 + a) * (16384 + b) := Int.mul_nonneg (by omega) (by omega)
  have h3 : 0 ≤ (16384 - a) * (16384 + b) := Int.mul_nonneg (by omega) (by omega)
  have h4 : 0 ≤ (16384 + a) * (16384 - b) := Int.mul_nonneg (by omega) (by omega)
  simp only [Int.sub_mul, Int.add_mul, Int.mul_sub, Int.mul_add] at h1 h2 h3 h4
  generalize a * b = m at *
  omega

/-- The point lies on the screen. -/
def onS (x y : Int) : Bool := decide (0 ≤ x ∧ x ≤ 16384 ∧ 0 ≤ y ∧ y ≤ 16384)
def inRB (x0 y0 x1 y1 x2 y2 : Int) : Bool := onS x0 y0 && onS x1 y1 && onS x2 y2
theorem inRB_iff (x0 y0 x1 y1 x2 y2 : Int) : inRB x0 y0 x1 y1 x2 y2 = true ↔ (0 ≤ x0 ∧ x0 ≤ 16384 ∧ 0 ≤ y0 ∧ y0 ≤ 16384) ∧ (0 ≤ x1 ∧ x1 ≤ 16384 ∧ 0 ≤ y1 ∧ y1 ≤ 16384) ∧ (0 ≤ x2 ∧ x2 ≤ 16384 ∧ 0 ≤ y2 ∧ y2 ≤ 16384) := by
  unfold inRB onS; simp [and_assoc]
theorem inRB_yes {x0 y0 x1 y1 x2 y2 : Int} (h : (0 ≤ x0 ∧ x0 ≤ 16384 ∧ 0 ≤ y0 ∧ y0 ≤ 16384) ∧ (0 ≤ x1 ∧ x1 ≤ 16384 ∧ 0 ≤ y1 ∧ y1 ≤ 16384) ∧ (0 ≤ x2 ∧ x2 ≤ 16384 ∧ 0 ≤ y2 ∧ y2 ≤ 16384)) : Ending.returned (.bool true) = .returned (.bool (inRB x0 y0 x1 y1 x2 y2)) := by
  rw [(inRB_iff ..).2 h]
theorem inRB_no {x0 y0 x1 y1 x2 y2 : Int} (h : ¬ ((0 ≤ x0 ∧ x0 ≤ 16384 ∧ 0 ≤ y0 ∧ y0 ≤ 16384) ∧ (0 ≤ x1 ∧ x1 ≤ 16384 ∧ 0 ≤ y1 ∧ y1 ≤ 16384) ∧ (0 ≤ x2 ∧ x2 ≤ 16384 ∧ 0 ≤ y2 ∧ y2 ≤ 16384))) : Ending.returned (.bool false) = .returned (.bool (inRB x0 y0 x1 y1 x2 y2)) := by
  rw [Bool.eq_false_iff.2 (fun e => h ((inRB_iff ..).1 e))]
/-- Twice the area of a triangle on the screen, with its sign; 0 off the screen. -/
def areaI (x0 y0 x1 y1 x2 y2 : Int) : Int := if inRB x0 y0 x1 y1 x2 y2 = true then (x1 - x0) * (y2 - y0) - (y1 - y0) * (x2 - x0) else 0
theorem areaI_no {x0 y0 x1 y1 x2 y2 : Int} (h : inRB x0 y0 x1 y1 x2 y2 = false) : areaI x0 y0 x1 y1 x2 y2 = 0 := by unfold areaI; rw [if_neg (by rw [h]; simp)]
theorem areaI_yes {x0 y0 x1 y1 x2 y2 : Int} (h : inRB x0 y0 x1 y1 x2 y2 = true) : areaI x0 y0 x1 y1 x2 y2 = (x1 - x0) * (y2 - y0) - (y1 - y0) * (x2 - x0) := by unfold areaI; rw [if_pos h]
theorem areaI_bound (x0 y0 x1 y1 x2 y2 : Int) : -536870912 ≤ areaI x0 y0 x1 y1 x2 y2 ∧ areaI x0 y0 x1 y1 x2 y2 ≤ 536870912 := by
  unfold areaI
  split
  · rename_i h
    obtain ⟨⟨a1, a2, a3, a4⟩, ⟨a5, a6, a7, a8⟩, ⟨a9, a10, a11, a12⟩⟩ := (inRB_iff ..).1 h
    obtain ⟨m1, m2⟩ := mul_bound (a := x1 - x0) (b := y2 - y0) (by omega) (by omega) (by omega) (by omega)
    obtain ⟨m3, m4⟩ := mul_bound (a := y1 - y0) (b := x2 - x0) (by omega) (by omega) (by omega) (by omega)
    omega
  · omega
end Go.Proofs.Ythbagegkcpblgaa
