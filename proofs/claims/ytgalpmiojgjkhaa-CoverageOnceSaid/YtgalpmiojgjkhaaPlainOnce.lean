/- Plain facts about the division of a triangle: no program is named here. -/
import Derived.Test.YtgalpmiojgjkhaaPlainEdge
namespace Go.Proofs.Ytgalpmiojgjkhaa

/-- The division of an edge: the point m lies k steps of g on it. -/
theorem once_split {ax ay bx by' cx cy g k : Int} (hx : g ∣ cx - bx) (hy : g ∣ cy - by') (hk0 : 0 < k) (hk1 : k < g) :
    Split ax ay bx by' cx cy (bx + (cx - bx) / g * k) (by' + (cy - by') / g * k) k (g - k) := by
  obtain ⟨p, hp⟩ := hx
  obtain ⟨q, hq⟩ := hy
  have e1 : (cx - bx) / g = p := by rw [hp]; exact Int.mul_ediv_cancel_left _ (by omega)
  have e2 : (cy - by') / g = q := by rw [hq]; exact Int.mul_ediv_cancel_left _ (by omega)
  rw [e1, e2]
  exact ⟨hk0, by omega, by grind, by grind⟩
theorem once_abm {ax ay bx by' cx cy mx my al be : Int} (S : Split ax ay bx by' cx cy mx my al be) (h : 0 < ef ax ay bx by' cx cy) : 0 < ef ax ay bx by' mx my := by
  have e : (al + be) * ef ax ay bx by' mx my = al * ef ax ay bx by' cx cy := by
    have h1 := S.x; have h2 := S.y; unfold ef; grind
  have := S.pa
  have := S.pb
  exact pos_of_mul (t := al + be) (by omega) (e ▸ Int.mul_pos S.pa h)
theorem once_amc {ax ay bx by' cx cy mx my al be : Int} (S : Split ax ay bx by' cx cy mx my al be) (h : 0 < ef ax ay bx by' cx cy) : 0 < ef ax ay mx my cx cy := by
  have e : (al + be) * ef ax ay mx my cx cy = be * ef ax ay bx by' cx cy := by
    have h1 := S.x; have h2 := S.y; unfold ef; grind
  have := S.pa
  have := S.pb
  exact pos_of_mul (t := al + be) (by omega) (e ▸ Int.mul_pos S.pb h)
theorem between {al be b c m lo hi : Int} (ha : 0 < al) (hb : 0 < be) (h : (al + be) * m = be * b + al * c) (h0 : lo ≤ b) (h1 : lo ≤ c) (h2 : b ≤ hi) (h3 : c ≤ hi) : lo ≤ m ∧ m ≤ hi :=
  ⟨le_mean (u := 0) (v := be) (w := al) (a := b) (b := b) (c := c) (by omega) (by omega) (by omega) (by omega) (by grind) h0 h0 h1,
   mean_le (u := 0) (v := be) (w := al) (a := b) (b := b) (c := c) (by omega) (by omega) (by omega) (by omega) (by grind) h2 h2 h3⟩

end Go.Proofs.Ytgalpmiojgjkhaa
