/- Plain facts about fixed-point numbers: no program is named here. -/
namespace Go.Proofs.Ythbagegkcpblgaa

/-- x limited to [lo, hi]. -/
def clampI (x lo hi : Int) : Int := max (min x hi) lo
/-- x limited to [-MaxValue, MaxValue]. -/
def sat (x : Int) : Int := max (min x 536870911) (-536870911)
theorem sat_lo (x : Int) : -536870911 ≤ sat x := by unfold sat; omega
theorem sat_hi (x : Int) : sat x ≤ 536870911 := by unfold sat; omega
theorem sat_id {x : Int} (h0 : -536870911 ≤ x) (h1 : x ≤ 536870911) : sat x = x := by unfold sat; omega
theorem sat_sat (x : Int) : sat (sat x) = sat x := sat_id (sat_lo x) (sat_hi x)
def fadd (a b : Int) : Int := sat (sat a + sat b)
def fsub (a b : Int) : Int := sat (sat a - sat b)

/-- The greatest argument of RoundDiv. -/
def big : Int := 4611686018427387904
/-- n/d for n that is not negative, rounded to the nearest integer. -/
def rdp (n d : Int) : Int := (2 * n + d) / (2 * d)
def rd (n d : Int) : Int := if d < 1 ∨ big < d ∨ n < -big ∨ big < n then 0 else if n < 0 then - rdp (-n) d else rdp n d
def fmul (a b : Int) : Int := sat (rd (sat a * sat b) 65536)
def ratio (n d : Int) : Int := if d < 1 ∨ big < d ∨ n < 1 then 0 else if d ≤ n then 65536 else if d < 70368744177664 then rd (n * 65536) d else min 65536 (rd n (rd d 65536))
def mixI (w0 w1 a b c : Int) : Int := fadd c (fadd (fmul w0 (fsub a c)) (fmul w1 (fsub b c)))

theorem div_of_bounds {a b q : Int} (hb : 0 < b) (h0 : q * b ≤ a) (h1 : a < (q + 1) * b) : a / b = q := by
  have e1 := Int.le_ediv_iff_mul_le (a := q) (b := a) hb
  have e2 := Int.ediv_lt_iff_lt_mul (a := a) (b := q + 1) hb
  have := e1.2 h0
  have := e2.2 h1
  omega

theorem mul_le_of (a b c : Int) (ha : 0 ≤ a) (h : b ≤ c) : a * b ≤ a * c := Int.mul_le_mul_of_nonneg_left h ha

theorem rdp_bounds {n d : Int} (hd : 0 < d) : 2 * (rdp n d * d) ≤ 2 * n + d ∧ 2 * n + d < 2 * (rdp n d * d) + 2 * d := by
  have h1 := Int.ediv_mul_add_emod (2 * n + d) (2 * d)
  have h2 := Int.emod_nonneg (2 * n + d) (show 2 * d ≠ 0 by omega)
  have h3 := Int.emod_lt_of_pos (2 * n + d) (show 0 < 2 * d by omega)
  unfold rdp
  have e : (2 * n + d) / (2 * d) * (2 * d) = 2 * ((2 * n + d) / (2 * d) * d) := by grind
  rw [e] at h1
  omega

theorem rdp_unique {n d q : Int} (hd : 0 < d) (h0 : 2 * (q * d) ≤ 2 * n + d) (h1 : 2 * n + d < 2 * (q * d) + 2 * d) : rdp n d = q := by
  unfold rdp
  exact div_of_bounds (by omega) (by grind) (by grind)

theorem rdp_nonneg {n d : Int} (hn : 0 ≤ n) (hd : 0 < d) : 0 ≤ rdp n d := Int.ediv_nonneg (by omega) (by omega)

/-- With quotient and remainder. -/
theorem rdp_mod {n d : Int} (hd : 0 < d) : rdp n d = if n % d ≥ d - n % d then n / d + 1 else n / d := by
  have h1 := Int.ediv_mul_add_emod n d
  have h2 := Int.emod_nonneg n (show d ≠ 0 by omega)
  have h3 := Int.emod_lt_of_pos n hd
  split
  · refine rdp_unique hd ?_ ?_
    · have : (n / d + 1) * d = n / d * d + d := by grind
      omega
    · have : (n / d + 1) * d = n / d * d + d := by grind
      omega
  · refine rdp_unique hd ?_ ?_ <;> omega

theorem rdp_zero {d : Int} (hd : 0 < d) : rdp 0 d = 0 := rdp_unique hd (by omega) (by omega)
theorem rd_zero (d : Int) : rd 0 d = 0 := by
  unfold rd
  split
  · rfl
  · rename_i h
    rw [if_neg (by omega)]
    exact rdp_zero (by unfold big at h; omega)

theorem fsub_self (a : Int) : fsub a a = 0 := by unfold fsub; rw [Int.sub_self]; rfl
theorem fmul_zero (w : Int) : fmul w 0 = 0 := by
  unfold fmul
  have : sat 0 = 0 := rfl
  rw [this, Int.mul_zero, rd_zero]; rfl
theorem fmul_zero_left (w : Int) : fmul 0 w = 0 := by
  unfold fmul
  have : sat 0 = 0 := rfl
  rw [this, Int.zero_mul, rd_zero]; rfl
theorem fadd_zero (a : Int) : fadd a 0 = sat a := by
  unfold fadd
  have : sat 0 = 0 := rfl
  rw [this, Int.add_zero, sat_sat]
theorem mix_same (w0 w1 a : Int) : mixI w0 w1 a a a = sat a := by
  unfold mixI
  rw [fsub_self, fmul_zero, fmul_zero]
  exact fadd_zero a

theorem rd_mul_one (x : Int) (h0 : -536870911 ≤ x) (h1 : x ≤ 536870911) : rd (65536 * x) 65536 = x := by
  unfold rd big
  rw [if_neg (by omega)]
  split
  · have : rdp (-(65536 * x)) 65536 = -x := rdp_unique (by omega) (by omega) (by omega)
    omega
  · exact rdp_unique (by omega) (by omega) (by omega)
theorem fmul_one (x : Int) : fmul 65536 x = sat x := by
  unfold fmul
  have : sat 65536 = 65536 := rfl
  rw [this, rd_mul_one _ (sat_lo x) (sat_hi x), sat_sat]

/-- Numbers whose differences are not saturated. -/
def small (x : Int) : Prop := -268435455 ≤ x ∧ x ≤ 268435455
theorem mix_first {a b c : Int} (ha : small a) (hc : small c) : mixI 65536 0 a b c = a := by
  unfold small at *
  unfold mixI
  rw [fmul_one, fmul_zero_left, fadd_zero]
  unfold fsub fadd
  rw [sat_id (x := a) (by omega) (by omega), sat_id (x := c) (by omega) (by omega)]
  rw [sat_id (x := a - c) (by omega) (by omega), sat_id (x := a - c) (by omega) (by omega), sat_id (x := a - c) (by omega) (by omega), sat_id (x := a - c) (by omega) (by omega)]
  rw [show c + (a - c) = a by omega]
  exact sat_id (by omega) (by omega)
theorem mix_second {a b c : Int} (hb : small b) (hc : small c) : mixI 0 65536 a b c = b := by
  unfold small at *
  unfold mixI
  rw [fmul_one, fmul_zero_left]
  unfold fsub fadd
  rw [sat_id (x := b) (by omega) (by omega), sat_id (x := c) (by omega) (by omega)]
  rw [show sat 0 = 0 from rfl, Int.zero_add]
  rw [sat_id (x := b - c) (by omega) (by omega), sat_id (x := b - c) (by omega) (by omega), sat_id (x := b - c) (by omega) (by omega), sat_id (x := b - c) (by omega) (by omega), sat_id (x := b - c) (by omega) (by omega)]
  rw [show c + (b - c) = b by omega]
  exact sat_id (by omega) (by omega)
theorem mix_third {a b c : Int} (hc : small c) : mixI 0 0 a b c = c := by
  unfold small at *
  unfold mixI
  rw [fmul_zero_left, fmul_zero_left, show fadd 0 0 = 0 from rfl, fadd_zero]
  exact sat_id (by omega) (by omega)

/-! ### Ratio -/
theorem ratio_one {d : Int} (h0 : 0 < d) (h1 : d ≤ big) : ratio d d = 65536 := by
  unfold ratio
  rw [if_neg (by omega), if_pos (Int.le_refl d)]
theorem ratio_zero (d : Int) : ratio 0 d = 0 := by
  unfold ratio
  rw [if_pos (by omega)]

theorem rd_eq {n d : Int} (hd : 0 < d) (hd' : d ≤ big) (hn : 0 ≤ n) (hn' : n ≤ big) : rd n d = rdp n d := by
  unfold rd
  rw [if_neg (by unfold big at *; omega), if_neg (by omega)]

theorem rdp_le {n d : Int} (hd : 0 < d) (k : Int) (h : n ≤ k * d) : rdp n d ≤ k := by
  have h1 := (rdp_bounds (n := n) hd).1
  by_cases hk : rdp n d ≤ k
  · exact hk
  · have h2 : (k + 1) * d ≤ rdp n d * d := Int.mul_le_mul_of_nonneg_right (by omega) (by omega)
    have h3 : (k + 1) * d = k * d + d := by grind
    omega

theorem ratio_lo (n d : Int) : 0 ≤ ratio n d := by
  unfold ratio
  split
  · omega
  · rename_i h
    have h : 1 ≤ d ∧ d ≤ big ∧ 1 ≤ n := by omega
    obtain ⟨h1, h2, h3⟩ := h
    split
    · omega
    · split
      · rw [rd_eq (by omega) h2 (by omega) (by unfold big at *; omega)]
        exact rdp_nonneg (by omega) (by omega)
      · have hb : rd d 65536 = rdp d 65536 := rd_eq (by omega) (by unfold big; omega) (by omega) h2
        have hp := rdp_bounds (n := d) (d := 65536) (by omega)
        rw [hb, rd_eq (n := n) (by omega) (by unfold big at *; omega) (by omega) (by omega)]
        have := rdp_nonneg (n := n) (d := rdp d 65536) (by omega) (by omega)
        omega
theorem ratio_hi (n d : Int) : ratio n d ≤ 65536 := by
  unfold ratio
  split
  · omega
  · rename_i h
    have h : 1 ≤ d ∧ d ≤ big ∧ 1 ≤ n := by omega
    obtain ⟨h1, h2, h3⟩ := h
    split
    · omega
    · split
      · rw [rd_eq (by omega) h2 (by omega) (by unfold big at *; omega)]
        exact rdp_le (by omega) _ (by rw [Int.mul_comm]; omega)
      · omega

/-- Two parts of a sum: their ratios exceed One by at most one unit. -/
theorem ratio_sum {a b d : Int} (ha : 0 ≤ a) (hb : 0 ≤ b) (hd : a + b ≤ d) (hbig : d ≤ big) : ratio a d + ratio b d ≤ 65537 := by
  by_cases ha0 : a < 1
  · have : ratio a d = 0 := by unfold ratio; rw [if_pos (by omega)]
    have := ratio_hi b d
    omega
  by_cases hb0 : b < 1
  · have : ratio b d = 0 := by unfold ratio; rw [if_pos (by omega)]
    have := ratio_hi a d
    omega
  have ea : ratio a d = if d < 70368744177664 then rd (a * 65536) d else min 65536 (rd a (rd d 65536)) := by
    unfold ratio; rw [if_neg (by omega), if_neg (by omega)]
  have eb : ratio b d = if d < 70368744177664 then rd (b * 65536) d else min 65536 (rd b (rd d 65536)) := by
    unfold ratio; rw [if_neg (by omega), if_neg (by omega)]
  rw [ea, eb]
  by_cases hbd : d < 70368744177664
  · rw [if_pos hbd, if_pos hbd, rd_eq (by omega) hbig (by omega) (by unfold big at *; omega), rd_eq (by omega) hbig (by omega) (by unfold big at *; omega)]
    have h1 := (rdp_bounds (n := a * 65536) (d := d) (by omega)).1
    have h2 := (rdp_bounds (n := b * 65536) (d := d) (by omega)).1
    generalize rdp (a * 65536) d = x at *
    generalize rdp (b * 65536) d = y at *
    by_cases hk : x + y ≤ 65537
    · exact hk
    · have h3 : 65538 * d ≤ (x + y) * d := Int.mul_le_mul_of_nonneg_right (by omega) (by omega)
      have h4 : (x + y) * d = x * d + y * d := by grind
      omega
  · rw [if_neg hbd, if_neg hbd]
    have e : rd d 65536 = rdp d 65536 := rd_eq (by omega) (by unfold big; omega) (by omega) hbig
    have hp := rdp_bounds (n := d) (d := 65536) (by omega)
    rw [e, rd_eq (n := a) (by omega) (by unfold big at *; omega) (by omega) (by omega), rd_eq (n := b) (by omega) (by unfold big at *; omega) (by omega) (by omega)]
    generalize hD : rdp d 65536 = D at *
    have h1 := (rdp_bounds (n := a) (d := D) (by omega)).1
    have h2 := (rdp_bounds (n := b) (d := D) (by omega)).1
    generalize rdp a D = x at *
    generalize rdp b D = y at *
    by_cases hk : x + y ≤ 65537
    · omega
    · have h3 : 65538 * D ≤ (x + y) * D := Int.mul_le_mul_of_nonneg_right (by omega) (by omega)
      have h4 : (x + y) * D = x * D + y * D := by grind
      omega

end Go.Proofs.Ythbagegkcpblgaa
