/- Plain facts about the edge function: no program is named here. -/
namespace Go.Proofs.Ythbagegkcpblgaa

/-- A coordinate limited to the screen. -/
def lim (x : Int) : Int := max 0 (min x 16384)

theorem lim_lo (x : Int) : 0 ≤ lim x := by unfold lim; omega
theorem lim_hi (x : Int) : lim x ≤ 16384 := by unfold lim; omega
theorem lim_id {x : Int} (h0 : 0 ≤ x) (h1 : x ≤ 16384) : lim x = x := by unfold lim; omega
theorem lim_eq_iff (x : Int) : lim x = x ↔ 0 ≤ x ∧ x ≤ 16384 := by unfold lim; omega

/-- The edge function of three points. -/
def ef (ax ay bx by' px py : Int) : Int := (bx - ax) * (py - ay) - (by' - ay) * (px - ax)

theorem ef_swap (ax ay bx by' px py : Int) : ef bx by' ax ay px py = - ef ax ay bx by' px py := by unfold ef; grind
theorem ef_rot (ax ay bx by' px py : Int) : ef bx by' px py ax ay = ef ax ay bx by' px py := by unfold ef; grind
theorem ef_sum (ax ay bx by' cx cy px py : Int) : ef bx by' cx cy px py + ef cx cy ax ay px py + ef ax ay bx by' px py = ef ax ay bx by' cx cy := by unfold ef; grind
theorem ef_same (ax ay px py : Int) : ef ax ay ax ay px py = 0 := by unfold ef; grind
theorem ef_at0 (ax ay bx by' : Int) : ef ax ay bx by' ax ay = 0 := by unfold ef; grind
theorem ef_at1 (ax ay bx by' : Int) : ef ax ay bx by' bx by' = 0 := by unfold ef; grind

/-- A top or a left edge. -/
def tl (ax ay bx by' : Int) : Prop := by' < ay ∨ (by' = ay ∧ ax < bx)
/-- The edge accepts the point. -/
def acc (ax ay bx by' px py : Int) : Prop := 0 < ef ax ay bx by' px py ∨ (ef ax ay bx by' px py = 0 ∧ tl ax ay bx by')

theorem acc_not {ax ay bx by' px py : Int} (h : acc ax ay bx by' px py) : ¬ acc bx by' ax ay px py := by
  unfold acc tl at *
  have := ef_swap ax ay bx by' px py
  omega
theorem acc_one {ax ay bx by' : Int} (px py : Int) (h : ¬ (ax = bx ∧ ay = by')) : acc ax ay bx by' px py ∨ acc bx by' ax ay px py := by
  unfold acc tl at *
  have := ef_swap ax ay bx by' px py
  omega
theorem acc_ne {ax ay bx by' px py : Int} (h : acc ax ay bx by' px py) : ¬ (ax = bx ∧ ay = by') := by
  rintro ⟨rfl, rfl⟩
  exact acc_not h h
theorem acc_nonneg {ax ay bx by' px py : Int} (h : acc ax ay bx by' px py) : 0 ≤ ef ax ay bx by' px py := by
  unfold acc at h; omega

theorem acc_tl {ax ay bx by' px py : Int} (h : acc ax ay bx by' px py) (hz : ef ax ay bx by' px py = 0) : tl ax ay bx by' := by
  rcases h with h | h
  · omega
  · exact h.2

/-- The weighted mean of the vertices is the point. -/
theorem ef_mean_x (ax ay bx by' cx cy px py : Int) : ef bx by' cx cy px py * ax + ef cx cy ax ay px py * bx + ef ax ay bx by' px py * cx = ef ax ay bx by' cx cy * px := by unfold ef; grind
theorem ef_mean_y (ax ay bx by' cx cy px py : Int) : ef bx by' cx cy px py * ay + ef cx cy ax ay px py * by' + ef ax ay bx by' px py * cy = ef ax ay bx by' cx cy * py := by unfold ef; grind

theorem mean_le {u v w a b c m p : Int} (hu : 0 ≤ u) (hv : 0 ≤ v) (hw : 0 ≤ w) (hs : 0 < u + v + w) (h : u * a + v * b + w * c = (u + v + w) * p) (ha : a ≤ m) (hb : b ≤ m) (hc : c ≤ m) : p ≤ m := by
  have h1 := Int.mul_nonneg hu (show 0 ≤ m - a by omega)
  have h2 := Int.mul_nonneg hv (show 0 ≤ m - b by omega)
  have h3 := Int.mul_nonneg hw (show 0 ≤ m - c by omega)
  have h4 : 0 ≤ (u + v + w) * (m - p) := by
    have e : (u + v + w) * (m - p) = u * (m - a) + v * (m - b) + w * (m - c) := by grind
    omega
  by_cases hp : p ≤ m
  · exact hp
  · have h5 : (u + v + w) * (m - p) ≤ (u + v + w) * (-1) := Int.mul_le_mul_of_nonneg_left (by omega) (by omega)
    omega
theorem le_mean {u v w a b c m p : Int} (hu : 0 ≤ u) (hv : 0 ≤ v) (hw : 0 ≤ w) (hs : 0 < u + v + w) (h : u * a + v * b + w * c = (u + v + w) * p) (ha : m ≤ a) (hb : m ≤ b) (hc : m ≤ c) : m ≤ p := by
  have := mean_le (a := -a) (b := -b) (c := -c) (m := -m) (p := -p) hu hv hw hs (by grind) (by omega) (by omega) (by omega)
  omega

/-- All three edges accept the point. -/
def cov (ax ay bx by' cx cy px py : Int) : Prop := acc ax ay bx by' px py ∧ acc bx by' cx cy px py ∧ acc cx cy ax ay px py

theorem cov_rot (ax ay bx by' cx cy px py : Int) : cov bx by' cx cy ax ay px py ↔ cov ax ay bx by' cx cy px py := by
  unfold cov
  constructor
  · rintro ⟨h1, h2, h3⟩; exact ⟨h3, h1, h2⟩
  · rintro ⟨h1, h2, h3⟩; exact ⟨h2, h3, h1⟩

theorem cov_box {ax ay bx by' cx cy px py : Int} (h : 0 < ef ax ay bx by' cx cy) (hc : cov ax ay bx by' cx cy px py) :
    min ax (min bx cx) ≤ px ∧ px ≤ max ax (max bx cx) ∧ min ay (min by' cy) ≤ py ∧ py ≤ max ay (max by' cy) := by
  obtain ⟨h1, h2, h3⟩ := hc
  have k1 := acc_nonneg h1
  have k2 := acc_nonneg h2
  have k3 := acc_nonneg h3
  have hs := ef_sum ax ay bx by' cx cy px py
  have mx := ef_mean_x ax ay bx by' cx cy px py
  have my := ef_mean_y ax ay bx by' cx cy px py
  rw [← hs] at mx my h
  exact ⟨le_mean k2 k3 k1 h mx (by omega) (by omega) (by omega), mean_le k2 k3 k1 h mx (by omega) (by omega) (by omega), le_mean k2 k3 k1 h my (by omega) (by omega) (by omega), mean_le k2 k3 k1 h my (by omega) (by omega) (by omega)⟩

/-! ### The split of a triangle -/

theorem pos_of_mul {t x : Int} (ht : 0 < t) (h : 0 < t * x) : 0 < x := by
  by_cases hx : 0 < x
  · exact hx
  · have := Int.mul_le_mul_of_nonneg_left (show x ≤ 0 by omega) (show 0 ≤ t by omega)
    omega
theorem zero_of_mul {t x : Int} (ht : 0 < t) (h : t * x = 0) : x = 0 := by
  rcases Int.mul_eq_zero.1 h with h | h <;> omega

/-- Two numbers in proportion have the same sign. -/
theorem prop_sign {t a x y : Int} (ht : 0 < t) (ha : 0 < a) (h : t * x = a * y) : (0 < x ↔ 0 < y) ∧ (x = 0 ↔ y = 0) := by
  refine ⟨⟨fun hx => pos_of_mul ha (h ▸ Int.mul_pos ht hx), fun hy => pos_of_mul ht (h ▸ Int.mul_pos ha hy)⟩, ⟨fun hx => ?_, fun hy => ?_⟩⟩
  · subst hx; exact zero_of_mul ha (by rw [← h]; simp)
  · subst hy; exact zero_of_mul ht (by rw [h]; simp)

/-- A direction is one of a top or a left edge. -/
def dir (dx dy : Int) : Prop := dy < 0 ∨ (dy = 0 ∧ 0 < dx)
theorem tl_dir (ax ay bx by' : Int) : tl ax ay bx by' ↔ dir (bx - ax) (by' - ay) := by unfold tl dir; omega
theorem dir_prop {t a dx dy ex ey : Int} (ht : 0 < t) (ha : 0 < a) (hx : t * dx = a * ex) (hy : t * dy = a * ey) : dir dx dy ↔ dir ex ey := by
  have px := prop_sign ht ha hx
  have py := prop_sign ht ha hy
  unfold dir
  omega
theorem dir_add {dx dy ex ey s t u fx fy : Int} (hs : 0 < s) (ht : 0 < t) (hu : 0 < u) (h1 : dir dx dy) (h2 : dir ex ey) (hx : u * fx = s * dx + t * ex) (hy : u * fy = s * dy + t * ey) : dir fx fy := by
  unfold dir at *
  have n1 : dy < 0 → s * dy < 0 := fun h => Int.mul_neg_of_pos_of_neg hs h
  have n2 : ey < 0 → t * ey < 0 := fun h => Int.mul_neg_of_pos_of_neg ht h
  have z1 : dy = 0 → s * dy = 0 := fun h => by rw [h]; simp
  have z2 : ey = 0 → t * ey = 0 := fun h => by rw [h]; simp
  have p1 : 0 < dx → 0 < s * dx := fun h => Int.mul_pos hs h
  have p2 : 0 < ex → 0 < t * ex := fun h => Int.mul_pos ht h
  have q1 : 0 < u * fx → 0 < fx := pos_of_mul hu
  have q2 : u * fy = 0 → fy = 0 := zero_of_mul hu
  have q3 : u * fy < 0 → fy < 0 := fun h => by
    have := pos_of_mul hu (x := -fy) (by rw [Int.mul_neg]; omega)
    omega
  generalize u * fx = ufx at *
  generalize u * fy = ufy at *
  generalize s * dx = sdx at *
  generalize s * dy = sdy at *
  generalize t * ex = tex at *
  generalize t * ey = tey at *
  rcases h1 with h1 | ⟨h1, h1'⟩ <;> rcases h2 with h2 | ⟨h2, h2'⟩
  · have := n1 h1; have := n2 h2; exact .inl (q3 (by omega))
  · have := n1 h1; have := z2 h2; exact .inl (q3 (by omega))
  · have := z1 h1; have := n2 h2; exact .inl (q3 (by omega))
  · have := z1 h1; have := z2 h2; have := p1 h1'; have := p2 h2'; exact .inr ⟨q2 (by omega), q1 (by omega)⟩

/-- The point m of the edge from b to c, in proportion. -/
structure Split (ax ay bx by' cx cy mx my : Int) (al be : Int) : Prop where
  pa : 0 < al
  pb : 0 < be
  x : (al + be) * mx = be * bx + al * cx
  y : (al + be) * my = be * by' + al * cy

theorem split_of {ax ay bx by' cx cy mx my : Int} (hu : 0 < ef ax ay bx by' mx my) (hv : 0 < ef ax ay mx my cx cy) (hm : ef bx by' cx cy mx my = 0) :
    Split ax ay bx by' cx cy mx my (ef ax ay bx by' mx my) (ef ax ay mx my cx cy) := by
  have e : ef cx cy ax ay mx my = ef ax ay mx my cx cy := (ef_rot mx my cx cy ax ay).trans (ef_rot ax ay mx my cx cy)
  have hs := ef_sum ax ay bx by' cx cy mx my
  have hx := ef_mean_x ax ay bx by' cx cy mx my
  have hy := ef_mean_y ax ay bx by' cx cy mx my
  rw [← hs, hm, e] at hx hy
  exact ⟨hu, hv, by grind, by grind⟩

variable {ax ay bx by' cx cy mx my al be : Int}

theorem split_bm (S : Split ax ay bx by' cx cy mx my al be) (px py : Int) : (al + be) * ef bx by' mx my px py = al * ef bx by' cx cy px py := by
  have h1 := S.x; have h2 := S.y; unfold ef; grind
theorem split_mc (S : Split ax ay bx by' cx cy mx my al be) (px py : Int) : (al + be) * ef mx my cx cy px py = be * ef bx by' cx cy px py := by
  have hx : (al + be) * (cx - mx) = be * (cx - bx) := by have := S.x; grind
  have hy : (al + be) * (cy - my) = be * (cy - by') := by have := S.y; grind
  have e1 : ef mx my cx cy px py = (cx - mx) * (py - cy) - (cy - my) * (px - cx) := by unfold ef; grind
  have e2 : ef bx by' cx cy px py = (cx - bx) * (py - cy) - (cy - by') * (px - cx) := by unfold ef; grind
  rw [e1, e2]; grind
theorem split_am (S : Split ax ay bx by' cx cy mx my al be) (px py : Int) : (al + be) * ef ax ay mx my px py = be * ef ax ay bx by' px py - al * ef cx cy ax ay px py := by
  have h1 := S.x; have h2 := S.y; unfold ef; grind

theorem acc_bm (S : Split ax ay bx by' cx cy mx my al be) (px py : Int) : acc bx by' mx my px py ↔ acc bx by' cx cy px py := by
  have hab : 0 < al + be := by have := S.pa; have := S.pb; omega
  have hs := prop_sign hab S.pa (split_bm S px py)
  have hd := dir_prop (dx := mx - bx) (dy := my - by') (ex := cx - bx) (ey := cy - by') hab S.pa (by have := S.x; grind) (by have := S.y; grind)
  unfold acc
  rw [tl_dir, tl_dir, hd, hs.1, hs.2]
theorem acc_mc (S : Split ax ay bx by' cx cy mx my al be) (px py : Int) : acc mx my cx cy px py ↔ acc bx by' cx cy px py := by
  have hab : 0 < al + be := by have := S.pa; have := S.pb; omega
  have hs := prop_sign hab S.pb (split_mc S px py)
  have hd := dir_prop (dx := cx - mx) (dy := cy - my) (ex := cx - bx) (ey := cy - by') hab S.pb (by have := S.x; grind) (by have := S.y; grind)
  unfold acc
  rw [tl_dir, tl_dir, hd, hs.1, hs.2]

theorem acc_ab_of (S : Split ax ay bx by' cx cy mx my al be) {px py : Int} (h1 : acc ax ay mx my px py) (h2 : acc cx cy ax ay px py) : acc ax ay bx by' px py := by
  have hab : 0 < al + be := by have := S.pa; have := S.pb; omega
  have e := split_am S px py
  have k1 := Int.mul_nonneg (show 0 ≤ al + be by omega) (acc_nonneg h1)
  have k2 := Int.mul_nonneg (show 0 ≤ al by have := S.pa; omega) (acc_nonneg h2)
  by_cases hp : 0 < be * ef ax ay bx by' px py
  · exact .inl (pos_of_mul S.pb hp)
  · have z : be * ef ax ay bx by' px py = 0 := by omega
    have z1 : (al + be) * ef ax ay mx my px py = 0 := by omega
    have z2 : al * ef cx cy ax ay px py = 0 := by omega
    have z1 := zero_of_mul hab z1
    have z2 := zero_of_mul S.pa z2
    refine .inr ⟨zero_of_mul S.pb z, ?_⟩
    have t1 : dir (mx - ax) (my - ay) := (tl_dir ..).1 (acc_tl h1 z1)
    have t2 : dir (ax - cx) (ay - cy) := (tl_dir ..).1 (acc_tl h2 z2)
    exact (tl_dir ..).2 (dir_add hab S.pa S.pb t1 t2 (by have := S.x; grind) (by have := S.y; grind))

theorem acc_ca_of (S : Split ax ay bx by' cx cy mx my al be) {px py : Int} (h1 : acc mx my ax ay px py) (h2 : acc ax ay bx by' px py) : acc cx cy ax ay px py := by
  have hab : 0 < al + be := by have := S.pa; have := S.pb; omega
  have e := split_am S px py
  have sw := ef_swap mx my ax ay px py
  have k1 := Int.mul_nonneg (show 0 ≤ al + be by omega) (acc_nonneg h1)
  have k2 := Int.mul_nonneg (show 0 ≤ be by have := S.pb; omega) (acc_nonneg h2)
  rw [sw, Int.mul_neg] at e
  by_cases hp : 0 < al * ef cx cy ax ay px py
  · exact .inl (pos_of_mul S.pa hp)
  · have z : al * ef cx cy ax ay px py = 0 := by omega
    have z1 : (al + be) * ef mx my ax ay px py = 0 := by omega
    have z2 : be * ef ax ay bx by' px py = 0 := by omega
    have z1 := zero_of_mul hab z1
    have z2 := zero_of_mul S.pb z2
    refine .inr ⟨zero_of_mul S.pa z, ?_⟩
    have t1 : dir (ax - mx) (ay - my) := (tl_dir ..).1 (acc_tl h1 z1)
    have t2 : dir (bx - ax) (by' - ay) := (tl_dir ..).1 (acc_tl h2 z2)
    exact (tl_dir ..).2 (dir_add hab S.pb S.pa t1 t2 (by have := S.x; grind) (by have := S.y; grind))

/-- THE SPLIT: a point is covered by the whole exactly if it is covered by one of the parts, and never by both. -/
theorem cov_split (S : Split ax ay bx by' cx cy mx my al be) (hne : ¬ (ax = mx ∧ ay = my)) (px py : Int) :
    (cov ax ay bx by' cx cy px py ↔ (cov ax ay bx by' mx my px py ∨ cov ax ay mx my cx cy px py)) ∧ ¬ (cov ax ay bx by' mx my px py ∧ cov ax ay mx my cx cy px py) := by
  unfold cov
  rw [acc_bm S, acc_mc S]
  have hone := acc_one px py hne
  have hnot : ¬ (acc mx my ax ay px py ∧ acc ax ay mx my px py) := fun h => acc_not h.1 h.2
  have h1 := fun h1 h2 => acc_ab_of S (px := px) (py := py) h1 h2
  have h2 := fun h1 h2 => acc_ca_of S (px := px) (py := py) h1 h2
  generalize acc ax ay bx by' px py = ab at *
  generalize acc bx by' cx cy px py = bc at *
  generalize acc cx cy ax ay px py = ca at *
  generalize acc mx my ax ay px py = ma at *
  generalize acc ax ay mx my px py = am at *
  constructor
  · constructor
    · rintro ⟨a, b, c⟩
      rcases hone with h | h
      · exact .inr ⟨h, b, c⟩
      · exact .inl ⟨a, b, h⟩
    · rintro (⟨a, b, c⟩ | ⟨a, b, c⟩)
      · exact ⟨a, b, h2 c a⟩
      · exact ⟨h1 a c, b, c⟩
  · rintro ⟨⟨_, _, a⟩, ⟨b, _, _⟩⟩
    exact hnot ⟨a, b⟩

end Go.Proofs.Ythbagegkcpblgaa
