/- Joined texts. -/
import Derived.Test.YtbgifinfflehmaaDoorPoS

/- The points of two convex polygons that are nearest to each other. -/
namespace Go.Proofs.YtbgifinfflehmaaDoor
open Go.RowKit
set_option linter.unusedVariables false
set_option linter.unusedSimpArgs false

/-! ### the points that are nearest to each other -/
theorem sum_sq_zero {x y : Rat} (h : x * x + y * y ≤ 0) : x = 0 ∧ y = 0 := by
  have := sq_nn x; have := sq_nn y
  constructor
  · by_cases hx : x = 0
    · exact hx
    · have := sq_ps hx; grind
  · by_cases hy : y = 0
    · exact hy
    · have := sq_ps hy; grind
theorem te_symm (x y ax ay bx by_ : Rat) : teQ x y ax ay bx by_ = teQ x y bx by_ ax ay := by
  unfold teQ
  obtain ⟨T, hT⟩ : ∃ T, (x - ax) * (bx - ax) + (y - ay) * (by_ - ay) = T := ⟨_, rfl⟩
  obtain ⟨Z, hZ⟩ : ∃ Z, (bx - ax) * (bx - ax) + (by_ - ay) * (by_ - ay) = Z := ⟨_, rfl⟩
  have e1 : (x - bx) * (ax - bx) + (y - by_) * (ay - by_) = Z - T := by rw [← hT, ← hZ]; grind
  have e2 : (ax - bx) * (ax - bx) + (ay - by_) * (ay - by_) = Z := by rw [← hZ]; grind
  have e3 : ((ax - bx) * (y - by_) - (ay - by_) * (x - bx)) * ((ax - bx) * (y - by_) - (ay - by_) * (x - bx)) = ((bx - ax) * (y - ay) - (by_ - ay) * (x - ax)) * ((bx - ax) * (y - ay) - (by_ - ay) * (x - ax)) := by grind
  rw [hT, hZ, e1, e2, e3]
  by_cases h1 : T ≤ 0
  · rw [if_pos h1]
    by_cases h2 : Z - T ≤ 0
    · rw [if_pos h2]
      have hz : Z ≤ 0 := by grind
      rw [← hZ] at hz
      obtain ⟨u, v⟩ := sum_sq_zero hz
      have : bx = ax := by grind
      have : by_ = ay := by grind
      subst bx; subst by_; rfl
    · rw [if_neg h2, if_pos (by grind)]
  · rw [if_neg h1]
    by_cases h2 : Z ≤ T
    · rw [if_pos h2, if_pos (by grind)]
    · rw [if_neg h2, if_neg (by grind), if_neg (by grind)]
theorem le_div {x y z : Rat} (hy : 0 < y) (h : x * y ≤ z) : x ≤ z / y := by
  have e : z / y * y = z := Rat.div_mul_cancel (by grind)
  rcases rat_tri x (z / y) with h1 | h1 | h1
  · grind
  · grind
  · have := Rat.mul_lt_mul_of_pos_right h1 hy; grind
theorem div_le {x y z : Rat} (hy : 0 < y) (h : z ≤ x * y) : z / y ≤ x := by
  have e : z / y * y = z := Rat.div_mul_cancel (by grind)
  rcases rat_tri (z / y) x with h1 | h1 | h1
  · grind
  · grind
  · have := Rat.mul_lt_mul_of_pos_right h1 hy; grind
theorem te_le {x y ax ay bx by_ s : Rat} (h0 : 0 ≤ s) (h1 : s ≤ 1) : teQ x y ax ay bx by_ ≤ (x - (ax + s * (bx - ax))) * (x - (ax + s * (bx - ax))) + (y - (ay + s * (by_ - ay))) * (y - (ay + s * (by_ - ay))) := by
  unfold teQ
  obtain ⟨T, hT⟩ : ∃ T, (x - ax) * (bx - ax) + (y - ay) * (by_ - ay) = T := ⟨_, rfl⟩
  obtain ⟨Z, hZ⟩ : ∃ Z, (bx - ax) * (bx - ax) + (by_ - ay) * (by_ - ay) = Z := ⟨_, rfl⟩
  obtain ⟨D, hD⟩ : ∃ D, (x - ax) * (x - ax) + (y - ay) * (y - ay) = D := ⟨_, rfl⟩
  have hZ0 : 0 ≤ Z := by rw [← hZ]; have := sq_nn (bx - ax); have := sq_nn (by_ - ay); grind
  have e : (x - (ax + s * (bx - ax))) * (x - (ax + s * (bx - ax))) + (y - (ay + s * (by_ - ay))) * (y - (ay + s * (by_ - ay))) = D - (s * T + s * T) + s * s * Z := by rw [← hD, ← hT, ← hZ]; grind
  have eb : (x - bx) * (x - bx) + (y - by_) * (y - by_) = D - (T + T) + Z := by rw [← hD, ← hT, ← hZ]; grind
  have ec : ((bx - ax) * (y - ay) - (by_ - ay) * (x - ax)) * ((bx - ax) * (y - ay) - (by_ - ay) * (x - ax)) = Z * D - T * T := by rw [← hD, ← hT, ← hZ]; grind
  rw [hT, hZ, hD, e, eb, ec]
  have q1 := mul_nn (mul_nn h0 h0) hZ0
  by_cases c1 : T ≤ 0
  · rw [if_pos c1]
    have := mul_np h0 c1
    grind
  · rw [if_neg c1]
    by_cases c2 : Z ≤ T
    · rw [if_pos c2]
      -- (1 - s) (2 T - Z (1 + s)) is not negative
      have := mul_nn (show 0 ≤ 1 - s by grind) (show 0 ≤ T - Z by grind)
      have := mul_nn (mul_nn (show 0 ≤ 1 - s by grind) (show 0 ≤ 1 - s by grind)) hZ0
      grind
    · rw [if_neg c2]
      refine div_le (by grind) ?_
      have := sq_nn (T - s * Z)
      grind
/-- a point and the end of a segment: nearer if the segment goes its way -/
theorem te_lt {x y ax ay bx by_ : Rat} (h : 0 < (x - ax) * (bx - ax) + (y - ay) * (by_ - ay)) : teQ x y ax ay bx by_ < (x - ax) * (x - ax) + (y - ay) * (y - ay) := by
  unfold teQ
  obtain ⟨T, hT⟩ : ∃ T, (x - ax) * (bx - ax) + (y - ay) * (by_ - ay) = T := ⟨_, rfl⟩
  obtain ⟨Z, hZ⟩ : ∃ Z, (bx - ax) * (bx - ax) + (by_ - ay) * (by_ - ay) = Z := ⟨_, rfl⟩
  obtain ⟨D, hD⟩ : ∃ D, (x - ax) * (x - ax) + (y - ay) * (y - ay) = D := ⟨_, rfl⟩
  have eb : (x - bx) * (x - bx) + (y - by_) * (y - by_) = D - (T + T) + Z := by rw [← hD, ← hT, ← hZ]; grind
  have ec : ((bx - ax) * (y - ay) - (by_ - ay) * (x - ax)) * ((bx - ax) * (y - ay) - (by_ - ay) * (x - ax)) = Z * D - T * T := by rw [← hD, ← hT, ← hZ]; grind
  rw [hT] at h
  rw [hT, hZ, hD, eb, ec, if_neg (by grind)]
  by_cases c2 : Z ≤ T
  · rw [if_pos c2]; grind
  · rw [if_neg c2]
    have hTT := Rat.mul_pos h h
    have hZp : 0 < Z := by grind
    have e : (Z * D - T * T) / Z * Z = Z * D - T * T := Rat.div_mul_cancel (by grind)
    rcases rat_tri ((Z * D - T * T) / Z) D with h1 | h1 | h1
    · exact h1
    · rw [h1] at e; grind
    · have := Rat.mul_lt_mul_of_pos_right h1 hZp; grind
/-- what the nearest points are: an end of the segment, or a point between -/
theorem te_is (x y ax ay bx by_ : Rat) : teQ x y ax ay bx by_ = (x - ax) * (x - ax) + (y - ay) * (y - ay) ∨ teQ x y ax ay bx by_ = (x - bx) * (x - bx) + (y - by_) * (y - by_) ∨
    (0 < (x - ax) * (bx - ax) + (y - ay) * (by_ - ay) ∧ (x - ax) * (bx - ax) + (y - ay) * (by_ - ay) < (bx - ax) * (bx - ax) + (by_ - ay) * (by_ - ay) ∧
      teQ x y ax ay bx by_ = (((bx - ax) * (y - ay) - (by_ - ay) * (x - ax)) * ((bx - ax) * (y - ay) - (by_ - ay) * (x - ax))) / ((bx - ax) * (bx - ax) + (by_ - ay) * (by_ - ay))) := by
  unfold teQ
  split
  · exact .inl rfl
  · split
    · exact .inr (.inl rfl)
    · exact .inr (.inr ⟨by grind, by grind, rfl⟩)
theorem cone_b {b : Pts} {q t u : Nat} (hE : 0 < lfp b q u t) (hall : ∀ j, j < b.length → 0 ≤ lfp b q u j ∧ 0 ≤ lfp b t q j) {r1 r2 : Rat} (k1 : 0 ≤ r1 * (px b t - px b q) + r2 * (py b t - py b q)) (k2 : 0 ≤ r1 * (px b u - px b q) + r2 * (py b u - py b q)) {j : Nat} (hj : j < b.length) :
    0 ≤ r1 * (px b j - px b q) + r2 * (py b j - py b q) := by
  have h1 := (hall j hj).1
  have h2 := (hall j hj).2
  unfold lfp lf at h1 h2 hE
  exact cone hE h1 (by grind) k1 k2
/-- two corners nearest to each other -/
theorem gap_v {a b : Pts} (ca : Cvx a) (cb : Cvx b) (ha : 3 ≤ a.length) (hb : 3 ≤ b.length) {d : Rat}
    (T1 : ∀ p q, p < a.length → q < b.length → d ≤ teQ (px a p) (py a p) (px b q) (py b q) (px b ((q + 1) % b.length)) (py b ((q + 1) % b.length)))
    (T2 : ∀ q p, q < b.length → p < a.length → d ≤ teQ (px b q) (py b q) (px a p) (py a p) (px a ((p + 1) % a.length)) (py a ((p + 1) % a.length)))
    {p0 q0 : Nat} (hp : p0 < a.length) (hq : q0 < b.length) (hd : (px b q0 - px a p0) * (px b q0 - px a p0) + (py b q0 - py a p0) * (py b q0 - py a p0) = d) :
    ∃ w1 w2, w1 * w1 + w2 * w2 = d ∧ ∀ p q, p < a.length → q < b.length → d ≤ w1 * (px b q - px a p) + w2 * (py b q - py a p) := by
  obtain ⟨r, s, hr, hs, er, es, hD, hall⟩ := corner ca ha hp
  obtain ⟨t, u, ht, hu, et, eu, hE, hall2⟩ := corner cb hb hq
  refine ⟨px b q0 - px a p0, py b q0 - py a p0, hd, fun p q hpn hqn => ?_⟩
  have a1 : (px b q0 - px a p0) * (px a s - px a p0) + (py b q0 - py a p0) * (py a s - py a p0) ≤ 0 := by
    have h := T2 q0 p0 hq hp
    rw [es] at h
    by_cases c : 0 < (px b q0 - px a p0) * (px a s - px a p0) + (py b q0 - py a p0) * (py a s - py a p0)
    · have := te_lt c; grind
    · grind
  have a2 : (px b q0 - px a p0) * (px a r - px a p0) + (py b q0 - py a p0) * (py a r - py a p0) ≤ 0 := by
    have h := T2 q0 r hq hr
    rw [er, te_symm] at h
    by_cases c : 0 < (px b q0 - px a p0) * (px a r - px a p0) + (py b q0 - py a p0) * (py a r - py a p0)
    · have := te_lt c; grind
    · grind
  have b1 : 0 ≤ (px b q0 - px a p0) * (px b u - px b q0) + (py b q0 - py a p0) * (py b u - py b q0) := by
    have h := T1 p0 q0 hp hq
    rw [eu] at h
    by_cases c : 0 < (px a p0 - px b q0) * (px b u - px b q0) + (py a p0 - py b q0) * (py b u - py b q0)
    · have := te_lt c; grind
    · grind
  have b2 : 0 ≤ (px b q0 - px a p0) * (px b t - px b q0) + (py b q0 - py a p0) * (py b t - py b q0) := by
    have h := T1 p0 t hp ht
    rw [et, te_symm] at h
    by_cases c : 0 < (px a p0 - px b q0) * (px b t - px b q0) + (py a p0 - py b q0) * (py b t - py b q0)
    · have := te_lt c; grind
    · grind
  have c1 := cone_b hE hall2 b2 b1 hqn
  have c2 := cone_b hD hall (r1 := -(px b q0 - px a p0)) (r2 := -(py b q0 - py a p0)) (by grind) (by grind) hpn
  grind
/-- an index at which a walk around changes its sign -/
theorem turn_at {f : Nat → Rat} {n : Nat} (h0 : 0 < f 1) (hn : f n ≤ 0) (h1 : 1 ≤ n) : ∃ k, 1 ≤ k ∧ k < n ∧ 0 < f k ∧ f (k + 1) ≤ 0 := by
  induction n with
  | zero => omega
  | succ n ih =>
    by_cases c : f n ≤ 0
    · rcases Nat.lt_or_ge 0 n with h | h
      · obtain ⟨k, k1, k2, k3⟩ := ih c h
        exact ⟨k, k1, by omega, k3⟩
      · have : n = 0 := by omega
        subst this
        rw [Nat.zero_add] at hn; grind
    · rcases Nat.lt_or_ge 0 n with h | h
      · exact ⟨n, h, by omega, by grind, hn⟩
      · have : n = 0 := by omega
        subst this
        rw [Nat.zero_add] at hn; grind
/-- a point nearest to the inside of a side lies outside of it -/
theorem out_side {b : Pts} (cb : Cvx b) (hb : 3 ≤ b.length) {j : Nat} (hj : j < b.length) {x y d g1 g2 : Rat} (hg : ∀ q, q < b.length → g1 * x + g2 * y < g1 * px b q + g2 * py b q)
    (T1 : ∀ q, q < b.length → d ≤ teQ x y (px b q) (py b q) (px b ((q + 1) % b.length)) (py b ((q + 1) % b.length)))
    {qx qy rx ry : Rat} (e1 : px b j = qx) (e2 : py b j = qy) (e3 : px b ((j + 1) % b.length) = rx) (e4 : py b ((j + 1) % b.length) = ry)
    (h1 : 0 < (x - qx) * (rx - qx) + (y - qy) * (ry - qy)) (h2 : (x - qx) * (rx - qx) + (y - qy) * (ry - qy) < (rx - qx) * (rx - qx) + (ry - qy) * (ry - qy))
    (hd : d * ((rx - qx) * (rx - qx) + (ry - qy) * (ry - qy)) = ((rx - qx) * (y - qy) - (ry - qy) * (x - qx)) * ((rx - qx) * (y - qy) - (ry - qy) * (x - qx))) :
    (rx - qx) * (y - qy) - (ry - qy) * (x - qx) ≤ 0 := by
  rcases rat_tri ((rx - qx) * (y - qy) - (ry - qy) * (x - qx)) 0 with c0 | c0 | c0
  · grind
  · grind
  · exfalso
    obtain ⟨C, hC⟩ : ∃ C, (rx - qx) * (y - qy) - (ry - qy) * (x - qx) = C := ⟨_, rfl⟩
    obtain ⟨Z, hZ⟩ : ∃ Z, (rx - qx) * (rx - qx) + (ry - qy) * (ry - qy) = Z := ⟨_, rfl⟩
    obtain ⟨T, hT⟩ : ∃ T, (x - qx) * (rx - qx) + (y - qy) * (ry - qy) = T := ⟨_, rfl⟩
    rw [hC] at hd c0
    rw [hZ] at hd h2
    rw [hT] at h1 h2
    -- the walk around from the end of the side to its begin
    obtain ⟨k, k1, k2, k3, k4⟩ := turn_at (f := fun k => (rx - qx) * (px b ((j + k) % b.length) - x) + (ry - qy) * (py b ((j + k) % b.length) - y)) (n := b.length)
      (by show 0 < (rx - qx) * (px b ((j + 1) % b.length) - x) + (ry - qy) * (py b ((j + 1) % b.length) - y); rw [e3, e4]; grind)
      (by show (rx - qx) * (px b ((j + b.length) % b.length) - x) + (ry - qy) * (py b ((j + b.length) % b.length) - y) ≤ 0
          rw [Nat.add_mod_right, Nat.mod_eq_of_lt hj, e1, e2]; grind) (by omega)
    obtain ⟨A, hA⟩ : ∃ A, (j + k) % b.length = A := ⟨_, rfl⟩
    obtain ⟨B, hB⟩ : ∃ B, (j + (k + 1)) % b.length = B := ⟨_, rfl⟩
    have hAl : A < b.length := hA ▸ Nat.mod_lt _ (by omega)
    have hBl : B < b.length := hB ▸ Nat.mod_lt _ (by omega)
    have hAB : (A + 1) % b.length = B := by rw [← hA, ← hB, Nat.mod_add_mod, Nat.add_assoc]
    simp only [hA, hB] at k3 k4
    have lA : 0 ≤ (rx - qx) * (py b A - qy) - (ry - qy) * (px b A - qx) := by
      have := cvx_all cb hj hAl
      unfold lfp lf at this
      rw [e1, e2, e3, e4] at this; exact this
    have lB : 0 ≤ (rx - qx) * (py b B - qy) - (ry - qy) * (px b B - qx) := by
      have := cvx_all cb hj hBl
      unfold lfp lf at this
      rw [e1, e2, e3, e4] at this; exact this
    have lA2 : 2 ≤ k → 0 < (rx - qx) * (py b A - qy) - (ry - qy) * (px b A - qx) := by
      intro h
      have := cb j hj k h k2
      unfold lfp lf at this
      rw [hA, e1, e2, e3, e4] at this; exact this
    have lB2 : k + 1 < b.length → 0 < (rx - qx) * (py b B - qy) - (ry - qy) * (px b B - qx) := by
      intro h
      have := cb j hj (k + 1) (by omega) h
      unfold lfp lf at this
      rw [hB, e1, e2, e3, e4] at this; exact this
    have hBx : k + 1 = b.length → px b B = qx ∧ py b B = qy := by
      intro h
      rw [h, Nat.add_mod_right, Nat.mod_eq_of_lt hj] at hB
      rw [← hB, e1, e2]; exact ⟨rfl, rfl⟩
    have gA := hg A hAl
    have gB := hg B hBl
    have gQ := hg j hj
    have gR := hg ((j + 1) % b.length) (Nat.mod_lt _ (by omega))
    rw [e1, e2] at gQ
    rw [e3, e4] at gR
    have t := T1 A hAl
    rw [hAB] at t
    generalize px b A = ux at *
    generalize py b A = uy at *
    generalize px b B = vx at *
    generalize py b B = vy at *
    obtain ⟨HA, eHA⟩ : ∃ H, (rx - qx) * (ux - x) + (ry - qy) * (uy - y) = H := ⟨_, rfl⟩
    obtain ⟨HB, eHB⟩ : ∃ H, (rx - qx) * (vx - x) + (ry - qy) * (vy - y) = H := ⟨_, rfl⟩
    obtain ⟨LA, eLA⟩ : ∃ H, (rx - qx) * (uy - qy) - (ry - qy) * (ux - qx) = H := ⟨_, rfl⟩
    obtain ⟨LB, eLB⟩ : ∃ H, (rx - qx) * (vy - qy) - (ry - qy) * (vx - qx) = H := ⟨_, rfl⟩
    rw [eHA] at k3
    rw [eHB] at k4
    rw [eLA] at lA lA2
    rw [eLB] at lB lB2
    have hN : 0 < HA - HB := by grind
    obtain ⟨m, hm⟩ : ∃ m, HA / (HA - HB) = m := ⟨_, rfl⟩
    have hmul : m * (HA - HB) = HA := by rw [← hm]; exact Rat.div_mul_cancel (by grind)
    have m0 : 0 < m := by rw [← hm]; exact div_ps k3 hN
    have m1 : m ≤ 1 := by rw [← hm]; exact div_le hN (by grind)
    -- the point X
    obtain ⟨ell, hell⟩ : ∃ ell, LA + m * (LB - LA) = ell := ⟨_, rfl⟩
    have ell0 : 0 < ell := by
      rw [← hell]
      rcases Nat.lt_or_ge k 2 with h | h
      · have hB' := lB2 (by omega)
        have := Rat.mul_pos m0 hB'
        have := mul_nn (show 0 ≤ 1 - m by grind) lA
        grind
      · have hA' := lA2 h
        rcases rat_tri m 1 with g | g | g
        · have := Rat.mul_pos (show 0 < 1 - m by grind) hA'
          have := mul_nn (show 0 ≤ m by grind) lB
          grind
        · subst g
          have hB0 : HB = 0 := by grind
          rcases Nat.lt_or_ge (k + 1) b.length with h3 | h3
          · have := lB2 h3; grind
          · obtain ⟨u1, u2⟩ := hBx (by omega)
            subst u1; subst u2
            exfalso
            have : HB = -T := by rw [← eHB, ← hT]; grind
            grind
        · grind
    -- X - (x, y) is (ell - C) / Z times the normal
    have hZp : 0 < Z := by grind
    have ex : Z * (x - (ux + m * (vx - ux))) = -(C - ell) * (ry - qy) := by
      have k5 : (rx - qx) * (x - (ux + m * (vx - ux))) + (ry - qy) * (y - (uy + m * (vy - uy))) = 0 := by
        have : (rx - qx) * (x - (ux + m * (vx - ux))) + (ry - qy) * (y - (uy + m * (vy - uy))) = -(HA - m * (HA - HB)) := by rw [← eHA, ← eHB]; grind
        rw [this, hmul]; grind
      have k6 : (rx - qx) * (y - (uy + m * (vy - uy))) - (ry - qy) * (x - (ux + m * (vx - ux))) = C - ell := by rw [← hC, ← hell, ← eLA, ← eLB]; grind
      have : Z * (x - (ux + m * (vx - ux))) = (rx - qx) * ((rx - qx) * (x - (ux + m * (vx - ux))) + (ry - qy) * (y - (uy + m * (vy - uy)))) - (ry - qy) * ((rx - qx) * (y - (uy + m * (vy - uy))) - (ry - qy) * (x - (ux + m * (vx - ux)))) := by rw [← hZ]; grind
      rw [this, k5, k6]; grind
    have ey : Z * (y - (uy + m * (vy - uy))) = (C - ell) * (rx - qx) := by
      have k5 : (rx - qx) * (x - (ux + m * (vx - ux))) + (ry - qy) * (y - (uy + m * (vy - uy))) = 0 := by
        have : (rx - qx) * (x - (ux + m * (vx - ux))) + (ry - qy) * (y - (uy + m * (vy - uy))) = -(HA - m * (HA - HB)) := by rw [← eHA, ← eHB]; grind
        rw [this, hmul]; grind
      have k6 : (rx - qx) * (y - (uy + m * (vy - uy))) - (ry - qy) * (x - (ux + m * (vx - ux))) = C - ell := by rw [← hC, ← hell, ← eLA, ← eLB]; grind
      have : Z * (y - (uy + m * (vy - uy))) = (ry - qy) * ((rx - qx) * (x - (ux + m * (vx - ux))) + (ry - qy) * (y - (uy + m * (vy - uy)))) + (rx - qx) * ((rx - qx) * (y - (uy + m * (vy - uy))) - (ry - qy) * (x - (ux + m * (vx - ux)))) := by rw [← hZ]; grind
      rw [this, k5, k6]; grind
    have gX : g1 * x + g2 * y < g1 * (ux + m * (vx - ux)) + g2 * (uy + m * (vy - uy)) := by
      have := Rat.mul_pos m0 (show 0 < g1 * vx + g2 * vy - (g1 * x + g2 * y) by grind)
      have := mul_nn (show 0 ≤ 1 - m by grind) (show 0 ≤ g1 * ux + g2 * uy - (g1 * x + g2 * y) by grind)
      grind
    rcases rat_tri ell C with g | g | g
    · -- nearer by way of X
      have t2 := te_le (x := x) (y := y) (ax := ux) (ay := uy) (bx := vx) (by_ := vy) (show 0 ≤ m by grind) m1
      obtain ⟨DX, hDX⟩ : ∃ D, (x - (ux + m * (vx - ux))) * (x - (ux + m * (vx - ux))) + (y - (uy + m * (vy - uy))) * (y - (uy + m * (vy - uy))) = D := ⟨_, rfl⟩
      rw [hDX] at t2
      have eD : Z * Z * DX = (C - ell) * (C - ell) * Z := by
        have : Z * Z * DX = (Z * (x - (ux + m * (vx - ux)))) * (Z * (x - (ux + m * (vx - ux)))) + (Z * (y - (uy + m * (vy - uy)))) * (Z * (y - (uy + m * (vy - uy)))) := by rw [← hDX]; grind
        rw [this, ex, ey, ← hZ]; grind
      have eD2 : Z * DX = (C - ell) * (C - ell) := by
        have h5 : Z * (Z * DX - (C - ell) * (C - ell)) = 0 := by grind
        rcases Rat.mul_eq_zero.1 h5 with h6 | h6
        · grind
        · grind
      have hlt : (C - ell) * (C - ell) < C * C := by
        have := Rat.mul_pos ell0 (show 0 < C by grind)
        have := Rat.mul_pos ell0 (show 0 < C - ell by grind)
        grind
      have : d * Z ≤ DX * Z := by have := mul_nn (show 0 ≤ DX - d by grind) (show 0 ≤ Z by grind); grind
      grind
    · -- the point is X
      subst g
      have z1 : Z * (x - (ux + m * (vx - ux))) = 0 := by rw [ex]; grind
      have z2 : Z * (y - (uy + m * (vy - uy))) = 0 := by rw [ey]; grind
      have y1 : x - (ux + m * (vx - ux)) = 0 := by rcases Rat.mul_eq_zero.1 z1 with h6 | h6; grind; exact h6
      have y2 : y - (uy + m * (vy - uy)) = 0 := by rcases Rat.mul_eq_zero.1 z2 with h6 | h6; grind; exact h6
      have y3 : ux + m * (vx - ux) = x := by grind
      have y4 : uy + m * (vy - uy) = y := by grind
      rw [y3, y4] at gX
      exact absurd gX Rat.lt_irrefl
    · -- the point is between the side and X
      have gF : (Z - T) * (g1 * qx + g2 * qy - (g1 * x + g2 * y)) + T * (g1 * rx + g2 * ry - (g1 * x + g2 * y)) > 0 := by
        have := Rat.mul_pos (show 0 < Z - T by grind) (show 0 < g1 * qx + g2 * qy - (g1 * x + g2 * y) by grind)
        have := Rat.mul_pos h1 (show 0 < g1 * rx + g2 * ry - (g1 * x + g2 * y) by grind)
        grind
      have fx : Z * (x - qx) = T * (rx - qx) - C * (ry - qy) := by rw [← hZ, ← hT, ← hC]; grind
      have fy : Z * (y - qy) = T * (ry - qy) + C * (rx - qx) := by rw [← hZ, ← hT, ← hC]; grind
      have key : (ell - C) * ((Z - T) * (g1 * qx + g2 * qy - (g1 * x + g2 * y)) + T * (g1 * rx + g2 * ry - (g1 * x + g2 * y))) + C * Z * (g1 * (ux + m * (vx - ux)) + g2 * (uy + m * (vy - uy)) - (g1 * x + g2 * y)) = 0 := by
        have w1 : (Z - T) * (g1 * qx + g2 * qy - (g1 * x + g2 * y)) + T * (g1 * rx + g2 * ry - (g1 * x + g2 * y)) = -(g1 * (Z * (x - qx) - T * (rx - qx)) + g2 * (Z * (y - qy) - T * (ry - qy))) := by grind
        have w2 : Z * (g1 * (ux + m * (vx - ux)) + g2 * (uy + m * (vy - uy)) - (g1 * x + g2 * y)) = -(g1 * (Z * (x - (ux + m * (vx - ux)))) + g2 * (Z * (y - (uy + m * (vy - uy))))) := by grind
        rw [w1, fx, fy, Rat.mul_assoc, w2, ex, ey]; grind
      have := Rat.mul_pos (show 0 < ell - C by grind) gF
      have := Rat.mul_pos (Rat.mul_pos (show 0 < C by grind) hZp) (show 0 < g1 * (ux + m * (vx - ux)) + g2 * (uy + m * (vy - uy)) - (g1 * x + g2 * y) by grind)
      grind
/-- the segment would cross the side -/
theorem no_cross {x y u v qx qy rx ry g1 g2 s T Z C L h : Rat} (hT : (x - qx) * (rx - qx) + (y - qy) * (ry - qy) = T) (hZ : (rx - qx) * (rx - qx) + (ry - qy) * (ry - qy) = Z) (hC : (rx - qx) * (y - qy) - (ry - qy) * (x - qx) = C)
    (hL : (rx - qx) * (v - qy) - (ry - qy) * (u - qx) = L) (hh : (rx - qx) * (u - x) + (ry - qy) * (v - y) = h)
    (gPQ : g1 * x + g2 * y < g1 * qx + g2 * qy) (gPR : g1 * x + g2 * y < g1 * rx + g2 * ry) (gUQ : g1 * u + g2 * v < g1 * qx + g2 * qy) (gUR : g1 * u + g2 * v < g1 * rx + g2 * ry)
    (s0 : 0 ≤ s) (s1 : s ≤ 1) (c0 : C + s * (L - C) = 0) (i0 : 0 ≤ T + s * h) (i1 : T + s * h ≤ Z) (hZp : 0 < Z) : False := by
  have e1 : (Z - (T + s * h)) * (g1 * qx + g2 * qy) + (T + s * h) * (g1 * rx + g2 * ry) = Z * ((1 - s) * (g1 * x + g2 * y) + s * (g1 * u + g2 * v)) := by
    have f1 : Z * ((1 - s) * x + s * u - qx) = (T + s * h) * (rx - qx) - (C + s * (L - C)) * (ry - qy) := by rw [← hZ, ← hT, ← hC, ← hL, ← hh]; grind
    have f2 : Z * ((1 - s) * y + s * v - qy) = (T + s * h) * (ry - qy) + (C + s * (L - C)) * (rx - qx) := by rw [← hZ, ← hT, ← hC, ← hL, ← hh]; grind
    rw [c0] at f1 f2
    have f3 : g1 * (Z * ((1 - s) * x + s * u - qx)) + g2 * (Z * ((1 - s) * y + s * v - qy)) = (T + s * h) * (g1 * (rx - qx) + g2 * (ry - qy)) := by rw [f1, f2]; grind
    grind
  have a1 : 0 < (g1 * qx + g2 * qy) - ((1 - s) * (g1 * x + g2 * y) + s * (g1 * u + g2 * v)) := by
    rcases rat_tri s 0 with k | k | k
    · grind
    · subst k; grind
    · have := Rat.mul_pos k (show 0 < g1 * qx + g2 * qy - (g1 * u + g2 * v) by grind)
      have := mul_nn (show 0 ≤ 1 - s by grind) (show 0 ≤ g1 * qx + g2 * qy - (g1 * x + g2 * y) by grind)
      grind
  have a2 : 0 < (g1 * rx + g2 * ry) - ((1 - s) * (g1 * x + g2 * y) + s * (g1 * u + g2 * v)) := by
    rcases rat_tri s 0 with k | k | k
    · grind
    · subst k; grind
    · have := Rat.mul_pos k (show 0 < g1 * rx + g2 * ry - (g1 * u + g2 * v) by grind)
      have := mul_nn (show 0 ≤ 1 - s by grind) (show 0 ≤ g1 * rx + g2 * ry - (g1 * x + g2 * y) by grind)
      grind
  obtain ⟨p, hp⟩ : ∃ p, g1 * qx + g2 * qy = p := ⟨_, rfl⟩
  obtain ⟨r, hr⟩ : ∃ p, g1 * rx + g2 * ry = p := ⟨_, rfl⟩
  obtain ⟨m, hm⟩ : ∃ p, (1 - s) * (g1 * x + g2 * y) + s * (g1 * u + g2 * v) = p := ⟨_, rfl⟩
  obtain ⟨k, hk⟩ : ∃ p, T + s * h = p := ⟨_, rfl⟩
  rw [hp, hr, hm, hk] at e1
  rw [hp, hm] at a1
  rw [hr, hm] at a2
  rw [hk] at i0 i1
  clear hp hr hm hk hT hZ hC hL hh gPQ gPR gUQ gUR c0
  rcases rat_tri k 0 with q | q | q
  · grind
  · subst q
    have := Rat.mul_pos hZp a1; grind
  · have := Rat.mul_pos q a2
    have := mul_nn (show 0 ≤ Z - k by grind) (show 0 ≤ p - m by grind)
    grind
/-- beside an end of the side the segment would be nearer -/
theorem no_end {x y u v qx qy rx ry ex ey s d Z C L K : Rat} (hZ : (rx - qx) * (rx - qx) + (ry - qy) * (ry - qy) = Z) (s0 : 0 ≤ s) (s1 : s ≤ 1) (t : d ≤ teQ ex ey x y u v)
    (h1 : (rx - qx) * (ex - (x + s * (u - x))) + (ry - qy) * (ey - (y + s * (v - y))) = 0) (h2 : (rx - qx) * (ey - (y + s * (v - y))) - (ry - qy) * (ex - (x + s * (u - x))) = K)
    (hd : d * Z = C * C) (k0 : 0 < K) (k1 : K < -C) (hZp : 0 < Z) : False := by
  have t2 := te_le (x := ex) (y := ey) (ax := x) (ay := y) (bx := u) (by_ := v) s0 s1
  obtain ⟨D, hD⟩ : ∃ D, (ex - (x + s * (u - x))) * (ex - (x + s * (u - x))) + (ey - (y + s * (v - y))) * (ey - (y + s * (v - y))) = D := ⟨_, rfl⟩
  rw [hD] at t2
  have e : Z * D = K * K := by
    have : Z * D = ((rx - qx) * (ex - (x + s * (u - x))) + (ry - qy) * (ey - (y + s * (v - y)))) * ((rx - qx) * (ex - (x + s * (u - x))) + (ry - qy) * (ey - (y + s * (v - y)))) + ((rx - qx) * (ey - (y + s * (v - y))) - (ry - qy) * (ex - (x + s * (u - x)))) * ((rx - qx) * (ey - (y + s * (v - y))) - (ry - qy) * (ex - (x + s * (u - x)))) := by
      rw [← hZ, ← hD]; grind
    rw [this, h1, h2]; grind
  have hlt : K * K < C * C := by
    have := Rat.mul_pos k0 (show 0 < -C - K by grind)
    have := Rat.mul_pos (show 0 < -C by grind) (show 0 < -C - K by grind)
    grind
  have := mul_nn (show 0 ≤ D - d by grind) (show 0 ≤ Z by grind)
  grind
theorem no_nearer {x y u v qx qy rx ry g1 g2 d T Z C L : Rat} (hT : (x - qx) * (rx - qx) + (y - qy) * (ry - qy) = T) (hZ : (rx - qx) * (rx - qx) + (ry - qy) * (ry - qy) = Z) (hC : (rx - qx) * (y - qy) - (ry - qy) * (x - qx) = C)
    (hL : (rx - qx) * (v - qy) - (ry - qy) * (u - qx) = L)
    (gPQ : g1 * x + g2 * y < g1 * qx + g2 * qy) (gPR : g1 * x + g2 * y < g1 * rx + g2 * ry) (gUQ : g1 * u + g2 * v < g1 * qx + g2 * qy) (gUR : g1 * u + g2 * v < g1 * rx + g2 * ry)
    (h1 : 0 < T) (h2 : T < Z) (c0 : C < 0) (hd : d * Z = C * C) (TQ : d ≤ teQ qx qy x y u v) (TR : d ≤ teQ rx ry x y u v) (TP : d ≤ teQ u v qx qy rx ry) : L ≤ C := by
  rcases rat_tri L C with hl | hl | hl
  · grind
  · grind
  · exfalso
    have hZp : 0 < Z := by grind
    obtain ⟨h, hh⟩ : ∃ h, (rx - qx) * (u - x) + (ry - qy) * (v - y) = h := ⟨_, rfl⟩
    -- where the line of the side is crossed
    have hLC : 0 < L - C := by grind
    obtain ⟨s, hs⟩ : ∃ s, (-C) / (L - C) = s := ⟨_, rfl⟩
    have hsm : s * (L - C) = -C := by rw [← hs]; exact Rat.div_mul_cancel (by grind)
    have s0 : 0 < s := by rw [← hs]; exact div_ps (by grind) hLC
    have cr : ∀ z, 0 < z → z ≤ 1 → 0 ≤ C + z * (L - C) → 0 ≤ T + z * h → T + z * h ≤ Z → False := by
      intro z z0 z1 zc zi zj
      have hsz : s ≤ z := by
        rcases rat_tri s z with k | k | k
        · grind
        · grind
        · have := Rat.mul_pos (show 0 < s - z by grind) hLC; grind
      refine no_cross (s := s) hT hZ hC hL hh gPQ gPR gUQ gUR (by grind) (by grind) (by grind) ?_ ?_ hZp
      · -- between 0 and z
        rcases rat_tri h 0 with k | k | k
        · have := mul_nn (show 0 ≤ z - s by grind) (show 0 ≤ -h by grind); grind
        · subst k; grind
        · have := Rat.mul_pos s0 k; grind
      · rcases rat_tri h 0 with k | k | k
        · have := Rat.mul_pos s0 (show 0 < -h by grind); grind
        · subst k; grind
        · have := mul_nn (show 0 ≤ z - s by grind) (show 0 ≤ h by grind); grind
    rcases rat_tri h (Z - T) with k | k | k
    · rcases rat_tri h (-T) with k' | k' | k'
      · -- beyond the begin
        have hn : h < 0 := by grind
        obtain ⟨z, hz⟩ : ∃ z, T / (-h) = z := ⟨_, rfl⟩
        have hzm : z * (-h) = T := by rw [← hz]; exact Rat.div_mul_cancel (by grind)
        have z0 : 0 < z := by rw [← hz]; exact div_ps h1 (by grind)
        have z1 : z ≤ 1 := by rw [← hz]; exact div_le (by grind) (by grind)
        by_cases q : 0 ≤ C + z * (L - C)
        · exact cr z z0 z1 q (by grind) (by grind)
        · refine no_end (s := z) (C := C) (L := L) (K := -(C + z * (L - C))) hZ (by grind) z1 TQ ?_ ?_ hd (by grind) ?_ hZp
          · have : (rx - qx) * (qx - (x + z * (u - x))) + (ry - qy) * (qy - (y + z * (v - y))) = -T - z * h := by rw [← hT, ← hh]; grind
            rw [this]; grind
          · rw [← hC, ← hL]; grind
          · have := Rat.mul_pos z0 hLC; grind
      · -- at the begin
        by_cases q : 0 ≤ L
        · exact cr 1 (by grind) Rat.le_refl (by grind) (by grind) (by grind)
        · refine no_end (s := 1) (C := C) (L := L) (K := -L) hZ (by grind) Rat.le_refl TQ ?_ ?_ hd (by grind) (by grind) hZp
          · have : (rx - qx) * (qx - (x + 1 * (u - x))) + (ry - qy) * (qy - (y + 1 * (v - y))) = -T - h := by rw [← hT, ← hh]; grind
            rw [this]; grind
          · rw [← hL]; grind
      · -- within
        by_cases q : 0 ≤ L
        · exact cr 1 (by grind) Rat.le_refl (by grind) (by grind) (by grind)
        · obtain ⟨m, hm⟩ : ∃ m, (T + h) / Z = m := ⟨_, rfl⟩
          have hmm : m * Z = T + h := by rw [← hm]; exact Rat.div_mul_cancel (by grind)
          have m0 : 0 ≤ m := by rw [← hm]; exact div_nn (by grind) hZp
          have m1 : m ≤ 1 := by rw [← hm]; exact div_le hZp (by grind)
          have t2 := te_le (x := u) (y := v) (ax := qx) (ay := qy) (bx := rx) (by_ := ry) m0 m1
          obtain ⟨D, hD⟩ : ∃ D, (u - (qx + m * (rx - qx))) * (u - (qx + m * (rx - qx))) + (v - (qy + m * (ry - qy))) * (v - (qy + m * (ry - qy))) = D := ⟨_, rfl⟩
          rw [hD] at t2
          have f1 : (rx - qx) * (u - (qx + m * (rx - qx))) + (ry - qy) * (v - (qy + m * (ry - qy))) = 0 := by
            have : (rx - qx) * (u - (qx + m * (rx - qx))) + (ry - qy) * (v - (qy + m * (ry - qy))) = T + h - m * Z := by rw [← hT, ← hh, ← hZ]; grind
            rw [this, hmm]; grind
          have f2 : (rx - qx) * (v - (qy + m * (ry - qy))) - (ry - qy) * (u - (qx + m * (rx - qx))) = L := by rw [← hL]; grind
          have e : Z * D = L * L := by
            have : Z * D = ((rx - qx) * (u - (qx + m * (rx - qx))) + (ry - qy) * (v - (qy + m * (ry - qy)))) * ((rx - qx) * (u - (qx + m * (rx - qx))) + (ry - qy) * (v - (qy + m * (ry - qy)))) + ((rx - qx) * (v - (qy + m * (ry - qy))) - (ry - qy) * (u - (qx + m * (rx - qx)))) * ((rx - qx) * (v - (qy + m * (ry - qy))) - (ry - qy) * (u - (qx + m * (rx - qx)))) := by
              rw [← hZ, ← hD]; grind
            rw [this, f1, f2]; grind
          have hlt : L * L < C * C := by
            have := Rat.mul_pos (show 0 < -L by grind) (show 0 < L - C by grind)
            have := Rat.mul_pos (show 0 < -C by grind) (show 0 < L - C by grind)
            grind
          have := mul_nn (show 0 ≤ D - d by grind) (show 0 ≤ Z by grind)
          grind
    · -- at the end
      by_cases q : 0 ≤ L
      · exact cr 1 (by grind) Rat.le_refl (by grind) (by grind) (by grind)
      · refine no_end (s := 1) (C := C) (L := L) (K := -L) hZ (by grind) Rat.le_refl TR ?_ ?_ hd (by grind) (by grind) hZp
        · have : (rx - qx) * (rx - (x + 1 * (u - x))) + (ry - qy) * (ry - (y + 1 * (v - y))) = Z - T - h := by rw [← hT, ← hh, ← hZ]; grind
          rw [this]; grind
        · rw [← hL]; grind
    · -- beyond the end
      have hn : 0 < h := by grind
      obtain ⟨z, hz⟩ : ∃ z, (Z - T) / h = z := ⟨_, rfl⟩
      have hzm : z * h = Z - T := by rw [← hz]; exact Rat.div_mul_cancel (by grind)
      have z0 : 0 < z := by rw [← hz]; exact div_ps (by grind) hn
      have z1 : z ≤ 1 := by rw [← hz]; exact div_le hn (by grind)
      by_cases q : 0 ≤ C + z * (L - C)
      · exact cr z z0 z1 q (by grind) (by grind)
      · refine no_end (s := z) (C := C) (L := L) (K := -(C + z * (L - C))) hZ (by grind) z1 TR ?_ ?_ hd (by grind) ?_ hZp
        · have : (rx - qx) * (rx - (x + z * (u - x))) + (ry - qy) * (ry - (y + z * (v - y))) = Z - T - z * h := by rw [← hT, ← hh, ← hZ]; grind
          rw [this]; grind
        · rw [← hC, ← hL]; grind
        · have := Rat.mul_pos z0 hLC; grind
/-- a corner and the inner of a side nearest to each other -/
theorem gap_e {a b : Pts} (ca : Cvx a) (cb : Cvx b) (ha : 3 ≤ a.length) (hb : 3 ≤ b.length) {d g1 g2 : Rat} (hd0 : 0 < d) (hg : ∀ p q, p < a.length → q < b.length → g1 * px a p + g2 * py a p < g1 * px b q + g2 * py b q)
    (T1 : ∀ p q, p < a.length → q < b.length → d ≤ teQ (px a p) (py a p) (px b q) (py b q) (px b ((q + 1) % b.length)) (py b ((q + 1) % b.length)))
    (T2 : ∀ q p, q < b.length → p < a.length → d ≤ teQ (px b q) (py b q) (px a p) (py a p) (px a ((p + 1) % a.length)) (py a ((p + 1) % a.length)))
    {i j : Nat} (hi : i < a.length) (hj : j < b.length) {x y qx qy rx ry : Rat} (f1 : px a i = x) (f2 : py a i = y) (e1 : px b j = qx) (e2 : py b j = qy) (e3 : px b ((j + 1) % b.length) = rx) (e4 : py b ((j + 1) % b.length) = ry)
    (h1 : 0 < (x - qx) * (rx - qx) + (y - qy) * (ry - qy)) (h2 : (x - qx) * (rx - qx) + (y - qy) * (ry - qy) < (rx - qx) * (rx - qx) + (ry - qy) * (ry - qy))
    (hd : d * ((rx - qx) * (rx - qx) + (ry - qy) * (ry - qy)) = ((rx - qx) * (y - qy) - (ry - qy) * (x - qx)) * ((rx - qx) * (y - qy) - (ry - qy) * (x - qx))) :
    ∃ w1 w2, w1 * w1 + w2 * w2 = d ∧ ∀ p q, p < a.length → q < b.length → d ≤ w1 * (px b q - px a p) + w2 * (py b q - py a p) := by
  have hjn : (j + 1) % b.length < b.length := Nat.mod_lt _ (by omega)
  have hC := out_side cb hb hj (x := x) (y := y) (d := d) (g1 := g1) (g2 := g2) (fun q hq => by have := hg i q hi hq; rwa [f1, f2] at this) (fun q hq => by have := T1 i q hi hq; rwa [f1, f2] at this) e1 e2 e3 e4 h1 h2 hd
  obtain ⟨C, eC⟩ : ∃ C, (rx - qx) * (y - qy) - (ry - qy) * (x - qx) = C := ⟨_, rfl⟩
  obtain ⟨Z, eZ⟩ : ∃ Z, (rx - qx) * (rx - qx) + (ry - qy) * (ry - qy) = Z := ⟨_, rfl⟩
  obtain ⟨T, eT⟩ : ∃ T, (x - qx) * (rx - qx) + (y - qy) * (ry - qy) = T := ⟨_, rfl⟩
  rw [eC] at hC hd
  rw [eZ] at hd h2
  rw [eT] at h1 h2
  have hZ : 0 < Z := by grind
  have hCn : C < 0 := by
    rcases rat_tri C 0 with k | k | k
    · exact k
    · subst k; have := Rat.mul_pos hd0 hZ; grind
    · grind
  obtain ⟨r, s, hr, hs, er, es, hD, hall⟩ := corner ca ha hi
  have gQ : ∀ p, p < a.length → g1 * px a p + g2 * py a p < g1 * qx + g2 * qy := fun p hp => by have := hg p j hp hj; rwa [e1, e2] at this
  have gR : ∀ p, p < a.length → g1 * px a p + g2 * py a p < g1 * rx + g2 * ry := fun p hp => by have := hg p _ hp hjn; rwa [e3, e4] at this
  have gPQ := gQ i hi
  have gPR := gR i hi
  rw [f1, f2] at gPQ gPR
  have TP : ∀ p, p < a.length → d ≤ teQ (px a p) (py a p) qx qy rx ry := fun p hp => by have := T1 p j hp hj; rwa [e1, e2, e3, e4] at this
  have s1 : (rx - qx) * (py a s - qy) - (ry - qy) * (px a s - qx) ≤ C := by
    have tq := T2 j i hj hi
    have tr := T2 _ i hjn hi
    rw [es, f1, f2, e1, e2] at tq
    rw [es, f1, f2, e3, e4] at tr
    exact no_nearer eT eZ eC rfl gPQ gPR (gQ s hs) (gR s hs) h1 h2 hCn hd tq tr (TP s hs)
  have r1 : (rx - qx) * (py a r - qy) - (ry - qy) * (px a r - qx) ≤ C := by
    have tq := T2 j r hj hr
    have tr := T2 _ r hjn hr
    rw [er, f1, f2, e1, e2, te_symm] at tq
    rw [er, f1, f2, e3, e4, te_symm] at tr
    exact no_nearer eT eZ eC rfl gPQ gPR (gQ r hr) (gR r hr) h1 h2 hCn hd tq tr (TP r hr)
  obtain ⟨z, hz⟩ : ∃ z, (-C) / Z = z := ⟨_, rfl⟩
  have hzm : z * Z = -C := by rw [← hz]; exact Rat.div_mul_cancel (by grind)
  have z0 : 0 < z := by rw [← hz]; exact div_ps (by grind) hZ
  have hzd : z * (-C) = d := by
    have h3 : Z * (z * (-C) - d) = 0 := by grind
    rcases Rat.mul_eq_zero.1 h3 with h4 | h4
    · grind
    · grind
  refine ⟨z * (-(ry - qy)), z * (rx - qx), ?_, fun p q hp hq => ?_⟩
  · have : z * (-(ry - qy)) * (z * (-(ry - qy))) + z * (rx - qx) * (z * (rx - qx)) = z * (z * Z) := by rw [← eZ]; grind
    rw [this, hzm, hzd]
  · have lb := cvx_all cb hj hq
    unfold lfp lf at lb
    rw [e1, e2, e3, e4] at lb
    have la := cone_b hD hall (r1 := (ry - qy)) (r2 := -(rx - qx)) (by rw [f1, f2]; grind) (by rw [f1, f2]; grind) hp
    rw [f1, f2] at la
    have key : z * (-(ry - qy)) * (px b q - px a p) + z * (rx - qx) * (py b q - py a p) = z * (((rx - qx) * (py b q - qy) - (ry - qy) * (px b q - qx)) + ((ry - qy) * (px a p - x) + -(rx - qx) * (py a p - y)) + -C) := by rw [← eC]; grind
    rw [key]
    have q1 := mul_nn (show 0 ≤ z by grind) lb
    have q2 := mul_nn (show 0 ≤ z by grind) la
    rw [Rat.mul_add, Rat.mul_add, hzd]; grind
theorem near_is {x y : Rat} {b : Pts} (hb : 2 ≤ b.length) : ∀ n, n ≤ b.length → ∃ j, j < b.length ∧ nearF x y b n = teQ x y (px b j) (py b j) (px b ((j + 1) % b.length)) (py b ((j + 1) % b.length)) := by
  intro n
  induction n with
  | zero => intro _; exact ⟨0, by omega, by simp only [nearF]; rw [Nat.mod_eq_of_lt (show 0 + 1 < b.length by omega)]⟩
  | succ n ih =>
    intro hn
    obtain ⟨j, h1, h2⟩ := ih (by omega)
    simp only [nearF]
    rcases min_or (nearF x y b n) (teQ x y (px b n) (py b n) (px b ((n + 1) % b.length)) (py b ((n + 1) % b.length))) with h | h
    · exact ⟨j, h1, by rw [h, h2]⟩
    · exact ⟨n, by omega, h⟩
theorem near_le {x y : Rat} {b : Pts} : ∀ n j, j < n → nearF x y b n ≤ teQ x y (px b j) (py b j) (px b ((j + 1) % b.length)) (py b ((j + 1) % b.length)) := by
  intro n
  induction n with
  | zero => intro j h; omega
  | succ n ih =>
    intro j h
    simp only [nearF]
    rcases Nat.lt_or_ge j n with h1 | h1
    · have := ih j h1
      have := min_ll (nearF x y b n) (teQ x y (px b n) (py b n) (px b ((n + 1) % b.length)) (py b ((n + 1) % b.length)))
      grind
    · have : j = n := by omega
      subst this; exact min_rr _ _
/-- between polygons that do not meet there is a line -/
theorem line_of {a b : Pts} (ca : Cvx a) (cb : Cvx b) (ha : 3 ≤ a.length) (hb : 3 ≤ b.length) (hm : meetB a b = false) : ∃ g1 g2 : Rat, ∀ p q, p < a.length → q < b.length → g1 * px a p + g2 * py a p < g1 * px b q + g2 * py b q := by
  unfold meetB at hm
  rw [Bool.and_eq_false_iff] at hm
  simp only [Bool.not_eq_false'] at hm
  rcases hm with hm | hm
  · unfold bydB at hm
    rw [List.any_eq_true] at hm
    obtain ⟨i, hi, hs⟩ := hm
    have hi := List.mem_range.1 hi
    unfold sepB at hs
    rw [List.all_eq_true] at hs
    refine ⟨py a ((i + 1) % a.length) - py a i, -(px a ((i + 1) % a.length) - px a i), fun p q hp hq => ?_⟩
    have h1 : 0 < dt a b i q := by simpa using hs q (List.mem_range.2 hq)
    have h2 := cvx_all ca hi hp
    unfold dt at h1
    unfold lfp lf at h2
    grind
  · unfold bydB at hm
    rw [List.any_eq_true] at hm
    obtain ⟨i, hi, hs⟩ := hm
    have hi := List.mem_range.1 hi
    unfold sepB at hs
    rw [List.all_eq_true] at hs
    refine ⟨-(py b ((i + 1) % b.length) - py b i), px b ((i + 1) % b.length) - px b i, fun p q hp hq => ?_⟩
    have h1 : 0 < dt b a i p := by simpa using hs p (List.mem_range.2 hp)
    have h2 := cvx_all cb hi hq
    unfold dt at h1
    unfold lfp lf at h2
    grind
theorem gap_one {a b : Pts} (ca : Cvx a) (cb : Cvx b) (ha : 3 ≤ a.length) (hb : 3 ≤ b.length) {d g1 g2 : Rat} (hd0 : 0 < d) (hg : ∀ p q, p < a.length → q < b.length → g1 * px a p + g2 * py a p < g1 * px b q + g2 * py b q)
    (T1 : ∀ p q, p < a.length → q < b.length → d ≤ teQ (px a p) (py a p) (px b q) (py b q) (px b ((q + 1) % b.length)) (py b ((q + 1) % b.length)))
    (T2 : ∀ q p, q < b.length → p < a.length → d ≤ teQ (px b q) (py b q) (px a p) (py a p) (px a ((p + 1) % a.length)) (py a ((p + 1) % a.length)))
    {i : Nat} (hi : i < a.length) (hd : d = nearQ (px a i) (py a i) b) :
    ∃ w1 w2, w1 * w1 + w2 * w2 = d ∧ ∀ p q, p < a.length → q < b.length → d ≤ w1 * (px b q - px a p) + w2 * (py b q - py a p) := by
  unfold nearQ at hd
  obtain ⟨j, hj, e⟩ := near_is (x := px a i) (y := py a i) (b := b) (by omega) _ (Nat.le_refl _)
  rw [e] at hd
  have hjn : (j + 1) % b.length < b.length := Nat.mod_lt _ (by omega)
  rcases te_is (px a i) (py a i) (px b j) (py b j) (px b ((j + 1) % b.length)) (py b ((j + 1) % b.length)) with h | h | ⟨h1, h2, h3⟩
  · exact gap_v ca cb ha hb T1 T2 hi hj (by rw [hd, h]; grind)
  · exact gap_v ca cb ha hb T1 T2 hi hjn (by rw [hd, h]; grind)
  · refine gap_e ca cb ha hb hd0 hg T1 T2 hi hj rfl rfl rfl rfl rfl rfl h1 h2 ?_
    rw [hd, h3]
    exact Rat.div_mul_cancel (by grind)
theorem way_gap {a b : Pts} (ca : Cvx a) (cb : Cvx b) (ha : 3 ≤ a.length) (hb : 3 ≤ b.length) (hm : meetB a b = false) :
    ∃ w1 w2, w1 * w1 + w2 * w2 = sqQ a b ∧ ∀ p q, p < a.length → q < b.length → sqQ a b ≤ w1 * (px b q - px a p) + w2 * (py b q - py a p) := by
  have hp := sq_ps2 ca cb (by omega) (by omega) hm
  obtain ⟨g1, g2, hg⟩ := line_of ca cb ha hb hm
  obtain ⟨l1, l2, l3⟩ := sq_least (a := a) (b := b) (by omega)
  have e : sqQ a b = sqB a b (sqA a b a.length) b.length := by unfold sqQ; rw [if_neg (by rw [hm]; decide)]
  rw [← e] at l1 l2 l3
  have T1 : ∀ p q, p < a.length → q < b.length → sqQ a b ≤ teQ (px a p) (py a p) (px b q) (py b q) (px b ((q + 1) % b.length)) (py b ((q + 1) % b.length)) := fun p q hp hq => by
    have h1 := l1 p hp
    have h2 := near_le (x := px a p) (y := py a p) (b := b) b.length q hq
    unfold nearQ at h1
    grind
  have T2 : ∀ q p, q < b.length → p < a.length → sqQ a b ≤ teQ (px b q) (py b q) (px a p) (py a p) (px a ((p + 1) % a.length)) (py a ((p + 1) % a.length)) := fun q p hq hp => by
    have h1 := l2 q hq
    have h2 := near_le (x := px b q) (y := py b q) (b := a) a.length p hp
    unfold nearQ at h1
    grind
  rcases l3 with ⟨i, hi, h⟩ | ⟨j, hj, h⟩
  · exact gap_one ca cb ha hb hp hg T1 T2 hi h
  · obtain ⟨w1, w2, h1, h2⟩ := gap_one cb ca hb ha hp (g1 := -g1) (g2 := -g2) (fun p q hp hq => by have := hg q p hq hp; grind) T2 T1 hj h
    exact ⟨-w1, -w2, by grind, fun p q hp hq => by have := h2 q p hq hp; grind⟩
theorem way_apart {a b : Pts} (ca : Cvx a) (cb : Cvx b) (ha : 3 ≤ a.length) (hb : 3 ≤ b.length) {c s x y : Rat} (hc : c = 1) (hs : s = 0) (h : x * x + y * y < sqQ a b) : meetB a (mvP c s x y b) = false := by
  cases hm : meetB a b with
  | true => rw [sq_zero hm] at h; have := sq_nn x; have := sq_nn y; grind
  | false =>
    obtain ⟨w1, w2, e1, e2⟩ := way_gap ca cb ha hb hm
    have hp := sq_ps2 ca cb (by omega) (by omega) hm
    have cb2 : Cvx (mvP c s x y b) := cvx_mv (by rw [hc, hs]; grind) cb
    refine sat ca cb2 ha (by rw [mvP_len]; exact hb) (w1 := w1) (w2 := w2) fun p q hpn hqn => ?_
    rw [mvP_len] at hqn
    rw [px_mv hqn, py_mv hqn]
    have h3 := e2 p q hpn hqn
    generalize sqQ a b = d at *
    obtain ⟨k, hk⟩ : ∃ k, w1 * x + w2 * y = k := ⟨_, rfl⟩
    have hk2 : k * k ≤ d * (x * x + y * y) := by
      have : d * (x * x + y * y) - k * k = (w1 * y - w2 * x) * (w1 * y - w2 * x) := by rw [← e1, ← hk]; grind
      have := sq_nn (w1 * y - w2 * x)
      grind
    have hk3 : d * (x * x + y * y) < d * d := by have := Rat.mul_pos hp (show 0 < d - (x * x + y * y) by grind); grind
    have hkd : -d < k := by
      rcases rat_tri (-d) k with g | g | g
      · exact g
      · subst g; grind
      · have := Rat.mul_pos (show 0 < -d - k by grind) (show 0 < d - k by grind); grind
    subst hc; subst hs
    unfold mvx mvy
    grind
/-- corners are not nearer than the polygons -/
theorem corner_far {a b : Pts} (ha : 3 ≤ a.length) (hb : 3 ≤ b.length) {p q : Nat} (hp : p < a.length) (hq : q < b.length) : sqQ a b ≤ (px a p - px b q) * (px a p - px b q) + (py a p - py b q) * (py a p - py b q) := by
  have nn : 0 ≤ (px a p - px b q) * (px a p - px b q) + (py a p - py b q) * (py a p - py b q) := by have := sq_nn (px a p - px b q); have := sq_nn (py a p - py b q); grind
  unfold sqQ
  split
  · exact nn
  · have h1 := (sq_least (a := a) (b := b) (by omega)).1 p hp
    have h2 := near_le (x := px a p) (y := py a p) (b := b) b.length q hq
    have h3 := te_le (x := px a p) (y := py a p) (ax := px b q) (ay := py b q) (bx := px b ((q + 1) % b.length)) (by_ := py b ((q + 1) % b.length)) (s := 0) (by grind) (by grind)
    unfold nearQ at h1
    grind
/-- boxes of polygons that meet -/
theorem box_meet {a b : Pts} (ca : Cvx a) (cb : Cvx b) (ha : 3 ≤ a.length) (hb : 3 ≤ b.length) (hm : meetB a b = true) :
    mnF (px a) (a.length - 1) ≤ mxF (px b) (b.length - 1) ∧ mnF (py a) (a.length - 1) ≤ mxF (py b) (b.length - 1) := by
  constructor
  · rcases rat_tri (mxF (px b) (b.length - 1)) (mnF (px a) (a.length - 1)) with h | h | h
    · have := sat ca cb ha hb (w1 := -1) (w2 := 0) fun p q hp hq => by
        have h1 := mn_le (f := px a) (a.length - 1) p (by omega)
        have h2 := mx_ge (f := px b) (b.length - 1) q (by omega)
        grind
      rw [hm] at this; cases this
    · grind
    · grind
  · rcases rat_tri (mxF (py b) (b.length - 1)) (mnF (py a) (a.length - 1)) with h | h | h
    · have := sat ca cb ha hb (w1 := 0) (w2 := -1) fun p q hp hq => by
        have h1 := mn_le (f := py a) (a.length - 1) p (by omega)
        have h2 := mx_ge (f := py b) (b.length - 1) q (by omega)
        grind
      rw [hm] at this; cases this
    · grind
    · grind
theorem box_valid {f : Nat → Rat} (n : Nat) : mnF f n ≤ mxF f n := by
  have h1 := mn_le (f := f) n 0 (by omega)
  have h2 := mx_ge (f := f) n 0 (by omega)
  grind
end Go.Proofs.YtbgifinfflehmaaDoor
