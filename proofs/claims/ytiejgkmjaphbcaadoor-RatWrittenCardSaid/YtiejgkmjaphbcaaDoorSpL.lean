/- Joined texts. -/
import Derived.Test.YtiejgkmjaphbcaaDoorSp0

/- Plain laws of turns and vectors. -/
namespace Go.Proofs.YtiejgkmjaphbcaaDoor
open Go.RowKit
set_option linter.unusedVariables false
set_option linter.unusedSimpArgs false

/-- a turn as a point of the projective line -/
def tP (h : Bool) (t : Rat) : Rat := if h = true then 1 else t
def tQ (h : Bool) : Rat := if h = true then 0 else 1
theorem tPQ_pos (h : Bool) (t : Rat) : tP h t * tP h t + tQ h * tQ h ≠ 0 := by
  unfold tP tQ
  cases h
  · have := sq_nonneg t; simp; grind
  · simp; grind
theorem cosT_mul (h : Bool) (t : Rat) : cosT h t * (tP h t * tP h t + tQ h * tQ h) = tQ h * tQ h - tP h t * tP h t := by
  unfold cosT tP tQ
  have h1 := one_sq t
  cases h
  · simp; grind
  · simp; grind
theorem sinT_mul (h : Bool) (t : Rat) (hg : GoodT h t) : sinT t * (tP h t * tP h t + tQ h * tQ h) = tP h t * tQ h + tP h t * tQ h := by
  unfold sinT tP tQ
  have h1 := one_sq t
  cases h
  · simp; grind
  · have := hg rfl; subst this; simp; grind
theorem cos_sin (h : Bool) (t : Rat) (hg : GoodT h t) : cosT h t * cosT h t + sinT t * sinT t = 1 := by
  have h1 := cosT_mul h t
  have h2 := sinT_mul h t hg
  have h3 := tPQ_pos h t
  generalize cosT h t = c at *
  generalize sinT t = s at *
  generalize tP h t = p at *
  generalize tQ h = q at *
  grind
theorem thenT_spec (h1 : Bool) (t1 : Rat) (h2 : Bool) (t2 : Rat) : ∃ m : Rat, m ≠ 0 ∧
    tP (thenT h1 t1 h2 t2).1 (thenT h1 t1 h2 t2).2 * m = tP h1 t1 * tQ h2 + tP h2 t2 * tQ h1 ∧ tQ (thenT h1 t1 h2 t2).1 * m = tQ h1 * tQ h2 - tP h1 t1 * tP h2 t2 := by
  unfold thenT oppT tP tQ
  cases h1 <;> cases h2 <;> simp only
  · by_cases h : 1 - t1 * t2 = 0
    · refine ⟨t1 + t2, ?_, ?_, ?_⟩
      · intro h0
        have := sq_nonneg t1
        have h3 : t1 * t1 = -1 := by grind
        rw [h3] at this
        exact absurd this (by decide)
      · simp [h] <;> grind
      · simp [h] <;> grind
    · refine ⟨1 - t1 * t2, h, ?_, ?_⟩
      · simp [h] <;> grind
      · simp [h] <;> grind
  · by_cases h : t1 = 0
    · subst h; exact ⟨1, by grind, by simp <;> grind, by simp <;> grind⟩
    · exact ⟨-t1, by grind, by simp [h] <;> grind, by simp [h] <;> grind⟩
  · by_cases h : t2 = 0
    · subst h; exact ⟨1, by grind, by simp <;> grind, by simp <;> grind⟩
    · exact ⟨-t2, by grind, by simp [h] <;> grind, by simp [h] <;> grind⟩
  · exact ⟨-1, by grind, by simp <;> grind, by simp <;> grind⟩
theorem tPQ_inj {h1 : Bool} {t1 : Rat} {h2 : Bool} {t2 : Rat} (g1 : GoodT h1 t1) (g2 : GoodT h2 t2) (h : tP h1 t1 * tQ h2 = tP h2 t2 * tQ h1) : h1 = h2 ∧ t1 = t2 := by
  unfold tP tQ at h
  cases h1 <;> cases h2
  · simp at h; exact ⟨rfl, by grind⟩
  · simp at h
  · simp at h
  · exact ⟨rfl, by rw [g1 rfl, g2 rfl]⟩
theorem then_assoc {h1 h2 h3 : Bool} {t1 t2 t3 : Rat} :
    (thenT (thenT h1 t1 h2 t2).1 (thenT h1 t1 h2 t2).2 h3 t3).1 = (thenT h1 t1 (thenT h2 t2 h3 t3).1 (thenT h2 t2 h3 t3).2).1 ∧ (thenT (thenT h1 t1 h2 t2).1 (thenT h1 t1 h2 t2).2 h3 t3).2 = (thenT h1 t1 (thenT h2 t2 h3 t3).1 (thenT h2 t2 h3 t3).2).2 := by
  refine tPQ_inj (thenT_good _ _ _ _) (thenT_good _ _ _ _) ?_
  obtain ⟨m1, n1, a1, b1⟩ := thenT_spec h1 t1 h2 t2
  obtain ⟨m2, n2, a2, b2⟩ := thenT_spec h2 t2 h3 t3
  obtain ⟨m3, n3, a3, b3⟩ := thenT_spec (thenT h1 t1 h2 t2).1 (thenT h1 t1 h2 t2).2 h3 t3
  obtain ⟨m4, n4, a4, b4⟩ := thenT_spec h1 t1 (thenT h2 t2 h3 t3).1 (thenT h2 t2 h3 t3).2
  generalize thenT (thenT h1 t1 h2 t2).1 (thenT h1 t1 h2 t2).2 h3 t3 = r3 at *
  generalize thenT h1 t1 (thenT h2 t2 h3 t3).1 (thenT h2 t2 h3 t3).2 = r4 at *
  generalize thenT h1 t1 h2 t2 = r1 at *
  generalize thenT h2 t2 h3 t3 = r2 at *
  generalize tP r1.1 r1.2 = p1 at *
  generalize tQ r1.1 = q1 at *
  generalize tP r2.1 r2.2 = p2 at *
  generalize tQ r2.1 = q2 at *
  generalize tP r3.1 r3.2 = p3 at *
  generalize tQ r3.1 = q3 at *
  generalize tP r4.1 r4.2 = p4 at *
  generalize tQ r4.1 = q4 at *
  generalize tP h1 t1 = P1 at *
  generalize tP h2 t2 = P2 at *
  generalize tP h3 t3 = P3 at *
  generalize tQ h1 = Q1 at *
  generalize tQ h2 = Q2 at *
  generalize tQ h3 = Q3 at *
  have k1 : p3 * (m3 * m1) = (P1 * Q2 + P2 * Q1) * Q3 + P3 * (Q1 * Q2 - P1 * P2) := by grind
  have k2 : q3 * (m3 * m1) = (Q1 * Q2 - P1 * P2) * Q3 - (P1 * Q2 + P2 * Q1) * P3 := by grind
  have k3 : p4 * (m4 * m2) = P1 * (Q2 * Q3 - P2 * P3) + (P2 * Q3 + P3 * Q2) * Q1 := by grind
  have k4 : q4 * (m4 * m2) = Q1 * (Q2 * Q3 - P2 * P3) - P1 * (P2 * Q3 + P3 * Q2) := by grind
  have k5 : (p3 * q4) * ((m3 * m1) * (m4 * m2)) = (p4 * q3) * ((m3 * m1) * (m4 * m2)) := by grind
  have k6 : (m3 * m1) * (m4 * m2) ≠ 0 := by
    intro h; grind
  grind
theorem then_comm (h1 : Bool) (t1 : Rat) (h2 : Bool) (t2 : Rat) : thenT h1 t1 h2 t2 = thenT h2 t2 h1 t1 := by
  unfold thenT
  cases h1 <;> cases h2 <;> simp only
  rw [Rat.mul_comm t1 t2, Rat.add_comm t1 t2]
theorem then_zero {h : Bool} {t : Rat} (g : GoodT h t) : thenT h t false 0 = (h, t) := by
  unfold thenT
  cases h
  · have h1 : ¬ ((1 : Rat) - t * 0 = 0) := by grind
    have h2 : (t + 0) / (1 - t * 0) = t := by grind
    simp only [h1, if_false, h2]
  · have := g rfl; subst this; simp [oppT]
theorem then_back {h : Bool} {t : Rat} (g : GoodT h t) : thenT h t h (-t) = (false, 0) := by
  unfold thenT
  cases h
  · have := sq_nonneg t
    have h1 : ¬ (1 - t * -t = 0) := by grind
    simp only [h1, if_false]
    have h2 : t + -t = 0 := by grind
    rw [h2]
    have h3 : (0 : Rat) / (1 - t * -t) = 0 := by grind
    rw [h3]
  · rfl
theorem alg_c {C p q m : Rat} (c : C * (p * p + q * q) = q * q - p * p) : C * ((p * p + q * q) * (m * m)) = (q * m) * (q * m) - (p * m) * (p * m) := by
  have : C * ((p * p + q * q) * (m * m)) = (C * (p * p + q * q)) * (m * m) := by grind
  rw [this, c]; grind
theorem alg_s {C p q m : Rat} (c : C * (p * p + q * q) = p * q + p * q) : C * ((p * p + q * q) * (m * m)) = (p * m) * (q * m) + (p * m) * (q * m) := by
  have : C * ((p * p + q * q) * (m * m)) = (C * (p * p + q * q)) * (m * m) := by grind
  rw [this, c]; grind
theorem alg_2 (C1 C2 S1 S2 D1 D2 : Rat) : (C1 * C2 - S1 * S2) * (D1 * D2) = (C1 * D1) * (C2 * D2) - (S1 * D1) * (S2 * D2) := by grind
theorem alg_3 (C1 C2 S1 S2 D1 D2 : Rat) : (S1 * C2 + C1 * S2) * (D1 * D2) = (S1 * D1) * (C2 * D2) + (C1 * D1) * (S2 * D2) := by grind
theorem alg_4 (P1 P2 Q1 Q2 : Rat) : (Q1 * Q2 - P1 * P2) * (Q1 * Q2 - P1 * P2) - (P1 * Q2 + P2 * Q1) * (P1 * Q2 + P2 * Q1) = (Q1 * Q1 - P1 * P1) * (Q2 * Q2 - P2 * P2) - (P1 * Q1 + P1 * Q1) * (P2 * Q2 + P2 * Q2) := by grind
theorem alg_5 (P1 P2 Q1 Q2 : Rat) : (P1 * Q2 + P2 * Q1) * (Q1 * Q2 - P1 * P2) + (P1 * Q2 + P2 * Q1) * (Q1 * Q2 - P1 * P2) = (P1 * Q1 + P1 * Q1) * (Q2 * Q2 - P2 * P2) + (Q1 * Q1 - P1 * P1) * (P2 * Q2 + P2 * Q2) := by grind
theorem alg_6 (P1 P2 Q1 Q2 p q m : Rat) (a : p * m = P1 * Q2 + P2 * Q1) (b : q * m = Q1 * Q2 - P1 * P2) : (p * p + q * q) * (m * m) = (P1 * P1 + Q1 * Q1) * (P2 * P2 + Q2 * Q2) := by
  have : (p * p + q * q) * (m * m) = (p * m) * (p * m) + (q * m) * (q * m) := by grind
  rw [this, a, b]; grind
theorem mul_cancel {x y d : Rat} (hd : d ≠ 0) (h : x * d = y * d) : x = y := by
  have h1 : x * d / d = y * d / d := by rw [h]
  rwa [Rat.mul_div_cancel hd, Rat.mul_div_cancel hd] at h1
theorem cos_then (h1 : Bool) (t1 : Rat) (h2 : Bool) (t2 : Rat) (g1 : GoodT h1 t1) (g2 : GoodT h2 t2) : cosT (thenT h1 t1 h2 t2).1 (thenT h1 t1 h2 t2).2 = cosT h1 t1 * cosT h2 t2 - sinT t1 * sinT t2 := by
  obtain ⟨m, n, a, b⟩ := thenT_spec h1 t1 h2 t2
  have c := cosT_mul (thenT h1 t1 h2 t2).1 (thenT h1 t1 h2 t2).2
  have d := tPQ_pos (thenT h1 t1 h2 t2).1 (thenT h1 t1 h2 t2).2
  have c1 := cosT_mul h1 t1
  have c2 := cosT_mul h2 t2
  have s1 := sinT_mul h1 t1 g1
  have s2 := sinT_mul h2 t2 g2
  have d1 := tPQ_pos h1 t1
  have d2 := tPQ_pos h2 t2
  generalize thenT h1 t1 h2 t2 = r at *
  generalize cosT r.1 r.2 = C at *
  generalize tP r.1 r.2 = p at *
  generalize tQ r.1 = q at *
  generalize tP h1 t1 = P1 at *
  generalize tP h2 t2 = P2 at *
  generalize tQ h1 = Q1 at *
  generalize tQ h2 = Q2 at *
  generalize cosT h1 t1 = C1 at *
  generalize cosT h2 t2 = C2 at *
  generalize sinT t1 = S1 at *
  generalize sinT t2 = S2 at *
  have e := alg_6 P1 P2 Q1 Q2 p q m a b
  have l := alg_c (m := m) c
  rw [e, b, a, alg_4, ← c1, ← c2, ← s1, ← s2, ← alg_2] at l
  exact mul_cancel (by
    intro h; rcases Rat.mul_eq_zero.1 h with h | h
    · exact d1 h
    · exact d2 h) l
theorem sin_then (h1 : Bool) (t1 : Rat) (h2 : Bool) (t2 : Rat) (g1 : GoodT h1 t1) (g2 : GoodT h2 t2) : sinT (thenT h1 t1 h2 t2).2 = sinT t1 * cosT h2 t2 + cosT h1 t1 * sinT t2 := by
  obtain ⟨m, n, a, b⟩ := thenT_spec h1 t1 h2 t2
  have c := sinT_mul (thenT h1 t1 h2 t2).1 (thenT h1 t1 h2 t2).2 (thenT_good _ _ _ _)
  have d := tPQ_pos (thenT h1 t1 h2 t2).1 (thenT h1 t1 h2 t2).2
  have c1 := cosT_mul h1 t1
  have c2 := cosT_mul h2 t2
  have s1 := sinT_mul h1 t1 g1
  have s2 := sinT_mul h2 t2 g2
  have d1 := tPQ_pos h1 t1
  have d2 := tPQ_pos h2 t2
  generalize thenT h1 t1 h2 t2 = r at *
  generalize sinT r.2 = C at *
  generalize tP r.1 r.2 = p at *
  generalize tQ r.1 = q at *
  generalize tP h1 t1 = P1 at *
  generalize tP h2 t2 = P2 at *
  generalize tQ h1 = Q1 at *
  generalize tQ h2 = Q2 at *
  generalize cosT h1 t1 = C1 at *
  generalize cosT h2 t2 = C2 at *
  generalize sinT t1 = S1 at *
  generalize sinT t2 = S2 at *
  have e := alg_6 P1 P2 Q1 Q2 p q m a b
  have l := alg_s (m := m) c
  rw [e, b, a, alg_5, ← c1, ← c2, ← s1, ← s2, ← alg_3] at l
  exact mul_cancel (by
    intro h; rcases Rat.mul_eq_zero.1 h with h | h
    · exact d1 h
    · exact d2 h) l
theorem cos_back (h : Bool) (t : Rat) : cosT h (-t) = cosT h t := by
  unfold cosT
  have : -t * -t = t * t := by grind
  rw [this]
theorem sin_back (t : Rat) : sinT (-t) = -sinT t := by
  unfold sinT
  have : -t * -t = t * t := by grind
  rw [this]
  have := one_sq t
  grind
theorem good_neg {h : Bool} {t : Rat} (g : GoodT h t) : GoodT h (-t) := by
  intro e; rw [g e]; rfl
/-! ### vectors -/
theorem vl1 (a b c d : Rat) : (a * c + b * d) * (a * c + b * d) + (a * d - b * c) * (a * d - b * c) = (a * a + b * b) * (c * c + d * d) := by grind
theorem vl2 {C S : Rat} (a b c d : Rat) (h : C * C + S * S = 1) : (a * C - b * S) * (c * C - d * S) + (a * S + b * C) * (c * S + d * C) = a * c + b * d := by grind
theorem vl3 {C S : Rat} (a b c d : Rat) (h : C * C + S * S = 1) : (a * C - b * S) * (c * S + d * C) - (a * S + b * C) * (c * C - d * S) = a * d - b * c := by grind
theorem vl4 (C S a b c d : Rat) : (a + c) * C - (b + d) * S = (a * C - b * S) + (c * C - d * S) ∧ (a + c) * S + (b + d) * C = (a * S + b * C) + (c * S + d * C) := by
  constructor <;> grind
theorem vl5 {h : Bool} {t : Rat} (a b : Rat) (e : cosT h t * cosT h t + sinT t * sinT t = 1) : (a * cosT h t - b * sinT t) * cosT h (-t) - (a * sinT t + b * cosT h t) * sinT (-t) = a ∧ (a * cosT h t - b * sinT t) * sinT (-t) + (a * sinT t + b * cosT h t) * cosT h (-t) = b := by
  rw [cos_back, sin_back]
  generalize cosT h t = C at *
  generalize sinT t = S at *
  constructor <;> grind
theorem vl6 (a b c d : Rat) : (a + c) - c = a ∧ (b + d) - d = b := by constructor <;> grind
theorem vl7 (a b c d : Rat) : c * b - d * a = -(a * d - b * c) := by grind
theorem vl8 (a b : Rat) : a * (((1 : Int) : Rat) / ((3 : Int) : Rat)) + a * (((2 : Int) : Rat) / ((3 : Int) : Rat)) = a ∧ b * (((1 : Int) : Rat) / ((3 : Int) : Rat)) + b * (((2 : Int) : Rat) / ((3 : Int) : Rat)) = b := by
  have h1 : ((1 : Int) : Rat) = 1 := rfl
  have h2 : ((2 : Int) : Rat) = 2 := rfl
  have h3 : ((3 : Int) : Rat) = 3 := rfl
  rw [h1, h2, h3]
  constructor <;> grind
end Go.Proofs.YtiejgkmjaphbcaaDoor
