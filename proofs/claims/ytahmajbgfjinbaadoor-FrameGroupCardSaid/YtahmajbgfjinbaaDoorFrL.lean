/- Joined texts. -/
import Derived.Test.YtahmajbgfjinbaaDoorSpL

/- Plain laws of frames. -/
namespace Go.Proofs.YtahmajbgfjinbaaDoor
open Go.RowKit
set_option linter.unusedVariables false
set_option linter.unusedSimpArgs false

theorem opp_neg (t : Rat) : oppT (-t) = ((oppT t).1, -(oppT t).2) := by
  unfold oppT
  by_cases h : t = 0
  · subst h
    have h0 : -(0 : Rat) = 0 := by grind
    simp [h0]
  · have h1 : ¬ (-t = 0) := by grind
    have h2 : -1 / -t = -(-1 / t) := by grind
    simp only [if_neg h, if_neg h1, h2]
theorem then_neg (h1 : Bool) (t1 : Rat) (h2 : Bool) (t2 : Rat) : thenT h1 (-t1) h2 (-t2) = ((thenT h1 t1 h2 t2).1, -(thenT h1 t1 h2 t2).2) := by
  unfold thenT
  cases h1 <;> cases h2 <;> simp only
  · have e : 1 - -t1 * -t2 = 1 - t1 * t2 := by grind
    rw [e]
    by_cases h : 1 - t1 * t2 = 0
    · have h0 : -(0 : Rat) = 0 := by grind
      simp only [if_pos h, h0]
    · have h3 : (-t1 + -t2) / (1 - t1 * t2) = -((t1 + t2) / (1 - t1 * t2)) := by grind
      simp only [if_neg h, h3]
  · exact opp_neg t1
  · exact opp_neg t2
  · have h0 : -(0 : Rat) = 0 := by grind
    rw [h0]
theorem fa1 {C S : Rat} (x y : Rat) (h : C * C + S * S = 1) : x + ((((0 : Rat) - x) * C - ((0 : Rat) - y) * -S) * C - (((0 : Rat) - x) * -S + ((0 : Rat) - y) * C) * S) = 0 ∧ y + ((((0 : Rat) - x) * C - ((0 : Rat) - y) * -S) * S + (((0 : Rat) - x) * -S + ((0 : Rat) - y) * C) * C) = 0 := by
  constructor <;> grind
theorem fa2 (C S x y : Rat) : (((0 : Rat) - x) * C - ((0 : Rat) - y) * S) + (x * C - y * S) = 0 ∧ (((0 : Rat) - x) * S + ((0 : Rat) - y) * C) + (x * S + y * C) = 0 := by
  constructor <;> grind
theorem fa3 (C S x y : Rat) : x + ((0 : Rat) * C - (0 : Rat) * S) = x ∧ y + ((0 : Rat) * S + (0 : Rat) * C) = y := by
  constructor <;> grind
theorem fa4 (C S D T x y u v p q : Rat) : (x + (u * C - v * S)) + (p * (C * D - S * T) - q * (S * D + C * T)) = x + ((u + (p * D - q * T)) * C - (v + (p * T + q * D)) * S) ∧ (y + (u * S + v * C)) + (p * (S * D + C * T) + q * (C * D - S * T)) = y + ((u + (p * D - q * T)) * S + (v + (p * T + q * D)) * C) := by
  constructor <;> grind
theorem fa5 {C S : Rat} (x y p q : Rat) (h : C * C + S * S = 1) : (((0 : Rat) - x) * C - ((0 : Rat) - y) * -S) + ((x + (p * C - q * S)) * C - (y + (p * S + q * C)) * -S) = p ∧ (((0 : Rat) - x) * -S + ((0 : Rat) - y) * C) + ((x + (p * C - q * S)) * -S + (y + (p * S + q * C)) * C) = q := by
  constructor <;> grind
theorem fa6 {C S D T : Rat} (x y u v : Rat) (h : C * C + S * S = 1) :
    ((0 : Rat) - (x + (u * C - v * S))) * (C * D - S * T) - ((0 : Rat) - (y + (u * S + v * C))) * -(S * D + C * T) = (((0 : Rat) - u) * D - ((0 : Rat) - v) * -T) + ((((0 : Rat) - x) * C - ((0 : Rat) - y) * -S) * D - (((0 : Rat) - x) * -S + ((0 : Rat) - y) * C) * -T) ∧
    ((0 : Rat) - (x + (u * C - v * S))) * -(S * D + C * T) + ((0 : Rat) - (y + (u * S + v * C))) * (C * D - S * T) = (((0 : Rat) - u) * -T + ((0 : Rat) - v) * D) + ((((0 : Rat) - x) * C - ((0 : Rat) - y) * -S) * -T + (((0 : Rat) - x) * -S + ((0 : Rat) - y) * C) * D) := by
  constructor <;> grind
section
variable {h g : Bool} {t s : Rat} (gh : GoodT h t) (gg : GoodT g s) (x y u v p q : Rat)
include gh
theorem fl1 : (thenT h t h (-t)).1 = false ∧ x + ((((0 : Rat) - x) * cosT h (-t) - ((0 : Rat) - y) * sinT (-t)) * cosT h t - (((0 : Rat) - x) * sinT (-t) + ((0 : Rat) - y) * cosT h (-t)) * sinT t) = 0 ∧ y + ((((0 : Rat) - x) * cosT h (-t) - ((0 : Rat) - y) * sinT (-t)) * sinT t + (((0 : Rat) - x) * sinT (-t) + ((0 : Rat) - y) * cosT h (-t)) * cosT h t) = 0 ∧ (thenT h t h (-t)).2 = 0 := by
  rw [then_back gh, cos_back, sin_back]
  have e := fa1 x y (cos_sin h t gh)
  exact ⟨rfl, e.1, e.2, rfl⟩
theorem fl2 : (thenT h (-t) h t).1 = false ∧ (((0 : Rat) - x) * cosT h (-t) - ((0 : Rat) - y) * sinT (-t)) + (x * cosT h (-t) - y * sinT (-t)) = 0 ∧ (((0 : Rat) - x) * sinT (-t) + ((0 : Rat) - y) * cosT h (-t)) + (x * sinT (-t) + y * cosT h (-t)) = 0 ∧ (thenT h (-t) h t).2 = 0 := by
  rw [then_comm h (-t) h t, then_back gh]
  have e := fa2 (cosT h (-t)) (sinT (-t)) x y
  exact ⟨rfl, e.1, e.2, rfl⟩
theorem fl3 : (thenT h t false 0).1 = h ∧ x + ((0 : Rat) * cosT h t - (0 : Rat) * sinT t) = x ∧ y + ((0 : Rat) * sinT t + (0 : Rat) * cosT h t) = y ∧ (thenT h t false 0).2 = t := by
  rw [then_zero gh]
  have e := fa3 (cosT h t) (sinT t) x y
  exact ⟨rfl, e.1, e.2, rfl⟩
theorem fl5 : (((0 : Rat) - x) * cosT h (-t) - ((0 : Rat) - y) * sinT (-t)) + ((x + (p * cosT h t - q * sinT t)) * cosT h (-t) - (y + (p * sinT t + q * cosT h t)) * sinT (-t)) = p ∧ (((0 : Rat) - x) * sinT (-t) + ((0 : Rat) - y) * cosT h (-t)) + ((x + (p * cosT h t - q * sinT t)) * sinT (-t) + (y + (p * sinT t + q * cosT h t)) * cosT h (-t)) = q := by
  rw [cos_back, sin_back]
  exact fa5 x y p q (cos_sin h t gh)
include gg
theorem fl4 : (x + (u * cosT h t - v * sinT t)) + (p * cosT (thenT h t g s).1 (thenT h t g s).2 - q * sinT (thenT h t g s).2) = x + ((u + (p * cosT g s - q * sinT s)) * cosT h t - (v + (p * sinT s + q * cosT g s)) * sinT t) ∧ (y + (u * sinT t + v * cosT h t)) + (p * sinT (thenT h t g s).2 + q * cosT (thenT h t g s).1 (thenT h t g s).2) = y + ((u + (p * cosT g s - q * sinT s)) * sinT t + (v + (p * sinT s + q * cosT g s)) * cosT h t) := by
  rw [cos_then h t g s gh gg, sin_then h t g s gh gg]
  exact fa4 _ _ _ _ x y u v p q
theorem fl6 : (thenT h t g s).1 = (thenT g (-s) h (-t)).1 ∧
    ((0 : Rat) - (x + (u * cosT h t - v * sinT t))) * cosT (thenT h t g s).1 (-(thenT h t g s).2) - ((0 : Rat) - (y + (u * sinT t + v * cosT h t))) * sinT (-(thenT h t g s).2) = (((0 : Rat) - u) * cosT g (-s) - ((0 : Rat) - v) * sinT (-s)) + ((((0 : Rat) - x) * cosT h (-t) - ((0 : Rat) - y) * sinT (-t)) * cosT g (-s) - (((0 : Rat) - x) * sinT (-t) + ((0 : Rat) - y) * cosT h (-t)) * sinT (-s)) ∧
    ((0 : Rat) - (x + (u * cosT h t - v * sinT t))) * sinT (-(thenT h t g s).2) + ((0 : Rat) - (y + (u * sinT t + v * cosT h t))) * cosT (thenT h t g s).1 (-(thenT h t g s).2) = (((0 : Rat) - u) * sinT (-s) + ((0 : Rat) - v) * cosT g (-s)) + ((((0 : Rat) - x) * cosT h (-t) - ((0 : Rat) - y) * sinT (-t)) * sinT (-s) + (((0 : Rat) - x) * sinT (-t) + ((0 : Rat) - y) * cosT h (-t)) * cosT g (-s)) ∧
    -(thenT h t g s).2 = (thenT g (-s) h (-t)).2 := by
  rw [then_neg g s h t, then_comm g s h t]
  simp only [cos_back, sin_back]
  rw [cos_then h t g s gh gg, sin_then h t g s gh gg]
  have e := fa6 (D := cosT g s) (T := sinT s) x y u v (cos_sin h t gh)
  exact ⟨trivial, e.1, e.2, trivial⟩
end
end Go.Proofs.YtahmajbgfjinbaaDoor
