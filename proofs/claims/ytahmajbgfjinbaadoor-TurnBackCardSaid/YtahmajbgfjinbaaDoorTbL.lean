/- Joined texts. -/
import Derived.Test.YtahmajbgfjinbaaDoorSpL
import Derived.Test.YtahmajbgfjinbaaDoorShL

/- Plain laws: the turn to a vector, turns compared. -/
namespace Go.Proofs.YtahmajbgfjinbaaDoor
open Go.RowKit
set_option linter.unusedVariables false
set_option linter.unusedSimpArgs false

/-- the square of a number in lowest terms -/
theorem sq_parts (r : Rat) : (r * r).num = r.num * r.num ∧ (r * r).den = r.den * r.den := by
  have h : Nat.Coprime (r.num * r.num).natAbs (r.den * r.den) := by
    rw [Int.natAbs_mul]
    exact Nat.Coprime.mul_left (Nat.Coprime.mul_right r.reduced r.reduced) (Nat.Coprime.mul_right r.reduced r.reduced)
  have e : Nat.gcd (r.num * r.num).natAbs (r.den * r.den) = 1 := h
  rw [Rat.mul_def, Rat.normalize_eq]
  simp [e]
theorem sq_num (r : Rat) : (r * r).num.natAbs = r.num.natAbs * r.num.natAbs := by
  rw [(sq_parts r).1, Int.natAbs_mul]
theorem sq_den (r : Rat) : (r * r).den = r.den * r.den := (sq_parts r).2
def cmpT (h1 : Bool) (t1 : Rat) (h2 : Bool) (t2 : Rat) : Int :=
  if h1 = true then (if h2 = true then 0 else 1) else if h2 = true then -1 else cmpQ t1 t2
theorem cmpQ_anti (a b : Rat) : cmpQ a b = -cmpQ b a := by
  unfold cmpQ; split <;> (try split) <;> (try split) <;> first | rfl | (exfalso; grind)
theorem cmpQ_zero' (a b : Rat) : cmpQ a b = 0 ↔ a = b := by
  unfold cmpQ; split
  · exact ⟨fun h => absurd h (by decide), fun h => by grind⟩
  · split
    · exact ⟨fun h => absurd h (by decide), fun h => by grind⟩
    · exact ⟨fun _ => by grind, fun _ => rfl⟩
theorem cmpT_anti (h1 : Bool) (t1 : Rat) (h2 : Bool) (t2 : Rat) : cmpT h1 t1 h2 t2 = -cmpT h2 t2 h1 t1 := by
  unfold cmpT; cases h1 <;> cases h2 <;> simp
  exact cmpQ_anti _ _
theorem cmpT_zero {h1 : Bool} {t1 : Rat} {h2 : Bool} {t2 : Rat} (g1 : GoodT h1 t1) (g2 : GoodT h2 t2) : cmpT h1 t1 h2 t2 = 0 ↔ (h1 = h2 ∧ t1 = t2) := by
  unfold cmpT
  cases h1 <;> cases h2 <;> simp
  · exact cmpQ_zero' _ _
  · rw [g1 rfl, g2 rfl]
/-- the vector of a turn and of a length -/
theorem vec_sq {r c s : Rat} (h : c * c + s * s = 1) : (r * c) * (r * c) + (r * s) * (r * s) = r * r := by grind
theorem to_half {r : Rat} {h : Bool} {t : Rat} (hh : h = true) : r + r * cosT h t = 0 := by
  subst hh; unfold cosT; simp; grind
theorem to_not {r t : Rat} (hr : 0 < r) : r + r * cosT false t ≠ 0 := by
  intro h
  have e : r * (1 + cosT false t) = 0 := by grind
  have h1 := one_sq t
  have hc : cosT false t * (1 + t * t) = 1 - t * t := by unfold cosT; simp; exact Rat.div_mul_cancel h1
  rcases Rat.mul_eq_zero.1 e with h2 | h2
  · grind
  · have : (1 + cosT false t) * (1 + t * t) = 2 := by grind
    rw [h2] at this; grind
theorem to_tan {r t : Rat} (hr : 0 < r) : (r * sinT t) / (r + r * cosT false t) = t := by
  have h0 := to_not (t := t) hr
  have h1 := one_sq t
  have hc : cosT false t * (1 + t * t) = 1 - t * t := by unfold cosT; simp; exact Rat.div_mul_cancel h1
  have hs : sinT t * (1 + t * t) = t + t := by unfold sinT; exact Rat.div_mul_cancel h1
  have e : r * sinT t = t * (r + r * cosT false t) := by
    refine mul_cancel h1 ?_
    have a : r * sinT t * (1 + t * t) = r * (t + t) := by rw [← hs]; grind
    have b : t * (r + r * cosT false t) * (1 + t * t) = t * (r * (1 + t * t) + r * (1 - t * t)) := by rw [← hc]; grind
    rw [a, b]; grind
  rw [e]; exact Rat.mul_div_cancel h0
theorem sinT_pos {t : Rat} (h : 0 < sinT t) : 0 < t := by
  have h1 := one_sq t
  have hs : sinT t * (1 + t * t) = t + t := by unfold sinT; exact Rat.div_mul_cancel h1
  have h2 := sq_nonneg t
  have := mul_lt_r h (show 0 < 1 + t * t by grind)
  grind
theorem sinT_zero : sinT 0 = 0 := by unfold sinT; decide +kernel
/-- between 0 and 180 degrees the cosine falls -/
theorem cos_falls {t u : Rat} (ht : 0 < t) (hu : 0 < u) : cmpQ (cosT false u) (cosT false t) = cmpQ t u := by
  have h1 := one_sq t
  have h2 := one_sq u
  have p1 : 0 < 1 + t * t := by have := sq_nonneg t; grind
  have p2 : 0 < 1 + u * u := by have := sq_nonneg u; grind
  have ct : cosT false t * (1 + t * t) = 1 - t * t := by unfold cosT; simp; exact Rat.div_mul_cancel h1
  have cu : cosT false u * (1 + u * u) = 1 - u * u := by unfold cosT; simp; exact Rat.div_mul_cancel h2
  have pp := mul_lt_r p1 p2
  have key : (cosT false t - cosT false u) * ((1 + t * t) * (1 + u * u)) = 2 * ((u - t) * (u + t)) := by
    have a : cosT false t * ((1 + t * t) * (1 + u * u)) = (1 - t * t) * (1 + u * u) := by rw [← ct]; grind
    have b : cosT false u * ((1 + t * t) * (1 + u * u)) = (1 - u * u) * (1 + t * t) := by rw [← cu]; grind
    grind
  unfold cmpQ
  rcases (show t < u ∨ t = u ∨ u < t by grind) with h | h | h
  · have q := mul_lt_r (show 0 < u - t by grind) (show 0 < u + t by grind)
    have : cosT false u < cosT false t := by
      apply Rat.not_le.1
      intro hle
      have := mul_le_r (show 0 ≤ cosT false u - cosT false t by grind) (show 0 ≤ (1 + t * t) * (1 + u * u) by grind)
      grind
    rw [if_pos this, if_pos h]
  · subst h; rw [if_neg (by grind), if_neg (by grind), if_neg (by grind), if_neg (by grind)]
  · have q := mul_lt_r (show 0 < t - u by grind) (show 0 < u + t by grind)
    have : cosT false t < cosT false u := by
      apply Rat.not_le.1
      intro hle
      have := mul_le_r (show 0 ≤ cosT false t - cosT false u by grind) (show 0 ≤ (1 + t * t) * (1 + u * u) by grind)
      grind
    rw [if_neg (by grind), if_pos this, if_neg (by grind), if_pos h]
end Go.Proofs.YtahmajbgfjinbaaDoor
