/- Joined texts. -/
import Derived.Test.YtahmajbgfjinbaaDoorSp5

/- Plain laws: what is taken from spans is in the result. -/
namespace Go.Proofs.YtahmajbgfjinbaaDoor
open Go.RowKit
set_option linter.unusedVariables false
set_option linter.unusedSimpArgs false

theorem mul_le_r {a b c : Rat} (h : a ≤ b) (hc : 0 ≤ c) : a * c ≤ b * c := by
  rcases rat_tri a b with h1 | h1 | h1
  · rcases rat_tri c 0 with h2 | h2 | h2
    · grind
    · subst h2; grind
    · have := mul_lt_r h1 h2; grind
  · subst h1; grind
  · grind
theorem mul_ge_r {a b c : Rat} (h : a ≤ b) (hc : c ≤ 0) : b * c ≤ a * c := by
  have := mul_le_r h (show 0 ≤ -c by grind); grind
/-- a product lies between the products with the ends -/
theorem lin_lo {l h a : Rat} (b : Rat) (h1 : l ≤ a) (h2 : a ≤ h) : minQ (l * b) (h * b) ≤ a * b := by
  have e1 := min_le_l (l * b) (h * b)
  have e2 := min_le_r (l * b) (h * b)
  rcases rat_tri b 0 with hb | hb | hb
  · have := mul_ge_r h2 (show b ≤ 0 by grind); grind
  · subst hb; grind
  · have := mul_le_r h1 (show 0 ≤ b by grind); grind
theorem lin_hi {l h a : Rat} (b : Rat) (h1 : l ≤ a) (h2 : a ≤ h) : a * b ≤ maxQ (l * b) (h * b) := by
  have e1 := le_max_l (l * b) (h * b)
  have e2 := le_max_r (l * b) (h * b)
  rcases rat_tri b 0 with hb | hb | hb
  · have := mul_ge_r h1 (show b ≤ 0 by grind); grind
  · subst hb; grind
  · have := mul_le_r h2 (show 0 ≤ b by grind); grind
theorem min4_le (x y z u : Rat) : minQ (minQ (minQ x y) z) u ≤ x ∧ minQ (minQ (minQ x y) z) u ≤ y ∧ minQ (minQ (minQ x y) z) u ≤ z ∧ minQ (minQ (minQ x y) z) u ≤ u := by
  have a := min_le_l x y
  have b := min_le_r x y
  have c := min_le_l (minQ x y) z
  have d := min_le_r (minQ x y) z
  have e := min_le_l (minQ (minQ x y) z) u
  have f := min_le_r (minQ (minQ x y) z) u
  grind
theorem le_max4 (x y z u : Rat) : x ≤ maxQ (maxQ (maxQ x y) z) u ∧ y ≤ maxQ (maxQ (maxQ x y) z) u ∧ z ≤ maxQ (maxQ (maxQ x y) z) u ∧ u ≤ maxQ (maxQ (maxQ x y) z) u := by
  have a := le_max_l x y
  have b := le_max_r x y
  have c := le_max_l (maxQ x y) z
  have d := le_max_r (maxQ x y) z
  have e := le_max_l (maxQ (maxQ x y) z) u
  have f := le_max_r (maxQ (maxQ x y) z) u
  grind
theorem mul_in {l h u v a b : Rat} (h1 : l ≤ a) (h2 : a ≤ h) (h3 : u ≤ b) (h4 : b ≤ v) :
    minQ (minQ (minQ (l * u) (l * v)) (h * u)) (h * v) ≤ a * b ∧ a * b ≤ maxQ (maxQ (maxQ (l * u) (l * v)) (h * u)) (h * v) := by
  obtain ⟨m1, m2, m3, m4⟩ := min4_le (l * u) (l * v) (h * u) (h * v)
  obtain ⟨n1, n2, n3, n4⟩ := le_max4 (l * u) (l * v) (h * u) (h * v)
  have a1 := lin_lo b h1 h2
  have a2 := lin_hi b h1 h2
  have b1 := lin_lo l h3 h4
  have b2 := lin_hi l h3 h4
  have c1 := lin_lo h h3 h4
  have c2 := lin_hi h h3 h4
  have d1 := le_min (show minQ (minQ (minQ (l * u) (l * v)) (h * u)) (h * v) ≤ u * l by grind) (show minQ (minQ (minQ (l * u) (l * v)) (h * u)) (h * v) ≤ v * l by grind)
  have d2 := le_min (show minQ (minQ (minQ (l * u) (l * v)) (h * u)) (h * v) ≤ u * h by grind) (show minQ (minQ (minQ (l * u) (l * v)) (h * u)) (h * v) ≤ v * h by grind)
  have d3 := max_le (show u * l ≤ maxQ (maxQ (maxQ (l * u) (l * v)) (h * u)) (h * v) by grind) (show v * l ≤ maxQ (maxQ (maxQ (l * u) (l * v)) (h * u)) (h * v) by grind)
  have d4 := max_le (show u * h ≤ maxQ (maxQ (maxQ (l * u) (l * v)) (h * u)) (h * v) by grind) (show v * h ≤ maxQ (maxQ (maxQ (l * u) (l * v)) (h * u)) (h * v) by grind)
  generalize minQ (minQ (minQ (l * u) (l * v)) (h * u)) (h * v) = L at *
  generalize maxQ (maxQ (maxQ (l * u) (l * v)) (h * u)) (h * v) = H at *
  have f1 := le_min (show L ≤ l * b by grind) (show L ≤ h * b by grind)
  have f2 := max_le (show l * b ≤ H by grind) (show h * b ≤ H by grind)
  grind
theorem add_in {l h u v a b : Rat} (h1 : l ≤ a) (h2 : a ≤ h) (h3 : u ≤ b) (h4 : b ≤ v) : l + u ≤ a + b ∧ a + b ≤ h + v := by grind
theorem sub_in {l h u v a b : Rat} (h1 : l ≤ a) (h2 : a ≤ h) (h3 : u ≤ b) (h4 : b ≤ v) : l - v ≤ a - b ∧ a - b ≤ h - u := by grind
theorem sq_hi {l h a : Rat} (h1 : l ≤ a) (h2 : a ≤ h) : a * a ≤ maxQ (l * l) (h * h) := by
  have e1 := le_max_l (l * l) (h * h)
  have e2 := le_max_r (l * l) (h * h)
  rcases rat_tri a 0 with ha | ha | ha
  · have a1 := mul_ge_r h1 (show a ≤ 0 by grind)
    have a2 := mul_ge_r h1 (show l ≤ 0 by grind)
    grind
  · subst ha; have := sq_nonneg l; grind
  · have a1 := mul_le_r h2 (show 0 ≤ a by grind)
    have a2 := mul_le_r h2 (show 0 ≤ h by grind)
    grind
theorem sq_lo {l h a : Rat} (h1 : l ≤ a) (h2 : a ≤ h) (h0 : ¬ (l ≤ 0 ∧ 0 ≤ h)) : minQ (l * l) (h * h) ≤ a * a := by
  have e1 := min_le_l (l * l) (h * h)
  have e2 := min_le_r (l * l) (h * h)
  rcases rat_tri l 0 with hl | hl | hl
  · have a1 := mul_ge_r h2 (show a ≤ 0 by grind)
    have a2 := mul_ge_r h2 (show h ≤ 0 by grind)
    grind
  · grind
  · have a1 := mul_le_r h1 (show 0 ≤ a by grind)
    have a2 := mul_le_r h1 (show 0 ≤ l by grind)
    grind
def sqLo (l h : Rat) : Rat := if l ≤ 0 ∧ 0 ≤ h then 0 else minQ (l * l) (h * h)
theorem sq_in {l h a : Rat} (h1 : l ≤ a) (h2 : a ≤ h) : sqLo l h ≤ a * a ∧ a * a ≤ maxQ (l * l) (h * h) := by
  refine ⟨?_, sq_hi h1 h2⟩
  unfold sqLo
  by_cases h0 : l ≤ 0 ∧ 0 ≤ h
  · rw [if_pos h0]; exact sq_nonneg a
  · rw [if_neg h0]; exact sq_lo h1 h2 h0
theorem sqLo_le {l h : Rat} (hle : l ≤ h) : sqLo l h ≤ maxQ (l * l) (h * h) := by
  have := sq_in (Rat.le_refl (a := l)) hle; grind
theorem inv_le {u v b : Rat} (h1 : u ≤ b) (h2 : b ≤ v) (h0 : ¬ (u ≤ 0 ∧ 0 ≤ v)) : (1 : Rat) / v ≤ 1 / b := by
  have hb : b ≠ 0 := by intro e; subst e; exact h0 ⟨h1, h2⟩
  have hv : v ≠ 0 := by intro e; subst e; exact h0 ⟨by grind, by grind⟩
  have e1 : (1 / v) * (b * v) = b := by grind
  have e2 : (1 / b) * (b * v) = v := by grind
  have hp : 0 < b * v := by
    rcases rat_tri b 0 with hb1 | hb1 | hb1
    · have hv1 : v < 0 := by grind
      have := mul_lt_r (show 0 < -b by grind) (show 0 < -v by grind); grind
    · exact absurd hb1 hb
    · have := mul_lt_r hb1 (show 0 < v by grind); grind
  refine le_of_mul hp ?_
  rw [e1, e2]; exact h2
theorem inv_le2 {u v b : Rat} (h1 : u ≤ b) (h2 : b ≤ v) (h0 : ¬ (u ≤ 0 ∧ 0 ≤ v)) : (1 : Rat) / b ≤ 1 / u :=
  inv_le (Rat.le_refl (a := u)) h1 (fun h => h0 ⟨h.1, by grind⟩)
theorem div_in {l h u v a b : Rat} (h1 : l ≤ a) (h2 : a ≤ h) (h3 : u ≤ b) (h4 : b ≤ v) (h0 : ¬ (u ≤ 0 ∧ 0 ≤ v)) :
    minQ (minQ (minQ (l * (1 / v)) (l * (1 / u))) (h * (1 / v))) (h * (1 / u)) ≤ a / b ∧ a / b ≤ maxQ (maxQ (maxQ (l * (1 / v)) (l * (1 / u))) (h * (1 / v))) (h * (1 / u)) := by
  have e : a / b = a * (1 / b) := by grind
  rw [e]
  exact mul_in h1 h2 (inv_le h3 h4 h0) (inv_le2 h3 h4 h0)
theorem sgn_in {u v : Rat} (h : u ≤ v) (h0 : ¬ (u ≤ 0 ∧ 0 ≤ v)) : sgnQ u * sgnQ v = 1 := by
  unfold sgnQ; unfold cmpQ
  rcases rat_tri u 0 with hu | hu | hu <;> rcases rat_tri v 0 with hv | hv | hv <;> grind
theorem sgn_out {u v : Rat} (h0 : u ≤ 0 ∧ 0 ≤ v) : sgnQ u * sgnQ v ≤ 0 := by
  unfold sgnQ; unfold cmpQ
  rcases rat_tri u 0 with hu | hu | hu <;> rcases rat_tri v 0 with hv | hv | hv <;> grind
theorem sgn_cases (u : Rat) : sgnQ u = -1 ∨ sgnQ u = 0 ∨ sgnQ u = 1 := by
  unfold sgnQ; unfold cmpQ; grind
/-- a number of a span -/
def ptQ (l h : Rat) (k : Int) : Rat := l + (((belowN k 9 : Nat) : Int) : Rat) / ((8 : Int) : Rat) * (h - l)
theorem pt_in {l h : Rat} (k : Int) (hle : l ≤ h) : l ≤ ptQ l h k ∧ ptQ l h k ≤ h := by
  have hm := belowN_lt k (show 0 < 9 by omega)
  unfold ptQ
  have h8 : ((8 : Int) : Rat) = 8 := rfl
  have m0 : (0 : Rat) ≤ (((belowN k 9 : Nat) : Int) : Rat) := by
    have : ((0 : Int) : Rat) ≤ (((belowN k 9 : Nat) : Int) : Rat) := Rat.intCast_le_intCast.2 (by omega)
    exact this
  have m8 : (((belowN k 9 : Nat) : Int) : Rat) ≤ 8 := by
    have : (((belowN k 9 : Nat) : Int) : Rat) ≤ ((8 : Int) : Rat) := Rat.intCast_le_intCast.2 (by omega)
    exact this
  rw [h8]
  generalize (((belowN k 9 : Nat) : Int) : Rat) = m at *
  have e1 : m / 8 * (h - l) * 8 = m * (h - l) := by grind
  have e2 : 0 * (h - l) ≤ m * (h - l) := mul_le_r m0 (by grind)
  have e3 : m * (h - l) ≤ 8 * (h - l) := mul_le_r m8 (by grind)
  constructor <;> grind
end Go.Proofs.YtahmajbgfjinbaaDoor
