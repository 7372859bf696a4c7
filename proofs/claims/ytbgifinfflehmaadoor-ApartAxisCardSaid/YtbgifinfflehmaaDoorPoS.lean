/- Joined texts. -/
import Derived.Test.YtbgifinfflehmaaDoorPoA

/- Two convex polygons between which there is a line are apart by one of their sides. -/
namespace Go.Proofs.YtbgifinfflehmaaDoor
open Go.RowKit
set_option linter.unusedVariables false
set_option linter.unusedSimpArgs false

/-! ### a line between two polygons can be turned until it lies along a side -/
theorem mul_nn {a b : Rat} (ha : 0 ≤ a) (hb : 0 ≤ b) : 0 ≤ a * b := Rat.mul_nonneg ha hb
theorem mul_np {a b : Rat} (ha : 0 ≤ a) (hb : b ≤ 0) : a * b ≤ 0 := by have := Rat.mul_nonneg ha (show 0 ≤ -b by grind); grind
theorem pos_of {a b x y : Rat} (ha : 0 ≤ a) (hb : 0 ≤ b) (h : 0 < a * x + b * y) : 0 < x ∨ 0 < y := by
  rcases rat_tri 0 x with h1 | h1 | h1
  · exact .inl h1
  · rcases rat_tri 0 y with h2 | h2 | h2
    · exact .inr h2
    · subst h1; subst h2; grind
    · have := mul_np hb (show y ≤ 0 by grind); subst h1; grind
  · rcases rat_tri 0 y with h2 | h2 | h2
    · exact .inr h2
    · have := mul_np ha (show x ≤ 0 by grind); subst h2; grind
    · have := mul_np hb (show y ≤ 0 by grind); have := mul_np ha (show x ≤ 0 by grind); grind
theorem zero_of {a b : Rat} (hb : 0 < b) (ha : 0 ≤ a) (h : a * b ≤ 0) : a = 0 := by
  rcases rat_tri a 0 with h1 | h1 | h1
  · grind
  · exact h1
  · have := Rat.mul_pos h1 hb; grind
theorem zero_of' {a b : Rat} (hb : b < 0) (ha : 0 ≤ a) (h : 0 ≤ a * b) : a = 0 := by
  rcases rat_tri a 0 with h1 | h1 | h1
  · grind
  · exact h1
  · have := Rat.mul_pos h1 (show 0 < -b by grind); grind
theorem sat_alg {A B G H D E o s11 s12 s21 s22 n1 n2 k1 k2 : Rat} (hA : 0 ≤ A) (hB : 0 ≤ B) (hG : 0 ≤ G) (hH : 0 ≤ H) (hD : 0 < D) (hE : 0 < E) (ho : 0 < o)
    (e1 : G * s21 = A * E + H * s22) (e2 : H * s12 = B * E + G * s11) (e3 : D * H = A * s11 + B * s21) (e4 : D * G = A * s12 + B * s22)
    (e5 : D * o = A * n1 + B * n2) (e6 : E * o = G * k1 + H * k2) (e7 : s21 * o = A * k1 + H * n2) (e8 : s12 * o = G * n1 + B * k2) :
    (0 ≤ s11 ∧ 0 ≤ s12 ∧ 0 < n1) ∨ (0 ≤ s21 ∧ 0 ≤ s22 ∧ 0 < n2) ∨ (s11 ≤ 0 ∧ 0 ≤ s21 ∧ 0 < k1) ∨ (0 ≤ s12 ∧ s22 ≤ 0 ∧ 0 < k2) := by
  have p5 : 0 < D * o := Rat.mul_pos hD ho
  have p6 : 0 < E * o := Rat.mul_pos hE ho
  have no1 : ¬ (A = 0 ∧ B = 0) := by rintro ⟨rfl, rfl⟩; grind
  have no2 : ¬ (G = 0 ∧ H = 0) := by rintro ⟨rfl, rfl⟩; grind
  have hAE := mul_nn hA (show 0 ≤ E by grind)
  have hBE := mul_nn hB (show 0 ≤ E by grind)
  have hDH := mul_nn (show 0 ≤ D by grind) hH
  have hDG := mul_nn (show 0 ≤ D by grind) hG
  by_cases c11 : s11 ≤ 0
  · have q1 := mul_np hA c11
    have q1' := mul_np hG c11
    by_cases c22 : s22 ≤ 0
    · have q2 := mul_np hB c22
      have q2' := mul_np hH c22
      rcases pos_of hG hH (show 0 < G * k1 + H * k2 by grind) with h | h
      · right; right; left
        refine ⟨c11, ?_, h⟩
        rcases rat_tri s21 0 with g | g | g
        · have q3 := mul_np hB (show s21 ≤ 0 by grind)
          have hb : B = 0 := zero_of' g hB (by grind)
          have q4 := mul_np hG (show s21 ≤ 0 by grind)
          have hh : D * H = 0 := by grind
          have hh2 : H = 0 := zero_of hD hH (by grind)
          have ha : A = 0 := zero_of hE hA (by subst hh2; grind)
          exact absurd ⟨ha, hb⟩ no1
        · grind
        · grind
      · right; right; right
        refine ⟨?_, c22, h⟩
        rcases rat_tri s12 0 with g | g | g
        · have q3 := mul_np hA (show s12 ≤ 0 by grind)
          have ha : A = 0 := zero_of' g hA (by grind)
          have q4 := mul_np hH (show s12 ≤ 0 by grind)
          have hg : D * G = 0 := by grind
          have hg2 : G = 0 := zero_of hD hG (by grind)
          have hb : B = 0 := zero_of hE hB (by subst hg2; grind)
          exact absurd ⟨ha, hb⟩ no1
        · grind
        · grind
    · have c22' : 0 < s22 := by grind
      have q2 := mul_nn hH (show 0 ≤ s22 by grind)
      have h21 : 0 ≤ s21 := by
        rcases rat_tri s21 0 with g | g | g
        · have q4 := mul_np hG (show s21 ≤ 0 by grind)
          have hh : H = 0 := zero_of c22' hH (by grind)
          have hg : G = 0 := zero_of' g hG (by grind)
          exact absurd ⟨hg, hh⟩ no2
        · grind
        · grind
      rcases rat_tri s21 0 with g | g | g
      · grind
      · have hh : H = 0 := zero_of c22' hH (by subst g; grind)
        have ha : A = 0 := zero_of hE hA (by subst g; grind)
        subst ha
        rcases pos_of hB hB (show 0 < B * n2 + B * 0 by grind) with h | h
        · exact .inr (.inl ⟨h21, by grind, h⟩)
        · grind
      · have := Rat.mul_pos g ho
        rcases pos_of hA hH (show 0 < A * k1 + H * n2 by grind) with h | h
        · exact .inr (.inr (.inl ⟨c11, h21, h⟩))
        · exact .inr (.inl ⟨h21, by grind, h⟩)
  · have c11' : 0 < s11 := by grind
    have q1 := mul_nn hG (show 0 ≤ s11 by grind)
    have h12 : 0 ≤ s12 := by
      rcases rat_tri s12 0 with g | g | g
      · have q4 := mul_np hH (show s12 ≤ 0 by grind)
        have hg : G = 0 := zero_of c11' hG (by grind)
        have hh : H = 0 := zero_of' g hH (by grind)
        exact absurd ⟨hg, hh⟩ no2
      · grind
      · grind
    by_cases c22 : s22 ≤ 0
    · rcases rat_tri s12 0 with g | g | g
      · grind
      · have hg : G = 0 := zero_of c11' hG (by subst g; grind)
        have hb : B = 0 := zero_of hE hB (by subst g; grind)
        subst hb
        rcases pos_of hA hA (show 0 < A * n1 + A * 0 by grind) with h | h
        · exact .inl ⟨by grind, h12, h⟩
        · grind
      · have := Rat.mul_pos g ho
        rcases pos_of hG hB (show 0 < G * n1 + B * k2 by grind) with h | h
        · exact .inl ⟨by grind, h12, h⟩
        · exact .inr (.inr (.inr ⟨h12, c22, h⟩))
    · have c22' : 0 < s22 := by grind
      have q2 := mul_nn hH (show 0 ≤ s22 by grind)
      rcases pos_of hA hB (show 0 < A * n1 + B * n2 by grind) with h | h
      · exact .inl ⟨by grind, h12, h⟩
      · refine .inr (.inl ⟨?_, by grind, h⟩)
        rcases rat_tri s21 0 with g | g | g
        · have q4 := mul_np hG (show s21 ≤ 0 by grind)
          have hh : H = 0 := zero_of c22' hH (by grind)
          have hg : G = 0 := zero_of' g hG (by grind)
          exact absurd ⟨hg, hh⟩ no2
        · grind
        · grind
/-- at two corners: d1, d2 the ways to the neighbours of the one, f1, f2 to those of the other, v the way between the corners -/
theorem sat_local {a1 a2 b1 b2 c1 c2 e1 e2 v1 v2 w1 w2 : Rat} (hD : 0 < b1 * a2 - b2 * a1) (hE : 0 < e1 * c2 - e2 * c1)
    (h1 : w1 * a1 + w2 * a2 ≤ 0) (h2 : w1 * b1 + w2 * b2 ≤ 0) (h3 : 0 ≤ w1 * c1 + w2 * c2) (h4 : 0 ≤ w1 * e1 + w2 * e2) (hv : 0 < w1 * v1 + w2 * v2) :
    (0 ≤ -a2 * c1 + a1 * c2 ∧ 0 ≤ -a2 * e1 + a1 * e2 ∧ 0 < -a2 * v1 + a1 * v2) ∨ (0 ≤ b2 * c1 - b1 * c2 ∧ 0 ≤ b2 * e1 - b1 * e2 ∧ 0 < b2 * v1 - b1 * v2) ∨
    (-a2 * c1 + a1 * c2 ≤ 0 ∧ 0 ≤ b2 * c1 - b1 * c2 ∧ 0 < c2 * v1 - c1 * v2) ∨ (0 ≤ -a2 * e1 + a1 * e2 ∧ b2 * e1 - b1 * e2 ≤ 0 ∧ 0 < -e2 * v1 + e1 * v2) :=
  sat_alg (A := -(w1 * b1 + w2 * b2)) (B := -(w1 * a1 + w2 * a2)) (G := w1 * e1 + w2 * e2) (H := w1 * c1 + w2 * c2) (D := b1 * a2 - b2 * a1) (E := e1 * c2 - e2 * c1) (o := w1 * v1 + w2 * v2)
    (by grind) (by grind) h4 h3 hD hE hv (by grind) (by grind) (by grind) (by grind) (by grind) (by grind) (by grind) (by grind)
/-- a corner with its neighbours -/
theorem corner {a : Pts} (ca : Cvx a) (ha : 3 ≤ a.length) {p : Nat} (hp : p < a.length) : ∃ r s, r < a.length ∧ s < a.length ∧ (r + 1) % a.length = p ∧ (p + 1) % a.length = s ∧ 0 < lfp a p s r ∧ ∀ q, q < a.length → 0 ≤ lfp a p s q ∧ 0 ≤ lfp a r p q := by
  have hr : (p + (a.length - 1)) % a.length < a.length := Nat.mod_lt _ (by omega)
  have hs : (p + 1) % a.length < a.length := Nat.mod_lt _ (by omega)
  have e : ((p + (a.length - 1)) % a.length + 1) % a.length = p := by
    rcases Nat.eq_zero_or_pos p with h | h
    · subst h
      rw [Nat.zero_add, Nat.mod_eq_of_lt (show a.length - 1 < a.length by omega), show a.length - 1 + 1 = a.length by omega, Nat.mod_self]
    · rw [show p + (a.length - 1) = (p - 1) + a.length by omega, Nat.add_mod_right, Nat.mod_eq_of_lt (show p - 1 < a.length by omega), show p - 1 + 1 = p by omega, Nat.mod_eq_of_lt hp]
  refine ⟨_, _, hr, hs, e, rfl, ca p hp (a.length - 1) (by omega) (by omega), fun q hq => ⟨cvx_all ca hp hq, ?_⟩⟩
  have := cvx_all ca hr hq
  rwa [e] at this
/-- what does not fall along both sides does not fall towards any corner -/
theorem cone {x1 x2 f1 f2 g1 g2 r1 r2 : Rat} (hE : 0 < g1 * f2 - g2 * f1) (h1 : 0 ≤ g1 * x2 - g2 * x1) (h2 : 0 ≤ x1 * f2 - x2 * f1) (k1 : 0 ≤ r1 * f1 + r2 * f2) (k2 : 0 ≤ r1 * g1 + r2 * g2) : 0 ≤ r1 * x1 + r2 * x2 := by
  have e : (g1 * f2 - g2 * f1) * (r1 * x1 + r2 * x2) = (x1 * f2 - x2 * f1) * (r1 * g1 + r2 * g2) + (g1 * x2 - g2 * x1) * (r1 * f1 + r2 * f2) := by grind
  have p1 := Rat.mul_nonneg h2 k2
  have p2 := Rat.mul_nonneg h1 k1
  rcases rat_tri (r1 * x1 + r2 * x2) 0 with h | h | h
  · have := Rat.mul_pos hE (show 0 < -(r1 * x1 + r2 * x2) by grind); grind
  · grind
  · grind
theorem sat {a b : Pts} (ca : Cvx a) (cb : Cvx b) (ha : 3 ≤ a.length) (hb : 3 ≤ b.length) {w1 w2 : Rat}
    (hw : ∀ p q, p < a.length → q < b.length → w1 * px a p + w2 * py a p < w1 * px b q + w2 * py b q) : meetB a b = false := by
  obtain ⟨p, hpe⟩ : ∃ p, supF a w1 w2 a.length = p := ⟨_, rfl⟩
  obtain ⟨q, hqe⟩ : ∃ q, supF b (-w1) (-w2) b.length = q := ⟨_, rfl⟩
  have hp : p < a.length := hpe ▸ sup_lt _ (by omega)
  have hq : q < b.length := hqe ▸ sup_lt _ (by omega)
  have mp := fun j hj => sup_le (ps := a) (x := w1) (y := w2) a.length j hj
  have mq := fun j hj => sup_le (ps := b) (x := -w1) (y := -w2) b.length j hj
  rw [hpe] at mp
  rw [hqe] at mq
  obtain ⟨r, s, hr, hs, er, es, hD, hall⟩ := corner ca ha hp
  obtain ⟨t, u, ht, hu, et, eu, hE, hall2⟩ := corner cb hb hq
  have w0 := hw p q hp hq
  have m1 := mp r hr; have m2 := mp s hs; have m3 := mq t ht; have m4 := mq u hu
  have key := sat_local (a1 := px a r - px a p) (a2 := py a r - py a p) (b1 := px a s - px a p) (b2 := py a s - py a p) (c1 := px b t - px b q) (c2 := py b t - py b q) (e1 := px b u - px b q) (e2 := py b u - py b q) (v1 := px b q - px a p) (v2 := py b q - py a p) (w1 := w1) (w2 := w2)
    (by unfold lfp lf at hD; exact hD) (by unfold lfp lf at hE; exact hE) (by grind) (by grind) (by grind) (by grind) (by grind)
  have coneB : ∀ r1 r2 : Rat, 0 ≤ r1 * (px b t - px b q) + r2 * (py b t - py b q) → 0 ≤ r1 * (px b u - px b q) + r2 * (py b u - py b q) → ∀ j, j < b.length → 0 ≤ r1 * (px b j - px b q) + r2 * (py b j - py b q) := by
    intro r1 r2 k1 k2 j hj
    have h1 := (hall2 j hj).1
    have h2 := (hall2 j hj).2
    unfold lfp lf at h1 h2 hE
    exact cone hE h1 (by grind) k1 k2
  have coneA : ∀ r1 r2 : Rat, r1 * (px a r - px a p) + r2 * (py a r - py a p) ≤ 0 → r1 * (px a s - px a p) + r2 * (py a s - py a p) ≤ 0 → ∀ j, j < a.length → r1 * (px a j - px a p) + r2 * (py a j - py a p) ≤ 0 := by
    intro r1 r2 k1 k2 j hj
    have h1 := (hall j hj).1
    have h2 := (hall j hj).2
    unfold lfp lf at h1 h2 hD
    have := cone (r1 := -r1) (r2 := -r2) hD h1 (by grind) (by grind) (by grind)
    grind
  have sideA : ∀ i, i < a.length → (∀ j, j < b.length → 0 < dt a b i j) → meetB a b = false := by
    intro i hi h
    have h1 : bydB a b = true := by
      unfold bydB; rw [List.any_eq_true]
      exact ⟨i, List.mem_range.2 hi, by unfold sepB; rw [List.all_eq_true]; intro j hj; exact decide_eq_true (h j (List.mem_range.1 hj))⟩
    unfold meetB; rw [h1]; rfl
  have sideB : ∀ i, i < b.length → (∀ j, j < a.length → 0 < dt b a i j) → meetB a b = false := by
    intro i hi h
    have h1 : bydB b a = true := by
      unfold bydB; rw [List.any_eq_true]
      exact ⟨i, List.mem_range.2 hi, by unfold sepB; rw [List.all_eq_true]; intro j hj; exact decide_eq_true (h j (List.mem_range.1 hj))⟩
    unfold meetB; rw [h1]; simp
  rcases key with ⟨k1, k2, k3⟩ | ⟨k1, k2, k3⟩ | ⟨k1, k2, k3⟩ | ⟨k1, k2, k3⟩
  · refine sideA r hr fun j hj => ?_
    have := coneB (-(py a r - py a p)) (px a r - px a p) k1 k2 j hj
    unfold dt; rw [er]; grind
  · refine sideA p hp fun j hj => ?_
    have := coneB (py a s - py a p) (-(px a s - px a p)) (by grind) (by grind) j hj
    unfold dt; rw [es]; grind
  · refine sideB t ht fun j hj => ?_
    have := coneA (py b t - py b q) (-(px b t - px b q)) (by grind) (by grind) j hj
    unfold dt; rw [et]; grind
  · refine sideB q hq fun j hj => ?_
    have := coneA (-(py b u - py b q)) (px b u - px b q) (by grind) (by grind) j hj
    unfold dt; rw [eu]; grind
end Go.Proofs.YtbgifinfflehmaaDoor
