/- Joined texts: PoA PoS PoW ArL. -/
import Derived.Test.YtmchjmflkaiakaaGreatDoorPo3
/- Plain laws of polygons that are apart. -/
namespace Go.Proofs.YtmchjmflkaiakaaGreatDoor
open Go.RowKit
set_option linter.unusedVariables false
set_option linter.unusedSimpArgs false
theorem sgn_le {a : Rat} : sgnQ a ≤ 0 ↔ a ≤ 0 := by unfold sgnQ cmpQ; split <;> (try split) <;> grind
theorem cmp_le_iff {a b : Rat} : 0 ≤ cmpQ a b ↔ b ≤ a := by unfold cmpQ; split <;> (try split) <;> grind
theorem sq_nn (t : Rat) : 0 ≤ t * t := by
 rcases rat_tri t 0 with h | h | h
 ·have := Rat.mul_lt_mul_of_pos_right (show 0 < -t by grind) (show 0 < -t by grind); grind
 ·subst h; grind
 ·have := Rat.mul_lt_mul_of_pos_right h h; grind
theorem sq_ps {t : Rat} (h : t ≠ 0) : 0 < t * t := by
 rcases rat_tri t 0 with h1 | h1 | h1
 ·have := Rat.mul_lt_mul_of_pos_right (show 0 < -t by grind) (show 0 < -t by grind); grind
 ·exact absurd h1 h
 ·have := Rat.mul_lt_mul_of_pos_right h1 h1; grind
theorem div_ps {x y : Rat} (hx : 0 < x) (hy : 0 < y) : 0 < x / y := by
 have e : x / y * y = x := Rat.div_mul_cancel (by grind)
 rcases rat_tri (x / y) 0 with h | h | h
 ·have := Rat.mul_lt_mul_of_pos_right h hy; grind
 ·rw [h] at e; grind
 ·exact h
theorem div_nn {x y : Rat} (hx : 0 ≤ x) (hy : 0 < y) : 0 ≤ x / y := by
 rcases rat_tri x 0 with h | h | h
 ·grind
 ·subst h; rw [Rat.div_def, Rat.zero_mul]; exact Rat.le_refl
 ·have := div_ps h hy; grind
def dt (a b : Pts) (i j : Nat) : Rat := (py a ((i + 1) % a.length) - py a i) * (px b j - px a i) + (-(px a ((i + 1) % a.length) - px a i)) * (py b j - py a i)
def sepB (a b : Pts) (i : Nat) : Bool := (List.range b.length).all fun j => decide (0 < dt a b i j)
def bydB (a b : Pts) : Bool := (List.range a.length).any fun i => sepB a b i
def meetB (a b : Pts) : Bool := !bydB a b && !bydB b a
theorem meet_comm (a b : Pts) : meetB a b = meetB b a := by unfold meetB; rw [Bool.and_comm]
def teQ (x y ax ay bx by_ : Rat) : Rat :=
 if (x - ax) * (bx - ax) + (y - ay) * (by_ - ay) ≤ 0 then (x - ax) * (x - ax) + (y - ay) * (y - ay)
 else if (bx - ax) * (bx - ax) + (by_ - ay) * (by_ - ay) ≤ (x - ax) * (bx - ax) + (y - ay) * (by_ - ay) then (x - bx) * (x - bx) + (y - by_) * (y - by_)
 else (((bx - ax) * (y - ay) - (by_ - ay) * (x - ax)) * ((bx - ax) * (y - ay) - (by_ - ay) * (x - ax))) / ((bx - ax) * (bx - ax) + (by_ - ay) * (by_ - ay))
theorem te_pos {nx ny x y ax ay bx by_ : Rat} (h1 : nx * x + ny * y < nx * ax + ny * ay) (h2 : nx * x + ny * y < nx * bx + ny * by_) : 0 < teQ x y ax ay bx by_ := by
 unfold teQ
 split
 ·have e : (x - ax) ≠ 0 ∨ (y - ay) ≠ 0 := by
   by_cases hx : x - ax = 0
   ·right; intro hy
    have e1 : x = ax := by grind
    have e2 : y = ay := by grind
    subst e1; subst e2; grind
   ·exact .inl hx
  have := sq_nn (x - ax)
  have := sq_nn (y - ay)
  rcases e with e | e
  ·have := sq_ps e; grind
  ·have := sq_ps e; grind
 ·rename_i ht
  split
  ·have e : (x - bx) ≠ 0 ∨ (y - by_) ≠ 0 := by
    by_cases hx : x - bx = 0
    ·right; intro hy
     have e1 : x = bx := by grind
     have e2 : y = by_ := by grind
     subst e1; subst e2; grind
    ·exact .inl hx
   have := sq_nn (x - bx)
   have := sq_nn (y - by_)
   rcases e with e | e
   ·have := sq_ps e; grind
   ·have := sq_ps e; grind
  ·rename_i hs
   have hT : 0 < (x - ax) * (bx - ax) + (y - ay) * (by_ - ay) := by grind
   have hS : 0 < (bx - ax) * (bx - ax) + (by_ - ay) * (by_ - ay) := by grind
   refine div_ps (sq_ps fun hc => ?_) hS
   -- the point would lie between the ends
   have key : ((bx - ax) * (bx - ax) + (by_ - ay) * (by_ - ay)) * (nx * (x - ax) + ny * (y - ay)) = ((x - ax) * (bx - ax) + (y - ay) * (by_ - ay)) * (nx * (bx - ax) + ny * (by_ - ay)) + ((bx - ax) * (y - ay) - (by_ - ay) * (x - ax)) * (ny * (bx - ax) - nx * (by_ - ay)) := by grind
   rw [hc, Rat.zero_mul, Rat.add_zero] at key
   obtain ⟨T, hTe⟩ : ∃ T, (x - ax) * (bx - ax) + (y - ay) * (by_ - ay) = T := ⟨_, rfl⟩
   obtain ⟨Z, hZe⟩ : ∃ Z, (bx - ax) * (bx - ax) + (by_ - ay) * (by_ - ay) = Z := ⟨_, rfl⟩
   obtain ⟨U, hU⟩ : ∃ U, nx * (x - ax) + ny * (y - ay) = U := ⟨_, rfl⟩
   obtain ⟨V, hV⟩ : ∃ V, nx * (bx - ax) + ny * (by_ - ay) = V := ⟨_, rfl⟩
   rw [hTe] at hT hs key
   rw [hZe] at hS hs key
   rw [hU, hV] at key
   have hU0 : U < 0 := by rw [← hU]; grind
   have hUV : U < V := by rw [← hU, ← hV]; grind
   have hTZ : T < Z := by grind
   -- Z U = T V > T U, and T U > Z U
   have a1 := Rat.mul_lt_mul_of_pos_right hUV hT
   have a2 := Rat.mul_lt_mul_of_pos_right hTZ (show 0 < -U by grind)
   grind
def nearF (x y : Rat) (b : Pts) : Nat → Rat
 | 0 => teQ x y (px b 0) (py b 0) (px b 1) (py b 1)
 | j + 1 => minQ (nearF x y b j) (teQ x y (px b j) (py b j) (px b ((j + 1) % b.length)) (py b ((j + 1) % b.length)))
def nearQ (x y : Rat) (b : Pts) : Rat := nearF x y b b.length
def sqA (a b : Pts) : Nat → Rat
 | 0 => nearQ (px a 0) (py a 0) b
 | i + 1 => minQ (sqA a b i) (nearQ (px a i) (py a i) b)
def sqB (a b : Pts) (v : Rat) : Nat → Rat
 | 0 => v
 | j + 1 => minQ (sqB a b v j) (nearQ (px b j) (py b j) a)
def sqQ (a b : Pts) : Rat := if meetB a b = true then 0 else sqB a b (sqA a b a.length) b.length
theorem min_ll (a b : Rat) : minQ a b ≤ a := by unfold minQ cmpQ; grind
theorem min_rr (a b : Rat) : minQ a b ≤ b := by unfold minQ cmpQ; grind
theorem min_or (a b : Rat) : minQ a b = a ∨ minQ a b = b := by unfold minQ; split; exact .inl rfl; exact .inr rfl
theorem min_ps {a b : Rat} (ha : 0 < a) (hb : 0 < b) : 0 < minQ a b := by rcases min_or a b with h | h <;> rw [h] <;> assumption
theorem near_ps {x y : Rat} {b : Pts} (h2 : 2 ≤ b.length) (h : ∀ j k, j < b.length → k < b.length → 0 < teQ x y (px b j) (py b j) (px b k) (py b k)) : ∀ j, j ≤ b.length → 0 < nearF x y b j := by
 intro j
 induction j with
 | zero => intro _; exact h 0 1 (by omega) (by omega)
 | succ j ih => intro hj; exact min_ps (ih (by omega)) (h j _ (by omega) (Nat.mod_lt _ (by omega)))
theorem sqA_le {a b : Pts} : ∀ n i, i < n → sqA a b n ≤ nearQ (px a i) (py a i) b := by
 intro n
 induction n with
 | zero => intro i h; omega
 | succ n ih =>
   intro i h
   rcases Nat.lt_or_ge i n with h1 | h1
   ·have := ih i h1; have := min_ll (sqA a b n) (nearQ (px a n) (py a n) b); simp only [sqA]; grind
   ·have : i = n := by omega
    subst this; exact min_rr _ _
theorem sqA_is {a b : Pts} : ∀ n, ∃ i, (i < n ∨ i = 0) ∧ sqA a b n = nearQ (px a i) (py a i) b := by
 intro n
 induction n with
 | zero => exact ⟨0, .inr rfl, rfl⟩
 | succ n ih =>
   obtain ⟨i, h1, h2⟩ := ih
   rcases min_or (sqA a b n) (nearQ (px a n) (py a n) b) with h | h
   ·exact ⟨i, by rcases h1 with h1 | h1; exact .inl (by omega); exact .inr h1, by simp only [sqA]; rw [h, h2]⟩
   ·exact ⟨n, .inl (by omega), by simp only [sqA]; rw [h]⟩
theorem sqB_le {a b : Pts} {v : Rat} : ∀ n, sqB a b v n ≤ v ∧ ∀ j, j < n → sqB a b v n ≤ nearQ (px b j) (py b j) a := by
 intro n
 induction n with
 | zero => exact ⟨Rat.le_refl, fun j h => by omega⟩
 | succ n ih =>
   have h1 := min_ll (sqB a b v n) (nearQ (px b n) (py b n) a)
   have h2 := min_rr (sqB a b v n) (nearQ (px b n) (py b n) a)
   refine ⟨by simp only [sqB]; grind, fun j h => ?_⟩
   rcases Nat.lt_or_ge j n with h3 | h3
   ·have := ih.2 j h3; simp only [sqB]; grind
   ·have : j = n := by omega
    subst this; exact h2
theorem sqB_is {a b : Pts} {v : Rat} : ∀ n, sqB a b v n = v ∨ ∃ j, j < n ∧ sqB a b v n = nearQ (px b j) (py b j) a := by
 intro n
 induction n with
 | zero => exact .inl rfl
 | succ n ih =>
   rcases min_or (sqB a b v n) (nearQ (px b n) (py b n) a) with h | h
   ·rcases ih with h1 | ⟨j, h1, h2⟩
    ·exact .inl (by simp only [sqB]; rw [h, h1])
    ·exact .inr ⟨j, by omega, by simp only [sqB]; rw [h, h2]⟩
   ·exact .inr ⟨n, by omega, by simp only [sqB]; rw [h]⟩
theorem sq_least {a b : Pts} (ha : 0 < a.length) : (∀ i, i < a.length → sqB a b (sqA a b a.length) b.length ≤ nearQ (px a i) (py a i) b) ∧ (∀ j, j < b.length → sqB a b (sqA a b a.length) b.length ≤ nearQ (px b j) (py b j) a) ∧
  ((∃ i, i < a.length ∧ sqB a b (sqA a b a.length) b.length = nearQ (px a i) (py a i) b) ∨ (∃ j, j < b.length ∧ sqB a b (sqA a b a.length) b.length = nearQ (px b j) (py b j) a)) := by
 have h1 := sqB_le (a := a) (b := b) (v := sqA a b a.length) b.length
 refine ⟨fun i hi => ?_, h1.2, ?_⟩
 ·have := sqA_le (a := a) (b := b) a.length i hi
  have := h1.1
  grind
 ·rcases sqB_is (a := a) (b := b) (v := sqA a b a.length) b.length with h | ⟨j, h2, h3⟩
  ·obtain ⟨i, h4, h5⟩ := sqA_is (a := a) (b := b) a.length
   exact .inl ⟨i, by rcases h4 with h4 | h4 <;> omega, by rw [h, h5]⟩
  ·exact .inr ⟨j, h2, h3⟩
theorem apart_ps {a b : Pts} (ca : Cvx a) {i : Nat} (hi : i < a.length) (hs : sepB a b i = true) {p q r : Nat} :
  (p < a.length → q < b.length → r < b.length → 0 < teQ (px a p) (py a p) (px b q) (py b q) (px b r) (py b r)) ∧ (q < b.length → p < a.length → r < a.length → 0 < teQ (px b q) (py b q) (px a p) (py a p) (px a r) (py a r)) := by
 unfold sepB at hs
 rw [List.all_eq_true] at hs
 have hb : ∀ j, j < b.length → 0 < dt a b i j := fun j hj => by simpa using hs j (List.mem_range.2 hj)
 have hA : ∀ p, p < a.length → 0 ≤ lfp a i ((i + 1) % a.length) p := fun p hp => cvx_all ca hi hp
 unfold dt at hb
 unfold lfp lf at hA
 refine ⟨fun hp hq hr => ?_, fun hq hp hr => ?_⟩
 ·refine te_pos (nx := py a ((i + 1) % a.length) - py a i) (ny := -(px a ((i + 1) % a.length) - px a i)) ?_ ?_
  ·have := hA p hp; have := hb q hq; grind
  ·have := hA p hp; have := hb r hr; grind
 ·refine te_pos (nx := -(py a ((i + 1) % a.length) - py a i)) (ny := px a ((i + 1) % a.length) - px a i) ?_ ?_
  ·have := hA p hp; have := hb q hq; grind
  ·have := hA r hr; have := hb q hq; grind
theorem apart_ps2 {a b : Pts} (ca : Cvx a) (cb : Cvx b) (hm : meetB a b = false) {p q r : Nat} :
  (p < a.length → q < b.length → r < b.length → 0 < teQ (px a p) (py a p) (px b q) (py b q) (px b r) (py b r)) ∧ (q < b.length → p < a.length → r < a.length → 0 < teQ (px b q) (py b q) (px a p) (py a p) (px a r) (py a r)) := by
 unfold meetB at hm
 rw [Bool.and_eq_false_iff] at hm
 simp only [Bool.not_eq_false'] at hm
 rcases hm with hm | hm
 ·unfold bydB at hm
  rw [List.any_eq_true] at hm
  obtain ⟨i, hi, hs⟩ := hm
  exact apart_ps ca (List.mem_range.1 hi) hs
 ·unfold bydB at hm
  rw [List.any_eq_true] at hm
  obtain ⟨i, hi, hs⟩ := hm
  have h1 := fun p q r => apart_ps (p := p) (q := q) (r := r) cb (List.mem_range.1 hi) hs
  exact ⟨fun hp hq hr => (h1 q p r).2 hp hq hr, fun hq hp hr => (h1 q p r).1 hq hp hr⟩
theorem sq_ps2 {a b : Pts} (ca : Cvx a) (cb : Cvx b) (ha : 2 ≤ a.length) (hb : 2 ≤ b.length) (hm : meetB a b = false) : 0 < sqQ a b := by
 unfold sqQ
 rw [if_neg (by rw [hm]; decide)]
 rcases (sq_least (a := a) (b := b) (by omega)).2.2 with ⟨i, hi, e⟩ | ⟨j, hj, e⟩
 ·rw [e]; exact near_ps hb (fun j k hj hk => (apart_ps2 ca cb hm).1 hi hj hk) _ (Nat.le_refl _)
 ·rw [e]; exact near_ps ha (fun p k hp hk => (apart_ps2 ca cb hm).2 hj hp hk) _ (Nat.le_refl _)
theorem sq_zero {a b : Pts} (hm : meetB a b = true) : sqQ a b = 0 := if_pos hm
theorem sq_nneg {a b : Pts} (ca : Cvx a) (cb : Cvx b) (ha : 2 ≤ a.length) (hb : 2 ≤ b.length) : 0 ≤ sqQ a b := by
 cases hm : meetB a b with
 | true => rw [sq_zero hm]; exact Rat.le_refl
 | false => have := sq_ps2 ca cb ha hb hm; grind
section
variable {c s tx ty : Rat} (h : c * c + s * s = 1)
include h
end
theorem mul_nnP {a b : Rat} (ha : 0 ≤ a) (hb : 0 ≤ b) : 0 ≤ a * b := Rat.mul_nonneg ha hb
theorem mul_np {a b : Rat} (ha : 0 ≤ a) (hb : b ≤ 0) : a * b ≤ 0 := by have := Rat.mul_nonneg ha (show 0 ≤ -b by grind); grind
theorem pos_of {a b x y : Rat} (ha : 0 ≤ a) (hb : 0 ≤ b) (h : 0 < a * x + b * y) : 0 < x ∨ 0 < y := by
 rcases rat_tri 0 x with h1 | h1 | h1
 ·exact .inl h1
 ·rcases rat_tri 0 y with h2 | h2 | h2
  ·exact .inr h2
  ·subst h1; subst h2; grind
  ·have := mul_np hb (show y ≤ 0 by grind); subst h1; grind
 ·rcases rat_tri 0 y with h2 | h2 | h2
  ·exact .inr h2
  ·have := mul_np ha (show x ≤ 0 by grind); subst h2; grind
  ·have := mul_np hb (show y ≤ 0 by grind); have := mul_np ha (show x ≤ 0 by grind); grind
theorem zero_of {a b : Rat} (hb : 0 < b) (ha : 0 ≤ a) (h : a * b ≤ 0) : a = 0 := by
 rcases rat_tri a 0 with h1 | h1 | h1
 ·grind
 ·exact h1
 ·have := Rat.mul_pos h1 hb; grind
theorem zero_of' {a b : Rat} (hb : b < 0) (ha : 0 ≤ a) (h : 0 ≤ a * b) : a = 0 := by
 rcases rat_tri a 0 with h1 | h1 | h1
 ·grind
 ·exact h1
 ·have := Rat.mul_pos h1 (show 0 < -b by grind); grind
theorem sat_alg {A B G H D E o s11 s12 s21 s22 n1 n2 k1 k2 : Rat} (hA : 0 ≤ A) (hB : 0 ≤ B) (hG : 0 ≤ G) (hH : 0 ≤ H) (hD : 0 < D) (hE : 0 < E) (ho : 0 < o)
  (e1 : G * s21 = A * E + H * s22) (e2 : H * s12 = B * E + G * s11) (e3 : D * H = A * s11 + B * s21) (e4 : D * G = A * s12 + B * s22)
  (e5 : D * o = A * n1 + B * n2) (e6 : E * o = G * k1 + H * k2) (e7 : s21 * o = A * k1 + H * n2) (e8 : s12 * o = G * n1 + B * k2) :
  (0 ≤ s11 ∧ 0 ≤ s12 ∧ 0 < n1) ∨ (0 ≤ s21 ∧ 0 ≤ s22 ∧ 0 < n2) ∨ (s11 ≤ 0 ∧ 0 ≤ s21 ∧ 0 < k1) ∨ (0 ≤ s12 ∧ s22 ≤ 0 ∧ 0 < k2) := by
 have p5 : 0 < D * o := Rat.mul_pos hD ho
 have p6 : 0 < E * o := Rat.mul_pos hE ho
 have no1 : ¬ (A = 0 ∧ B = 0) := by rintro ⟨rfl, rfl⟩; grind
 have no2 : ¬ (G = 0 ∧ H = 0) := by rintro ⟨rfl, rfl⟩; grind
 have hAE := mul_nnP hA (show 0 ≤ E by grind)
 have hBE := mul_nnP hB (show 0 ≤ E by grind)
 have hDH := mul_nnP (show 0 ≤ D by grind) hH
 have hDG := mul_nnP (show 0 ≤ D by grind) hG
 by_cases c11 : s11 ≤ 0
 ·have q1 := mul_np hA c11
  have q1' := mul_np hG c11
  by_cases c22 : s22 ≤ 0
  ·have q2 := mul_np hB c22
   have q2' := mul_np hH c22
   rcases pos_of hG hH (show 0 < G * k1 + H * k2 by grind) with h | h
   ·right; right; left
    refine ⟨c11, ?_, h⟩
    rcases rat_tri s21 0 with g | g | g
    ·have q3 := mul_np hB (show s21 ≤ 0 by grind)
     have hb : B = 0 := zero_of' g hB (by grind)
     have q4 := mul_np hG (show s21 ≤ 0 by grind)
     have hh : D * H = 0 := by grind
     have hh2 : H = 0 := zero_of hD hH (by grind)
     have ha : A = 0 := zero_of hE hA (by subst hh2; grind)
     exact absurd ⟨ha, hb⟩ no1
    ·grind
    ·grind
   ·right; right; right
    refine ⟨?_, c22, h⟩
    rcases rat_tri s12 0 with g | g | g
    ·have q3 := mul_np hA (show s12 ≤ 0 by grind)
     have ha : A = 0 := zero_of' g hA (by grind)
     have q4 := mul_np hH (show s12 ≤ 0 by grind)
     have hg : D * G = 0 := by grind
     have hg2 : G = 0 := zero_of hD hG (by grind)
     have hb : B = 0 := zero_of hE hB (by subst hg2; grind)
     exact absurd ⟨ha, hb⟩ no1
    ·grind
    ·grind
  ·have c22' : 0 < s22 := by grind
   have q2 := mul_nnP hH (show 0 ≤ s22 by grind)
   have h21 : 0 ≤ s21 := by
    rcases rat_tri s21 0 with g | g | g
    ·have q4 := mul_np hG (show s21 ≤ 0 by grind)
     have hh : H = 0 := zero_of c22' hH (by grind)
     have hg : G = 0 := zero_of' g hG (by grind)
     exact absurd ⟨hg, hh⟩ no2
    ·grind
    ·grind
   rcases rat_tri s21 0 with g | g | g
   ·grind
   ·have hh : H = 0 := zero_of c22' hH (by subst g; grind)
    have ha : A = 0 := zero_of hE hA (by subst g; grind)
    subst ha
    rcases pos_of hB hB (show 0 < B * n2 + B * 0 by grind) with h | h
    ·exact .inr (.inl ⟨h21, by grind, h⟩)
    ·grind
   ·have := Rat.mul_pos g ho
    rcases pos_of hA hH (show 0 < A * k1 + H * n2 by grind) with h | h
    ·exact .inr (.inr (.inl ⟨c11, h21, h⟩))
    ·exact .inr (.inl ⟨h21, by grind, h⟩)
 ·have c11' : 0 < s11 := by grind
  have q1 := mul_nnP hG (show 0 ≤ s11 by grind)
  have h12 : 0 ≤ s12 := by
   rcases rat_tri s12 0 with g | g | g
   ·have q4 := mul_np hH (show s12 ≤ 0 by grind)
    have hg : G = 0 := zero_of c11' hG (by grind)
    have hh : H = 0 := zero_of' g hH (by grind)
    exact absurd ⟨hg, hh⟩ no2
   ·grind
   ·grind
  by_cases c22 : s22 ≤ 0
  ·rcases rat_tri s12 0 with g | g | g
   ·grind
   ·have hg : G = 0 := zero_of c11' hG (by subst g; grind)
    have hb : B = 0 := zero_of hE hB (by subst g; grind)
    subst hb
    rcases pos_of hA hA (show 0 < A * n1 + A * 0 by grind) with h | h
    ·exact .inl ⟨by grind, h12, h⟩
    ·grind
   ·have := Rat.mul_pos g ho
    rcases pos_of hG hB (show 0 < G * n1 + B * k2 by grind) with h | h
    ·exact .inl ⟨by grind, h12, h⟩
    ·exact .inr (.inr (.inr ⟨h12, c22, h⟩))
  ·have c22' : 0 < s22 := by grind
   have q2 := mul_nnP hH (show 0 ≤ s22 by grind)
   rcases pos_of hA hB (show 0 < A * n1 + B * n2 by grind) with h | h
   ·exact .inl ⟨by grind, h12, h⟩
   ·refine .inr (.inl ⟨?_, by grind, h⟩)
    rcases rat_tri s21 0 with g | g | g
    ·have q4 := mul_np hG (show s21 ≤ 0 by grind)
     have hh : H = 0 := zero_of c22' hH (by grind)
     have hg : G = 0 := zero_of' g hG (by grind)
     exact absurd ⟨hg, hh⟩ no2
    ·grind
    ·grind
theorem sat_local {a1 a2 b1 b2 c1 c2 e1 e2 v1 v2 w1 w2 : Rat} (hD : 0 < b1 * a2 - b2 * a1) (hE : 0 < e1 * c2 - e2 * c1)
  (h1 : w1 * a1 + w2 * a2 ≤ 0) (h2 : w1 * b1 + w2 * b2 ≤ 0) (h3 : 0 ≤ w1 * c1 + w2 * c2) (h4 : 0 ≤ w1 * e1 + w2 * e2) (hv : 0 < w1 * v1 + w2 * v2) :
  (0 ≤ -a2 * c1 + a1 * c2 ∧ 0 ≤ -a2 * e1 + a1 * e2 ∧ 0 < -a2 * v1 + a1 * v2) ∨ (0 ≤ b2 * c1 - b1 * c2 ∧ 0 ≤ b2 * e1 - b1 * e2 ∧ 0 < b2 * v1 - b1 * v2) ∨
  (-a2 * c1 + a1 * c2 ≤ 0 ∧ 0 ≤ b2 * c1 - b1 * c2 ∧ 0 < c2 * v1 - c1 * v2) ∨ (0 ≤ -a2 * e1 + a1 * e2 ∧ b2 * e1 - b1 * e2 ≤ 0 ∧ 0 < -e2 * v1 + e1 * v2) :=
 sat_alg (A := -(w1 * b1 + w2 * b2)) (B := -(w1 * a1 + w2 * a2)) (G := w1 * e1 + w2 * e2) (H := w1 * c1 + w2 * c2) (D := b1 * a2 - b2 * a1) (E := e1 * c2 - e2 * c1) (o := w1 * v1 + w2 * v2)
  (by grind) (by grind) h4 h3 hD hE hv (by grind) (by grind) (by grind) (by grind) (by grind) (by grind) (by grind) (by grind)
theorem corner {a : Pts} (ca : Cvx a) (ha : 3 ≤ a.length) {p : Nat} (hp : p < a.length) : ∃ r s, r < a.length ∧ s < a.length ∧ (r + 1) % a.length = p ∧ (p + 1) % a.length = s ∧ 0 < lfp a p s r ∧ ∀ q, q < a.length → 0 ≤ lfp a p s q ∧ 0 ≤ lfp a r p q := by
 have hr : (p + (a.length - 1)) % a.length < a.length := Nat.mod_lt _ (by omega)
 have hs : (p + 1) % a.length < a.length := Nat.mod_lt _ (by omega)
 have e : ((p + (a.length - 1)) % a.length + 1) % a.length = p := by
  rcases Nat.eq_zero_or_pos p with h | h
  ·subst h
   rw [Nat.zero_add, Nat.mod_eq_of_lt (show a.length - 1 < a.length by omega), show a.length - 1 + 1 = a.length by omega, Nat.mod_self]
  ·rw [show p + (a.length - 1) = (p - 1) + a.length by omega, Nat.add_mod_right, Nat.mod_eq_of_lt (show p - 1 < a.length by omega), show p - 1 + 1 = p by omega, Nat.mod_eq_of_lt hp]
 refine ⟨_, _, hr, hs, e, rfl, ca p hp (a.length - 1) (by omega) (by omega), fun q hq => ⟨cvx_all ca hp hq, ?_⟩⟩
 have := cvx_all ca hr hq
 rwa [e] at this
theorem cone {x1 x2 f1 f2 g1 g2 r1 r2 : Rat} (hE : 0 < g1 * f2 - g2 * f1) (h1 : 0 ≤ g1 * x2 - g2 * x1) (h2 : 0 ≤ x1 * f2 - x2 * f1) (k1 : 0 ≤ r1 * f1 + r2 * f2) (k2 : 0 ≤ r1 * g1 + r2 * g2) : 0 ≤ r1 * x1 + r2 * x2 := by
 have e : (g1 * f2 - g2 * f1) * (r1 * x1 + r2 * x2) = (x1 * f2 - x2 * f1) * (r1 * g1 + r2 * g2) + (g1 * x2 - g2 * x1) * (r1 * f1 + r2 * f2) := by grind
 have p1 := Rat.mul_nonneg h2 k2
 have p2 := Rat.mul_nonneg h1 k1
 rcases rat_tri (r1 * x1 + r2 * x2) 0 with h | h | h
 ·have := Rat.mul_pos hE (show 0 < -(r1 * x1 + r2 * x2) by grind); grind
 ·grind
 ·grind
theorem sat {a b : Pts} (ca : Cvx a) (cb : Cvx b) (ha : 3 ≤ a.length) (hb : 3 ≤ b.length) {w1 w2 : Rat}
  (hw : ∀ p q, p < a.length → q < b.length → w1 * px a p + w2 * py a p < w1 * px b q + w2 * py b q) : meetB a b = false := by
 obtain ⟨p, hpe⟩ : ∃ p, supF a w1 w2 a.length = p := ⟨_, rfl⟩
 obtain ⟨q, hqe⟩ : ∃ q, supF b (-w1) (-w2) b.length = q := ⟨_, rfl⟩
 have hp : p < a.length := hpe ▸ sup_lt _ (by omega)
 have hq : q < b.length := hqe ▸ sup_lt _ (by omega)
 have mp := fun j hj => sup_le (ps := a) (x := w1) (y := w2) a.length j hj
 have mq := fun j hj => sup_le (ps := b) (x := -w1) (y := -w2) b.length j hj
 rw [hpe] at mp
 rw [hqe] at mq
 obtain ⟨r, s, hr, hs, er, es, hD, hall⟩ := corner ca ha hp
 obtain ⟨t, u, ht, hu, et, eu, hE, hall2⟩ := corner cb hb hq
 have w0 := hw p q hp hq
 have m1 := mp r hr; have m2 := mp s hs; have m3 := mq t ht; have m4 := mq u hu
 have key := sat_local (a1 := px a r - px a p) (a2 := py a r - py a p) (b1 := px a s - px a p) (b2 := py a s - py a p) (c1 := px b t - px b q) (c2 := py b t - py b q) (e1 := px b u - px b q) (e2 := py b u - py b q) (v1 := px b q - px a p) (v2 := py b q - py a p) (w1 := w1) (w2 := w2)
  (by unfold lfp lf at hD; exact hD) (by unfold lfp lf at hE; exact hE) (by grind) (by grind) (by grind) (by grind) (by grind)
 have coneB : ∀ r1 r2 : Rat, 0 ≤ r1 * (px b t - px b q) + r2 * (py b t - py b q) → 0 ≤ r1 * (px b u - px b q) + r2 * (py b u - py b q) → ∀ j, j < b.length → 0 ≤ r1 * (px b j - px b q) + r2 * (py b j - py b q) := by
  intro r1 r2 k1 k2 j hj
  have h1 := (hall2 j hj).1
  have h2 := (hall2 j hj).2
  unfold lfp lf at h1 h2 hE
  exact cone hE h1 (by grind) k1 k2
 have coneA : ∀ r1 r2 : Rat, r1 * (px a r - px a p) + r2 * (py a r - py a p) ≤ 0 → r1 * (px a s - px a p) + r2 * (py a s - py a p) ≤ 0 → ∀ j, j < a.length → r1 * (px a j - px a p) + r2 * (py a j - py a p) ≤ 0 := by
  intro r1 r2 k1 k2 j hj
  have h1 := (hall j hj).1
  have h2 := (hall j hj).2
  unfold lfp lf at h1 h2 hD
  have := cone (r1 := -r1) (r2 := -r2) hD h1 (by grind) (by grind) (by grind)
  grind
 have sideA : ∀ i, i < a.length → (∀ j, j < b.length → 0 < dt a b i j) → meetB a b = false := by
  intro i hi h
  have h1 : bydB a b = true := by
   unfold bydB; rw [List.any_eq_true]
   exact ⟨i, List.mem_range.2 hi, by unfold sepB; rw [List.all_eq_true]; intro j hj; exact decide_eq_true (h j (List.mem_range.1 hj))⟩
  unfold meetB; rw [h1]; rfl
 have sideB : ∀ i, i < b.length → (∀ j, j < a.length → 0 < dt b a i j) → meetB a b = false := by
  intro i hi h
  have h1 : bydB b a = true := by
   unfold bydB; rw [List.any_eq_true]
   exact ⟨i, List.mem_range.2 hi, by unfold sepB; rw [List.all_eq_true]; intro j hj; exact decide_eq_true (h j (List.mem_range.1 hj))⟩
  unfold meetB; rw [h1]; simp
 rcases key with ⟨k1, k2, k3⟩ | ⟨k1, k2, k3⟩ | ⟨k1, k2, k3⟩ | ⟨k1, k2, k3⟩
 ·refine sideA r hr fun j hj => ?_
  have := coneB (-(py a r - py a p)) (px a r - px a p) k1 k2 j hj
  unfold dt; rw [er]; grind
 ·refine sideA p hp fun j hj => ?_
  have := coneB (py a s - py a p) (-(px a s - px a p)) (by grind) (by grind) j hj
  unfold dt; rw [es]; grind
 ·refine sideB t ht fun j hj => ?_
  have := coneA (py b t - py b q) (-(px b t - px b q)) (by grind) (by grind) j hj
  unfold dt; rw [et]; grind
 ·refine sideB q hq fun j hj => ?_
  have := coneA (-(py b u - py b q)) (px b u - px b q) (by grind) (by grind) j hj
  unfold dt; rw [eu]; grind
theorem sum_sq_zero {x y : Rat} (h : x * x + y * y ≤ 0) : x = 0 ∧ y = 0 := by
 have := sq_nn x; have := sq_nn y
 constructor
 ·by_cases hx : x = 0
  ·exact hx
  ·have := sq_ps hx; grind
 ·by_cases hy : y = 0
  ·exact hy
  ·have := sq_ps hy; grind
theorem te_symm (x y ax ay bx by_ : Rat) : teQ x y ax ay bx by_ = teQ x y bx by_ ax ay := by
 unfold teQ
 obtain ⟨T, hT⟩ : ∃ T, (x - ax) * (bx - ax) + (y - ay) * (by_ - ay) = T := ⟨_, rfl⟩
 obtain ⟨Z, hZ⟩ : ∃ Z, (bx - ax) * (bx - ax) + (by_ - ay) * (by_ - ay) = Z := ⟨_, rfl⟩
 have e1 : (x - bx) * (ax - bx) + (y - by_) * (ay - by_) = Z - T := by rw [← hT, ← hZ]; grind
 have e2 : (ax - bx) * (ax - bx) + (ay - by_) * (ay - by_) = Z := by rw [← hZ]; grind
 have e3 : ((ax - bx) * (y - by_) - (ay - by_) * (x - bx)) * ((ax - bx) * (y - by_) - (ay - by_) * (x - bx)) = ((bx - ax) * (y - ay) - (by_ - ay) * (x - ax)) * ((bx - ax) * (y - ay) - (by_ - ay) * (x - ax)) := by grind
 rw [hT, hZ, e1, e2, e3]
 by_cases h1 : T ≤ 0
 ·rw [if_pos h1]
  by_cases h2 : Z - T ≤ 0
  ·rw [if_pos h2]
   have hz : Z ≤ 0 := by grind
   rw [← hZ] at hz
   obtain ⟨u, v⟩ := sum_sq_zero hz
   have : bx = ax := by grind
   have : by_ = ay := by grind
   subst bx; subst by_; rfl
  ·rw [if_neg h2, if_pos (by grind)]
 ·rw [if_neg h1]
  by_cases h2 : Z ≤ T
  ·rw [if_pos h2, if_pos (by grind)]
  ·rw [if_neg h2, if_neg (by grind), if_neg (by grind)]
theorem div_le {x y z : Rat} (hy : 0 < y) (h : z ≤ x * y) : z / y ≤ x := by
 have e : z / y * y = z := Rat.div_mul_cancel (by grind)
 rcases rat_tri (z / y) x with h1 | h1 | h1
 ·grind
 ·grind
 ·have := Rat.mul_lt_mul_of_pos_right h1 hy; grind
theorem te_le {x y ax ay bx by_ s : Rat} (h0 : 0 ≤ s) (h1 : s ≤ 1) : teQ x y ax ay bx by_ ≤ (x - (ax + s * (bx - ax))) * (x - (ax + s * (bx - ax))) + (y - (ay + s * (by_ - ay))) * (y - (ay + s * (by_ - ay))) := by
 unfold teQ
 obtain ⟨T, hT⟩ : ∃ T, (x - ax) * (bx - ax) + (y - ay) * (by_ - ay) = T := ⟨_, rfl⟩
 obtain ⟨Z, hZ⟩ : ∃ Z, (bx - ax) * (bx - ax) + (by_ - ay) * (by_ - ay) = Z := ⟨_, rfl⟩
 obtain ⟨D, hD⟩ : ∃ D, (x - ax) * (x - ax) + (y - ay) * (y - ay) = D := ⟨_, rfl⟩
 have hZ0 : 0 ≤ Z := by rw [← hZ]; have := sq_nn (bx - ax); have := sq_nn (by_ - ay); grind
 have e : (x - (ax + s * (bx - ax))) * (x - (ax + s * (bx - ax))) + (y - (ay + s * (by_ - ay))) * (y - (ay + s * (by_ - ay))) = D - (s * T + s * T) + s * s * Z := by rw [← hD, ← hT, ← hZ]; grind
 have eb : (x - bx) * (x - bx) + (y - by_) * (y - by_) = D - (T + T) + Z := by rw [← hD, ← hT, ← hZ]; grind
 have ec : ((bx - ax) * (y - ay) - (by_ - ay) * (x - ax)) * ((bx - ax) * (y - ay) - (by_ - ay) * (x - ax)) = Z * D - T * T := by rw [← hD, ← hT, ← hZ]; grind
 rw [hT, hZ, hD, e, eb, ec]
 have q1 := mul_nnP (mul_nnP h0 h0) hZ0
 by_cases c1 : T ≤ 0
 ·rw [if_pos c1]
  have := mul_np h0 c1
  grind
 ·rw [if_neg c1]
  by_cases c2 : Z ≤ T
  ·rw [if_pos c2]
   -- (1 - s) (2 T - Z (1 + s)) is not negative
   have := mul_nnP (show 0 ≤ 1 - s by grind) (show 0 ≤ T - Z by grind)
   have := mul_nnP (mul_nnP (show 0 ≤ 1 - s by grind) (show 0 ≤ 1 - s by grind)) hZ0
   grind
  ·rw [if_neg c2]
   refine div_le (by grind) ?_
   have := sq_nn (T - s * Z)
   grind
theorem te_lt {x y ax ay bx by_ : Rat} (h : 0 < (x - ax) * (bx - ax) + (y - ay) * (by_ - ay)) : teQ x y ax ay bx by_ < (x - ax) * (x - ax) + (y - ay) * (y - ay) := by
 unfold teQ
 obtain ⟨T, hT⟩ : ∃ T, (x - ax) * (bx - ax) + (y - ay) * (by_ - ay) = T := ⟨_, rfl⟩
 obtain ⟨Z, hZ⟩ : ∃ Z, (bx - ax) * (bx - ax) + (by_ - ay) * (by_ - ay) = Z := ⟨_, rfl⟩
 obtain ⟨D, hD⟩ : ∃ D, (x - ax) * (x - ax) + (y - ay) * (y - ay) = D := ⟨_, rfl⟩
 have eb : (x - bx) * (x - bx) + (y - by_) * (y - by_) = D - (T + T) + Z := by rw [← hD, ← hT, ← hZ]; grind
 have ec : ((bx - ax) * (y - ay) - (by_ - ay) * (x - ax)) * ((bx - ax) * (y - ay) - (by_ - ay) * (x - ax)) = Z * D - T * T := by rw [← hD, ← hT, ← hZ]; grind
 rw [hT] at h
 rw [hT, hZ, hD, eb, ec, if_neg (by grind)]
 by_cases c2 : Z ≤ T
 ·rw [if_pos c2]; grind
 ·rw [if_neg c2]
  have hTT := Rat.mul_pos h h
  have hZp : 0 < Z := by grind
  have e : (Z * D - T * T) / Z * Z = Z * D - T * T := Rat.div_mul_cancel (by grind)
  rcases rat_tri ((Z * D - T * T) / Z) D with h1 | h1 | h1
  ·exact h1
  ·rw [h1] at e; grind
  ·have := Rat.mul_lt_mul_of_pos_right h1 hZp; grind
theorem te_is (x y ax ay bx by_ : Rat) : teQ x y ax ay bx by_ = (x - ax) * (x - ax) + (y - ay) * (y - ay) ∨ teQ x y ax ay bx by_ = (x - bx) * (x - bx) + (y - by_) * (y - by_) ∨
  (0 < (x - ax) * (bx - ax) + (y - ay) * (by_ - ay) ∧ (x - ax) * (bx - ax) + (y - ay) * (by_ - ay) < (bx - ax) * (bx - ax) + (by_ - ay) * (by_ - ay) ∧
   teQ x y ax ay bx by_ = (((bx - ax) * (y - ay) - (by_ - ay) * (x - ax)) * ((bx - ax) * (y - ay) - (by_ - ay) * (x - ax))) / ((bx - ax) * (bx - ax) + (by_ - ay) * (by_ - ay))) := by
 unfold teQ
 split
 ·exact .inl rfl
 ·split
  ·exact .inr (.inl rfl)
  ·exact .inr (.inr ⟨by grind, by grind, rfl⟩)
theorem cone_b {b : Pts} {q t u : Nat} (hE : 0 < lfp b q u t) (hall : ∀ j, j < b.length → 0 ≤ lfp b q u j ∧ 0 ≤ lfp b t q j) {r1 r2 : Rat} (k1 : 0 ≤ r1 * (px b t - px b q) + r2 * (py b t - py b q)) (k2 : 0 ≤ r1 * (px b u - px b q) + r2 * (py b u - py b q)) {j : Nat} (hj : j < b.length) :
  0 ≤ r1 * (px b j - px b q) + r2 * (py b j - py b q) := by
 have h1 := (hall j hj).1
 have h2 := (hall j hj).2
 unfold lfp lf at h1 h2 hE
 exact cone hE h1 (by grind) k1 k2
theorem gap_v {a b : Pts} (ca : Cvx a) (cb : Cvx b) (ha : 3 ≤ a.length) (hb : 3 ≤ b.length) {d : Rat}
  (T1 : ∀ p q, p < a.length → q < b.length → d ≤ teQ (px a p) (py a p) (px b q) (py b q) (px b ((q + 1) % b.length)) (py b ((q + 1) % b.length)))
  (T2 : ∀ q p, q < b.length → p < a.length → d ≤ teQ (px b q) (py b q) (px a p) (py a p) (px a ((p + 1) % a.length)) (py a ((p + 1) % a.length)))
  {p0 q0 : Nat} (hp : p0 < a.length) (hq : q0 < b.length) (hd : (px b q0 - px a p0) * (px b q0 - px a p0) + (py b q0 - py a p0) * (py b q0 - py a p0) = d) :
  ∃ w1 w2, w1 * w1 + w2 * w2 = d ∧ ∀ p q, p < a.length → q < b.length → d ≤ w1 * (px b q - px a p) + w2 * (py b q - py a p) := by
 obtain ⟨r, s, hr, hs, er, es, hD, hall⟩ := corner ca ha hp
 obtain ⟨t, u, ht, hu, et, eu, hE, hall2⟩ := corner cb hb hq
 refine ⟨px b q0 - px a p0, py b q0 - py a p0, hd, fun p q hpn hqn => ?_⟩
 have a1 : (px b q0 - px a p0) * (px a s - px a p0) + (py b q0 - py a p0) * (py a s - py a p0) ≤ 0 := by
  have h := T2 q0 p0 hq hp
  rw [es] at h
  by_cases c : 0 < (px b q0 - px a p0) * (px a s - px a p0) + (py b q0 - py a p0) * (py a s - py a p0)
  ·have := te_lt c; grind
  ·grind
 have a2 : (px b q0 - px a p0) * (px a r - px a p0) + (py b q0 - py a p0) * (py a r - py a p0) ≤ 0 := by
  have h := T2 q0 r hq hr
  rw [er, te_symm] at h
  by_cases c : 0 < (px b q0 - px a p0) * (px a r - px a p0) + (py b q0 - py a p0) * (py a r - py a p0)
  ·have := te_lt c; grind
  ·grind
 have b1 : 0 ≤ (px b q0 - px a p0) * (px b u - px b q0) + (py b q0 - py a p0) * (py b u - py b q0) := by
  have h := T1 p0 q0 hp hq
  rw [eu] at h
  by_cases c : 0 < (px a p0 - px b q0) * (px b u - px b q0) + (py a p0 - py b q0) * (py b u - py b q0)
  ·have := te_lt c; grind
  ·grind
 have b2 : 0 ≤ (px b q0 - px a p0) * (px b t - px b q0) + (py b q0 - py a p0) * (py b t - py b q0) := by
  have h := T1 p0 t hp ht
  rw [et, te_symm] at h
  by_cases c : 0 < (px a p0 - px b q0) * (px b t - px b q0) + (py a p0 - py b q0) * (py b t - py b q0)
  ·have := te_lt c; grind
  ·grind
 have c1 := cone_b hE hall2 b2 b1 hqn
 have c2 := cone_b hD hall (r1 := -(px b q0 - px a p0)) (r2 := -(py b q0 - py a p0)) (by grind) (by grind) hpn
 grind
theorem turn_at {f : Nat → Rat} {n : Nat} (h0 : 0 < f 1) (hn : f n ≤ 0) (h1 : 1 ≤ n) : ∃ k, 1 ≤ k ∧ k < n ∧ 0 < f k ∧ f (k + 1) ≤ 0 := by
 induction n with
 | zero => omega
 | succ n ih =>
   by_cases c : f n ≤ 0
   ·rcases Nat.lt_or_ge 0 n with h | h
    ·obtain ⟨k, k1, k2, k3⟩ := ih c h
     exact ⟨k, k1, by omega, k3⟩
    ·have : n = 0 := by omega
     subst this
     rw [Nat.zero_add] at hn; grind
   ·rcases Nat.lt_or_ge 0 n with h | h
    ·exact ⟨n, h, by omega, by grind, hn⟩
    ·have : n = 0 := by omega
     subst this
     rw [Nat.zero_add] at hn; grind
theorem out_side {b : Pts} (cb : Cvx b) (hb : 3 ≤ b.length) {j : Nat} (hj : j < b.length) {x y d g1 g2 : Rat} (hg : ∀ q, q < b.length → g1 * x + g2 * y < g1 * px b q + g2 * py b q)
  (T1 : ∀ q, q < b.length → d ≤ teQ x y (px b q) (py b q) (px b ((q + 1) % b.length)) (py b ((q + 1) % b.length)))
  {qx qy rx ry : Rat} (e1 : px b j = qx) (e2 : py b j = qy) (e3 : px b ((j + 1) % b.length) = rx) (e4 : py b ((j + 1) % b.length) = ry)
  (h1 : 0 < (x - qx) * (rx - qx) + (y - qy) * (ry - qy)) (h2 : (x - qx) * (rx - qx) + (y - qy) * (ry - qy) < (rx - qx) * (rx - qx) + (ry - qy) * (ry - qy))
  (hd : d * ((rx - qx) * (rx - qx) + (ry - qy) * (ry - qy)) = ((rx - qx) * (y - qy) - (ry - qy) * (x - qx)) * ((rx - qx) * (y - qy) - (ry - qy) * (x - qx))) :
  (rx - qx) * (y - qy) - (ry - qy) * (x - qx) ≤ 0 := by
 rcases rat_tri ((rx - qx) * (y - qy) - (ry - qy) * (x - qx)) 0 with c0 | c0 | c0
 ·grind
 ·grind
 ·exfalso
  obtain ⟨C, hC⟩ : ∃ C, (rx - qx) * (y - qy) - (ry - qy) * (x - qx) = C := ⟨_, rfl⟩
  obtain ⟨Z, hZ⟩ : ∃ Z, (rx - qx) * (rx - qx) + (ry - qy) * (ry - qy) = Z := ⟨_, rfl⟩
  obtain ⟨T, hT⟩ : ∃ T, (x - qx) * (rx - qx) + (y - qy) * (ry - qy) = T := ⟨_, rfl⟩
  rw [hC] at hd c0
  rw [hZ] at hd h2
  rw [hT] at h1 h2
  -- the walk around from the end of the side to its begin
  obtain ⟨k, k1, k2, k3, k4⟩ := turn_at (f := fun k => (rx - qx) * (px b ((j + k) % b.length) - x) + (ry - qy) * (py b ((j + k) % b.length) - y)) (n := b.length)
   (by show 0 < (rx - qx) * (px b ((j + 1) % b.length) - x) + (ry - qy) * (py b ((j + 1) % b.length) - y); rw [e3, e4]; grind)
   (by show (rx - qx) * (px b ((j + b.length) % b.length) - x) + (ry - qy) * (py b ((j + b.length) % b.length) - y) ≤ 0
       rw [Nat.add_mod_right, Nat.mod_eq_of_lt hj, e1, e2]; grind) (by omega)
  obtain ⟨A, hA⟩ : ∃ A, (j + k) % b.length = A := ⟨_, rfl⟩
  obtain ⟨B, hB⟩ : ∃ B, (j + (k + 1)) % b.length = B := ⟨_, rfl⟩
  have hAl : A < b.length := hA ▸ Nat.mod_lt _ (by omega)
  have hBl : B < b.length := hB ▸ Nat.mod_lt _ (by omega)
  have hAB : (A + 1) % b.length = B := by rw [← hA, ← hB, Nat.mod_add_mod, Nat.add_assoc]
  simp only [hA, hB] at k3 k4
  have lA : 0 ≤ (rx - qx) * (py b A - qy) - (ry - qy) * (px b A - qx) := by
   have := cvx_all cb hj hAl
   unfold lfp lf at this
   rw [e1, e2, e3, e4] at this; exact this
  have lB : 0 ≤ (rx - qx) * (py b B - qy) - (ry - qy) * (px b B - qx) := by
   have := cvx_all cb hj hBl
   unfold lfp lf at this
   rw [e1, e2, e3, e4] at this; exact this
  have lA2 : 2 ≤ k → 0 < (rx - qx) * (py b A - qy) - (ry - qy) * (px b A - qx) := by
   intro h
   have := cb j hj k h k2
   unfold lfp lf at this
   rw [hA, e1, e2, e3, e4] at this; exact this
  have lB2 : k + 1 < b.length → 0 < (rx - qx) * (py b B - qy) - (ry - qy) * (px b B - qx) := by
   intro h
   have := cb j hj (k + 1) (by omega) h
   unfold lfp lf at this
   rw [hB, e1, e2, e3, e4] at this; exact this
  have hBx : k + 1 = b.length → px b B = qx ∧ py b B = qy := by
   intro h
   rw [h, Nat.add_mod_right, Nat.mod_eq_of_lt hj] at hB
   rw [← hB, e1, e2]; exact ⟨rfl, rfl⟩
  have gA := hg A hAl
  have gB := hg B hBl
  have gQ := hg j hj
  have gR := hg ((j + 1) % b.length) (Nat.mod_lt _ (by omega))
  rw [e1, e2] at gQ
  rw [e3, e4] at gR
  have t := T1 A hAl
  rw [hAB] at t
  generalize px b A = ux at *
  generalize py b A = uy at *
  generalize px b B = vx at *
  generalize py b B = vy at *
  obtain ⟨HA, eHA⟩ : ∃ H, (rx - qx) * (ux - x) + (ry - qy) * (uy - y) = H := ⟨_, rfl⟩
  obtain ⟨HB, eHB⟩ : ∃ H, (rx - qx) * (vx - x) + (ry - qy) * (vy - y) = H := ⟨_, rfl⟩
  obtain ⟨LA, eLA⟩ : ∃ H, (rx - qx) * (uy - qy) - (ry - qy) * (ux - qx) = H := ⟨_, rfl⟩
  obtain ⟨LB, eLB⟩ : ∃ H, (rx - qx) * (vy - qy) - (ry - qy) * (vx - qx) = H := ⟨_, rfl⟩
  rw [eHA] at k3
  rw [eHB] at k4
  rw [eLA] at lA lA2
  rw [eLB] at lB lB2
  have hN : 0 < HA - HB := by grind
  obtain ⟨m, hm⟩ : ∃ m, HA / (HA - HB) = m := ⟨_, rfl⟩
  have hmul : m * (HA - HB) = HA := by rw [← hm]; exact Rat.div_mul_cancel (by grind)
  have m0 : 0 < m := by rw [← hm]; exact div_ps k3 hN
  have m1 : m ≤ 1 := by rw [← hm]; exact div_le hN (by grind)
  -- the point X
  obtain ⟨ell, hell⟩ : ∃ ell, LA + m * (LB - LA) = ell := ⟨_, rfl⟩
  have ell0 : 0 < ell := by
   rw [← hell]
   rcases Nat.lt_or_ge k 2 with h | h
   ·have hB' := lB2 (by omega)
    have := Rat.mul_pos m0 hB'
    have := mul_nnP (show 0 ≤ 1 - m by grind) lA
    grind
   ·have hA' := lA2 h
    rcases rat_tri m 1 with g | g | g
    ·have := Rat.mul_pos (show 0 < 1 - m by grind) hA'
     have := mul_nnP (show 0 ≤ m by grind) lB
     grind
    ·subst g
     have hB0 : HB = 0 := by grind
     rcases Nat.lt_or_ge (k + 1) b.length with h3 | h3
     ·have := lB2 h3; grind
     ·obtain ⟨u1, u2⟩ := hBx (by omega)
      subst u1; subst u2
      exfalso
      have : HB = -T := by rw [← eHB, ← hT]; grind
      grind
    ·grind
  -- X - (x, y) is (ell - C) / Z times the normal
  have hZp : 0 < Z := by grind
  have ex : Z * (x - (ux + m * (vx - ux))) = -(C - ell) * (ry - qy) := by
   have k5 : (rx - qx) * (x - (ux + m * (vx - ux))) + (ry - qy) * (y - (uy + m * (vy - uy))) = 0 := by
    have : (rx - qx) * (x - (ux + m * (vx - ux))) + (ry - qy) * (y - (uy + m * (vy - uy))) = -(HA - m * (HA - HB)) := by rw [← eHA, ← eHB]; grind
    rw [this, hmul]; grind
   have k6 : (rx - qx) * (y - (uy + m * (vy - uy))) - (ry - qy) * (x - (ux + m * (vx - ux))) = C - ell := by rw [← hC, ← hell, ← eLA, ← eLB]; grind
   have : Z * (x - (ux + m * (vx - ux))) = (rx - qx) * ((rx - qx) * (x - (ux + m * (vx - ux))) + (ry - qy) * (y - (uy + m * (vy - uy)))) - (ry - qy) * ((rx - qx) * (y - (uy + m * (vy - uy))) - (ry - qy) * (x - (ux + m * (vx - ux)))) := by rw [← hZ]; grind
   rw [this, k5, k6]; grind
  have ey : Z * (y - (uy + m * (vy - uy))) = (C - ell) * (rx - qx) := by
   have k5 : (rx - qx) * (x - (ux + m * (vx - ux))) + (ry - qy) * (y - (uy + m * (vy - uy))) = 0 := by
    have : (rx - qx) * (x - (ux + m * (vx - ux))) + (ry - qy) * (y - (uy + m * (vy - uy))) = -(HA - m * (HA - HB)) := by rw [← eHA, ← eHB]; grind
    rw [this, hmul]; grind
   have k6 : (rx - qx) * (y - (uy + m * (vy - uy))) - (ry - qy) * (x - (ux + m * (vx - ux))) = C - ell := by rw [← hC, ← hell, ← eLA, ← eLB]; grind
   have : Z * (y - (uy + m * (vy - uy))) = (ry - qy) * ((rx - qx) * (x - (ux + m * (vx - ux))) + (ry - qy) * (y - (uy + m * (vy - uy)))) + (rx - qx) * ((rx - qx) * (y - (uy + m * (vy - uy))) - (ry - qy) * (x - (ux + m * (vx - ux)))) := by rw [← hZ]; grind
   rw [this, k5, k6]; grind
  have gX : g1 * x + g2 * y < g1 * (ux + m * (vx - ux)) + g2 * (uy + m * (vy - uy)) := by
   have := Rat.mul_pos m0 (show 0 < g1 * vx + g2 * vy - (g1 * x + g2 * y) by grind)
   have := mul_nnP (show 0 ≤ 1 - m by grind) (show 0 ≤ g1 * ux + g2 * uy - (g1 * x + g2 * y) by grind)
   grind
  rcases rat_tri ell C with g | g | g
  ·-- nearer by way of X
   have t2 := te_le (x := x) (y := y) (ax := ux) (ay := uy) (bx := vx) (by_ := vy) (show 0 ≤ m by grind) m1
   obtain ⟨DX, hDX⟩ : ∃ D, (x - (ux + m * (vx - ux))) * (x - (ux + m * (vx - ux))) + (y - (uy + m * (vy - uy))) * (y - (uy + m * (vy - uy))) = D := ⟨_, rfl⟩
   rw [hDX] at t2
   have eD : Z * Z * DX = (C - ell) * (C - ell) * Z := by
    have : Z * Z * DX = (Z * (x - (ux + m * (vx - ux)))) * (Z * (x - (ux + m * (vx - ux)))) + (Z * (y - (uy + m * (vy - uy)))) * (Z * (y - (uy + m * (vy - uy)))) := by rw [← hDX]; grind
    rw [this, ex, ey, ← hZ]; grind
   have eD2 : Z * DX = (C - ell) * (C - ell) := by
    have h5 : Z * (Z * DX - (C - ell) * (C - ell)) = 0 := by grind
    rcases Rat.mul_eq_zero.1 h5 with h6 | h6
    ·grind
    ·grind
   have hlt : (C - ell) * (C - ell) < C * C := by
    have := Rat.mul_pos ell0 (show 0 < C by grind)
    have := Rat.mul_pos ell0 (show 0 < C - ell by grind)
    grind
   have : d * Z ≤ DX * Z := by have := mul_nnP (show 0 ≤ DX - d by grind) (show 0 ≤ Z by grind); grind
   grind
  ·-- the point is X
   subst g
   have z1 : Z * (x - (ux + m * (vx - ux))) = 0 := by rw [ex]; grind
   have z2 : Z * (y - (uy + m * (vy - uy))) = 0 := by rw [ey]; grind
   have y1 : x - (ux + m * (vx - ux)) = 0 := by rcases Rat.mul_eq_zero.1 z1 with h6 | h6; grind; exact h6
   have y2 : y - (uy + m * (vy - uy)) = 0 := by rcases Rat.mul_eq_zero.1 z2 with h6 | h6; grind; exact h6
   have y3 : ux + m * (vx - ux) = x := by grind
   have y4 : uy + m * (vy - uy) = y := by grind
   rw [y3, y4] at gX
   exact absurd gX Rat.lt_irrefl
  ·-- the point is between the side and X
   have gF : (Z - T) * (g1 * qx + g2 * qy - (g1 * x + g2 * y)) + T * (g1 * rx + g2 * ry - (g1 * x + g2 * y)) > 0 := by
    have := Rat.mul_pos (show 0 < Z - T by grind) (show 0 < g1 * qx + g2 * qy - (g1 * x + g2 * y) by grind)
    have := Rat.mul_pos h1 (show 0 < g1 * rx + g2 * ry - (g1 * x + g2 * y) by grind)
    grind
   have fx : Z * (x - qx) = T * (rx - qx) - C * (ry - qy) := by rw [← hZ, ← hT, ← hC]; grind
   have fy : Z * (y - qy) = T * (ry - qy) + C * (rx - qx) := by rw [← hZ, ← hT, ← hC]; grind
   have key : (ell - C) * ((Z - T) * (g1 * qx + g2 * qy - (g1 * x + g2 * y)) + T * (g1 * rx + g2 * ry - (g1 * x + g2 * y))) + C * Z * (g1 * (ux + m * (vx - ux)) + g2 * (uy + m * (vy - uy)) - (g1 * x + g2 * y)) = 0 := by
    have w1 : (Z - T) * (g1 * qx + g2 * qy - (g1 * x + g2 * y)) + T * (g1 * rx + g2 * ry - (g1 * x + g2 * y)) = -(g1 * (Z * (x - qx) - T * (rx - qx)) + g2 * (Z * (y - qy) - T * (ry - qy))) := by grind
    have w2 : Z * (g1 * (ux + m * (vx - ux)) + g2 * (uy + m * (vy - uy)) - (g1 * x + g2 * y)) = -(g1 * (Z * (x - (ux + m * (vx - ux)))) + g2 * (Z * (y - (uy + m * (vy - uy))))) := by grind
    rw [w1, fx, fy, Rat.mul_assoc, w2, ex, ey]; grind
   have := Rat.mul_pos (show 0 < ell - C by grind) gF
   have := Rat.mul_pos (Rat.mul_pos (show 0 < C by grind) hZp) (show 0 < g1 * (ux + m * (vx - ux)) + g2 * (uy + m * (vy - uy)) - (g1 * x + g2 * y) by grind)
   grind
theorem no_cross {x y u v qx qy rx ry g1 g2 s T Z C L h : Rat} (hT : (x - qx) * (rx - qx) + (y - qy) * (ry - qy) = T) (hZ : (rx - qx) * (rx - qx) + (ry - qy) * (ry - qy) = Z) (hC : (rx - qx) * (y - qy) - (ry - qy) * (x - qx) = C)
  (hL : (rx - qx) * (v - qy) - (ry - qy) * (u - qx) = L) (hh : (rx - qx) * (u - x) + (ry - qy) * (v - y) = h)
  (gPQ : g1 * x + g2 * y < g1 * qx + g2 * qy) (gPR : g1 * x + g2 * y < g1 * rx + g2 * ry) (gUQ : g1 * u + g2 * v < g1 * qx + g2 * qy) (gUR : g1 * u + g2 * v < g1 * rx + g2 * ry)
  (s0 : 0 ≤ s) (s1 : s ≤ 1) (c0 : C + s * (L - C) = 0) (i0 : 0 ≤ T + s * h) (i1 : T + s * h ≤ Z) (hZp : 0 < Z) : False := by
 have e1 : (Z - (T + s * h)) * (g1 * qx + g2 * qy) + (T + s * h) * (g1 * rx + g2 * ry) = Z * ((1 - s) * (g1 * x + g2 * y) + s * (g1 * u + g2 * v)) := by
  have f1 : Z * ((1 - s) * x + s * u - qx) = (T + s * h) * (rx - qx) - (C + s * (L - C)) * (ry - qy) := by rw [← hZ, ← hT, ← hC, ← hL, ← hh]; grind
  have f2 : Z * ((1 - s) * y + s * v - qy) = (T + s * h) * (ry - qy) + (C + s * (L - C)) * (rx - qx) := by rw [← hZ, ← hT, ← hC, ← hL, ← hh]; grind
  rw [c0] at f1 f2
  have f3 : g1 * (Z * ((1 - s) * x + s * u - qx)) + g2 * (Z * ((1 - s) * y + s * v - qy)) = (T + s * h) * (g1 * (rx - qx) + g2 * (ry - qy)) := by rw [f1, f2]; grind
  grind
 have a1 : 0 < (g1 * qx + g2 * qy) - ((1 - s) * (g1 * x + g2 * y) + s * (g1 * u + g2 * v)) := by
  rcases rat_tri s 0 with k | k | k
  ·grind
  ·subst k; grind
  ·have := Rat.mul_pos k (show 0 < g1 * qx + g2 * qy - (g1 * u + g2 * v) by grind)
   have := mul_nnP (show 0 ≤ 1 - s by grind) (show 0 ≤ g1 * qx + g2 * qy - (g1 * x + g2 * y) by grind)
   grind
 have a2 : 0 < (g1 * rx + g2 * ry) - ((1 - s) * (g1 * x + g2 * y) + s * (g1 * u + g2 * v)) := by
  rcases rat_tri s 0 with k | k | k
  ·grind
  ·subst k; grind
  ·have := Rat.mul_pos k (show 0 < g1 * rx + g2 * ry - (g1 * u + g2 * v) by grind)
   have := mul_nnP (show 0 ≤ 1 - s by grind) (show 0 ≤ g1 * rx + g2 * ry - (g1 * x + g2 * y) by grind)
   grind
 obtain ⟨p, hp⟩ : ∃ p, g1 * qx + g2 * qy = p := ⟨_, rfl⟩
 obtain ⟨r, hr⟩ : ∃ p, g1 * rx + g2 * ry = p := ⟨_, rfl⟩
 obtain ⟨m, hm⟩ : ∃ p, (1 - s) * (g1 * x + g2 * y) + s * (g1 * u + g2 * v) = p := ⟨_, rfl⟩
 obtain ⟨k, hk⟩ : ∃ p, T + s * h = p := ⟨_, rfl⟩
 rw [hp, hr, hm, hk] at e1
 rw [hp, hm] at a1
 rw [hr, hm] at a2
 rw [hk] at i0 i1
 clear hp hr hm hk hT hZ hC hL hh gPQ gPR gUQ gUR c0
 rcases rat_tri k 0 with q | q | q
 ·grind
 ·subst q
  have := Rat.mul_pos hZp a1; grind
 ·have := Rat.mul_pos q a2
  have := mul_nnP (show 0 ≤ Z - k by grind) (show 0 ≤ p - m by grind)
  grind
theorem no_end {x y u v qx qy rx ry ex ey s d Z C L K : Rat} (hZ : (rx - qx) * (rx - qx) + (ry - qy) * (ry - qy) = Z) (s0 : 0 ≤ s) (s1 : s ≤ 1) (t : d ≤ teQ ex ey x y u v)
  (h1 : (rx - qx) * (ex - (x + s * (u - x))) + (ry - qy) * (ey - (y + s * (v - y))) = 0) (h2 : (rx - qx) * (ey - (y + s * (v - y))) - (ry - qy) * (ex - (x + s * (u - x))) = K)
  (hd : d * Z = C * C) (k0 : 0 < K) (k1 : K < -C) (hZp : 0 < Z) : False := by
 have t2 := te_le (x := ex) (y := ey) (ax := x) (ay := y) (bx := u) (by_ := v) s0 s1
 obtain ⟨D, hD⟩ : ∃ D, (ex - (x + s * (u - x))) * (ex - (x + s * (u - x))) + (ey - (y + s * (v - y))) * (ey - (y + s * (v - y))) = D := ⟨_, rfl⟩
 rw [hD] at t2
 have e : Z * D = K * K := by
  have : Z * D = ((rx - qx) * (ex - (x + s * (u - x))) + (ry - qy) * (ey - (y + s * (v - y)))) * ((rx - qx) * (ex - (x + s * (u - x))) + (ry - qy) * (ey - (y + s * (v - y)))) + ((rx - qx) * (ey - (y + s * (v - y))) - (ry - qy) * (ex - (x + s * (u - x)))) * ((rx - qx) * (ey - (y + s * (v - y))) - (ry - qy) * (ex - (x + s * (u - x)))) := by
   rw [← hZ, ← hD]; grind
  rw [this, h1, h2]; grind
 have hlt : K * K < C * C := by
  have := Rat.mul_pos k0 (show 0 < -C - K by grind)
  have := Rat.mul_pos (show 0 < -C by grind) (show 0 < -C - K by grind)
  grind
 have := mul_nnP (show 0 ≤ D - d by grind) (show 0 ≤ Z by grind)
 grind
theorem no_nearer {x y u v qx qy rx ry g1 g2 d T Z C L : Rat} (hT : (x - qx) * (rx - qx) + (y - qy) * (ry - qy) = T) (hZ : (rx - qx) * (rx - qx) + (ry - qy) * (ry - qy) = Z) (hC : (rx - qx) * (y - qy) - (ry - qy) * (x - qx) = C)
  (hL : (rx - qx) * (v - qy) - (ry - qy) * (u - qx) = L)
  (gPQ : g1 * x + g2 * y < g1 * qx + g2 * qy) (gPR : g1 * x + g2 * y < g1 * rx + g2 * ry) (gUQ : g1 * u + g2 * v < g1 * qx + g2 * qy) (gUR : g1 * u + g2 * v < g1 * rx + g2 * ry)
  (h1 : 0 < T) (h2 : T < Z) (c0 : C < 0) (hd : d * Z = C * C) (TQ : d ≤ teQ qx qy x y u v) (TR : d ≤ teQ rx ry x y u v) (TP : d ≤ teQ u v qx qy rx ry) : L ≤ C := by
 rcases rat_tri L C with hl | hl | hl
 ·grind
 ·grind
 ·exfalso
  have hZp : 0 < Z := by grind
  obtain ⟨h, hh⟩ : ∃ h, (rx - qx) * (u - x) + (ry - qy) * (v - y) = h := ⟨_, rfl⟩
  -- where the line of the side is crossed
  have hLC : 0 < L - C := by grind
  obtain ⟨s, hs⟩ : ∃ s, (-C) / (L - C) = s := ⟨_, rfl⟩
  have hsm : s * (L - C) = -C := by rw [← hs]; exact Rat.div_mul_cancel (by grind)
  have s0 : 0 < s := by rw [← hs]; exact div_ps (by grind) hLC
  have cr : ∀ z, 0 < z → z ≤ 1 → 0 ≤ C + z * (L - C) → 0 ≤ T + z * h → T + z * h ≤ Z → False := by
   intro z z0 z1 zc zi zj
   have hsz : s ≤ z := by
    rcases rat_tri s z with k | k | k
    ·grind
    ·grind
    ·have := Rat.mul_pos (show 0 < s - z by grind) hLC; grind
   refine no_cross (s := s) hT hZ hC hL hh gPQ gPR gUQ gUR (by grind) (by grind) (by grind) ?_ ?_ hZp
   ·-- between 0 and z
    rcases rat_tri h 0 with k | k | k
    ·have := mul_nnP (show 0 ≤ z - s by grind) (show 0 ≤ -h by grind); grind
    ·subst k; grind
    ·have := Rat.mul_pos s0 k; grind
   ·rcases rat_tri h 0 with k | k | k
    ·have := Rat.mul_pos s0 (show 0 < -h by grind); grind
    ·subst k; grind
    ·have := mul_nnP (show 0 ≤ z - s by grind) (show 0 ≤ h by grind); grind
  rcases rat_tri h (Z - T) with k | k | k
  ·rcases rat_tri h (-T) with k' | k' | k'
   ·-- beyond the begin
    have hn : h < 0 := by grind
    obtain ⟨z, hz⟩ : ∃ z, T / (-h) = z := ⟨_, rfl⟩
    have hzm : z * (-h) = T := by rw [← hz]; exact Rat.div_mul_cancel (by grind)
    have z0 : 0 < z := by rw [← hz]; exact div_ps h1 (by grind)
    have z1 : z ≤ 1 := by rw [← hz]; exact div_le (by grind) (by grind)
    by_cases q : 0 ≤ C + z * (L - C)
    ·exact cr z z0 z1 q (by grind) (by grind)
    ·refine no_end (s := z) (C := C) (L := L) (K := -(C + z * (L - C))) hZ (by grind) z1 TQ ?_ ?_ hd (by grind) ?_ hZp
     ·have : (rx - qx) * (qx - (x + z * (u - x))) + (ry - qy) * (qy - (y + z * (v - y))) = -T - z * h := by rw [← hT, ← hh]; grind
      rw [this]; grind
     ·rw [← hC, ← hL]; grind
     ·have := Rat.mul_pos z0 hLC; grind
   ·-- at the begin
    by_cases q : 0 ≤ L
    ·exact cr 1 (by grind) Rat.le_refl (by grind) (by grind) (by grind)
    ·refine no_end (s := 1) (C := C) (L := L) (K := -L) hZ (by grind) Rat.le_refl TQ ?_ ?_ hd (by grind) (by grind) hZp
     ·have : (rx - qx) * (qx - (x + 1 * (u - x))) + (ry - qy) * (qy - (y + 1 * (v - y))) = -T - h := by rw [← hT, ← hh]; grind
      rw [this]; grind
     ·rw [← hL]; grind
   ·-- within
    by_cases q : 0 ≤ L
    ·exact cr 1 (by grind) Rat.le_refl (by grind) (by grind) (by grind)
    ·obtain ⟨m, hm⟩ : ∃ m, (T + h) / Z = m := ⟨_, rfl⟩
     have hmm : m * Z = T + h := by rw [← hm]; exact Rat.div_mul_cancel (by grind)
     have m0 : 0 ≤ m := by rw [← hm]; exact div_nn (by grind) hZp
     have m1 : m ≤ 1 := by rw [← hm]; exact div_le hZp (by grind)
     have t2 := te_le (x := u) (y := v) (ax := qx) (ay := qy) (bx := rx) (by_ := ry) m0 m1
     obtain ⟨D, hD⟩ : ∃ D, (u - (qx + m * (rx - qx))) * (u - (qx + m * (rx - qx))) + (v - (qy + m * (ry - qy))) * (v - (qy + m * (ry - qy))) = D := ⟨_, rfl⟩
     rw [hD] at t2
     have f1 : (rx - qx) * (u - (qx + m * (rx - qx))) + (ry - qy) * (v - (qy + m * (ry - qy))) = 0 := by
      have : (rx - qx) * (u - (qx + m * (rx - qx))) + (ry - qy) * (v - (qy + m * (ry - qy))) = T + h - m * Z := by rw [← hT, ← hh, ← hZ]; grind
      rw [this, hmm]; grind
     have f2 : (rx - qx) * (v - (qy + m * (ry - qy))) - (ry - qy) * (u - (qx + m * (rx - qx))) = L := by rw [← hL]; grind
     have e : Z * D = L * L := by
      have : Z * D = ((rx - qx) * (u - (qx + m * (rx - qx))) + (ry - qy) * (v - (qy + m * (ry - qy)))) * ((rx - qx) * (u - (qx + m * (rx - qx))) + (ry - qy) * (v - (qy + m * (ry - qy)))) + ((rx - qx) * (v - (qy + m * (ry - qy))) - (ry - qy) * (u - (qx + m * (rx - qx)))) * ((rx - qx) * (v - (qy + m * (ry - qy))) - (ry - qy) * (u - (qx + m * (rx - qx)))) := by
       rw [← hZ, ← hD]; grind
      rw [this, f1, f2]; grind
     have hlt : L * L < C * C := by
      have := Rat.mul_pos (show 0 < -L by grind) (show 0 < L - C by grind)
      have := Rat.mul_pos (show 0 < -C by grind) (show 0 < L - C by grind)
      grind
     have := mul_nnP (show 0 ≤ D - d by grind) (show 0 ≤ Z by grind)
     grind
  ·-- at the end
   by_cases q : 0 ≤ L
   ·exact cr 1 (by grind) Rat.le_refl (by grind) (by grind) (by grind)
   ·refine no_end (s := 1) (C := C) (L := L) (K := -L) hZ (by grind) Rat.le_refl TR ?_ ?_ hd (by grind) (by grind) hZp
    ·have : (rx - qx) * (rx - (x + 1 * (u - x))) + (ry - qy) * (ry - (y + 1 * (v - y))) = Z - T - h := by rw [← hT, ← hh, ← hZ]; grind
     rw [this]; grind
    ·rw [← hL]; grind
  ·-- beyond the end
   have hn : 0 < h := by grind
   obtain ⟨z, hz⟩ : ∃ z, (Z - T) / h = z := ⟨_, rfl⟩
   have hzm : z * h = Z - T := by rw [← hz]; exact Rat.div_mul_cancel (by grind)
   have z0 : 0 < z := by rw [← hz]; exact div_ps (by grind) hn
   have z1 : z ≤ 1 := by rw [← hz]; exact div_le hn (by grind)
   by_cases q : 0 ≤ C + z * (L - C)
   ·exact cr z z0 z1 q (by grind) (by grind)
   ·refine no_end (s := z) (C := C) (L := L) (K := -(C + z * (L - C))) hZ (by grind) z1 TR ?_ ?_ hd (by grind) ?_ hZp
    ·have : (rx - qx) * (rx - (x + z * (u - x))) + (ry - qy) * (ry - (y + z * (v - y))) = Z - T - z * h := by rw [← hT, ← hh, ← hZ]; grind
     rw [this]; grind
    ·rw [← hC, ← hL]; grind
    ·have := Rat.mul_pos z0 hLC; grind
theorem gap_e {a b : Pts} (ca : Cvx a) (cb : Cvx b) (ha : 3 ≤ a.length) (hb : 3 ≤ b.length) {d g1 g2 : Rat} (hd0 : 0 < d) (hg : ∀ p q, p < a.length → q < b.length → g1 * px a p + g2 * py a p < g1 * px b q + g2 * py b q)
  (T1 : ∀ p q, p < a.length → q < b.length → d ≤ teQ (px a p) (py a p) (px b q) (py b q) (px b ((q + 1) % b.length)) (py b ((q + 1) % b.length)))
  (T2 : ∀ q p, q < b.length → p < a.length → d ≤ teQ (px b q) (py b q) (px a p) (py a p) (px a ((p + 1) % a.length)) (py a ((p + 1) % a.length)))
  {i j : Nat} (hi : i < a.length) (hj : j < b.length) {x y qx qy rx ry : Rat} (f1 : px a i = x) (f2 : py a i = y) (e1 : px b j = qx) (e2 : py b j = qy) (e3 : px b ((j + 1) % b.length) = rx) (e4 : py b ((j + 1) % b.length) = ry)
  (h1 : 0 < (x - qx) * (rx - qx) + (y - qy) * (ry - qy)) (h2 : (x - qx) * (rx - qx) + (y - qy) * (ry - qy) < (rx - qx) * (rx - qx) + (ry - qy) * (ry - qy))
  (hd : d * ((rx - qx) * (rx - qx) + (ry - qy) * (ry - qy)) = ((rx - qx) * (y - qy) - (ry - qy) * (x - qx)) * ((rx - qx) * (y - qy) - (ry - qy) * (x - qx))) :
  ∃ w1 w2, w1 * w1 + w2 * w2 = d ∧ ∀ p q, p < a.length → q < b.length → d ≤ w1 * (px b q - px a p) + w2 * (py b q - py a p) := by
 have hjn : (j + 1) % b.length < b.length := Nat.mod_lt _ (by omega)
 have hC := out_side cb hb hj (x := x) (y := y) (d := d) (g1 := g1) (g2 := g2) (fun q hq => by have := hg i q hi hq; rwa [f1, f2] at this) (fun q hq => by have := T1 i q hi hq; rwa [f1, f2] at this) e1 e2 e3 e4 h1 h2 hd
 obtain ⟨C, eC⟩ : ∃ C, (rx - qx) * (y - qy) - (ry - qy) * (x - qx) = C := ⟨_, rfl⟩
 obtain ⟨Z, eZ⟩ : ∃ Z, (rx - qx) * (rx - qx) + (ry - qy) * (ry - qy) = Z := ⟨_, rfl⟩
 obtain ⟨T, eT⟩ : ∃ T, (x - qx) * (rx - qx) + (y - qy) * (ry - qy) = T := ⟨_, rfl⟩
 rw [eC] at hC hd
 rw [eZ] at hd h2
 rw [eT] at h1 h2
 have hZ : 0 < Z := by grind
 have hCn : C < 0 := by
  rcases rat_tri C 0 with k | k | k
  ·exact k
  ·subst k; have := Rat.mul_pos hd0 hZ; grind
  ·grind
 obtain ⟨r, s, hr, hs, er, es, hD, hall⟩ := corner ca ha hi
 have gQ : ∀ p, p < a.length → g1 * px a p + g2 * py a p < g1 * qx + g2 * qy := fun p hp => by have := hg p j hp hj; rwa [e1, e2] at this
 have gR : ∀ p, p < a.length → g1 * px a p + g2 * py a p < g1 * rx + g2 * ry := fun p hp => by have := hg p _ hp hjn; rwa [e3, e4] at this
 have gPQ := gQ i hi
 have gPR := gR i hi
 rw [f1, f2] at gPQ gPR
 have TP : ∀ p, p < a.length → d ≤ teQ (px a p) (py a p) qx qy rx ry := fun p hp => by have := T1 p j hp hj; rwa [e1, e2, e3, e4] at this
 have s1 : (rx - qx) * (py a s - qy) - (ry - qy) * (px a s - qx) ≤ C := by
  have tq := T2 j i hj hi
  have tr := T2 _ i hjn hi
  rw [es, f1, f2, e1, e2] at tq
  rw [es, f1, f2, e3, e4] at tr
  exact no_nearer eT eZ eC rfl gPQ gPR (gQ s hs) (gR s hs) h1 h2 hCn hd tq tr (TP s hs)
 have r1 : (rx - qx) * (py a r - qy) - (ry - qy) * (px a r - qx) ≤ C := by
  have tq := T2 j r hj hr
  have tr := T2 _ r hjn hr
  rw [er, f1, f2, e1, e2, te_symm] at tq
  rw [er, f1, f2, e3, e4, te_symm] at tr
  exact no_nearer eT eZ eC rfl gPQ gPR (gQ r hr) (gR r hr) h1 h2 hCn hd tq tr (TP r hr)
 obtain ⟨z, hz⟩ : ∃ z, (-C) / Z = z := ⟨_, rfl⟩
 have hzm : z * Z = -C := by rw [← hz]; exact Rat.div_mul_cancel (by grind)
 have z0 : 0 < z := by rw [← hz]; exact div_ps (by grind) hZ
 have hzd : z * (-C) = d := by
  have h3 : Z * (z * (-C) - d) = 0 := by grind
  rcases Rat.mul_eq_zero.1 h3 with h4 | h4
  ·grind
  ·grind
 refine ⟨z * (-(ry - qy)), z * (rx - qx), ?_, fun p q hp hq => ?_⟩
 ·have : z * (-(ry - qy)) * (z * (-(ry - qy))) + z * (rx - qx) * (z * (rx - qx)) = z * (z * Z) := by rw [← eZ]; grind
  rw [this, hzm, hzd]
 ·have lb := cvx_all cb hj hq
  unfold lfp lf at lb
  rw [e1, e2, e3, e4] at lb
  have la := cone_b hD hall (r1 := (ry - qy)) (r2 := -(rx - qx)) (by rw [f1, f2]; grind) (by rw [f1, f2]; grind) hp
  rw [f1, f2] at la
  have key : z * (-(ry - qy)) * (px b q - px a p) + z * (rx - qx) * (py b q - py a p) = z * (((rx - qx) * (py b q - qy) - (ry - qy) * (px b q - qx)) + ((ry - qy) * (px a p - x) + -(rx - qx) * (py a p - y)) + -C) := by rw [← eC]; grind
  rw [key]
  have q1 := mul_nnP (show 0 ≤ z by grind) lb
  have q2 := mul_nnP (show 0 ≤ z by grind) la
  rw [Rat.mul_add, Rat.mul_add, hzd]; grind
theorem near_is {x y : Rat} {b : Pts} (hb : 2 ≤ b.length) : ∀ n, n ≤ b.length → ∃ j, j < b.length ∧ nearF x y b n = teQ x y (px b j) (py b j) (px b ((j + 1) % b.length)) (py b ((j + 1) % b.length)) := by
 intro n
 induction n with
 | zero => intro _; exact ⟨0, by omega, by simp only [nearF]; rw [Nat.mod_eq_of_lt (show 0 + 1 < b.length by omega)]⟩
 | succ n ih =>
   intro hn
   obtain ⟨j, h1, h2⟩ := ih (by omega)
   simp only [nearF]
   rcases min_or (nearF x y b n) (teQ x y (px b n) (py b n) (px b ((n + 1) % b.length)) (py b ((n + 1) % b.length))) with h | h
   ·exact ⟨j, h1, by rw [h, h2]⟩
   ·exact ⟨n, by omega, h⟩
theorem near_le {x y : Rat} {b : Pts} : ∀ n j, j < n → nearF x y b n ≤ teQ x y (px b j) (py b j) (px b ((j + 1) % b.length)) (py b ((j + 1) % b.length)) := by
 intro n
 induction n with
 | zero => intro j h; omega
 | succ n ih =>
   intro j h
   simp only [nearF]
   rcases Nat.lt_or_ge j n with h1 | h1
   ·have := ih j h1
    have := min_ll (nearF x y b n) (teQ x y (px b n) (py b n) (px b ((n + 1) % b.length)) (py b ((n + 1) % b.length)))
    grind
   ·have : j = n := by omega
    subst this; exact min_rr _ _
theorem line_of {a b : Pts} (ca : Cvx a) (cb : Cvx b) (ha : 3 ≤ a.length) (hb : 3 ≤ b.length) (hm : meetB a b = false) : ∃ g1 g2 : Rat, ∀ p q, p < a.length → q < b.length → g1 * px a p + g2 * py a p < g1 * px b q + g2 * py b q := by
 unfold meetB at hm
 rw [Bool.and_eq_false_iff] at hm
 simp only [Bool.not_eq_false'] at hm
 rcases hm with hm | hm
 ·unfold bydB at hm
  rw [List.any_eq_true] at hm
  obtain ⟨i, hi, hs⟩ := hm
  have hi := List.mem_range.1 hi
  unfold sepB at hs
  rw [List.all_eq_true] at hs
  refine ⟨py a ((i + 1) % a.length) - py a i, -(px a ((i + 1) % a.length) - px a i), fun p q hp hq => ?_⟩
  have h1 : 0 < dt a b i q := by simpa using hs q (List.mem_range.2 hq)
  have h2 := cvx_all ca hi hp
  unfold dt at h1
  unfold lfp lf at h2
  grind
 ·unfold bydB at hm
  rw [List.any_eq_true] at hm
  obtain ⟨i, hi, hs⟩ := hm
  have hi := List.mem_range.1 hi
  unfold sepB at hs
  rw [List.all_eq_true] at hs
  refine ⟨-(py b ((i + 1) % b.length) - py b i), px b ((i + 1) % b.length) - px b i, fun p q hp hq => ?_⟩
  have h1 : 0 < dt b a i p := by simpa using hs p (List.mem_range.2 hp)
  have h2 := cvx_all cb hi hq
  unfold dt at h1
  unfold lfp lf at h2
  grind
theorem gap_one {a b : Pts} (ca : Cvx a) (cb : Cvx b) (ha : 3 ≤ a.length) (hb : 3 ≤ b.length) {d g1 g2 : Rat} (hd0 : 0 < d) (hg : ∀ p q, p < a.length → q < b.length → g1 * px a p + g2 * py a p < g1 * px b q + g2 * py b q)
  (T1 : ∀ p q, p < a.length → q < b.length → d ≤ teQ (px a p) (py a p) (px b q) (py b q) (px b ((q + 1) % b.length)) (py b ((q + 1) % b.length)))
  (T2 : ∀ q p, q < b.length → p < a.length → d ≤ teQ (px b q) (py b q) (px a p) (py a p) (px a ((p + 1) % a.length)) (py a ((p + 1) % a.length)))
  {i : Nat} (hi : i < a.length) (hd : d = nearQ (px a i) (py a i) b) :
  ∃ w1 w2, w1 * w1 + w2 * w2 = d ∧ ∀ p q, p < a.length → q < b.length → d ≤ w1 * (px b q - px a p) + w2 * (py b q - py a p) := by
 unfold nearQ at hd
 obtain ⟨j, hj, e⟩ := near_is (x := px a i) (y := py a i) (b := b) (by omega) _ (Nat.le_refl _)
 rw [e] at hd
 have hjn : (j + 1) % b.length < b.length := Nat.mod_lt _ (by omega)
 rcases te_is (px a i) (py a i) (px b j) (py b j) (px b ((j + 1) % b.length)) (py b ((j + 1) % b.length)) with h | h | ⟨h1, h2, h3⟩
 ·exact gap_v ca cb ha hb T1 T2 hi hj (by rw [hd, h]; grind)
 ·exact gap_v ca cb ha hb T1 T2 hi hjn (by rw [hd, h]; grind)
 ·refine gap_e ca cb ha hb hd0 hg T1 T2 hi hj rfl rfl rfl rfl rfl rfl h1 h2 ?_
  rw [hd, h3]
  exact Rat.div_mul_cancel (by grind)
theorem way_gap {a b : Pts} (ca : Cvx a) (cb : Cvx b) (ha : 3 ≤ a.length) (hb : 3 ≤ b.length) (hm : meetB a b = false) :
  ∃ w1 w2, w1 * w1 + w2 * w2 = sqQ a b ∧ ∀ p q, p < a.length → q < b.length → sqQ a b ≤ w1 * (px b q - px a p) + w2 * (py b q - py a p) := by
 have hp := sq_ps2 ca cb (by omega) (by omega) hm
 obtain ⟨g1, g2, hg⟩ := line_of ca cb ha hb hm
 obtain ⟨l1, l2, l3⟩ := sq_least (a := a) (b := b) (by omega)
 have e : sqQ a b = sqB a b (sqA a b a.length) b.length := by unfold sqQ; rw [if_neg (by rw [hm]; decide)]
 rw [← e] at l1 l2 l3
 have T1 : ∀ p q, p < a.length → q < b.length → sqQ a b ≤ teQ (px a p) (py a p) (px b q) (py b q) (px b ((q + 1) % b.length)) (py b ((q + 1) % b.length)) := fun p q hp hq => by
  have h1 := l1 p hp
  have h2 := near_le (x := px a p) (y := py a p) (b := b) b.length q hq
  unfold nearQ at h1
  grind
 have T2 : ∀ q p, q < b.length → p < a.length → sqQ a b ≤ teQ (px b q) (py b q) (px a p) (py a p) (px a ((p + 1) % a.length)) (py a ((p + 1) % a.length)) := fun q p hq hp => by
  have h1 := l2 q hq
  have h2 := near_le (x := px b q) (y := py b q) (b := a) a.length p hp
  unfold nearQ at h1
  grind
 rcases l3 with ⟨i, hi, h⟩ | ⟨j, hj, h⟩
 ·exact gap_one ca cb ha hb hp hg T1 T2 hi h
 ·obtain ⟨w1, w2, h1, h2⟩ := gap_one cb ca hb ha hp (g1 := -g1) (g2 := -g2) (fun p q hp hq => by have := hg q p hq hp; grind) T2 T1 hj h
  exact ⟨-w1, -w2, by grind, fun p q hp hq => by have := h2 q p hq hp; grind⟩
theorem box_meet {a b : Pts} (ca : Cvx a) (cb : Cvx b) (ha : 3 ≤ a.length) (hb : 3 ≤ b.length) (hm : meetB a b = true) :
  mnF (px a) (a.length - 1) ≤ mxF (px b) (b.length - 1) ∧ mnF (py a) (a.length - 1) ≤ mxF (py b) (b.length - 1) := by
 constructor
 ·rcases rat_tri (mxF (px b) (b.length - 1)) (mnF (px a) (a.length - 1)) with h | h | h
  ·have := sat ca cb ha hb (w1 := -1) (w2 := 0) fun p q hp hq => by
    have h1 := mn_le (f := px a) (a.length - 1) p (by omega)
    have h2 := mx_ge (f := px b) (b.length - 1) q (by omega)
    grind
   rw [hm] at this; cases this
  ·grind
  ·grind
 ·rcases rat_tri (mxF (py b) (b.length - 1)) (mnF (py a) (a.length - 1)) with h | h | h
  ·have := sat ca cb ha hb (w1 := 0) (w2 := -1) fun p q hp hq => by
    have h1 := mn_le (f := py a) (a.length - 1) p (by omega)
    have h2 := mx_ge (f := py b) (b.length - 1) q (by omega)
    grind
   rw [hm] at this; cases this
  ·grind
  ·grind
def smq (f : Nat → Rat) : Nat → Rat
 | 0 => 0
 | n + 1 => smq f n + f n
theorem smq_zero {f : Nat → Rat} : ∀ n, (∀ i, i < n → f i = 0) → smq f n = 0
 | 0, _ => rfl
 | n + 1, h => by
   have h1 := smq_zero n fun i hi => h i (by omega)
   have h2 := h n (by omega)
   simp only [smq, h1, h2]; grind
theorem smq_one {f : Nat → Rat} {k : Nat} : ∀ n, k < n → (∀ i, i < n → i ≠ k → f i = 0) → smq f n = f k
 | 0, h, _ => by omega
 | n + 1, hk, h => by
   simp only [smq]
   rcases Nat.lt_or_ge k n with h1 | h1
   ·rw [smq_one n h1 fun i hi hne => h i (by omega) hne, h n (by omega) (by omega)]; grind
   ·have e : k = n := by omega
    subst e
    rw [smq_zero k fun i hi => h i (by omega) (by omega)]; grind
theorem smq_sub (f g : Nat → Rat) : ∀ n, smq (fun i => f i - g i) n = smq f n - smq g n
 | 0 => by simp only [smq]; grind
 | n + 1 => by simp only [smq, smq_sub f g n]; grind
theorem smq_tel (f : Nat → Rat) : ∀ n, smq (fun i => f (i + 1) - f i) n = f n - f 0
 | 0 => by simp only [smq]; grind
 | n + 1 => by simp only [smq, smq_tel f n]; grind
theorem smq_congr {f g : Nat → Rat} : ∀ n, (∀ i, i < n → f i = g i) → smq f n = smq g n
 | 0, _ => rfl
 | n + 1, h => by simp only [smq, smq_congr n fun i hi => h i (by omega), h n (by omega)]
theorem smq_cyc (f : Nat → Rat) {n : Nat} (hn : 0 < n) : smq (fun i => f ((i + 1) % n) - f i) n = 0 := by
 have h := smq_tel (fun i => f (i % n)) n
 rw [smq_congr (g := fun i => f ((i + 1) % n) - f (i % n)) n (fun i hi => by simp only [Nat.mod_eq_of_lt hi])]
 rw [h]
 simp only [Nat.mod_self, Nat.zero_mod]; grind
def slab (f : Rat → Rat) : List Rat → Rat
 | u :: v :: t => (v - u) * f ((u + v) / 2) + slab f (v :: t)
 | _ => 0
theorem slab_zero : ∀ L : List Rat, slab (fun _ => 0) L = 0
 | [] => rfl
 | [_] => rfl
 | u :: v :: t => by simp only [slab, slab_zero (v :: t)]; grind
theorem slab_add (f g : Rat → Rat) : ∀ L : List Rat, slab (fun m => f m + g m) L = slab f L + slab g L
 | [] => by simp only [slab]; grind
 | [_] => by simp only [slab]; grind
 | u :: v :: t => by simp only [slab, slab_add f g (v :: t)]; grind
theorem slab_sm (f : Nat → Rat → Rat) (L : List Rat) : ∀ n, slab (fun m => smq (fun i => f i m) n) L = smq (fun i => slab (f i) L) n
 | 0 => slab_zero L
 | n + 1 => by simp only [smq]; rw [slab_add, slab_sm f L n]
def Srt (L : List Rat) : Prop := L.Pairwise (· ≤ ·)
theorem slab_mono {f g : Rat → Rat} : ∀ {L : List Rat}, Srt L → (∀ m, m ∉ L → f m ≤ g m) → slab f L ≤ slab g L := by
 have key : ∀ (t : List Rat) (u : Rat), Srt (u :: t) → (∀ m, u < m → m ∉ u :: t → f m ≤ g m) → slab f (u :: t) ≤ slab g (u :: t) := by
  intro t
  induction t with
  | nil => intro u _ _; exact Rat.le_refl
  | cons v t ih =>
    intro u hs h
    have hs' := List.pairwise_cons.1 hs
    have huv : u ≤ v := hs'.1 v (List.mem_cons_self)
    have hv := List.pairwise_cons.1 hs'.2
    have h1 := ih v hs'.2 fun m hm hn => h m (by grind) (by
     intro hc
     rcases List.mem_cons.1 hc with e | e
     ·subst e; grind
     ·exact hn e)
    simp only [slab]
    rcases rat_tri u v with h2 | h2 | h2
    ·have h3 := h ((u + v) / 2) (by grind) (by
      intro hc
      rcases List.mem_cons.1 hc with e | hc
      ·grind
      rcases List.mem_cons.1 hc with e | hc
      ·grind
      ·have := hv.1 _ hc; grind)
     have h4 := Rat.mul_nonneg (show 0 ≤ v - u by grind) (show 0 ≤ g ((u + v) / 2) - f ((u + v) / 2) by grind)
     grind
    ·subst h2
     have : u - u = 0 := by grind
     rw [this, Rat.zero_mul, Rat.zero_mul]; grind
    ·grind
 intro L hs h
 cases L with
 | nil => exact Rat.le_refl
 | cons u t => exact key t u hs fun m _ hm => h m hm
theorem slab_none {a b α β : Rat} : ∀ (t : List Rat) (u : Rat), Srt (u :: t) → b ≤ u → slab (fun m => if a < m ∧ m < b then α + β * m else 0) (u :: t) = 0
 | [], _, _, _ => rfl
 | v :: t, u, hs, hb => by
   have hs' := List.pairwise_cons.1 hs
   have huv : u ≤ v := hs'.1 v (List.mem_cons_self)
   simp only [slab]
   rw [slab_none t v hs'.2 (by grind), if_neg (by grind)]; grind
theorem slab_in {a b α β : Rat} : ∀ (t : List Rat) (u : Rat), Srt (u :: t) → a ≤ u → u ≤ b → b ∈ u :: t → slab (fun m => if a < m ∧ m < b then α + β * m else 0) (u :: t) = (α * b + β * (b * b) / 2) - (α * u + β * (u * u) / 2)
 | [], u, _, _, _, hm => by
   have e : b = u := by simpa using hm
   subst e
   simp only [slab]; grind
 | v :: t, u, hs, ha, hb, hm => by
   have hs' := List.pairwise_cons.1 hs
   have huv : u ≤ v := hs'.1 v (List.mem_cons_self)
   rcases rat_tri u b with h | h | h
   ·have hm' : b ∈ v :: t := by
     rcases List.mem_cons.1 hm with e | e
     ·subst e; grind
     ·exact e
    have hvb : v ≤ b := by
     rcases List.mem_cons.1 hm' with e | e
     ·rw [e]; exact Rat.le_refl
     ·exact (List.pairwise_cons.1 hs'.2).1 b e
    simp only [slab]
    rw [slab_in t v hs'.2 (by grind) hvb hm']
    rcases rat_tri u v with h2 | h2 | h2
    ·rw [if_pos (by grind)]; grind
    ·subst h2
     have : u - u = 0 := by grind
     rw [this, Rat.zero_mul]; grind
    ·grind
   ·subst h
    rw [slab_none (v :: t) u hs Rat.le_refl]; grind
   ·grind
theorem slab_on {a b α β : Rat} (hab : a ≤ b) : ∀ (t : List Rat) (u : Rat), Srt (u :: t) → a ∈ u :: t → b ∈ u :: t → slab (fun m => if a < m ∧ m < b then α + β * m else 0) (u :: t) = (α * b + β * (b * b) / 2) - (α * a + β * (a * a) / 2)
 | [], u, _, ha, hb => by
   have e : a = u := by simpa using ha
   have e' : b = u := by simpa using hb
   subst e; subst e'
   simp only [slab]; grind
 | v :: t, u, hs, ha, hb => by
   have hs' := List.pairwise_cons.1 hs
   have huv : u ≤ v := hs'.1 v (List.mem_cons_self)
   have hua : u ≤ a := by
    rcases List.mem_cons.1 ha with e | e
    ·rw [e]; exact Rat.le_refl
    ·exact hs'.1 a e
   rcases rat_tri u a with h | h | h
   ·have ha' : a ∈ v :: t := by
     rcases List.mem_cons.1 ha with e | e
     ·subst e; grind
     ·exact e
    have hb' : b ∈ v :: t := by
     rcases List.mem_cons.1 hb with e | e
     ·subst e; grind
     ·exact e
    have hva : v ≤ a := by
     rcases List.mem_cons.1 ha' with e | e
     ·rw [e]; exact Rat.le_refl
     ·exact (List.pairwise_cons.1 hs'.2).1 a e
    simp only [slab]
    rw [slab_on hab t v hs'.2 ha' hb']
    rcases rat_tri u v with h2 | h2 | h2
    ·rw [if_neg (by grind)]; grind
    ·subst h2
     have : u - u = 0 := by grind
     rw [this, Rat.zero_mul]; grind
    ·grind
   ·subst h
    exact slab_in (v :: t) u hs Rat.le_refl hab hb
   ·grind
def ins (x : Rat) : List Rat → List Rat
 | [] => [x]
 | y :: t => if x ≤ y then x :: y :: t else y :: ins x t
theorem mem_ins {x z : Rat} : ∀ {L : List Rat}, z ∈ ins x L ↔ z = x ∨ z ∈ L
 | [] => by simp [ins]
 | y :: t => by
   unfold ins
   split
   ·simp
   ·simp only [List.mem_cons, mem_ins (L := t)]; grind
theorem srt_ins {x : Rat} : ∀ {L : List Rat}, Srt L → Srt (ins x L)
 | [], _ => List.pairwise_singleton _ _
 | y :: t, h => by
   have h' := List.pairwise_cons.1 h
   unfold ins
   split
   ·rename_i hx
    exact List.pairwise_cons.2 ⟨fun z hz => by
     rcases List.mem_cons.1 hz with e | e
     ·rw [e]; exact hx
     ·have := h'.1 z e; grind, h⟩
   ·rename_i hx
    exact List.pairwise_cons.2 ⟨fun z hz => by
     rcases mem_ins.1 hz with e | e
     ·rw [e]; grind
     ·exact h'.1 z e, srt_ins h'.2⟩
def inord : List Rat → List Rat
 | [] => []
 | x :: t => ins x (inord t)
theorem srt_inord : ∀ L : List Rat, Srt (inord L)
 | [] => List.Pairwise.nil
 | _ :: t => srt_ins (srt_inord t)
theorem mem_inord {z : Rat} : ∀ {L : List Rat}, z ∈ inord L ↔ z ∈ L
 | [] => Iff.rfl
 | x :: t => by simp only [inord, mem_ins, mem_inord (L := t), List.mem_cons]
def atx (x0 y0 x1 y1 m : Rat) : Rat := x0 + (x1 - x0) / (y1 - y0) * (m - y0)
def chd (x0 y0 x1 y1 m : Rat) : Rat := if y0 < m ∧ m < y1 then atx x0 y0 x1 y1 m else if y1 < m ∧ m < y0 then - atx x0 y0 x1 y1 m else 0
theorem slab_ext {f g : Rat → Rat} (h : ∀ m, f m = g m) (L : List Rat) : slab f L = slab g L := by rw [show f = g from funext h]
theorem dvq {x y : Rat} (hy : y ≠ 0) : x / y * y = x := by
 rw [Rat.div_def, Rat.mul_assoc, Rat.inv_mul_cancel _ hy, Rat.mul_one]
theorem slab_side {x0 y0 x1 y1 : Rat} {L : List Rat} (hs : Srt L) (h0 : y0 ∈ L) (h1 : y1 ∈ L) : 2 * slab (chd x0 y0 x1 y1) L = (x0 + x1) * (y1 - y0) := by
 cases L with
 | nil => cases h0
 | cons u t =>
   obtain ⟨s, hs0⟩ : ∃ s, s = (x1 - x0) / (y1 - y0) := ⟨_, rfl⟩
   rcases rat_tri y0 y1 with h | h | h
   ·have e1 : s * (y1 - y0) = x1 - x0 := by rw [hs0]; exact dvq (by grind)
    rw [slab_ext (g := fun m => if y0 < m ∧ m < y1 then (x0 - s * y0) + s * m else 0) (fun m => by unfold chd atx; rw [← hs0]; split; grind; rw [if_neg (by grind)]), slab_on (by grind) t u hs h0 h1]
    grind
   ·subst h
    rw [slab_ext (g := fun m => (fun _ => 0) m) (fun m => by unfold chd; rw [if_neg (by grind), if_neg (by grind)]), slab_zero]; grind
   ·have e1 : s * (y1 - y0) = x1 - x0 := by rw [hs0]; exact dvq (by grind)
    rw [slab_ext (g := fun m => if y1 < m ∧ m < y0 then (s * y0 - x0) + (-s) * m else 0) (fun m => by unfold chd atx; rw [← hs0, if_neg (by grind)]; split <;> grind), slab_on (by grind) t u hs h1 h0]
    grind
def chP (ps : Pts) (i : Nat) (m : Rat) : Rat := chd (px ps i) (py ps i) (px ps ((i + 1) % ps.length)) (py ps ((i + 1) % ps.length)) m
def wid (ps : Pts) (m : Rat) : Rat := smq (fun i => chP ps i m) ps.length
theorem areaS_sm (ps : Pts) : ∀ n, areaS ps n = smq (fun i => px ps i * py ps ((i + 1) % ps.length) - py ps i * px ps ((i + 1) % ps.length)) n
 | 0 => rfl
 | n + 1 => by simp only [areaS, smq, areaS_sm ps n]
theorem area_slab {ps : Pts} (hn : 0 < ps.length) {L : List Rat} (hs : Srt L) (hm : ∀ i, i < ps.length → py ps i ∈ L) : areaS ps ps.length = 2 * slab (wid ps) L := by
 have h1 : slab (wid ps) L = smq (fun i => slab (chP ps i) L) ps.length := slab_sm (chP ps) L ps.length
 have h2 : ∀ (f : Nat → Rat) n, 2 * smq f n = smq (fun i => 2 * f i) n := by
  intro f n
  induction n with
  | zero => simp only [smq]; grind
  | succ n ih => simp only [smq, ← ih]; grind
 have hz : smq (fun i => - (px ps ((i + 1) % ps.length) * py ps ((i + 1) % ps.length)) - - (px ps i * py ps i)) ps.length = 0 := smq_cyc (fun j => - (px ps j * py ps j)) hn
 rw [h1, h2, areaS_sm]
 rw [smq_congr (f := fun i => 2 * slab (chP ps i) L) (g := fun i => (px ps i * py ps ((i + 1) % ps.length) - py ps i * px ps ((i + 1) % ps.length)) - (- (px ps ((i + 1) % ps.length) * py ps ((i + 1) % ps.length)) - - (px ps i * py ps i))) ps.length ?_]
 ·rw [smq_sub (fun i => px ps i * py ps ((i + 1) % ps.length) - py ps i * px ps ((i + 1) % ps.length)) (fun i => - (px ps ((i + 1) % ps.length) * py ps ((i + 1) % ps.length)) - - (px ps i * py ps i)), hz]; grind
 ·intro i hi
  have h3 := slab_side (x0 := px ps i) (x1 := px ps ((i + 1) % ps.length)) hs (hm i hi) (hm _ (Nat.mod_lt (i + 1) hn))
  show 2 * slab (chP ps i) L = _
  unfold chP
  rw [slab_ext (g := chd (px ps i) (py ps i) (px ps ((i + 1) % ps.length)) (py ps ((i + 1) % ps.length))) (fun _ => rfl), h3]
  grind
def upE (ps : Pts) (m : Rat) (i : Nat) : Prop := py ps i < m ∧ m < py ps ((i + 1) % ps.length)
def dnE (ps : Pts) (m : Rat) (i : Nat) : Prop := py ps ((i + 1) % ps.length) < m ∧ m < py ps i
def axP (ps : Pts) (i : Nat) (m : Rat) : Rat := atx (px ps i) (py ps i) (px ps ((i + 1) % ps.length)) (py ps ((i + 1) % ps.length)) m
theorem at_left {x0 y0 x1 y1 m x : Rat} (h : y0 < y1) : 0 ≤ lf x0 y0 x1 y1 x m ↔ x ≤ atx x0 y0 x1 y1 m := by
 have e := dvq (x := x1 - x0) (y := y1 - y0) (by grind)
 unfold lf atx
 generalize hs : (x1 - x0) / (y1 - y0) = s at e ⊢
 have e2 : (x1 - x0) * (m - y0) - (y1 - y0) * (x - x0) = (y1 - y0) * (x0 + s * (m - y0) - x) := by rw [← e]; grind
 rw [e2]
 constructor
 ·intro h1
  rcases rat_tri (x0 + s * (m - y0) - x) 0 with h2 | h2 | h2
  ·have := Rat.mul_pos (show 0 < y1 - y0 by grind) (show 0 < -(x0 + s * (m - y0) - x) by grind); grind
  ·grind
  ·grind
 ·intro h1
  exact Rat.mul_nonneg (by grind) (by grind)
theorem at_right {x0 y0 x1 y1 m x : Rat} (h : y1 < y0) : 0 ≤ lf x0 y0 x1 y1 x m ↔ atx x0 y0 x1 y1 m ≤ x := by
 have e := dvq (x := x1 - x0) (y := y1 - y0) (by grind)
 unfold lf atx
 generalize hs : (x1 - x0) / (y1 - y0) = s at e ⊢
 have e2 : (x1 - x0) * (m - y0) - (y1 - y0) * (x - x0) = (y0 - y1) * (x - (x0 + s * (m - y0))) := by rw [← e]; grind
 rw [e2]
 constructor
 ·intro h1
  rcases rat_tri (x - (x0 + s * (m - y0))) 0 with h2 | h2 | h2
  ·have := Rat.mul_pos (show 0 < y0 - y1 by grind) (show 0 < -(x - (x0 + s * (m - y0))) by grind); grind
  ·grind
  ·grind
 ·intro h1
  exact Rat.mul_nonneg (by grind) (by grind)
theorem at_mean {x0 y0 x1 y1 m : Rat} (h : (y0 < m ∧ m < y1) ∨ (y1 < m ∧ m < y0)) : ∃ t, 0 < t ∧ t < 1 ∧ atx x0 y0 x1 y1 m = (1 - t) * x0 + t * x1 ∧ m = (1 - t) * y0 + t * y1 := by
 have hne : y1 - y0 ≠ 0 := by grind
 have e := dvq (x := x1 - x0) hne
 have e1 := dvq (x := m - y0) hne
 refine ⟨(m - y0) / (y1 - y0), ?_, ?_, ?_, ?_⟩
 ·generalize (m - y0) / (y1 - y0) = t at e1 ⊢
  rcases rat_tri t 0 with h2 | h2 | h2
  ·rcases h with ⟨h, h'⟩ | ⟨h, h'⟩
   ·have := Rat.mul_pos (show 0 < -t by grind) (show 0 < y1 - y0 by grind); grind
   ·have := Rat.mul_pos (show 0 < -t by grind) (show 0 < y0 - y1 by grind); grind
  ·subst h2; grind
  ·exact h2
 ·generalize (m - y0) / (y1 - y0) = t at e1 ⊢
  rcases rat_tri t 1 with h2 | h2 | h2
  ·exact h2
  ·subst h2; grind
  ·rcases h with ⟨h, h'⟩ | ⟨h, h'⟩
   ·have := Rat.mul_pos (show 0 < t - 1 by grind) (show 0 < y1 - y0 by grind); grind
   ·have := Rat.mul_pos (show 0 < t - 1 by grind) (show 0 < y0 - y1 by grind); grind
 ·unfold atx
  generalize (m - y0) / (y1 - y0) = t at e1 ⊢
  generalize (x1 - x0) / (y1 - y0) = s at e ⊢
  rw [← e1, show x1 = x0 + s * (y1 - y0) by grind]
  grind
 ·generalize (m - y0) / (y1 - y0) = t at e1 ⊢
  grind
theorem lf_mean {a b c d x0 y0 x1 y1 t : Rat} : lf a b c d ((1 - t) * x0 + t * x1) ((1 - t) * y0 + t * y1) = (1 - t) * lf a b c d x0 y0 + t * lf a b c d x1 y1 := by unfold lf; grind
theorem mean_in {h : Pts} {x0 y0 x1 y1 m : Rat} (hm : (y0 < m ∧ m < y1) ∨ (y1 < m ∧ m < y0)) (h0 : hasB h x0 y0 = true) (h1 : hasB h x1 y1 = true) : hasB h (atx x0 y0 x1 y1 m) m = true := by
 obtain ⟨t, t0, t1, e1, e2⟩ := at_mean (x0 := x0) (x1 := x1) hm
 unfold hasB at *
 rw [List.all_eq_true] at *
 intro i hi
 have a := of_decide_eq_true (h0 i hi); have b := of_decide_eq_true (h1 i hi)
 refine decide_eq_true ?_
 rw [e1]
 conv => rhs; arg 6; rw [e2]
 rw [lf_mean]
 have := Rat.mul_nonneg (show 0 ≤ 1 - t by grind) a
 have := Rat.mul_nonneg (show 0 ≤ t by grind) b
 grind
theorem hasB_on {ps : Pts} {x y : Rat} (h : hasB ps x y = true) {i : Nat} (hi : i < ps.length) : 0 ≤ lf (px ps i) (py ps i) (px ps ((i + 1) % ps.length)) (py ps ((i + 1) % ps.length)) x y := by
 unfold hasB at h
 rw [List.all_eq_true] at h
 exact of_decide_eq_true (h i (List.mem_range.2 hi))
theorem mod_step {i k n : Nat} (hi : i < n) (hk : k < n) : ∃ d, d < n ∧ (i + d) % n = k := by
 rcases Nat.lt_or_ge k i with h | h
 ·exact ⟨k + n - i, by omega, by rw [show i + (k + n - i) = k + n by omega, Nat.add_mod_right]; exact Nat.mod_eq_of_lt hk⟩
 ·exact ⟨k - i, by omega, by rw [show i + (k - i) = k by omega]; exact Nat.mod_eq_of_lt hk⟩
theorem on_own {x0 y0 x1 y1 m : Rat} (h : y1 - y0 ≠ 0) : lf x0 y0 x1 y1 (atx x0 y0 x1 y1 m) m = 0 := by
 have e := dvq (x := x1 - x0) h
 unfold lf atx
 generalize (x1 - x0) / (y1 - y0) = s at e ⊢
 rw [← e]; grind
theorem one_side {ps : Pts} (hc : Cvx ps) (h3 : 3 ≤ ps.length) {m : Rat} {i j : Nat} (hi : i < ps.length) (hj : j < ps.length) (h : (upE ps m i ∧ upE ps m j) ∨ (dnE ps m i ∧ dnE ps m j)) : i = j := by
 have hn : 0 < ps.length := by omega
 have hi' := Nat.mod_lt (i + 1) hn; have hj' := Nat.mod_lt (j + 1) hn
 have ci : (py ps i < m ∧ m < py ps ((i + 1) % ps.length)) ∨ (py ps ((i + 1) % ps.length) < m ∧ m < py ps i) := h.imp (fun a => a.1) (fun a => a.1)
 have cj : (py ps j < m ∧ m < py ps ((j + 1) % ps.length)) ∨ (py ps ((j + 1) % ps.length) < m ∧ m < py ps j) := h.imp (fun a => a.2) (fun a => a.2)
 have Pi := mean_in (h := ps) ci (has_corner hc hi) (has_corner hc hi')
 have Pj := mean_in (h := ps) cj (has_corner hc hj) (has_corner hc hj')
 have hij := hasB_on Pj hi
 have hji := hasB_on Pi hj
 have same : axP ps i m = axP ps j m := by
  unfold axP
  rcases h with ⟨a, b⟩ | ⟨a, b⟩
  ·rw [at_left (by have := a.1; have := a.2; grind)] at hij
   rw [at_left (by have := b.1; have := b.2; grind)] at hji
   grind
  ·rw [at_right (by have := a.1; have := a.2; grind)] at hij
   rw [at_right (by have := b.1; have := b.2; grind)] at hji
   grind
 -- the point lies on the line of the side i
 have z : lf (px ps i) (py ps i) (px ps ((i + 1) % ps.length)) (py ps ((i + 1) % ps.length)) (axP ps j m) m = 0 := by
  rw [← same]; exact on_own (by rcases ci with a | a <;> grind)
 obtain ⟨t, t0, t1, e1, e2⟩ := at_mean (x0 := px ps j) (x1 := px ps ((j + 1) % ps.length)) cj
 have z2 : (1 - t) * lfp ps i ((i + 1) % ps.length) j + t * lfp ps i ((i + 1) % ps.length) ((j + 1) % ps.length) = 0 := by
  unfold lfp
  rw [← lf_mean, ← e1, ← e2]; exact z
 have p1 := cvx_all hc hi hj
 have p2 := cvx_all hc hi hj'
 obtain ⟨d, hd, ed⟩ := mod_step hi hj
 rcases Nat.lt_or_ge d 2 with h5 | h5
 ·have h6 : d = 0 ∨ d = 1 := by omega
  rcases h6 with rfl | rfl
  ·rw [Nat.add_zero, Nat.mod_eq_of_lt hi] at ed; exact ed
  ·exfalso
   rcases h with ⟨a, b⟩ | ⟨a, b⟩
   ·have := a.2; have := b.1; rw [ed] at *; grind
   ·have := a.1; have := b.2; rw [ed] at *; grind
 ·have := hc i hi d h5 hd
  rw [ed] at this
  have q1 := Rat.mul_pos (show 0 < 1 - t by grind) this
  have q2 := Rat.mul_nonneg (show 0 ≤ t by grind) p2
  grind
theorem ups_downs {ps : Pts} (hn : 0 < ps.length) {m : Rat} (hm : ∀ i, i < ps.length → py ps i ≠ m) :
  smq (fun i => (if py ps i < m ∧ m < py ps ((i + 1) % ps.length) then 1 else 0) - (if py ps ((i + 1) % ps.length) < m ∧ m < py ps i then 1 else 0)) ps.length = 0 := by
 refine (smq_congr _ fun i hi => ?_).trans (smq_cyc (fun i => if m < py ps i then 1 else 0) hn)
 have h1 := hm i hi; have h2 := hm _ (Nat.mod_lt (i + 1) hn)
 grind
theorem wid_cases {ps : Pts} (hc : Cvx ps) (h3 : 3 ≤ ps.length) {m : Rat} (hm : ∀ i, i < ps.length → py ps i ≠ m) :
  ((∀ i, i < ps.length → ¬ upE ps m i ∧ ¬ dnE ps m i) ∧ wid ps m = 0) ∨ ∃ i j, i < ps.length ∧ j < ps.length ∧ upE ps m i ∧ dnE ps m j ∧ wid ps m = axP ps i m - axP ps j m := by
 have hn : 0 < ps.length := by omega
 have hud := ups_downs hn hm
 rw [smq_sub (fun i => if py ps i < m ∧ m < py ps ((i + 1) % ps.length) then 1 else 0) (fun i => if py ps ((i + 1) % ps.length) < m ∧ m < py ps i then 1 else 0)] at hud
 have hw : wid ps m = smq (fun i => if py ps i < m ∧ m < py ps ((i + 1) % ps.length) then axP ps i m else 0) ps.length - smq (fun i => if py ps ((i + 1) % ps.length) < m ∧ m < py ps i then axP ps i m else 0) ps.length := by
  unfold wid
  rw [← smq_sub]
  refine smq_congr _ fun i hi => ?_
  show chP ps i m = _
  unfold chP chd axP
  grind
 have UZ : ∀ v : Nat → Rat, (¬ ∃ i, i < ps.length ∧ upE ps m i) → smq (fun i => if py ps i < m ∧ m < py ps ((i + 1) % ps.length) then v i else 0) ps.length = 0 := fun v hu => smq_zero _ fun a ha => if_neg fun hx => hu ⟨a, ha, hx⟩
 have DZ : ∀ v : Nat → Rat, (¬ ∃ i, i < ps.length ∧ dnE ps m i) → smq (fun i => if py ps ((i + 1) % ps.length) < m ∧ m < py ps i then v i else 0) ps.length = 0 := fun v hu => smq_zero _ fun a ha => if_neg fun hx => hu ⟨a, ha, hx⟩
 have U1 : ∀ (v : Nat → Rat) (i : Nat), i < ps.length → upE ps m i → smq (fun i => if py ps i < m ∧ m < py ps ((i + 1) % ps.length) then v i else 0) ps.length = v i := fun v i hi ui =>
  (smq_one (f := fun i => if py ps i < m ∧ m < py ps ((i + 1) % ps.length) then v i else 0) (k := i) _ hi fun a ha hne => if_neg fun hx => hne (one_side hc h3 ha hi (.inl ⟨hx, ui⟩))).trans (if_pos ui)
 have D1 : ∀ (v : Nat → Rat) (i : Nat), i < ps.length → dnE ps m i → smq (fun i => if py ps ((i + 1) % ps.length) < m ∧ m < py ps i then v i else 0) ps.length = v i := fun v i hi ui =>
  (smq_one (f := fun i => if py ps ((i + 1) % ps.length) < m ∧ m < py ps i then v i else 0) (k := i) _ hi fun a ha hne => if_neg fun hx => hne (one_side hc h3 ha hi (.inr ⟨hx, ui⟩))).trans (if_pos ui)
 by_cases hu : ∃ i, i < ps.length ∧ upE ps m i
 ·obtain ⟨i, hi, ui⟩ := hu
  by_cases hd : ∃ j, j < ps.length ∧ dnE ps m j
  ·obtain ⟨j, hj, dj⟩ := hd
   refine .inr ⟨i, j, hi, hj, ui, dj, ?_⟩
   rw [hw, U1 (fun i => axP ps i m) i hi ui, D1 (fun i => axP ps i m) j hj dj]
  ·exfalso
   rw [U1 (fun _ => 1) i hi ui, DZ (fun _ => 1) hd] at hud
   grind
 ·by_cases hd : ∃ j, j < ps.length ∧ dnE ps m j
  ·exfalso
   obtain ⟨j, hj, dj⟩ := hd
   rw [UZ (fun _ => 1) hu, D1 (fun _ => 1) j hj dj] at hud
   grind
  ·refine .inl ⟨fun i hi => ⟨fun h => hu ⟨i, hi, h⟩, fun h => hd ⟨i, hi, h⟩⟩, ?_⟩
   rw [hw, UZ (fun i => axP ps i m) hu, DZ (fun i => axP ps i m) hd]; grind
theorem beyond {h : Pts} (hc : Cvx h) (h3 : 3 ≤ h.length) {x y r1 r2 : Rat} (hx : hasB h x y = true) : ∃ q, q < h.length ∧ r1 * px h q + r2 * py h q ≤ r1 * x + r2 * y := by
 obtain ⟨q, hq⟩ : ∃ q, supF h (-r1) (-r2) h.length = q := ⟨_, rfl⟩
 have hqn : q < h.length := hq ▸ sup_lt _ (by omega)
 have mq := fun j hj => sup_le (ps := h) (x := -r1) (y := -r2) h.length j hj
 rw [hq] at mq
 obtain ⟨r, s, hr, hs, er, es, hE, hall⟩ := corner hc h3 hqn
 have m1 := mq r hr; have m2 := mq s hs
 have l1 := hasB_on hx hqn
 have l2 := hasB_on hx hr
 rw [es] at l1; rw [er] at l2
 have := cone (x1 := x - px h q) (x2 := y - py h q) (g1 := px h s - px h q) (g2 := py h s - py h q) (f1 := px h r - px h q) (f2 := py h r - py h q) (r1 := r1) (r2 := r2) (by unfold lfp lf at hE; grind) (by unfold lf at l1; grind) (by unfold lf at l2; grind) (by grind) (by grind)
 exact ⟨q, hqn, by grind⟩
theorem crosses {ps : Pts} {m : Rat} (hm : ∀ i, i < ps.length → py ps i ≠ m) (h : ∀ i, i < ps.length → ¬ upE ps m i ∧ ¬ dnE ps m i) : ∀ i, i < ps.length → (py ps i < m ↔ py ps 0 < m) := by
 intro i
 induction i with
 | zero => intro _; exact Iff.rfl
 | succ i ih =>
   intro hi
   have h1 := ih (by omega)
   have h2 := h i (by omega)
   have h3 := hm i (by omega); have h4 := hm (i + 1) hi
   unfold upE dnE at h2
   rw [Nat.mod_eq_of_lt hi] at h2
   rw [← h1]
   grind
theorem wid_le {a h : Pts} (ca : Cvx a) (ch : Cvx h) (ha : 3 ≤ a.length) (h3 : 3 ≤ h.length) (hin : ∀ i, i < a.length → hasB h (px a i) (py a i) = true) {m : Rat} (ma : ∀ i, i < a.length → py a i ≠ m) (mh : ∀ i, i < h.length → py h i ≠ m) : wid a m ≤ wid h m := by
 rcases wid_cases ch h3 mh with ⟨hno, hw⟩ | ⟨i, j, hi, hj, ui, dj, hw⟩
 ·rcases wid_cases ca ha ma with ⟨_, aw⟩ | ⟨p, q, hp, hq, up, dq, aw⟩
  ·rw [hw, aw]; exact Rat.le_refl
  ·exfalso
   have cr := crosses mh hno
   have pn := Nat.mod_lt (p + 1) (show 0 < a.length by omega)
   obtain ⟨b1, hb1, l1⟩ := beyond ch h3 (r1 := 0) (r2 := 1) (hin p hp)
   obtain ⟨b2, hb2, l2⟩ := beyond ch h3 (r1 := 0) (r2 := -1) (hin _ pn)
   have c1 := cr b1 hb1; have c2 := cr b2 hb2
   unfold upE at up
   grind
 ·have onh : axP h j m ≤ axP h i m := by
   have := hasB_on (mean_in (h := h) (.inr dj) (has_corner ch hj) (has_corner ch (Nat.mod_lt (j + 1) (show 0 < h.length by omega)))) hi
   rw [at_left (by have := ui.1; have := ui.2; grind)] at this
   exact this
  rcases wid_cases ca ha ma with ⟨_, aw⟩ | ⟨p, q, hp, hq, up, dq, aw⟩
  ·rw [hw, aw]; grind
  ·have pn := Nat.mod_lt (p + 1) (show 0 < a.length by omega)
   have qn := Nat.mod_lt (q + 1) (show 0 < a.length by omega)
   have P := hasB_on (mean_in (h := h) (.inl up) (hin p hp) (hin _ pn)) hi
   have Q := hasB_on (mean_in (h := h) (.inr dq) (hin q hq) (hin _ qn)) hj
   rw [at_left (by have := ui.1; have := ui.2; grind)] at P
   rw [at_right (by have := dj.1; have := dj.2; grind)] at Q
   rw [hw, aw]
   unfold axP at *
   grind
theorem area_le {a h : Pts} (ca : Cvx a) (ch : Cvx h) (ha : 3 ≤ a.length) (h3 : 3 ≤ h.length) (hin : ∀ i, i < a.length → hasB h (px a i) (py a i) = true) : areaQ a ≤ areaQ h := by
 obtain ⟨L, hL⟩ : ∃ L, inord (((List.range a.length).map (py a)) ++ ((List.range h.length).map (py h))) = L := ⟨_, rfl⟩
 have hs : Srt L := hL ▸ srt_inord _
 have ma : ∀ i, i < a.length → py a i ∈ L := fun i hi => by
  rw [← hL]; exact mem_inord.2 (List.mem_append_left _ (List.mem_map.2 ⟨i, List.mem_range.2 hi, rfl⟩))
 have mh : ∀ i, i < h.length → py h i ∈ L := fun i hi => by
  rw [← hL]; exact mem_inord.2 (List.mem_append_right _ (List.mem_map.2 ⟨i, List.mem_range.2 hi, rfl⟩))
 have h1 := slab_mono (f := wid a) (g := wid h) hs fun m hm => wid_le ca ch ha h3 hin (fun i hi e => hm (e ▸ ma i hi)) (fun i hi e => hm (e ▸ mh i hi))
 unfold areaQ
 rw [area_slab (by omega) hs ma, area_slab (by omega) hs mh]
 have : (0 : Rat) ≤ (((1 : Int) : Rat) / ((2 : Int) : Rat)) := by decide +kernel
 have := Rat.mul_nonneg this (show 0 ≤ 2 * slab (wid h) L - 2 * slab (wid a) L by grind)
 grind
theorem cau {d w1 w2 u1 u2 : Rat} (e : w1 * w1 + w2 * w2 = d) (h : d ≤ w1 * u1 + w2 * u2) : d ≤ u1 * u1 + u2 * u2 := by
 have n1 := sq_nn u1; have n2 := sq_nn u2; have n3 := sq_nn w1; have n4 := sq_nn w2
 have n5 := sq_nn (w1 * u2 - w2 * u1)
 have e2 : d * (u1 * u1 + u2 * u2) = (w1 * u1 + w2 * u2) * (w1 * u1 + w2 * u2) + (w1 * u2 - w2 * u1) * (w1 * u2 - w2 * u1) := by rw [← e]; grind
 rcases rat_tri d (u1 * u1 + u2 * u2) with g | g | g
 ·exact Rat.le_of_lt g
 ·rw [g]; exact Rat.le_refl
 ·exfalso
  have h0 : 0 < d := by grind
  have p1 := Rat.mul_pos h0 (show 0 < d - (u1 * u1 + u2 * u2) by grind)
  have p2 := Rat.mul_nonneg (show 0 ≤ w1 * u1 + w2 * u2 - d by grind) (show 0 ≤ w1 * u1 + w2 * u2 + d by grind)
  grind
theorem te_ge {d w1 w2 x y ax ay bx by_ : Rat} (e : w1 * w1 + w2 * w2 = d) (ha : d ≤ w1 * (ax - x) + w2 * (ay - y)) (hb : d ≤ w1 * (bx - x) + w2 * (by_ - y)) : d ≤ teQ x y ax ay bx by_ := by
 unfold teQ
 split
 ·have := cau e ha; grind
 split
 ·have := cau e hb; grind
 rename_i h1 h2
 obtain ⟨T, hT⟩ : ∃ T, (x - ax) * (bx - ax) + (y - ay) * (by_ - ay) = T := ⟨_, rfl⟩
 obtain ⟨Z, hZ⟩ : ∃ Z, (bx - ax) * (bx - ax) + (by_ - ay) * (by_ - ay) = Z := ⟨_, rfl⟩
 obtain ⟨C, hC⟩ : ∃ C, (bx - ax) * (y - ay) - (by_ - ay) * (x - ax) = C := ⟨_, rfl⟩
 rw [hT] at h1 h2
 rw [hZ] at h2 ⊢
 rw [hC]
 have hZ0 : Z ≠ 0 := by grind
 have et := dvq (x := T) hZ0
 have ec := dvq (x := C * C) hZ0
 generalize T / Z = t at et
 generalize C * C / Z = c at ec ⊢
 have t0 : 0 ≤ t := by
  rcases rat_tri t 0 with g | g | g
  ·have := Rat.mul_pos (show 0 < -t by grind) (show 0 < Z by grind); grind
  ·grind
  ·grind
 have t1 : t ≤ 1 := by
  rcases rat_tri t 1 with g | g | g
  ·grind
  ·grind
  ·have := Rat.mul_pos (show 0 < t - 1 by grind) (show 0 < Z by grind); grind
 have hu : d ≤ w1 * (ax + t * (bx - ax) - x) + w2 * (ay + t * (by_ - ay) - y) := by
  have q1 := Rat.mul_nonneg (show 0 ≤ 1 - t by grind) (show 0 ≤ w1 * (ax - x) + w2 * (ay - y) - d by grind)
  have q2 := Rat.mul_nonneg t0 (show 0 ≤ w1 * (bx - x) + w2 * (by_ - y) - d by grind)
  grind
 have h3 := cau e hu
 have e3 : Z * ((ax + t * (bx - ax) - x) * (ax + t * (bx - ax) - x) + (ay + t * (by_ - ay) - y) * (ay + t * (by_ - ay) - y)) = Z * c := by
  have e4 : (ax + t * (bx - ax) - x) * (ax + t * (bx - ax) - x) + (ay + t * (by_ - ay) - y) * (ay + t * (by_ - ay) - y) = ((x - ax) * (x - ax) + (y - ay) * (y - ay)) - 2 * t * T + t * t * Z := by rw [← hT, ← hZ]; grind
  have e5 : Z * ((x - ax) * (x - ax) + (y - ay) * (y - ay)) = T * T + C * C := by rw [← hT, ← hZ, ← hC]; grind
  rw [e4, show Z * c = C * C by grind]
  have e6 : Z * ((x - ax) * (x - ax) + (y - ay) * (y - ay) - 2 * t * T + t * t * Z) = Z * ((x - ax) * (x - ax) + (y - ay) * (y - ay)) - 2 * (t * Z) * T + (t * Z) * (t * Z) := by grind
  rw [e6, e5, et]; grind
 have e7 : (ax + t * (bx - ax) - x) * (ax + t * (bx - ax) - x) + (ay + t * (by_ - ay) - y) * (ay + t * (by_ - ay) - y) = c := by
  have h8 : Z⁻¹ * (Z * ((ax + t * (bx - ax) - x) * (ax + t * (bx - ax) - x) + (ay + t * (by_ - ay) - y) * (ay + t * (by_ - ay) - y))) = Z⁻¹ * (Z * c) := by rw [e3]
  rw [← Rat.mul_assoc, ← Rat.mul_assoc, Rat.inv_mul_cancel _ hZ0, Rat.one_mul, Rat.one_mul] at h8
  exact h8
 rw [← e7]; exact h3
theorem sq_ge {a b : Pts} (ha : 3 ≤ a.length) (hb : 3 ≤ b.length) {d w1 w2 : Rat} (e : w1 * w1 + w2 * w2 = d) (hm : meetB a b = false) (h : ∀ p q, p < a.length → q < b.length → d ≤ w1 * (px b q - px a p) + w2 * (py b q - py a p)) : d ≤ sqQ a b := by
 unfold sqQ
 rw [if_neg (by rw [hm]; decide)]
 rcases (sq_least (a := a) (b := b) (by omega)).2.2 with ⟨i, hi, h9⟩ | ⟨j, hj, h9⟩
 ·rw [h9]
  obtain ⟨k, hk, h8⟩ := near_is (x := px a i) (y := py a i) (b := b) (by omega) b.length (Nat.le_refl _)
  unfold nearQ
  rw [h8]
  exact te_ge e (h i k hi hk) (h i _ hi (Nat.mod_lt _ (by omega)))
 ·rw [h9]
  obtain ⟨k, hk, h8⟩ := near_is (x := px b j) (y := py b j) (b := a) (by omega) a.length (Nat.le_refl _)
  unfold nearQ
  rw [h8]
  have h1 := h k j hk hj
  have h2 := h _ j (Nat.mod_lt (k + 1) (show 0 < a.length by omega)) hj
  exact te_ge (w1 := -w1) (w2 := -w2) (by grind) (by grind) (by grind)
theorem in_meets {c h b : Pts} (cc : Cvx c) (ch : Cvx h) (cb : Cvx b) (lc : 3 ≤ c.length) (lh : 3 ≤ h.length) (lb : 3 ≤ b.length) (hin : ∀ i, i < c.length → hasB h (px c i) (py c i) = true) (hm : meetB h b = false) : meetB c b = false := by
 obtain ⟨g1, g2, hg⟩ := line_of ch cb lh lb hm
 refine sat cc cb lc lb (w1 := g1) (w2 := g2) fun p q hp hq => ?_
 obtain ⟨r, hr, h1⟩ := beyond ch lh (r1 := -g1) (r2 := -g2) (hin p hp)
 have := hg r q hr hq
 grind
theorem in_far {c h b : Pts} (cc : Cvx c) (ch : Cvx h) (cb : Cvx b) (lc : 3 ≤ c.length) (lh : 3 ≤ h.length) (lb : 3 ≤ b.length) (hin : ∀ i, i < c.length → hasB h (px c i) (py c i) = true) : sqQ h b ≤ sqQ c b := by
 cases hm : meetB h b with
 | true => rw [sq_zero hm]; exact sq_nneg cc cb (by omega) (by omega)
 | false =>
   obtain ⟨w1, w2, e, hw⟩ := way_gap ch cb lh lb hm
   refine sq_ge lc lb e (in_meets cc ch cb lc lh lb hin hm) fun p q hp hq => ?_
   obtain ⟨r, hr, h1⟩ := beyond ch lh (r1 := -w1) (r2 := -w2) (hin p hp)
   have := hw r q hr hq
   grind
end Go.Proofs.YtmchjmflkaiakaaGreatDoor
