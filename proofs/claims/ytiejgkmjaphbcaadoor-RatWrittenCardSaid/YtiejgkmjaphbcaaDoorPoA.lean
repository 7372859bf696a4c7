/- Joined texts. -/
import Derived.Test.YtiejgkmjaphbcaaDoorPoL

/- Plain laws of polygons that are apart. -/
namespace Go.Proofs.YtiejgkmjaphbcaaDoor
open Go.RowKit
set_option linter.unusedVariables false
set_option linter.unusedSimpArgs false

/-! ### polygons beyond each other -/
theorem sgn_le {a : Rat} : sgnQ a ≤ 0 ↔ a ≤ 0 := by unfold sgnQ cmpQ; split <;> (try split) <;> grind
theorem cmp_le_iff {a b : Rat} : 0 ≤ cmpQ a b ↔ b ≤ a := by unfold cmpQ; split <;> (try split) <;> grind
theorem sq_nn (t : Rat) : 0 ≤ t * t := by
  rcases rat_tri t 0 with h | h | h
  · have := Rat.mul_lt_mul_of_pos_right (show 0 < -t by grind) (show 0 < -t by grind); grind
  · subst h; grind
  · have := Rat.mul_lt_mul_of_pos_right h h; grind
theorem sq_ps {t : Rat} (h : t ≠ 0) : 0 < t * t := by
  rcases rat_tri t 0 with h1 | h1 | h1
  · have := Rat.mul_lt_mul_of_pos_right (show 0 < -t by grind) (show 0 < -t by grind); grind
  · exact absurd h1 h
  · have := Rat.mul_lt_mul_of_pos_right h1 h1; grind
theorem div_ps {x y : Rat} (hx : 0 < x) (hy : 0 < y) : 0 < x / y := by
  have e : x / y * y = x := Rat.div_mul_cancel (by grind)
  rcases rat_tri (x / y) 0 with h | h | h
  · have := Rat.mul_lt_mul_of_pos_right h hy; grind
  · rw [h] at e; grind
  · exact h
theorem div_nn {x y : Rat} (hx : 0 ≤ x) (hy : 0 < y) : 0 ≤ x / y := by
  rcases rat_tri x 0 with h | h | h
  · grind
  · subst h; rw [Rat.div_def, Rat.zero_mul]; exact Rat.le_refl
  · have := div_ps h hy; grind
/-- the dot product of the normal of side i of a with the way from its corner to corner j of b -/
def dt (a b : Pts) (i j : Nat) : Rat := (py a ((i + 1) % a.length) - py a i) * (px b j - px a i) + (-(px a ((i + 1) % a.length) - px a i)) * (py b j - py a i)
def sepB (a b : Pts) (i : Nat) : Bool := (List.range b.length).all fun j => decide (0 < dt a b i j)
def bydB (a b : Pts) : Bool := (List.range a.length).any fun i => sepB a b i
def meetB (a b : Pts) : Bool := !bydB a b && !bydB b a
theorem meet_comm (a b : Pts) : meetB a b = meetB b a := by unfold meetB; rw [Bool.and_comm]
/-- the square of the distance of a point from a segment -/
def teQ (x y ax ay bx by_ : Rat) : Rat :=
  if (x - ax) * (bx - ax) + (y - ay) * (by_ - ay) ≤ 0 then (x - ax) * (x - ax) + (y - ay) * (y - ay)
  else if (bx - ax) * (bx - ax) + (by_ - ay) * (by_ - ay) ≤ (x - ax) * (bx - ax) + (y - ay) * (by_ - ay) then (x - bx) * (x - bx) + (y - by_) * (y - by_)
  else (((bx - ax) * (y - ay) - (by_ - ay) * (x - ax)) * ((bx - ax) * (y - ay) - (by_ - ay) * (x - ax))) / ((bx - ax) * (bx - ax) + (by_ - ay) * (by_ - ay))
theorem te_nn (x y ax ay bx by_ : Rat) : 0 ≤ teQ x y ax ay bx by_ := by
  unfold teQ
  split
  · have := sq_nn (x - ax); have := sq_nn (y - ay); grind
  · split
    · have := sq_nn (x - bx); have := sq_nn (y - by_); grind
    · exact div_nn (sq_nn _) (by grind)
theorem te_mv {c s tx ty : Rat} (h : c * c + s * s = 1) (x y ax ay bx by_ : Rat) :
    teQ (mvx c s tx ty x y) (mvy c s tx ty x y) (mvx c s tx ty ax ay) (mvy c s tx ty ax ay) (mvx c s tx ty bx by_) (mvy c s tx ty bx by_) = teQ x y ax ay bx by_ := by
  have dot : ∀ p q r t u v : Rat, (mvx c s tx ty p q - mvx c s tx ty r t) * (mvx c s tx ty u v - mvx c s tx ty r t) + (mvy c s tx ty p q - mvy c s tx ty r t) * (mvy c s tx ty u v - mvy c s tx ty r t) = (p - r) * (u - r) + (q - t) * (v - t) := by
    intro p q r t u v
    have e : (mvx c s tx ty p q - mvx c s tx ty r t) * (mvx c s tx ty u v - mvx c s tx ty r t) + (mvy c s tx ty p q - mvy c s tx ty r t) * (mvy c s tx ty u v - mvy c s tx ty r t) = ((p - r) * (u - r) + (q - t) * (v - t)) * (c * c + s * s) := by
      unfold mvx mvy; grind
    rw [e, h, Rat.mul_one]
  have crs := lf_mv h ax ay bx by_ x y (tx := tx) (ty := ty)
  unfold lf at crs
  unfold teQ
  rw [dot x y ax ay bx by_, dot x y ax ay x y, dot bx by_ ax ay bx by_, dot x y bx by_ x y, crs]
/-- a point and a segment on the two sides of a line -/
theorem te_pos {nx ny x y ax ay bx by_ : Rat} (h1 : nx * x + ny * y < nx * ax + ny * ay) (h2 : nx * x + ny * y < nx * bx + ny * by_) : 0 < teQ x y ax ay bx by_ := by
  unfold teQ
  split
  · have e : (x - ax) ≠ 0 ∨ (y - ay) ≠ 0 := by
      by_cases hx : x - ax = 0
      · right; intro hy
        have e1 : x = ax := by grind
        have e2 : y = ay := by grind
        subst e1; subst e2; grind
      · exact .inl hx
    have := sq_nn (x - ax)
    have := sq_nn (y - ay)
    rcases e with e | e
    · have := sq_ps e; grind
    · have := sq_ps e; grind
  · rename_i ht
    split
    · have e : (x - bx) ≠ 0 ∨ (y - by_) ≠ 0 := by
        by_cases hx : x - bx = 0
        · right; intro hy
          have e1 : x = bx := by grind
          have e2 : y = by_ := by grind
          subst e1; subst e2; grind
        · exact .inl hx
      have := sq_nn (x - bx)
      have := sq_nn (y - by_)
      rcases e with e | e
      · have := sq_ps e; grind
      · have := sq_ps e; grind
    · rename_i hs
      have hT : 0 < (x - ax) * (bx - ax) + (y - ay) * (by_ - ay) := by grind
      have hS : 0 < (bx - ax) * (bx - ax) + (by_ - ay) * (by_ - ay) := by grind
      refine div_ps (sq_ps fun hc => ?_) hS
      -- the point would lie between the ends
      have key : ((bx - ax) * (bx - ax) + (by_ - ay) * (by_ - ay)) * (nx * (x - ax) + ny * (y - ay)) = ((x - ax) * (bx - ax) + (y - ay) * (by_ - ay)) * (nx * (bx - ax) + ny * (by_ - ay)) + ((bx - ax) * (y - ay) - (by_ - ay) * (x - ax)) * (ny * (bx - ax) - nx * (by_ - ay)) := by grind
      rw [hc, Rat.zero_mul, Rat.add_zero] at key
      obtain ⟨T, hTe⟩ : ∃ T, (x - ax) * (bx - ax) + (y - ay) * (by_ - ay) = T := ⟨_, rfl⟩
      obtain ⟨Z, hZe⟩ : ∃ Z, (bx - ax) * (bx - ax) + (by_ - ay) * (by_ - ay) = Z := ⟨_, rfl⟩
      obtain ⟨U, hU⟩ : ∃ U, nx * (x - ax) + ny * (y - ay) = U := ⟨_, rfl⟩
      obtain ⟨V, hV⟩ : ∃ V, nx * (bx - ax) + ny * (by_ - ay) = V := ⟨_, rfl⟩
      rw [hTe] at hT hs key
      rw [hZe] at hS hs key
      rw [hU, hV] at key
      have hU0 : U < 0 := by rw [← hU]; grind
      have hUV : U < V := by rw [← hU, ← hV]; grind
      have hTZ : T < Z := by grind
      -- Z U = T V > T U, and T U > Z U
      have a1 := Rat.mul_lt_mul_of_pos_right hUV hT
      have a2 := Rat.mul_lt_mul_of_pos_right hTZ (show 0 < -U by grind)
      grind
/-! ### the distance -/
def nearF (x y : Rat) (b : Pts) : Nat → Rat
  | 0 => teQ x y (px b 0) (py b 0) (px b 1) (py b 1)
  | j + 1 => minQ (nearF x y b j) (teQ x y (px b j) (py b j) (px b ((j + 1) % b.length)) (py b ((j + 1) % b.length)))
def nearQ (x y : Rat) (b : Pts) : Rat := nearF x y b b.length
def sqA (a b : Pts) : Nat → Rat
  | 0 => nearQ (px a 0) (py a 0) b
  | i + 1 => minQ (sqA a b i) (nearQ (px a i) (py a i) b)
def sqB (a b : Pts) (v : Rat) : Nat → Rat
  | 0 => v
  | j + 1 => minQ (sqB a b v j) (nearQ (px b j) (py b j) a)
def sqQ (a b : Pts) : Rat := if meetB a b = true then 0 else sqB a b (sqA a b a.length) b.length
theorem min_ll (a b : Rat) : minQ a b ≤ a := by unfold minQ cmpQ; grind
theorem min_rr (a b : Rat) : minQ a b ≤ b := by unfold minQ cmpQ; grind
theorem min_or (a b : Rat) : minQ a b = a ∨ minQ a b = b := by unfold minQ; split; exact .inl rfl; exact .inr rfl
theorem min_ps {a b : Rat} (ha : 0 < a) (hb : 0 < b) : 0 < minQ a b := by rcases min_or a b with h | h <;> rw [h] <;> assumption
theorem min_nn {a b : Rat} (ha : 0 ≤ a) (hb : 0 ≤ b) : 0 ≤ minQ a b := by rcases min_or a b with h | h <;> rw [h] <;> assumption
theorem near_ps {x y : Rat} {b : Pts} (h2 : 2 ≤ b.length) (h : ∀ j k, j < b.length → k < b.length → 0 < teQ x y (px b j) (py b j) (px b k) (py b k)) : ∀ j, j ≤ b.length → 0 < nearF x y b j := by
  intro j
  induction j with
  | zero => intro _; exact h 0 1 (by omega) (by omega)
  | succ j ih => intro hj; exact min_ps (ih (by omega)) (h j _ (by omega) (Nat.mod_lt _ (by omega)))
theorem near_nn (x y : Rat) (b : Pts) : ∀ j, 0 ≤ nearF x y b j := by
  intro j
  induction j with
  | zero => exact te_nn _ _ _ _ _ _
  | succ j ih => exact min_nn ih (te_nn _ _ _ _ _ _)
theorem sqA_le {a b : Pts} : ∀ n i, i < n → sqA a b n ≤ nearQ (px a i) (py a i) b := by
  intro n
  induction n with
  | zero => intro i h; omega
  | succ n ih =>
    intro i h
    rcases Nat.lt_or_ge i n with h1 | h1
    · have := ih i h1; have := min_ll (sqA a b n) (nearQ (px a n) (py a n) b); simp only [sqA]; grind
    · have : i = n := by omega
      subst this; exact min_rr _ _
theorem sqA_is {a b : Pts} : ∀ n, ∃ i, (i < n ∨ i = 0) ∧ sqA a b n = nearQ (px a i) (py a i) b := by
  intro n
  induction n with
  | zero => exact ⟨0, .inr rfl, rfl⟩
  | succ n ih =>
    obtain ⟨i, h1, h2⟩ := ih
    rcases min_or (sqA a b n) (nearQ (px a n) (py a n) b) with h | h
    · exact ⟨i, by rcases h1 with h1 | h1; exact .inl (by omega); exact .inr h1, by simp only [sqA]; rw [h, h2]⟩
    · exact ⟨n, .inl (by omega), by simp only [sqA]; rw [h]⟩
theorem sqB_le {a b : Pts} {v : Rat} : ∀ n, sqB a b v n ≤ v ∧ ∀ j, j < n → sqB a b v n ≤ nearQ (px b j) (py b j) a := by
  intro n
  induction n with
  | zero => exact ⟨Rat.le_refl, fun j h => by omega⟩
  | succ n ih =>
    have h1 := min_ll (sqB a b v n) (nearQ (px b n) (py b n) a)
    have h2 := min_rr (sqB a b v n) (nearQ (px b n) (py b n) a)
    refine ⟨by simp only [sqB]; grind, fun j h => ?_⟩
    rcases Nat.lt_or_ge j n with h3 | h3
    · have := ih.2 j h3; simp only [sqB]; grind
    · have : j = n := by omega
      subst this; exact h2
theorem sqB_is {a b : Pts} {v : Rat} : ∀ n, sqB a b v n = v ∨ ∃ j, j < n ∧ sqB a b v n = nearQ (px b j) (py b j) a := by
  intro n
  induction n with
  | zero => exact .inl rfl
  | succ n ih =>
    rcases min_or (sqB a b v n) (nearQ (px b n) (py b n) a) with h | h
    · rcases ih with h1 | ⟨j, h1, h2⟩
      · exact .inl (by simp only [sqB]; rw [h, h1])
      · exact .inr ⟨j, by omega, by simp only [sqB]; rw [h, h2]⟩
    · exact .inr ⟨n, by omega, by simp only [sqB]; rw [h]⟩
/-- the least of all -/
theorem sq_least {a b : Pts} (ha : 0 < a.length) : (∀ i, i < a.length → sqB a b (sqA a b a.length) b.length ≤ nearQ (px a i) (py a i) b) ∧ (∀ j, j < b.length → sqB a b (sqA a b a.length) b.length ≤ nearQ (px b j) (py b j) a) ∧
    ((∃ i, i < a.length ∧ sqB a b (sqA a b a.length) b.length = nearQ (px a i) (py a i) b) ∨ (∃ j, j < b.length ∧ sqB a b (sqA a b a.length) b.length = nearQ (px b j) (py b j) a)) := by
  have h1 := sqB_le (a := a) (b := b) (v := sqA a b a.length) b.length
  refine ⟨fun i hi => ?_, h1.2, ?_⟩
  · have := sqA_le (a := a) (b := b) a.length i hi
    have := h1.1
    grind
  · rcases sqB_is (a := a) (b := b) (v := sqA a b a.length) b.length with h | ⟨j, h2, h3⟩
    · obtain ⟨i, h4, h5⟩ := sqA_is (a := a) (b := b) a.length
      exact .inl ⟨i, by rcases h4 with h4 | h4 <;> omega, by rw [h, h5]⟩
    · exact .inr ⟨j, h2, h3⟩
theorem sq_comm {a b : Pts} (ha : 0 < a.length) (hb : 0 < b.length) : sqQ a b = sqQ b a := by
  unfold sqQ
  rw [meet_comm b a]
  split
  · rfl
  · obtain ⟨a1, a2, a3⟩ := sq_least (b := b) ha
    obtain ⟨b1, b2, b3⟩ := sq_least (b := a) hb
    have le1 : sqB a b (sqA a b a.length) b.length ≤ sqB b a (sqA b a b.length) a.length := by
      rcases b3 with ⟨i, hi, e⟩ | ⟨j, hj, e⟩
      · rw [e]; exact a2 i hi
      · rw [e]; exact a1 j hj
    have le2 : sqB b a (sqA b a b.length) a.length ≤ sqB a b (sqA a b a.length) b.length := by
      rcases a3 with ⟨i, hi, e⟩ | ⟨j, hj, e⟩
      · rw [e]; exact b2 i hi
      · rw [e]; exact b1 j hj
    exact Rat.le_antisymm le1 le2
/-- apart by a side of a -/
theorem apart_ps {a b : Pts} (ca : Cvx a) {i : Nat} (hi : i < a.length) (hs : sepB a b i = true) {p q r : Nat} :
    (p < a.length → q < b.length → r < b.length → 0 < teQ (px a p) (py a p) (px b q) (py b q) (px b r) (py b r)) ∧ (q < b.length → p < a.length → r < a.length → 0 < teQ (px b q) (py b q) (px a p) (py a p) (px a r) (py a r)) := by
  unfold sepB at hs
  rw [List.all_eq_true] at hs
  have hb : ∀ j, j < b.length → 0 < dt a b i j := fun j hj => by simpa using hs j (List.mem_range.2 hj)
  have hA : ∀ p, p < a.length → 0 ≤ lfp a i ((i + 1) % a.length) p := fun p hp => cvx_all ca hi hp
  unfold dt at hb
  unfold lfp lf at hA
  refine ⟨fun hp hq hr => ?_, fun hq hp hr => ?_⟩
  · refine te_pos (nx := py a ((i + 1) % a.length) - py a i) (ny := -(px a ((i + 1) % a.length) - px a i)) ?_ ?_
    · have := hA p hp; have := hb q hq; grind
    · have := hA p hp; have := hb r hr; grind
  · refine te_pos (nx := -(py a ((i + 1) % a.length) - py a i)) (ny := px a ((i + 1) % a.length) - px a i) ?_ ?_
    · have := hA p hp; have := hb q hq; grind
    · have := hA r hr; have := hb q hq; grind
theorem apart_ps2 {a b : Pts} (ca : Cvx a) (cb : Cvx b) (hm : meetB a b = false) {p q r : Nat} :
    (p < a.length → q < b.length → r < b.length → 0 < teQ (px a p) (py a p) (px b q) (py b q) (px b r) (py b r)) ∧ (q < b.length → p < a.length → r < a.length → 0 < teQ (px b q) (py b q) (px a p) (py a p) (px a r) (py a r)) := by
  unfold meetB at hm
  rw [Bool.and_eq_false_iff] at hm
  simp only [Bool.not_eq_false'] at hm
  rcases hm with hm | hm
  · unfold bydB at hm
    rw [List.any_eq_true] at hm
    obtain ⟨i, hi, hs⟩ := hm
    exact apart_ps ca (List.mem_range.1 hi) hs
  · unfold bydB at hm
    rw [List.any_eq_true] at hm
    obtain ⟨i, hi, hs⟩ := hm
    have h1 := fun p q r => apart_ps (p := p) (q := q) (r := r) cb (List.mem_range.1 hi) hs
    exact ⟨fun hp hq hr => (h1 q p r).2 hp hq hr, fun hq hp hr => (h1 q p r).1 hq hp hr⟩
theorem sq_ps2 {a b : Pts} (ca : Cvx a) (cb : Cvx b) (ha : 2 ≤ a.length) (hb : 2 ≤ b.length) (hm : meetB a b = false) : 0 < sqQ a b := by
  unfold sqQ
  rw [if_neg (by rw [hm]; decide)]
  rcases (sq_least (a := a) (b := b) (by omega)).2.2 with ⟨i, hi, e⟩ | ⟨j, hj, e⟩
  · rw [e]; exact near_ps hb (fun j k hj hk => (apart_ps2 ca cb hm).1 hi hj hk) _ (Nat.le_refl _)
  · rw [e]; exact near_ps ha (fun p k hp hk => (apart_ps2 ca cb hm).2 hj hp hk) _ (Nat.le_refl _)
theorem sq_zero {a b : Pts} (hm : meetB a b = true) : sqQ a b = 0 := if_pos hm
theorem sq_nneg {a b : Pts} (ca : Cvx a) (cb : Cvx b) (ha : 2 ≤ a.length) (hb : 2 ≤ b.length) : 0 ≤ sqQ a b := by
  cases hm : meetB a b with
  | true => rw [sq_zero hm]; exact Rat.le_refl
  | false => have := sq_ps2 ca cb ha hb hm; grind
/-! ### seen from another frame -/
section
variable {c s tx ty : Rat} (h : c * c + s * s = 1)
include h
theorem dt_mv {a b : Pts} {i j : Nat} (hi : i < a.length) (hj : j < b.length) : dt (mvP c s tx ty a) (mvP c s tx ty b) i j = dt a b i j := by
  have hk : (i + 1) % a.length < a.length := Nat.mod_lt _ (by omega)
  have e := lf_mv h (px a i) (py a i) (px a ((i + 1) % a.length)) (py a ((i + 1) % a.length)) (px b j) (py b j) (tx := tx) (ty := ty)
  unfold dt
  rw [mvP_len, px_mv hi, py_mv hi, px_mv hk, py_mv hk, px_mv hj, py_mv hj]
  unfold lf at e
  grind
theorem sep_mv {a b : Pts} {i : Nat} (hi : i < a.length) : sepB (mvP c s tx ty a) (mvP c s tx ty b) i = sepB a b i := by
  unfold sepB
  rw [mvP_len, Bool.eq_iff_iff, List.all_eq_true, List.all_eq_true]
  constructor
  · intro H j hj; have := H j hj; rwa [dt_mv h hi (List.mem_range.1 hj)] at this
  · intro H j hj; rw [dt_mv h hi (List.mem_range.1 hj)]; exact H j hj
theorem byd_mv (a b : Pts) : bydB (mvP c s tx ty a) (mvP c s tx ty b) = bydB a b := by
  unfold bydB
  rw [mvP_len, Bool.eq_iff_iff, List.any_eq_true, List.any_eq_true]
  constructor
  · rintro ⟨i, hi, H⟩; exact ⟨i, hi, by rwa [sep_mv h (List.mem_range.1 hi)] at H⟩
  · rintro ⟨i, hi, H⟩; exact ⟨i, hi, by rwa [sep_mv h (List.mem_range.1 hi)]⟩
theorem meet_mv (a b : Pts) : meetB (mvP c s tx ty a) (mvP c s tx ty b) = meetB a b := by unfold meetB; rw [byd_mv h, byd_mv h]
theorem near_mv {x y : Rat} {b : Pts} (hb : 2 ≤ b.length) : ∀ j, j ≤ b.length → nearF (mvx c s tx ty x y) (mvy c s tx ty x y) (mvP c s tx ty b) j = nearF x y b j := by
  intro j
  induction j with
  | zero => intro _; simp only [nearF]; rw [px_mv (show 0 < b.length by omega), py_mv (show 0 < b.length by omega), px_mv (show 1 < b.length by omega), py_mv (show 1 < b.length by omega), te_mv h]
  | succ j ih =>
    intro hj
    have hk : (j + 1) % b.length < b.length := Nat.mod_lt _ (by omega)
    simp only [nearF]
    rw [ih (by omega), mvP_len, px_mv (show j < b.length by omega), py_mv (show j < b.length by omega), px_mv hk, py_mv hk, te_mv h]
theorem nearQ_mv {x y : Rat} {b : Pts} (hb : 2 ≤ b.length) : nearQ (mvx c s tx ty x y) (mvy c s tx ty x y) (mvP c s tx ty b) = nearQ x y b := by
  unfold nearQ; rw [mvP_len]; exact near_mv h hb _ (Nat.le_refl _)
theorem sqA_mv {a b : Pts} (ha : 2 ≤ a.length) (hb : 2 ≤ b.length) : ∀ i, i ≤ a.length → sqA (mvP c s tx ty a) (mvP c s tx ty b) i = sqA a b i := by
  intro i
  induction i with
  | zero => intro _; simp only [sqA]; rw [px_mv (show 0 < a.length by omega), py_mv (show 0 < a.length by omega), nearQ_mv h hb]
  | succ i ih => intro hi; simp only [sqA]; rw [ih (by omega), px_mv (show i < a.length by omega), py_mv (show i < a.length by omega), nearQ_mv h hb]
theorem sqB_mv {a b : Pts} {v : Rat} (ha : 2 ≤ a.length) : ∀ j, j ≤ b.length → sqB (mvP c s tx ty a) (mvP c s tx ty b) v j = sqB a b v j := by
  intro j
  induction j with
  | zero => intro _; rfl
  | succ j ih => intro hj; simp only [sqB]; rw [ih (by omega), px_mv (show j < b.length by omega), py_mv (show j < b.length by omega), nearQ_mv h ha]
theorem sq_mv {a b : Pts} (ha : 2 ≤ a.length) (hb : 2 ≤ b.length) : sqQ (mvP c s tx ty a) (mvP c s tx ty b) = sqQ a b := by
  unfold sqQ
  rw [meet_mv h, mvP_len, mvP_len, sqA_mv h ha hb _ (Nat.le_refl _), sqB_mv h ha _ (Nat.le_refl _)]
end
end Go.Proofs.YtiejgkmjaphbcaaDoor
