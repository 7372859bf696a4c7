/- Joined texts. -/
import Derived.Test.YtiejgkmjaphbcaaDoorPo1

/- Plain laws of polygons. -/
namespace Go.Proofs.YtiejgkmjaphbcaaDoor
open Go.RowKit
set_option linter.unusedVariables false
set_option linter.unusedSimpArgs false

/-! ### moved points -/
def mvx (c s tx ty x y : Rat) : Rat := tx + (x * c - y * s)
def mvy (c s tx ty x y : Rat) : Rat := ty + (x * s + y * c)
def mvP (c s tx ty : Rat) (ps : Pts) : Pts := ps.map fun p => (mvx c s tx ty p.1 p.2, mvy c s tx ty p.1 p.2)
theorem mvP_len (c s tx ty : Rat) (ps : Pts) : (mvP c s tx ty ps).length = ps.length := by simp [mvP]
theorem px_mv {c s tx ty : Rat} {ps : Pts} {i : Nat} (h : i < ps.length) : px (mvP c s tx ty ps) i = mvx c s tx ty (px ps i) (py ps i) := by
  simp [px, py, mvP, List.getD_eq_getElem?_getD, h]
theorem py_mv {c s tx ty : Rat} {ps : Pts} {i : Nat} (h : i < ps.length) : py (mvP c s tx ty ps) i = mvy c s tx ty (px ps i) (py ps i) := by
  simp [px, py, mvP, List.getD_eq_getElem?_getD, h]
theorem lf_mv {c s tx ty : Rat} (h : c * c + s * s = 1) (a b d e f g : Rat) :
    lf (mvx c s tx ty a b) (mvy c s tx ty a b) (mvx c s tx ty d e) (mvy c s tx ty d e) (mvx c s tx ty f g) (mvy c s tx ty f g) = lf a b d e f g := by
  have e1 : lf (mvx c s tx ty a b) (mvy c s tx ty a b) (mvx c s tx ty d e) (mvy c s tx ty d e) (mvx c s tx ty f g) (mvy c s tx ty f g) = lf a b d e f g * (c * c + s * s) := by
    unfold lf mvx mvy; grind
  rw [e1, h, Rat.mul_one]
theorem lfp_mv {c s tx ty : Rat} (h : c * c + s * s = 1) {ps : Pts} {i j m : Nat} (hi : i < ps.length) (hj : j < ps.length) (hm : m < ps.length) : lfp (mvP c s tx ty ps) i j m = lfp ps i j m := by
  unfold lfp
  rw [px_mv hi, py_mv hi, px_mv hj, py_mv hj, px_mv hm, py_mv hm, lf_mv h]
theorem cvx_mv {c s tx ty : Rat} (h : c * c + s * s = 1) {ps : Pts} (hc : Cvx ps) : Cvx (mvP c s tx ty ps) := by
  intro i hi k h2 hk
  rw [mvP_len] at *
  have hn : 0 < ps.length := by omega
  rw [lfp_mv h hi (Nat.mod_lt _ hn) (Nat.mod_lt _ hn)]
  exact hc i hi k h2 hk
/-- does the polygon contain the point -/
def hasB (ps : Pts) (x y : Rat) : Bool := (List.range ps.length).all fun i => decide (0 ≤ lf (px ps i) (py ps i) (px ps ((i + 1) % ps.length)) (py ps ((i + 1) % ps.length)) x y)
theorem hasB_mv {c s tx ty : Rat} (h : c * c + s * s = 1) (ps : Pts) (x y : Rat) : hasB (mvP c s tx ty ps) (mvx c s tx ty x y) (mvy c s tx ty x y) = hasB ps x y := by
  unfold hasB
  rw [mvP_len]
  rw [Bool.eq_iff_iff, List.all_eq_true, List.all_eq_true]
  have key : ∀ i ∈ List.range ps.length, lf (px (mvP c s tx ty ps) i) (py (mvP c s tx ty ps) i) (px (mvP c s tx ty ps) ((i + 1) % ps.length)) (py (mvP c s tx ty ps) ((i + 1) % ps.length)) (mvx c s tx ty x y) (mvy c s tx ty x y) = lf (px ps i) (py ps i) (px ps ((i + 1) % ps.length)) (py ps ((i + 1) % ps.length)) x y := by
    intro i hi
    have hi := List.mem_range.1 hi
    have hj : (i + 1) % ps.length < ps.length := Nat.mod_lt _ (by omega)
    rw [px_mv hi, py_mv hi, px_mv hj, py_mv hj, lf_mv h]
  constructor
  · intro H i hi; have := H i hi; rwa [key i hi] at this
  · intro H i hi; rw [key i hi]; exact H i hi
/-- the sum of the first products -/
def areaS (ps : Pts) : Nat → Rat
  | 0 => 0
  | i + 1 => areaS ps i + (px ps i * py ps ((i + 1) % ps.length) - py ps i * px ps ((i + 1) % ps.length))
theorem area_mv_i {c s tx ty : Rat} (h : c * c + s * s = 1) {ps : Pts} (hn : 0 < ps.length) : ∀ i, i ≤ ps.length →
    areaS (mvP c s tx ty ps) i = areaS ps i + tx * ((px ps (i % ps.length) * s + py ps (i % ps.length) * c) - (px ps 0 * s + py ps 0 * c)) - ty * ((px ps (i % ps.length) * c - py ps (i % ps.length) * s) - (px ps 0 * c - py ps 0 * s)) := by
  intro i
  induction i with
  | zero => intro _; rw [Nat.zero_mod]; simp only [areaS]; grind
  | succ i ih =>
    intro hi
    have ih := ih (by omega)
    have hj : (i + 1) % ps.length < ps.length := Nat.mod_lt _ hn
    rw [Nat.mod_eq_of_lt (show i < ps.length by omega)] at ih
    simp only [areaS]
    rw [mvP_len, ih, px_mv (show i < ps.length by omega), py_mv (show i < ps.length by omega), px_mv hj, py_mv hj]
    generalize px ps ((i + 1) % ps.length) = bx
    generalize py ps ((i + 1) % ps.length) = b_y
    generalize px ps i = ax
    generalize py ps i = ay
    generalize px ps 0 = ox
    generalize py ps 0 = oy
    generalize areaS ps i = S
    have e : mvx c s tx ty ax ay * mvy c s tx ty bx b_y - mvy c s tx ty ax ay * mvx c s tx ty bx b_y = (ax * b_y - ay * bx) * (c * c + s * s) + tx * ((bx * s + b_y * c) - (ax * s + ay * c)) - ty * ((bx * c - b_y * s) - (ax * c - ay * s)) := by
      unfold mvx mvy; grind
    rw [e, h]; grind
def areaQ (ps : Pts) : Rat := (((1 : Int) : Rat) / ((2 : Int) : Rat)) * areaS ps ps.length
theorem area_mv {c s tx ty : Rat} (h : c * c + s * s = 1) {ps : Pts} (hn : 0 < ps.length) : areaQ (mvP c s tx ty ps) = areaQ ps := by
  unfold areaQ
  rw [mvP_len, area_mv_i h hn _ (Nat.le_refl _), Nat.mod_self]; grind
/-- the triangles at the first corner -/
def fanS (ps : Pts) : Nat → Rat
  | 0 => 0
  | i + 1 => fanS ps i + lfp ps i ((i + 1) % ps.length) 0
theorem area_fan {ps : Pts} (hn : 0 < ps.length) : ∀ i, i ≤ ps.length → areaS ps i = fanS ps i + (px ps 0 * py ps (i % ps.length) - py ps 0 * px ps (i % ps.length)) := by
  intro i
  induction i with
  | zero => intro _; rw [Nat.zero_mod]; simp only [areaS, fanS]; grind
  | succ i ih =>
    intro hi
    have ih := ih (by omega)
    rw [Nat.mod_eq_of_lt (show i < ps.length by omega)] at ih
    simp only [areaS, fanS]
    rw [ih]
    unfold lfp lf
    grind
theorem fan_nonneg {ps : Pts} (hc : Cvx ps) : ∀ i, i ≤ ps.length → 0 ≤ fanS ps i ∧ (3 ≤ ps.length → 2 ≤ i → 0 < fanS ps i) := by
  intro i
  induction i with
  | zero => intro _; simp only [fanS]; exact ⟨Rat.le_refl, fun _ h => by omega⟩
  | succ i ih =>
    intro hi
    obtain ⟨h1, h2⟩ := ih (by omega)
    simp only [fanS]
    rcases Nat.eq_zero_or_pos i with h0 | h0
    · subst h0
      have : lfp ps 0 ((0 + 1) % ps.length) 0 = 0 := by unfold lfp lf; grind
      rw [this]
      exact ⟨by grind, fun _ h => by omega⟩
    · rcases Nat.lt_or_ge (i + 1) ps.length with h3 | h3
      · have h4 := hc i (by omega) (ps.length - i) (by omega) (by omega)
        rw [show i + (ps.length - i) = ps.length by omega, Nat.mod_self] at h4
        exact ⟨by grind, fun _ _ => by grind⟩
      · have h4 : i + 1 = ps.length := by omega
        have : lfp ps i ((i + 1) % ps.length) 0 = 0 := by rw [h4, Nat.mod_self]; unfold lfp lf; grind
        rw [this]
        refine ⟨by grind, fun h5 _ => ?_⟩
        have := h2 h5 (by omega)
        grind
theorem area_pos {ps : Pts} (hc : Cvx ps) (h3 : 3 ≤ ps.length) : 0 < areaQ ps := by
  unfold areaQ
  rw [area_fan (by omega) _ (Nat.le_refl _), Nat.mod_self]
  have := (fan_nonneg hc _ (Nat.le_refl _)).2 h3 (by omega)
  have e : ((1 : Int) : Rat) / ((2 : Int) : Rat) = 1 / 2 := by decide +kernel
  rw [e]; grind
/-- every corner is to the left of every side, or on it -/
theorem cvx_all {ps : Pts} (hc : Cvx ps) {j i : Nat} (hj : j < ps.length) (hi : i < ps.length) : 0 ≤ lfp ps j ((j + 1) % ps.length) i := by
  obtain ⟨k, hk, hki⟩ : ∃ k, k < ps.length ∧ (j + k) % ps.length = i := by
    rcases Nat.lt_or_ge i j with h | h
    · exact ⟨i + ps.length - j, by omega, by rw [show j + (i + ps.length - j) = i + ps.length by omega, Nat.add_mod_right]; exact Nat.mod_eq_of_lt hi⟩
    · exact ⟨i - j, by omega, by rw [show j + (i - j) = i by omega]; exact Nat.mod_eq_of_lt hi⟩
  rcases Nat.lt_or_ge k 2 with h | h
  · have : k = 0 ∨ k = 1 := by omega
    rcases this with rfl | rfl
    · rw [Nat.add_zero, Nat.mod_eq_of_lt hj] at hki
      subst hki
      have : lfp ps j ((j + 1) % ps.length) j = 0 := by unfold lfp lf; grind
      rw [this]; exact Rat.le_refl
    · rw [hki]
      have : lfp ps j i i = 0 := by unfold lfp lf; grind
      rw [this]; exact Rat.le_refl
  · have := hc j hj k h hk
    rw [hki] at this; grind
theorem has_mid {ps : Pts} (hc : Cvx ps) {i k : Nat} (hi : i < ps.length) (hk : k < ps.length) {hf : Rat} (hh : hf = 1 / 2) : hasB ps ((px ps i + px ps k) * hf) ((py ps i + py ps k) * hf) = true := by
  unfold hasB
  rw [List.all_eq_true]
  intro j hj
  have hj := List.mem_range.1 hj
  have h1 := cvx_all hc hj hi
  have h2 := cvx_all hc hj hk
  rw [decide_eq_true_eq]
  subst hh
  unfold lfp at h1 h2
  unfold lf at *
  grind
theorem has_corner {ps : Pts} (hc : Cvx ps) {i : Nat} (hi : i < ps.length) : hasB ps (px ps i) (py ps i) = true := by
  have h := has_mid hc hi hi rfl
  have e1 : (px ps i + px ps i) * (1 / 2) = px ps i := by grind
  have e2 : (py ps i + py ps i) * (1 / 2) = py ps i := by grind
  rwa [e1, e2] at h
/-- the corner that Support finds among the first ones -/
def supF (ps : Pts) (x y : Rat) : Nat → Nat
  | 0 => 0
  | i + 1 => if px ps (supF ps x y i) * x + py ps (supF ps x y i) * y < px ps i * x + py ps i * y then i else supF ps x y i
theorem sup_lt {ps : Pts} {x y : Rat} : ∀ i, 0 < i → supF ps x y i < i := by
  intro i
  induction i with
  | zero => intro h; omega
  | succ i ih =>
    intro _
    simp only [supF]
    split
    · omega
    · rcases Nat.eq_zero_or_pos i with h | h
      · subst h; simp [supF]
      · have := ih h; omega
theorem sup_le {ps : Pts} {x y : Rat} : ∀ i, ∀ j, j < i → px ps j * x + py ps j * y ≤ px ps (supF ps x y i) * x + py ps (supF ps x y i) * y := by
  intro i
  induction i with
  | zero => intro j h; omega
  | succ i ih =>
    intro j hj
    simp only [supF]
    rcases Nat.lt_or_ge j i with h | h
    · have := ih j h
      split <;> grind
    · have : j = i := by omega
      subst this
      split <;> grind
/-! ### the least box -/
def mnF (f : Nat → Rat) : Nat → Rat
  | 0 => f 0
  | i + 1 => minQ (mnF f i) (f (i + 1))
def mxF (f : Nat → Rat) : Nat → Rat
  | 0 => f 0
  | i + 1 => maxQ (mxF f i) (f (i + 1))
theorem mn_le {f : Nat → Rat} : ∀ i j, j ≤ i → mnF f i ≤ f j := by
  intro i
  induction i with
  | zero => intro j h; have : j = 0 := by omega
            subst this; exact Rat.le_refl
  | succ i ih =>
    intro j hj
    simp only [mnF]
    rcases Nat.lt_or_ge j (i + 1) with h | h
    · have := ih j (by omega)
      unfold minQ cmpQ; grind
    · have : j = i + 1 := by omega
      subst this
      unfold minQ cmpQ; grind
theorem mx_ge {f : Nat → Rat} : ∀ i j, j ≤ i → f j ≤ mxF f i := by
  intro i
  induction i with
  | zero => intro j h; have : j = 0 := by omega
            subst this; exact Rat.le_refl
  | succ i ih =>
    intro j hj
    simp only [mxF]
    rcases Nat.lt_or_ge j (i + 1) with h | h
    · have := ih j (by omega)
      unfold maxQ cmpQ; grind
    · have : j = i + 1 := by omega
      subst this
      unfold maxQ cmpQ; grind
/-! ### the polygons that gantmake makes -/
def nxV (xs : List Int) (m : Nat) : Nat := match xs with | [] => 0 | x :: _ => belowN x m
theorem nxV_lt (xs : List Int) {m : Nat} (h : 0 < m) : nxV xs m < m := by
  cases xs with
  | nil => exact h
  | cons x xs => exact belowN_lt x h
def q4 (z : Int) : Rat := mkRat z 4
def shape (w h c x : Nat) : Pts :=
  if c = 0 then [(q4 (-(w : Int)), q4 (-(h : Int))), (q4 w, q4 (-(h : Int))), (q4 w, q4 h), (q4 (-(w : Int)), q4 h)]
  else if c = 1 then [(q4 (-(w : Int)), q4 (-(h : Int))), (q4 w, q4 (-(h : Int))), (q4 ((x : Int) - w), q4 h)]
  else if c = 2 then [(q4 (-(w : Int) - 1), q4 (-(h : Int) - 1)), (q4 w, q4 (-(h : Int) - 1)), (q4 (w + 1), q4 (-(h : Int))), (q4 (w + 1), q4 h), (q4 (-(w : Int) - 1), q4 h)]
  else [(q4 (-(w : Int)), q4 0), (q4 0, q4 (-(h : Int))), (q4 w, q4 0), (q4 0, q4 h)]
def cvxB (ps : Pts) : Bool := (List.range ps.length).all fun i => (List.range ps.length).all fun k => decide (k < 2) || decide (0 < lfp ps i ((i + 1) % ps.length) ((i + k) % ps.length))
theorem cvx_of {ps : Pts} (h : cvxB ps = true) : Cvx ps := by
  unfold cvxB at h
  simp only [List.all_eq_true, List.mem_range, Bool.or_eq_true, decide_eq_true_eq] at h
  intro i hi k h2 hk
  rcases h i hi k hk with h3 | h3
  · omega
  · exact h3
def polyQ (xs : List Int) : Pts := shape (1 + nxV xs 6) (1 + nxV xs.tail 6) (nxV xs.tail.tail 4) (nxV xs.tail.tail.tail (2 * (1 + nxV xs 6) + 1))
def shapesOK : Bool := (List.range 6).all fun w => (List.range 6).all fun h => (List.range 13).all fun x => cvxB (shape (1 + w) (1 + h) 0 x) && cvxB (shape (1 + w) (1 + h) 1 x) && cvxB (shape (1 + w) (1 + h) 2 x) && cvxB (shape (1 + w) (1 + h) 3 x)
set_option maxRecDepth 100000 in
theorem shapes_ok : shapesOK = true := by decide +kernel
theorem shape_cvx {w h c x : Nat} (hw : w < 6) (hh : h < 6) (hx : x < 13) : Cvx (shape (1 + w) (1 + h) c x) := by
  have H := shapes_ok
  simp only [shapesOK, List.all_eq_true, List.mem_range, Bool.and_eq_true] at H
  obtain ⟨⟨⟨h0, h1⟩, h2⟩, h3⟩ := H w hw h hh x hx
  by_cases c0 : c = 0
  · subst c0; exact cvx_of h0
  · by_cases c1 : c = 1
    · subst c1; exact cvx_of h1
    · by_cases c2 : c = 2
      · subst c2; exact cvx_of h2
      · have e : shape (1 + w) (1 + h) c x = shape (1 + w) (1 + h) 3 x := by simp [shape, c0, c1, c2]
        rw [e]; exact cvx_of h3
theorem polyQ_cvx (xs : List Int) : Cvx (polyQ xs) := by
  have h1 := nxV_lt xs (show 0 < 6 by omega)
  have h2 := nxV_lt xs.tail (show 0 < 6 by omega)
  have h3 := nxV_lt xs.tail.tail.tail (show 0 < 2 * (1 + nxV xs 6) + 1 by omega)
  exact shape_cvx h1 h2 (by omega)
theorem shape_len (w h c x : Nat) : 3 ≤ (shape w h c x).length ∧ (shape w h c x).length ≤ 5 := by
  unfold shape
  split
  · simp
  · split
    · simp
    · split <;> simp
end Go.Proofs.YtiejgkmjaphbcaaDoor
