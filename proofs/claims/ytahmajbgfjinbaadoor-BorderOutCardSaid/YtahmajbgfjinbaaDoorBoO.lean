/- Joined texts. -/
import Derived.Test.YtahmajbgfjinbaaDoorBo5

/- plain laws of BorderOut (printed by lawvec.py). -/
namespace Go.Proofs.YtahmajbgfjinbaaDoor
open Go.RowKit
set_option linter.unusedVariables false
set_option linter.unusedSimpArgs false

def a_ok (lo al ah : Rat) : Prop := al < lo ∧ lo - ah < ah - al
def b_ok (hi bl bh : Rat) : Prop := hi < bh ∧ bl - hi < bh - bl
theorem frL_t (b : Nat) : frL true b = -midE b := if_pos rfl
theorem frL_f (b : Nat) : frL false b = if b = 0 then -midE b else midE (b - 1) := if_neg (by decide)
theorem frH_t (b : Nat) : frH true b = if b = 0 then midE b else -midE (b - 1) := if_pos rfl
theorem frH_f (b : Nat) : frH false b = midE b := if_neg (by decide)
theorem frL_rz {n : Bool} {b : Nat} (h : b < 9218868437227405312) : Rz 1000 (frL n b) := by
  unfold frL
  split
  · exact (mid_rz h).neg
  · split
    · exact (mid_rz h).neg
    · exact mid_rz (by omega)
theorem frH_rz {n : Bool} {b : Nat} (h : b < 9218868437227405312) : Rz 1000 (frH n b) := by
  unfold frH
  split
  · split
    · exact mid_rz h
    · exact (mid_rz (by omega)).neg
  · exact mid_rz h
theorem mid_twice (b : Nat) : midE b + midE b = ex b + ex (b + 1) := by unfold midE; rw [half_is]; grind
theorem mid_step {b : Nat} (h : 0 < b) : midE (b - 1) + midE (b - 1) = ex (b - 1) + ex b := by
  have := mid_twice (b - 1)
  rwa [show b - 1 + 1 = b by omega] at this
theorem a_pos {lo : Rat} {u : Nat} (h1 : ex u ≤ lo) (h2 : lo < ex (u + 1)) : a_ok lo (frL false u) (frH false u) := by
  have t := mid_twice u
  have g := ex_lt (show u < u + 1 by omega)
  have p := mid_pos u
  unfold a_ok
  rw [frL_f, frH_f]
  by_cases h0 : u = 0
  · rw [if_pos h0]
    subst h0
    rw [ex_zero] at t h1
    constructor <;> grind
  · rw [if_neg h0]
    have s := mid_step (show 0 < u by omega)
    have g2 := ex_lt (show u - 1 < u by omega)
    constructor <;> grind
theorem a_neg {lo : Rat} {o : Nat} (h : Ovr (-lo) o) (h0 : lo < 0) : 0 < o ∧ a_ok lo (frL true o) (frH true o) := by
  obtain ⟨h1, h2, h3⟩ := h
  have ho : 0 < o := by
    rcases Nat.eq_zero_or_pos o with h5 | h5
    · subst h5; rw [ex_zero] at h2; grind
    · exact h5
  have h4 : ex (o - 1) < -lo := by rcases h3 with h3 | h3; omega; exact h3
  refine ⟨ho, ?_⟩
  have t := mid_twice o
  have s := mid_step ho
  have g := ex_lt (show o < o + 1 by omega)
  have g2 := ex_lt (show o - 1 < o by omega)
  unfold a_ok
  rw [frL_t, frH_t, if_neg (by omega)]
  constructor <;> grind
theorem b_pos {hi : Rat} {o : Nat} (h : Ovr hi o) (h0 : 0 ≤ hi) : b_ok hi (frL false o) (frH false o) := by
  obtain ⟨h1, h2, h3⟩ := h
  have t := mid_twice o
  have g := ex_lt (show o < o + 1 by omega)
  have p := mid_pos o
  unfold b_ok
  rw [frL_f, frH_f]
  by_cases h5 : o = 0
  · rw [if_pos h5]
    subst h5
    rw [ex_zero] at t h2
    constructor <;> grind
  · rw [if_neg h5]
    have h4 : ex (o - 1) < hi := by rcases h3 with h3 | h3; omega; exact h3
    have s := mid_step (show 0 < o by omega)
    have g2 := ex_lt (show o - 1 < o by omega)
    constructor <;> grind
theorem b_neg {hi : Rat} {u : Nat} (h1 : ex u ≤ -hi) (h2 : -hi < ex (u + 1)) (h0 : 0 < u) : b_ok hi (frL true u) (frH true u) := by
  have t := mid_twice u
  have s := mid_step h0
  have g := ex_lt (show u < u + 1 by omega)
  have g2 := ex_lt (show u - 1 < u by omega)
  unfold b_ok
  rw [frL_t, frH_t, if_neg (by omega)]
  constructor <;> grind
theorem b_neg0 {hi : Rat} (h1 : hi < 0) (h2 : -hi < ex (0 + 1)) : b_ok hi (frL false 0) (frH false 0) := by
  have t := mid_twice 0
  have p := mid_pos 0
  rw [ex_zero] at t
  unfold b_ok
  rw [frL_f, frH_f, if_pos rfl]
  constructor <;> grind
theorem und_ex_n {a : Rat} (h0 : 0 ≤ a) (n : Nat) (hn : a < ex n) : ∃ u, u < n ∧ ex u ≤ a ∧ a < ex (u + 1) := by
  induction n with
  | zero => rw [ex_zero] at hn; grind
  | succ n ih =>
    rcases rat_tri a (ex n) with h | h | h
    · obtain ⟨u, h1, h2⟩ := ih h
      exact ⟨u, by omega, h2⟩
    · exact ⟨n, by omega, by grind, hn⟩
    · exact ⟨n, by omega, by grind, hn⟩
theorem ex_eight : ex 4620693217682128896 = 8 := by
  rw [← ex_lo (b := 4620693217682128896) (by decide)]
  have e1 : exM 4620693217682128896 = 4503599627370496 := by decide
  have e2 : exE 4620693217682128896 = 1026 := by decide
  rw [e1, e2]
  have e3 : pw (1075 - 1026) = 562949953421312 := by decide +kernel
  rw [e3]; decide +kernel
theorem und_ex {a : Rat} (h0 : 0 ≤ a) (h8 : a ≤ 8) : ∃ u, Und a u ∧ a < ex (u + 1) := by
  have h9 : a < ex (4620693217682128896 + 1) := by
    have h1 := ex_lt (show 4620693217682128896 < 4620693217682128896 + 1 by omega)
    rw [ex_eight] at h1; grind
  obtain ⟨u, h1, h2, h3⟩ := und_ex_n h0 _ h9
  exact ⟨u, ⟨by omega, h2, .inr h3⟩, h3⟩
theorem ovr_ex {a : Rat} (h0 : 0 ≤ a) (h8 : a ≤ 8) : ∃ o, Ovr a o := by
  have h9 : a < ex (4620693217682128896 + 1) := by
    have h1 := ex_lt (show 4620693217682128896 < 4620693217682128896 + 1 by omega)
    rw [ex_eight] at h1; grind
  obtain ⟨u, h1, h2, h3⟩ := und_ex_n h0 _ h9
  rcases rat_tri (ex u) a with h4 | h4 | h4
  · exact ⟨u + 1, by omega, by grind, .inr h4⟩
  · refine ⟨u, by omega, by grind, ?_⟩
    rcases Nat.eq_zero_or_pos u with h5 | h5
    · exact .inl h5
    · right; rw [← h4]; exact ex_lt (by omega)
  · grind
theorem small_8 {q : Rat} (h : SmallQ q) : -8 ≤ q ∧ q ≤ 8 := by
  obtain ⟨z, d, rfl, hd, -, h1, h2⟩ := h
  have hd0 : (0 : Rat) < ((d : Nat) : Rat) := by
    have := Rat.natCast_lt_natCast.2 hd
    exact this
  have hdn : ((d : Nat) : Rat) ≠ 0 := by grind
  have e : mkRat z d * ((d : Nat) : Rat) = (z : Rat) := by
    rw [Rat.mkRat_eq_div]
    exact Rat.div_mul_cancel hdn
  have g1 : ((-(8 * (d : Int)) : Int) : Rat) ≤ (z : Rat) := Rat.intCast_le_intCast.2 h1
  have g2 : (z : Rat) ≤ ((8 * (d : Int) : Int) : Rat) := Rat.intCast_le_intCast.2 h2
  rw [Rat.intCast_neg, Rat.intCast_mul] at g1
  rw [Rat.intCast_mul] at g2
  have c8 : ((8 : Int) : Rat) = 8 := rfl
  have cd : (((d : Nat) : Int) : Rat) = ((d : Nat) : Rat) := rfl
  rw [c8, cd] at g1 g2
  exact ⟨le_of_mul hd0 (by rw [e]; grind), le_of_mul hd0 (by rw [e]; grind)⟩
theorem ratMq_8 (x : Int) : -8 ≤ ratMq x ∧ ratMq x ≤ 8 := small_8 (ratMq_small x)
theorem most_big : (8 : Rat) ≤ ex 9218868437227405311 := by rw [← ex_eight]; exact ex_le (by omega)
end Go.Proofs.YtahmajbgfjinbaaDoor
