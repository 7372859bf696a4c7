/- Numbers as digits to the base 2^64, least significant first (package nat's gcd); no program in sight. -/
import Derived.Test.YtlfddhiimcophaaDoorNatY
namespace Go.Proofs.YtlfddhiimcophaaDoor
open Go.RowKit
set_option linter.unusedVariables false
set_option linter.unusedSimpArgs false

/-! ### digits to the base 2^64 -/
def lval : List Nat → Nat
  | [] => 0
  | w :: l => w + 18446744073709551616 * lval l
def Lok (l : List Nat) : Prop := ∀ w ∈ l, w < 18446744073709551616
theorem lval_append (a b : List Nat) : lval (a ++ b) = lval a + 18446744073709551616 ^ a.length * lval b := by
  induction a with
  | nil => simp [lval]
  | cons w a ih => simp only [List.cons_append, lval, ih, List.length_cons, Nat.pow_succ]; grind
theorem lval_lt {l : List Nat} (h : Lok l) : lval l < 18446744073709551616 ^ l.length := by
  induction l with
  | nil => simp [lval]
  | cons w l ih =>
    have h1 := h w (by simp)
    have h2 := ih (fun x hx => h x (by simp [hx]))
    simp only [lval, List.length_cons, Nat.pow_succ]
    omega
theorem lval_zeros (n : Nat) : lval (List.replicate n 0) = 0 := by
  induction n with
  | zero => rfl
  | succ n ih => simp [List.replicate_succ, lval, ih]
theorem lval_snoc (a : List Nat) (w : Nat) : lval (a ++ [w]) = lval a + 18446744073709551616 ^ a.length * w := by
  rw [lval_append]; simp [lval]
theorem Lok.append {a b : List Nat} (ha : Lok a) (hb : Lok b) : Lok (a ++ b) := fun w hw => by
  rcases List.mem_append.1 hw with h | h
  · exact ha w h
  · exact hb w h
theorem Lok.take {a : List Nat} (ha : Lok a) (n : Nat) : Lok (a.take n) := fun w hw => ha w (List.mem_of_mem_take hw)
theorem Lok.drop {a : List Nat} (ha : Lok a) (n : Nat) : Lok (a.drop n) := fun w hw => ha w (List.mem_of_mem_drop hw)
theorem Lok.get {a : List Nat} (ha : Lok a) {i w : Nat} (h : a[i]? = some w) : w < 18446744073709551616 := ha w (List.mem_of_getElem? h)
theorem lval_take_succ {a : List Nat} {i w : Nat} (h : a[i]? = some w) : lval (a.take (i+1)) = lval (a.take i) + 18446744073709551616 ^ i * w := by
  obtain ⟨hi, rfl⟩ := List.getElem?_eq_some_iff.1 h
  rw [List.take_succ_eq_append_getElem hi, lval_snoc, List.length_take, Nat.min_eq_left (by omega)]
theorem lval_set {a : List Nat} {i w : Nat} (h : a[i]? = some w) (d : Nat) : lval (a.set i (w + d)) = lval a + 18446744073709551616 ^ i * d := by
  induction a generalizing i with
  | nil => simp at h
  | cons x l ih =>
    cases i with
    | zero => simp at h; subst h; simp [lval]; omega
    | succ i => simp at h; simp only [List.set_cons_succ, lval, ih h, Nat.pow_succ]; grind
theorem lval_put {a : List Nat} {i w : Nat} (h : a[i]? = some w) (d : Nat) : lval (a.set i d) + 18446744073709551616 ^ i * w = lval a + 18446744073709551616 ^ i * d := by
  induction a generalizing i with
  | nil => simp at h
  | cons x l ih =>
    cases i with
    | zero => simp at h; subst h; simp [lval]; omega
    | succ i =>
      simp at h; have := ih h
      simp only [List.set_cons_succ, lval, Nat.pow_succ]; grind
theorem lval_ge {a : List Nat} {i w : Nat} (h : a[i]? = some w) : 18446744073709551616 ^ i * w ≤ lval a := by
  induction a generalizing i with
  | nil => simp at h
  | cons x l ih =>
    cases i with
    | zero => simp at h; subst h; simp [lval]
    | succ i =>
      simp at h; have := ih h
      simp only [lval, Nat.pow_succ]
      have := Nat.mul_le_mul_left 18446744073709551616 this
      grind
theorem Lok.set {a : List Nat} (ha : Lok a) (i : Nat) {d : Nat} (hd : d < 18446744073709551616) : Lok (a.set i d) := fun w hw => by
  rcases List.mem_or_eq_of_mem_set hw with h | h
  · exact ha w h
  · exact h ▸ hd
theorem Lok.zeros (n : Nat) : Lok (List.replicate n 0) := fun w hw => by rw [(List.mem_replicate.1 hw).2]; omega
/-- the digit that the next byte goes into has room for it -/
theorem limb_room {a : List Nat} {j w : Nat} (h : a[j/8]? = some w) (hv : lval a < 256 ^ j) : w < 256 ^ (j % 8) := by
  have h1 := lval_ge h
  have h2 : 256 ^ j = 18446744073709551616 ^ (j / 8) * 256 ^ (j % 8) := by
    rw [show (18446744073709551616 : Nat) = 256 ^ 8 from rfl, ← Nat.pow_mul, ← Nat.pow_add, show 8 * (j / 8) + j % 8 = j by omega]
  rw [h2] at hv
  exact Nat.lt_of_mul_lt_mul_left (Nat.lt_of_le_of_lt h1 hv)
theorem limb_step {a : List Nat} {j w c : Nat} (h : a[j/8]? = some w) : lval (a.set (j/8) (w + c * 256 ^ (j % 8))) = lval a + c * 256 ^ j := by
  rw [lval_set h]
  have h2 : 256 ^ j = 18446744073709551616 ^ (j / 8) * 256 ^ (j % 8) := by
    rw [show (18446744073709551616 : Nat) = 256 ^ 8 from rfl, ← Nat.pow_mul, ← Nat.pow_add, show 8 * (j / 8) + j % 8 = j by omega]
  rw [h2]; grind
def lcells (l : List Nat) : Array Value := (l.map fun (n : Nat) => Value.int .u64 (n : Int)).toArray
theorem lcells_size (l : List Nat) : (lcells l).size = l.length := by simp [lcells]
theorem lcells_get {l : List Nat} {i w : Nat} (h : l[i]? = some w) : (lcells l)[i]? = some (.int .u64 w) := by simp [lcells, h]
theorem lcells_set (l : List Nat) (i w : Nat) : (lcells l).setIfInBounds i (.int .u64 w) = lcells (l.set i w) := by
  apply Array.ext'
  simp [lcells, List.map_set]
theorem lcells_zeros (n : Nat) : lcells (List.replicate n 0) = Array.replicate n (.int .u64 0) := by
  apply Array.ext'
  simp [lcells]
/-- words read from a slice -/
def LAt (w : World) (B : Nat) (A : Option Addr) (ws : List Nat) : Prop :=
  ∀ (i x : Nat), ws[i]? = some x → ∃ g off, A = some ⟨g, off, none⟩ ∧ g < B ∧ w.cell? ⟨g, off + i, none⟩ = some (.int .u64 (x : Int))
theorem LAt.below {w w' : World} {B B' : Nat} {A : Option Addr} {ws : List Nat} (h : LAt w B A ws) (hb : Below B' w w') (hB : B ≤ B') : LAt w' B A ws := by
  intro k u hu
  obtain ⟨b, off, hA, hlt, h0⟩ := h k u hu
  exact ⟨b, off, hA, hlt, (hb.cell (p := ⟨b, _, none⟩) (Nat.lt_of_lt_of_le hlt hB)).trans h0⟩
theorem LAt.more {w : World} {B B' : Nat} {A : Option Addr} {ws : List Nat} (h : LAt w B A ws) (hB : B ≤ B') : LAt w B' A ws := by
  intro k u hu
  obtain ⟨b, off, hA, hlt, h0⟩ := h k u hu
  exact ⟨b, off, hA, Nat.lt_of_lt_of_le hlt hB, h0⟩
theorem LAt.next {w w' : World} {A : Option Addr} {ws : List Nat} (h : LAt w w.heap.size A ws) (hb : Below w.heap.size w w') : LAt w' w'.heap.size A ws := (h.below hb (Nat.le_refl _)).more hb.size
theorem Blk.lAt {w : World} {g : Nat} {t : TypeId} {ws : List Nat} (h : Blk w g t (lcells ws)) : LAt w w.heap.size (some ⟨g, 0, none⟩) ws := fun i x hx =>
  ⟨g, 0, rfl, h.lt, by rw [h.cell, Nat.zero_add]; exact lcells_get hx⟩

/-! ### top digits -/
def Tp (X : List Nat) : Prop := ∀ x, X[X.length - 1]? = some x → x ≠ 0
theorem ll_high {U : List Nat} {n : Nat} (h : lval U < 18446744073709551616 ^ n) {i x : Nat} (hi : n ≤ i) (hx : U[i]? = some x) : x = 0 := by
  have h1 := lval_ge hx
  rcases Nat.eq_zero_or_pos x with h0 | h0
  · exact h0
  · have h2 : 18446744073709551616 ^ n ≤ 18446744073709551616 ^ i := Nat.pow_le_pow_right (by omega) hi
    have h3 : 18446744073709551616 ^ i * 1 ≤ 18446744073709551616 ^ i * x := Nat.mul_le_mul_left _ h0
    omega
theorem ll_low {U : List Nat} {n : Nat} (h : lval U < 18446744073709551616 ^ n) (hn : n ≤ U.length) : lval (U.take n) = lval U := by
  have h1 : lval U = lval (U.take n) + 18446744073709551616 ^ n * lval (U.drop n) := by
    have h2 := lval_append (U.take n) (U.drop n)
    rw [List.take_append_drop, List.length_take, Nat.min_eq_left hn] at h2
    exact h2
  rcases Nat.eq_zero_or_pos (lval (U.drop n)) with h0 | h0
  · rw [h1, h0, Nat.mul_zero, Nat.add_zero]
  · have h3 : 18446744073709551616 ^ n * 1 ≤ 18446744073709551616 ^ n * lval (U.drop n) := Nat.mul_le_mul_left _ h0
    omega
theorem ll_shift {x y b : Nat} (hb : b ≤ 63) : 2 ^ b * (x / 2 ^ b + y * 2 ^ (64 - b) % 18446744073709551616) + x % 2 ^ b = x + 18446744073709551616 * (y % 2 ^ b) := by
  have e : (18446744073709551616 : Nat) = 2 ^ (64 - b) * 2 ^ b := by rw [← Nat.pow_add, show 64 - b + b = 64 by omega]
  have h1 : y * 2 ^ (64 - b) % 18446744073709551616 = 2 ^ (64 - b) * (y % 2 ^ b) := by
    conv => lhs; rw [e, Nat.mul_comm y]
    rw [Nat.mul_mod_mul_left]
  have h2 := Nat.div_add_mod x (2 ^ b)
  rw [h1]
  have h3 : 2 ^ b * (2 ^ (64 - b) * (y % 2 ^ b)) = 18446744073709551616 * (y % 2 ^ b) := by
    rw [← Nat.mul_assoc, Nat.mul_comm (2 ^ b), ← e]
  rw [Nat.mul_add, h3]; omega
theorem ll_shift_step {Z U B p x z cx c0 cy : Nat} (h : p * Z + c0 = U + B * cx) (hz : p * z + cx = x + 18446744073709551616 * cy) : p * (Z + B * z) + c0 = (U + B * x) + B * 18446744073709551616 * cy := by
  have h2 := congrArg (B * ·) hz
  simp only [Nat.mul_add] at h2
  have h3 : p * (B * z) = B * (p * z) := Nat.mul_left_comm _ _ _
  rw [Nat.mul_add, h3, Nat.mul_assoc]
  omega
theorem ll_back {Z U : List Nat} {i L x y b c0 : Nat} (hb : b ≤ 63) (hZl : Z.length = L) (hi : i < L) (hx : U[i]? = some x) (h : 2 ^ b * lval (Z.take i) + c0 = lval (U.take i) + 18446744073709551616 ^ i * (x % 2 ^ b)) :
    2 ^ b * lval ((Z.set i (x / 2 ^ b + y * 2 ^ (64 - b) % 18446744073709551616)).take (i + 1)) + c0 = lval (U.take (i + 1)) + 18446744073709551616 ^ (i + 1) * (y % 2 ^ b) := by
  have h2 : (Z.set i (x / 2 ^ b + y * 2 ^ (64 - b) % 18446744073709551616))[i]? = some (x / 2 ^ b + y * 2 ^ (64 - b) % 18446744073709551616) := List.getElem?_set_self (by omega)
  rw [lval_take_succ h2, List.take_set_of_le (Nat.le_refl _), lval_take_succ hx, Nat.pow_succ]
  exact ll_shift_step h (ll_shift hb)
theorem ll_drop_get {Z U : List Nat} {i k x : Nat} (h : Z.drop i = U.drop i) (hx : Z[k]? = some x) (hk : i ≤ k) : U[k]? = some x := by
  have h1 := congrArg (fun l => l[k - i]?) h
  simp only [List.getElem?_drop, show i + (k - i) = k by omega] at h1
  rw [← h1]; exact hx
theorem ll_take_get {V : List Nat} {n i x : Nat} (h : (V.take n)[i]? = some x) : V[i]? = some x := by
  rw [List.getElem?_take] at h
  split at h
  · exact h
  · cases h
theorem ll_or_lt {x y b : Nat} (hb : b ≤ 63) (hx : x < 18446744073709551616) : x / 2 ^ b + y * 2 ^ (64 - b) % 18446744073709551616 < 18446744073709551616 := by
  have h := ll_shift (x := x) (y := y) hb
  have e : (18446744073709551616 : Nat) = 2 ^ b * 2 ^ (64 - b) := by rw [← Nat.pow_add, show b + (64 - b) = 64 by omega]
  have hp : 0 < 2 ^ b := Nat.pow_pos (by omega)
  have h1 : y % 2 ^ b + 1 ≤ 2 ^ b := Nat.mod_lt _ hp
  have h2 : 18446744073709551616 * (y % 2 ^ b) + 18446744073709551616 ≤ 18446744073709551616 * 2 ^ b := by have := Nat.mul_le_mul_left 18446744073709551616 h1; rw [Nat.mul_add, Nat.mul_one] at this; exact this
  have h3 : 2 ^ b * (x / 2 ^ b + y * 2 ^ (64 - b) % 18446744073709551616) < 2 ^ b * 18446744073709551616 := by rw [Nat.mul_comm (2 ^ b) 18446744073709551616]; omega
  exact Nat.lt_of_mul_lt_mul_left h3
theorem lval_pos_top {X : List Nat} (ht : Tp X) (h0 : X ≠ []) : 18446744073709551616 ^ (X.length - 1) ≤ lval X := by
  have hl : 0 < X.length := List.length_pos_iff.2 h0
  obtain ⟨x, hx⟩ := get_of_lt (rfl : X.length = X.length) (show X.length - 1 < X.length by omega)
  have h1 := lval_ge hx
  have h2 : 18446744073709551616 ^ (X.length - 1) * 1 ≤ 18446744073709551616 ^ (X.length - 1) * x := Nat.mul_le_mul_left _ (Nat.pos_of_ne_zero (ht x hx))
  omega
theorem lval_zero_iff {X : List Nat} (ht : Tp X) : lval X = 0 ↔ X = [] := by
  constructor
  · intro h
    refine Classical.byContradiction fun h0 => ?_
    have h1 := lval_pos_top ht h0
    have h2 : 0 < 18446744073709551616 ^ (X.length - 1) := Nat.pow_pos (by omega)
    omega
  · rintro rfl; rfl
theorem lval_lt_of_len {X Y : List Nat} (hX : Lok X) (hY : Tp Y) (h : X.length < Y.length) : lval X < lval Y := by
  have h1 := lval_lt hX
  have h2 := lval_pos_top hY (by rintro rfl; simp at h)
  have h3 : 18446744073709551616 ^ X.length ≤ 18446744073709551616 ^ (Y.length - 1) := Nat.pow_le_pow_right (by omega) (by omega)
  omega
theorem lval_split (X : List Nat) (i : Nat) (h : i ≤ X.length) : lval X = lval (X.take i) + 18446744073709551616 ^ i * lval (X.drop i) := by
  have h2 := lval_append (X.take i) (X.drop i)
  rw [List.take_append_drop, List.length_take, Nat.min_eq_left h] at h2
  exact h2
/-- equal from i + 1 on, parted at i -/
theorem lval_lt_at {X Y : List Nat} {i x y : Nat} (hX : Lok X) (hl : X.length = Y.length) (hd : X.drop (i + 1) = Y.drop (i + 1)) (hx : X[i]? = some x) (hy : Y[i]? = some y) (h : x < y) : lval X < lval Y := by
  have hi := (List.getElem?_eq_some_iff.1 hx).1
  rw [lval_split X (i + 1) (by omega), lval_split Y (i + 1) (by omega), hd, lval_take_succ hx, lval_take_succ hy]
  have h1 := lval_lt (hX.take i)
  rw [List.length_take, Nat.min_eq_left (by omega)] at h1
  have h2 : 18446744073709551616 ^ i * (x + 1) ≤ 18446744073709551616 ^ i * y := Nat.mul_le_mul_left _ h
  rw [Nat.mul_add, Nat.mul_one] at h2
  omega
/-- the lowest digit that is not 0 -/
theorem lval_low {X : List Nat} {i x : Nat} (hz : ∀ j < i, X[j]? = some 0) (hx : X[i]? = some x) : lval X = 18446744073709551616 ^ i * (x + 18446744073709551616 * lval (X.drop (i + 1))) := by
  have hi := (List.getElem?_eq_some_iff.1 hx).1
  rw [lval_split X (i + 1) (by omega), lval_take_succ hx]
  have h0 : lval (X.take i) = 0 := by
    have : X.take i = List.replicate i 0 := by
      apply List.ext_getElem?
      intro j
      rw [List.getElem?_take, List.getElem?_replicate]
      by_cases hj : j < i
      · rw [if_pos hj, if_pos hj, hz j hj]
      · rw [if_neg hj, if_neg hj]
    rw [this, lval_zeros]
  rw [h0, Nat.pow_succ]
  grind
theorem lval_all_zero {X : List Nat} (hz : ∀ j < X.length, X[j]? = some 0) : lval X = 0 := by
  have : X = List.replicate X.length 0 := by
    apply List.ext_getElem?
    intro j
    rw [List.getElem?_replicate]
    by_cases hj : j < X.length
    · rw [if_pos hj, hz j hj]
    · rw [if_neg hj, List.getElem?_eq_none (by omega)]
  rw [this, lval_zeros]
end Go.Proofs.YtlfddhiimcophaaDoor
