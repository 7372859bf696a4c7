/- Decimal texts of numbers; the walk of Text. -/
import Derived.Test.YtlfddhiimcophaaDoorNatG
import Derived.Test.YtlfddhiimcophaaDoorMem
namespace Go.Proofs.YtlfddhiimcophaaDoor
open Go.RowKit
set_option linter.unusedVariables false
set_option linter.unusedSimpArgs false

/-! ### decimal digits, the lowest first -/
def digAux : Nat → Nat → List UInt8
  | 0, _ => []
  | f + 1, n => if n = 0 then [] else UInt8.ofNat (48 + n % 10) :: digAux f (n / 10)
def dig (n : Nat) : List UInt8 := digAux n n
theorem digAux_eq (f g n : Nat) (hf : n ≤ f) (hg : n ≤ g) : digAux f n = digAux g n := by
  induction f generalizing g n with
  | zero =>
    obtain rfl : n = 0 := by omega
    cases g <;> rfl
  | succ f ih =>
    cases g with
    | zero =>
      obtain rfl : n = 0 := by omega
      rfl
    | succ g =>
      unfold digAux
      by_cases h : n = 0
      · simp [h]
      · rw [if_neg h, if_neg h, ih g (n / 10) (by omega) (by omega)]
theorem dig_zero : dig 0 = [] := rfl
theorem dig_succ {n : Nat} (h : n ≠ 0) : dig n = UInt8.ofNat (48 + n % 10) :: dig (n / 10) := by
  cases n with
  | zero => exact absurd rfl h
  | succ m =>
    unfold dig
    conv => lhs; unfold digAux
    rw [if_neg h, digAux_eq m ((m + 1) / 10) ((m + 1) / 10) (by omega) (Nat.le_refl _)]
theorem dig_eq_nil {n : Nat} : dig n = [] ↔ n = 0 := by
  by_cases h : n = 0
  · simp [h, dig_zero]
  · simp [dig_succ h, h]
theorem dig_length {n k : Nat} (h : n < 1000 ^ k) : (dig n).length ≤ 3 * k := by
  induction k generalizing n with
  | zero => obtain rfl : n = 0 := by omega
            exact Nat.le_refl _
  | succ k ih =>
    have h3 : n / 10 / 10 / 10 < 1000 ^ k := by rw [Nat.pow_succ] at h; omega
    have h4 := ih h3
    by_cases h0 : n = 0
    · subst h0; exact Nat.zero_le _
    rw [dig_succ h0]
    by_cases h1 : n / 10 = 0
    · rw [h1]; simp [dig_zero]; omega
    rw [dig_succ h1]
    by_cases h2 : n / 10 / 10 = 0
    · rw [h2]; simp [dig_zero]; omega
    rw [dig_succ h2]
    simp only [List.length_cons]; omega
theorem dig_small {n L : Nat} (h : (bstr n).length ≤ L) : (dig n).length ≤ 3 * L := by
  have := bstr_length_le.1 h
  exact dig_length (Nat.lt_of_lt_of_le this (Nat.pow_le_pow_left (by omega) _))
/-- the text of a number -/
def txt (n : Nat) : List UInt8 := if n = 0 then [48] else (dig n).reverse
def T (n : Nat) : ByteArray := ⟨(txt n).toArray⟩

/-! ### a row of bytes -/
def RowB (w : World) (g : Nat) (bs : List UInt8) : Prop := g < w.heap.size ∧ (∀ i, w.frozen? ⟨g, i, none⟩ = false) ∧ ∀ i c, bs[i]? = some c → w.cell? ⟨g, i, none⟩ = some (.int .u8 c.toNat)
theorem RowB.drew {w : World} {g : Nat} {bs : List UInt8} (h : RowB w g bs) : RowB w.drew g bs := h
theorem RowB.set_ {w : World} {g : Nat} {bs : List UInt8} (h : RowB w g bs) {i : Nat} {o : UInt8} (hi : bs[i]? = some o) (c : UInt8) : RowB (w.setCell ⟨g, i, none⟩ (.int .u8 c.toNat)) g (bs.set i c) := by
  obtain ⟨h1, h2, h3⟩ := h
  refine ⟨by simpa using h1, fun k => ?_, fun k u hk => ?_⟩
  · have := h2 k
    simpa using this
  · by_cases e : i = k
    · subst e
      have hl := (List.getElem?_eq_some_iff.1 hi).1
      rw [List.getElem?_set_self hl] at hk
      cases hk
      exact World.cell?_setCell_same' _ _ _ (by rw [h3 i o hi]; rfl)
    · rw [List.getElem?_set_ne e] at hk
      rw [World.cell?_setCell_other _ _ _ _ (fun h => e (by injection h))]
      exact h3 k u hk
theorem rowB_of_own {w : World} {base n c : Nat} {A : Option Addr} {bs : List UInt8} (h : w.ownsRow base 5 1 (.slice A n c) n (bcells bs).toList) (hn : 0 < n) : ∃ g, A = some ⟨g, 0, none⟩ ∧ base ≤ g ∧ RowB w g bs ∧ bs.length = n := by
  obtain ⟨g, cap, hv, hg, hlt⟩ := h.form hn
  have hA : A = some ⟨g, 0, none⟩ := by injection hv
  have hl := h.1
  have hf : ∀ i, w.frozen? ⟨g, i, none⟩ = false := by
    rcases h.2 with ⟨_, h0⟩ | ⟨g', cap', cur, e, _, hrow, _⟩
    · omega
    · have e1 : A = some ⟨g', 0, none⟩ := by injection e
      obtain rfl : g = g' := by rw [hA] at e1; injection e1 with e1; injection e1
      exact Blk.frozen (t := 5) (cs := cur) hrow
  subst hA
  refine ⟨g, rfl, hg, ⟨hlt, hf, fun i u hu => ?_⟩, by simpa [bcells] using hl⟩
  have := h.cells (g := g) rfl i (.int .u8 u.toNat) (by rw [Array.getElem?_toList]; exact bcells_get hu)
  rw [Addr.add_lit, Nat.zero_add] at this
  exact this

theorem own_slice {w : World} {base n : Nat} {e : TypeId} {size : Nat} {v : Value} {xs : List Value} (h : w.ownsRow base e size v n xs) : ∃ A c, v = .slice A n c ∧ n ≤ c := by
  rcases h.2 with ⟨rfl, rfl⟩ | ⟨g, cap, cur, rfl, _, _, hle, _⟩
  · exact ⟨none, 0, rfl, Nat.le_refl _⟩
  · exact ⟨_, cap, rfl, hle⟩

/-- the first and the last a of a list have changed places -/
def Swp (ds : List UInt8) (a : Nat) (bs : List UInt8) : Prop := bs.length = ds.length ∧ ∀ t, t < ds.length → bs[t]? = if t < a ∨ ds.length ≤ t + a then ds[ds.length - 1 - t]? else ds[t]?
theorem Swp.zero (ds : List UInt8) : Swp ds 0 ds := ⟨rfl, fun t ht => by rw [if_neg (by omega)]⟩
theorem Swp.step {ds bs : List UInt8} {a : Nat} {x y : UInt8} (h : Swp ds a bs) (ha : a + a + 1 < ds.length) (hx : bs[a]? = some x) (hy : bs[ds.length - 1 - a]? = some y) : Swp ds (a + 1) ((bs.set a y).set (ds.length - 1 - a) x) := by
  obtain ⟨h1, h2⟩ := h
  refine ⟨by simpa using h1, fun t ht => ?_⟩
  rw [h2 a (by omega), if_neg (by omega)] at hx
  rw [h2 (ds.length - 1 - a) (by omega), if_neg (by omega)] at hy
  by_cases e1 : t = ds.length - 1 - a
  · subst e1
    rw [List.getElem?_set_self (by rw [List.length_set]; omega), if_pos (by omega), show ds.length - 1 - (ds.length - 1 - a) = a by omega, hx]
  · rw [List.getElem?_set_ne (by omega)]
    by_cases e2 : t = a
    · subst e2
      rw [List.getElem?_set_self (by omega), if_pos (by omega), hy]
    · rw [List.getElem?_set_ne (by omega), h2 t ht]
      by_cases e3 : t < a ∨ ds.length ≤ t + a
      · rw [if_pos e3, if_pos (by omega)]
      · rw [if_neg e3, if_neg (by omega)]
theorem Swp.done {ds bs : List UInt8} {a : Nat} (h : Swp ds a bs) (ha : ds.length ≤ a + a + 1) : bs = ds.reverse := by
  obtain ⟨h1, h2⟩ := h
  apply List.ext_getElem?
  intro t
  by_cases ht : t < ds.length
  · rw [h2 t ht, List.getElem?_reverse ht]
    by_cases e : t < a ∨ ds.length ≤ t + a
    · rw [if_pos e]
    · rw [if_neg e, show ds.length - 1 - t = t by omega]
  · rw [List.getElem?_eq_none (by omega), List.getElem?_eq_none (by simp; omega)]
end Go.Proofs.YtlfddhiimcophaaDoor
