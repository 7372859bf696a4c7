/- Natural numbers as strings of bytes, most significant first, and as digits to the base 2^32, least significant first; no program in sight. -/
import Derived.Test.YtlfddhiimcophaaDoorLib
namespace Go.Proofs.YtlfddhiimcophaaDoor
set_option linter.unusedVariables false
set_option linter.unusedSimpArgs false

/-! ### bytes -/
def bval (l : List UInt8) : Nat := l.foldl (fun n c => n * 256 + c.toNat) 0
theorem bval_foldl (l : List UInt8) (n : Nat) : l.foldl (fun n c => n * 256 + c.toNat) n = n * 256 ^ l.length + bval l := by
  induction l generalizing n with
  | nil => simp [bval]
  | cons c l ih =>
    simp only [List.foldl_cons, bval, List.length_cons]
    rw [ih, ih (0 * 256 + c.toNat)]
    rw [Nat.pow_succ]; grind
theorem bval_nil : bval [] = 0 := rfl
theorem bval_cons (c : UInt8) (l : List UInt8) : bval (c :: l) = c.toNat * 256 ^ l.length + bval l := by
  show (c :: l).foldl _ 0 = _
  rw [List.foldl_cons, bval_foldl]; simp
theorem bval_append (a b : List UInt8) : bval (a ++ b) = bval a * 256 ^ b.length + bval b := by
  unfold bval; rw [List.foldl_append]; exact bval_foldl b _
theorem bval_snoc (l : List UInt8) (c : UInt8) : bval (l ++ [c]) = bval l * 256 + c.toNat := by
  rw [bval_append]; simp [bval]
theorem bval_lt (l : List UInt8) : bval l < 256 ^ l.length := by
  induction l with
  | nil => simp [bval]
  | cons c l ih =>
    rw [bval_cons, List.length_cons, Nat.pow_succ]
    have h : c.toNat ≤ 255 := by have := c.toNat_lt; omega
    have := Nat.mul_le_mul_right (256 ^ l.length) h
    omega
theorem bval_zero_cons (l : List UInt8) : bval (0 :: l) = bval l := by rw [bval_cons]; simp
theorem bval_ge {c : UInt8} {l : List UInt8} (h : c ≠ 0) : 256 ^ l.length ≤ bval (c :: l) := by
  rw [bval_cons]
  have h1 : 1 ≤ c.toNat := by
    rcases Nat.eq_zero_or_pos c.toNat with h0 | h0
    · exact absurd (UInt8.toNat_inj.1 (by simpa using h0)) h
    · exact h0
  have := Nat.mul_le_mul_right (256 ^ l.length) h1
  omega

/-- no byte, or one that is not 0, at the beginning -/
def Bare (l : List UInt8) : Prop := l.head? ≠ some 0
theorem bare_nil : Bare [] := by simp [Bare]
theorem bare_inj {a b : List UInt8} (ha : Bare a) (hb : Bare b) (h : bval a = bval b) : a = b := by
  have hlen : ∀ {a b : List UInt8}, Bare b → bval a = bval b → ¬ a.length < b.length := by
    intro a b hb h hl
    cases b with
    | nil => simp at hl
    | cons c l =>
      have hc : c ≠ 0 := by simpa [Bare] using hb
      have h1 := bval_ge (l := l) hc
      have h2 := bval_lt a
      have h3 : 256 ^ a.length ≤ 256 ^ l.length := Nat.pow_le_pow_right (by omega) (by simp at hl; omega)
      omega
  have hl : a.length = b.length := by
    have h1 := hlen hb h
    have h2 := hlen ha h.symm
    omega
  clear ha hb hlen
  induction a generalizing b with
  | nil => exact (List.eq_nil_of_length_eq_zero hl.symm).symm
  | cons x l ih =>
    cases b with
    | nil => simp at hl
    | cons y m =>
      simp only [List.length_cons, Nat.add_right_cancel_iff] at hl
      rw [bval_cons, bval_cons, hl] at h
      have hx := bval_lt l
      have hy := bval_lt m
      rw [hl] at hx
      have hp : 0 < 256 ^ m.length := Nat.pow_pos (by omega)
      have e1 : (x.toNat * 256 ^ m.length + bval l) / 256 ^ m.length = x.toNat := by
        rw [Nat.mul_comm, Nat.mul_add_div hp, Nat.div_eq_of_lt hx]; rfl
      have e2 : (y.toNat * 256 ^ m.length + bval m) / 256 ^ m.length = y.toNat := by
        rw [Nat.mul_comm, Nat.mul_add_div hp, Nat.div_eq_of_lt hy]; rfl
      have hxy : x = y := UInt8.toNat_inj.1 (by rw [← e1, h, e2])
      subst hxy
      rw [ih (by omega) hl]

/-- the bytes of a number -/
def bstrAux : Nat → Nat → List UInt8
  | 0, _ => []
  | f + 1, n => if n = 0 then [] else bstrAux f (n / 256) ++ [UInt8.ofNat (n % 256)]
def bstr (n : Nat) : List UInt8 := bstrAux n n
theorem bstrAux_eq (f g n : Nat) (hf : n ≤ f) (hg : n ≤ g) : bstrAux f n = bstrAux g n := by
  induction f generalizing g n with
  | zero =>
    obtain rfl : n = 0 := by omega
    cases g <;> simp [bstrAux]
  | succ f ih =>
    cases g with
    | zero => obtain rfl : n = 0 := by omega
              simp [bstrAux]
    | succ g =>
      simp only [bstrAux]
      by_cases h : n = 0
      · simp [h]
      · rw [if_neg h, if_neg h, ih g (n / 256) (by omega) (by omega)]
theorem bstr_zero : bstr 0 = [] := rfl
theorem bstr_succ {n : Nat} (h : n ≠ 0) : bstr n = bstr (n / 256) ++ [UInt8.ofNat (n % 256)] := by
  unfold bstr
  cases n with
  | zero => omega
  | succ n =>
    conv => lhs; unfold bstrAux
    rw [if_neg h, bstrAux_eq n ((n+1)/256) ((n+1)/256) (by omega) (Nat.le_refl _)]
theorem bval_bstr (n : Nat) : bval (bstr n) = n := by
  induction n using Nat.strongRecOn with
  | _ n ih =>
    by_cases h : n = 0
    · subst h; rfl
    · rw [bstr_succ h, bval_snoc, ih (n / 256) (by omega)]
      rw [UInt8.toNat_ofNat_of_lt' (by simp [UInt8.size]; omega)]
      omega
theorem bare_bstr (n : Nat) : Bare (bstr n) := by
  induction n using Nat.strongRecOn with
  | _ n ih =>
    by_cases h : n = 0
    · subst h; exact bare_nil
    · rw [bstr_succ h]
      by_cases h2 : n / 256 = 0
      · rw [h2, bstr_zero]
        simp only [Bare, List.nil_append, List.head?_cons, ne_eq, Option.some.injEq]
        intro h3
        have := congrArg UInt8.toNat h3
        rw [UInt8.toNat_ofNat_of_lt' (by simp [UInt8.size]; omega)] at this
        simp at this
        omega
      · have := ih (n / 256) (by omega)
        unfold Bare at this ⊢
        rw [List.head?_append]
        cases hh : (bstr (n / 256)).head? with
        | none =>
          rw [List.head?_eq_none_iff] at hh
          have := bval_bstr (n / 256)
          rw [hh] at this
          exact absurd this.symm h2
        | some c => simpa [hh] using this
theorem bstr_bval {l : List UInt8} (h : Bare l) : bstr (bval l) = l := bare_inj (bare_bstr _) h (bval_bstr _)
theorem bstr_inj {m n : Nat} (h : bstr m = bstr n) : m = n := by rw [← bval_bstr m, h, bval_bstr]
theorem bstr_length_le {n k : Nat} : (bstr n).length ≤ k ↔ n < 256 ^ k := by
  constructor
  · intro h
    have := bval_lt (bstr n)
    rw [bval_bstr] at this
    exact Nat.lt_of_lt_of_le this (Nat.pow_le_pow_right (by omega) h)
  · intro h
    refine Nat.le_of_not_lt fun hlt => ?_
    have hb := bare_bstr n
    cases hs : bstr n with
    | nil => rw [hs] at hlt; simp at hlt
    | cons c l =>
      rw [hs] at hb hlt
      have hc : c ≠ 0 := by simpa [Bare] using hb
      have h1 := bval_ge (l := l) hc
      rw [← hs, bval_bstr] at h1
      have h3 : 256 ^ k ≤ 256 ^ l.length := Nat.pow_le_pow_right (by omega) (by simp at hlt; omega)
      omega
theorem bstr_eq_nil {n : Nat} : bstr n = [] ↔ n = 0 := by
  constructor
  · intro h; have := bval_bstr n; rw [h] at this; exact this.symm
  · rintro rfl; rfl
theorem bstr_pos {n : Nat} (h : 0 < n) : 0 < (bstr n).length := by
  rcases Nat.eq_zero_or_pos (bstr n).length with h0 | h0
  · have := bstr_eq_nil.1 (List.eq_nil_of_length_eq_zero h0); omega
  · exact h0
/-- zeros at the beginning struck -/
def strip (l : List UInt8) : List UInt8 := l.dropWhile (· == 0)
theorem strip_eq (l : List UInt8) : strip l = bstr (bval l) := by
  induction l with
  | nil => rfl
  | cons c l ih =>
    by_cases h : c = 0
    · subst h
      rw [bval_zero_cons, ← ih]; rfl
    · have : strip (c :: l) = c :: l := by unfold strip; rw [List.dropWhile_cons_of_neg (by simpa using h)]
      rw [this, bstr_bval (by simpa [Bare] using h)]

/-! ### digits to the base 2^32 -/
def wval : List Nat → Nat
  | [] => 0
  | w :: l => w + 4294967296 * wval l
def Wok (l : List Nat) : Prop := ∀ w ∈ l, w < 4294967296
theorem wval_append (a b : List Nat) : wval (a ++ b) = wval a + 4294967296 ^ a.length * wval b := by
  induction a with
  | nil => simp [wval]
  | cons w a ih => simp only [List.cons_append, wval, ih, List.length_cons, Nat.pow_succ]; grind
theorem wval_lt {l : List Nat} (h : Wok l) : wval l < 4294967296 ^ l.length := by
  induction l with
  | nil => simp [wval]
  | cons w l ih =>
    have h1 := h w (by simp)
    have h2 := ih (fun x hx => h x (by simp [hx]))
    simp only [wval, List.length_cons, Nat.pow_succ]
    omega
theorem wval_zeros (n : Nat) : wval (List.replicate n 0) = 0 := by
  induction n with
  | zero => rfl
  | succ n ih => simp [List.replicate_succ, wval, ih]
theorem wval_snoc (a : List Nat) (w : Nat) : wval (a ++ [w]) = wval a + 4294967296 ^ a.length * w := by
  rw [wval_append]; simp [wval]
theorem Wok.append {a b : List Nat} (ha : Wok a) (hb : Wok b) : Wok (a ++ b) := fun w hw => by
  rcases List.mem_append.1 hw with h | h
  · exact ha w h
  · exact hb w h
theorem Wok.take {a : List Nat} (ha : Wok a) (n : Nat) : Wok (a.take n) := fun w hw => ha w (List.mem_of_mem_take hw)
theorem Wok.drop {a : List Nat} (ha : Wok a) (n : Nat) : Wok (a.drop n) := fun w hw => ha w (List.mem_of_mem_drop hw)
theorem Wok.get {a : List Nat} (ha : Wok a) {i w : Nat} (h : a[i]? = some w) : w < 4294967296 := ha w (List.mem_of_getElem? h)
theorem wval_take_succ {a : List Nat} {i w : Nat} (h : a[i]? = some w) : wval (a.take (i+1)) = wval (a.take i) + 4294967296 ^ i * w := by
  obtain ⟨hi, rfl⟩ := List.getElem?_eq_some_iff.1 h
  rw [List.take_succ_eq_append_getElem hi, wval_snoc, List.length_take, Nat.min_eq_left (by omega)]
theorem wval_set {a : List Nat} {i w : Nat} (h : a[i]? = some w) (d : Nat) : wval (a.set i (w + d)) = wval a + 4294967296 ^ i * d := by
  induction a generalizing i with
  | nil => simp at h
  | cons x l ih =>
    cases i with
    | zero => simp at h; subst h; simp [wval]; omega
    | succ i => simp at h; simp only [List.set_cons_succ, wval, ih h, Nat.pow_succ]; grind
theorem wval_put {a : List Nat} {i w : Nat} (h : a[i]? = some w) (d : Nat) : wval (a.set i d) + 4294967296 ^ i * w = wval a + 4294967296 ^ i * d := by
  induction a generalizing i with
  | nil => simp at h
  | cons x l ih =>
    cases i with
    | zero => simp at h; subst h; simp [wval]; omega
    | succ i =>
      simp at h; have := ih h
      simp only [List.set_cons_succ, wval, Nat.pow_succ]; grind
theorem wval_ge {a : List Nat} {i w : Nat} (h : a[i]? = some w) : 4294967296 ^ i * w ≤ wval a := by
  induction a generalizing i with
  | nil => simp at h
  | cons x l ih =>
    cases i with
    | zero => simp at h; subst h; simp [wval]
    | succ i =>
      simp at h; have := ih h
      simp only [wval, Nat.pow_succ]
      have := Nat.mul_le_mul_left 4294967296 this
      grind
theorem Wok.set {a : List Nat} (ha : Wok a) (i : Nat) {d : Nat} (hd : d < 4294967296) : Wok (a.set i d) := fun w hw => by
  rcases List.mem_or_eq_of_mem_set hw with h | h
  · exact ha w h
  · exact h ▸ hd
theorem Wok.zeros (n : Nat) : Wok (List.replicate n 0) := fun w hw => by rw [(List.mem_replicate.1 hw).2]; omega
/-- the digit that the next byte goes into has room for it -/
theorem word_room {a : List Nat} {j w : Nat} (h : a[j/4]? = some w) (hv : wval a < 256 ^ j) : w < 256 ^ (j % 4) := by
  have h1 := wval_ge h
  have h2 : 256 ^ j = 4294967296 ^ (j / 4) * 256 ^ (j % 4) := by
    rw [show (4294967296 : Nat) = 256 ^ 4 from rfl, ← Nat.pow_mul, ← Nat.pow_add, show 4 * (j / 4) + j % 4 = j by omega]
  rw [h2] at hv
  exact Nat.lt_of_mul_lt_mul_left (Nat.lt_of_le_of_lt h1 hv)
theorem word_step {a : List Nat} {j w c : Nat} (h : a[j/4]? = some w) : wval (a.set (j/4) (w + c * 256 ^ (j % 4))) = wval a + c * 256 ^ j := by
  rw [wval_set h]
  have h2 : 256 ^ j = 4294967296 ^ (j / 4) * 256 ^ (j % 4) := by
    rw [show (4294967296 : Nat) = 256 ^ 4 from rfl, ← Nat.pow_mul, ← Nat.pow_add, show 4 * (j / 4) + j % 4 = j by omega]
  rw [h2]; grind
def wcells (l : List Nat) : Array Value := (l.map fun (n : Nat) => Value.int .u32 (n : Int)).toArray
theorem wcells_size (l : List Nat) : (wcells l).size = l.length := by simp [wcells]
theorem wcells_get {l : List Nat} {i w : Nat} (h : l[i]? = some w) : (wcells l)[i]? = some (.int .u32 w) := by simp [wcells, h]
theorem wcells_set (l : List Nat) (i w : Nat) : (wcells l).setIfInBounds i (.int .u32 w) = wcells (l.set i w) := by
  apply Array.ext'
  simp [wcells, List.map_set]
theorem wcells_zeros (n : Nat) : wcells (List.replicate n 0) = Array.replicate n (.int .u32 0) := by
  apply Array.ext'
  simp [wcells]
end Go.Proofs.YtlfddhiimcophaaDoor
