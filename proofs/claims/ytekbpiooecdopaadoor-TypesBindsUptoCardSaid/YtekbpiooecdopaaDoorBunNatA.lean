/- Joined texts. -/
import Derived.Test.YtekbpiooecdopaaDoorBunLib
import Derived.WalkKit
import Derived.Laws.BitsAllLaws
import Derived.Test.YtekbpiooecdopaaDoorProg
import Derived.Outline
import Derived.Deep.LoopGhost
import Derived.WalkSpells
import Derived.Lib.Strings
import Derived.Laws.OwnMore
import Derived.Lib.Bytealg
import Derived.Deep.DeepCutAuto

/- Natural numbers as strings of bytes, most significant first, and as digits to the base 2^32, least significant first; no program in sight. -/
namespace Go.Proofs.YtekbpiooecdopaaDoor
set_option linter.unusedVariables false
set_option linter.unusedSimpArgs false

/-! ### bytes -/
def bval (l : List UInt8) : Nat := l.foldl (fun n c => n * 256 + c.toNat) 0
theorem bval_foldl (l : List UInt8) (n : Nat) : l.foldl (fun n c => n * 256 + c.toNat) n = n * 256 ^ l.length + bval l := by
  induction l generalizing n with
  | nil => simp [bval]
  | cons c l ih =>
    simp only [List.foldl_cons, bval, List.length_cons]
    rw [ih, ih (0 * 256 + c.toNat)]
    rw [Nat.pow_succ]; grind
theorem bval_cons (c : UInt8) (l : List UInt8) : bval (c :: l) = c.toNat * 256 ^ l.length + bval l := by
  show (c :: l).foldl _ 0 = _
  rw [List.foldl_cons, bval_foldl]; simp
theorem bval_append (a b : List UInt8) : bval (a ++ b) = bval a * 256 ^ b.length + bval b := by
  unfold bval; rw [List.foldl_append]; exact bval_foldl b _
theorem bval_snoc (l : List UInt8) (c : UInt8) : bval (l ++ [c]) = bval l * 256 + c.toNat := by
  rw [bval_append]; simp [bval]
theorem bval_lt (l : List UInt8) : bval l < 256 ^ l.length := by
  induction l with
  | nil => simp [bval]
  | cons c l ih =>
    rw [bval_cons, List.length_cons, Nat.pow_succ]
    have h : c.toNat ≤ 255 := by have := c.toNat_lt; omega
    have := Nat.mul_le_mul_right (256 ^ l.length) h
    omega
theorem bval_zero_cons (l : List UInt8) : bval (0 :: l) = bval l := by rw [bval_cons]; simp
theorem bval_ge {c : UInt8} {l : List UInt8} (h : c ≠ 0) : 256 ^ l.length ≤ bval (c :: l) := by
  rw [bval_cons]
  have h1 : 1 ≤ c.toNat := by
    rcases Nat.eq_zero_or_pos c.toNat with h0 | h0
    · exact absurd (UInt8.toNat_inj.1 (by simpa using h0)) h
    · exact h0
  have := Nat.mul_le_mul_right (256 ^ l.length) h1
  omega

/-- no byte, or one that is not 0, at the beginning -/
def Bare (l : List UInt8) : Prop := l.head? ≠ some 0
theorem bare_nil : Bare [] := by simp [Bare]
theorem bare_inj {a b : List UInt8} (ha : Bare a) (hb : Bare b) (h : bval a = bval b) : a = b := by
  have hlen : ∀ {a b : List UInt8}, Bare b → bval a = bval b → ¬ a.length < b.length := by
    intro a b hb h hl
    cases b with
    | nil => simp at hl
    | cons c l =>
      have hc : c ≠ 0 := by simpa [Bare] using hb
      have h1 := bval_ge (l := l) hc
      have h2 := bval_lt a
      have h3 : 256 ^ a.length ≤ 256 ^ l.length := Nat.pow_le_pow_right (by omega) (by simp at hl; omega)
      omega
  have hl : a.length = b.length := by
    have h1 := hlen hb h
    have h2 := hlen ha h.symm
    omega
  clear ha hb hlen
  induction a generalizing b with
  | nil => exact (List.eq_nil_of_length_eq_zero hl.symm).symm
  | cons x l ih =>
    cases b with
    | nil => simp at hl
    | cons y m =>
      simp only [List.length_cons, Nat.add_right_cancel_iff] at hl
      rw [bval_cons, bval_cons, hl] at h
      have hx := bval_lt l
      have hy := bval_lt m
      rw [hl] at hx
      have hp : 0 < 256 ^ m.length := Nat.pow_pos (by omega)
      have e1 : (x.toNat * 256 ^ m.length + bval l) / 256 ^ m.length = x.toNat := by
        rw [Nat.mul_comm, Nat.mul_add_div hp, Nat.div_eq_of_lt hx]; rfl
      have e2 : (y.toNat * 256 ^ m.length + bval m) / 256 ^ m.length = y.toNat := by
        rw [Nat.mul_comm, Nat.mul_add_div hp, Nat.div_eq_of_lt hy]; rfl
      have hxy : x = y := UInt8.toNat_inj.1 (by rw [← e1, h, e2])
      subst hxy
      rw [ih (by omega) hl]

/-- the bytes of a number -/
def bstrAux : Nat → Nat → List UInt8
  | 0, _ => []
  | f + 1, n => if n = 0 then [] else bstrAux f (n / 256) ++ [UInt8.ofNat (n % 256)]
def bstr (n : Nat) : List UInt8 := bstrAux n n
theorem bstrAux_eq (f g n : Nat) (hf : n ≤ f) (hg : n ≤ g) : bstrAux f n = bstrAux g n := by
  induction f generalizing g n with
  | zero =>
    obtain rfl : n = 0 := by omega
    cases g <;> simp [bstrAux]
  | succ f ih =>
    cases g with
    | zero => obtain rfl : n = 0 := by omega
              simp [bstrAux]
    | succ g =>
      simp only [bstrAux]
      by_cases h : n = 0
      · simp [h]
      · rw [if_neg h, if_neg h, ih g (n / 256) (by omega) (by omega)]
theorem bstr_zero : bstr 0 = [] := rfl
theorem bstr_succ {n : Nat} (h : n ≠ 0) : bstr n = bstr (n / 256) ++ [UInt8.ofNat (n % 256)] := by
  unfold bstr
  cases n with
  | zero => omega
  | succ n =>
    conv => lhs; unfold bstrAux
    rw [if_neg h, bstrAux_eq n ((n+1)/256) ((n+1)/256) (by omega) (Nat.le_refl _)]
theorem bval_bstr (n : Nat) : bval (bstr n) = n := by
  induction n using Nat.strongRecOn with
  | _ n ih =>
    by_cases h : n = 0
    · subst h; rfl
    · rw [bstr_succ h, bval_snoc, ih (n / 256) (by omega)]
      rw [UInt8.toNat_ofNat_of_lt' (by simp [UInt8.size]; omega)]
      omega
theorem bare_bstr (n : Nat) : Bare (bstr n) := by
  induction n using Nat.strongRecOn with
  | _ n ih =>
    by_cases h : n = 0
    · subst h; exact bare_nil
    · rw [bstr_succ h]
      by_cases h2 : n / 256 = 0
      · rw [h2, bstr_zero]
        simp only [Bare, List.nil_append, List.head?_cons, ne_eq, Option.some.injEq]
        intro h3
        have := congrArg UInt8.toNat h3
        rw [UInt8.toNat_ofNat_of_lt' (by simp [UInt8.size]; omega)] at this
        simp at this
        omega
      · have := ih (n / 256) (by omega)
        unfold Bare at this ⊢
        rw [List.head?_append]
        cases hh : (bstr (n / 256)).head? with
        | none =>
          rw [List.head?_eq_none_iff] at hh
          have := bval_bstr (n / 256)
          rw [hh] at this
          exact absurd this.symm h2
        | some c => simpa [hh] using this
theorem bstr_bval {l : List UInt8} (h : Bare l) : bstr (bval l) = l := bare_inj (bare_bstr _) h (bval_bstr _)
theorem bstr_inj {m n : Nat} (h : bstr m = bstr n) : m = n := by rw [← bval_bstr m, h, bval_bstr]
theorem bstr_length_le {n k : Nat} : (bstr n).length ≤ k ↔ n < 256 ^ k := by
  constructor
  · intro h
    have := bval_lt (bstr n)
    rw [bval_bstr] at this
    exact Nat.lt_of_lt_of_le this (Nat.pow_le_pow_right (by omega) h)
  · intro h
    refine Nat.le_of_not_lt fun hlt => ?_
    have hb := bare_bstr n
    cases hs : bstr n with
    | nil => rw [hs] at hlt; simp at hlt
    | cons c l =>
      rw [hs] at hb hlt
      have hc : c ≠ 0 := by simpa [Bare] using hb
      have h1 := bval_ge (l := l) hc
      rw [← hs, bval_bstr] at h1
      have h3 : 256 ^ k ≤ 256 ^ l.length := Nat.pow_le_pow_right (by omega) (by simp at hlt; omega)
      omega
theorem bstr_eq_nil {n : Nat} : bstr n = [] ↔ n = 0 := by
  constructor
  · intro h; have := bval_bstr n; rw [h] at this; exact this.symm
  · rintro rfl; rfl
theorem bstr_pos {n : Nat} (h : 0 < n) : 0 < (bstr n).length := by
  rcases Nat.eq_zero_or_pos (bstr n).length with h0 | h0
  · have := bstr_eq_nil.1 (List.eq_nil_of_length_eq_zero h0); omega
  · exact h0
/-- zeros at the beginning struck -/
def strip (l : List UInt8) : List UInt8 := l.dropWhile (· == 0)
theorem strip_eq (l : List UInt8) : strip l = bstr (bval l) := by
  induction l with
  | nil => rfl
  | cons c l ih =>
    by_cases h : c = 0
    · subst h
      rw [bval_zero_cons, ← ih]; rfl
    · have : strip (c :: l) = c :: l := by unfold strip; rw [List.dropWhile_cons_of_neg (by simpa using h)]
      rw [this, bstr_bval (by simpa [Bare] using h)]

/-! ### digits to the base 2^32 -/
def wval : List Nat → Nat
  | [] => 0
  | w :: l => w + 4294967296 * wval l
def Wok (l : List Nat) : Prop := ∀ w ∈ l, w < 4294967296
theorem wval_append (a b : List Nat) : wval (a ++ b) = wval a + 4294967296 ^ a.length * wval b := by
  induction a with
  | nil => simp [wval]
  | cons w a ih => simp only [List.cons_append, wval, ih, List.length_cons, Nat.pow_succ]; grind
theorem wval_lt {l : List Nat} (h : Wok l) : wval l < 4294967296 ^ l.length := by
  induction l with
  | nil => simp [wval]
  | cons w l ih =>
    have h1 := h w (by simp)
    have h2 := ih (fun x hx => h x (by simp [hx]))
    simp only [wval, List.length_cons, Nat.pow_succ]
    omega
theorem wval_zeros (n : Nat) : wval (List.replicate n 0) = 0 := by
  induction n with
  | zero => rfl
  | succ n ih => simp [List.replicate_succ, wval, ih]
theorem wval_snoc (a : List Nat) (w : Nat) : wval (a ++ [w]) = wval a + 4294967296 ^ a.length * w := by
  rw [wval_append]; simp [wval]
theorem Wok.append {a b : List Nat} (ha : Wok a) (hb : Wok b) : Wok (a ++ b) := fun w hw => by
  rcases List.mem_append.1 hw with h | h
  · exact ha w h
  · exact hb w h
theorem Wok.take {a : List Nat} (ha : Wok a) (n : Nat) : Wok (a.take n) := fun w hw => ha w (List.mem_of_mem_take hw)
theorem Wok.drop {a : List Nat} (ha : Wok a) (n : Nat) : Wok (a.drop n) := fun w hw => ha w (List.mem_of_mem_drop hw)
theorem Wok.get {a : List Nat} (ha : Wok a) {i w : Nat} (h : a[i]? = some w) : w < 4294967296 := ha w (List.mem_of_getElem? h)
theorem wval_take_succ {a : List Nat} {i w : Nat} (h : a[i]? = some w) : wval (a.take (i+1)) = wval (a.take i) + 4294967296 ^ i * w := by
  obtain ⟨hi, rfl⟩ := List.getElem?_eq_some_iff.1 h
  rw [List.take_succ_eq_append_getElem hi, wval_snoc, List.length_take, Nat.min_eq_left (by omega)]
theorem wval_set {a : List Nat} {i w : Nat} (h : a[i]? = some w) (d : Nat) : wval (a.set i (w + d)) = wval a + 4294967296 ^ i * d := by
  induction a generalizing i with
  | nil => simp at h
  | cons x l ih =>
    cases i with
    | zero => simp at h; subst h; simp [wval]; omega
    | succ i => simp at h; simp only [List.set_cons_succ, wval, ih h, Nat.pow_succ]; grind
theorem wval_put {a : List Nat} {i w : Nat} (h : a[i]? = some w) (d : Nat) : wval (a.set i d) + 4294967296 ^ i * w = wval a + 4294967296 ^ i * d := by
  induction a generalizing i with
  | nil => simp at h
  | cons x l ih =>
    cases i with
    | zero => simp at h; subst h; simp [wval]; omega
    | succ i =>
      simp at h; have := ih h
      simp only [List.set_cons_succ, wval, Nat.pow_succ]; grind
theorem wval_ge {a : List Nat} {i w : Nat} (h : a[i]? = some w) : 4294967296 ^ i * w ≤ wval a := by
  induction a generalizing i with
  | nil => simp at h
  | cons x l ih =>
    cases i with
    | zero => simp at h; subst h; simp [wval]
    | succ i =>
      simp at h; have := ih h
      simp only [wval, Nat.pow_succ]
      have := Nat.mul_le_mul_left 4294967296 this
      grind
theorem Wok.set {a : List Nat} (ha : Wok a) (i : Nat) {d : Nat} (hd : d < 4294967296) : Wok (a.set i d) := fun w hw => by
  rcases List.mem_or_eq_of_mem_set hw with h | h
  · exact ha w h
  · exact h ▸ hd
theorem Wok.zeros (n : Nat) : Wok (List.replicate n 0) := fun w hw => by rw [(List.mem_replicate.1 hw).2]; omega
/-- the digit that the next byte goes into has room for it -/
theorem word_room {a : List Nat} {j w : Nat} (h : a[j/4]? = some w) (hv : wval a < 256 ^ j) : w < 256 ^ (j % 4) := by
  have h1 := wval_ge h
  have h2 : 256 ^ j = 4294967296 ^ (j / 4) * 256 ^ (j % 4) := by
    rw [show (4294967296 : Nat) = 256 ^ 4 from rfl, ← Nat.pow_mul, ← Nat.pow_add, show 4 * (j / 4) + j % 4 = j by omega]
  rw [h2] at hv
  exact Nat.lt_of_mul_lt_mul_left (Nat.lt_of_le_of_lt h1 hv)
theorem word_step {a : List Nat} {j w c : Nat} (h : a[j/4]? = some w) : wval (a.set (j/4) (w + c * 256 ^ (j % 4))) = wval a + c * 256 ^ j := by
  rw [wval_set h]
  have h2 : 256 ^ j = 4294967296 ^ (j / 4) * 256 ^ (j % 4) := by
    rw [show (4294967296 : Nat) = 256 ^ 4 from rfl, ← Nat.pow_mul, ← Nat.pow_add, show 4 * (j / 4) + j % 4 = j by omega]
  rw [h2]; grind
def wcells (l : List Nat) : Array Value := (l.map fun (n : Nat) => Value.int .u32 (n : Int)).toArray
theorem wcells_get {l : List Nat} {i w : Nat} (h : l[i]? = some w) : (wcells l)[i]? = some (.int .u32 w) := by simp [wcells, h]
theorem wcells_set (l : List Nat) (i w : Nat) : (wcells l).setIfInBounds i (.int .u32 w) = wcells (l.set i w) := by
  apply Array.ext'
  simp [wcells, List.map_set]
theorem wcells_zeros (n : Nat) : wcells (List.replicate n 0) = Array.replicate n (.int .u32 0) := by
  apply Array.ext'
  simp [wcells]
end Go.Proofs.YtekbpiooecdopaaDoor

/- Bytes of strings, and the walk's arithmetic on them; no program in sight. -/
namespace Go.Proofs.YtekbpiooecdopaaDoor
open Go.RowKit
set_option linter.unusedVariables false
set_option linter.unusedSimpArgs false

abbrev toL (s : ByteArray) : List UInt8 := s.data.toList
theorem toL_length (s : ByteArray) : (toL s).length = s.size := rfl
theorem toL_get (s : ByteArray) (k : Nat) (h : k < s.size) : (toL s)[k]? = some s[k] := by
  rw [List.getElem?_eq_getElem (by simpa using h)]; rfl
theorem take_snoc (s : ByteArray) (k : Nat) (h : k < s.size) : (toL s).take (k + 1) = (toL s).take k ++ [s[k]] := by
  rw [List.take_succ_eq_append_getElem (by simpa using h)]; rfl
theorem toL_extract (t : ByteArray) (k : Nat) : toL (t.extract k t.size) = (toL t).drop k := by
  simp only [toL, ByteArray.data_extract, Array.toList_extract, List.extract_eq_take_drop]
  rw [List.take_of_length_le]
  rw [List.length_drop]; exact Nat.le_refl _
theorem extract_size (t : ByteArray) (k : Nat) : (t.extract k t.size).size = t.size - k := by
  have h := congrArg List.length (toL_extract t k)
  rw [List.length_drop] at h; exact h
theorem ba_eq {a : ByteArray} {l : List UInt8} (h : toL a = l) : a = ⟨l.toArray⟩ := by subst h; rfl
theorem u64_wrap_nat {n : Nat} (h : n < 18446744073709551616) : IntKind.u64.wrap (n : Int) = n := by rw [IntKind.wrap_u64]; omega
theorem or256 {V c : Nat} (hc : c < 256) (hV : V * 256 + 255 < 18446744073709551616) : bits .or .u64 (IntKind.u64.wrap ((V : Int) * 256)) (IntKind.u64.wrap (c : Int)) = ((V * 256 + c : Nat) : Int) := by
  have e1 : IntKind.u64.wrap ((V : Int) * 256) = ((V * 256 : Nat) : Int) := by rw [IntKind.wrap_u64]; omega
  have e2 : IntKind.u64.wrap (c : Int) = (c : Int) := u64_wrap_nat (by omega)
  rw [e1, e2, u64_or_nat (V * 256) c (Nat.lt_of_le_of_lt (by omega) hV) (by omega), nat_join 8 (V * 256) c (by omega) (by omega)]
theorem short_step (s : ByteArray) (j : Nat) (h : j < s.size) (h8 : s.size ≤ 8) : bits .or .u64 (IntKind.u64.wrap (((bval ((toL s).take j) : Nat) : Int) * 256)) (IntKind.u64.wrap ((s[j].toNat : Nat) : Int)) = ((bval ((toL s).take (j+1)) : Nat) : Int) := by
  have h1 := bval_lt ((toL s).take j)
  have h2 : 256 ^ ((toL s).take j).length ≤ 256 ^ 7 := Nat.pow_le_pow_right (by omega) (by rw [List.length_take]; omega)
  have h3 := s[j].toNat_lt
  rw [or256 (by omega) (by omega), take_snoc s j h, bval_snoc]
theorem byte_zero (t : ByteArray) (h : 0 < t.size) : toL t = t[0] :: (toL t).drop 1 := by
  cases t with | mk d =>
  cases d with | mk l =>
  cases l with
  | nil => exact absurd h (by simp [ByteArray.size])
  | cons a l => rfl
theorem strip_step (t : ByteArray) (h : 0 < t.size) (h0 : ((t[0].toNat : Int) == 0) = true) : strip (toL (t.extract 1 t.size)) = strip (toL t) := by
  rw [toL_extract]
  conv => rhs; rw [byte_zero t h]
  have : t[0] = 0 := UInt8.toNat_inj.1 (by simp at h0; simpa using h0)
  rw [this]; rfl
theorem strip_stop (t : ByteArray) (h : 0 < t.size) (h0 : ((t[0].toNat : Int) == 0) = false) : strip (toL t) = toL t := by
  have : t[0] ≠ 0 := fun e => by rw [e] at h0; simp at h0
  unfold strip
  rw [byte_zero t h, List.dropWhile_cons_of_neg (by simpa using this)]
theorem strip_nil (t : ByteArray) (h : ¬ 0 < t.size) : strip (toL t) = toL t := by
  have : toL t = [] := List.eq_nil_of_length_eq_zero (by show t.size = 0; omega)
  rw [this]; rfl

theorem made_one (z : Value) (n : Nat) : madeCells #[z] n = Array.replicate n z := by
  apply Array.ext
  · simp [madeCells]
  · intro i h1 h2
    simp [madeCells, Nat.mod_one]
/-- make([]T, n), T of one cell -/
theorem run_make_one {P : Program} {t e : TypeId} {i : TypeInfo} {z : Value} (ht : P.underlying t = some (.slice e)) (hi : P.info? e = some i) (hz : i.zero = some z) (hz1 : i.size = 1) (hzc : z.cells = #[z])
    (n : Nat) (hb : i.bytes * n ≤ 281474976710656) (h63 : n ≤ 9223372036854775807) (w : World) :
    (Instr.makeSlice t (.int .i64 (n : Int)) (.int .i64 (n : Int))).run P w = .ok (.slice (some ⟨w.heap.size, 0, none⟩) n n) (w.alloc (.cells (Array.replicate n z) e)) := by
  have hb' : (i.bytes : Int) * (n : Int) ≤ 281474976710656 := by
    have h : ((i.bytes * n : Nat) : Int) ≤ 281474976710656 := Int.ofNat_le.2 hb
    rwa [Int.natCast_mul] at h
  have hr := run_make (P := P) w t e i z ht hi hz .i64 .i64 n n (by omega) (by omega) hb' (by omega)
  simp only [Int.toNat_natCast] at hr
  rw [hr, hz1, Nat.mul_one, hzc, made_one]
theorem or_word {x c r : Nat} (hr : r < 4) (hx : x < 256 ^ r) (hc : c < 256) : bits .or .u32 (x : Int) ((c : Int) % 4294967296 * 2 ^ (r * 8) % 4294967296) = ((x + c * 256 ^ r : Nat) : Int) := by
  have hp : 256 ^ r = 2 ^ (r * 8) := by rw [Nat.mul_comm, Nat.pow_mul]
  have hle : 256 ^ r ≤ 16777216 := Nat.pow_le_pow_right (n := 256) (by omega) (show r ≤ 3 by omega)
  have h1 : c * 256 ^ r < 4294967296 := by
    have := Nat.mul_le_mul (show c ≤ 255 by omega) hle
    omega
  have e : ((c : Int) % 4294967296 * 2 ^ (r * 8) % 4294967296) = ((c * 256 ^ r : Nat) : Int) := by
    have e1 : (c : Int) % 4294967296 = (c : Int) := by omega
    have e2 : (2 : Int) ^ (r * 8) = ((256 ^ r : Nat) : Int) := by rw [hp, Int.natCast_pow]; rfl
    rw [e1, e2, ← Int.natCast_mul]
    omega
  rw [e, u32_or_nat x (c * 256 ^ r) (by omega) h1, Nat.or_comm, hp]
  rw [nat_join (r * 8) (c * 2 ^ (r * 8)) x (Nat.mul_mod_left _ _) (by rw [← hp]; exact hx)]
  rw [Nat.add_comm]
end Go.Proofs.YtekbpiooecdopaaDoor

/- Walks of package nat: short, trim, fromShort. -/
namespace Go.Proofs.YtekbpiooecdopaaDoor
open Go.RowKit
set_option linter.unusedVariables false
set_option linter.unusedSimpArgs false

theorem ret_u64 {a b : Int} (h : a = b) : Ending.returned (.int .u64 a) = .returned (.int .u64 b) := by rw [h]

theorem short_any (s : ByteArray) (w : World) (hs : s.size ≤ 8) :
    Calls Tryd.prog 34 #[.string s] w fun e w' => e = .returned (.int .u64 (bval (toL s))) ∧ w = w' := by
  go_enter Tryd.func34, Tryd.ntmps34
  go_wp2_with fail
  go_loopg [3, 7] 8 (fun k n i wr => w = wr ∧ ∃ j : Nat, k = 8 - j ∧ j ≤ s.size ∧ i = .int .i64 j ∧ n = .int .u64 (bval ((toL s).take j) : Nat))
  case atStart => exact ⟨rfl, 0, rfl, Nat.zero_le _, rfl, rfl⟩
  case round =>
    obtain ⟨rfl, j, hgk, hj, rfl, rfl⟩ := hrel
    have HGK := Lib.hid hgk; clear hgk
    by_cases hlt : j < s.size
    · go_wp2_with fail
      go_roundg (8 - (j + 1))
      case measure => rw [HGK.out]; omega
      case rel => exact ⟨rfl, j + 1, rfl, by omega, by go_num, by rw [short_step s j hlt hs]⟩
    · go_wp2_with fail
      go_ret
      obtain rfl : j = s.size := by omega
      exact ⟨ret_u64 (by rw [show (toL s).take s.size = toL s from List.take_length]), rfl⟩

theorem trim_any (s : ByteArray) (w : World) (hs : s.size ≤ maxLen) :
    Calls Tryd.prog 31 #[.string s] w fun e w' => e = .returned (.string ⟨(strip (toL s)).toArray⟩) ∧ w = w' := by
  unfold maxLen at hs
  go_enter Tryd.func31, Tryd.ntmps31
  go_wp2_with fail
  go_loopg [0] s.size (fun k a wr => w = wr ∧ ∃ t : ByteArray, k = t.size ∧ t.size ≤ s.size ∧ a = .string t ∧ Hid (strip (toL t) = strip (toL s)))
  case atStart => exact ⟨rfl, s, rfl, Nat.le_refl _, rfl, rfl⟩
  case round =>
    obtain ⟨rfl, t, hgk, ht, rfl, hst⟩ := hrel
    have HGK := Lib.hid hgk; clear hgk
    by_cases hlt : 0 < t.size
    · go_wp2_with fail
      · have h0 : ((t[0].toNat : Int) == 0) = true := by assumption
        go_roundg (t.size - 1)
        case measure => rw [HGK.out]; omega
        case rel => exact ⟨rfl, _, (extract_size t 1).symm, by rw [extract_size]; omega, rfl, (strip_step t hlt h0).trans hst.out⟩
      · have h0 : ((t[0].toNat : Int) == 0) = false := by assumption
        go_ret
        exact ⟨by rw [← hst.out, strip_stop t hlt h0]; rfl, rfl⟩
    · go_wp2_with fail
      go_ret
      exact ⟨by rw [← hst.out, strip_nil t hlt]; rfl, rfl⟩

/-- the string of a number -/
def S (n : Nat) : ByteArray := ⟨(bstr n).toArray⟩
theorem toL_S (n : Nat) : toL (S n) = bstr n := rfl
theorem S_size (n : Nat) : (S n).size = (bstr n).length := rfl
theorem S_of {s : ByteArray} (h : Bare (toL s)) : s = S (bval (toL s)) := ba_eq (bstr_bval h).symm
theorem strip_S (n : Nat) : strip (toL (S n)) = bstr n := by rw [toL_S, strip_eq, bval_bstr]
theorem trim_S (n : Nat) (w : World) (hs : (bstr n).length ≤ maxLen) :
    Calls Tryd.prog 31 #[.string (S n)] w fun e w' => e = .returned (.string (S n)) ∧ w = w' :=
  (trim_any (S n) w hs).mono fun e w' ⟨h1, h2⟩ => ⟨by rw [h1, strip_S]; rfl, h2⟩
theorem trim_val (s : ByteArray) (w : World) (hs : s.size ≤ maxLen) :
    Calls Tryd.prog 31 #[.string s] w fun e w' => e = .returned (.string (S (bval (toL s)))) ∧ w = w' :=
  (trim_any s w hs).mono fun e w' ⟨h1, h2⟩ => ⟨by rw [h1, strip_eq]; rfl, h2⟩
theorem short_S (n : Nat) (w : World) (hs : (bstr n).length ≤ 8) :
    Calls Tryd.prog 34 #[.string (S n)] w fun e w' => e = .returned (.int .u64 n) ∧ w = w' :=
  (short_any (S n) w hs).mono fun e w' ⟨h1, h2⟩ => ⟨by rw [h1, toL_S, bval_bstr], h2⟩
end Go.Proofs.YtekbpiooecdopaaDoor

/- Walks of package nat: fromShort. -/
namespace Go.Proofs.YtekbpiooecdopaaDoor
open Go.RowKit
set_option linter.unusedVariables false
set_option linter.unusedSimpArgs false

def fsBytes (n : Nat) : List UInt8 := (List.range 8).map fun x => UInt8.ofNat (n / 256 ^ (7 - x) % 256)
theorem fsBytes_val {n : Nat} (h : n < 256 ^ 8) : bval (fsBytes n) = n := by
  have hm : ∀ m : Nat, (UInt8.ofNat (m % 256)).toNat = m % 256 := fun m => UInt8.toNat_ofNat_of_lt' (by simp [UInt8.size]; omega)
  have e : fsBytes n = [UInt8.ofNat (n / 256 ^ 7 % 256), UInt8.ofNat (n / 256 ^ 6 % 256), UInt8.ofNat (n / 256 ^ 5 % 256), UInt8.ofNat (n / 256 ^ 4 % 256), UInt8.ofNat (n / 256 ^ 3 % 256), UInt8.ofNat (n / 256 ^ 2 % 256), UInt8.ofNat (n / 256 ^ 1 % 256), UInt8.ofNat (n / 256 ^ 0 % 256)] := rfl
  rw [e]
  have hv : ∀ a b c d e f g h : UInt8, bval [a, b, c, d, e, f, g, h] = ((((((a.toNat * 256 + b.toNat) * 256 + c.toNat) * 256 + d.toNat) * 256 + e.toNat) * 256 + f.toNat) * 256 + g.toNat) * 256 + h.toNat := by
    intro a b c d e f g h
    show (((((((0 * 256 + a.toNat) * 256 + b.toNat) * 256 + c.toNat) * 256 + d.toNat) * 256 + e.toNat) * 256 + f.toNat) * 256 + g.toNat) * 256 + h.toNat = _
    rw [Nat.zero_mul, Nat.zero_add]
  rw [hv, hm, hm, hm, hm, hm, hm, hm, hm]
  have hd : ∀ k, n / 256 ^ (k + 1) * 256 + n / 256 ^ k % 256 = n / 256 ^ k := fun k => by
    rw [Nat.pow_succ, ← Nat.div_div_eq_div_mul]; omega
  have h7 : n / 256 ^ 7 % 256 = n / 256 ^ 7 := Nat.mod_eq_of_lt (Nat.div_lt_of_lt_mul h)
  rw [h7, hd 6, hd 5, hd 4, hd 3, hd 2, hd 1, hd 0]
  exact Nat.div_one n
theorem shr_byte (n j : Nat) (h : j < 8) : ((n : Int) / 2 ^ (56 - 8 * j) % 256) = ((n / 256 ^ (7 - j) % 256 : Nat) : Int) := by
  have e : 256 ^ (7 - j) = 2 ^ (56 - 8 * j) := by rw [show 56 - 8 * j = 8 * (7 - j) by omega, Nat.pow_mul]
  rw [e, Int.natCast_emod, Int.natCast_ediv, Int.natCast_pow]; rfl

theorem fromShort_any (n : Nat) (w : World) (hn : n < 256 ^ 8) :
    Calls Tryd.prog 33 #[.int .u64 n] w fun e w' => e = .returned (.string (S n)) ∧ Below w.heap.size w w' := by
  have HN := Lib.hid hn; clear hn
  go_enter Tryd.func33, Tryd.ntmps33
  go_wp2_with fail
  go_loopg [5] 8 (fun k i wr => ∃ (j : Nat) (cs : Array Value), k = 8 - j ∧ j ≤ 8 ∧ i = .int .i64 j ∧ cs.size = 8 ∧ Hid (∀ x < 8, cs[x]? = some (.int .u8 ((if x < j then n / 256 ^ (7 - x) % 256 else 0 : Nat) : Int))) ∧ Hid (Below w.heap.size w wr) ∧ Hid (Blk wr w.heap.size 102 cs))
  case atStart =>
    refine ⟨0, _, rfl, by omega, rfl, rfl, fun x hx => ?_, (Below.refl _ _).alloc (Nat.le_refl _) _, Blk.new _ _ _⟩
    match x, hx with
    | 0, _ => rfl
    | 1, _ => rfl
    | 2, _ => rfl
    | 3, _ => rfl
    | 4, _ => rfl
    | 5, _ => rfl
    | 6, _ => rfl
    | 7, _ => rfl
  case round =>
    obtain ⟨j, cs, hgk, hj, rfl, hcs, hcx, hbel, hblk⟩ := hrel
    have HGK := Lib.hid hgk; clear hgk
    by_cases hlt : j < 8
    · have e1 := (hblk.out.cell j).trans (hcx.out j hlt)
      have e2 := hblk.out.frozen j
      rw [if_neg (by omega)] at e1
      have HCS := Lib.hid hcs; clear hcs
      go_wp2_with fail
      go_roundg (8 - (j + 1))
      case measure => rw [HGK.out]; omega
      case rel =>
        rw [shr_byte n j hlt]
        refine ⟨j + 1, _, rfl, by omega, by go_num, ?_, fun x hx => ?_, hbel.out.setCell (Nat.le_refl _) _, hblk.out.set_ j _⟩
        · rw [Array.size_setIfInBounds]; exact HCS.out
        · rw [Array.getElem?_setIfInBounds]
          by_cases hxj : j = x
          · subst hxj
            rw [if_pos rfl, if_pos (by rw [HCS.out]; exact hlt), if_pos (by omega)]
          · rw [if_neg hxj, hcx.out x hx]
            congr 2
            by_cases h1 : x < j
            · rw [if_pos h1, if_pos (by omega)]
            · rw [if_neg h1, if_neg (by omega)]
    · obtain rfl : j = 8 := by omega
      clear hlt hj
      have hcv := run_convert_bytes_back (P := Tryd.prog) wr 103 9 5 ⟨w.heap.size, 0, none⟩ 8 (fsBytes n) Tryd.underlying103 Tryd.underlying5 Tryd.underlying9 (fun j hj => by
        have hj8 : j < 8 := by simpa [fsBytes] using hj
        rw [Addr.add_lit, Nat.zero_add, hblk.out.cell, hcx.out j hj8, if_pos hj8]
        simp only [fsBytes, List.getElem_map, List.getElem_range]
        rw [UInt8.toNat_ofNat_of_lt' (by simp [UInt8.size]; omega)])
      have hlen : (fsBytes n).length = 8 := rfl
      rw [hlen] at hcv
      have hst : bstr (bval (fsBytes n)) = bstr n := by rw [fsBytes_val HN.out]
      have HST := Lib.hid hst; clear hst hlen
      have HCS := Lib.hid hcs; clear hcs
      have HV := Lib.hid (fsBytes_val HN.out)
      have hsz : (⟨(fsBytes n).toArray⟩ : ByteArray).size ≤ maxLen := by show (fsBytes n).length ≤ _; unfold maxLen; simp [fsBytes]
      have HSZ := Lib.hid hsz; clear hsz
      generalize fsBytes n = fb at *
      go_wp2_with fail
      refine (trim_val _ _ HSZ.out).mono ?_
      rintro e w' ⟨rfl, rfl⟩
      go_wp2_with fail
      go_ret
      exact ⟨by rw [show bval (toL ⟨fb.toArray⟩) = n from HV.out]; rfl, hbel.out⟩
end Go.Proofs.YtekbpiooecdopaaDoor

/- Walks of package nat: words. -/
namespace Go.Proofs.YtekbpiooecdopaaDoor
open Go.RowKit
set_option linter.unusedVariables false
set_option linter.unusedSimpArgs false

theorem infoU32 : (Tryd.prog.info? 92).map (fun i => (i.zero, i.size, i.bytes)) = some (some (.int .u32 0), 1, 4) := by kernel_rfl
theorem infoU8 : (Tryd.prog.info? 5).map (fun i => (i.zero, i.size, i.bytes)) = some (some (.int .u8 0), 1, 1) := by kernel_rfl
/-- make([]word, n) -/
theorem make_words (n : Nat) (hn : n ≤ 70368744177664) (w : World) : (Instr.makeSlice 90 (.int .i64 (n : Int)) (.int .i64 (n : Int))).run Tryd.prog w = .ok (.slice (some ⟨w.heap.size, 0, none⟩) n n) (w.alloc (.cells (wcells (List.replicate n 0)) 92)) := by
  obtain ⟨i0, hi0, hz0, hz1, hz2⟩ := info_parts infoU32
  have hr := run_make_one (P := Tryd.prog) Tryd.underlying90 hi0 hz0 hz1 rfl n (by rw [hz2]; omega) (by omega) w
  rw [hr, wcells_zeros]

theorem bval_drop {l : List UInt8} {j : Nat} {c : UInt8} (h : l[j]? = some c) : bval (l.drop j) = c.toNat * 256 ^ (l.length - (j + 1)) + bval (l.drop (j + 1)) := by
  obtain ⟨hj, rfl⟩ := List.getElem?_eq_some_iff.1 h
  rw [List.drop_eq_getElem_cons hj, bval_cons, List.length_drop]

theorem words_any (s : ByteArray) (w : World) (hs : s.size ≤ 140737488355328) :
    Calls Tryd.prog 35 #[.string s] w fun e w' => ∃ g ws, e = .returned (.slice (some ⟨g, 0, none⟩) (List.length ws) ws.length) ∧ w.heap.size ≤ g ∧ Blk w' g 92 (wcells ws) ∧ Below w.heap.size w w' ∧ Wok ws ∧ wval ws = bval (toL s) ∧ ws.length = ((bstr (bval (toL s))).length + 3) / 4 := by
  have hlen : (bstr (bval (toL s))).length ≤ s.size := by
    rw [← strip_eq]; exact (List.dropWhile_suffix _).length_le
  go_enter Tryd.func35, Tryd.ntmps35
  go_wp2_with fail
  refine (trim_val s _ (by unfold maxLen; omega)).mono ?_
  rintro e w' ⟨rfl, rfl⟩
  generalize hv : bval (toL s) = v at *
  have HV := Lib.hid hv; clear hv
  obtain ⟨t, ht⟩ : ∃ t, t = S v := ⟨_, rfl⟩
  have htl : toL t = bstr v := by rw [ht]; rfl
  have hts : t.size = (bstr v).length := by rw [ht]; rfl
  rw [← ht]
  rw [← hts] at hlen
  have HT := Lib.hid (And.intro htl hts); clear htl hts ht
  have hmk := make_words ((t.size + 3) / 4) (by omega)
  have ec : (((t.size + 3) / 4 : Nat) : Int) = ((t.size : Int) + 3) / 4 := by omega
  rw [ec] at hmk
  go_wp2_with fail
  clear hmk
  have hbel0 : Below w.heap.size w (w.alloc (.cells (wcells (List.replicate ((t.size + 3) / 4) 0)) 92)) := (Below.refl _ _).alloc (Nat.le_refl _) _
  have HB0 := Lib.hid hbel0; clear hbel0
  go_loopg [15] t.size (fun k i wr => ∃ (j : Nat) (ws : List Nat), k = t.size - j ∧ j ≤ t.size ∧ i = .int .i64 j ∧ Hid (Below w.heap.size w wr) ∧ Hid (Blk wr w.heap.size 92 (wcells ws)) ∧ ws.length = (t.size + 3) / 4 ∧ Hid (Wok ws ∧ wval ws = bval ((toL t).drop (t.size - j))))
  case atStart => exact ⟨0, _, rfl, Nat.zero_le _, rfl, HB0.out, Blk.new _ _ _, by simp, Wok.zeros _, by rw [wval_zeros, Nat.sub_zero, show (toL t).drop t.size = [] from List.drop_length]; rfl⟩
  case round =>
    obtain ⟨j, ws, hgk, hj, rfl, hbel, hblk, hwl, hws⟩ := hrel
    have HGK := Lib.hid hgk; clear hgk
    by_cases hlt : j < t.size
    · obtain ⟨x, hx⟩ := get_of_lt rfl (show j / 4 < ws.length by omega)
      have e1 := (hblk.out.cell (j / 4)).trans (wcells_get hx)
      have e2 := hblk.out.frozen (j / 4)
      have HX := Lib.hid hx; clear hx
      have HWL := Lib.hid hwl; clear hwl
      have hq0 : (0 : Int) ≤ (t.size : Int) - 1 - j := by omega
      have hq1 : (t.size : Int) - 1 - j < (t.size : Int) := by omega
      have hq2 : ((t.size : Int) - 1 - j).toNat = t.size - 1 - j := by omega
      have hq3 : t.size - 1 - j < t.size := by omega
      have hq4 : (j : Int) ≤ (t.size : Int) - 1 := by omega
      have hj0 : (0 : Int) ≤ (j : Int) / 4 := by omega
      have hj1 : (j : Int) / 4 < ((t.size : Int) + 3) / 4 := by omega
      have hj2 : IntKind.i64.wrap ((j : Int) / 4) = (j : Int) / 4 := IntWalk.i64_in _ (by omega)
      have hj3 : ((j : Int) / 4).toNat = j / 4 := by omega
      go_wp2_with fail
      go_region
      all_goals go_wp2_with fail
      have hbyte : (toL t)[t.size - (j + 1)]? = some t[t.size - 1 - j] := by
        rw [show t.size - (j + 1) = t.size - 1 - j by omega]; exact toL_get t _ hq3
      have hdrop := bval_drop hbyte
      rw [show (toL t).length - (t.size - (j + 1) + 1) = j by show t.size - _ = _; omega, show t.size - (j + 1) + 1 = t.size - j by omega] at hdrop
      have hvlt : wval ws < 256 ^ j := by
        rw [hws.out.2]
        have := bval_lt ((toL t).drop (t.size - j))
        rwa [List.length_drop, show (toL t).length - (t.size - j) = j by show t.size - _ = _; omega] at this
      have hroom := word_room HX.out hvlt
      rw [or_word (by omega) hroom (t[t.size - 1 - j].toNat_lt)]
      have hnew : x + t[t.size - 1 - j].toNat * 256 ^ (j % 4) < 4294967296 := by
        have h1 : t[t.size - 1 - j].toNat ≤ 255 := by have := t[t.size - 1 - j].toNat_lt; omega
        have h2 := Nat.mul_le_mul_right (256 ^ (j % 4)) h1
        have h3 : 256 ^ (j % 4) ≤ 256 ^ 3 := Nat.pow_le_pow_right (by omega) (by omega)
        omega
      go_roundg (t.size - (j + 1))
      case measure => rw [HGK.out]; omega
      case rel =>
        refine ⟨j + 1, ws.set (j / 4) (x + t[t.size - 1 - j].toNat * 256 ^ (j % 4)), rfl, by omega, by go_num, (hbel.out.setCell (Nat.le_refl _) _).drew, ?_, by rw [List.length_set]; exact HWL.out, ?_, ?_⟩
        · rw [← wcells_set]; exact (hblk.out.set_ _ _).drew
        · exact hws.out.1.set _ hnew
        · rw [word_step HX.out, hws.out.2, hdrop]; omega
    · obtain rfl : j = t.size := by omega
      go_wp2_with fail
      go_ret
      refine ⟨w.heap.size, ws, by rw [hwl]; rfl, Nat.le_refl _, hblk.out, hbel.out, hws.out.1, ?_, by rw [hwl, HT.out.2, HV.out]⟩
      rw [hws.out.2, Nat.sub_self, List.drop_zero, HT.out.1, HV.out, bval_bstr]
end Go.Proofs.YtekbpiooecdopaaDoor

/- Walks of package nat: text. -/
namespace Go.Proofs.YtekbpiooecdopaaDoor
open Go.RowKit
set_option linter.unusedVariables false
set_option linter.unusedSimpArgs false

/-- words read from a slice -/
def WAt (w : World) (B : Nat) (A : Option Addr) (ws : List Nat) : Prop :=
  ∀ (i x : Nat), ws[i]? = some x → ∃ g off, A = some ⟨g, off, none⟩ ∧ g < B ∧ w.cell? ⟨g, off + i, none⟩ = some (.int .u32 (x : Int))
theorem WAt.below {w w' : World} {B B' : Nat} {A : Option Addr} {ws : List Nat} (h : WAt w B A ws) (hb : Below B' w w') (hB : B ≤ B') : WAt w' B A ws := by
  intro k u hu
  obtain ⟨b, off, hA, hlt, h0⟩ := h k u hu
  exact ⟨b, off, hA, hlt, (hb.cell (p := ⟨b, _, none⟩) (Nat.lt_of_lt_of_le hlt hB)).trans h0⟩
theorem WAt.more {w : World} {B B' : Nat} {A : Option Addr} {ws : List Nat} (h : WAt w B A ws) (hB : B ≤ B') : WAt w B' A ws := by
  intro k u hu
  obtain ⟨b, off, hA, hlt, h0⟩ := h k u hu
  exact ⟨b, off, hA, Nat.lt_of_lt_of_le hlt hB, h0⟩
theorem WAt.next {w w' : World} {A : Option Addr} {ws : List Nat} (h : WAt w w.heap.size A ws) (hb : Below w.heap.size w w') : WAt w' w'.heap.size A ws := (h.below hb (Nat.le_refl _)).more hb.size
theorem Blk.wAt {w : World} {g : Nat} {t : TypeId} {ws : List Nat} (h : Blk w g t (wcells ws)) : WAt w w.heap.size (some ⟨g, 0, none⟩) ws := fun i x hx =>
  ⟨g, 0, rfl, h.lt, by rw [h.cell, Nat.zero_add]; exact wcells_get hx⟩

def bcells (l : List UInt8) : Array Value := (l.map fun (n : UInt8) => Value.int .u8 (n.toNat : Int)).toArray
theorem bcells_get {l : List UInt8} {i : Nat} {c : UInt8} (h : l[i]? = some c) : (bcells l)[i]? = some (.int .u8 c.toNat) := by simp [bcells, h]
theorem bcells_set (l : List UInt8) (i : Nat) (c : UInt8) : (bcells l).setIfInBounds i (.int .u8 c.toNat) = bcells (l.set i c) := by
  apply Array.ext'
  simp [bcells, List.map_set]
theorem bcells_zeros (n : Nat) : bcells (List.replicate n 0) = Array.replicate n (.int .u8 0) := by
  apply Array.ext'
  simp [bcells]
theorem make_bytes (n : Nat) (hn : n ≤ 281474976710656) (w : World) : (Instr.makeSlice 103 (.int .i64 (n : Int)) (.int .i64 (n : Int))).run Tryd.prog w = .ok (.slice (some ⟨w.heap.size, 0, none⟩) n n) (w.alloc (.cells (bcells (List.replicate n 0)) 5)) := by
  obtain ⟨i0, hi0, hz0, hz1, hz2⟩ := info_parts infoU8
  have hr := run_make_one (P := Tryd.prog) Tryd.underlying103 hi0 hz0 hz1 rfl n (by rw [hz2]; omega) (by omega) w
  rw [hr, bcells_zeros]
theorem bytes_back (w : World) (g n : Nat) (l : List UInt8) (hn : n = l.length) (c : Nat) (t : TypeId) (h : Blk w g t (bcells l)) : (convert 103 9 (.slice (some ⟨g, 0, none⟩) n c)).run Tryd.prog w = .ok (.string ⟨l.toArray⟩) w := by
  subst hn
  exact run_convert_bytes_back (P := Tryd.prog) w 103 9 5 ⟨g, 0, none⟩ c l Tryd.underlying103 Tryd.underlying5 Tryd.underlying9 (fun j hj => by
    rw [Addr.add_lit, Nat.zero_add, h.cell]; exact bcells_get (List.getElem?_eq_getElem hj))

theorem set4 {l : List UInt8} {k : Nat} (h : k + 4 ≤ l.length) (a b c d : UInt8) : (((l.set k a).set (k+1) b).set (k+2) c).set (k+3) d = l.take k ++ a :: b :: c :: d :: l.drop (k+4) := by
  induction k generalizing l with
  | zero =>
    match l, h with
    | x :: y :: z :: u :: r, _ => rfl
  | succ k ih =>
    cases l with
    | nil => simp at h
    | cons x l =>
      have := ih (l := l) (by simp at h; omega)
      simp only [List.set_cons_succ, List.take_succ_cons, List.drop_succ_cons, List.cons_append]
      rw [← this]
def b4 (x : Nat) : List UInt8 := [UInt8.ofNat (x / 16777216 % 256), UInt8.ofNat (x / 65536 % 256), UInt8.ofNat (x / 256 % 256), UInt8.ofNat (x % 256)]
theorem ofNat_toNat (m : Nat) : (UInt8.ofNat (m % 256)).toNat = m % 256 := UInt8.toNat_ofNat_of_lt' (by simp [UInt8.size]; omega)
theorem b4_val {x : Nat} (h : x < 4294967296) (r : List UInt8) : bval (b4 x ++ r) = x * 256 ^ r.length + bval r := by
  rw [bval_append]
  congr 2
  show (((0 * 256 + (UInt8.ofNat (x / 16777216 % 256)).toNat) * 256 + (UInt8.ofNat (x / 65536 % 256)).toNat) * 256 + (UInt8.ofNat (x / 256 % 256)).toNat) * 256 + (UInt8.ofNat (x % 256)).toNat = x
  simp only [ofNat_toNat]
  omega

theorem text_any (ws : List Nat) (A : Option Addr) (n c : Nat) (w : World) (hn : n = ws.length) (hn2 : n ≤ 35184372088832) (hok : Wok ws) (h : WAt w w.heap.size A ws) :
    Calls Tryd.prog 36 #[.slice A n c] w fun e w' => e = .returned (.string (S (wval ws))) ∧ Below w.heap.size w w' := by
  have HN := Lib.hid hn; clear hn
  have H := Lib.hid h; clear h
  have HOK := Lib.hid hok; clear hok
  have hmk := make_bytes (4 * n) (by omega)
  have ec : ((4 * n : Nat) : Int) = 4 * (n : Int) := by omega
  rw [ec] at hmk
  go_enter Tryd.func36, Tryd.ntmps36
  go_wp2_with fail
  clear hmk
  have HB0 : Hid (Below w.heap.size w (w.alloc (.cells (bcells (List.replicate (4 * n) 0)) 5))) := (Below.refl _ _).alloc (Nat.le_refl _) _
  go_loopg [13] n (fun k i wr => ∃ (j : Nat) (bs : List UInt8), k = n - j ∧ j ≤ n ∧ i = .int .i64 j ∧ Hid (Below w.heap.size w wr) ∧ Hid (Blk wr w.heap.size 5 (bcells bs)) ∧ bs.length = 4 * n ∧ Hid (bval (bs.drop (4 * (n - j))) = wval (ws.take j)))
  case atStart => exact ⟨0, _, rfl, Nat.zero_le _, rfl, HB0.out, Blk.new _ _ _, by simp, by rw [Nat.sub_zero, List.drop_of_length_le (by simp)]; rfl⟩
  case round =>
    obtain ⟨j, bs, hgk, hj, rfl, hbel, hblk, hbl, hval⟩ := hrel
    have HGK := Lib.hid hgk; clear hgk
    by_cases hlt : j < n
    · obtain ⟨x, hx⟩ := get_of_lt HN.out hlt
      obtain ⟨g, off, rfl, hg, h0⟩ := H.out j x hx
      have g0 := (hbel.out.cell (p := ⟨g, off + j, none⟩) hg).trans h0
      clear h0
      have hxlt := HOK.out.get hx
      have HX := Lib.hid hx; clear hx
      have HBL := Lib.hid hbl; clear hbl
      have ek : (n : Int) - 1 - (j : Int) = ((n - 1 - j : Nat) : Int) := by omega
      generalize hm : n - 1 - j = m at *
      have hm1 : 4 * m + 3 < 4 * n := by omega
      have HM := Lib.hid hm; clear hm
      have e0 : ∀ i, i < 4 * n → ∃ v, wr.cell? ⟨w.heap.size, i, none⟩ = some v := fun i hi => by
        obtain ⟨c, hc⟩ := get_of_lt HBL.out.symm hi
        exact ⟨_, (hblk.out.cell i).trans (bcells_get hc)⟩
      obtain ⟨y0, c0⟩ := e0 (4 * m) (by omega)
      obtain ⟨y1, c1⟩ := e0 (4 * m + 1) (by omega)
      obtain ⟨y2, c2⟩ := e0 (4 * m + 2) (by omega)
      obtain ⟨y3, c3⟩ := e0 (4 * m + 3) (by omega)
      clear e0
      have f0 := hblk.out.frozen (4 * m)
      have f1 := hblk.out.frozen (4 * m + 1)
      have f2 := hblk.out.frozen (4 * m + 2)
      have f3 := hblk.out.frozen (4 * m + 3)
      go_wp2_with fail
      have q0 : ((x : Int) / 16777216) = (((UInt8.ofNat (x / 16777216 % 256)).toNat : Nat) : Int) := by rw [ofNat_toNat]; omega
      have q1 : ((x : Int) / 65536 % 256) = (((UInt8.ofNat (x / 65536 % 256)).toNat : Nat) : Int) := by rw [ofNat_toNat]; omega
      have q2 : ((x : Int) / 256 % 256) = (((UInt8.ofNat (x / 256 % 256)).toNat : Nat) : Int) := by rw [ofNat_toNat]; omega
      have q3 : ((x : Int) % 256) = (((UInt8.ofNat (x % 256)).toNat : Nat) : Int) := by rw [ofNat_toNat]; omega
      rw [q0, q1, q2, q3]
      go_roundg (n - (j + 1))
      case measure => rw [HGK.out]; omega
      case rel =>
        refine ⟨j + 1, (((bs.set (4*m) (UInt8.ofNat (x / 16777216 % 256))).set (4*m+1) (UInt8.ofNat (x / 65536 % 256))).set (4*m+2) (UInt8.ofNat (x / 256 % 256))).set (4*m+3) (UInt8.ofNat (x % 256)), rfl, by omega, by go_num, (((hbel.out.setCell (Nat.le_refl _) _).setCell (Nat.le_refl _) _).setCell (Nat.le_refl _) _).setCell (Nat.le_refl _) _, ?_, ?_, ?_⟩
        · have h4 := (((hblk.out.set_ (4*m) (.int .u8 (UInt8.ofNat (x / 16777216 % 256)).toNat)).set_ (4*m+1) (.int .u8 (UInt8.ofNat (x / 65536 % 256)).toNat)).set_ (4*m+2) (.int .u8 (UInt8.ofNat (x / 256 % 256)).toNat)).set_ (4*m+3) (.int .u8 (UInt8.ofNat (x % 256)).toNat)
          rw [bcells_set, bcells_set, bcells_set, bcells_set] at h4
          exact h4
        · simp only [List.length_set]; exact HBL.out
        · rw [set4 (by rw [HBL.out]; omega)]
          have hd : (bs.take (4*m) ++ UInt8.ofNat (x / 16777216 % 256) :: UInt8.ofNat (x / 65536 % 256) :: UInt8.ofNat (x / 256 % 256) :: UInt8.ofNat (x % 256) :: bs.drop (4*m+4)).drop (4 * (n - (j + 1))) = b4 x ++ bs.drop (4 * (n - j)) := by
            have hm2 := HM.out
            rw [show 4 * (n - (j+1)) = (bs.take (4*m)).length by rw [List.length_take, HBL.out]; omega, List.drop_left, show 4 * m + 4 = 4 * (n - j) by omega]; rfl
          rw [hd, b4_val hxlt, hval.out, wval_take_succ HX.out, List.length_drop, HBL.out, show 4 * n - 4 * (n - j) = 4 * j by omega, Nat.pow_mul, Nat.mul_comm, Nat.add_comm, show (256 : Nat) ^ 4 = 4294967296 from rfl]; exact rfl
    · obtain rfl : j = n := by omega
      have hst := bytes_back wr w.heap.size (4 * j) bs hbl.symm (4 * j) _ hblk.out
      have hv : bval bs = wval ws := by
        have := hval.out
        rw [Nat.sub_self, Nat.mul_zero, List.drop_zero, HN.out, List.take_length] at this
        exact this
      have hsz : (⟨bs.toArray⟩ : ByteArray).size ≤ maxLen := by show bs.length ≤ _; rw [hbl]; unfold maxLen; omega
      have HSZ := Lib.hid hsz; clear hsz hbl
      have HV := Lib.hid hv; clear hv
      go_wp2_with fail
      refine (trim_val _ _ HSZ.out).mono ?_
      rintro e w' ⟨rfl, rfl⟩
      go_wp2_with fail
      go_ret
      exact ⟨by rw [show bval (toL ⟨bs.toArray⟩) = wval ws from HV.out]; rfl, hbel.out⟩
end Go.Proofs.YtekbpiooecdopaaDoor

/- Walks: strings.Compare; nat.Cmp. -/
namespace Go.Proofs.YtekbpiooecdopaaDoor
open Go.RowKit
set_option linter.unusedVariables false
set_option linter.unusedSimpArgs false

set_option maxRecDepth 100000 in
theorem compareString_any (a b : ByteArray) (w : World) :
    Calls Tryd.prog 47 #[.string a, .string b] w fun e w' => e = .returned (.int .i64 (Lib.compareBytes (toL a) (toL b))) ∧ w = w' := by
  go_enter Tryd.func47, Tryd.ntmps47
  go_wp2
  rw [run_callFunc_extern Tryd.func55 (by kernel_rfl) (by kernel_rfl) (by kernel_rfl) (e := Extern.BytealgCompare.compare) (by kernel_rfl), Lib.run_compareString]
  simp only [Result.andThen]
  rw [Oper.upon_value]
  go_wp2
  go_ret
  exact ⟨rfl, rfl⟩
theorem compare_any (a b : ByteArray) (w : World) :
    Calls Tryd.prog 32 #[.string a, .string b] w fun e w' => e = .returned (.int .i64 (Lib.compareBytes (toL a) (toL b))) ∧ w = w' := by
  go_enter Tryd.func32, Tryd.ntmps32
  go_wp2_with (go_at_call 47; refine (compareString_any _ _ _).mono ?_; rintro e w' ⟨rfl, rfl⟩)
  go_ret
  exact ⟨rfl, rfl⟩

def cmpZ (m n : Nat) : Int := if m < n then -1 else if n < m then 1 else 0
theorem compareBytes_val {a b : List UInt8} (h : a.length = b.length) : Lib.compareBytes a b = cmpZ (bval a) (bval b) := by
  induction a generalizing b with
  | nil =>
    cases b with
    | nil => rfl
    | cons y m => simp at h
  | cons x l ih =>
    cases b with
    | nil => simp at h
    | cons y m =>
      simp only [List.length_cons, Nat.add_right_cancel_iff] at h
      simp only [Lib.compareBytes]
      rw [bval_cons, bval_cons, h]
      have hl := bval_lt l
      have hm := bval_lt m
      rw [h] at hl
      by_cases h1 : x < y
      · rw [if_pos h1]
        have h2 : x.toNat + 1 ≤ y.toNat := UInt8.lt_iff_toNat_lt.1 h1
        have h3 := Nat.mul_le_mul_right (256 ^ m.length) h2
        rw [Nat.succ_mul] at h3
        generalize x.toNat * 256 ^ m.length = X at *
        generalize y.toNat * 256 ^ m.length = Y at *
        unfold cmpZ; rw [if_pos (by omega)]
      · rw [if_neg h1]
        by_cases h2 : y < x
        · rw [if_pos h2]
          have h2' : y.toNat + 1 ≤ x.toNat := UInt8.lt_iff_toNat_lt.1 h2
          have h3 := Nat.mul_le_mul_right (256 ^ m.length) h2'
          rw [Nat.succ_mul] at h3
          generalize x.toNat * 256 ^ m.length = X at *
          generalize y.toNat * 256 ^ m.length = Y at *
          unfold cmpZ; rw [if_neg (by omega), if_pos (by omega)]
        · rw [if_neg h2, ih h]
          have : x = y := UInt8.toNat_inj.1 (by
            have a1 : ¬ x.toNat < y.toNat := fun hh => h1 (UInt8.lt_iff_toNat_lt.2 hh)
            have a2 : ¬ y.toNat < x.toNat := fun hh => h2 (UInt8.lt_iff_toNat_lt.2 hh)
            omega)
          subst this
          unfold cmpZ
          by_cases b1 : bval l < bval m
          · rw [if_pos b1, if_pos (by omega)]
          · rw [if_neg b1]
            by_cases b2 : bval m < bval l
            · rw [if_pos b2, if_neg (by omega), if_pos (by omega)]
            · rw [if_neg b2, if_neg (by omega), if_neg (by omega)]
theorem lt_of_len {m n : Nat} (h : (bstr m).length < (bstr n).length) : m < n := by
  have h1 : m < 256 ^ (bstr m).length := bstr_length_le.1 (Nat.le_refl _)
  have h2 : ¬ n < 256 ^ (bstr m).length := fun hh => by have := bstr_length_le.2 hh; omega
  omega

theorem cmp_S (m n : Nat) (w : World) (hm : (bstr m).length ≤ 140737488355328) (hn : (bstr n).length ≤ 140737488355328) :
    Calls Tryd.prog 20 #[.string (S m), .string (S n)] w fun e w' => e = .returned (.int .i64 (cmpZ m n)) ∧ w = w' := by
  have hsm := S_size m
  have hsn := S_size n
  go_enter Tryd.func20, Tryd.ntmps20
  have HS := Lib.hid (And.intro hsm hsn); clear hsm hsn
  have HM := Lib.hid (And.intro hm hn)
  go_wp2_with (first | (go_at_call 31; ((with_reducible refine (trim_S m _ ?_).mono ?_); · (exact by unfold maxLen; omega)); rintro e w' ⟨rfl, rfl⟩) | (go_at_call 31; ((with_reducible refine (trim_S n _ ?_).mono ?_); · (exact by unfold maxLen; omega)); rintro e w' ⟨rfl, rfl⟩) | (go_at_call 32; refine (compare_any _ _ _).mono ?_; rintro e w' ⟨rfl, rfl⟩))
  · go_ret
    have h : (S m).size < (S n).size := by assumption
    rw [HS.out.1, HS.out.2] at h
    exact ⟨ret_int (by rw [cmpZ, if_pos (lt_of_len h)]), rfl⟩
  · go_ret
    have h : (S n).size < (S m).size := by assumption
    rw [HS.out.1, HS.out.2] at h
    have := lt_of_len h
    exact ⟨ret_int (by rw [cmpZ, if_neg (by omega), if_pos this]), rfl⟩
  · go_ret
    have h1 : ¬ (S m).size < (S n).size := by assumption
    have h2 : ¬ (S n).size < (S m).size := by assumption
    exact ⟨ret_int (by rw [compareBytes_val (show (toL (S m)).length = (toL (S n)).length by show (S m).size = (S n).size; omega), toL_S, toL_S, bval_bstr, bval_bstr]), rfl⟩
end Go.Proofs.YtekbpiooecdopaaDoor

/- Walks of package nat: less. -/
namespace Go.Proofs.YtekbpiooecdopaaDoor
open Go.RowKit
set_option linter.unusedVariables false
set_option linter.unusedSimpArgs false

theorem grown_set {a w : World} {g : Nat} (h : a.grownBy w (some g)) (i : Nat) (u : Value) : a.grownBy (w.setCell ⟨g, i, none⟩ u) (some g) :=
  ⟨h.os, h.tape, h.output, by simpa [World.setCell] using h.size, fun k hk hne => (Below.heap_setCell w _ u k (by rintro rfl; exact hne rfl)).trans (h.block k hk hne)⟩
theorem WAt.grown {w w' : World} {g B : Nat} {A : Option Addr} {ws : List Nat} (h : WAt w B A ws) (hg : w.grownBy w' (some g)) (hne : ∀ b off, A = some ⟨b, off, none⟩ → b ≠ g) (hB : B ≤ w.heap.size) : WAt w' B A ws := by
  intro i x hx
  obtain ⟨b, off, hA, hb, hc⟩ := h i x hx
  refine ⟨b, off, hA, hb, (World.cell?_of_block (hg.block b (by omega) ?_)).trans hc⟩
  intro e; injection e with e; exact hne b off hA e

/-- digit y at place i; 0 behind the end -/
def wd (ys : List Nat) (i : Nat) : Nat := ys[i]?.getD 0
theorem wd_take (ys : List Nat) (i : Nat) : wval (ys.take (i+1)) = wval (ys.take i) + 4294967296 ^ i * wd ys i := by
  unfold wd
  cases h : ys[i]? with
  | some y => rw [wval_take_succ h]; rfl
  | none =>
    have : ys.length ≤ i := List.getElem?_eq_none_iff.1 h
    rw [List.take_of_length_le (by omega), List.take_of_length_le this]; simp
theorem wd_lt {ys : List Nat} (h : Wok ys) (i : Nat) : wd ys i < 4294967296 := by
  unfold wd
  cases h' : ys[i]? with
  | some y => exact h.get h'
  | none => simp
def sbW (x b y : Nat) : Nat := if b + y ≤ x then x - b - y else 4294967296 + x - b - y
def sbB (x b y : Nat) : Nat := if b + y ≤ x then 0 else 1
theorem sb_word {x b y : Nat} (hx : x < 4294967296) (hb : b ≤ 1) (hy : y < 4294967296) : IntKind.u64.wrap (IntKind.u64.wrap ((x : Int) - b) - y) % 4294967296 = ((sbW x b y : Nat) : Int) := by
  rw [IntKind.wrap_u64, IntKind.wrap_u64]; unfold sbW; split <;> omega
theorem sb_borrow {x b y : Nat} (hx : x < 4294967296) (hb : b ≤ 1) (hy : y < 4294967296) : IntKind.u64.wrap (IntKind.u64.wrap ((x : Int) - b) - y) / 9223372036854775808 = ((sbB x b y : Nat) : Int) := by
  rw [IntKind.wrap_u64, IntKind.wrap_u64]; unfold sbB; split <;> omega
theorem sb_sum {x b y : Nat} (hx : x < 4294967296) (hb : b ≤ 1) (hy : y < 4294967296) : sbW x b y + b + y = x + 4294967296 * sbB x b y ∧ sbW x b y < 4294967296 ∧ sbB x b y ≤ 1 := by
  unfold sbW sbB; split <;> omega

theorem sb_word0 {x b : Nat} (hx : x < 4294967296) (hb : b ≤ 1) : IntKind.u64.wrap ((x : Int) - b) % 4294967296 = ((sbW x b 0 : Nat) : Int) := by
  rw [IntKind.wrap_u64]; unfold sbW; split <;> omega
theorem sb_borrow0 {x b : Nat} (hx : x < 4294967296) (hb : b ≤ 1) : IntKind.u64.wrap ((x : Int) - b) / 9223372036854775808 = ((sbB x b 0 : Nat) : Int) := by
  rw [IntKind.wrap_u64]; unfold sbB; split <;> omega
theorem less_step {xs ys zs : List Nat} {j b x : Nat} (hl : zs.length = xs.length) (hz : Wok zs) (hd : zs.drop j = xs.drop j) (hv : wval (zs.take j) + wval (ys.take j) = wval (xs.take j) + 4294967296 ^ j * b)
    (hx : xs[j]? = some x) (hzx : zs[j]? = some x) (hxl : x < 4294967296) (hb : b ≤ 1) (hy : wd ys j < 4294967296) :
    (zs.set j (sbW x b (wd ys j))).length = xs.length ∧ Wok (zs.set j (sbW x b (wd ys j))) ∧ (zs.set j (sbW x b (wd ys j))).drop (j+1) = xs.drop (j+1) ∧
      wval ((zs.set j (sbW x b (wd ys j))).take (j+1)) + wval (ys.take (j+1)) = wval (xs.take (j+1)) + 4294967296 ^ (j+1) * sbB x b (wd ys j) := by
  obtain ⟨h1, h2, h3⟩ := sb_sum hxl hb hy
  have hjl : j < zs.length := (List.getElem?_eq_some_iff.1 hzx).1
  refine ⟨by rw [List.length_set, hl], hz.set j h2, ?_, ?_⟩
  · rw [List.drop_set_of_lt (by omega)]
    have := congrArg (List.drop 1) hd
    rwa [List.drop_drop, List.drop_drop] at this
  · have e1 : (zs.set j (sbW x b (wd ys j)))[j]? = some (sbW x b (wd ys j)) := by rw [List.getElem?_set_self hjl]
    rw [wval_take_succ e1, wd_take, wval_take_succ hx, List.take_set_of_le (Nat.le_refl _), Nat.pow_succ]
    grind

theorem less_any (xs ys : List Nat) (g : Nat) (A : Option Addr) (n m c d : Nat) (w : World) (hn : n = xs.length) (hm : m = ys.length) (hn2 : n ≤ 35184372088832) (hm2 : m ≤ 35184372088832) (hx : Wok xs) (hy : Wok ys)
    (hb : Blk w g 92 (wcells xs)) (h : WAt w w.heap.size A ys) (hne : ∀ b off, A = some ⟨b, off, none⟩ → b ≠ g) (hle : wval ys ≤ wval xs) (hlen : ys.length ≤ xs.length) :
    Calls Tryd.prog 70 #[.slice (some ⟨g, 0, none⟩) n c, .slice A m d] w fun e w' => e = .returned (.tuple #[]) ∧ w.grownBy w' (some g) ∧ ∃ zs, zs.length = xs.length ∧ Wok zs ∧ Blk w' g 92 (wcells zs) ∧ wval zs = wval xs - wval ys := by
  have HN := Lib.hid (And.intro hn hm); clear hn hm
  have H := Lib.hid h; clear h
  have HB := Lib.hid hb; clear hb
  have HXY := Lib.hid (And.intro hx hy); clear hx hy
  have HNE := Lib.hid hne; clear hne
  have HLE := Lib.hid (And.intro hle hlen); clear hle hlen
  go_enter Tryd.func70, Tryd.ntmps70
  go_wp2_with fail
  go_loopg [4, 10] n (fun k bo i wr => ∃ (j b : Nat) (zs : List Nat), k = n - j ∧ j ≤ n ∧ b ≤ 1 ∧ i = .int .i64 j ∧ bo = .int .u64 b ∧ Hid (w.grownBy wr (some g)) ∧ Hid (Blk wr g 92 (wcells zs)) ∧ Hid (zs.length = xs.length ∧ Wok zs ∧ zs.drop j = xs.drop j ∧ wval (zs.take j) + wval (ys.take j) = wval (xs.take j) + 4294967296 ^ j * b))
  case atStart => exact ⟨0, 0, xs, rfl, Nat.zero_le _, Nat.zero_le _, rfl, rfl, World.grownBy.refl _ _, HB.out, rfl, HXY.out.1, rfl, rfl⟩
  case round =>
    obtain ⟨j, b, zs, hgk, hj, hb1, rfl, rfl, hgr, hblk, hzs⟩ := hrel
    have HGK := Lib.hid hgk; clear hgk
    by_cases hlt : j < n
    · obtain ⟨x, hx⟩ := get_of_lt HN.out.1 hlt
      have hzx : zs[j]? = some x := by
        obtain ⟨_, _, hd, _⟩ := hzs.out
        have := congrArg (fun l => l[0]?) hd
        simpa [List.getElem?_drop, hx] using this
      have e1 := (hblk.out.cell j).trans (wcells_get hzx)
      have e2 := hblk.out.frozen j
      have hxlt := HXY.out.1.get hx
      have hylt := wd_lt HXY.out.2 j
      have HX := Lib.hid (And.intro hx hzx); clear hx hzx
      by_cases hjm : j < m
      · obtain ⟨y, hy⟩ := get_of_lt HN.out.2 hjm
        obtain ⟨b', off, rfl, hbb, h0⟩ := H.out j y hy
        have g0 := (World.cell?_of_block (w := w) (a := ⟨b', off + j, none⟩) (hgr.out.block b' hbb (by intro e; injection e with e; exact HNE.out b' off rfl e))).trans h0
        clear h0
        have hwd : wd ys j = y := by simp [wd, hy]
        rw [hwd] at hylt
        have HWD := Lib.hid hwd; clear hwd hy
        go_wp2_with fail
        rw [sb_borrow hxlt hb1 hylt, sb_word hxlt hb1 hylt, ← HWD.out]
        go_roundg (n - (j + 1))
        case measure => rw [HGK.out]; omega
        case rel =>
          obtain ⟨z1, z2, z3, z4⟩ := hzs.out
          rw [← HWD.out] at hylt
          obtain ⟨t1, t2, t3, t4⟩ := less_step z1 z2 z3 z4 HX.out.1 HX.out.2 hxlt hb1 hylt
          exact ⟨j + 1, sbB x b (wd ys j), _, rfl, by omega, (sb_sum hxlt hb1 hylt).2.2, by go_num, rfl, grown_set hgr.out _ _, by rw [← wcells_set]; exact hblk.out.set_ _ _, t1, t2, t3, t4⟩
      · have hwd : wd ys j = 0 := by
          unfold wd; rw [List.getElem?_eq_none (by rw [← HN.out.2]; omega)]; rfl
        have HWD := Lib.hid hwd; clear hwd
        go_wp2_with fail
        rw [sb_borrow0 hxlt hb1, sb_word0 hxlt hb1, show sbB x b 0 = sbB x b (wd ys j) by rw [HWD.out], show sbW x b 0 = sbW x b (wd ys j) by rw [HWD.out]]
        go_roundg (n - (j + 1))
        case measure => rw [HGK.out]; omega
        case rel =>
          obtain ⟨z1, z2, z3, z4⟩ := hzs.out
          obtain ⟨t1, t2, t3, t4⟩ := less_step z1 z2 z3 z4 HX.out.1 HX.out.2 hxlt hb1 hylt
          exact ⟨j + 1, sbB x b (wd ys j), _, rfl, by omega, (sb_sum hxlt hb1 hylt).2.2, by go_num, rfl, grown_set hgr.out _ _, by rw [← wcells_set]; exact hblk.out.set_ _ _, t1, t2, t3, t4⟩
    · obtain rfl : j = n := by omega
      go_wp2_with fail
      go_end0
      obtain ⟨z1, z2, z3, z4⟩ := hzs.out
      refine ⟨rfl, hgr.out, zs, z1, z2, hblk.out, ?_⟩
      obtain ⟨hle, hlen⟩ := HLE.out
      rw [List.take_of_length_le (by rw [z1, HN.out.1]; exact Nat.le_refl _), List.take_of_length_le (by rw [HN.out.1]; exact hlen), List.take_of_length_le (by rw [HN.out.1]; exact Nat.le_refl _)] at z4
      have hzlt := wval_lt z2
      have hb0 : b = 0 := by
        have : b = 0 ∨ b = 1 := by omega
        rcases this with h | h
        · exact h
        · subst h; rw [z1, ← HN.out.1] at hzlt; omega
      subst hb0
      omega
end Go.Proofs.YtekbpiooecdopaaDoor

/- Walks of package nat: Sub, Add. -/
namespace Go.Proofs.YtekbpiooecdopaaDoor
open Go.RowKit
set_option linter.unusedVariables false
set_option linter.unusedSimpArgs false

theorem below_next {w W W' : World} (h : Below w.heap.size w W) (h' : Below W.heap.size W W') : Below w.heap.size w W' := h.trans (h'.mono h.size)
theorem ret_si {a b : ByteArray} {c d : Int} (h : a = b) (h' : c = d) : Ending.returned (.tuple #[.string a, .int .i64 c]) = .returned (.tuple #[.string b, .int .i64 d]) := by rw [h, h']
def subS (m n : Nat) : ByteArray := if m < n then S 0 else S (m - n)
def subE (m n : Nat) : Int := if m < n then 1 else 0
theorem wlen_mono {m n : Nat} (h : n ≤ m) : ((bstr n).length + 3) / 4 ≤ ((bstr m).length + 3) / 4 := by
  have : ¬ (bstr m).length < (bstr n).length := fun hh => by have := lt_of_len hh; omega
  omega

theorem sub_S (m n : Nat) (w : World) (hm : (bstr m).length ≤ 35184372088832) (hn : (bstr n).length ≤ 35184372088832) :
    Calls Tryd.prog 54 #[.string (S m), .string (S n)] w fun e w' => e = .returned (.tuple #[.string (subS m n), .int .i64 (subE m n)]) ∧ Below w.heap.size w w' := by
  have HMN := Lib.hid (And.intro hm hn)
  by_cases hlt : m < n
  · have hc : cmpZ m n = -1 := by simp [cmpZ, hlt]
    have HC := Lib.hid hc; clear hc
    have HLT := Lib.hid hlt; clear hlt
    go_enter Tryd.func54, Tryd.ntmps54
    go_wp2_with fail
    refine (cmp_S m n _ (by omega) (by omega)).mono ?_
    rw [HC.out]
    rintro e w' ⟨rfl, rfl⟩
    go_wp2_with fail
    go_ret2
    exact ⟨ret_si (by rw [subS, if_pos HLT.out]; rfl) (by rw [subE, if_pos HLT.out]), Below.refl _ _⟩
  · have hc : 0 ≤ cmpZ m n := by unfold cmpZ; rw [if_neg hlt]; split <;> omega
    generalize hz : cmpZ m n = z at *
    have HZ := Lib.hid hz; clear hz
    have HLT := Lib.hid hlt; clear hlt
    go_enter Tryd.func54, Tryd.ntmps54
    go_wp2_with fail
    refine (cmp_S m n _ (by omega) (by omega)).mono ?_
    rw [HZ.out]
    rintro e w' ⟨rfl, rfl⟩
    go_wp2_with fail
    refine (words_any (S m) _ (by rw [S_size]; omega)).mono ?_
    rintro e w1 ⟨g1, xs, rfl, hg1, hb1, hbel1, hok1, hv1, hl1⟩
    rw [toL_S, bval_bstr] at hv1 hl1
    have HX := Lib.hid (And.intro hok1 (And.intro hv1 hl1)); clear hok1 hv1 hl1
    generalize hnx : xs.length = nx at *
    have HNX := Lib.hid hnx.symm; clear hnx
    go_wp2_with fail
    refine (words_any (S n) _ (by rw [S_size]; omega)).mono ?_
    rintro e w2 ⟨g2, ys, rfl, hg2, hb2, hbel2, hok2, hv2, hl2⟩
    rw [toL_S, bval_bstr] at hv2 hl2
    have HY := Lib.hid (And.intro hok2 (And.intro hv2 hl2)); clear hok2 hv2 hl2
    generalize hny : ys.length = ny at *
    have HNY := Lib.hid hny.symm; clear hny
    have hb1' := hb1.belowB hbel2
    have hg1' := hb1.lt
    have HG := Lib.hid (And.intro hg1 hg2); clear hg1 hg2
    go_wp2_with fail
    refine (less_any xs ys g1 _ nx ny _ _ _ HNX.out HNY.out ?_ ?_ HX.out.1 HY.out.1 hb1' hb2.wAt ?_ ?_ ?_).mono ?_
    · have := HX.out.2.2; omega
    · have := HY.out.2.2; omega
    · rintro b off h; cases h; have := HG.out.2; omega
    · rw [HX.out.2.1, HY.out.2.1]; have := HLT.out; omega
    · rw [← HNX.out, ← HNY.out, HX.out.2.2, HY.out.2.2]; exact wlen_mono (by have := HLT.out; omega)
    rintro e w3 ⟨rfl, hgr, zs, hzl, hzok, hzb, hzv⟩
    have HZV := Lib.hid hzv; clear hzv
    have hz3 := hgr.size
    go_wp2_with fail
    refine (text_any zs _ nx _ _ ?_ ?_ hzok hzb.wAt).mono ?_
    · rw [hzl]; exact HNX.out
    · have := HX.out.2.2; omega
    rintro e w4 ⟨rfl, hbel4⟩
    go_wp2_with fail
    go_ret2
    refine ⟨ret_si ?_ (by rw [subE, if_neg HLT.out]), ?_⟩
    · rw [subS, if_neg HLT.out, HZV.out, HX.out.2.1, HY.out.2.1]
    · have h1 := below_next hbel1 hbel2
      have h2 : Below w.heap.size w w3 := h1.grown hgr h1.size (fun k hk => by cases hk; exact HG.out.1)
      exact below_next h2 hbel4

theorem wval_add_step {xs ys os : List Nat} {j c x : Nat} (hv : wval (os.take j) + 4294967296 ^ j * c = wval (xs.take j) + wval (ys.take j)) (hx : xs[j]? = some x) (hj : j < os.length) :
    wval ((os.set j ((c + x + wd ys j) % 4294967296)).take (j+1)) + 4294967296 ^ (j+1) * ((c + x + wd ys j) / 4294967296) = wval (xs.take (j+1)) + wval (ys.take (j+1)) := by
  have e1 : (os.set j ((c + x + wd ys j) % 4294967296))[j]? = some ((c + x + wd ys j) % 4294967296) := by rw [List.getElem?_set_self hj]
  rw [wval_take_succ e1, wd_take ys j, wval_take_succ hx, List.take_set_of_le (Nat.le_refl _), Nat.pow_succ]
  have h := Nat.mod_add_div (c + x + wd ys j) 4294967296
  generalize (c + x + wd ys j) / 4294967296 = q at *
  generalize (c + x + wd ys j) % 4294967296 = r at *
  have h2 : 4294967296 ^ j * r + 4294967296 ^ j * 4294967296 * q = 4294967296 ^ j * (c + x + wd ys j) := by rw [← h, Nat.mul_add, Nat.mul_assoc]
  rw [Nat.mul_add, Nat.mul_add] at h2
  omega
theorem sum_lt7 {m n : Nat} (hm : (bstr m).length < 8) (hn : (bstr n).length < 8) : m < 256 ^ 7 ∧ n < 256 ^ 7 := ⟨bstr_length_le.1 (by omega), bstr_length_le.1 (by omega)⟩

theorem add_S (m n : Nat) (w : World) (hm : (bstr m).length ≤ 35184372088832) (hn : (bstr n).length ≤ 35184372088832) :
    Calls Tryd.prog 53 #[.string (S m), .string (S n)] w fun e w' => e = .returned (.string (S (m + n))) ∧ Below w.heap.size w w' := by
  have hsm := S_size m
  have hsn := S_size n
  by_cases hshort : (bstr m).length < 8 ∧ (bstr n).length < 8
  · obtain ⟨h1, h2⟩ := hshort
    obtain ⟨l1, l2⟩ := sum_lt7 h1 h2
    have hs1 : (S m).size < 8 := by rw [S_size]; exact h1
    have hs2 : (S n).size < 8 := by rw [S_size]; exact h2
    have HS := Lib.hid (And.intro hsm hsn); clear hsm hsn
    have i1 : (m : Int) + n ≤ 18446744073709551615 := by omega
    have ec : ((m + n : Nat) : Int) = (m : Int) + n := by omega
    have HL := Lib.hid (show m + n < 256 ^ 8 by omega)
    have HEC := Lib.hid ec; clear ec l1 l2
    go_enter Tryd.func53, Tryd.ntmps53
    go_wp2_with fail
    refine (trim_S m _ (by unfold maxLen; omega)).mono ?_
    rintro e w' ⟨rfl, rfl⟩
    go_wp2_with fail
    refine (trim_S n _ (by unfold maxLen; omega)).mono ?_
    rintro e w' ⟨rfl, rfl⟩
    go_wp2_with fail
    refine (short_S m _ (by omega)).mono ?_
    rintro e w' ⟨rfl, rfl⟩
    go_wp2_with fail
    refine (short_S n _ (by omega)).mono ?_
    rintro e w' ⟨rfl, rfl⟩
    go_wp2_with fail
    rw [← HEC.out]
    refine (fromShort_any (m + n) _ HL.out).mono ?_
    rintro e w' ⟨rfl, hbel⟩
    go_wp2_with fail
    go_ret
    exact ⟨rfl, hbel⟩
  · have HS := Lib.hid (And.intro hsm hsn)
    have hnot : ¬ ((S m).size < 8 ∧ (S n).size < 8) := by rw [S_size, S_size]; exact hshort
    clear hshort
    rw [← hsm] at hm
    rw [← hsn] at hn
    clear hsm hsn
    go_enter Tryd.func53, Tryd.ntmps53
    go_wp2_with fail
    refine (trim_S m _ (by rw [← HS.out.1]; unfold maxLen; omega)).mono ?_
    rintro e w' ⟨rfl, rfl⟩
    go_wp2_with fail
    refine (trim_S n _ (by rw [← HS.out.2]; unfold maxLen; omega)).mono ?_
    rintro e w' ⟨rfl, rfl⟩
    go_wp2_with fail
    all_goals
      refine (words_any (S m) _ (by omega)).mono ?_
      rintro e w1 ⟨g1, xs, rfl, hg1, hb1, hbel1, hok1, hv1, hl1⟩
      rw [toL_S, bval_bstr, HS.out.1.symm] at hl1
      rw [toL_S, bval_bstr] at hv1
      have hnx1 : xs.length ≤ 8796093022209 := by omega
      have HX := Lib.hid (And.intro hok1 (And.intro hv1 hl1)); clear hok1 hv1 hl1
      go_wp2_with fail
      refine (words_any (S n) _ (by omega)).mono ?_
      rintro e w2 ⟨g2, ys, rfl, hg2, hb2, hbel2, hok2, hv2, hl2⟩
      rw [toL_S, bval_bstr, HS.out.2.symm] at hl2
      rw [toL_S, bval_bstr] at hv2
      have hny1 : ys.length ≤ 8796093022209 := by omega
      have HY := Lib.hid (And.intro hok2 (And.intro hv2 hl2)); clear hok2 hv2 hl2
      have hb1' := hb1.belowB hbel2
      have hbw := below_next hbel1 hbel2
      clear hb1 hbel1 hbel2 hm hn hnot
      go_upto_if 37 with (fail)
      go_cut [5, 6] (fun s5 s6 wc => w2 = wc ∧ ∃ ga gb ps qs, s5 = .slice (some ⟨ga, 0, none⟩) (List.length ps) ps.length ∧ s6 = .slice (some ⟨gb, 0, none⟩) (List.length qs) qs.length ∧ Hid (Blk w2 ga 92 (wcells ps)) ∧ Hid (Blk w2 gb 92 (wcells qs)) ∧ Hid (Wok ps ∧ Wok qs ∧ wval ps + wval qs = m + n) ∧ qs.length ≤ ps.length ∧ ps.length ≤ 8796093022209)
      case first =>
        by_cases hsw : xs.length < ys.length
        · go_wp2_with fail
          go_meet
          exact ⟨rfl, g2, g1, ys, xs, rfl, rfl, hb2, hb1', ⟨HY.out.1, HX.out.1, by rw [HY.out.2.1, HX.out.2.1, Nat.add_comm]⟩, by omega, by omega⟩
        · go_wp2_with fail
          go_meet
          exact ⟨rfl, g1, g2, xs, ys, rfl, rfl, hb1', hb2, ⟨HX.out.1, HY.out.1, by rw [HY.out.2.1, HX.out.2.1]⟩, by omega, by omega⟩
      case rest =>
        clear HX HY hb1' hb2 hg1 hg2 hnx1 hny1
        obtain ⟨rfl, ga, gb, ps, qs, rfl, rfl, hba, hbb, hab, hlen, hlim⟩ := hcut
        generalize hna : ps.length = na at *
        have HNA := Lib.hid hna.symm; clear hna
        generalize hnb : qs.length = nb at *
        have HNB := Lib.hid hnb.symm; clear hnb
        have HBW := Lib.hid hbw; clear hbw
        have hmk := make_words (na + 1) (by omega)
        have ec : ((na + 1 : Nat) : Int) = (na : Int) + 1 := by omega
        rw [ec] at hmk
        go_wp2_with fail
        clear hmk
        have HB0 : Hid (Below w2.heap.size w2 (w2.alloc (.cells (wcells (List.replicate (na + 1) 0)) 92))) := (Below.refl _ _).alloc (Nat.le_refl _) _
        go_loopg [8, 46] na (fun k co i wr => ∃ (j c : Nat) (os : List Nat), k = na - j ∧ j ≤ na ∧ c ≤ 1 ∧ i = .int .i64 j ∧ co = .int .u64 c ∧ Hid (Below w2.heap.size w2 wr) ∧ Hid (Blk wr w2.heap.size 92 (wcells os)) ∧ os.length = na + 1 ∧ Hid (Wok os ∧ wval (os.take j) + 4294967296 ^ j * c = wval (ps.take j) + wval (qs.take j)))
        case atStart => exact ⟨0, 0, _, rfl, Nat.zero_le _, Nat.zero_le _, rfl, rfl, HB0.out, Blk.new _ _ _, by simp, Wok.zeros _, rfl⟩
        case round =>
          obtain ⟨j, c, os, hgk, hj, hc1, rfl, rfl, hbel, hblk, hol, hos⟩ := hrel
          have HGK := Lib.hid hgk; clear hgk
          by_cases hlt : j < na
          · obtain ⟨x, hx⟩ := get_of_lt HNA.out hlt
            obtain ⟨o, ho⟩ := get_of_lt hol.symm (show j < na + 1 by omega)
            have e1 := ((hba.out.belowB hbel.out).cell j).trans (wcells_get hx)
            have e2 := (hblk.out.cell j).trans (wcells_get ho)
            have e3 := hblk.out.frozen j
            have hxlt := hab.out.1.get hx
            have hylt := wd_lt hab.out.2.1 j
            have HX := Lib.hid hx; clear hx ho
            have HOL := Lib.hid hol; clear hol
            by_cases hjb : j < nb
            · obtain ⟨y, hy⟩ := get_of_lt HNB.out hjb
              have e4 := ((hbb.out.belowB hbel.out).cell j).trans (wcells_get hy)
              have hwd : wd qs j = y := by simp [wd, hy]
              rw [hwd] at hylt
              have HWD := Lib.hid hwd; clear hwd hy
              go_wp2_with fail
              have q1 : ((c : Int) + x + y) / 4294967296 = (((c + x + wd qs j) / 4294967296 : Nat) : Int) := by rw [HWD.out]; omega
              have q2 : ((c : Int) + x + y) % 4294967296 = (((c + x + wd qs j) % 4294967296 : Nat) : Int) := by rw [HWD.out]; omega
              rw [q1, q2]
              go_roundg (na - (j + 1))
              case measure => rw [HGK.out]; omega
              case rel =>
                refine ⟨j + 1, _, os.set j ((c + x + wd qs j) % 4294967296), rfl, by omega, by rw [HWD.out]; omega, by go_num, rfl, hbel.out.setCell (Nat.le_refl _) _, by rw [← wcells_set]; exact hblk.out.set_ _ _, by rw [List.length_set]; exact HOL.out, hos.out.1.set _ (by omega), ?_⟩
                exact wval_add_step hos.out.2 HX.out (by rw [HOL.out]; omega)
            · have hwd : wd qs j = 0 := by
                unfold wd; rw [List.getElem?_eq_none (by rw [← HNB.out]; omega)]; rfl
              have HWD := Lib.hid hwd; clear hwd
              go_wp2_with fail
              have q1 : ((c : Int) + x) / 4294967296 = (((c + x + wd qs j) / 4294967296 : Nat) : Int) := by rw [HWD.out]; omega
              have q2 : ((c : Int) + x) % 4294967296 = (((c + x + wd qs j) % 4294967296 : Nat) : Int) := by rw [HWD.out]; omega
              rw [q1, q2]
              go_roundg (na - (j + 1))
              case measure => rw [HGK.out]; omega
              case rel =>
                refine ⟨j + 1, _, os.set j ((c + x + wd qs j) % 4294967296), rfl, by omega, by rw [HWD.out]; omega, by go_num, rfl, hbel.out.setCell (Nat.le_refl _) _, by rw [← wcells_set]; exact hblk.out.set_ _ _, by rw [List.length_set]; exact HOL.out, hos.out.1.set _ (by omega), ?_⟩
                exact wval_add_step hos.out.2 HX.out (by rw [HOL.out]; omega)
          · obtain rfl : j = na := by omega
            obtain ⟨o, ho⟩ := get_of_lt hol.symm (show j < j + 1 by omega)
            have e2 := (hblk.out.cell j).trans (wcells_get ho)
            have e3 := hblk.out.frozen j
            have e5 : (c : Int) % 4294967296 = (c : Int) := by omega
            have HO := Lib.hid ho; clear ho
            have HOL := Lib.hid hol; clear hol
            have hfin : wval (os.set j c) = m + n := by
              have h1 := hos.out.2
              have e1 : (os.set j c)[j]? = some c := by rw [List.getElem?_set_self (by rw [HOL.out]; omega)]
              have h2 := wval_take_succ e1
              rw [List.take_of_length_le (by rw [List.length_set, HOL.out]; exact Nat.le_refl _), List.take_set_of_le (Nat.le_refl _), h1] at h2
              rw [h2, HNA.out, List.take_length, List.take_of_length_le (by rw [← HNA.out, ← HNB.out]; exact hlen)]
              exact hab.out.2.2
            have HFIN := Lib.hid hfin; clear hfin
            have hblk2 := hblk.out.set_ j (.int .u32 (c : Int))
            rw [wcells_set] at hblk2
            have HB2 := Lib.hid hblk2; clear hblk2
            have hbel2 := hbel.out.setCell (p := ⟨w2.heap.size, j, none⟩) (Nat.le_refl _) (.int .u32 (c : Int))
            have HBE2 := Lib.hid hbel2; clear hbel2
            go_wp2_with fail
            refine (text_any (os.set j c) _ _ _ _ ?_ (by omega) (hos.out.1.set _ (by omega)) HB2.out.wAt).mono ?_
            · rw [List.length_set, HOL.out]
            rw [HFIN.out]
            rintro e w4 ⟨rfl, hbel4⟩
            go_wp2_with fail
            go_ret
            exact ⟨rfl, below_next (below_next HBW.out HBE2.out) hbel4⟩
end Go.Proofs.YtekbpiooecdopaaDoor

/- Walks of package nat: Mul. -/
namespace Go.Proofs.YtekbpiooecdopaaDoor
open Go.RowKit
set_option linter.unusedVariables false
set_option linter.unusedSimpArgs false

theorem mul_len {m n : Nat} (h : (bstr m).length + (bstr n).length ≤ 8) : m * n < 256 ^ 8 ∧ m < 256 ^ 8 ∧ n < 256 ^ 8 := by
  have h1 : m < 256 ^ (bstr m).length := bstr_length_le.1 (Nat.le_refl _)
  have h2 : n < 256 ^ (bstr n).length := bstr_length_le.1 (Nat.le_refl _)
  have h3 : 256 ^ (bstr m).length * 256 ^ (bstr n).length ≤ 256 ^ 8 := by rw [← Nat.pow_add]; exact Nat.pow_le_pow_right (by omega) h
  have h4 : m * n < 256 ^ (bstr m).length * 256 ^ (bstr n).length := Nat.mul_lt_mul'' h1 h2
  exact ⟨by omega, bstr_length_le.1 (by omega), bstr_length_le.1 (by omega)⟩
/-- one digit of a product: the carry, the two digits' product, the old digit -/
theorem mul_bd {x y c o : Nat} (hx : x < 4294967296) (hy : y < 4294967296) (hc : c < 4294967296) (ho : o < 4294967296) : x * y ≤ 18446744065119617025 ∧ (c + (x * y + o)) / 4294967296 < 4294967296 := by
  have : x * y ≤ 4294967295 * 4294967295 := Nat.mul_le_mul (by omega) (by omega)
  omega
theorem mul_step {os ys : List Nat} {V p j c x y o : Nat} (hv : wval os + 4294967296 ^ (p + j) * c = V + 4294967296 ^ p * (x * wval (ys.take j))) (hy : ys[j]? = some y) (ho : os[p + j]? = some o) :
    wval (os.set (p + j) ((c + (x * y + o)) % 4294967296)) + 4294967296 ^ (p + (j + 1)) * ((c + (x * y + o)) / 4294967296) = V + 4294967296 ^ p * (x * wval (ys.take (j + 1))) := by
  have h1 := wval_put ho ((c + (x * y + o)) % 4294967296)
  have h := Nat.mod_add_div (c + (x * y + o)) 4294967296
  rw [wval_take_succ hy]
  generalize (c + (x * y + o)) / 4294967296 = q at *
  generalize (c + (x * y + o)) % 4294967296 = r at *
  rw [← Nat.add_assoc, Nat.pow_succ]
  have h2 : 4294967296 ^ (p + j) * r + 4294967296 ^ (p + j) * 4294967296 * q = 4294967296 ^ (p + j) * (c + (x * y + o)) := by rw [← h, Nat.mul_add, Nat.mul_assoc]
  have h3 : 4294967296 ^ p * (x * (wval (ys.take j) + 4294967296 ^ j * y)) = 4294967296 ^ p * (x * wval (ys.take j)) + 4294967296 ^ (p + j) * (x * y) := by
    rw [Nat.pow_add]; grind
  rw [h3, ← Nat.add_assoc, ← hv]
  rw [Nat.mul_add, Nat.mul_add] at h2
  omega

theorem trim_to (s : ByteArray) (m : Nat) (w : World) (hv : bval (toL s) = m) (hs : s.size ≤ maxLen) :
    Calls Tryd.prog 31 #[.string s] w fun e w' => e = .returned (.string (S m)) ∧ w = w' := hv ▸ trim_val s w hs
/-- whatever zeros stand ahead of the two numbers -/
theorem mul_any (s t : ByteArray) (m n : Nat) (w : World) (hv : bval (toL s) = m ∧ bval (toL t) = n ∧ s.size ≤ maxLen ∧ t.size ≤ maxLen) (hm : (bstr m).length ≤ 35184372088832) (hn : (bstr n).length ≤ 35184372088832) :
    Calls Tryd.prog 21 #[.string s, .string t] w fun e w' => e = .returned (.string (S (m * n))) ∧ Below w.heap.size w w' := by
  have HV := Lib.hid hv; clear hv
  have hsm := S_size m
  have hsn := S_size n
  by_cases hshort : (bstr m).length + (bstr n).length ≤ 8
  · obtain ⟨h1, h2, h3⟩ := mul_len hshort
    have hs1 : (S m).size + (S n).size ≤ 8 := by rw [S_size, S_size]; exact hshort
    have HS := Lib.hid (And.intro hsm hsn); clear hsm hsn
    have i1 : (m : Int) * n ≤ 18446744073709551615 := by
      have : ((m * n : Nat) : Int) ≤ 18446744073709551615 := by omega
      rwa [Int.natCast_mul] at this
    have i0 : 0 ≤ (m : Int) * n := by have : (0 : Int) ≤ ((m * n : Nat) : Int) := by omega
                                      rwa [Int.natCast_mul] at this
    have ec : ((m * n : Nat) : Int) = (m : Int) * n := Int.natCast_mul _ _
    have HL := Lib.hid h1
    have HEC := Lib.hid ec; clear ec h1 h2 h3
    go_enter Tryd.func21, Tryd.ntmps21
    go_wp2_with fail
    refine (trim_to s m _ HV.out.1 HV.out.2.2.1).mono ?_
    rintro e w' ⟨rfl, rfl⟩
    go_wp2_with fail
    refine (trim_to t n _ HV.out.2.1 HV.out.2.2.2).mono ?_
    rintro e w' ⟨rfl, rfl⟩
    go_wp2_with fail
    refine (short_S m _ (by omega)).mono ?_
    rintro e w' ⟨rfl, rfl⟩
    go_wp2_with fail
    refine (short_S n _ (by omega)).mono ?_
    rintro e w' ⟨rfl, rfl⟩
    go_wp2_with fail
    rw [← HEC.out]
    refine (fromShort_any (m * n) _ HL.out).mono ?_
    rintro e w' ⟨rfl, hbel⟩
    go_wp2_with fail
    go_ret
    exact ⟨rfl, hbel⟩
  · have HS := Lib.hid (And.intro hsm hsn)
    have hnot : ¬ ((S m).size + (S n).size ≤ 8) := by rw [S_size, S_size]; exact hshort
    clear hshort
    rw [← hsm] at hm
    rw [← hsn] at hn
    clear hsm hsn
    go_enter Tryd.func21, Tryd.ntmps21
    go_wp2_with fail
    refine (trim_to s m _ HV.out.1 HV.out.2.2.1).mono ?_
    rintro e w' ⟨rfl, rfl⟩
    go_wp2_with fail
    refine (trim_to t n _ HV.out.2.1 HV.out.2.2.2).mono ?_
    rintro e w' ⟨rfl, rfl⟩
    go_wp2_with fail
    refine (words_any (S m) _ (by omega)).mono ?_
    rintro e w1 ⟨g1, xs, rfl, hg1, hb1, hbel1, hok1, hv1, hl1⟩
    rw [toL_S, bval_bstr, HS.out.1.symm] at hl1
    rw [toL_S, bval_bstr] at hv1
    have hnx1 : xs.length ≤ 8796093022209 := by omega
    have HX := Lib.hid (And.intro hok1 hv1); clear hok1 hv1 hl1
    go_wp2_with fail
    refine (words_any (S n) _ (by omega)).mono ?_
    rintro e w2 ⟨g2, ys, rfl, hg2, hb2, hbel2, hok2, hv2, hl2⟩
    rw [toL_S, bval_bstr, HS.out.2.symm] at hl2
    rw [toL_S, bval_bstr] at hv2
    have hny1 : ys.length ≤ 8796093022209 := by omega
    have HY := Lib.hid (And.intro hok2 hv2); clear hok2 hv2 hl2
    have HB1 := Lib.hid (hb1.belowB hbel2)
    have HBW := Lib.hid (below_next hbel1 hbel2)
    have HB2 := Lib.hid hb2
    clear hb1 hb2 hbel1 hbel2 hm hn hnot hg1 hg2
    generalize hna : xs.length = na at *
    have HNA := Lib.hid hna.symm; clear hna
    generalize hnb : ys.length = nb at *
    have HNB := Lib.hid hnb.symm; clear hnb
    have hmk := make_words (na + nb) (by omega)
    have ec : ((na + nb : Nat) : Int) = (na : Int) + nb := by omega
    rw [ec] at hmk
    go_wp2_with fail
    clear hmk
    have HB0 : Hid (Below w2.heap.size w2 (w2.alloc (.cells (wcells (List.replicate (na + nb) 0)) 92))) := (Below.refl _ _).alloc (Nat.le_refl _) _
    go_loopg [41] na (fun k i wr => ∃ (p : Nat) (os : List Nat), k = na - p ∧ p ≤ na ∧ i = .int .i64 p ∧ Hid (Below w2.heap.size w2 wr) ∧ Hid (Blk wr w2.heap.size 92 (wcells os)) ∧ os.length = na + nb ∧ Hid (Wok os ∧ wval os = wval (xs.take p) * wval ys ∧ ∀ q, p + nb ≤ q → q < na + nb → os[q]? = some 0))
    case atStart => exact ⟨0, _, rfl, Nat.zero_le _, rfl, HB0.out, Blk.new _ _ _, by simp, Wok.zeros _, by rw [wval_zeros]; simp [wval], fun q h1 h2 => by rw [List.getElem?_replicate, if_pos h2]⟩
    case round =>
      obtain ⟨p, os, hgk, hp, rfl, hbel, hblk, hol, hos⟩ := hrel
      have HGK := Lib.hid hgk; clear hgk
      by_cases hlt : p < na
      · obtain ⟨x, hx⟩ := get_of_lt HNA.out hlt
        have e1 := ((HB1.out.belowB hbel.out).cell p).trans (wcells_get hx)
        have hxlt := HX.out.1.get hx
        have HXX := Lib.hid hx; clear hx
        have HOL := Lib.hid hol; clear hol
        obtain ⟨wo, rfl⟩ : ∃ wo : World, wo = wr := ⟨_, rfl⟩
        go_wp2_with fail
        clear e1
        go_loopg [10, 48] nb (fun k co i wr => ∃ (j c : Nat) (os : List Nat), k = nb - j ∧ j ≤ nb ∧ c < 4294967296 ∧ i = .int .i64 j ∧ co = .int .u64 c ∧ Hid (Below w2.heap.size w2 wr) ∧ Hid (Blk wr w2.heap.size 92 (wcells os)) ∧ os.length = na + nb ∧ Hid (Wok os ∧ wval os + 4294967296 ^ (p + j) * c = wval (xs.take p) * wval ys + 4294967296 ^ p * (x * wval (ys.take j)) ∧ ∀ q, p + nb ≤ q → q < na + nb → os[q]? = some 0))
        case atStart => exact ⟨0, 0, os, rfl, Nat.zero_le _, by omega, rfl, rfl, hbel.out, hblk.out, HOL.out, hos.out.1, by rw [hos.out.2.1]; simp [wval], hos.out.2.2⟩
        case round =>
          obtain ⟨j, c, os', hgk2, hj, hc, rfl, rfl, hbel', hblk', hol', hos'⟩ := hrel
          have HGK2 := Lib.hid hgk2; clear hgk2
          by_cases hjl : j < nb
          · obtain ⟨y, hy⟩ := get_of_lt HNB.out hjl
            obtain ⟨o, ho⟩ := get_of_lt hol'.symm (show p + j < na + nb by omega)
            have e1 := ((HB2.out.belowB hbel'.out).cell j).trans (wcells_get hy)
            have e2 := (hblk'.out.cell (p + j)).trans (wcells_get ho)
            have e3 := hblk'.out.frozen (p + j)
            have hylt := HY.out.1.get hy
            have holt := hos'.out.1.get ho
            have hbd := mul_bd hxlt hylt hc holt
            have i1 : (x : Int) * y ≤ 18446744065119617025 := by
              have : ((x * y : Nat) : Int) ≤ 18446744065119617025 := by omega
              rwa [Int.natCast_mul] at this
            have i0 : 0 ≤ (x : Int) * y := by
              have : (0 : Int) ≤ ((x * y : Nat) : Int) := by omega
              rwa [Int.natCast_mul] at this
            have HBD := Lib.hid hbd; clear hbd
            have HYO := Lib.hid (And.intro hy ho); clear hy ho
            have HOL' := Lib.hid hol'; clear hol'
            go_wp2_with fail
            have es : (c : Int) + ((x : Int) * y + o) = ((c + (x * y + o) : Nat) : Int) := by rw [Int.natCast_add, Int.natCast_add, Int.natCast_mul]
            have q1 : ((c : Int) + ((x : Int) * y + o)) / 4294967296 = (((c + (x * y + o)) / 4294967296 : Nat) : Int) := by rw [es]; omega
            have q2 : ((c : Int) + ((x : Int) * y + o)) % 4294967296 = (((c + (x * y + o)) % 4294967296 : Nat) : Int) := by rw [es]; omega
            rw [q1, q2]
            go_roundg (nb - (j + 1))
            case measure => rw [HGK2.out]; omega
            case rel =>
              refine ⟨j + 1, _, os'.set (p + j) ((c + (x * y + o)) % 4294967296), rfl, by omega, HBD.out.2, by go_num, rfl, hbel'.out.setCell (Nat.le_refl _) _, by rw [← wcells_set]; exact hblk'.out.set_ _ _, by rw [List.length_set]; exact HOL'.out, hos'.out.1.set _ (by omega), ?_, ?_⟩
              · exact mul_step hos'.out.2.1 HYO.out.1 HYO.out.2
              · intro q h1 h2
                rw [List.getElem?_set_ne (by omega)]
                exact hos'.out.2.2 q h1 h2
          · obtain rfl : j = nb := by omega
            have ho := hos'.out.2.2 (p + j) (Nat.le_refl _) (by omega)
            have e2 := (hblk'.out.cell (p + j)).trans (wcells_get ho)
            have e3 := hblk'.out.frozen (p + j)
            have e5 : (c : Int) % 4294967296 = (c : Int) := by omega
            have HO := Lib.hid ho; clear ho
            have HOL' := Lib.hid hol'; clear hol'
            go_wp2_with fail
            go_roundg (na - (p + 1))
            case measure => rw [HGK.out]; omega
            case rel =>
              refine ⟨p + 1, os'.set (p + j) c, rfl, by omega, by go_num, hbel'.out.setCell (Nat.le_refl _) _, by rw [← wcells_set]; exact hblk'.out.set_ _ _, by rw [List.length_set]; exact HOL'.out, hos'.out.1.set _ hc, ?_, ?_⟩
              · have h1 := wval_put HO.out c
                rw [Nat.mul_zero, Nat.add_zero, hos'.out.2.1] at h1
                rw [h1, wval_take_succ HXX.out, HNB.out, List.take_length, Nat.add_mul]
                grind
              · intro q h1 h2
                rw [List.getElem?_set_ne (by omega)]
                exact hos'.out.2.2 q (by omega) h2
      · obtain rfl : p = na := by omega
        have hfin : wval os = m * n := by
          rw [hos.out.2.1, HNA.out, List.take_length, HX.out.2, HY.out.2]
        have HFIN := Lib.hid hfin; clear hfin
        have HOL := Lib.hid hol; clear hol
        go_wp2_with fail
        refine (text_any os _ _ _ _ HOL.out.symm (by omega) hos.out.1 hblk.out.wAt).mono ?_
        rw [HFIN.out]
        rintro e w4 ⟨rfl, hbel4⟩
        go_wp2_with fail
        go_ret
        exact ⟨rfl, below_next (below_next HBW.out hbel.out) hbel4⟩
theorem mul_S (m n : Nat) (w : World) (hm : (bstr m).length ≤ 35184372088832) (hn : (bstr n).length ≤ 35184372088832) :
    Calls Tryd.prog 21 #[.string (S m), .string (S n)] w fun e w' => e = .returned (.string (S (m * n))) ∧ Below w.heap.size w w' :=
  mul_any (S m) (S n) m n w ⟨by rw [toL_S, bval_bstr], by rw [toL_S, bval_bstr], by rw [S_size]; unfold maxLen; omega, by rw [S_size]; unfold maxLen; omega⟩ hm hn
end Go.Proofs.YtekbpiooecdopaaDoor

/- Decimal texts of numbers; the walk of Text. -/
namespace Go.Proofs.YtekbpiooecdopaaDoor
open Go.RowKit
set_option linter.unusedVariables false
set_option linter.unusedSimpArgs false

/-! ### decimal digits, the lowest first -/
def digAux : Nat → Nat → List UInt8
  | 0, _ => []
  | f + 1, n => if n = 0 then [] else UInt8.ofNat (48 + n % 10) :: digAux f (n / 10)
def dig (n : Nat) : List UInt8 := digAux n n
/-- the text of a number -/
def txt (n : Nat) : List UInt8 := if n = 0 then [48] else (dig n).reverse
def T (n : Nat) : ByteArray := ⟨(txt n).toArray⟩

/-! ### a row of bytes -/


end Go.Proofs.YtekbpiooecdopaaDoor

/- Walks of package nat: Text. -/
namespace Go.Proofs.YtekbpiooecdopaaDoor
open Go.RowKit
set_option linter.unusedVariables false
set_option linter.unusedSimpArgs false


end Go.Proofs.YtekbpiooecdopaaDoor

/- Walks for the laws: strings.TrimLeft at one byte, bare, natBegun. -/
namespace Go.Proofs.YtekbpiooecdopaaDoor
open Go.RowKit
set_option linter.unusedVariables false
set_option linter.unusedSimpArgs false






theorem len_mul (m n : Nat) : (bstr (m * n)).length ≤ (bstr m).length + (bstr n).length := by
  rw [bstr_length_le, Nat.pow_add]
  rcases Nat.eq_zero_or_pos n with h | h
  · subst h; rw [Nat.mul_zero]; exact Nat.mul_pos (Nat.pow_pos (by omega)) (Nat.pow_pos (by omega))
  · exact Nat.mul_lt_mul'' (bstr_length_le.1 (Nat.le_refl _)) (bstr_length_le.1 (Nat.le_refl _))
theorem len_add (m n : Nat) : (bstr (m + n)).length ≤ (bstr m).length + (bstr n).length + 1 := by
  rw [bstr_length_le, Nat.pow_succ, Nat.pow_add]
  have h1 : m < 256 ^ (bstr m).length := bstr_length_le.1 (Nat.le_refl _)
  have h2 : n < 256 ^ (bstr n).length := bstr_length_le.1 (Nat.le_refl _)
  have h3 : 256 ^ (bstr m).length * 1 ≤ 256 ^ (bstr m).length * 256 ^ (bstr n).length := Nat.mul_le_mul_left _ (Nat.pow_pos (by omega))
  have h4 : 1 * 256 ^ (bstr n).length ≤ 256 ^ (bstr m).length * 256 ^ (bstr n).length := Nat.mul_le_mul_right _ (Nat.pow_pos (by omega))
  omega
end Go.Proofs.YtekbpiooecdopaaDoor

/- The walk of NatLaws (its middle printed by a program of mine). -/
namespace Go.Proofs.YtekbpiooecdopaaDoor
open Go.RowKit
set_option linter.unusedVariables false
set_option linter.unusedSimpArgs false

/-- the string of n has at most k bytes -/
def Sz (k n : Nat) : Prop := (bstr n).length ≤ k
theorem Sz.add {k l m n : Nat} (h : Sz k m) (h' : Sz l n) : Sz (k + l + 1) (m + n) := by
  have := len_add m n; unfold Sz at *; omega
theorem Sz.mul {k l m n : Nat} (h : Sz k m) (h' : Sz l n) : Sz (k + l) (m * n) := by
  have := len_mul m n; unfold Sz at *; omega
section
variable {k l m n x : Nat} {W w : World}
end


end Go.Proofs.YtekbpiooecdopaaDoor
