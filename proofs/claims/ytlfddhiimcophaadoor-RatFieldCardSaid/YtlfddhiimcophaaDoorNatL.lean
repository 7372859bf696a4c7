/- Bytes of strings, and the walk's arithmetic on them; no program in sight. -/
import Derived.Test.YtlfddhiimcophaaDoorNatP
import Derived.WalkKit
import Derived.Laws.BitsAllLaws
namespace Go.Proofs.YtlfddhiimcophaaDoor
open Go.RowKit
set_option linter.unusedVariables false
set_option linter.unusedSimpArgs false

abbrev toL (s : ByteArray) : List UInt8 := s.data.toList
theorem toL_length (s : ByteArray) : (toL s).length = s.size := rfl
theorem toL_get (s : ByteArray) (k : Nat) (h : k < s.size) : (toL s)[k]? = some s[k] := by
  rw [List.getElem?_eq_getElem (by simpa using h)]; rfl
theorem take_snoc (s : ByteArray) (k : Nat) (h : k < s.size) : (toL s).take (k + 1) = (toL s).take k ++ [s[k]] := by
  rw [List.take_succ_eq_append_getElem (by simpa using h)]; rfl
theorem toL_extract (t : ByteArray) (k : Nat) : toL (t.extract k t.size) = (toL t).drop k := by
  simp only [toL, ByteArray.data_extract, Array.toList_extract, List.extract_eq_take_drop]
  rw [List.take_of_length_le]
  rw [List.length_drop]; exact Nat.le_refl _
theorem extract_size (t : ByteArray) (k : Nat) : (t.extract k t.size).size = t.size - k := by
  have h := congrArg List.length (toL_extract t k)
  rw [List.length_drop] at h; exact h
theorem ba_eq {a : ByteArray} {l : List UInt8} (h : toL a = l) : a = ⟨l.toArray⟩ := by subst h; rfl
theorem u64_wrap_nat {n : Nat} (h : n < 18446744073709551616) : IntKind.u64.wrap (n : Int) = n := by rw [IntKind.wrap_u64]; omega
theorem or256 {V c : Nat} (hc : c < 256) (hV : V * 256 + 255 < 18446744073709551616) : bits .or .u64 (IntKind.u64.wrap ((V : Int) * 256)) (IntKind.u64.wrap (c : Int)) = ((V * 256 + c : Nat) : Int) := by
  have e1 : IntKind.u64.wrap ((V : Int) * 256) = ((V * 256 : Nat) : Int) := by rw [IntKind.wrap_u64]; omega
  have e2 : IntKind.u64.wrap (c : Int) = (c : Int) := u64_wrap_nat (by omega)
  rw [e1, e2, u64_or_nat (V * 256) c (Nat.lt_of_le_of_lt (by omega) hV) (by omega), nat_join 8 (V * 256) c (by omega) (by omega)]
theorem short_step (s : ByteArray) (j : Nat) (h : j < s.size) (h8 : s.size ≤ 8) : bits .or .u64 (IntKind.u64.wrap (((bval ((toL s).take j) : Nat) : Int) * 256)) (IntKind.u64.wrap ((s[j].toNat : Nat) : Int)) = ((bval ((toL s).take (j+1)) : Nat) : Int) := by
  have h1 := bval_lt ((toL s).take j)
  have h2 : 256 ^ ((toL s).take j).length ≤ 256 ^ 7 := Nat.pow_le_pow_right (by omega) (by rw [List.length_take]; omega)
  have h3 := s[j].toNat_lt
  rw [or256 (by omega) (by omega), take_snoc s j h, bval_snoc]
theorem byte_zero (t : ByteArray) (h : 0 < t.size) : toL t = t[0] :: (toL t).drop 1 := by
  cases t with | mk d =>
  cases d with | mk l =>
  cases l with
  | nil => exact absurd h (by simp [ByteArray.size])
  | cons a l => rfl
theorem strip_step (t : ByteArray) (h : 0 < t.size) (h0 : ((t[0].toNat : Int) == 0) = true) : strip (toL (t.extract 1 t.size)) = strip (toL t) := by
  rw [toL_extract]
  conv => rhs; rw [byte_zero t h]
  have : t[0] = 0 := UInt8.toNat_inj.1 (by simp at h0; simpa using h0)
  rw [this]; rfl
theorem strip_stop (t : ByteArray) (h : 0 < t.size) (h0 : ((t[0].toNat : Int) == 0) = false) : strip (toL t) = toL t := by
  have : t[0] ≠ 0 := fun e => by rw [e] at h0; simp at h0
  unfold strip
  rw [byte_zero t h, List.dropWhile_cons_of_neg (by simpa using this)]
theorem strip_nil (t : ByteArray) (h : ¬ 0 < t.size) : strip (toL t) = toL t := by
  have : toL t = [] := List.eq_nil_of_length_eq_zero (by show t.size = 0; omega)
  rw [this]; rfl

theorem made_one (z : Value) (n : Nat) : madeCells #[z] n = Array.replicate n z := by
  apply Array.ext
  · simp [madeCells]
  · intro i h1 h2
    simp [madeCells, Nat.mod_one]
/-- make([]T, n), T of one cell -/
theorem run_make_one {P : Program} {t e : TypeId} {i : TypeInfo} {z : Value} (ht : P.underlying t = some (.slice e)) (hi : P.info? e = some i) (hz : i.zero = some z) (hz1 : i.size = 1) (hzc : z.cells = #[z])
    (n : Nat) (hb : i.bytes * n ≤ 281474976710656) (h63 : n ≤ 9223372036854775807) (w : World) :
    (Instr.makeSlice t (.int .i64 (n : Int)) (.int .i64 (n : Int))).run P w = .ok (.slice (some ⟨w.heap.size, 0, none⟩) n n) (w.alloc (.cells (Array.replicate n z) e)) := by
  have hb' : (i.bytes : Int) * (n : Int) ≤ 281474976710656 := by
    have h : ((i.bytes * n : Nat) : Int) ≤ 281474976710656 := Int.ofNat_le.2 hb
    rwa [Int.natCast_mul] at h
  have hr := run_make (P := P) w t e i z ht hi hz .i64 .i64 n n (by omega) (by omega) hb' (by omega)
  simp only [Int.toNat_natCast] at hr
  rw [hr, hz1, Nat.mul_one, hzc, made_one]
theorem or_word {x c r : Nat} (hr : r < 4) (hx : x < 256 ^ r) (hc : c < 256) : bits .or .u32 (x : Int) ((c : Int) % 4294967296 * 2 ^ (r * 8) % 4294967296) = ((x + c * 256 ^ r : Nat) : Int) := by
  have hp : 256 ^ r = 2 ^ (r * 8) := by rw [Nat.mul_comm, Nat.pow_mul]
  have hle : 256 ^ r ≤ 16777216 := Nat.pow_le_pow_right (n := 256) (by omega) (show r ≤ 3 by omega)
  have h1 : c * 256 ^ r < 4294967296 := by
    have := Nat.mul_le_mul (show c ≤ 255 by omega) hle
    omega
  have e : ((c : Int) % 4294967296 * 2 ^ (r * 8) % 4294967296) = ((c * 256 ^ r : Nat) : Int) := by
    have e1 : (c : Int) % 4294967296 = (c : Int) := by omega
    have e2 : (2 : Int) ^ (r * 8) = ((256 ^ r : Nat) : Int) := by rw [hp, Int.natCast_pow]; rfl
    rw [e1, e2, ← Int.natCast_mul]
    omega
  rw [e, u32_or_nat x (c * 256 ^ r) (by omega) h1, Nat.or_comm, hp]
  rw [nat_join (r * 8) (c * 2 ^ (r * 8)) x (Nat.mul_mod_left _ _) (by rw [← hp]; exact hx)]
  rw [Nat.add_comm]
end Go.Proofs.YtlfddhiimcophaaDoor
