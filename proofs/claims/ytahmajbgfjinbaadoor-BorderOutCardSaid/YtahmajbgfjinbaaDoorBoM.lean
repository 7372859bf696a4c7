/- Joined texts. -/
import Derived.Test.YtahmajbgfjinbaaDoorBoL
import Derived.Test.YtahmajbgfjinbaaDoorRoot

/- Bytes made, and powers of 2 as strings (for package border). -/
namespace Go.Proofs.YtahmajbgfjinbaaDoor
open Go.RowKit
set_option linter.unusedVariables false
set_option linter.unusedSimpArgs false

theorem mkB {o : Oper} {a : Act} {X Y : Operand} (n : Nat) (hn : n ≤ 70368744177664) (ho : o.op = .makeSlice 141 X Y) (hX : a.eval X = .int .i64 (n : Int)) (hY : a.eval Y = .int .i64 (n : Int)) (w : World) :
    (execOp a.eval o).run Tryd.prog w = .ok (.value (.slice (some ⟨w.heap.size, 0, none⟩) n n)) (w.alloc (.cells (Array.replicate n (.int .u8 0)) 5)) := by
  obtain ⟨i0, hi0, hz0, hz1, hz2⟩ := info_parts infoU8
  have hr := run_make_one (P := Tryd.prog) Tryd.underlying141 hi0 hz0 hz1 rfl n (by rw [hz2]; omega) (by omega) w
  unfold execOp
  simp only [ho, hX, hY, Sem.run_bind, hr, Result.andThen_ok, Sem.run_pure]
theorem pow_val (r q : Nat) (hr : r < 8) : bval (UInt8.ofNat (2 ^ r) :: Lib.repeatL [0] q) = pw (8 * q + r) := by
  have h1 := (rep_val q).1
  have h2 := (rep_val q).2
  rw [bval_cons] at h1
  have h3 : (1 : UInt8).toNat = 1 := rfl
  rw [h3] at h1
  have h0 : bval (Lib.repeatL [0] q) = 0 := by rw [h2] at h1; omega
  rw [bval_cons, h0, h2]
  have h4 : (UInt8.ofNat (2 ^ r)).toNat = 2 ^ r := by
    have : r = 0 ∨ r = 1 ∨ r = 2 ∨ r = 3 ∨ r = 4 ∨ r = 5 ∨ r = 6 ∨ r = 7 := by omega
    rcases this with rfl | rfl | rfl | rfl | rfl | rfl | rfl | rfl <;> rfl
  rw [h4, Nat.add_zero]
  unfold pw
  rw [Nat.pow_add, Nat.pow_mul, Nat.mul_comm]
theorem S_pw (r q : Nat) (hr : r < 8) : S (pw (8 * q + r)) = ⟨(UInt8.ofNat (2 ^ r) :: Lib.repeatL [0] q).toArray⟩ := by
  unfold S
  have h : bstr (bval (UInt8.ofNat (2 ^ r) :: Lib.repeatL [0] q)) = UInt8.ofNat (2 ^ r) :: Lib.repeatL [0] q := bstr_bval (by
    have : r = 0 ∨ r = 1 ∨ r = 2 ∨ r = 3 ∨ r = 4 ∨ r = 5 ∨ r = 6 ∨ r = 7 := by omega
    rcases this with rfl | rfl | rfl | rfl | rfl | rfl | rfl | rfl <;> simp [Bare])
  rw [pow_val r q hr] at h
  rw [h]
theorem RC_pw (n : Nat) : RC ((pw n : Nat) : Rat) = #[.bool false, .string (S (pw n)), .string (S 1)] := by
  unfold RC
  have h1 : (((pw n : Nat) : Rat)).num = (pw n : Int) := Rat.num_natCast _
  have h2 : (((pw n : Nat) : Rat)).den = 1 := Rat.den_natCast _
  rw [h1, h2, decide_eq_false (by omega), Int.natAbs_natCast]
/-- bytes of a known block, as a string -/
theorem cvB {W : World} {l : List Own} {o : Oper} {a : Act} {X : Operand} {g : Nat} (L : List UInt8) (ho : o.op = .convert 141 9 X) (n : Nat) (hn : n = L.length) (hX : a.eval X = .slice (some ⟨g, 0, none⟩) n n)
    (hm : (g, 5, (L.map fun b => Value.int .u8 (b.toNat : Int)).toArray) ∈ l) (w : World) (h : St W l w) :
    (execOp a.eval o).run Tryd.prog w = .ok (.value (.string ⟨L.toArray⟩)) w := by
  subst hn
  have hb := (h.blk _ hm).2
  have hcv := run_convert_bytes_back (P := Tryd.prog) w 141 9 5 ⟨g, 0, none⟩ L.length L Tryd.underlying141 Tryd.underlying5 Tryd.underlying9 (fun j hj => by
    rw [Addr.add_lit, Nat.zero_add, hb.cell]
    simp [hj])
  unfold execOp
  simp only [ho, hX, Sem.run_bind, hcv, Result.andThen_ok, Sem.run_pure]
theorem rep_map (q : Nat) : (Lib.repeatL [(0 : UInt8)] q).map (fun b => Value.int .u8 (b.toNat : Int)) = List.replicate q (Value.int .u8 0) := by
  induction q with
  | zero => rfl
  | succ q ih =>
    have e : Lib.repeatL [(0 : UInt8)] (q + 1) = 0 :: Lib.repeatL [0] q := rfl
    rw [e, List.map_cons, ih]; rfl
theorem put0 (q r : Nat) (hr : r < 8) (z : Int) (hz : z = ((2 ^ r : Nat) : Int)) : ((Array.replicate (q + 1) (Value.int .u8 0)).toList.take 0 ++ (Value.int .u8 z).cells.toList ++ (Array.replicate (q + 1) (Value.int .u8 0)).toList.drop (0 + (Value.int .u8 z).cells.size)).toArray = ((UInt8.ofNat (2 ^ r) :: Lib.repeatL [0] q).map fun b => Value.int .u8 (b.toNat : Int)).toArray := by
  have h4 : (UInt8.ofNat (2 ^ r)).toNat = 2 ^ r := by
    have : r = 0 ∨ r = 1 ∨ r = 2 ∨ r = 3 ∨ r = 4 ∨ r = 5 ∨ r = 6 ∨ r = 7 := by omega
    rcases this with rfl | rfl | rfl | rfl | rfl | rfl | rfl | rfl <;> rfl
  subst hz
  rw [List.map_cons, rep_map, h4]
  simp [Value.cells]
theorem and_mant (b : Nat) (hb : b < 18446744073709551616) : bits BinOp.and IntKind.u64 (b : Int) 4503599627370495 = ((b % 4503599627370496 : Nat) : Int) := by
  have h := bits_and_u64_nat b 4503599627370495 hb (by omega)
  have e : b &&& 4503599627370495 = b % 4503599627370496 := Nat.and_two_pow_sub_one_eq_mod b 52
  rw [e] at h; exact h
theorem or_mant (m : Nat) (hm : m < 4503599627370496) : bits BinOp.or IntKind.u64 (m : Int) 4503599627370496 = ((m + 4503599627370496 : Nat) : Int) := by
  have h := u64_or_nat m 4503599627370496 (by omega) (by omega)
  have e : m ||| 4503599627370496 = m + 4503599627370496 := by
    rw [Nat.or_comm]
    have h2 := Nat.two_pow_add_eq_or_of_lt (i := 52) (b := m) (by omega) 1
    have h3 : 2 ^ 52 * 1 = 4503599627370496 := by decide
    rw [h3] at h2
    omega
  rw [e] at h; exact h
end Go.Proofs.YtahmajbgfjinbaaDoor
