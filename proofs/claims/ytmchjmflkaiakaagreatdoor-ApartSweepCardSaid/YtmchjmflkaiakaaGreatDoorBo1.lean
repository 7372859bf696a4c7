/- Joined texts: BoL Root BoM Bo1. -/
import Derived.Test.YtmchjmflkaiakaaGreatDoorSp2
import Derived.Test.YtmchjmflkaiakaaGreatDoorSp6
import Derived.Test.YtmchjmflkaiakaaGreatDoorBunNatC
import Derived.Test.YtmchjmflkaiakaaGreatDoorBunSeq
import Derived.Lib.Repeat
/- Plain laws: the numbers of the bits of floating-point numbers. -/
set_option maxHeartbeats 2000000
set_option maxRecDepth 20000
namespace Go.Proofs.YtmchjmflkaiakaaGreatDoor
open Go.RowKit
set_option linter.unusedVariables false
set_option linter.unusedSimpArgs false
def exE (b : Nat) : Nat := if b / 4503599627370496 = 0 then 1 else b / 4503599627370496
def exM (b : Nat) : Nat := if b / 4503599627370496 = 0 then b % 4503599627370496 else b % 4503599627370496 + 4503599627370496
def exN (b : Nat) : Nat := exM b * 2 ^ exE b
def pw (n : Nat) : Nat := 2 ^ n
theorem pw_pos (n : Nat) : 0 < pw n := Nat.pow_pos (by omega)
def ex (b : Nat) : Rat := (exN b : Rat) / ((pw 1075 : Nat) : Rat)
theorem exN_succ (b : Nat) : exN b < exN (b + 1) := by
 unfold exN exM exE
 obtain ⟨q, r, hb, hr⟩ : ∃ q r, b = 4503599627370496 * q + r ∧ r < 4503599627370496 := ⟨b / 4503599627370496, b % 4503599627370496, by omega, by omega⟩
 have h1 : b / 4503599627370496 = q := by omega
 have h2 : b % 4503599627370496 = r := by omega
 have hp : 0 < 2 ^ q := Nat.pow_pos (by omega)
 by_cases hr1 : r + 1 < 4503599627370496
 ·have h3 : (b + 1) / 4503599627370496 = q := by omega
  have h4 : (b + 1) % 4503599627370496 = r + 1 := by omega
  rw [h1, h2, h3, h4]
  by_cases hq : q = 0
  ·rw [if_pos hq, if_pos hq, if_pos hq]; omega
  ·rw [if_neg hq, if_neg hq, if_neg hq]
   exact Nat.mul_lt_mul_of_pos_right (by omega) hp
 ·have h3 : (b + 1) / 4503599627370496 = q + 1 := by omega
  have h4 : (b + 1) % 4503599627370496 = 0 := by omega
  have h5 : r = 4503599627370495 := by omega
  rw [h1, h2, h3, h4, h5]
  by_cases hq : q = 0
  ·subst hq; decide
  ·rw [if_neg hq, if_neg hq, if_neg (by omega), if_neg (by omega), Nat.pow_succ]
   omega
theorem exN_lt {a b : Nat} (h : a < b) : exN a < exN b := by
 induction b with
 | zero => omega
 | succ b ih =>
   have := exN_succ b
   rcases Nat.lt_or_ge a b with h1 | h1
   ·have := ih h1; omega
   ·have : a = b := by omega
    subst this; assumption
theorem ex_mul (b : Nat) : ex b * ((pw 1075 : Nat) : Rat) = (exN b : Rat) := by
 unfold ex
 exact Rat.div_mul_cancel (by
  intro h
  have h2 : ((pw 1075 : Nat) : Rat) = ((0 : Nat) : Rat) := h
  have h3 := Rat.natCast_inj.1 h2
  have := pw_pos 1075
  omega)
theorem ex_lt {a b : Nat} (h : a < b) : ex a < ex b := by
 apply Rat.not_le.1
 intro hle
 have h0 : (0 : Rat) ≤ ((pw 1075 : Nat) : Rat) := Rat.natCast_nonneg
 have := mul_le_r hle h0
 rw [ex_mul, ex_mul] at this
 have := Rat.natCast_le_natCast.1 this
 have := exN_lt h
 omega
theorem ex_le {a b : Nat} (h : a ≤ b) : ex a ≤ ex b := by
 rcases Nat.lt_or_ge a b with h1 | h1
 ·have := ex_lt h1; grind
 ·have : a = b := by omega
  subst this; exact Rat.le_refl
theorem ex_zero : ex 0 = 0 := by
 have h := ex_mul 0
 have e : exN 0 = 0 := by decide
 rw [e] at h
 rcases Rat.mul_eq_zero.1 (show ex 0 * ((pw 1075 : Nat) : Rat) = 0 from h) with h1 | h1
 ·exact h1
 ·exact absurd h1 (by
   intro h
   have h2 : ((pw 1075 : Nat) : Rat) = ((0 : Nat) : Rat) := h
   have h3 := Rat.natCast_inj.1 h2
   have := pw_pos 1075
   omega)
theorem pw_add (a b : Nat) : pw (a + b) = pw a * pw b := Nat.pow_add 2 a b
theorem pw_ne (n : Nat) : ((pw n : Nat) : Rat) ≠ 0 := by
 intro h
 have h2 : ((pw n : Nat) : Rat) = ((0 : Nat) : Rat) := h
 have h3 := Rat.natCast_inj.1 h2
 have := pw_pos n
 omega
theorem ex_hi {b : Nat} (h : 1075 ≤ exE b) : ((exM b : Nat) : Rat) * ((pw (exE b - 1075) : Nat) : Rat) = ex b := by
 have e : exN b = exM b * pw (exE b - 1075) * pw 1075 := by
  have : exE b = (exE b - 1075) + 1075 := by omega
  show exM b * pw (exE b) = _
  rw [this, pw_add, Nat.add_sub_cancel, Nat.mul_assoc]
 unfold ex
 rw [e, Rat.natCast_mul, Rat.natCast_mul, Rat.mul_div_cancel (pw_ne 1075)]
theorem ex_lo {b : Nat} (h : exE b < 1075) : ((exM b : Nat) : Rat) / ((pw (1075 - exE b) : Nat) : Rat) = ex b := by
 have e : exN b * pw (1075 - exE b) = exM b * pw 1075 := by
  show exM b * pw (exE b) * pw (1075 - exE b) = _
  rw [Nat.mul_assoc, ← pw_add]
  have : exE b + (1075 - exE b) = 1075 := by omega
  rw [this]
 have e2 : ((exN b : Nat) : Rat) * ((pw (1075 - exE b) : Nat) : Rat) = ((exM b : Nat) : Rat) * ((pw 1075 : Nat) : Rat) := by
  rw [← Rat.natCast_mul, ← Rat.natCast_mul, e]
 have h1 := ex_mul b
 have n1 := pw_ne 1075
 have n2 := pw_ne (1075 - exE b)
 have e3 : ex b * ((pw (1075 - exE b) : Nat) : Rat) = ((exM b : Nat) : Rat) := by
  have : ex b * ((pw (1075 - exE b) : Nat) : Rat) * ((pw 1075 : Nat) : Rat) = ((exM b : Nat) : Rat) * ((pw 1075 : Nat) : Rat) := by
   rw [← e2, ← h1]; grind
  exact mul_cancel n1 this
 rw [← e3]; exact Rat.mul_div_cancel n2
def midE (b : Nat) : Rat := (((1 : Int) : Rat) / ((2 : Int) : Rat)) * (ex b + ex (b + 1))
theorem half_is : ((1 : Int) : Rat) / ((2 : Int) : Rat) = 1 / 2 := by decide +kernel
theorem mid_gt (b : Nat) : ex b < midE b := by
 have h := ex_lt (show b < b + 1 by omega)
 unfold midE; rw [half_is]; grind
theorem mid_lt (b : Nat) : midE b < ex (b + 1) := by
 have h := ex_lt (show b < b + 1 by omega)
 unfold midE; rw [half_is]; grind
theorem ex_nonneg (b : Nat) : 0 ≤ ex b := by
 have := ex_le (show 0 ≤ b by omega)
 rw [ex_zero] at this; exact this
theorem mid_pos (b : Nat) : 0 < midE b := by
 have h1 := mid_gt b
 have h2 := ex_nonneg b
 grind
theorem mid_back {b : Nat} (h : 0 < b) : (((1 : Int) : Rat) / ((2 : Int) : Rat)) * (ex b + ex (b - 1)) = midE (b - 1) := by
 unfold midE
 rw [show b - 1 + 1 = b by omega]; grind
theorem mid_le {a b : Nat} (h : a ≤ b) : midE a ≤ midE b := by
 have h1 := ex_le h
 have h2 := ex_le (show a + 1 ≤ b + 1 by omega)
 unfold midE; rw [half_is]; grind
theorem rep_val (k : Nat) : bval (1 :: Lib.repeatL [0] k) = 256 ^ k ∧ (Lib.repeatL [(0 : UInt8)] k).length = k := by
 induction k with
 | zero => exact ⟨rfl, rfl⟩
 | succ k ih =>
   obtain ⟨h1, h2⟩ := ih
   have e : Lib.repeatL [(0 : UInt8)] (k + 1) = 0 :: Lib.repeatL [0] k := rfl
   rw [bval_cons, h2] at h1
   rw [e, bval_cons, bval_zero_cons, List.length_cons, h2]
   refine ⟨?_, rfl⟩
   have h3 : (1 : UInt8).toNat = 1 := rfl
   rw [h3] at h1 ⊢
   have : bval (Lib.repeatL [0] k) = 0 := by omega
   rw [this]; omega
theorem mkB {o : Oper} {a : Act} {X Y : Operand} (n : Nat) (hn : n ≤ 70368744177664) (ho : o.op = .makeSlice 185 X Y) (hX : a.eval X = .int .i64 (n : Int)) (hY : a.eval Y = .int .i64 (n : Int)) (w : World) :
  (execOp a.eval o).run Tryz.prog w = .ok (.value (.slice (some ⟨w.heap.size, 0, none⟩) n n)) (w.alloc (.cells (Array.replicate n (.int .u8 0)) 5)) := by
 obtain ⟨i0, hi0, hz0, hz1, hz2⟩ := info_parts infoU8
 have hr := run_make_one (P := Tryz.prog) Tryz.underlying185 hi0 hz0 hz1 rfl n (by rw [hz2]; omega) (by omega) w
 unfold execOp
 simp only [ho, hX, hY, Sem.run_bind, hr, Result.andThen_ok, Sem.run_pure]
theorem pow_val (r q : Nat) (hr : r < 8) : bval (UInt8.ofNat (2 ^ r) :: Lib.repeatL [0] q) = pw (8 * q + r) := by
 have h1 := (rep_val q).1
 have h2 := (rep_val q).2
 rw [bval_cons] at h1
 have h3 : (1 : UInt8).toNat = 1 := rfl
 rw [h3] at h1
 have h0 : bval (Lib.repeatL [0] q) = 0 := by rw [h2] at h1; omega
 rw [bval_cons, h0, h2]
 have h4 : (UInt8.ofNat (2 ^ r)).toNat = 2 ^ r := by
  have : r = 0 ∨ r = 1 ∨ r = 2 ∨ r = 3 ∨ r = 4 ∨ r = 5 ∨ r = 6 ∨ r = 7 := by omega
  rcases this with rfl | rfl | rfl | rfl | rfl | rfl | rfl | rfl <;> rfl
 rw [h4, Nat.add_zero]
 unfold pw
 rw [Nat.pow_add, Nat.pow_mul, Nat.mul_comm]
theorem S_pw (r q : Nat) (hr : r < 8) : S (pw (8 * q + r)) = ⟨(UInt8.ofNat (2 ^ r) :: Lib.repeatL [0] q).toArray⟩ := by
 unfold S
 have h : bstr (bval (UInt8.ofNat (2 ^ r) :: Lib.repeatL [0] q)) = UInt8.ofNat (2 ^ r) :: Lib.repeatL [0] q := bstr_bval (by
  have : r = 0 ∨ r = 1 ∨ r = 2 ∨ r = 3 ∨ r = 4 ∨ r = 5 ∨ r = 6 ∨ r = 7 := by omega
  rcases this with rfl | rfl | rfl | rfl | rfl | rfl | rfl | rfl <;> simp [Bare])
 rw [pow_val r q hr] at h
 rw [h]
theorem RC_pw (n : Nat) : RC ((pw n : Nat) : Rat) = #[.bool false, .string (S (pw n)), .string (S 1)] := by
 unfold RC
 have h1 : (((pw n : Nat) : Rat)).num = (pw n : Int) := Rat.num_natCast _
 have h2 : (((pw n : Nat) : Rat)).den = 1 := Rat.den_natCast _
 rw [h1, h2, decide_eq_false (by omega), Int.natAbs_natCast]
theorem cvB {W : World} {l : List Own} {o : Oper} {a : Act} {X : Operand} {g : Nat} (L : List UInt8) (ho : o.op = .convert 185 9 X) (n : Nat) (hn : n = L.length) (hX : a.eval X = .slice (some ⟨g, 0, none⟩) n n)
  (hm : (g, 5, (L.map fun b => Value.int .u8 (b.toNat : Int)).toArray) ∈ l) (w : World) (h : St W l w) :
  (execOp a.eval o).run Tryz.prog w = .ok (.value (.string ⟨L.toArray⟩)) w := by
 subst hn
 have hb := (h.blk _ hm).2
 have hcv := run_convert_bytes_back (P := Tryz.prog) w 185 9 5 ⟨g, 0, none⟩ L.length L Tryz.underlying185 Tryz.underlying5 Tryz.underlying9 (fun j hj => by
  rw [Addr.add_lit, Nat.zero_add, hb.cell]
  simp [hj])
 unfold execOp
 simp only [ho, hX, Sem.run_bind, hcv, Result.andThen_ok, Sem.run_pure]
theorem rep_map (q : Nat) : (Lib.repeatL [(0 : UInt8)] q).map (fun b => Value.int .u8 (b.toNat : Int)) = List.replicate q (Value.int .u8 0) := by
 induction q with
 | zero => rfl
 | succ q ih =>
   have e : Lib.repeatL [(0 : UInt8)] (q + 1) = 0 :: Lib.repeatL [0] q := rfl
   rw [e, List.map_cons, ih]; rfl
theorem put0 (q r : Nat) (hr : r < 8) (z : Int) (hz : z = ((2 ^ r : Nat) : Int)) : ((Array.replicate (q + 1) (Value.int .u8 0)).toList.take 0 ++ (Value.int .u8 z).cells.toList ++ (Array.replicate (q + 1) (Value.int .u8 0)).toList.drop (0 + (Value.int .u8 z).cells.size)).toArray = ((UInt8.ofNat (2 ^ r) :: Lib.repeatL [0] q).map fun b => Value.int .u8 (b.toNat : Int)).toArray := by
 have h4 : (UInt8.ofNat (2 ^ r)).toNat = 2 ^ r := by
  have : r = 0 ∨ r = 1 ∨ r = 2 ∨ r = 3 ∨ r = 4 ∨ r = 5 ∨ r = 6 ∨ r = 7 := by omega
  rcases this with rfl | rfl | rfl | rfl | rfl | rfl | rfl | rfl <;> rfl
 subst hz
 rw [List.map_cons, rep_map, h4]
 simp [Value.cells]
theorem and_mant (b : Nat) (hb : b < 18446744073709551616) : bits BinOp.and IntKind.u64 (b : Int) 4503599627370495 = ((b % 4503599627370496 : Nat) : Int) := by
 have h := bits_and_u64_nat b 4503599627370495 hb (by omega)
 have e : b &&& 4503599627370495 = b % 4503599627370496 := Nat.and_two_pow_sub_one_eq_mod b 52
 rw [e] at h; exact h
theorem or_mant (m : Nat) (hm : m < 4503599627370496) : bits BinOp.or IntKind.u64 (m : Int) 4503599627370496 = ((m + 4503599627370496 : Nat) : Int) := by
 have h := u64_or_nat m 4503599627370496 (by omega) (by omega)
 have e : m ||| 4503599627370496 = m + 4503599627370496 := by
  rw [Nat.or_comm]
  have h2 := Nat.two_pow_add_eq_or_of_lt (i := 52) (b := m) (by omega) 1
  have h3 : 2 ^ 52 * 1 = 4503599627370496 := by decide
  rw [h3] at h2
  omega
 rw [e] at h; exact h
variable {W : World} {l : List Own}
theorem natOf_w (n : Int) (h0 : 0 ≤ n) (h1 : n ≤ 9223372036854775807) (w : World) (h : St W l w) : Rt 81 #[.int .i64 n] w (.string (S n.toNat)) := natOf_any n w (by omega) h1
theorem power_b {q r : Nat} {W : World} {l : List Own} (hr : r < 8) (hq : q ≤ 1000) (w : World) :
  Calls Tryz.prog 137 #[.int .i64 ((8 * q + r : Nat) : Int)] w fun e w' => e = .returned (.agg (RC ((pw (8 * q + r) : Nat) : Rat))) ∧ Below w.heap.size w w' := by
 obtain ⟨z, hz, hz2⟩ : ∃ z : Int, z = ((2 ^ r : Nat) : Int) ∧ IntKind.u8.wrap (2 ^ min r 8) = z := ⟨_, rfl, by
  have : r = 0 ∨ r = 1 ∨ r = 2 ∨ r = 3 ∨ r = 4 ∨ r = 5 ∨ r = 6 ∨ r = 7 := by omega
  rcases this with rfl | rfl | rfl | rfl | rfl | rfl | rfl | rfl <;> rfl⟩
 have HZ := yh (And.intro hz hz2); clear hz hz2
 have HQ := yh (show IntKind.i64.wrap (((8 * (q : Int) + (r : Int))).tdiv 8) = (q : Int) ∧ IntKind.i64.wrap ((q : Int) + 1) = ((q + 1 : Nat) : Int) ∧ ((8 * (q : Int) + (r : Int))).tmod 8 = (r : Int) ∧ True from
  ⟨by rw [Int.tdiv_eq_ediv_of_nonneg (by omega), IntWalk.i64_in _ (by omega)]; omega, by rw [IntWalk.i64_in _ (by omega)]; omega, by rw [Int.tmod_eq_emod_of_nonneg (by omega)]; omega, trivial⟩)
 have HK := yh (show q + 1 ≤ 70368744177664 by omega)
 have HL := yh (show q + 1 = (UInt8.ofNat (2 ^ r) :: Lib.repeatL [0] q).length by rw [List.length_cons, (rep_val q).2])
 have HR := yh hr; clear hr hq
 go_enter Tryz.func137, Tryz.ntmps137
 have HS : St w [] w := St.start
 go_upto_region 0 with fail
 refine rgT [] HS ?_
 refine aL3 ?_
 intro bk2 _ _ e2
 refine nZ ?_
 refine dn1 bk2 fun _ HS1=>?_
 clear HS
 go_upto_region 1 with fail
 refine rgT [] HS1 ?_
 refine pW ?_
 refine pV (.int .i64 (q : Int)) (by intro w; go_simp <;> (first | (rw [HQ.out.1]; done) | (simp [HQ.out.1]; done))) ?_
 refine pV (.int .i64 ((q + 1 : Nat) : Int)) (by intro w; go_simp <;> (first | (rw [HQ.out.2.1]; done) | (simp [HQ.out.2.1]; done))) ?_
 refine Seq.slice (n := q + 1) (e := 5) (cs := Array.replicate (q + 1) (.int .u8 0)) rfl rfl (fun w => mkB (q + 1) HK.out rfl rfl rfl w) ?_
 intro bk7 _ _ e7
 refine nZ ?_
 refine pW ?_
 refine dn1 bk7 fun _ HS2=>?_
 clear HS1
 go_upto_region 2 with fail
 refine wp_seq_text [] (StR.move (StR.no HS2)) ?_
 iterate 2 refine pW ?_
 refine pV (.int .i64 (r : Int)) (by intro w; go_simp <;> (first | (rw [HQ.out.2.2.1]; done) | (simp [HQ.out.2.2.1]; done))) ?_
 refine pV (.int .u8 z) (by intro w; go_simp <;> (first | (rw [HZ.out.2]; done) | (simp [HZ.out.2]; done))) ?_
 refine pV (.pointer (some ⟨bk7, 0, none⟩)) (by intro w; go_simp <;> (first | rfl | (simp; done) | (rw [if_pos (by omega)]; rfl))) ?_
 refine Seq.storeAt (v := .int .u8 z) rfl rfl rfl rfl rfl (by repeat first|exact rS|refine rN ‹_› ?_) (by simp [Value.cells]) (by kernel_rfl) (by intro u hu; simp [Value.cells] at hu; subst hu; rfl) (put0 q r HR.out z HZ.out.1) (nZ ?_)
 refine dn1 bk7 fun _ HS3=>?_
 clear HS2
 go_upto_region 3 with fail
 have HPbk2 := HS3.p1
 refine wS [] (Reg.fin.put Reg.fin_no _ _) (StR.move (StR.no HPbk2)) ?_
 refine pW ?_
 refine Seq.look (v := .string (S (pw (8 * q + r)))) rfl rfl (fun w h => by rw [S_pw r q HR.out]; exact cvB (UInt8.ofNat (2 ^ r) :: Lib.repeatL [0] q) rfl (q + 1) HL.out rfl (by repeat first|exact mC|apply mT) w h) (nZ ?_)
 refine cX rfl rfl (natOf_w 1 (by omega) (by omega)) ?_
 refine pV (.agg (RC ((pw (8 * q + r) : Nat) : Rat))) (by intro w; rw [RC_pw]; go_simp; try rfl) ?_
 refine sV (RC_one _) ?_
 refine dn1 bk2 fun _ HS4=>?_
 clear HS3 HPbk2
 go_wp2_with fail
 exact rO HS4 ⟨rfl, HS4.below⟩
theorem power_q {n : Nat} (hn : n ≤ 1100) (w : World) (h : St W l w) : Rt 137 #[.int .i64 (n : Int)] w (.agg (RC ((pw n : Nat) : Rat))) := by
 have e : 8 * (n / 8) + n % 8 = n := by omega
 have := power_b (W := W) (l := l) (q := n / 8) (r := n % 8) (by omega) (by omega) w
 rw [e] at this
 exact this
end Go.Proofs.YtmchjmflkaiakaaGreatDoor
