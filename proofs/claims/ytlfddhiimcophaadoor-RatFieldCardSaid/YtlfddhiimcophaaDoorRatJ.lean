/- Walks of packages nat and rat: Of, Make. -/
import Derived.Test.YtlfddhiimcophaaDoorRatI
namespace Go.Proofs.YtlfddhiimcophaaDoor
open Go.RowKit
set_option linter.unusedVariables false
set_option linter.unusedSimpArgs false

theorem natOf_any (n : Int) (w : World) (h0 : -9223372036854775808 ≤ n) (h1 : n ≤ 9223372036854775807) :
    Calls Tryd.prog 45 #[.int .i64 n] w fun e w' => e = .returned (.string (S n.toNat)) ∧ Below w.heap.size w w' := by
  by_cases h : n < 1
  · have e0 : n.toNat = 0 := by omega
    rw [e0]
    go_enter Tryd.func45, Tryd.ntmps45
    go_wp2_with fail
    go_ret
    exact ⟨rfl, Below.refl _ _⟩
  · obtain ⟨m, rfl⟩ : ∃ m : Nat, n = m := ⟨n.toNat, by omega⟩
    rw [Int.toNat_natCast]
    have ew : IntKind.u64.wrap (m : Int) = (m : Int) := u64_wrap_nat (by omega)
    have hm : m < 256 ^ 8 := by omega
    have HM := Lib.hid hm; clear hm
    go_enter Tryd.func45, Tryd.ntmps45
    go_wp2_with fail
    refine (fromShort_any m _ HM.out).mono ?_
    rintro e w1 ⟨rfl, hb⟩
    have HB := Lib.hid hb; clear hb
    go_wp2_with fail
    go_ret
    exact ⟨rfl, HB.out⟩
theorem mkRat_one (z : Int) : mkRat z 1 = (z : Rat) := by
  apply Rat.ext
  · rw [Rat.num_mkRat]; simp
  · rw [Rat.den_mkRat]; simp
theorem Sz.small {n : Nat} (h : n < 256 ^ 8) : Sz 8 n := bstr_length_le.2 h
theorem Sz.one : Sz 1 1 := by unfold Sz; decide
theorem add_G (m n k : Nat) {a b : ByteArray} (w : World) (ha : a = S m) (hb : b = S n) (h : Sz k m) (h' : Sz k n) (hk : k ≤ 35184372088832) :
    Calls Tryd.prog 19 #[.string a, .string b] w fun e w' => e = .returned (.string (S (m + n))) ∧ Below w.heap.size w w' := by
  rw [ha, hb]; exact add_S m n w (Nat.le_trans h hk) (Nat.le_trans h' hk)
theorem RIs.int {z : Int} {q : Rat} (h : q = (z : Rat)) : q.num = z ∧ q.den = 1 := by subst h; exact ⟨rfl, rfl⟩
theorem Rz.int {z : Int} {k : Nat} (h : z.natAbs < 256 ^ k) (hk : 1 ≤ k) : Rz k (z : Rat) := ⟨bstr_length_le.2 h, Sz.one.more hk⟩

set_option maxHeartbeats 1000000 in
theorem of_R (n : Int) (w : World) (h0 : -9223372036854775808 ≤ n) (h1 : n ≤ 9223372036854775807) (hT : Tab w) :
    Calls Tryd.prog 32 #[.int .i64 n] w fun e w' => e = .returned (R (n : Rat)) ∧ Below w.heap.size w w' := by
  obtain ⟨s3, a3, d3, h3⟩ := R_parts (n : Rat)
  rw [h3.val]
  have H3 := Lib.hid h3; clear h3
  have hb0 : Below w.heap.size w (w.alloc (.cells #[.bool false, .string ⟨#[]⟩, .string ⟨#[]⟩] 35)) := (Below.refl _ _).alloc (Nat.le_refl _) _
  have HB0 := Lib.hid (And.intro hb0 hT); clear hb0 hT
  by_cases hn : 0 ≤ n
  · have hr : mkRat (sg false n.toNat) 1 = (n : Rat) := by
      have : sg false n.toNat = n := by unfold sg; simp; omega
      rw [this, mkRat_one]
    have HR := Lib.hid hr; clear hr
    go_enter Tryd.func32, Tryd.ntmps32
    go_wp2_with fail
    refine (natOf_any n _ h0 h1).mono ?_
    rintro e w1 ⟨rfl, hb1⟩
    have HB1 := Lib.hid (below_next HB0.out.1 hb1)
    have k1 : Blk w1 w.heap.size 35 #[.bool false, .string ⟨#[]⟩, .string ⟨#[]⟩] := (Blk.new w _ _).belowB hb1
    have K1 := Lib.hid k1; clear k1 hb1
    go_wp2_with fail
    refine (made_G false n.toNat 8 1 (n : Rat) _ H3.out S_one.symm (by omega) HR.out (Sz.small (by omega)) (Sz.one.more (by omega)) (by omega) (HB0.out.2.next HB1.out)).mono ?_
    rintro e w2 ⟨rfl, hb2⟩
    have k2 : Blk w2 w.heap.size 35 #[.bool false, .string ⟨#[]⟩, .string ⟨#[]⟩] := Blk.belowB K1.out hb2
    obtain ⟨z0, z1, z2, f0, f1, f2⟩ := k2.three
    have HB2 := Lib.hid (And.intro (below_next HB1.out hb2) k2); clear hb2 k2
    go_wp2_with fail
    have hW := put3 HB2.out.2 (.bool s3) (.string a3) (.string d3)
    have hWb := put3_below (g := w.heap.size) HB2.out.1 (Nat.le_refl _) (.bool s3) (.string a3) (.string d3)
    obtain ⟨p0, p1, p2, -, -, -⟩ := hW.three
    refine bodyPost_ret (v := .agg #[.bool s3, .string a3, .string d3]) (by simp [results, Tryd.results32, go_sem, p0, p1, p2]) rfl ⟨rfl, hWb⟩
  · have hr : mkRat (sg true ((-(n + 1)).toNat + 1)) 1 = (n : Rat) := by
      have : sg true ((-(n + 1)).toNat + 1) = n := by unfold sg; simp; omega
      rw [this, mkRat_one]
    have HR := Lib.hid hr; clear hr
    obtain ⟨z, hz⟩ : ∃ z, z = -(n + 1) := ⟨_, rfl⟩
    have hz0 : 0 ≤ z := by omega
    have hz1 : z ≤ 9223372036854775807 := by omega
    rw [← hz] at HR
    have e1 : -(n + 1) = z := hz.symm
    have HZ := Lib.hid hz; clear hz
    go_enter Tryd.func32, Tryd.ntmps32
    go_wp2_with fail
    refine (natOf_any z _ (by omega) hz1).mono ?_
    rintro e w1 ⟨rfl, hb1⟩
    have HB1 := Lib.hid (below_next HB0.out.1 hb1)
    have k1 : Blk w1 w.heap.size 35 #[.bool false, .string ⟨#[]⟩, .string ⟨#[]⟩] := (Blk.new w _ _).belowB hb1
    have K1 := Lib.hid k1; clear k1 hb1
    go_wp2_with fail
    refine (add_G z.toNat 1 8 _ rfl S_one.symm (Sz.small (by omega)) (Sz.one.more (by omega)) (by omega)).mono ?_
    rintro e w2 ⟨rfl, hb2⟩
    have HB2 := Lib.hid (below_next HB1.out hb2)
    have k2 : Blk w2 w.heap.size 35 #[.bool false, .string ⟨#[]⟩, .string ⟨#[]⟩] := Blk.belowB K1.out hb2
    have K2 := Lib.hid k2; clear k2 hb2
    go_wp2_with fail
    refine (made_G true (z.toNat + 1) 8 1 (n : Rat) _ H3.out S_one.symm (by omega) HR.out (Sz.small (by omega)) (Sz.one.more (by omega)) (by omega) (HB0.out.2.next HB2.out)).mono ?_
    rintro e w3 ⟨rfl, hb3⟩
    have k3 : Blk w3 w.heap.size 35 #[.bool false, .string ⟨#[]⟩, .string ⟨#[]⟩] := Blk.belowB K2.out hb3
    obtain ⟨z0, z1, z2, f0, f1, f2⟩ := k3.three
    have HB3 := Lib.hid (And.intro (below_next HB2.out hb3) k3); clear hb3 k3
    go_wp2_with fail
    have hW := put3 HB3.out.2 (.bool s3) (.string a3) (.string d3)
    have hWb := put3_below (g := w.heap.size) HB3.out.1 (Nat.le_refl _) (.bool s3) (.string a3) (.string d3)
    obtain ⟨p0, p1, p2, -, -, -⟩ := hW.three
    refine bodyPost_ret (v := .agg #[.bool s3, .string a3, .string d3]) (by simp [results, Tryd.results32, go_sem, p0, p1, p2]) rfl ⟨rfl, hWb⟩

theorem of_O (n : Int) {s a d} (w : World) (h : RIs (n : Rat) s a d) (h0 : -9223372036854775808 ≤ n) (h1 : n ≤ 9223372036854775807) (hT : Tab w) :
    Calls Tryd.prog 32 #[.int .i64 n] w fun e w' => e = .returned (.agg #[.bool s, .string a, .string d]) ∧ Below w.heap.size w w' := by
  rw [← h.val]; exact of_R n w h0 h1 hT
theorem div_O (k : Nat) (x y z : Rat) {s1 s2 s3 : Bool} {a1 d1 a2 d2 a3 d3 : ByteArray} (w : World) (h1 : RIs x s1 a1 d1) (h2 : RIs y s2 a2 d2) (h3 : RIs z s3 a3 d3) (hz : x / y = z) (hy0 : y ≠ 0) (hx : Rz k x) (hy : Rz k y) (hk : k ≤ 4398046511104) (hT : Tab w) :
    Calls Tryd.prog 30 #[.agg #[.bool s1, .string a1, .string d1], .agg #[.bool s2, .string a2, .string d2]] w fun e w' => e = .returned (.tuple #[.agg #[.bool s3, .string a3, .string d3], .int .i64 0]) ∧ Below w.heap.size w w' := by
  rw [← h1.val, ← h2.val, ← h3.val, ← hz]; exact div_R k x y w hx hy hy0 hk hT
theorem ofI_ne {n : Int} (h : n ≠ 0) : (n : Rat) ≠ 0 := fun e => h (by have := congrArg Rat.num e; simpa using this)

set_option maxHeartbeats 1000000 in
theorem make_R (m n : Int) (w : World) (h0 : -9223372036854775808 ≤ m) (h1 : m ≤ 9223372036854775807) (h2 : -9223372036854775808 ≤ n) (h3 : n ≤ 9223372036854775807) (hn : n ≠ 0) (hT : Tab w) :
    Calls Tryd.prog 37 #[.int .i64 m, .int .i64 n] w fun e w' => e = .returned (.tuple #[R ((m : Rat) / (n : Rat)), .int .i64 0]) ∧ Below w.heap.size w w' := by
  obtain ⟨s1, a1, d1, q1⟩ := R_parts (m : Rat)
  obtain ⟨s2, a2, d2, q2⟩ := R_parts (n : Rat)
  obtain ⟨s3, a3, d3, q3⟩ := R_parts ((m : Rat) / (n : Rat))
  rw [q3.val]
  have HQ := Lib.hid (And.intro (And.intro q1 q2) (And.intro q3 (And.intro (ofI_ne hn) hT))); clear q1 q2 q3 hn hT
  have HI := Lib.hid (And.intro (And.intro h0 h1) (And.intro h2 h3))
  have HRz := Lib.hid (And.intro (Rz.int (z := m) (k := 8) (by omega) (by omega)) (Rz.int (z := n) (k := 8) (by omega) (by omega)))
  have hb0 : Below w.heap.size w (w.alloc (.cells #[.bool false, .string ⟨#[]⟩, .string ⟨#[]⟩] 35)) := (Below.refl _ _).alloc (Nat.le_refl _) _
  have HB0 := Lib.hid hb0; clear hb0 h0 h1 h2 h3
  go_enter Tryd.func37, Tryd.ntmps37
  go_wp2_with fail
  refine (of_O m _ HQ.out.1.1 HI.out.1.1 HI.out.1.2 (HQ.out.2.2.2.next HB0.out)).mono ?_
  rintro e w1 ⟨rfl, hb1⟩
  have HB1 := Lib.hid (below_next HB0.out hb1)
  have k1 : Blk w1 w.heap.size 35 #[.bool false, .string ⟨#[]⟩, .string ⟨#[]⟩] := (Blk.new w _ _).belowB hb1
  have K1 := Lib.hid k1; clear k1 hb1
  go_wp2_with fail
  refine (of_O n _ HQ.out.1.2 HI.out.2.1 HI.out.2.2 (HQ.out.2.2.2.next HB1.out)).mono ?_
  rintro e w2 ⟨rfl, hb2⟩
  have HB2 := Lib.hid (below_next HB1.out hb2)
  have k2 : Blk w2 w.heap.size 35 #[.bool false, .string ⟨#[]⟩, .string ⟨#[]⟩] := Blk.belowB K1.out hb2
  have K2 := Lib.hid k2; clear k2 hb2
  go_wp2_with fail
  refine (div_O 8 _ _ _ _ HQ.out.1.1 HQ.out.1.2 HQ.out.2.1 rfl HQ.out.2.2.1 HRz.out.1 HRz.out.2 (by omega) (HQ.out.2.2.2.next HB2.out)).mono ?_
  rintro e w3 ⟨rfl, hb3⟩
  have k3 : Blk w3 w.heap.size 35 #[.bool false, .string ⟨#[]⟩, .string ⟨#[]⟩] := Blk.belowB K2.out hb3
  obtain ⟨z0, z1, z2, f0, f1, f2⟩ := k3.three
  have HB3 := Lib.hid (And.intro (below_next HB2.out hb3) k3); clear hb3 k3
  go_wp2_with fail
  have hW := put3 HB3.out.2 (.bool s3) (.string a3) (.string d3)
  have hWb := put3_below (g := w.heap.size) HB3.out.1 (Nat.le_refl _) (.bool s3) (.string a3) (.string d3)
  obtain ⟨p0, p1, p2, -, -, -⟩ := hW.three
  refine bodyPost_ret (v := .tuple #[.agg #[.bool s3, .string a3, .string d3], .int .i64 0]) (by simp [results, Tryd.results37, go_sem, p0, p1, p2]) rfl ⟨rfl, hWb⟩
end Go.Proofs.YtlfddhiimcophaaDoor
