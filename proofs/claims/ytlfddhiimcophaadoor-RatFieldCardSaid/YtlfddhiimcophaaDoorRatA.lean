/- Rational numbers as values of the program; zero, Good, fit. -/
import Derived.Test.YtlfddhiimcophaaDoorNatDivisorsW
import Derived.Test.YtlfddhiimcophaaDoorMem
import Derived.Deep.DeepCutAuto
import Derived.Deep.RegionHeld3
import Derived.Deep.QuietTactic
import Derived.BigQuiet
namespace Go.Proofs.YtlfddhiimcophaaDoor
open Go.RowKit
set_option linter.unusedVariables false
set_option linter.unusedSimpArgs false

/-- the cells of a number -/
def RC (q : Rat) : Array Value := #[.bool (decide (q.num < 0)), .string (S q.num.natAbs), .string (S q.den)]
/-- a number as a value -/
def R (q : Rat) : Value := .agg #[.bool (decide (q.num < 0)), .string (S q.num.natAbs), .string (S q.den)]
/-- numerator and denominator have at most k bytes -/
def Rz (k : Nat) (q : Rat) : Prop := Sz k q.num.natAbs ∧ Sz k q.den
theorem Rz.more {k l : Nat} {q : Rat} (h : Rz k q) (hk : k ≤ l) : Rz l q := ⟨h.1.more hk, h.2.more hk⟩

theorem zero_R (w : World) : Calls Tryd.prog 76 #[] w fun e w' => e = .returned (R 0) ∧ Below w.heap.size w w' := by
  go_enter Tryd.func76, Tryd.ntmps76
  go_wp2_with fail
  refine bodyPost_ret (v := R 0) (by simp [results, Tryd.results76, go_sem]; rfl) rfl ⟨rfl, (Below.refl _ _).alloc (Nat.le_refl _) _⟩

theorem S_one : S 1 = ⟨#[1]⟩ := by decide
theorem S_ne_one {n : Nat} (h : n ≠ 1) : ¬ (S n).toList = [1] := by
  rw [S_list]; intro h2
  exact h (bstr_inj (h2.trans (by decide)))
theorem S_beq_one {n : Nat} (h : n ≠ 1) : ((S n).toList == [1]) = false := by rw [beq_eq_false_iff_ne]; exact S_ne_one h
theorem S_head {n : Nat} (h : n ≠ 0) : ∃ h0 : 0 < (S n).size, (((S n)[0].toNat : Int) == 0) = false := by
  have h1 : 0 < (S n).size := by rw [S_size]; exact bstr_pos (Nat.pos_of_ne_zero h)
  refine ⟨h1, ?_⟩
  have h2 := bare_bstr n
  have h3 := byte_zero (S n) h1
  rw [toL_S] at h3
  rw [h3] at h2
  have h4 : (S n)[0] ≠ 0 := by simpa [Bare] using h2
  rw [beq_eq_false_iff_ne]; intro h; exact h4 (UInt8.toNat_inj.1 (by simpa using h))
theorem S_nil {n : Nat} (h : n ≠ 0) : ¬ (S n).toList = [] := by
  rw [S_list]; intro h2; exact h (bstr_eq_nil.1 h2)

theorem good_yes (s : Bool) (n d k : Nat) (w : World) (hd : d ≠ 0) (h0 : n = 0 → s = false ∧ d = 1) (hg : Nat.gcd n d = 1) (hn : Sz k n) (hdk : Sz k d) (hk : k ≤ 35184372088832) (hT : Tab w) :
    Calls Tryd.prog 29 #[.agg #[.bool s, .string (S n), .string (S d)]] w fun e w' => e = .returned (.bool true) ∧ Below w.heap.size w w' := by
  have he := S_empty_of hd
  obtain ⟨hd1, hd2⟩ := S_head hd
  have hd3 := S_nil hd
  have HH := Lib.hid (And.intro hg (And.intro hn (And.intro hdk (And.intro hk hT)))); clear hg hn hdk hk hT
  have h1 : (S 1).toList = [1] := by rw [S_list]; decide
  by_cases hz : n = 0
  · subst hz
    obtain ⟨rfl, rfl⟩ := h0 rfl
    have hz1 : (S 0).toList = [] := by rw [S_list]; rfl
    have hz2 : (S 0).toList.isEmpty = true := by rw [S_list]; rfl
    clear h0
    go_enter Tryd.func29, Tryd.ntmps29
    go_wp2_with fail
    go_ret
    exact ⟨rfl, (Below.refl _ _).alloc (Nat.le_refl _) _⟩
  · have hn0 := S_empty_of hz
    obtain ⟨hn1, hn2⟩ := S_head hz
    have hn3 := S_nil hz
    clear h0
    by_cases hd9 : d = 1
    · subst hd9
      go_enter Tryd.func29, Tryd.ntmps29
      go_wp2_with fail
      go_ret
      exact ⟨rfl, (Below.refl _ _).alloc (Nat.le_refl _) _⟩
    · have hd4 := S_ne_one hd9
      go_enter Tryd.func29, Tryd.ntmps29
      go_wp2_with fail
      refine (gcd_S n d _ (Nat.le_trans HH.out.2.1 HH.out.2.2.2.1) (Nat.le_trans HH.out.2.2.1 HH.out.2.2.2.1) (HH.out.2.2.2.2.next ((Below.refl _ _).alloc (Nat.le_refl _) _))).mono ?_
      rw [HH.out.1]
      rintro e w1 ⟨rfl, hb1⟩
      have HB1 := Lib.hid hb1; clear hb1
      go_wp2_with fail
      go_ret
      exact ⟨rfl, below_next ((Below.refl _ _).alloc (Nat.le_refl _) _) HB1.out⟩
theorem good_no (s : Bool) (n d k : Nat) (w : World) (hd : d ≠ 0) (h0 : n ≠ 0) (hg : Nat.gcd n d ≠ 1) (hn : Sz k n) (hdk : Sz k d) (hk : k ≤ 35184372088832) (hT : Tab w) :
    Calls Tryd.prog 29 #[.agg #[.bool s, .string (S n), .string (S d)]] w fun e w' => e = .returned (.bool false) ∧ Below w.heap.size w w' := by
  have he := S_empty_of hd
  obtain ⟨hd1, hd2⟩ := S_head hd
  have hd3 := S_nil hd
  have hd9 : d ≠ 1 := by rintro rfl; exact hg (Nat.gcd_one_right n)
  have hg4 := S_ne_one hg
  have HH := Lib.hid (And.intro hg (And.intro hn (And.intro hdk (And.intro hk hT)))); clear hg hn hdk hk hT
  have hn0 := S_empty_of h0
  obtain ⟨hn1, hn2⟩ := S_head h0
  have hn3 := S_nil h0
  have hd4 := S_ne_one hd9
  go_enter Tryd.func29, Tryd.ntmps29
  go_wp2_with fail
  refine (gcd_S n d _ (Nat.le_trans HH.out.2.1 HH.out.2.2.2.1) (Nat.le_trans HH.out.2.2.1 HH.out.2.2.2.1) (HH.out.2.2.2.2.next ((Below.refl _ _).alloc (Nat.le_refl _) _))).mono ?_
  rintro e w1 ⟨rfl, hb1⟩
  have HB1 := Lib.hid hb1; clear hb1
  go_wp2_with fail
  go_ret
  refine ⟨congrArg (fun b => Ending.returned (.bool b)) (show ((S d).toList == [1] || (S (Nat.gcd n d)).toList == [1]) = false from ?_), below_next ((Below.refl _ _).alloc (Nat.le_refl _) _) HB1.out⟩
  simp [hd4, hg4]

theorem put3 {w : World} {g : Nat} {t : TypeId} {a b c : Value} (h : Blk w g t #[a, b, c]) (x y z : Value) :
    Blk (((w.setCell ⟨g, 0, none⟩ x).setCell ⟨g, 1, none⟩ y).setCell ⟨g, 2, none⟩ z) g t #[x, y, z] := ((h.set_ 0 x).set_ 1 y).set_ 2 z
theorem Blk.three {w : World} {g : Nat} {t : TypeId} {a b c : Value} (h : Blk w g t #[a, b, c]) : w.cell? ⟨g, 0, none⟩ = some a ∧ w.cell? ⟨g, 1, none⟩ = some b ∧ w.cell? ⟨g, 2, none⟩ = some c ∧ w.frozen? ⟨g, 0, none⟩ = false ∧ w.frozen? ⟨g, 1, none⟩ = false ∧ w.frozen? ⟨g, 2, none⟩ = false :=
  ⟨h.cell 0, h.cell 1, h.cell 2, h.frozen 0, h.frozen 1, h.frozen 2⟩
theorem put3_below {B : Nat} {w w' : World} {g : Nat} (h : Below B w w') (hg : B ≤ g) (x y z : Value) : Below B w (((w'.setCell ⟨g, 0, none⟩ x).setCell ⟨g, 1, none⟩ y).setCell ⟨g, 2, none⟩ z) := ((h.setCell hg x).setCell hg y).setCell hg z

theorem R_sign (q : Rat) : q.num.natAbs = 0 → decide (q.num < 0) = false ∧ q.den = 1 := by
  intro h
  have h1 : q.num = 0 := by omega
  have h2 : q = 0 := Rat.num_eq_zero.1 h1
  subst h2
  exact ⟨rfl, rfl⟩
theorem Good_R (k : Nat) (q : Rat) (w : World) (hq : Rz k q) (hk : k ≤ 35184372088832) (hT : Tab w) :
    Calls Tryd.prog 29 #[R q] w fun e w' => e = .returned (.bool true) ∧ Below w.heap.size w w' :=
  good_yes _ _ _ k w q.den_nz (R_sign q) q.reduced hq.1 hq.2 hk hT
theorem fit_R (k : Nat) (q : Rat) (w : World) (hq : Rz k q) (hk : k ≤ 35184372088832) (hT : Tab w) :
    Calls Tryd.prog 56 #[R q] w fun e w' => e = .returned (R q) ∧ Below w.heap.size w w' := by
  have HH := Lib.hid (And.intro hq (And.intro hk hT)); clear hq hk hT
  have hb0 : Below w.heap.size w ((w.alloc (.cells (RC q) 35)).alloc (.cells #[.bool false, .string ⟨#[]⟩, .string ⟨#[]⟩] 35)) := ((Below.refl _ _).alloc (Nat.le_refl _) _).alloc (by simp) _
  have HB0 := Lib.hid hb0; clear hb0
  go_enter Tryd.func56, Tryd.ntmps56
  unfold R
  go_wp2_with fail
  refine (Good_R k q _ HH.out.1 HH.out.2.1 (HH.out.2.2.next HB0.out)).mono ?_
  rintro e w1 ⟨rfl, hb1⟩
  have hk0 : Blk w1 w.heap.size 35 (RC q) := ((Blk.new w _ _).alloc _).belowB hb1
  have hk1 : Blk w1 (w.heap.size + 1) 35 #[.bool false, .string ⟨#[]⟩, .string ⟨#[]⟩] := (Blk.at_ (by simp)).belowB hb1
  obtain ⟨c0, c1, c2, -, -, -⟩ := Blk.three hk0
  obtain ⟨d0, d1, d2, f0, f1, f2⟩ := hk1.three
  have HB1 := Lib.hid (And.intro hb1 (And.intro hk0 hk1)); clear hb1 hk0 hk1
  go_wp2_with fail
  have hW := put3 HB1.out.2.2 (.bool (decide (q.num < 0))) (.string (S q.num.natAbs)) (.string (S q.den))
  have hWb := put3_below (g := w.heap.size + 1) (below_next HB0.out HB1.out.1) (Nat.le_succ _) (.bool (decide (q.num < 0))) (.string (S q.num.natAbs)) (.string (S q.den))
  obtain ⟨e0, e1, e2, -, -, -⟩ := hW.three
  refine bodyPost_ret (v := R q) (by simp [results, Tryd.results56, go_sem, e0, e1, e2]; rfl) rfl ⟨rfl, hWb⟩
end Go.Proofs.YtlfddhiimcophaaDoor
