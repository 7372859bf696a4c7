/- Joined texts. -/
import Derived.Test.YtekbpiooecdopaaDoorBunNatC
import Derived.Test.YtekbpiooecdopaaDoorBunLib
import Derived.Deep.DeepCutAuto
import Derived.Deep.RegionHeld3
import Derived.Deep.QuietTactic
import Derived.BigQuiet
import Derived.Deep.RegionWith

/- Rational numbers as values of the program; zero, Good, fit. -/
namespace Go.Proofs.YtekbpiooecdopaaDoor
open Go.RowKit
set_option linter.unusedVariables false
set_option linter.unusedSimpArgs false

/-- the cells of a number -/
def RC (q : Rat) : Array Value := #[.bool (decide (q.num < 0)), .string (S q.num.natAbs), .string (S q.den)]
/-- a number as a value -/
def R (q : Rat) : Value := .agg #[.bool (decide (q.num < 0)), .string (S q.num.natAbs), .string (S q.den)]
/-- numerator and denominator have at most k bytes -/
def Rz (k : Nat) (q : Rat) : Prop := Sz k q.num.natAbs ∧ Sz k q.den
theorem Rz.more {k l : Nat} {q : Rat} (h : Rz k q) (hk : k ≤ l) : Rz l q := ⟨h.1.more hk, h.2.more hk⟩

theorem zero_R (w : World) : Calls Tryd.prog 30 #[] w fun e w' => e = .returned (R 0) ∧ Below w.heap.size w w' := by
  go_enter Tryd.func30, Tryd.ntmps30
  go_wp2_with fail
  refine bodyPost_ret (v := R 0) (by simp [results, Tryd.results30, go_sem]; rfl) rfl ⟨rfl, (Below.refl _ _).alloc (Nat.le_refl _) _⟩

theorem S_ne_one {n : Nat} (h : n ≠ 1) : ¬ (S n).toList = [1] := by
  rw [S_list]; intro h2
  exact h (bstr_inj (h2.trans (by decide)))
theorem S_beq_one {n : Nat} (h : n ≠ 1) : ((S n).toList == [1]) = false := by rw [beq_eq_false_iff_ne]; exact S_ne_one h
theorem S_head {n : Nat} (h : n ≠ 0) : ∃ h0 : 0 < (S n).size, (((S n)[0].toNat : Int) == 0) = false := by
  have h1 : 0 < (S n).size := by rw [S_size]; exact bstr_pos (Nat.pos_of_ne_zero h)
  refine ⟨h1, ?_⟩
  have h2 := bare_bstr n
  have h3 := byte_zero (S n) h1
  rw [toL_S] at h3
  rw [h3] at h2
  have h4 : (S n)[0] ≠ 0 := by simpa [Bare] using h2
  rw [beq_eq_false_iff_ne]; intro h; exact h4 (UInt8.toNat_inj.1 (by simpa using h))
theorem S_nil {n : Nat} (h : n ≠ 0) : ¬ (S n).toList = [] := by
  rw [S_list]; intro h2; exact h (bstr_eq_nil.1 h2)

theorem good_yes (s : Bool) (n d k : Nat) (w : World) (hd : d ≠ 0) (h0 : n = 0 → s = false ∧ d = 1) (hg : Nat.gcd n d = 1) (hn : Sz k n) (hdk : Sz k d) (hk : k ≤ 35184372088832) (hT : Tab w) :
    Calls Tryd.prog 23 #[.agg #[.bool s, .string (S n), .string (S d)]] w fun e w' => e = .returned (.bool true) ∧ Below w.heap.size w w' := by
  have he := S_empty_of hd
  obtain ⟨hd1, hd2⟩ := S_head hd
  have hd3 := S_nil hd
  have HH := Lib.hid (And.intro hg (And.intro hn (And.intro hdk (And.intro hk hT)))); clear hg hn hdk hk hT
  have h1 : (S 1).toList = [1] := by rw [S_list]; decide
  by_cases hz : n = 0
  · subst hz
    obtain ⟨rfl, rfl⟩ := h0 rfl
    have hz1 : (S 0).toList = [] := by rw [S_list]; rfl
    have hz2 : (S 0).toList.isEmpty = true := by rw [S_list]; rfl
    clear h0
    go_enter Tryd.func23, Tryd.ntmps23
    go_wp2_with fail
    go_ret
    exact ⟨rfl, (Below.refl _ _).alloc (Nat.le_refl _) _⟩
  · have hn0 := S_empty_of hz
    obtain ⟨hn1, hn2⟩ := S_head hz
    have hn3 := S_nil hz
    clear h0
    by_cases hd9 : d = 1
    · subst hd9
      go_enter Tryd.func23, Tryd.ntmps23
      go_wp2_with fail
      go_ret
      exact ⟨rfl, (Below.refl _ _).alloc (Nat.le_refl _) _⟩
    · have hd4 := S_ne_one hd9
      go_enter Tryd.func23, Tryd.ntmps23
      go_wp2_with fail
      refine (gcd_S n d _ (Nat.le_trans HH.out.2.1 HH.out.2.2.2.1) (Nat.le_trans HH.out.2.2.1 HH.out.2.2.2.1) (HH.out.2.2.2.2.next ((Below.refl _ _).alloc (Nat.le_refl _) _))).mono ?_
      rw [HH.out.1]
      rintro e w1 ⟨rfl, hb1⟩
      have HB1 := Lib.hid hb1; clear hb1
      go_wp2_with fail
      go_ret
      exact ⟨rfl, below_next ((Below.refl _ _).alloc (Nat.le_refl _) _) HB1.out⟩
theorem good_no (s : Bool) (n d k : Nat) (w : World) (hd : d ≠ 0) (h0 : n ≠ 0) (hg : Nat.gcd n d ≠ 1) (hn : Sz k n) (hdk : Sz k d) (hk : k ≤ 35184372088832) (hT : Tab w) :
    Calls Tryd.prog 23 #[.agg #[.bool s, .string (S n), .string (S d)]] w fun e w' => e = .returned (.bool false) ∧ Below w.heap.size w w' := by
  have he := S_empty_of hd
  obtain ⟨hd1, hd2⟩ := S_head hd
  have hd3 := S_nil hd
  have hd9 : d ≠ 1 := by rintro rfl; exact hg (Nat.gcd_one_right n)
  have hg4 := S_ne_one hg
  have HH := Lib.hid (And.intro hg (And.intro hn (And.intro hdk (And.intro hk hT)))); clear hg hn hdk hk hT
  have hn0 := S_empty_of h0
  obtain ⟨hn1, hn2⟩ := S_head h0
  have hn3 := S_nil h0
  have hd4 := S_ne_one hd9
  go_enter Tryd.func23, Tryd.ntmps23
  go_wp2_with fail
  refine (gcd_S n d _ (Nat.le_trans HH.out.2.1 HH.out.2.2.2.1) (Nat.le_trans HH.out.2.2.1 HH.out.2.2.2.1) (HH.out.2.2.2.2.next ((Below.refl _ _).alloc (Nat.le_refl _) _))).mono ?_
  rintro e w1 ⟨rfl, hb1⟩
  have HB1 := Lib.hid hb1; clear hb1
  go_wp2_with fail
  go_ret
  refine ⟨congrArg (fun b => Ending.returned (.bool b)) (show ((S d).toList == [1] || (S (Nat.gcd n d)).toList == [1]) = false from ?_), below_next ((Below.refl _ _).alloc (Nat.le_refl _) _) HB1.out⟩
  simp [hd4, hg4]

theorem put3 {w : World} {g : Nat} {t : TypeId} {a b c : Value} (h : Blk w g t #[a, b, c]) (x y z : Value) :
    Blk (((w.setCell ⟨g, 0, none⟩ x).setCell ⟨g, 1, none⟩ y).setCell ⟨g, 2, none⟩ z) g t #[x, y, z] := ((h.set_ 0 x).set_ 1 y).set_ 2 z
theorem Blk.three {w : World} {g : Nat} {t : TypeId} {a b c : Value} (h : Blk w g t #[a, b, c]) : w.cell? ⟨g, 0, none⟩ = some a ∧ w.cell? ⟨g, 1, none⟩ = some b ∧ w.cell? ⟨g, 2, none⟩ = some c ∧ w.frozen? ⟨g, 0, none⟩ = false ∧ w.frozen? ⟨g, 1, none⟩ = false ∧ w.frozen? ⟨g, 2, none⟩ = false :=
  ⟨h.cell 0, h.cell 1, h.cell 2, h.frozen 0, h.frozen 1, h.frozen 2⟩
theorem put3_below {B : Nat} {w w' : World} {g : Nat} (h : Below B w w') (hg : B ≤ g) (x y z : Value) : Below B w (((w'.setCell ⟨g, 0, none⟩ x).setCell ⟨g, 1, none⟩ y).setCell ⟨g, 2, none⟩ z) := ((h.setCell hg x).setCell hg y).setCell hg z

theorem R_sign (q : Rat) : q.num.natAbs = 0 → decide (q.num < 0) = false ∧ q.den = 1 := by
  intro h
  have h1 : q.num = 0 := by omega
  have h2 : q = 0 := Rat.num_eq_zero.1 h1
  subst h2
  exact ⟨rfl, rfl⟩
theorem Good_R (k : Nat) (q : Rat) (w : World) (hq : Rz k q) (hk : k ≤ 35184372088832) (hT : Tab w) :
    Calls Tryd.prog 23 #[R q] w fun e w' => e = .returned (.bool true) ∧ Below w.heap.size w w' :=
  good_yes _ _ _ k w q.den_nz (R_sign q) q.reduced hq.1 hq.2 hk hT
theorem fit_R (k : Nat) (q : Rat) (w : World) (hq : Rz k q) (hk : k ≤ 35184372088832) (hT : Tab w) :
    Calls Tryd.prog 19 #[R q] w fun e w' => e = .returned (R q) ∧ Below w.heap.size w w' := by
  have HH := Lib.hid (And.intro hq (And.intro hk hT)); clear hq hk hT
  have hb0 : Below w.heap.size w ((w.alloc (.cells (RC q) 28)).alloc (.cells #[.bool false, .string ⟨#[]⟩, .string ⟨#[]⟩] 28)) := ((Below.refl _ _).alloc (Nat.le_refl _) _).alloc (by simp) _
  have HB0 := Lib.hid hb0; clear hb0
  go_enter Tryd.func19, Tryd.ntmps19
  unfold R
  go_wp2_with fail
  refine (Good_R k q _ HH.out.1 HH.out.2.1 (HH.out.2.2.next HB0.out)).mono ?_
  rintro e w1 ⟨rfl, hb1⟩
  have hk0 : Blk w1 w.heap.size 28 (RC q) := ((Blk.new w _ _).alloc _).belowB hb1
  have hk1 : Blk w1 (w.heap.size + 1) 28 #[.bool false, .string ⟨#[]⟩, .string ⟨#[]⟩] := (Blk.at_ (by simp)).belowB hb1
  obtain ⟨c0, c1, c2, -, -, -⟩ := Blk.three hk0
  obtain ⟨d0, d1, d2, f0, f1, f2⟩ := hk1.three
  have HB1 := Lib.hid (And.intro hb1 (And.intro hk0 hk1)); clear hb1 hk0 hk1
  go_wp2_with fail
  have hW := put3 HB1.out.2.2 (.bool (decide (q.num < 0))) (.string (S q.num.natAbs)) (.string (S q.den))
  have hWb := put3_below (g := w.heap.size + 1) (below_next HB0.out HB1.out.1) (Nat.le_succ _) (.bool (decide (q.num < 0))) (.string (S q.num.natAbs)) (.string (S q.den))
  obtain ⟨e0, e1, e2, -, -, -⟩ := hW.three
  refine bodyPost_ret (v := R q) (by simp [results, Tryd.results19, go_sem, e0, e1, e2]; rfl) rfl ⟨rfl, hWb⟩
end Go.Proofs.YtekbpiooecdopaaDoor

/- Walks of package rat: signed, made. -/
namespace Go.Proofs.YtekbpiooecdopaaDoor
open Go.RowKit
set_option linter.unusedVariables false
set_option linter.unusedSimpArgs false

theorem hide' {p : Prop} (h : p) : Hid p := h
/-- a natural number with a sign -/
def sg (s : Bool) (n : Nat) : Int := if s then -(n : Int) else n
theorem sg_natAbs (s : Bool) (n : Nat) : (sg s n).natAbs = n := by unfold sg; split <;> simp
theorem sg_num (q : Rat) : sg (decide (q.num < 0)) q.num.natAbs = q.num := by
  unfold sg; by_cases h : q.num < 0
  · rw [if_pos (by simpa using h)]; omega
  · rw [if_neg (by simpa using h)]; omega
theorem R_eq (s : Bool) (n d : Nat) (hn : n ≠ 0) (hd : d ≠ 0) : R (mkRat (sg s n) d) = .agg #[.bool s, .string (S (n / Nat.gcd n d)), .string (S (d / Nat.gcd n d))] := by
  have hg : 0 < Nat.gcd n d := Nat.gcd_pos_of_pos_left _ (Nat.pos_of_ne_zero hn)
  have h1 : (mkRat (sg s n) d).num = sg s (n / Nat.gcd n d) := by
    rw [Rat.num_mkRat, if_neg hd, sg_natAbs, Nat.gcd_comm]
    unfold sg; split
    · rw [Int.neg_ediv_of_dvd (Int.natCast_dvd_natCast.2 (Nat.gcd_dvd_left n d)), Int.natCast_ediv]
    · rw [Int.natCast_ediv]
  have h2 : (mkRat (sg s n) d).den = d / Nat.gcd n d := by
    rw [Rat.den_mkRat, if_neg hd, sg_natAbs, Nat.gcd_comm]
  have h3 : 0 < n / Nat.gcd n d := Nat.div_pos (gcd_le' (Nat.pos_of_ne_zero hn)) hg
  have h4 : decide (sg s (n / Nat.gcd n d) < 0) = s := by
    generalize n / Nat.gcd n d = m at h3
    unfold sg; cases s
    · simp
    · simp; omega
  unfold R
  rw [h1, h2, sg_natAbs, h4]


theorem R_zero : R 0 = .agg #[.bool false, .string (S 0), .string (S 1)] := rfl
theorem zero_V (w : World) : Calls Tryd.prog 30 #[] w fun e w' => e = .returned (.agg #[.bool false, .string (S 0), .string (S 1)]) ∧ Below w.heap.size w w' := zero_R w
theorem sg_zero (s : Bool) (d : Nat) : mkRat (sg s 0) d = 0 := by
  have : sg s 0 = 0 := by unfold sg; cases s <;> rfl
  rw [this]; exact Rat.zero_mkRat d

theorem made_R (s : Bool) (n d k : Nat) (w : World) (hd : d ≠ 0) (hn : Sz k n) (hdk : Sz k d) (hk : k ≤ 35184372088832) (hT : Tab w) :
    Calls Tryd.prog 42 #[.bool s, .string (S n), .string (S d)] w fun e w' => e = .returned (R (mkRat (sg s n) d)) ∧ Below w.heap.size w w' := by
  have HH := Lib.hid (And.intro (Nat.le_trans hn hk) (And.intro (Nat.le_trans hdk hk) hT)); clear hn hdk hk hT
  have hb0 : Below w.heap.size w (w.alloc (.cells #[.bool false, .string ⟨#[]⟩, .string ⟨#[]⟩] 28)) := (Below.refl _ _).alloc (Nat.le_refl _) _
  have HB0 := Lib.hid hb0; clear hb0
  have hs1 : (S 1).toList = [1] := by rw [S_list]; decide
  by_cases h0 : n = 0
  · subst h0
    have hz : (S 0).toList.isEmpty = true := by rw [S_list]; rfl
    rw [sg_zero, R_zero]
    go_enter Tryd.func42, Tryd.ntmps42
    go_wp2_with fail
    refine (zero_V _).mono ?_
    rintro e w1 ⟨rfl, hb1⟩
    have hk1 : Blk w1 w.heap.size 28 #[.bool false, .string ⟨#[]⟩, .string ⟨#[]⟩] := (Blk.new w _ _).belowB hb1
    obtain ⟨d0, d1, d2, f0, f1, f2⟩ := hk1.three
    have HB1 := Lib.hid (And.intro hb1 hk1); clear hb1 hk1
    go_wp2_with fail
    have hW := put3 HB1.out.2 (.bool false) (.string (S 0)) (.string (S 1))
    have hWb := put3_below (g := w.heap.size) (below_next HB0.out HB1.out.1) (Nat.le_refl _) (.bool false) (.string (S 0)) (.string (S 1))
    obtain ⟨e0, e1, e2, -, -, -⟩ := hW.three
    refine bodyPost_ret (v := .agg #[.bool false, .string (S 0), .string (S 1)]) (by simp [results, Tryd.results42, go_sem, e0, e1, e2]) rfl ⟨rfl, hWb⟩
  · have he := S_empty_of h0
    rw [R_eq s n d h0 hd]
    by_cases h1 : d = 1
    · subst h1
      rw [Nat.gcd_one_right, Nat.div_one, Nat.div_one]
      go_enter Tryd.func42, Tryd.ntmps42
      go_wp2_with fail
      refine bodyPost_ret (v := .agg #[.bool s, .string (S n), .string (S 1)]) (by simp [results, Tryd.results42, go_sem]) rfl ⟨rfl, (Below.refl _ _).alloc (Nat.le_refl _) _⟩
    · have hd1 := S_ne_one h1
      have hd2 := S_beq_one h1
      by_cases h2 : Nat.gcd n d = 1
      · rw [h2, Nat.div_one, Nat.div_one]
        have H2 := Lib.hid h2; clear h2
        go_enter Tryd.func42, Tryd.ntmps42
        go_wp2_with fail
        refine (gcd_S n d _ HH.out.1 HH.out.2.1 (HH.out.2.2.next HB0.out)).mono ?_
        rw [H2.out]
        rintro e w1 ⟨rfl, hb1⟩
        have hk1 : Blk w1 w.heap.size 28 #[.bool false, .string ⟨#[]⟩, .string ⟨#[]⟩] := (Blk.new w _ _).belowB hb1
        obtain ⟨d0, d1, d2, f0, f1, f2⟩ := hk1.three
        have HB1 := Lib.hid (And.intro hb1 hk1); clear hb1 hk1
        go_wp2_with fail
        have hW := put3 HB1.out.2 (.bool s) (.string (S n)) (.string (S d))
        have hWb := put3_below (g := w.heap.size) (below_next HB0.out HB1.out.1) (Nat.le_refl _) (.bool s) (.string (S n)) (.string (S d))
        obtain ⟨e0, e1, e2, -, -, -⟩ := hW.three
        refine bodyPost_ret (v := .agg #[.bool s, .string (S n), .string (S d)]) (by simp [results, Tryd.results42, go_sem, e0, e1, e2]) rfl ⟨rfl, hWb⟩
      · have hg1 := S_ne_one h2
        have hg2 := S_beq_one h2
        have hg0 : Nat.gcd n d ≠ 0 := Nat.ne_of_gt (Nat.gcd_pos_of_pos_left _ (Nat.pos_of_ne_zero h0))
        have hgl := Nat.le_trans (len_le_of_le (gcd_le' (b := d) (Nat.pos_of_ne_zero h0))) HH.out.1
        have H2 := Lib.hid (And.intro hg0 hgl); clear hg0 hgl h2
        go_enter Tryd.func42, Tryd.ntmps42
        go_wp2_with fail
        refine (gcd_S n d _ HH.out.1 HH.out.2.1 (HH.out.2.2.next HB0.out)).mono ?_
        rintro e w1 ⟨rfl, hb1⟩
        have HB1 := Lib.hid hb1; clear hb1
        go_wp2_with fail
        refine (div_S n (Nat.gcd n d) _ H2.out.1 HH.out.1 H2.out.2).mono ?_
        rintro e w2 ⟨rfl, hb2⟩
        have HB2 := Lib.hid hb2; clear hb2
        go_wp2_with fail
        refine (div_S d (Nat.gcd n d) _ H2.out.1 HH.out.2.1 H2.out.2).mono ?_
        rintro e w3 ⟨rfl, hb3⟩
        have hk3 : Blk w3 w.heap.size 28 #[.bool false, .string ⟨#[]⟩, .string ⟨#[]⟩] := (((Blk.new w _ _).belowB HB1.out).belowB HB2.out).belowB hb3
        have hbb := below_next (below_next (below_next HB0.out HB1.out) HB2.out) hb3
        obtain ⟨d0, d1, d2, f0, f1, f2⟩ := hk3.three
        have HB3 := Lib.hid (And.intro hbb hk3); clear hbb hb3 hk3
        go_wp2_with fail
        have hW := put3 HB3.out.2 (.bool s) (.string (S (n / Nat.gcd n d))) (.string (S (d / Nat.gcd n d)))
        have hWb := put3_below (g := w.heap.size) HB3.out.1 (Nat.le_refl _) (.bool s) (.string (S (n / Nat.gcd n d))) (.string (S (d / Nat.gcd n d)))
        obtain ⟨e0, e1, e2, -, -, -⟩ := hW.three
        refine bodyPost_ret (v := .agg #[.bool s, .string (S (n / Nat.gcd n d)), .string (S (d / Nat.gcd n d))]) (by simp [results, Tryd.results42, go_sem, e0, e1, e2]) rfl ⟨rfl, hWb⟩
end Go.Proofs.YtekbpiooecdopaaDoor

/- Walks of package rat: the frame of a function of two numbers. -/
namespace Go.Proofs.YtekbpiooecdopaaDoor
open Go.RowKit
set_option linter.unusedVariables false
set_option linter.unusedSimpArgs false

/-- the parts of a number's value -/
structure RIs (q : Rat) (s : Bool) (a d : ByteArray) : Prop where
  s : s = decide (q.num < 0)
  a : a = S q.num.natAbs
  d : d = S q.den
theorem RIs.val {q : Rat} {s : Bool} {a d : ByteArray} (h : RIs q s a d) : R q = .agg #[.bool s, .string a, .string d] := by rw [h.s, h.a, h.d]; rfl
theorem R_parts (q : Rat) : ∃ s a d, RIs q s a d := ⟨_, _, _, rfl, rfl, rfl⟩

section
variable {w w' w3 : World} {s1 s2 : Bool} {a1 d1 a2 d2 : ByteArray}
end
end Go.Proofs.YtekbpiooecdopaaDoor

/- Walks of package rat: Mul. -/
namespace Go.Proofs.YtekbpiooecdopaaDoor
open Go.RowKit
set_option linter.unusedVariables false
set_option linter.unusedSimpArgs false


end Go.Proofs.YtekbpiooecdopaaDoor

/- Walks of package rat: Cmp (printed by ratgen.py). -/
namespace Go.Proofs.YtekbpiooecdopaaDoor
open Go.RowKit
set_option linter.unusedVariables false
set_option linter.unusedSimpArgs false

theorem mul_G (m n k : Nat) {a b : ByteArray} (w : World) (ha : a = S m) (hb : b = S n) (h : Sz k m) (h' : Sz k n) (hk : k ≤ 35184372088832) :
    Calls Tryd.prog 21 #[.string a, .string b] w fun e w' => e = .returned (.string (S (m * n))) ∧ Below w.heap.size w w' := by
  rw [ha, hb]; exact mul_S m n w (Nat.le_trans h hk) (Nat.le_trans h' hk)
theorem cmp_G (m n k : Nat) (w : World) (h : Sz (k + k) m) (h' : Sz (k + k) n) (hk : k ≤ 35184372088832) :
    Calls Tryd.prog 20 #[.string (S m), .string (S n)] w fun e w' => e = .returned (.int .i64 (cmpZ m n)) ∧ w = w' := cmp_S m n w (by unfold Sz at h; omega) (by unfold Sz at h'; omega)
/-- how two numbers compare -/
def cmpQ (x y : Rat) : Int := if x < y then -1 else if y < x then 1 else 0
theorem cmpZ_mul (x y : Rat) (hx : 0 ≤ x.num) (hy : 0 ≤ y.num) : cmpZ (x.num.natAbs * y.den) (y.num.natAbs * x.den) = cmpQ x y := by
  unfold cmpZ cmpQ
  have e1 : ((x.num.natAbs * y.den : Nat) : Int) = x.num * y.den := by rw [Int.natCast_mul, Int.natAbs_of_nonneg hx]
  have e2 : ((y.num.natAbs * x.den : Nat) : Int) = y.num * x.den := by rw [Int.natCast_mul, Int.natAbs_of_nonneg hy]
  simp only [Rat.lt_iff, ← e1, ← e2, Int.ofNat_lt]
theorem cmpZ_neg (x y : Rat) (hx : x.num < 0) (hy : y.num < 0) : -cmpZ (x.num.natAbs * y.den) (y.num.natAbs * x.den) = cmpQ x y := by
  unfold cmpZ cmpQ
  have e1 : ((x.num.natAbs * y.den : Nat) : Int) = -(x.num * y.den) := by rw [Int.natCast_mul, Int.ofNat_natAbs_of_nonpos (by omega), Int.neg_mul]
  have e2 : ((y.num.natAbs * x.den : Nat) : Int) = -(y.num * x.den) := by rw [Int.natCast_mul, Int.ofNat_natAbs_of_nonpos (by omega), Int.neg_mul]
  simp only [Rat.lt_iff]
  generalize x.num * y.den = p at *
  generalize y.num * x.den = q at *
  split <;> split <;> (try split) <;> (try split) <;> omega
theorem cmpQ_np (x y : Rat) (hx : x.num < 0) (hy : 0 ≤ y.num) : cmpQ x y = -1 := by
  unfold cmpQ; rw [if_pos]
  rw [Rat.lt_iff]
  have h1 : x.num * y.den < 0 := Int.mul_neg_of_neg_of_pos hx (by have := y.den_pos; omega)
  have h2 : 0 ≤ y.num * x.den := Int.mul_nonneg hy (by omega)
  omega
theorem cmpQ_pn (x y : Rat) (hx : 0 ≤ x.num) (hy : y.num < 0) : cmpQ x y = 1 := by
  have h1 : y.num * x.den < 0 := Int.mul_neg_of_neg_of_pos hy (by have := x.den_pos; omega)
  have h2 : 0 ≤ x.num * y.den := Int.mul_nonneg hx (by omega)
  unfold cmpQ; rw [if_neg (by rw [Rat.lt_iff]; omega), if_pos (by rw [Rat.lt_iff]; omega)]

end Go.Proofs.YtekbpiooecdopaaDoor

/- Walks of package rat: Add (printed by ratgen.py). -/
namespace Go.Proofs.YtekbpiooecdopaaDoor
open Go.RowKit
set_option linter.unusedVariables false
set_option linter.unusedSimpArgs false

theorem sg_mul_nat (s : Bool) (m n : Nat) : sg s (m * n) = sg s m * n := by
  unfold sg; split
  · rw [Int.natCast_mul, Int.neg_mul]
  · rw [Int.natCast_mul]
theorem RIs.sg {q : Rat} {s : Bool} {a d : ByteArray} (h : RIs q s a d) : Go.Proofs.YtekbpiooecdopaaDoor.sg s q.num.natAbs = q.num := by rw [h.s]; exact sg_num q
theorem sz_abs {k : Nat} {a b : Int} {u : Bool} {n : Nat} (h : sg u n = a + b) (ha : Sz k a.natAbs) (hb : Sz k b.natAbs) : Sz (k + k + 1) n := by
  have h1 : n = (a + b).natAbs := by rw [← h, sg_natAbs]
  exact (ha.add hb).le (by omega)
theorem made_G (u : Bool) (n k : Nat) (m : Nat) (q : Rat) {s3 : Bool} {a3 d3 d : ByteArray} (w : World) (h3 : RIs q s3 a3 d3) (hd : d = S m) (hm : m ≠ 0) (hq : mkRat (sg u n) m = q) (h : Sz k n) (h' : Sz k m) (hk : k ≤ 35184372088832) (hT : Tab w) :
    Calls Tryd.prog 42 #[.bool u, .string (S n), .string d] w fun e w' => e = .returned (.agg #[.bool s3, .string a3, .string d3]) ∧ Below w.heap.size w w' := by
  rw [hd, ← h3.val, ← hq]; exact made_R u n m k w hm h h' hk hT
theorem add_same {x y : Rat} (h : x.den = y.den) : mkRat (x.num + y.num) x.den = x + y := by
  rw [Rat.add_def', ← h, ← Int.add_mul]
  exact (Rat.mkRat_mul_right x.den_nz).symm
theorem S_inj' {m n : Nat} (h : S m = S n) : m = n := bstr_inj (by rw [← toL_S, h]; rfl)
theorem S_eq_iff (m n : Nat) : ((S m).toList == (S n).toList) = decide (m = n) := by
  rw [S_list, S_list]
  by_cases h : m = n
  · subst h; simp
  · rw [decide_eq_false h, beq_eq_false_iff_ne]; intro e; exact h (bstr_inj e)

end Go.Proofs.YtekbpiooecdopaaDoor

/- Walks of package rat: Div (printed by ratgen.py). -/
namespace Go.Proofs.YtekbpiooecdopaaDoor
open Go.RowKit
set_option linter.unusedVariables false
set_option linter.unusedSimpArgs false



end Go.Proofs.YtekbpiooecdopaaDoor
