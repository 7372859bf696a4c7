import Derived.Test.YtmchjmflkaiakaaGreatDoorBunNatC
import Derived.Test.YtmchjmflkaiakaaGreatDoorBunLib
import Derived.Deep.DeepCutAuto
import Derived.Deep.RegionHeld3
import Derived.Deep.QuietTactic
import Derived.BigQuiet
import Derived.Deep.RegionWith
/- Rational numbers as values of the program; zero, Good, fit. -/
set_option maxHeartbeats 2000000
namespace Go.Proofs.YtmchjmflkaiakaaGreatDoor
open Go.RowKit
set_option linter.unusedVariables false
set_option linter.unusedSimpArgs false
def RC (q : Rat) : Array Value := #[.bool (decide (q.num < 0)), .string (S q.num.natAbs), .string (S q.den)]
def R (q : Rat) : Value := .agg #[.bool (decide (q.num < 0)), .string (S q.num.natAbs), .string (S q.den)]
def Rz (k : Nat) (q : Rat) : Prop := Sz k q.num.natAbs ∧ Sz k q.den
theorem Rz.more {k l : Nat} {q : Rat} (h : Rz k q) (hk : k ≤ l) : Rz l q := ⟨h.1.more hk, h.2.more hk⟩
theorem zero_R (w : World) : Calls Tryz.prog 126 #[] w fun e w' => e = .returned (R 0) ∧ Below w.heap.size w w' := by
 go_enter Tryz.func126, Tryz.ntmps126
 go_wp2_with fail
 refine bodyPost_ret (v := R 0) (by simp [results, Tryz.results126, go_sem]; rfl) rfl ⟨rfl, (Below.refl _ _).alloc (Nat.le_refl _) _⟩
theorem S_one : S 1 = ⟨#[1]⟩ := by decide
theorem S_ne_one {n : Nat} (h : n ≠ 1) : ¬ (S n).toList = [1] := by
 rw [S_list]; intro h2
 exact h (bstr_inj (h2.trans (by decide)))
theorem S_beq_one {n : Nat} (h : n ≠ 1) : ((S n).toList == [1]) = false := by rw [beq_eq_false_iff_ne]; exact S_ne_one h
theorem S_head {n : Nat} (h : n ≠ 0) : ∃ h0 : 0 < (S n).size, (((S n)[0].toNat : Int) == 0) = false := by
 have h1 : 0 < (S n).size := by rw [S_size]; exact bstr_pos (Nat.pos_of_ne_zero h)
 refine ⟨h1, ?_⟩
 have h2 := bare_bstr n
 have h3 := byte_zero (S n) h1
 rw [toL_S] at h3
 rw [h3] at h2
 have h4 : (S n)[0] ≠ 0 := by simpa [Bare] using h2
 rw [beq_eq_false_iff_ne]; intro h; exact h4 (UInt8.toNat_inj.1 (by simpa using h))
theorem S_nil {n : Nat} (h : n ≠ 0) : ¬ (S n).toList = [] := by
 rw [S_list]; intro h2; exact h (bstr_eq_nil.1 h2)
theorem good_yes (s : Bool) (n d k : Nat) (w : World) (hd : d ≠ 0) (h0 : n = 0 → s = false ∧ d = 1) (hg : Nat.gcd n d = 1) (hn : Sz k n) (hdk : Sz k d) (hk : k ≤ 35184372088832) (hT : Tab w) :
  Calls Tryz.prog 125 #[.agg #[.bool s, .string (S n), .string (S d)]] w fun e w' => e = .returned (.bool true) ∧ Below w.heap.size w w' := by
 have he := S_empty_of hd
 obtain ⟨hd1, hd2⟩ := S_head hd
 have hd3 := S_nil hd
 have HH := yh (And.intro hg (And.intro hn (And.intro hdk (And.intro hk hT)))); clear hg hn hdk hk hT
 have h1 : (S 1).toList = [1] := by rw [S_list]; decide
 by_cases hz : n = 0
 ·subst hz
  obtain ⟨rfl, rfl⟩ := h0 rfl
  have hz1 : (S 0).toList = [] := by rw [S_list]; rfl
  have hz2 : (S 0).toList.isEmpty = true := by rw [S_list]; rfl
  clear h0
  go_enter Tryz.func125, Tryz.ntmps125
  go_wp2_with fail
  go_ret
  exact ⟨rfl, (Below.refl _ _).alloc (Nat.le_refl _) _⟩
 ·have hn0 := S_empty_of hz
  obtain ⟨hn1, hn2⟩ := S_head hz
  have hn3 := S_nil hz
  clear h0
  by_cases hd9 : d = 1
  ·subst hd9
   go_enter Tryz.func125, Tryz.ntmps125
   go_wp2_with fail
   go_ret
   exact ⟨rfl, (Below.refl _ _).alloc (Nat.le_refl _) _⟩
  ·have hd4 := S_ne_one hd9
   go_enter Tryz.func125, Tryz.ntmps125
   go_wp2_with fail
   refine (gcd_S n d _ (Nat.le_trans HH.out.2.1 HH.out.2.2.2.1) (Nat.le_trans HH.out.2.2.1 HH.out.2.2.2.1) (HH.out.2.2.2.2.next ((Below.refl _ _).alloc (Nat.le_refl _) _))).mono ?_
   rw [HH.out.1]
   rintro e w1 ⟨rfl, hb1⟩
   have HB1 := yh hb1; clear hb1
   go_wp2_with fail
   go_ret
   exact ⟨rfl, below_next ((Below.refl _ _).alloc (Nat.le_refl _) _) HB1.out⟩
theorem good_no (s : Bool) (n d k : Nat) (w : World) (hd : d ≠ 0) (h0 : n ≠ 0) (hg : Nat.gcd n d ≠ 1) (hn : Sz k n) (hdk : Sz k d) (hk : k ≤ 35184372088832) (hT : Tab w) :
  Calls Tryz.prog 125 #[.agg #[.bool s, .string (S n), .string (S d)]] w fun e w' => e = .returned (.bool false) ∧ Below w.heap.size w w' := by
 have he := S_empty_of hd
 obtain ⟨hd1, hd2⟩ := S_head hd
 have hd3 := S_nil hd
 have hd9 : d ≠ 1 := by rintro rfl; exact hg (Nat.gcd_one_right n)
 have hg4 := S_ne_one hg
 have HH := yh (And.intro hg (And.intro hn (And.intro hdk (And.intro hk hT)))); clear hg hn hdk hk hT
 have hn0 := S_empty_of h0
 obtain ⟨hn1, hn2⟩ := S_head h0
 have hn3 := S_nil h0
 have hd4 := S_ne_one hd9
 go_enter Tryz.func125, Tryz.ntmps125
 go_wp2_with fail
 refine (gcd_S n d _ (Nat.le_trans HH.out.2.1 HH.out.2.2.2.1) (Nat.le_trans HH.out.2.2.1 HH.out.2.2.2.1) (HH.out.2.2.2.2.next ((Below.refl _ _).alloc (Nat.le_refl _) _))).mono ?_
 rintro e w1 ⟨rfl, hb1⟩
 have HB1 := yh hb1; clear hb1
 go_wp2_with fail
 go_ret
 refine ⟨congrArg (fun b => Ending.returned (.bool b)) (show ((S d).toList == [1] || (S (Nat.gcd n d)).toList == [1]) = false from ?_), below_next ((Below.refl _ _).alloc (Nat.le_refl _) _) HB1.out⟩
 simp [hd4, hg4]
theorem put3 {w : World} {g : Nat} {t : TypeId} {a b c : Value} (h : Blk w g t #[a, b, c]) (x y z : Value) :
  Blk (((w.setCell ⟨g, 0, none⟩ x).setCell ⟨g, 1, none⟩ y).setCell ⟨g, 2, none⟩ z) g t #[x, y, z] := ((h.set_ 0 x).set_ 1 y).set_ 2 z
theorem Blk.three {w : World} {g : Nat} {t : TypeId} {a b c : Value} (h : Blk w g t #[a, b, c]) : w.cell? ⟨g, 0, none⟩ = some a ∧ w.cell? ⟨g, 1, none⟩ = some b ∧ w.cell? ⟨g, 2, none⟩ = some c ∧ w.frozen? ⟨g, 0, none⟩ = false ∧ w.frozen? ⟨g, 1, none⟩ = false ∧ w.frozen? ⟨g, 2, none⟩ = false :=
 ⟨h.cell 0, h.cell 1, h.cell 2, h.frozen 0, h.frozen 1, h.frozen 2⟩
theorem put3_below {B : Nat} {w w' : World} {g : Nat} (h : Below B w w') (hg : B ≤ g) (x y z : Value) : Below B w (((w'.setCell ⟨g, 0, none⟩ x).setCell ⟨g, 1, none⟩ y).setCell ⟨g, 2, none⟩ z) := ((h.setCell hg x).setCell hg y).setCell hg z
theorem R_sign (q : Rat) : q.num.natAbs = 0 → decide (q.num < 0) = false ∧ q.den = 1 := by
 intro h
 have h1 : q.num = 0 := by omega
 have h2 : q = 0 := Rat.num_eq_zero.1 h1
 subst h2
 exact ⟨rfl, rfl⟩
theorem Good_R (k : Nat) (q : Rat) (w : World) (hq : Rz k q) (hk : k ≤ 35184372088832) (hT : Tab w) :
  Calls Tryz.prog 125 #[R q] w fun e w' => e = .returned (.bool true) ∧ Below w.heap.size w w' :=
 good_yes _ _ _ k w q.den_nz (R_sign q) q.reduced hq.1 hq.2 hk hT
theorem fit_R (k : Nat) (q : Rat) (w : World) (hq : Rz k q) (hk : k ≤ 35184372088832) (hT : Tab w) :
  Calls Tryz.prog 77 #[R q] w fun e w' => e = .returned (R q) ∧ Below w.heap.size w w' := by
 have HH := yh (And.intro hq (And.intro hk hT)); clear hq hk hT
 have hb0 : Below w.heap.size w ((w.alloc (.cells (RC q) 27)).alloc (.cells #[.bool false, .string ⟨#[]⟩, .string ⟨#[]⟩] 27)) := ((Below.refl _ _).alloc (Nat.le_refl _) _).alloc (by simp) _
 have HB0 := yh hb0; clear hb0
 go_enter Tryz.func77, Tryz.ntmps77
 unfold R
 go_wp2_with fail
 refine (Good_R k q _ HH.out.1 HH.out.2.1 (HH.out.2.2.next HB0.out)).mono ?_
 rintro e w1 ⟨rfl, hb1⟩
 have hk0 : Blk w1 w.heap.size 27 (RC q) := ((Blk.new w _ _).alloc _).belowB hb1
 have hk1 : Blk w1 (w.heap.size + 1) 27 #[.bool false, .string ⟨#[]⟩, .string ⟨#[]⟩] := (Blk.at_ (by simp)).belowB hb1
 obtain ⟨c0, c1, c2, -, -, -⟩ := Blk.three hk0
 obtain ⟨d0, d1, d2, f0, f1, f2⟩ := hk1.three
 have HB1 := yh (And.intro hb1 (And.intro hk0 hk1)); clear hb1 hk0 hk1
 go_wp2_with fail
 have hW := put3 HB1.out.2.2 (.bool (decide (q.num < 0))) (.string (S q.num.natAbs)) (.string (S q.den))
 have hWb := put3_below (g := w.heap.size + 1) (below_next HB0.out HB1.out.1) (Nat.le_succ _) (.bool (decide (q.num < 0))) (.string (S q.num.natAbs)) (.string (S q.den))
 obtain ⟨e0, e1, e2, -, -, -⟩ := hW.three
 refine bodyPost_ret (v := R q) (by simp [results, Tryz.results77, go_sem, e0, e1, e2]; rfl) rfl ⟨rfl, hWb⟩
end Go.Proofs.YtmchjmflkaiakaaGreatDoor
/- Walks of package rat: signed, made. -/
namespace Go.Proofs.YtmchjmflkaiakaaGreatDoor
open Go.RowKit
set_option linter.unusedVariables false
set_option linter.unusedSimpArgs false
theorem hide' {p : Prop} (h : p) : Hid p := h
def sg (s : Bool) (n : Nat) : Int := if s then -(n : Int) else n
theorem sg_natAbs (s : Bool) (n : Nat) : (sg s n).natAbs = n := by unfold sg; split <;> simp
theorem sg_num (q : Rat) : sg (decide (q.num < 0)) q.num.natAbs = q.num := by
 unfold sg; by_cases h : q.num < 0
 ·rw [if_pos (by simpa using h)]; omega
 ·rw [if_neg (by simpa using h)]; omega
theorem R_eq (s : Bool) (n d : Nat) (hn : n ≠ 0) (hd : d ≠ 0) : R (mkRat (sg s n) d) = .agg #[.bool s, .string (S (n / Nat.gcd n d)), .string (S (d / Nat.gcd n d))] := by
 have hg : 0 < Nat.gcd n d := Nat.gcd_pos_of_pos_left _ (Nat.pos_of_ne_zero hn)
 have h1 : (mkRat (sg s n) d).num = sg s (n / Nat.gcd n d) := by
  rw [Rat.num_mkRat, if_neg hd, sg_natAbs, Nat.gcd_comm]
  unfold sg; split
  ·rw [Int.neg_ediv_of_dvd (Int.natCast_dvd_natCast.2 (Nat.gcd_dvd_left n d)), Int.natCast_ediv]
  ·rw [Int.natCast_ediv]
 have h2 : (mkRat (sg s n) d).den = d / Nat.gcd n d := by
  rw [Rat.den_mkRat, if_neg hd, sg_natAbs, Nat.gcd_comm]
 have h3 : 0 < n / Nat.gcd n d := Nat.div_pos (gcd_le' (Nat.pos_of_ne_zero hn)) hg
 have h4 : decide (sg s (n / Nat.gcd n d) < 0) = s := by
  generalize n / Nat.gcd n d = m at h3
  unfold sg; cases s
  ·simp
  ·simp; omega
 unfold R
 rw [h1, h2, sg_natAbs, h4]
theorem signed_R (s t : Bool) (a b k l : Nat) (w : World) (ha : Sz k a) (hb : Sz l b) (hk : k ≤ 35184372088832) (hl : l ≤ 35184372088832) :
  Calls Tryz.prog 90 #[.bool s, .string (S a), .bool t, .string (S b)] w fun e w' => (∃ (u : Bool) (n : Nat), e = .returned (.tuple #[.bool u, .string (S n)]) ∧ sg u n = sg s a + sg t b) ∧ Below w.heap.size w w' := by
 have HH := yh (And.intro (Nat.le_trans ha hk) (Nat.le_trans hb hl)); clear ha hb hk hl
 by_cases hst : s = t
 ·subst hst
  go_enter Tryz.func90, Tryz.ntmps90
  go_wp2_with fail
  refine (add_S a b _ HH.out.1 HH.out.2).mono ?_
  rintro e w1 ⟨rfl, hb1⟩
  have HB1 := yh hb1; clear hb1
  go_wp2_with fail
  go_ret2
  exact ⟨⟨s, a + b, rfl, by unfold sg; cases s <;> simp <;> omega⟩, HB1.out⟩
 ·have h1 : (s == t) = false := by rw [beq_eq_false_iff_ne]; exact hst
  have h2 : t = !s := by cases s <;> cases t <;> simp_all
  by_cases hle : b ≤ a
  ·have hsub := sub_S a b w HH.out.1 HH.out.2
   have e1 : subS a b = S (a - b) := by unfold subS; rw [if_neg (by omega)]
   have e2 : subE a b = 0 := by unfold subE; rw [if_neg (by omega)]
   rw [e1, e2] at hsub
   have HS := hide' hsub; clear hsub e1 e2
   have H2 := yh h2; clear h2 hst
   go_enter Tryz.func90, Tryz.ntmps90
   go_wp2_with fail
   refine (HS.out).mono ?_
   rintro e w1 ⟨rfl, hb1⟩
   have HB1 := yh hb1; clear hb1
   go_wp2_with fail
   go_ret2
   refine ⟨⟨s, a - b, rfl, ?_⟩, HB1.out⟩
   rw [H2.out]; unfold sg; cases s <;> simp <;> omega
  ·have hsub := sub_S a b w HH.out.1 HH.out.2
   have e2 : subE a b = 1 := by unfold subE; rw [if_pos (by omega)]
   rw [e2] at hsub
   have hsub2 : ∀ w1, Calls Tryz.prog 138 #[.string (S b), .string (S a)] w1 fun e w' => e = .returned (.tuple #[.string (S (b - a)), .int .i64 0]) ∧ Below w1.heap.size w1 w' := fun w1 => by
    have h := sub_S b a w1 HH.out.2 HH.out.1
    have e3 : subS b a = S (b - a) := by unfold subS; rw [if_neg (by omega)]
    have e4 : subE b a = 0 := by unfold subE; rw [if_neg (by omega)]
    rw [e3, e4] at h; exact h
   have HS := hide' hsub; have HS2 := hide' hsub2; clear hsub hsub2 e2
   have H2 := yh h2; clear h2 hst
   go_enter Tryz.func90, Tryz.ntmps90
   go_wp2_with fail
   refine (HS.out).mono ?_
   rintro e w1 ⟨rfl, hb1⟩
   have HB1 := yh hb1; clear hb1
   go_wp2_with fail
   refine (HS2.out _).mono ?_
   rintro e w2 ⟨rfl, hb2⟩
   have HB2 := yh hb2; clear hb2
   go_wp2_with fail
   go_ret2
   refine ⟨⟨t, b - a, rfl, ?_⟩, below_next HB1.out HB2.out⟩
   rw [H2.out]; unfold sg; cases s <;> simp <;> omega
theorem R_zero : R 0 = .agg #[.bool false, .string (S 0), .string (S 1)] := rfl
theorem zero_V (w : World) : Calls Tryz.prog 126 #[] w fun e w' => e = .returned (.agg #[.bool false, .string (S 0), .string (S 1)]) ∧ Below w.heap.size w w' := zero_R w
theorem sg_zero (s : Bool) (d : Nat) : mkRat (sg s 0) d = 0 := by
 have : sg s 0 = 0 := by unfold sg; cases s <;> rfl
 rw [this]; exact Rat.zero_mkRat d
theorem made_R (s : Bool) (n d k : Nat) (w : World) (hd : d ≠ 0) (hn : Sz k n) (hdk : Sz k d) (hk : k ≤ 35184372088832) (hT : Tab w) :
  Calls Tryz.prog 80 #[.bool s, .string (S n), .string (S d)] w fun e w' => e = .returned (R (mkRat (sg s n) d)) ∧ Below w.heap.size w w' := by
 have HH := yh (And.intro (Nat.le_trans hn hk) (And.intro (Nat.le_trans hdk hk) hT)); clear hn hdk hk hT
 have hb0 : Below w.heap.size w (w.alloc (.cells #[.bool false, .string ⟨#[]⟩, .string ⟨#[]⟩] 27)) := (Below.refl _ _).alloc (Nat.le_refl _) _
 have HB0 := yh hb0; clear hb0
 have hs1 : (S 1).toList = [1] := by rw [S_list]; decide
 by_cases h0 : n = 0
 ·subst h0
  have hz : (S 0).toList.isEmpty = true := by rw [S_list]; rfl
  rw [sg_zero, R_zero]
  go_enter Tryz.func80, Tryz.ntmps80
  go_wp2_with fail
  refine (zero_V _).mono ?_
  rintro e w1 ⟨rfl, hb1⟩
  have hk1 : Blk w1 w.heap.size 27 #[.bool false, .string ⟨#[]⟩, .string ⟨#[]⟩] := (Blk.new w _ _).belowB hb1
  obtain ⟨d0, d1, d2, f0, f1, f2⟩ := hk1.three
  have HB1 := yh (And.intro hb1 hk1); clear hb1 hk1
  go_wp2_with fail
  have hW := put3 HB1.out.2 (.bool false) (.string (S 0)) (.string (S 1))
  have hWb := put3_below (g := w.heap.size) (below_next HB0.out HB1.out.1) (Nat.le_refl _) (.bool false) (.string (S 0)) (.string (S 1))
  obtain ⟨e0, e1, e2, -, -, -⟩ := hW.three
  refine bodyPost_ret (v := .agg #[.bool false, .string (S 0), .string (S 1)]) (by simp [results, Tryz.results80, go_sem, e0, e1, e2]) rfl ⟨rfl, hWb⟩
 ·have he := S_empty_of h0
  rw [R_eq s n d h0 hd]
  by_cases h1 : d = 1
  ·subst h1
   rw [Nat.gcd_one_right, Nat.div_one, Nat.div_one]
   go_enter Tryz.func80, Tryz.ntmps80
   go_wp2_with fail
   refine bodyPost_ret (v := .agg #[.bool s, .string (S n), .string (S 1)]) (by simp [results, Tryz.results80, go_sem]) rfl ⟨rfl, (Below.refl _ _).alloc (Nat.le_refl _) _⟩
  ·have hd1 := S_ne_one h1
   have hd2 := S_beq_one h1
   by_cases h2 : Nat.gcd n d = 1
   ·rw [h2, Nat.div_one, Nat.div_one]
    have H2 := yh h2; clear h2
    go_enter Tryz.func80, Tryz.ntmps80
    go_wp2_with fail
    refine (gcd_S n d _ HH.out.1 HH.out.2.1 (HH.out.2.2.next HB0.out)).mono ?_
    rw [H2.out]
    rintro e w1 ⟨rfl, hb1⟩
    have hk1 : Blk w1 w.heap.size 27 #[.bool false, .string ⟨#[]⟩, .string ⟨#[]⟩] := (Blk.new w _ _).belowB hb1
    obtain ⟨d0, d1, d2, f0, f1, f2⟩ := hk1.three
    have HB1 := yh (And.intro hb1 hk1); clear hb1 hk1
    go_wp2_with fail
    have hW := put3 HB1.out.2 (.bool s) (.string (S n)) (.string (S d))
    have hWb := put3_below (g := w.heap.size) (below_next HB0.out HB1.out.1) (Nat.le_refl _) (.bool s) (.string (S n)) (.string (S d))
    obtain ⟨e0, e1, e2, -, -, -⟩ := hW.three
    refine bodyPost_ret (v := .agg #[.bool s, .string (S n), .string (S d)]) (by simp [results, Tryz.results80, go_sem, e0, e1, e2]) rfl ⟨rfl, hWb⟩
   ·have hg1 := S_ne_one h2
    have hg2 := S_beq_one h2
    have hg0 : Nat.gcd n d ≠ 0 := Nat.ne_of_gt (Nat.gcd_pos_of_pos_left _ (Nat.pos_of_ne_zero h0))
    have hgl := Nat.le_trans (len_le_of_le (gcd_le' (b := d) (Nat.pos_of_ne_zero h0))) HH.out.1
    have H2 := yh (And.intro hg0 hgl); clear hg0 hgl h2
    go_enter Tryz.func80, Tryz.ntmps80
    go_wp2_with fail
    refine (gcd_S n d _ HH.out.1 HH.out.2.1 (HH.out.2.2.next HB0.out)).mono ?_
    rintro e w1 ⟨rfl, hb1⟩
    have HB1 := yh hb1; clear hb1
    go_wp2_with fail
    refine (div_S n (Nat.gcd n d) _ H2.out.1 HH.out.1 H2.out.2).mono ?_
    rintro e w2 ⟨rfl, hb2⟩
    have HB2 := yh hb2; clear hb2
    go_wp2_with fail
    refine (div_S d (Nat.gcd n d) _ H2.out.1 HH.out.2.1 H2.out.2).mono ?_
    rintro e w3 ⟨rfl, hb3⟩
    have hk3 : Blk w3 w.heap.size 27 #[.bool false, .string ⟨#[]⟩, .string ⟨#[]⟩] := (((Blk.new w _ _).belowB HB1.out).belowB HB2.out).belowB hb3
    have hbb := below_next (below_next (below_next HB0.out HB1.out) HB2.out) hb3
    obtain ⟨d0, d1, d2, f0, f1, f2⟩ := hk3.three
    have HB3 := yh (And.intro hbb hk3); clear hbb hb3 hk3
    go_wp2_with fail
    have hW := put3 HB3.out.2 (.bool s) (.string (S (n / Nat.gcd n d))) (.string (S (d / Nat.gcd n d)))
    have hWb := put3_below (g := w.heap.size) HB3.out.1 (Nat.le_refl _) (.bool s) (.string (S (n / Nat.gcd n d))) (.string (S (d / Nat.gcd n d)))
    obtain ⟨e0, e1, e2, -, -, -⟩ := hW.three
    refine bodyPost_ret (v := .agg #[.bool s, .string (S (n / Nat.gcd n d)), .string (S (d / Nat.gcd n d))]) (by simp [results, Tryz.results80, go_sem, e0, e1, e2]) rfl ⟨rfl, hWb⟩
end Go.Proofs.YtmchjmflkaiakaaGreatDoor
/- Walks of package rat: the frame of a function of two numbers. -/
namespace Go.Proofs.YtmchjmflkaiakaaGreatDoor
open Go.RowKit
set_option linter.unusedVariables false
set_option linter.unusedSimpArgs false
structure RIs (q : Rat) (s : Bool) (a d : ByteArray) : Prop where
 s : s = decide (q.num < 0)
 a : a = S q.num.natAbs
 d : d = S q.den
theorem RIs.val {q : Rat} {s : Bool} {a d : ByteArray} (h : RIs q s a d) : R q = .agg #[.bool s, .string a, .string d] := by rw [h.s, h.a, h.d]; rfl
theorem R_parts (q : Rat) : ∃ s a d, RIs q s a d := ⟨_, _, _, rfl, rfl, rfl⟩
theorem fit_O (k : Nat) (q : Rat) (s : Bool) (a d : ByteArray) (w : World) (h : RIs q s a d) (hq : Rz k q) (hk : k ≤ 35184372088832) (hT : Tab w) :
  Calls Tryz.prog 77 #[.agg #[.bool s, .string a, .string d]] w fun e w' => e = .returned (.agg #[.bool s, .string a, .string d]) ∧ Below w.heap.size w w' := by
 rw [← h.val]; exact fit_R k q w hq hk hT
structure Q2 (w : World) (s1 : Bool) (a1 d1 : ByteArray) (s2 : Bool) (a2 d2 : ByteArray) (w' : World) : Prop where
 b0 : Blk w' w.heap.size 27 #[.bool s1, .string a1, .string d1]
 b1 : Blk w' (w.heap.size + 1) 27 #[.bool s2, .string a2, .string d2]
 below : Below w.heap.size w w'
def QZ (w w' : World) : Prop := Blk w' (w.heap.size + 2) 27 #[.bool false, .string ⟨#[]⟩, .string ⟨#[]⟩]
section
variable {w w' w3 : World} {s1 s2 : Bool} {a1 d1 a2 d2 : ByteArray}
theorem Q2.drew (h : Hid (Q2 w s1 a1 d1 s2 a2 d2 w')) : Hid (Q2 w s1 a1 d1 s2 a2 d2 w'.drew) := ⟨h.out.b0.drew, h.out.b1.drew, h.out.below.drew⟩
theorem QZ.drew (h : Hid (QZ w w')) : Hid (QZ w w'.drew) := Blk.drew h.out
theorem Q2.next (h : Hid (Q2 w s1 a1 d1 s2 a2 d2 w')) (hb : Below w'.heap.size w' w3) : Hid (Q2 w s1 a1 d1 s2 a2 d2 w3) := ⟨h.out.b0.belowB hb, h.out.b1.belowB hb, below_next h.out.below hb⟩
theorem QZ.next (h : Hid (QZ w w')) (hb : Below w'.heap.size w' w3) : Hid (QZ w w3) := Blk.belowB h.out hb
theorem Q2.put0 (h : Hid (Q2 w s1 a1 d1 s2 a2 d2 w')) : Hid (Q2 w s1 a1 d1 s2 a2 d2 (((w'.setCell ⟨w.heap.size, 0, none⟩ (.bool s1)).setCell ⟨w.heap.size, 1, none⟩ (.string a1)).setCell ⟨w.heap.size, 2, none⟩ (.string d1))) :=
 ⟨put3 h.out.b0 _ _ _, ((h.out.b1.far (by simp) _).far (by simp) _).far (by simp) _, put3_below h.out.below (Nat.le_refl _) _ _ _⟩
theorem Q2.put1 (h : Hid (Q2 w s1 a1 d1 s2 a2 d2 w')) : Hid (Q2 w s1 a1 d1 s2 a2 d2 (((w'.setCell ⟨w.heap.size + 1, 0, none⟩ (.bool s2)).setCell ⟨w.heap.size + 1, 1, none⟩ (.string a2)).setCell ⟨w.heap.size + 1, 2, none⟩ (.string d2))) :=
 ⟨((h.out.b0.far (by simp) _).far (by simp) _).far (by simp) _, put3 h.out.b1 _ _ _, put3_below h.out.below (Nat.le_succ _) _ _ _⟩
theorem QZ.put0 {a b c : Value} (h : Hid (QZ w w')) : Hid (QZ w (((w'.setCell ⟨w.heap.size, 0, none⟩ a).setCell ⟨w.heap.size, 1, none⟩ b).setCell ⟨w.heap.size, 2, none⟩ c)) := Blk.far (Blk.far (Blk.far h.out (by simp) _) (by simp) _) (by simp) _
theorem QZ.put1 {a b c : Value} (h : Hid (QZ w w')) : Hid (QZ w (((w'.setCell ⟨w.heap.size + 1, 0, none⟩ a).setCell ⟨w.heap.size + 1, 1, none⟩ b).setCell ⟨w.heap.size + 1, 2, none⟩ c)) := Blk.far (Blk.far (Blk.far h.out (by simp) _) (by simp) _) (by simp) _
theorem Q2.all (h : Hid (Q2 w s1 a1 d1 s2 a2 d2 w')) : w'.cell? ⟨w.heap.size, 0, none⟩ = some (.bool s1) ∧ w'.cell? ⟨w.heap.size, 1, none⟩ = some (.string a1) ∧ w'.cell? ⟨w.heap.size, 2, none⟩ = some (.string d1) ∧ w'.cell? ⟨w.heap.size + 1, 0, none⟩ = some (.bool s2) ∧ w'.cell? ⟨w.heap.size + 1, 1, none⟩ = some (.string a2) ∧ w'.cell? ⟨w.heap.size + 1, 2, none⟩ = some (.string d2) ∧ w'.frozen? ⟨w.heap.size, 0, none⟩ = false ∧ w'.frozen? ⟨w.heap.size, 1, none⟩ = false ∧ w'.frozen? ⟨w.heap.size, 2, none⟩ = false ∧ w'.frozen? ⟨w.heap.size + 1, 0, none⟩ = false ∧ w'.frozen? ⟨w.heap.size + 1, 1, none⟩ = false ∧ w'.frozen? ⟨w.heap.size + 1, 2, none⟩ = false :=
 ⟨h.out.b0.cell 0, h.out.b0.cell 1, h.out.b0.cell 2, h.out.b1.cell 0, h.out.b1.cell 1, h.out.b1.cell 2, h.out.b0.frozen 0, h.out.b0.frozen 1, h.out.b0.frozen 2, h.out.b1.frozen 0, h.out.b1.frozen 1, h.out.b1.frozen 2⟩
theorem Q2.six (h : Hid (Q2 w s1 a1 d1 s2 a2 d2 w')) : w'.cell? ⟨w.heap.size, 0, none⟩ = some (.bool s1) ∧ w'.cell? ⟨w.heap.size, 1, none⟩ = some (.string a1) ∧ w'.cell? ⟨w.heap.size, 2, none⟩ = some (.string d1) ∧ w'.cell? ⟨w.heap.size + 1, 0, none⟩ = some (.bool s2) ∧ w'.cell? ⟨w.heap.size + 1, 1, none⟩ = some (.string a2) ∧ w'.cell? ⟨w.heap.size + 1, 2, none⟩ = some (.string d2) := ⟨h.out.b0.cell 0, h.out.b0.cell 1, h.out.b0.cell 2, h.out.b1.cell 0, h.out.b1.cell 1, h.out.b1.cell 2⟩
theorem Q2.put2 {a b c : Value} (h : Hid (Q2 w s1 a1 d1 s2 a2 d2 w')) : Hid (Q2 w s1 a1 d1 s2 a2 d2 (((w'.setCell ⟨w.heap.size + 1 + 1, 0, none⟩ a).setCell ⟨w.heap.size + 1 + 1, 1, none⟩ b).setCell ⟨w.heap.size + 1 + 1, 2, none⟩ c)) :=
 ⟨((h.out.b0.far (by simp; omega) _).far (by simp; omega) _).far (by simp; omega) _, ((h.out.b1.far (by simp) _).far (by simp) _).far (by simp) _, put3_below h.out.below (by omega) _ _ _⟩
theorem QZ.cells (h : Hid (QZ w w')) : w'.cell? ⟨w.heap.size + 2, 0, none⟩ = some (.bool false) ∧ w'.cell? ⟨w.heap.size + 2, 1, none⟩ = some (.string ⟨#[]⟩) ∧ w'.cell? ⟨w.heap.size + 2, 2, none⟩ = some (.string ⟨#[]⟩) ∧ w'.frozen? ⟨w.heap.size + 2, 0, none⟩ = false ∧ w'.frozen? ⟨w.heap.size + 2, 1, none⟩ = false ∧ w'.frozen? ⟨w.heap.size + 2, 2, none⟩ = false := Blk.three h.out
end
theorem q2_start (w : World) (s1 : Bool) (a1 d1 : ByteArray) (s2 : Bool) (a2 d2 : ByteArray) : Hid (Q2 w s1 a1 d1 s2 a2 d2 (((w.alloc (.cells #[.bool s1, .string a1, .string d1] 27)).alloc (.cells #[.bool s2, .string a2, .string d2] 27)).alloc (.cells #[.bool false, .string ⟨#[]⟩, .string ⟨#[]⟩] 27))) ∧ Hid (QZ w (((w.alloc (.cells #[.bool s1, .string a1, .string d1] 27)).alloc (.cells #[.bool s2, .string a2, .string d2] 27)).alloc (.cells #[.bool false, .string ⟨#[]⟩, .string ⟨#[]⟩] 27))) :=
 ⟨⟨((Blk.new w _ _).alloc _).alloc _, (Blk.at_ (by simp)).alloc _, (((Below.refl _ _).alloc (Nat.le_refl _) _).alloc (by simp) _).alloc (by simp; omega) _⟩, Blk.at_ (by simp)⟩
end Go.Proofs.YtmchjmflkaiakaaGreatDoor
/- Walks of package rat: Mul. -/
namespace Go.Proofs.YtmchjmflkaiakaaGreatDoor
open Go.RowKit
set_option linter.unusedVariables false
set_option linter.unusedSimpArgs false
theorem mul_O (k : Nat) (x y : Rat) {s1 s2 : Bool} {a1 d1 a2 d2 : ByteArray} (w : World) (h1 : RIs x s1 a1 d1) (h2 : RIs y s2 a2 d2) (hx : Rz k x) (hy : Rz k y) (hk : k ≤ 17592186044416) :
  Calls Tryz.prog 79 #[.string a1, .string a2] w fun e w' => e = .returned (.string (S (x.num.natAbs * y.num.natAbs))) ∧ Below w.heap.size w w' := by
 rw [h1.a, h2.a]; exact mul_S _ _ _ (Nat.le_trans hx.1 (by omega)) (Nat.le_trans hy.1 (by omega))
theorem mul_Od (k : Nat) (x y : Rat) {s1 s2 : Bool} {a1 d1 a2 d2 : ByteArray} (w : World) (h1 : RIs x s1 a1 d1) (h2 : RIs y s2 a2 d2) (hx : Rz k x) (hy : Rz k y) (hk : k ≤ 17592186044416) :
  Calls Tryz.prog 79 #[.string d1, .string d2] w fun e w' => e = .returned (.string (S (x.den * y.den))) ∧ Below w.heap.size w w' := by
 rw [h1.d, h2.d]; exact mul_S _ _ _ (Nat.le_trans hx.2 (by omega)) (Nat.le_trans hy.2 (by omega))
theorem int_mul_abs (a b : Int) : sg (decide (a < 0) != decide (b < 0)) (a.natAbs * b.natAbs) = a * b := by
 unfold sg
 by_cases h1 : a < 0 <;> by_cases h2 : b < 0
 ·rw [if_neg (by simp [h1, h2]), Int.natCast_mul, Int.ofNat_natAbs_of_nonpos (by omega), Int.ofNat_natAbs_of_nonpos (by omega), Int.neg_mul_neg]
 ·rw [if_pos (by simp [h1, h2]), Int.natCast_mul, Int.ofNat_natAbs_of_nonpos (by omega), Int.natAbs_of_nonneg (by omega), Int.neg_mul, Int.neg_neg]
 ·rw [if_pos (by simp [h1, h2]), Int.natCast_mul, Int.ofNat_natAbs_of_nonpos (show b ≤ 0 by omega), Int.natAbs_of_nonneg (by omega), Int.mul_neg, Int.neg_neg]
 ·rw [if_neg (by simp [h1, h2]), Int.natCast_mul, Int.natAbs_of_nonneg (by omega), Int.natAbs_of_nonneg (by omega)]
theorem sg_mul (x y : Rat) : mkRat (sg (decide (x.num < 0) != decide (y.num < 0)) (x.num.natAbs * y.num.natAbs)) (x.den * y.den) = x * y := by
 rw [Rat.mul_def', int_mul_abs]
theorem made_O (k : Nat) (x y : Rat) {s1 s2 s3 : Bool} {a1 d1 a2 d2 a3 d3 : ByteArray} (w : World) (h3 : RIs (x * y) s3 a3 d3) (h1 : RIs x s1 a1 d1) (h2 : RIs y s2 a2 d2) (hx : Rz k x) (hy : Rz k y) (hk : k ≤ 17592186044416) (hT : Tab w) {b : Bool} (hb : b = (s1 != s2)) :
  Calls Tryz.prog 80 #[.bool b, .string (S (x.num.natAbs * y.num.natAbs)), .string (S (x.den * y.den))] w fun e w' => e = .returned (.agg #[.bool s3, .string a3, .string d3]) ∧ Below w.heap.size w w' := by
 rw [← h3.val, ← sg_mul, hb, h1.s, h2.s]
 exact made_R _ _ _ (k + k) w (Nat.mul_ne_zero x.den_nz y.den_nz) (hx.1.mul hy.1) (hx.2.mul hy.2) (by omega) hT
theorem mul_R (k : Nat) (x y : Rat) (w : World) (hx : Rz k x) (hy : Rz k y) (hk : k ≤ 17592186044416) (hT : Tab w) :
  Calls Tryz.prog 48 #[R x, R y] w fun e w' => e = .returned (R (x * y)) ∧ Below w.heap.size w w' := by
 have HH := yh (And.intro hx (And.intro hy hT)); clear hx hy hT
 obtain ⟨s1, a1, d1, h1⟩ := R_parts x
 obtain ⟨s2, a2, d2, h2⟩ := R_parts y
 obtain ⟨s3, a3, d3, h3⟩ := R_parts (x * y)
 rw [h1.val, h2.val, h3.val]
 have H3 := yh h3; clear h3
 have H1 := yh h1; clear h1
 have H2 := yh h2; clear h2
 obtain ⟨W0, hW0⟩ : ∃ W0, W0 = (((w.alloc (.cells #[.bool s1, .string a1, .string d1] 27)).alloc (.cells #[.bool s2, .string a2, .string d2] 27)).alloc (.cells #[.bool false, .string ⟨#[]⟩, .string ⟨#[]⟩] 27)) := ⟨_, rfl⟩
 obtain ⟨HQ0, HZ0⟩ := q2_start w s1 a1 d1 s2 a2 d2
 rw [← hW0] at HQ0 HZ0
 have HW0 := yh hW0; clear hW0
 go_enter Tryz.func48, Tryz.ntmps48
 go_wp2_with fail
 rw [← HW0.out]
 obtain ⟨c0, c1, c2, c3, c4, c5, f0, f1, f2, f3, f4, f5⟩ := Q2.all HQ0
 go_cut [] (fun wc => Hid (Q2 w s1 a1 d1 s2 a2 d2 wc) ∧ Hid (QZ w wc))
 case first =>
  go_region_held3 (fun w' => w'.cell? ⟨w.heap.size, 0, none⟩ = some (.bool s1) ∧ w'.cell? ⟨w.heap.size, 1, none⟩ = some (.string a1) ∧ w'.cell? ⟨w.heap.size, 2, none⟩ = some (.string d1) ∧ w'.cell? ⟨w.heap.size + 1, 0, none⟩ = some (.bool s2) ∧ w'.cell? ⟨w.heap.size + 1, 1, none⟩ = some (.string a2) ∧ w'.cell? ⟨w.heap.size + 1, 2, none⟩ = some (.string d2) ∧ w'.frozen? ⟨w.heap.size, 0, none⟩ = false ∧ w'.frozen? ⟨w.heap.size, 1, none⟩ = false ∧ w'.frozen? ⟨w.heap.size, 2, none⟩ = false ∧ w'.frozen? ⟨w.heap.size + 1, 0, none⟩ = false ∧ w'.frozen? ⟨w.heap.size + 1, 1, none⟩ = false ∧ w'.frozen? ⟨w.heap.size + 1, 2, none⟩ = false)
   (first | (go_keep; done) | (with_reducible exact Q2.all (Q2.put0 hS4)) | (with_reducible exact Q2.all (Q2.put1 (Q2.put0 hS4))))
   (first
    | (go_at_call_of 77 (Value.agg #[Value.bool s1, Value.string a1, Value.string d1]); (with_reducible refine (fit_O k x s1 a1 d1 _ H1.out HH.out.1 (by omega) (HH.out.2.2.next (Hid.out (p := Q2 w s1 a1 d1 s2 a2 d2 _) (by first | assumption | exact Q2.drew (by assumption) | (go_split_ands; assumption))).below)).mono ?_); rintro e w3 ⟨rfl, hb3⟩; have hS3 := Q2.next (w := w) (s1 := s1) (a1 := a1) (d1 := d1) (s2 := s2) (a2 := a2) (d2 := d2) (by first | assumption | exact Q2.drew (by assumption) | (go_split_ands; assumption)) hb3; have hZ3 := QZ.next (w := w) (by first | assumption | exact QZ.drew (by assumption) | (go_split_ands; assumption)) hb3; obtain ⟨c0', c1', c2', c3', c4', c5', f0', f1', f2', f3', f4', f5'⟩ := Q2.all hS3)
    | (go_at_call_of 77 (Value.agg #[Value.bool s2, Value.string a2, Value.string d2]); (with_reducible refine (fit_O k y s2 a2 d2 _ H2.out HH.out.2.1 (by omega) (HH.out.2.2.next (Hid.out (p := Q2 w s1 a1 d1 s2 a2 d2 _) (by first | assumption | exact Q2.drew (by assumption) | (go_split_ands; assumption))).below)).mono ?_); rintro e w4 ⟨rfl, hb4⟩; have hS4 := Q2.next (w := w) (s1 := s1) (a1 := a1) (d1 := d1) (s2 := s2) (a2 := a2) (d2 := d2) (by first | assumption | exact Q2.drew (by assumption) | (go_split_ands; assumption)) hb4; have hZ4 := QZ.next (w := w) (by first | assumption | exact QZ.drew (by assumption) | (go_split_ands; assumption)) hb4; obtain ⟨b0, b1, b2, b3, b4, b5, e0, e1, e2, e3, e4, e5⟩ := Q2.all hS4)
    | fail)
  all_goals
   go_wp2_with fail
   go_meet
   exact ⟨Q2.put1 (Q2.put0 hS4), QZ.put1 (QZ.put0 hZ4)⟩
 case rest =>
  clear c0 c1 c2 c3 c4 c5 f0 f1 f2 f3 f4 f5 HQ0 HZ0
  obtain ⟨HQ1, HZ1⟩ := hcut
  go_wp2_with fail
  obtain ⟨c0, c1, c2, c3, c4, c5, f0, f1, f2, f3, f4, f5⟩ := Q2.all HQ1
  obtain ⟨z0, z1, z2, zf0, zf1, zf2⟩ := QZ.cells HZ1
  clear f0 f1 f2 f3 f4 f5
  go_region_held3 (fun w' => w'.cell? ⟨w.heap.size, 0, none⟩ = some (.bool s1) ∧ w'.cell? ⟨w.heap.size, 1, none⟩ = some (.string a1) ∧ w'.cell? ⟨w.heap.size, 2, none⟩ = some (.string d1) ∧ w'.cell? ⟨w.heap.size + 1, 0, none⟩ = some (.bool s2) ∧ w'.cell? ⟨w.heap.size + 1, 1, none⟩ = some (.string a2) ∧ w'.cell? ⟨w.heap.size + 1, 2, none⟩ = some (.string d2))
   (first | (go_keep; done) | (with_reducible exact Q2.six (Q2.put2 hS7)))
   (first
    | (go_at_call_of 79 (Value.string a1); (with_reducible refine (mul_O k x y _ H1.out H2.out HH.out.1 HH.out.2.1 hk).mono ?_); rintro e w5 ⟨rfl, hb5⟩; have hS5 := Q2.next (w := w) (s1 := s1) (a1 := a1) (d1 := d1) (s2 := s2) (a2 := a2) (d2 := d2) (by first | assumption | exact Q2.drew (by assumption)) hb5; have hZ5 := QZ.next (w := w) (by first | assumption | exact QZ.drew (by assumption)) hb5; obtain ⟨x0, x1, x2, x3, x4, x5, -, -, -, -, -, -⟩ := Q2.all hS5; obtain ⟨y0, y1, y2, yf0, yf1, yf2⟩ := QZ.cells hZ5)
    | (go_at_call_of 79 (Value.string d1); (with_reducible refine (mul_Od k x y _ H1.out H2.out HH.out.1 HH.out.2.1 hk).mono ?_); rintro e w6 ⟨rfl, hb6⟩; have hS6 := Q2.next (w := w) (s1 := s1) (a1 := a1) (d1 := d1) (s2 := s2) (a2 := a2) (d2 := d2) (by first | assumption | exact Q2.drew (by assumption)) hb6; have hZ6 := QZ.next (w := w) (by first | assumption | exact QZ.drew (by assumption)) hb6; obtain ⟨u0, u1, u2, u3, u4, u5, -, -, -, -, -, -⟩ := Q2.all hS6; obtain ⟨v0, v1, v2, vf0, vf1, vf2⟩ := QZ.cells hZ6)
    | (go_at_call 80; (with_reducible refine (made_O k x y _ H3.out H1.out H2.out HH.out.1 HH.out.2.1 hk (HH.out.2.2.next (Hid.out (p := Q2 w s1 a1 d1 s2 a2 d2 _) (by first | assumption | exact Q2.drew (by assumption))).below) (by cases s1 <;> cases s2 <;> first | (exact (by decide)) | simp)).mono ?_); rintro e w7 ⟨rfl, hb7⟩; have hS7 := Q2.next (w := w) (s1 := s1) (a1 := a1) (d1 := d1) (s2 := s2) (a2 := a2) (d2 := d2) (by first | assumption | exact Q2.drew (by assumption)) hb7; have hZ7 := QZ.next (w := w) (by first | assumption | exact QZ.drew (by assumption)) hb7; obtain ⟨t0, t1, t2, tf0, tf1, tf2⟩ := QZ.cells hZ7; obtain ⟨r0, r1, r2, r3, r4, r5, -, -, -, -, -, -⟩ := Q2.all hS7)
    | fail)
  all_goals
   go_wp2_with fail
   have hW := put3 hZ7.out (.bool s3) (.string a3) (.string d3)
   have hWb := put3_below (g := w.heap.size + 2) hS7.out.below (by omega) (.bool s3) (.string a3) (.string d3)
   obtain ⟨p0, p1, p2, -, -, -⟩ := hW.three
   refine bodyPost_ret (v := .agg #[.bool s3, .string a3, .string d3]) (by simp [results, Tryz.results48, go_sem, p0, p1, p2]) rfl ⟨rfl, hWb⟩
end Go.Proofs.YtmchjmflkaiakaaGreatDoor
/- Walks of package rat: Cmp (printed by ratgen.py). -/
namespace Go.Proofs.YtmchjmflkaiakaaGreatDoor
open Go.RowKit
set_option linter.unusedVariables false
set_option linter.unusedSimpArgs false
theorem q2_start0 (w : World) (s1 : Bool) (a1 d1 : ByteArray) (s2 : Bool) (a2 d2 : ByteArray) : Hid (Q2 w s1 a1 d1 s2 a2 d2 ((w.alloc (.cells #[.bool s1, .string a1, .string d1] 27)).alloc (.cells #[.bool s2, .string a2, .string d2] 27))) :=
 ⟨(Blk.new w _ _).alloc _, Blk.at_ (by simp), ((Below.refl _ _).alloc (Nat.le_refl _) _).alloc (by simp) _⟩
theorem mul_G (m n k : Nat) {a b : ByteArray} (w : World) (ha : a = S m) (hb : b = S n) (h : Sz k m) (h' : Sz k n) (hk : k ≤ 35184372088832) :
  Calls Tryz.prog 79 #[.string a, .string b] w fun e w' => e = .returned (.string (S (m * n))) ∧ Below w.heap.size w w' := by
 rw [ha, hb]; exact mul_S m n w (Nat.le_trans h hk) (Nat.le_trans h' hk)
theorem cmp_G (m n k : Nat) (w : World) (h : Sz (k + k) m) (h' : Sz (k + k) n) (hk : k ≤ 35184372088832) :
  Calls Tryz.prog 78 #[.string (S m), .string (S n)] w fun e w' => e = .returned (.int .i64 (cmpZ m n)) ∧ w = w' := cmp_S m n w (by unfold Sz at h; omega) (by unfold Sz at h'; omega)
def cmpQ (x y : Rat) : Int := if x < y then -1 else if y < x then 1 else 0
theorem cmpZ_mul (x y : Rat) (hx : 0 ≤ x.num) (hy : 0 ≤ y.num) : cmpZ (x.num.natAbs * y.den) (y.num.natAbs * x.den) = cmpQ x y := by
 unfold cmpZ cmpQ
 have e1 : ((x.num.natAbs * y.den : Nat) : Int) = x.num * y.den := by rw [Int.natCast_mul, Int.natAbs_of_nonneg hx]
 have e2 : ((y.num.natAbs * x.den : Nat) : Int) = y.num * x.den := by rw [Int.natCast_mul, Int.natAbs_of_nonneg hy]
 simp only [Rat.lt_iff, ← e1, ← e2, Int.ofNat_lt]
theorem cmpZ_neg (x y : Rat) (hx : x.num < 0) (hy : y.num < 0) : -cmpZ (x.num.natAbs * y.den) (y.num.natAbs * x.den) = cmpQ x y := by
 unfold cmpZ cmpQ
 have e1 : ((x.num.natAbs * y.den : Nat) : Int) = -(x.num * y.den) := by rw [Int.natCast_mul, Int.ofNat_natAbs_of_nonpos (by omega), Int.neg_mul]
 have e2 : ((y.num.natAbs * x.den : Nat) : Int) = -(y.num * x.den) := by rw [Int.natCast_mul, Int.ofNat_natAbs_of_nonpos (by omega), Int.neg_mul]
 simp only [Rat.lt_iff]
 generalize x.num * y.den = p at *
 generalize y.num * x.den = q at *
 split <;> split <;> (try split) <;> (try split) <;> omega
theorem cmpQ_np (x y : Rat) (hx : x.num < 0) (hy : 0 ≤ y.num) : cmpQ x y = -1 := by
 unfold cmpQ; rw [if_pos]
 rw [Rat.lt_iff]
 have h1 : x.num * y.den < 0 := Int.mul_neg_of_neg_of_pos hx (by have := y.den_pos; omega)
 have h2 : 0 ≤ y.num * x.den := Int.mul_nonneg hy (by omega)
 omega
theorem cmpQ_pn (x y : Rat) (hx : 0 ≤ x.num) (hy : y.num < 0) : cmpQ x y = 1 := by
 have h1 : y.num * x.den < 0 := Int.mul_neg_of_neg_of_pos hy (by have := x.den_pos; omega)
 have h2 : 0 ≤ x.num * y.den := Int.mul_nonneg hx (by omega)
 unfold cmpQ; rw [if_neg (by rw [Rat.lt_iff]; omega), if_pos (by rw [Rat.lt_iff]; omega)]
theorem cmp_R (k : Nat) (x y : Rat) (w : World) (hx : Rz k x) (hy : Rz k y) (hk : k ≤ 8796093022208) (hT : Tab w) :
  Calls Tryz.prog 29 #[R x, R y] w fun e w' => e = .returned (.int .i64 (cmpQ x y)) ∧ Below w.heap.size w w' := by
 have HZ := yh (And.intro (And.intro (show Sz k x.num.natAbs from hx.1) (show Sz k x.den from hx.2)) (And.intro (show Sz k y.num.natAbs from hy.1) (show Sz k y.den from hy.2)))
 have HH := yh (And.intro hx (And.intro hy hT)); clear hx hy hT
 obtain ⟨s1, a1, d1, h1⟩ := R_parts x
 obtain ⟨s2, a2, d2, h2⟩ := R_parts y
 rw [h1.val, h2.val]
 have H1 := yh h1; clear h1
 have H2 := yh h2; clear h2
 obtain ⟨W0, hW0⟩ : ∃ W0, W0 = ((w.alloc (.cells #[.bool s1, .string a1, .string d1] 27)).alloc (.cells #[.bool s2, .string a2, .string d2] 27)) := ⟨_, rfl⟩
 have HQ0 := q2_start0 w s1 a1 d1 s2 a2 d2
 rw [← hW0] at HQ0
 have HW0 := yh hW0; clear hW0
 go_enter Tryz.func29, Tryz.ntmps29
 go_wp2_with fail
 rw [← HW0.out]
 obtain ⟨c0, c1, c2, c3, c4, c5, f0, f1, f2, f3, f4, f5⟩ := Q2.all HQ0
 go_cut [] (fun wc => Hid (Q2 w s1 a1 d1 s2 a2 d2 wc))
 case first =>
  go_region_held3 (fun w' => w'.cell? ⟨w.heap.size, 0, none⟩ = some (.bool s1) ∧ w'.cell? ⟨w.heap.size, 1, none⟩ = some (.string a1) ∧ w'.cell? ⟨w.heap.size, 2, none⟩ = some (.string d1) ∧ w'.cell? ⟨w.heap.size + 1, 0, none⟩ = some (.bool s2) ∧ w'.cell? ⟨w.heap.size + 1, 1, none⟩ = some (.string a2) ∧ w'.cell? ⟨w.heap.size + 1, 2, none⟩ = some (.string d2) ∧ w'.frozen? ⟨w.heap.size, 0, none⟩ = false ∧ w'.frozen? ⟨w.heap.size, 1, none⟩ = false ∧ w'.frozen? ⟨w.heap.size, 2, none⟩ = false ∧ w'.frozen? ⟨w.heap.size + 1, 0, none⟩ = false ∧ w'.frozen? ⟨w.heap.size + 1, 1, none⟩ = false ∧ w'.frozen? ⟨w.heap.size + 1, 2, none⟩ = false)
   (first | (go_keep; done) | (with_reducible exact Q2.all (Q2.put0 hS4)) | (with_reducible exact Q2.all (Q2.put1 (Q2.put0 hS4))))
   (first
    | (go_at_call_of 77 (Value.agg #[Value.bool s1, Value.string a1, Value.string d1]); (with_reducible refine (fit_O k x s1 a1 d1 _ H1.out HH.out.1 (by omega) (HH.out.2.2.next (Hid.out (p := Q2 w s1 a1 d1 s2 a2 d2 _) (by first | assumption | exact Q2.drew (by assumption) | (go_split_ands; assumption))).below)).mono ?_); rintro e w3 ⟨rfl, hb3⟩; have hS3 := Q2.next (w := w) (s1 := s1) (a1 := a1) (d1 := d1) (s2 := s2) (a2 := a2) (d2 := d2) (by first | assumption | exact Q2.drew (by assumption) | (go_split_ands; assumption)) hb3; obtain ⟨x30, x31, x32, x33, x34, x35, xf30, xf31, xf32, xf33, xf34, xf35⟩ := Q2.all hS3)
    | (go_at_call_of 77 (Value.agg #[Value.bool s2, Value.string a2, Value.string d2]); (with_reducible refine (fit_O k y s2 a2 d2 _ H2.out HH.out.2.1 (by omega) (HH.out.2.2.next (Hid.out (p := Q2 w s1 a1 d1 s2 a2 d2 _) (by first | assumption | exact Q2.drew (by assumption) | (go_split_ands; assumption))).below)).mono ?_); rintro e w4 ⟨rfl, hb4⟩; have hS4 := Q2.next (w := w) (s1 := s1) (a1 := a1) (d1 := d1) (s2 := s2) (a2 := a2) (d2 := d2) (by first | assumption | exact Q2.drew (by assumption) | (go_split_ands; assumption)) hb4; obtain ⟨x40, x41, x42, x43, x44, x45, xf40, xf41, xf42, xf43, xf44, xf45⟩ := Q2.all hS4)
    | fail)
  all_goals
   go_wp2_with fail
   go_meet
   exact Q2.put1 (Q2.put0 hS4)
 case rest =>
  clear c0 c1 c2 c3 c4 c5 f0 f1 f2 f3 f4 f5 HQ0
  have HQ1 := hcut; clear hcut
  obtain ⟨c0, c1, c2, c3, c4, c5, -, -, -, -, -, -⟩ := Q2.all HQ1
  have hs1 := H1.out.s
  have hs2 := H2.out.s
  by_cases hn1 : x.num < 0
  ·have t1 : s1 = true := by rw [hs1]; exact decide_eq_true hn1
   by_cases hn2 : y.num < 0
   ·have t2 : s2 = true := by rw [hs2]; exact decide_eq_true hn2
    have HQ := yh (cmpZ_neg x y hn1 hn2)
    clear hs1 hs2
    subst t1; subst t2
    go_wp2_with fail
    go_cut [5] (fun s5 wc => Hid (Q2 w true a1 d1 true a2 d2 wc) ∧ s5 = .int .i64 (cmpZ (x.num.natAbs * y.den) (y.num.natAbs * x.den)))
    case first =>
     go_region_held3 (fun w' => w'.cell? ⟨w.heap.size, 0, none⟩ = some (.bool true) ∧ w'.cell? ⟨w.heap.size, 1, none⟩ = some (.string a1) ∧ w'.cell? ⟨w.heap.size, 2, none⟩ = some (.string d1) ∧ w'.cell? ⟨w.heap.size + 1, 0, none⟩ = some (.bool true) ∧ w'.cell? ⟨w.heap.size + 1, 1, none⟩ = some (.string a2) ∧ w'.cell? ⟨w.heap.size + 1, 2, none⟩ = some (.string d2))
      (first | (go_keep; done))
      (first
       | (go_at_call_of 79 (Value.string a1); (with_reducible refine (mul_G x.num.natAbs y.den k _ H1.out.a H2.out.d HZ.out.1.1 HZ.out.2.2 (by omega)).mono ?_); rintro e w4 ⟨rfl, hb4⟩; have hS4 := Q2.next (w := w) (s1 := true) (a1 := a1) (d1 := d1) (s2 := true) (a2 := a2) (d2 := d2) (by first | assumption | exact Q2.drew (by assumption) | (go_split_ands; assumption)) hb4; obtain ⟨x40, x41, x42, x43, x44, x45, -, -, -, -, -, -⟩ := Q2.all hS4)
       | (go_at_call_of 79 (Value.string a2); (with_reducible refine (mul_G y.num.natAbs x.den k _ H2.out.a H1.out.d HZ.out.2.1 HZ.out.1.2 (by omega)).mono ?_); rintro e w5 ⟨rfl, hb5⟩; have hS5 := Q2.next (w := w) (s1 := true) (a1 := a1) (d1 := d1) (s2 := true) (a2 := a2) (d2 := d2) (by first | assumption | exact Q2.drew (by assumption) | (go_split_ands; assumption)) hb5; obtain ⟨x50, x51, x52, x53, x54, x55, -, -, -, -, -, -⟩ := Q2.all hS5)
       | (go_at_call 78; (with_reducible refine (cmp_G _ _ k _ (HZ.out.1.1.mul HZ.out.2.2) (HZ.out.2.1.mul HZ.out.1.2) (by omega)).mono ?_); rintro e w' ⟨rfl, rfl⟩; have hS6 : Hid (Q2 w true a1 d1 true a2 d2 _) := hS5)
       | fail)
     all_goals
      go_wp2_with fail
      go_meet
      exact ⟨hS6, rfl⟩
    case rest =>
     obtain ⟨HQ2, rfl⟩ := hcut
     obtain ⟨k0, k1, k2, k3, k4, k5, -, -, -, -, -, -⟩ := Q2.all HQ2
     obtain ⟨cz, hcz⟩ : ∃ cz, cz = cmpZ (x.num.natAbs * y.den) (y.num.natAbs * x.den) := ⟨_, rfl⟩
     have hcl : -1 ≤ cz ∧ cz ≤ 1 := by rw [hcz]; unfold cmpZ; split <;> (try split) <;> omega
     obtain ⟨l1, l2⟩ := hcl
     rw [← hcz]
     have HCZ := yh hcz; clear hcz
     go_wp2_with fail
     go_ret
     exact ⟨by rw [← HQ.out, ← HCZ.out]; rfl, HQ2.out.below⟩
   ·have t2 : s2 = false := by rw [hs2]; exact decide_eq_false hn2
    have HQ := yh (cmpQ_np x y hn1 (by omega))
    clear hs1 hs2
    subst t1; subst t2
    go_wp2_with fail
    go_ret
    exact ⟨by rw [HQ.out]; rfl, HQ1.out.below⟩
  ·have t1 : s1 = false := by rw [hs1]; exact decide_eq_false hn1
   by_cases hn2 : y.num < 0
   ·have t2 : s2 = true := by rw [hs2]; exact decide_eq_true hn2
    have HQ := yh (cmpQ_pn x y (by omega) hn2)
    clear hs1 hs2
    subst t1; subst t2
    go_wp2_with fail
    go_ret
    exact ⟨by rw [HQ.out]; rfl, HQ1.out.below⟩
   ·have t2 : s2 = false := by rw [hs2]; exact decide_eq_false hn2
    have HQ := yh (cmpZ_mul x y (by omega) (by omega))
    clear hs1 hs2
    subst t1; subst t2
    go_wp2_with fail
    go_cut [5] (fun s5 wc => Hid (Q2 w false a1 d1 false a2 d2 wc) ∧ s5 = .int .i64 (cmpZ (x.num.natAbs * y.den) (y.num.natAbs * x.den)))
    case first =>
     go_region_held3 (fun w' => w'.cell? ⟨w.heap.size, 0, none⟩ = some (.bool false) ∧ w'.cell? ⟨w.heap.size, 1, none⟩ = some (.string a1) ∧ w'.cell? ⟨w.heap.size, 2, none⟩ = some (.string d1) ∧ w'.cell? ⟨w.heap.size + 1, 0, none⟩ = some (.bool false) ∧ w'.cell? ⟨w.heap.size + 1, 1, none⟩ = some (.string a2) ∧ w'.cell? ⟨w.heap.size + 1, 2, none⟩ = some (.string d2))
      (first | (go_keep; done))
      (first
       | (go_at_call_of 79 (Value.string a1); (with_reducible refine (mul_G x.num.natAbs y.den k _ H1.out.a H2.out.d HZ.out.1.1 HZ.out.2.2 (by omega)).mono ?_); rintro e w4 ⟨rfl, hb4⟩; have hS4 := Q2.next (w := w) (s1 := false) (a1 := a1) (d1 := d1) (s2 := false) (a2 := a2) (d2 := d2) (by first | assumption | exact Q2.drew (by assumption) | (go_split_ands; assumption)) hb4; obtain ⟨x40, x41, x42, x43, x44, x45, -, -, -, -, -, -⟩ := Q2.all hS4)
       | (go_at_call_of 79 (Value.string a2); (with_reducible refine (mul_G y.num.natAbs x.den k _ H2.out.a H1.out.d HZ.out.2.1 HZ.out.1.2 (by omega)).mono ?_); rintro e w5 ⟨rfl, hb5⟩; have hS5 := Q2.next (w := w) (s1 := false) (a1 := a1) (d1 := d1) (s2 := false) (a2 := a2) (d2 := d2) (by first | assumption | exact Q2.drew (by assumption) | (go_split_ands; assumption)) hb5; obtain ⟨x50, x51, x52, x53, x54, x55, -, -, -, -, -, -⟩ := Q2.all hS5)
       | (go_at_call 78; (with_reducible refine (cmp_G _ _ k _ (HZ.out.1.1.mul HZ.out.2.2) (HZ.out.2.1.mul HZ.out.1.2) (by omega)).mono ?_); rintro e w' ⟨rfl, rfl⟩; have hS6 : Hid (Q2 w false a1 d1 false a2 d2 _) := hS5)
       | fail)
     all_goals
      go_wp2_with fail
      go_meet
      exact ⟨hS6, rfl⟩
    case rest =>
     obtain ⟨HQ2, rfl⟩ := hcut
     obtain ⟨k0, k1, k2, k3, k4, k5, -, -, -, -, -, -⟩ := Q2.all HQ2
     obtain ⟨cz, hcz⟩ : ∃ cz, cz = cmpZ (x.num.natAbs * y.den) (y.num.natAbs * x.den) := ⟨_, rfl⟩
     have hcl : -1 ≤ cz ∧ cz ≤ 1 := by rw [hcz]; unfold cmpZ; split <;> (try split) <;> omega
     obtain ⟨l1, l2⟩ := hcl
     rw [← hcz]
     have HCZ := yh hcz; clear hcz
     go_wp2_with fail
     go_ret
     exact ⟨by rw [← HQ.out, ← HCZ.out]; rfl, HQ2.out.below⟩
end Go.Proofs.YtmchjmflkaiakaaGreatDoor
/- Walks of package rat: Add (printed by ratgen.py). -/
namespace Go.Proofs.YtmchjmflkaiakaaGreatDoor
open Go.RowKit
set_option linter.unusedVariables false
set_option linter.unusedSimpArgs false
theorem sg_mul_nat (s : Bool) (m n : Nat) : sg s (m * n) = sg s m * n := by
 unfold sg; split
 ·rw [Int.natCast_mul, Int.neg_mul]
 ·rw [Int.natCast_mul]
theorem RIs.sg {q : Rat} {s : Bool} {a d : ByteArray} (h : RIs q s a d) : Go.Proofs.YtmchjmflkaiakaaGreatDoor.sg s q.num.natAbs = q.num := by rw [h.s]; exact sg_num q
theorem signed_G (s t : Bool) (m n k : Nat) (z : Int) {a b : ByteArray} (w : World) (ha : a = S m) (hb : b = S n) (h : Sz k m) (h' : Sz k n) (hk : k ≤ 35184372088832) (hz : sg s m + sg t n = z) :
  Calls Tryz.prog 90 #[.bool s, .string a, .bool t, .string b] w fun e w' => (∃ (u : Bool) (n : Nat), e = .returned (.tuple #[.bool u, .string (S n)]) ∧ sg u n = z) ∧ Below w.heap.size w w' := by
 rw [ha, hb, ← hz]; exact signed_R s t m n k k w h h' hk hk
theorem sz_abs {k : Nat} {a b : Int} {u : Bool} {n : Nat} (h : sg u n = a + b) (ha : Sz k a.natAbs) (hb : Sz k b.natAbs) : Sz (k + k + 1) n := by
 have h1 : n = (a + b).natAbs := by rw [← h, sg_natAbs]
 exact (ha.add hb).le (by omega)
theorem made_G (u : Bool) (n k : Nat) (m : Nat) (q : Rat) {s3 : Bool} {a3 d3 d : ByteArray} (w : World) (h3 : RIs q s3 a3 d3) (hd : d = S m) (hm : m ≠ 0) (hq : mkRat (sg u n) m = q) (h : Sz k n) (h' : Sz k m) (hk : k ≤ 35184372088832) (hT : Tab w) :
  Calls Tryz.prog 80 #[.bool u, .string (S n), .string d] w fun e w' => e = .returned (.agg #[.bool s3, .string a3, .string d3]) ∧ Below w.heap.size w w' := by
 rw [hd, ← h3.val, ← hq]; exact made_R u n m k w hm h h' hk hT
theorem add_same {x y : Rat} (h : x.den = y.den) : mkRat (x.num + y.num) x.den = x + y := by
 rw [Rat.add_def', ← h, ← Int.add_mul]
 exact (Rat.mkRat_mul_right x.den_nz).symm
theorem S_inj' {m n : Nat} (h : S m = S n) : m = n := bstr_inj (by rw [← toL_S, h]; rfl)
theorem S_eq_iff (m n : Nat) : ((S m).toList == (S n).toList) = decide (m = n) := by
 rw [S_list, S_list]
 by_cases h : m = n
 ·subst h; simp
 ·rw [decide_eq_false h, beq_eq_false_iff_ne]; intro e; exact h (bstr_inj e)
theorem add_R (k : Nat) (x y : Rat) (w : World) (hx : Rz k x) (hy : Rz k y) (hk : k ≤ 4398046511104) (hT : Tab w) :
  Calls Tryz.prog 49 #[R x, R y] w fun e w' => e = .returned (R (x + y)) ∧ Below w.heap.size w w' := by
 have HZ := yh (And.intro (And.intro (show Sz k x.num.natAbs from hx.1) (show Sz k x.den from hx.2)) (And.intro (show Sz k y.num.natAbs from hy.1) (show Sz k y.den from hy.2)))
 have HH := yh (And.intro hx (And.intro hy hT)); clear hx hy hT
 obtain ⟨s1, a1, d1, h1⟩ := R_parts x
 obtain ⟨s2, a2, d2, h2⟩ := R_parts y
 obtain ⟨s3, a3, d3, h3⟩ := R_parts (x + y)
 rw [h1.val, h2.val, h3.val]
 have H3 := yh h3; clear h3
 have H1 := yh h1; clear h1
 have H2 := yh h2; clear h2
 obtain ⟨W0, hW0⟩ : ∃ W0, W0 = (((w.alloc (.cells #[.bool s1, .string a1, .string d1] 27)).alloc (.cells #[.bool s2, .string a2, .string d2] 27)).alloc (.cells #[.bool false, .string ⟨#[]⟩, .string ⟨#[]⟩] 27)) := ⟨_, rfl⟩
 obtain ⟨HQ0, HZ0⟩ := q2_start w s1 a1 d1 s2 a2 d2
 rw [← hW0] at HQ0 HZ0
 have HW0 := yh hW0; clear hW0
 go_enter Tryz.func49, Tryz.ntmps49
 go_wp2_with fail
 rw [← HW0.out]
 obtain ⟨c0, c1, c2, c3, c4, c5, f0, f1, f2, f3, f4, f5⟩ := Q2.all HQ0
 go_cut [] (fun wc => Hid (Q2 w s1 a1 d1 s2 a2 d2 wc) ∧ Hid (QZ w wc))
 case first =>
  go_region_held3 (fun w' => w'.cell? ⟨w.heap.size, 0, none⟩ = some (.bool s1) ∧ w'.cell? ⟨w.heap.size, 1, none⟩ = some (.string a1) ∧ w'.cell? ⟨w.heap.size, 2, none⟩ = some (.string d1) ∧ w'.cell? ⟨w.heap.size + 1, 0, none⟩ = some (.bool s2) ∧ w'.cell? ⟨w.heap.size + 1, 1, none⟩ = some (.string a2) ∧ w'.cell? ⟨w.heap.size + 1, 2, none⟩ = some (.string d2) ∧ w'.frozen? ⟨w.heap.size, 0, none⟩ = false ∧ w'.frozen? ⟨w.heap.size, 1, none⟩ = false ∧ w'.frozen? ⟨w.heap.size, 2, none⟩ = false ∧ w'.frozen? ⟨w.heap.size + 1, 0, none⟩ = false ∧ w'.frozen? ⟨w.heap.size + 1, 1, none⟩ = false ∧ w'.frozen? ⟨w.heap.size + 1, 2, none⟩ = false)
   (first | (go_keep; done) | (with_reducible exact Q2.all (Q2.put0 hS4)) | (with_reducible exact Q2.all (Q2.put1 (Q2.put0 hS4))))
   (first
    | (go_at_call_of 77 (Value.agg #[Value.bool s1, Value.string a1, Value.string d1]); (with_reducible refine (fit_O k x s1 a1 d1 _ H1.out HH.out.1 (by omega) (HH.out.2.2.next (Hid.out (p := Q2 w s1 a1 d1 s2 a2 d2 _) (by first | assumption | exact Q2.drew (by assumption) | (go_split_ands; assumption))).below)).mono ?_); rintro e w3 ⟨rfl, hb3⟩; have hS3 := Q2.next (w := w) (s1 := s1) (a1 := a1) (d1 := d1) (s2 := s2) (a2 := a2) (d2 := d2) (by first | assumption | exact Q2.drew (by assumption) | (go_split_ands; assumption)) hb3; have hZ3 := QZ.next (w := w) (by first | assumption | exact QZ.drew (by assumption) | (go_split_ands; assumption)) hb3; obtain ⟨x30, x31, x32, x33, x34, x35, xf30, xf31, xf32, xf33, xf34, xf35⟩ := Q2.all hS3)
    | (go_at_call_of 77 (Value.agg #[Value.bool s2, Value.string a2, Value.string d2]); (with_reducible refine (fit_O k y s2 a2 d2 _ H2.out HH.out.2.1 (by omega) (HH.out.2.2.next (Hid.out (p := Q2 w s1 a1 d1 s2 a2 d2 _) (by first | assumption | exact Q2.drew (by assumption) | (go_split_ands; assumption))).below)).mono ?_); rintro e w4 ⟨rfl, hb4⟩; have hS4 := Q2.next (w := w) (s1 := s1) (a1 := a1) (d1 := d1) (s2 := s2) (a2 := a2) (d2 := d2) (by first | assumption | exact Q2.drew (by assumption) | (go_split_ands; assumption)) hb4; have hZ4 := QZ.next (w := w) (by first | assumption | exact QZ.drew (by assumption) | (go_split_ands; assumption)) hb4; obtain ⟨x40, x41, x42, x43, x44, x45, xf40, xf41, xf42, xf43, xf44, xf45⟩ := Q2.all hS4)
    | fail)
  all_goals
   go_wp2_with fail
   go_meet
   exact ⟨Q2.put1 (Q2.put0 hS4), QZ.put1 (QZ.put0 hZ4)⟩
 case rest =>
  clear c0 c1 c2 c3 c4 c5 f0 f1 f2 f3 f4 f5 HQ0 HZ0
  obtain ⟨HQ1, HZ1⟩ := hcut
  obtain ⟨c0, c1, c2, c3, c4, c5, -, -, -, -, -, -⟩ := Q2.all HQ1
  obtain ⟨z0, z1, z2, zf0, zf1, zf2⟩ := QZ.cells HZ1
  by_cases hde : x.den = y.den
  ·have hdd : (d1.toList == d2.toList) = true := by rw [H1.out.d, H2.out.d, S_eq_iff]; exact decide_eq_true hde
   have hde2 : d1.toList = d2.toList := by simpa using hdd
   have HD := yh hde; clear hde
   go_wp2_with fail
   refine (signed_G s1 s2 x.num.natAbs y.num.natAbs k (x.num + y.num) _ H1.out.a H2.out.a HZ.out.1.1 HZ.out.2.1 (by omega) (by rw [H1.out.sg, H2.out.sg])).mono ?_
   rintro e w5 ⟨⟨u, n, rfl, hun⟩, hb5⟩
   have HUN := yh hun; clear hun
   have hS5 := Q2.next (w := w) (s1 := s1) (a1 := a1) (d1 := d1) (s2 := s2) (a2 := a2) (d2 := d2) HQ1 hb5
   have hZ5 := QZ.next (w := w) HZ1 hb5
   obtain ⟨x50, x51, x52, x53, x54, x55, -, -, -, -, -, -⟩ := Q2.all hS5
   obtain ⟨y50, y51, y52, yf50, yf51, yf52⟩ := QZ.cells hZ5
   go_wp2_with fail
   refine (made_G u n (k + k + 1) x.den (x + y) _ H3.out H1.out.d x.den_nz (by rw [HUN.out]; exact add_same HD.out) (sz_abs HUN.out HZ.out.1.1 HZ.out.2.1) (HZ.out.1.2.more (by omega)) (by omega) (HH.out.2.2.next hS5.out.below)).mono ?_
   rintro e w7 ⟨rfl, hb7⟩
   have hS7 := Q2.next (w := w) (s1 := s1) (a1 := a1) (d1 := d1) (s2 := s2) (a2 := a2) (d2 := d2) hS5 hb7
   have hZ7 := QZ.next (w := w) hZ5 hb7
   obtain ⟨y70, y71, y72, yf70, yf71, yf72⟩ := QZ.cells hZ7
   go_wp2_with fail
   have hW := put3 hZ7.out (.bool s3) (.string a3) (.string d3)
   have hWb := put3_below (g := w.heap.size + 2) hS7.out.below (by omega) (.bool s3) (.string a3) (.string d3)
   obtain ⟨p0, p1, p2, -, -, -⟩ := hW.three
   refine bodyPost_ret (v := .agg #[.bool s3, .string a3, .string d3]) (by simp [results, Tryz.results49, go_sem, p0, p1, p2]) rfl ⟨rfl, hWb⟩
  ·have hdd : (d1.toList == d2.toList) = false := by rw [H1.out.d, H2.out.d, S_eq_iff]; exact decide_eq_false hde
   have hde2 : ¬ d1.toList = d2.toList := by simpa using hdd
   go_wp2_with fail
   go_cut [7, 8] (fun s7 s8 wc => ∃ (u : Bool) (n : Nat), s7 = .bool u ∧ s8 = .string (S n) ∧ Hid (sg u n = x.num * y.den + y.num * x.den) ∧ Hid (Q2 w s1 a1 d1 s2 a2 d2 wc) ∧ Hid (QZ w wc))
   case first =>
    go_region_held3 (fun w' => w'.cell? ⟨w.heap.size, 0, none⟩ = some (.bool s1) ∧ w'.cell? ⟨w.heap.size, 1, none⟩ = some (.string a1) ∧ w'.cell? ⟨w.heap.size, 2, none⟩ = some (.string d1) ∧ w'.cell? ⟨w.heap.size + 1, 0, none⟩ = some (.bool s2) ∧ w'.cell? ⟨w.heap.size + 1, 1, none⟩ = some (.string a2) ∧ w'.cell? ⟨w.heap.size + 1, 2, none⟩ = some (.string d2))
     (first | (go_keep; done))
     (first
      | (go_at_call_of 79 (Value.string a1); (with_reducible refine (mul_G x.num.natAbs y.den k _ H1.out.a H2.out.d HZ.out.1.1 HZ.out.2.2 (by omega)).mono ?_); rintro e w4 ⟨rfl, hb4⟩; have hS4 := Q2.next (w := w) (s1 := s1) (a1 := a1) (d1 := d1) (s2 := s2) (a2 := a2) (d2 := d2) (by first | assumption | exact Q2.drew (by assumption) | (go_split_ands; assumption)) hb4; have hZ4 := QZ.next (w := w) (by first | assumption | exact QZ.drew (by assumption) | (go_split_ands; assumption)) hb4; obtain ⟨x40, x41, x42, x43, x44, x45, -, -, -, -, -, -⟩ := Q2.all hS4; obtain ⟨y40, y41, y42, yf40, yf41, yf42⟩ := QZ.cells hZ4)
      | (go_at_call_of 79 (Value.string a2); (with_reducible refine (mul_G y.num.natAbs x.den k _ H2.out.a H1.out.d HZ.out.2.1 HZ.out.1.2 (by omega)).mono ?_); rintro e w5 ⟨rfl, hb5⟩; have hS5 := Q2.next (w := w) (s1 := s1) (a1 := a1) (d1 := d1) (s2 := s2) (a2 := a2) (d2 := d2) (by first | assumption | exact Q2.drew (by assumption) | (go_split_ands; assumption)) hb5; have hZ5 := QZ.next (w := w) (by first | assumption | exact QZ.drew (by assumption) | (go_split_ands; assumption)) hb5; obtain ⟨x50, x51, x52, x53, x54, x55, -, -, -, -, -, -⟩ := Q2.all hS5; obtain ⟨y50, y51, y52, yf50, yf51, yf52⟩ := QZ.cells hZ5)
      | (go_at_call 90; (with_reducible refine (signed_G s1 s2 (x.num.natAbs * y.den) (y.num.natAbs * x.den) (k + k) (x.num * y.den + y.num * x.den) _ rfl rfl (HZ.out.1.1.mul HZ.out.2.2) (HZ.out.2.1.mul HZ.out.1.2) (by omega) (by rw [sg_mul_nat, sg_mul_nat, H1.out.sg, H2.out.sg])).mono ?_); rintro e w6 ⟨⟨u, n, rfl, hun⟩, hb6⟩; have HUN := yh hun; clear hun; have hS6 := Q2.next (w := w) (s1 := s1) (a1 := a1) (d1 := d1) (s2 := s2) (a2 := a2) (d2 := d2) (by first | assumption | exact Q2.drew (by assumption) | (go_split_ands; assumption)) hb6; have hZ6 := QZ.next (w := w) (by first | assumption | exact QZ.drew (by assumption) | (go_split_ands; assumption)) hb6; obtain ⟨x60, x61, x62, x63, x64, x65, -, -, -, -, -, -⟩ := Q2.all hS6; obtain ⟨y60, y61, y62, yf60, yf61, yf62⟩ := QZ.cells hZ6)
      | fail)
    all_goals
     go_wp2_with fail
     go_meet
     exact ⟨u, n, rfl, rfl, HUN.out, hS6, hZ6⟩
   case rest =>
    obtain ⟨u, n, rfl, rfl, HUN, HQ2, HZ2⟩ := hcut
    clear c0 c1 c2 c3 c4 c5 z0 z1 z2 zf0 zf1 zf2
    obtain ⟨c0, c1, c2, c3, c4, c5, -, -, -, -, -, -⟩ := Q2.all HQ2
    obtain ⟨z0, z1, z2, zf0, zf1, zf2⟩ := QZ.cells HZ2
    go_wp2_with fail
    refine (mul_G x.den y.den k _ H1.out.d H2.out.d HZ.out.1.2 HZ.out.2.2 (by omega)).mono ?_
    rintro e w5 ⟨rfl, hb5⟩
    have hS5 := Q2.next (w := w) (s1 := s1) (a1 := a1) (d1 := d1) (s2 := s2) (a2 := a2) (d2 := d2) HQ2 hb5
    have hZ5 := QZ.next (w := w) HZ2 hb5
    go_wp2_with fail
    refine (made_G u n (k + k + k + k + 1) (x.den * y.den) (x + y) _ H3.out rfl (Nat.mul_ne_zero x.den_nz y.den_nz) (by rw [HUN.out, Rat.add_def']) ((sz_abs (k := k + k) HUN.out (by rw [Int.natAbs_mul]; exact HZ.out.1.1.mul HZ.out.2.2) (by rw [Int.natAbs_mul]; exact HZ.out.2.1.mul HZ.out.1.2)).more (by omega)) ((HZ.out.1.2.mul HZ.out.2.2).more (by omega)) (by omega) (HH.out.2.2.next hS5.out.below)).mono ?_
    rintro e w7 ⟨rfl, hb7⟩
    have hS7 := Q2.next (w := w) (s1 := s1) (a1 := a1) (d1 := d1) (s2 := s2) (a2 := a2) (d2 := d2) hS5 hb7
    have hZ7 := QZ.next (w := w) hZ5 hb7
    obtain ⟨y70, y71, y72, yf70, yf71, yf72⟩ := QZ.cells hZ7
    go_wp2_with fail
    have hW := put3 hZ7.out (.bool s3) (.string a3) (.string d3)
    have hWb := put3_below (g := w.heap.size + 2) hS7.out.below (by omega) (.bool s3) (.string a3) (.string d3)
    obtain ⟨p0, p1, p2, -, -, -⟩ := hW.three
    refine bodyPost_ret (v := .agg #[.bool s3, .string a3, .string d3]) (by simp [results, Tryz.results49, go_sem, p0, p1, p2]) rfl ⟨rfl, hWb⟩
end Go.Proofs.YtmchjmflkaiakaaGreatDoor
/- Walks of package rat: Div (printed by ratgen.py). -/
namespace Go.Proofs.YtmchjmflkaiakaaGreatDoor
open Go.RowKit
set_option linter.unusedVariables false
set_option linter.unusedSimpArgs false
theorem div_mk (x y : Rat) (hy : y.num ≠ 0) : mkRat (sg (decide (x.num < 0) != decide (y.num < 0)) (x.num.natAbs * y.den)) (x.den * y.num.natAbs) = x / y := by
 rw [Rat.div_def, Rat.mul_def', Rat.num_inv, Rat.den_inv, if_neg hy]
 congr 1
 rw [← Int.mul_assoc, sg_mul_nat]
 congr 1
 unfold sg
 by_cases h1 : x.num < 0 <;> by_cases h2 : y.num < 0
 ·rw [if_neg (by simp [h1, h2]), Int.sign_eq_neg_one_of_neg h2]; omega
 ·rw [if_pos (by simp [h1, h2]), Int.sign_eq_one_of_pos (by omega)]; omega
 ·rw [if_pos (by simp [h1, h2]), Int.sign_eq_neg_one_of_neg h2]; omega
 ·rw [if_neg (by simp [h1, h2]), Int.sign_eq_one_of_pos (by omega)]; omega
theorem made_D (x y : Rat) (k : Nat) {s1 s2 s3 b : Bool} {a1 d1 a2 d2 a3 d3 : ByteArray} (w : World) (h1 : RIs x s1 a1 d1) (h2 : RIs y s2 a2 d2) (h3 : RIs (x / y) s3 a3 d3) (hy0 : y.num ≠ 0) (h : Sz k (x.num.natAbs * y.den)) (h' : Sz k (x.den * y.num.natAbs)) (hk : k ≤ 35184372088832) (hT : Tab w) (hb : b = (s1 != s2)) :
  Calls Tryz.prog 80 #[.bool b, .string (S (x.num.natAbs * y.den)), .string (S (x.den * y.num.natAbs))] w fun e w' => e = .returned (.agg #[.bool s3, .string a3, .string d3]) ∧ Below w.heap.size w w' := by
 rw [← h3.val, ← div_mk x y hy0, hb, h1.s, h2.s]
 exact made_R _ _ _ k w (Nat.mul_ne_zero x.den_nz (by omega)) h h' hk hT
theorem div_R (k : Nat) (x y : Rat) (w : World) (hx : Rz k x) (hy : Rz k y) (hy0 : y ≠ 0) (hk : k ≤ 4398046511104) (hT : Tab w) :
  Calls Tryz.prog 47 #[R x, R y] w fun e w' => e = .returned (.tuple #[R (x / y), .int .i64 0]) ∧ Below w.heap.size w w' := by
 have hyn : y.num ≠ 0 := fun h => hy0 (Rat.num_eq_zero.1 h)
 have HZ := yh (And.intro (And.intro (show Sz k x.num.natAbs from hx.1) (show Sz k x.den from hx.2)) (And.intro (show Sz k y.num.natAbs from hy.1) (show Sz k y.den from hy.2)))
 have HH := yh (And.intro hx (And.intro hy hT)); clear hx hy hT
 obtain ⟨s1, a1, d1, h1⟩ := R_parts x
 obtain ⟨s2, a2, d2, h2⟩ := R_parts y
 obtain ⟨s3, a3, d3, h3⟩ := R_parts (x / y)
 rw [h1.val, h2.val, h3.val]
 have H3 := yh h3; clear h3
 have H1 := yh h1; clear h1
 have H2 := yh h2; clear h2
 have he := S_empty_of (show y.num.natAbs ≠ 0 by omega)
 rw [← H2.out.a] at he
 obtain ⟨W0, hW0⟩ : ∃ W0, W0 = (((w.alloc (.cells #[.bool s1, .string a1, .string d1] 27)).alloc (.cells #[.bool s2, .string a2, .string d2] 27)).alloc (.cells #[.bool false, .string ⟨#[]⟩, .string ⟨#[]⟩] 27)) := ⟨_, rfl⟩
 obtain ⟨HQ0, HZ0⟩ := q2_start w s1 a1 d1 s2 a2 d2
 rw [← hW0] at HQ0 HZ0
 have HW0 := yh hW0; clear hW0
 go_enter Tryz.func47, Tryz.ntmps47
 go_wp2_with fail
 rw [← HW0.out]
 obtain ⟨c0, c1, c2, c3, c4, c5, f0, f1, f2, f3, f4, f5⟩ := Q2.all HQ0
 go_cut [] (fun wc => Hid (Q2 w s1 a1 d1 s2 a2 d2 wc) ∧ Hid (QZ w wc))
 case first =>
  go_region_held3 (fun w' => w'.cell? ⟨w.heap.size, 0, none⟩ = some (.bool s1) ∧ w'.cell? ⟨w.heap.size, 1, none⟩ = some (.string a1) ∧ w'.cell? ⟨w.heap.size, 2, none⟩ = some (.string d1) ∧ w'.cell? ⟨w.heap.size + 1, 0, none⟩ = some (.bool s2) ∧ w'.cell? ⟨w.heap.size + 1, 1, none⟩ = some (.string a2) ∧ w'.cell? ⟨w.heap.size + 1, 2, none⟩ = some (.string d2) ∧ w'.frozen? ⟨w.heap.size, 0, none⟩ = false ∧ w'.frozen? ⟨w.heap.size, 1, none⟩ = false ∧ w'.frozen? ⟨w.heap.size, 2, none⟩ = false ∧ w'.frozen? ⟨w.heap.size + 1, 0, none⟩ = false ∧ w'.frozen? ⟨w.heap.size + 1, 1, none⟩ = false ∧ w'.frozen? ⟨w.heap.size + 1, 2, none⟩ = false)
   (first | (go_keep; done) | (with_reducible exact Q2.all (Q2.put0 hS4)) | (with_reducible exact Q2.all (Q2.put1 (Q2.put0 hS4))))
   (first
    | (go_at_call_of 77 (Value.agg #[Value.bool s1, Value.string a1, Value.string d1]); (with_reducible refine (fit_O k x s1 a1 d1 _ H1.out HH.out.1 (by omega) (HH.out.2.2.next (Hid.out (p := Q2 w s1 a1 d1 s2 a2 d2 _) (by first | assumption | exact Q2.drew (by assumption) | (go_split_ands; assumption))).below)).mono ?_); rintro e w3 ⟨rfl, hb3⟩; have hS3 := Q2.next (w := w) (s1 := s1) (a1 := a1) (d1 := d1) (s2 := s2) (a2 := a2) (d2 := d2) (by first | assumption | exact Q2.drew (by assumption) | (go_split_ands; assumption)) hb3; have hZ3 := QZ.next (w := w) (by first | assumption | exact QZ.drew (by assumption) | (go_split_ands; assumption)) hb3; obtain ⟨x30, x31, x32, x33, x34, x35, xf30, xf31, xf32, xf33, xf34, xf35⟩ := Q2.all hS3)
    | (go_at_call_of 77 (Value.agg #[Value.bool s2, Value.string a2, Value.string d2]); (with_reducible refine (fit_O k y s2 a2 d2 _ H2.out HH.out.2.1 (by omega) (HH.out.2.2.next (Hid.out (p := Q2 w s1 a1 d1 s2 a2 d2 _) (by first | assumption | exact Q2.drew (by assumption) | (go_split_ands; assumption))).below)).mono ?_); rintro e w4 ⟨rfl, hb4⟩; have hS4 := Q2.next (w := w) (s1 := s1) (a1 := a1) (d1 := d1) (s2 := s2) (a2 := a2) (d2 := d2) (by first | assumption | exact Q2.drew (by assumption) | (go_split_ands; assumption)) hb4; have hZ4 := QZ.next (w := w) (by first | assumption | exact QZ.drew (by assumption) | (go_split_ands; assumption)) hb4; obtain ⟨x40, x41, x42, x43, x44, x45, xf40, xf41, xf42, xf43, xf44, xf45⟩ := Q2.all hS4)
    | fail)
  all_goals
   go_wp2_with fail
   go_meet
   exact ⟨Q2.put1 (Q2.put0 hS4), QZ.put1 (QZ.put0 hZ4)⟩
 case rest =>
  clear c0 c1 c2 c3 c4 c5 f0 f1 f2 f3 f4 f5 HQ0 HZ0
  obtain ⟨HQ1, HZ1⟩ := hcut
  obtain ⟨c0, c1, c2, c3, c4, c5, -, -, -, -, -, -⟩ := Q2.all HQ1
  obtain ⟨z0, z1, z2, zf0, zf1, zf2⟩ := QZ.cells HZ1
  go_wp2_with fail
  go_region_held3 (fun w' => w'.cell? ⟨w.heap.size, 0, none⟩ = some (.bool s1) ∧ w'.cell? ⟨w.heap.size, 1, none⟩ = some (.string a1) ∧ w'.cell? ⟨w.heap.size, 2, none⟩ = some (.string d1) ∧ w'.cell? ⟨w.heap.size + 1, 0, none⟩ = some (.bool s2) ∧ w'.cell? ⟨w.heap.size + 1, 1, none⟩ = some (.string a2) ∧ w'.cell? ⟨w.heap.size + 1, 2, none⟩ = some (.string d2))
   (first | (go_keep; done) | (with_reducible exact Q2.six (Q2.put2 hS7)))
   (first
    | (go_at_call_of 79 (Value.string a1); (with_reducible refine (mul_G x.num.natAbs y.den k _ H1.out.a H2.out.d HZ.out.1.1 HZ.out.2.2 (by omega)).mono ?_); rintro e w4 ⟨rfl, hb4⟩; have hS4 := Q2.next (w := w) (s1 := s1) (a1 := a1) (d1 := d1) (s2 := s2) (a2 := a2) (d2 := d2) (by first | assumption | exact Q2.drew (by assumption) | (go_split_ands; assumption)) hb4; have hZ4 := QZ.next (w := w) (by first | assumption | exact QZ.drew (by assumption) | (go_split_ands; assumption)) hb4; obtain ⟨x40, x41, x42, x43, x44, x45, -, -, -, -, -, -⟩ := Q2.all hS4; obtain ⟨y40, y41, y42, yf40, yf41, yf42⟩ := QZ.cells hZ4)
    | (go_at_call_of 79 (Value.string d1); (with_reducible refine (mul_G x.den y.num.natAbs k _ H1.out.d H2.out.a HZ.out.1.2 HZ.out.2.1 (by omega)).mono ?_); rintro e w5 ⟨rfl, hb5⟩; have hS5 := Q2.next (w := w) (s1 := s1) (a1 := a1) (d1 := d1) (s2 := s2) (a2 := a2) (d2 := d2) (by first | assumption | exact Q2.drew (by assumption) | (go_split_ands; assumption)) hb5; have hZ5 := QZ.next (w := w) (by first | assumption | exact QZ.drew (by assumption) | (go_split_ands; assumption)) hb5; obtain ⟨x50, x51, x52, x53, x54, x55, -, -, -, -, -, -⟩ := Q2.all hS5; obtain ⟨y50, y51, y52, yf50, yf51, yf52⟩ := QZ.cells hZ5)
    | (go_at_call 80; (with_reducible refine (made_D x y (k + k) _ H1.out H2.out H3.out hyn (HZ.out.1.1.mul HZ.out.2.2) (HZ.out.1.2.mul HZ.out.2.1) (by omega) (HH.out.2.2.next (Hid.out (p := Q2 w s1 a1 d1 s2 a2 d2 _) (by first | assumption | exact Q2.drew (by assumption) | (go_split_ands; assumption))).below) (by cases s1 <;> cases s2 <;> first | (exact (by decide)) | simp)).mono ?_); rintro e w7 ⟨rfl, hb7⟩; have hS7 := Q2.next (w := w) (s1 := s1) (a1 := a1) (d1 := d1) (s2 := s2) (a2 := a2) (d2 := d2) (by first | assumption | exact Q2.drew (by assumption) | (go_split_ands; assumption)) hb7; have hZ7 := QZ.next (w := w) (by first | assumption | exact QZ.drew (by assumption) | (go_split_ands; assumption)) hb7; obtain ⟨x70, x71, x72, x73, x74, x75, -, -, -, -, -, -⟩ := Q2.all hS7; obtain ⟨y70, y71, y72, yf70, yf71, yf72⟩ := QZ.cells hZ7)
    | fail)
  all_goals
   go_wp2_with fail
   have hW := put3 hZ7.out (.bool s3) (.string a3) (.string d3)
   have hWb := put3_below (g := w.heap.size + 2) hS7.out.below (by omega) (.bool s3) (.string a3) (.string d3)
   obtain ⟨p0, p1, p2, -, -, -⟩ := hW.three
   refine bodyPost_ret (v := .tuple #[.agg #[.bool s3, .string a3, .string d3], .int .i64 0]) (by simp [results, Tryz.results47, go_sem, p0, p1, p2]) rfl ⟨rfl, hWb⟩
end Go.Proofs.YtmchjmflkaiakaaGreatDoor
