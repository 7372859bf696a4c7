/- Walks of package rat: signed, made. -/
import Derived.Test.YtlfddhiimcophaaDoorRatA
namespace Go.Proofs.YtlfddhiimcophaaDoor
open Go.RowKit
set_option linter.unusedVariables false
set_option linter.unusedSimpArgs false

theorem hide' {p : Prop} (h : p) : Hid p := h
/-- a natural number with a sign -/
def sg (s : Bool) (n : Nat) : Int := if s then -(n : Int) else n
theorem sg_natAbs (s : Bool) (n : Nat) : (sg s n).natAbs = n := by unfold sg; split <;> simp
theorem sg_num (q : Rat) : sg (decide (q.num < 0)) q.num.natAbs = q.num := by
  unfold sg; by_cases h : q.num < 0
  · rw [if_pos (by simpa using h)]; omega
  · rw [if_neg (by simpa using h)]; omega
theorem R_eq (s : Bool) (n d : Nat) (hn : n ≠ 0) (hd : d ≠ 0) : R (mkRat (sg s n) d) = .agg #[.bool s, .string (S (n / Nat.gcd n d)), .string (S (d / Nat.gcd n d))] := by
  have hg : 0 < Nat.gcd n d := Nat.gcd_pos_of_pos_left _ (Nat.pos_of_ne_zero hn)
  have h1 : (mkRat (sg s n) d).num = sg s (n / Nat.gcd n d) := by
    rw [Rat.num_mkRat, if_neg hd, sg_natAbs, Nat.gcd_comm]
    unfold sg; split
    · rw [Int.neg_ediv_of_dvd (Int.natCast_dvd_natCast.2 (Nat.gcd_dvd_left n d)), Int.natCast_ediv]
    · rw [Int.natCast_ediv]
  have h2 : (mkRat (sg s n) d).den = d / Nat.gcd n d := by
    rw [Rat.den_mkRat, if_neg hd, sg_natAbs, Nat.gcd_comm]
  have h3 : 0 < n / Nat.gcd n d := Nat.div_pos (gcd_le' (Nat.pos_of_ne_zero hn)) hg
  have h4 : decide (sg s (n / Nat.gcd n d) < 0) = s := by
    generalize n / Nat.gcd n d = m at h3
    unfold sg; cases s
    · simp
    · simp; omega
  unfold R
  rw [h1, h2, sg_natAbs, h4]

theorem signed_R (s t : Bool) (a b k l : Nat) (w : World) (ha : Sz k a) (hb : Sz l b) (hk : k ≤ 35184372088832) (hl : l ≤ 35184372088832) :
    Calls Tryd.prog 57 #[.bool s, .string (S a), .bool t, .string (S b)] w fun e w' => (∃ (u : Bool) (n : Nat), e = .returned (.tuple #[.bool u, .string (S n)]) ∧ sg u n = sg s a + sg t b) ∧ Below w.heap.size w w' := by
  have HH := Lib.hid (And.intro (Nat.le_trans ha hk) (Nat.le_trans hb hl)); clear ha hb hk hl
  by_cases hst : s = t
  · subst hst
    go_enter Tryd.func57, Tryd.ntmps57
    go_wp2_with fail
    refine (add_S a b _ HH.out.1 HH.out.2).mono ?_
    rintro e w1 ⟨rfl, hb1⟩
    have HB1 := Lib.hid hb1; clear hb1
    go_wp2_with fail
    go_ret2
    exact ⟨⟨s, a + b, rfl, by unfold sg; cases s <;> simp <;> omega⟩, HB1.out⟩
  · have h1 : (s == t) = false := by rw [beq_eq_false_iff_ne]; exact hst
    have h2 : t = !s := by cases s <;> cases t <;> simp_all
    by_cases hle : b ≤ a
    · have hsub := sub_S a b w HH.out.1 HH.out.2
      have e1 : subS a b = S (a - b) := by unfold subS; rw [if_neg (by omega)]
      have e2 : subE a b = 0 := by unfold subE; rw [if_neg (by omega)]
      rw [e1, e2] at hsub
      have HS := hide' hsub; clear hsub e1 e2
      have H2 := Lib.hid h2; clear h2 hst
      go_enter Tryd.func57, Tryd.ntmps57
      go_wp2_with fail
      refine (HS.out).mono ?_
      rintro e w1 ⟨rfl, hb1⟩
      have HB1 := Lib.hid hb1; clear hb1
      go_wp2_with fail
      go_ret2
      refine ⟨⟨s, a - b, rfl, ?_⟩, HB1.out⟩
      rw [H2.out]; unfold sg; cases s <;> simp <;> omega
    · have hsub := sub_S a b w HH.out.1 HH.out.2
      have e2 : subE a b = 1 := by unfold subE; rw [if_pos (by omega)]
      rw [e2] at hsub
      have hsub2 : ∀ w1, Calls Tryd.prog 18 #[.string (S b), .string (S a)] w1 fun e w' => e = .returned (.tuple #[.string (S (b - a)), .int .i64 0]) ∧ Below w1.heap.size w1 w' := fun w1 => by
        have h := sub_S b a w1 HH.out.2 HH.out.1
        have e3 : subS b a = S (b - a) := by unfold subS; rw [if_neg (by omega)]
        have e4 : subE b a = 0 := by unfold subE; rw [if_neg (by omega)]
        rw [e3, e4] at h; exact h
      have HS := hide' hsub; have HS2 := hide' hsub2; clear hsub hsub2 e2
      have H2 := Lib.hid h2; clear h2 hst
      go_enter Tryd.func57, Tryd.ntmps57
      go_wp2_with fail
      refine (HS.out).mono ?_
      rintro e w1 ⟨rfl, hb1⟩
      have HB1 := Lib.hid hb1; clear hb1
      go_wp2_with fail
      refine (HS2.out _).mono ?_
      rintro e w2 ⟨rfl, hb2⟩
      have HB2 := Lib.hid hb2; clear hb2
      go_wp2_with fail
      go_ret2
      refine ⟨⟨t, b - a, rfl, ?_⟩, below_next HB1.out HB2.out⟩
      rw [H2.out]; unfold sg; cases s <;> simp <;> omega

theorem R_zero : R 0 = .agg #[.bool false, .string (S 0), .string (S 1)] := rfl
theorem zero_V (w : World) : Calls Tryd.prog 76 #[] w fun e w' => e = .returned (.agg #[.bool false, .string (S 0), .string (S 1)]) ∧ Below w.heap.size w w' := zero_R w
theorem sg_zero (s : Bool) (d : Nat) : mkRat (sg s 0) d = 0 := by
  have : sg s 0 = 0 := by unfold sg; cases s <;> rfl
  rw [this]; exact Rat.zero_mkRat d

theorem made_R (s : Bool) (n d k : Nat) (w : World) (hd : d ≠ 0) (hn : Sz k n) (hdk : Sz k d) (hk : k ≤ 35184372088832) (hT : Tab w) :
    Calls Tryd.prog 58 #[.bool s, .string (S n), .string (S d)] w fun e w' => e = .returned (R (mkRat (sg s n) d)) ∧ Below w.heap.size w w' := by
  have HH := Lib.hid (And.intro (Nat.le_trans hn hk) (And.intro (Nat.le_trans hdk hk) hT)); clear hn hdk hk hT
  have hb0 : Below w.heap.size w (w.alloc (.cells #[.bool false, .string ⟨#[]⟩, .string ⟨#[]⟩] 35)) := (Below.refl _ _).alloc (Nat.le_refl _) _
  have HB0 := Lib.hid hb0; clear hb0
  have hs1 : (S 1).toList = [1] := by rw [S_list]; decide
  by_cases h0 : n = 0
  · subst h0
    have hz : (S 0).toList.isEmpty = true := by rw [S_list]; rfl
    rw [sg_zero, R_zero]
    go_enter Tryd.func58, Tryd.ntmps58
    go_wp2_with fail
    refine (zero_V _).mono ?_
    rintro e w1 ⟨rfl, hb1⟩
    have hk1 : Blk w1 w.heap.size 35 #[.bool false, .string ⟨#[]⟩, .string ⟨#[]⟩] := (Blk.new w _ _).belowB hb1
    obtain ⟨d0, d1, d2, f0, f1, f2⟩ := hk1.three
    have HB1 := Lib.hid (And.intro hb1 hk1); clear hb1 hk1
    go_wp2_with fail
    have hW := put3 HB1.out.2 (.bool false) (.string (S 0)) (.string (S 1))
    have hWb := put3_below (g := w.heap.size) (below_next HB0.out HB1.out.1) (Nat.le_refl _) (.bool false) (.string (S 0)) (.string (S 1))
    obtain ⟨e0, e1, e2, -, -, -⟩ := hW.three
    refine bodyPost_ret (v := .agg #[.bool false, .string (S 0), .string (S 1)]) (by simp [results, Tryd.results58, go_sem, e0, e1, e2]) rfl ⟨rfl, hWb⟩
  · have he := S_empty_of h0
    rw [R_eq s n d h0 hd]
    by_cases h1 : d = 1
    · subst h1
      rw [Nat.gcd_one_right, Nat.div_one, Nat.div_one]
      go_enter Tryd.func58, Tryd.ntmps58
      go_wp2_with fail
      refine bodyPost_ret (v := .agg #[.bool s, .string (S n), .string (S 1)]) (by simp [results, Tryd.results58, go_sem]) rfl ⟨rfl, (Below.refl _ _).alloc (Nat.le_refl _) _⟩
    · have hd1 := S_ne_one h1
      have hd2 := S_beq_one h1
      by_cases h2 : Nat.gcd n d = 1
      · rw [h2, Nat.div_one, Nat.div_one]
        have H2 := Lib.hid h2; clear h2
        go_enter Tryd.func58, Tryd.ntmps58
        go_wp2_with fail
        refine (gcd_S n d _ HH.out.1 HH.out.2.1 (HH.out.2.2.next HB0.out)).mono ?_
        rw [H2.out]
        rintro e w1 ⟨rfl, hb1⟩
        have hk1 : Blk w1 w.heap.size 35 #[.bool false, .string ⟨#[]⟩, .string ⟨#[]⟩] := (Blk.new w _ _).belowB hb1
        obtain ⟨d0, d1, d2, f0, f1, f2⟩ := hk1.three
        have HB1 := Lib.hid (And.intro hb1 hk1); clear hb1 hk1
        go_wp2_with fail
        have hW := put3 HB1.out.2 (.bool s) (.string (S n)) (.string (S d))
        have hWb := put3_below (g := w.heap.size) (below_next HB0.out HB1.out.1) (Nat.le_refl _) (.bool s) (.string (S n)) (.string (S d))
        obtain ⟨e0, e1, e2, -, -, -⟩ := hW.three
        refine bodyPost_ret (v := .agg #[.bool s, .string (S n), .string (S d)]) (by simp [results, Tryd.results58, go_sem, e0, e1, e2]) rfl ⟨rfl, hWb⟩
      · have hg1 := S_ne_one h2
        have hg2 := S_beq_one h2
        have hg0 : Nat.gcd n d ≠ 0 := Nat.ne_of_gt (Nat.gcd_pos_of_pos_left _ (Nat.pos_of_ne_zero h0))
        have hgl := Nat.le_trans (len_le_of_le (gcd_le' (b := d) (Nat.pos_of_ne_zero h0))) HH.out.1
        have H2 := Lib.hid (And.intro hg0 hgl); clear hg0 hgl h2
        go_enter Tryd.func58, Tryd.ntmps58
        go_wp2_with fail
        refine (gcd_S n d _ HH.out.1 HH.out.2.1 (HH.out.2.2.next HB0.out)).mono ?_
        rintro e w1 ⟨rfl, hb1⟩
        have HB1 := Lib.hid hb1; clear hb1
        go_wp2_with fail
        refine (div_S n (Nat.gcd n d) _ H2.out.1 HH.out.1 H2.out.2).mono ?_
        rintro e w2 ⟨rfl, hb2⟩
        have HB2 := Lib.hid hb2; clear hb2
        go_wp2_with fail
        refine (div_S d (Nat.gcd n d) _ H2.out.1 HH.out.2.1 H2.out.2).mono ?_
        rintro e w3 ⟨rfl, hb3⟩
        have hk3 : Blk w3 w.heap.size 35 #[.bool false, .string ⟨#[]⟩, .string ⟨#[]⟩] := (((Blk.new w _ _).belowB HB1.out).belowB HB2.out).belowB hb3
        have hbb := below_next (below_next (below_next HB0.out HB1.out) HB2.out) hb3
        obtain ⟨d0, d1, d2, f0, f1, f2⟩ := hk3.three
        have HB3 := Lib.hid (And.intro hbb hk3); clear hbb hb3 hk3
        go_wp2_with fail
        have hW := put3 HB3.out.2 (.bool s) (.string (S (n / Nat.gcd n d))) (.string (S (d / Nat.gcd n d)))
        have hWb := put3_below (g := w.heap.size) HB3.out.1 (Nat.le_refl _) (.bool s) (.string (S (n / Nat.gcd n d))) (.string (S (d / Nat.gcd n d)))
        obtain ⟨e0, e1, e2, -, -, -⟩ := hW.three
        refine bodyPost_ret (v := .agg #[.bool s, .string (S (n / Nat.gcd n d)), .string (S (d / Nat.gcd n d))]) (by simp [results, Tryd.results58, go_sem, e0, e1, e2]) rfl ⟨rfl, hWb⟩
end Go.Proofs.YtlfddhiimcophaaDoor
