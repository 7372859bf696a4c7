/- Joined texts. -/
import Derived.Test.YtekbpiooecdopaaDoorNatV
import Derived.Test.YtekbpiooecdopaaDoorNatX

/- Walks of package nat: Div. -/
namespace Go.Proofs.YtekbpiooecdopaaDoor
open Go.RowKit
set_option linter.unusedVariables false
set_option linter.unusedSimpArgs false

set_option maxHeartbeats 2000000 in
set_option maxRecDepth 20000 in
theorem div_long (m n : Nat) (w : World) (h4 : 4 < (bstr n).length) (h8 : 8 < (bstr m).length) (hle : n ≤ m) (hm : (bstr m).length ≤ 35184372088832) :
    Calls Tryd.prog 52 #[.string (S m), .string (S n)] w fun e w' => e = .returned (.tuple #[.string (S (m / n)), .string (S (m % n)), .int .i64 0]) ∧ Below w.heap.size w w' := by
  have h0 : n ≠ 0 := by rintro rfl; rw [bstr_zero] at h4; simp at h4
  have he := S_empty_of h0
  have hln := len_le_of_le hle
  have hsm : ¬ (S m).size ≤ 8 := by rw [S_size]; omega
  have hmx : (bstr m).length ≤ maxLen := by unfold maxLen; omega
  have hnx : (bstr n).length ≤ maxLen := by unfold maxLen; omega
  have hc : 0 ≤ cmpZ m n := by unfold cmpZ; rw [if_neg (by omega)]; split <;> omega
  have hm2 : (S m).size ≤ 140737488355328 := by rw [S_size]; omega
  have hn2 : (S n).size ≤ 140737488355328 := by rw [S_size]; omega
  have HX := Lib.hid (And.intro (And.intro hm hln) (And.intro hmx (And.intro hnx (And.intro hm2 (And.intro hn2 h4))))); clear hm hln hmx hnx hm2 hn2 h4 h8 hle
  go_enter Tryd.func52, Tryd.ntmps52
  go_wp2_with fail
  refine (trim_S m _ HX.out.2.1).mono ?_
  rintro e w' ⟨rfl, rfl⟩
  go_wp2_with fail
  refine (trim_S n _ HX.out.2.2.1).mono ?_
  rintro e w' ⟨rfl, rfl⟩
  go_wp2_with fail
  refine (cmp_S m n _ (by have := HX.out.1.1; omega) (by have := HX.out.1; omega)).mono ?_
  rintro e w' ⟨rfl, rfl⟩
  go_wp2_with fail
  refine (words_any (S m) _ HX.out.2.2.2.1).mono ?_
  rintro e w1 ⟨g1, xs, rfl, hg1, hb1, hbel1, hok1, hv1, hl1⟩
  rw [toL_S, bval_bstr] at hv1 hl1
  have hxl : xs.length ≤ 8796093022209 := by have := HX.out.1.1; omega
  have HXS := Lib.hid (And.intro hok1 (And.intro hv1 (And.intro hl1 (And.intro hb1 hbel1)))); clear hok1 hv1 hl1 hb1 hbel1
  go_wp2_with fail
  refine (words_any (S n) _ HX.out.2.2.2.2.1).mono ?_
  rintro e w2 ⟨g2, ys, rfl, hg2, hb2, hbel2, hok2, hv2, hl2⟩
  rw [toL_S, bval_bstr] at hv2 hl2
  have hyl : 2 ≤ ys.length := by have := HX.out.2.2.2.2.2; omega
  have hyx : ys.length ≤ xs.length := by have h1 := HX.out.1.2; have h2 := HXS.out.2.2.1; omega
  have hb1 := HXS.out.2.2.2.1.belowB hbel2
  have hbw := below_next HXS.out.2.2.2.2 hbel2
  have HY := Lib.hid (And.intro hb1 (And.intro hbw (And.intro hb2 (And.intro hok2 (And.intro hv2 hl2))))); clear hb1 hbw hb2 hbel2 hok2 hv2 hl2
  obtain ⟨nx, hnx⟩ : ∃ nx, nx = xs.length := ⟨_, rfl⟩
  obtain ⟨ny, hny⟩ : ∃ ny, ny = ys.length := ⟨_, rfl⟩
  rw [← hnx] at hxl hyx ⊢
  rw [← hny] at hyl hyx ⊢
  have HNX := Lib.hid (And.intro hnx hny); clear hnx hny
  have hny1 : (ny == 1) = false := by rw [beq_eq_false_iff_ne]; omega
  have hny2 : ((ny : Int) == 1) = false := by rw [beq_eq_false_iff_ne]; omega
  go_wp2_with fail
  refine (long_any xs ys (some ⟨g1, 0, none⟩) (some ⟨g2, 0, none⟩) nx ny _ _ _ HNX.out.1 HNX.out.2 hyl hyx (by omega) HXS.out.1 HY.out.2.2.2.1 (by rw [HNX.out.2]; exact words_top HY.out.2.2.2.1 HY.out.2.2.2.2.1 HY.out.2.2.2.2.2) HY.out.1.wAt HY.out.2.2.1.wAt).mono ?_
  rintro e w3 ⟨gq, gu, qs, rs, c1, c2, rfl, hb3, hq, hr, hqo, hro, hql, hrl, hqv, hrv⟩
  rw [HXS.out.2.1, HY.out.2.2.2.2.1] at hqv hrv
  have HL := Lib.hid (And.intro hq (And.intro hr (And.intro hqo (And.intro hro (And.intro hqv (And.intro hrv hb3)))))); clear hq hr hqo hro hqv hrv hb3
  go_wp2_with fail
  refine (text_any qs (some ⟨gq, 0, none⟩) _ _ _ rfl (by omega) HL.out.2.2.1 HL.out.1).mono ?_
  rw [HL.out.2.2.2.2.1]
  rintro e w4 ⟨rfl, hbel4⟩
  have HB4 := Lib.hid hbel4; clear hbel4
  go_wp2_with fail
  refine (text_any rs (some ⟨gu, 0, none⟩) _ _ _ rfl (by omega) HL.out.2.2.2.1 (HL.out.2.1.next HB4.out)).mono ?_
  rw [HL.out.2.2.2.2.2.1]
  rintro e w5 ⟨rfl, hbel5⟩
  have HB5 := Lib.hid hbel5; clear hbel5
  go_wp2_with fail
  go_ret3
  exact ⟨rfl, below_next (below_next (below_next HY.out.2.1 HL.out.2.2.2.2.2.2) HB4.out) HB5.out⟩

theorem div_S (m n : Nat) (w : World) (h0 : n ≠ 0) (hm : (bstr m).length ≤ 35184372088832) (hn : (bstr n).length ≤ 35184372088832) :
    Calls Tryd.prog 52 #[.string (S m), .string (S n)] w fun e w' => e = .returned (.tuple #[.string (S (m / n)), .string (S (m % n)), .int .i64 0]) ∧ Below w.heap.size w w' := by
  by_cases h1 : (bstr m).length ≤ 8
  · by_cases h2 : (bstr n).length ≤ 8
    · exact div_short m n w h0 h1 h2
    · refine div_less m n w h0 (by omega) ?_ hm hn
      refine Nat.lt_of_not_le fun h => ?_
      have := len_le_of_le h; omega
  · by_cases h2 : (bstr n).length ≤ 4
    · exact div_one m n w h0 (by omega) h2 hm
    · by_cases h3 : n ≤ m
      · exact div_long m n w (by omega) (by omega) h3 hm
      · exact div_less m n w h0 (by have := len_le_of_le (show m ≤ n by omega); omega) (by omega) hm hn
end Go.Proofs.YtekbpiooecdopaaDoor
