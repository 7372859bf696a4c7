/- Joined texts. -/
import Derived.Test.YtekbpiooecdopaaDoorNatU
import Derived.Test.YtekbpiooecdopaaDoorNatW
import Derived.Test.YtekbpiooecdopaaDoorBunNatA
import Derived.Test.YtekbpiooecdopaaDoorBunLib
import Derived.RegionTactic
import Derived.BigRegion

/- Walks of package nat: Div, the short ways. -/
namespace Go.Proofs.YtekbpiooecdopaaDoor
open Go.RowKit
set_option linter.unusedVariables false
set_option linter.unusedSimpArgs false

theorem S_list (n : Nat) : (S n).toList = bstr n := by rw [ByteArray.toList_eq]; rfl
theorem S_empty_of {n : Nat} (h : n ≠ 0) : (S n).toList.isEmpty = false := by
  rw [S_list]
  cases hb : bstr n with
  | nil => exact absurd (bstr_eq_nil.1 hb) h
  | cons a l => rfl
theorem one_step' {y V e Y Y' Z Z' B x q r r' : Nat} (he : y = e + 1) (h : V + e * Z = y * Y + B * 4294967296 * r) (hz : Z = Z' + B * x) (hy : Y' + B * x = Y + B * q) (hq : 4294967296 * r + x = y * q + r') : V + e * Z' = y * Y' + B * r' := by
  subst he
  subst hz
  have h1 := congrArg (B * ·) hq
  have h2 := congrArg ((e + 1) * ·) hy
  simp only [Nat.mul_add, Nat.add_mul, Nat.one_mul] at h h1 h2 ⊢
  have e1 : B * 4294967296 * r = B * (4294967296 * r) := Nat.mul_assoc _ _ _
  have e2 : B * (e * q) = e * (B * q) := Nat.mul_left_comm _ _ _
  rw [e1] at h
  rw [e2] at h1
  omega
theorem len_le_of_le {m n : Nat} (h : n ≤ m) : (bstr n).length ≤ (bstr m).length := bstr_length_le.2 (Nat.lt_of_le_of_lt h (bstr_length_le.1 (Nat.le_refl _)))
theorem grown_drew {a w : World} {row : Option Nat} (h : a.grownBy w row) : a.grownBy w.drew row := ⟨h.os, h.tape, h.output, h.size, h.block⟩


set_option maxHeartbeats 1000000 in
theorem div_short (m n : Nat) (w : World) (h0 : n ≠ 0) (hm : (bstr m).length ≤ 8) (hn : (bstr n).length ≤ 8) :
    Calls Tryd.prog 52 #[.string (S m), .string (S n)] w fun e w' => e = .returned (.tuple #[.string (S (m / n)), .string (S (m % n)), .int .i64 0]) ∧ Below w.heap.size w w' := by
  have he := S_empty_of h0
  have hsm : (S m).size ≤ 8 := by rw [S_size]; exact hm
  have hsn : (S n).size ≤ 8 := by rw [S_size]; exact hn
  have lm : m < 256 ^ 8 := bstr_length_le.1 hm
  have ln : n < 256 ^ 8 := bstr_length_le.1 hn
  have lm' : (m : Int) ≤ 18446744073709551615 := by omega
  have ln' : (1 : Int) ≤ (n : Int) := by omega
  have hmx : (bstr m).length ≤ maxLen := by unfold maxLen; omega
  have hnx : (bstr n).length ≤ maxLen := by unfold maxLen; omega
  have ed : IntKind.u64.wrap ((m : Int) / (n : Int)) = ((m / n : Nat) : Int) := by
    rw [← Int.natCast_ediv]; exact u64_wrap_nat (Nat.lt_of_le_of_lt (Nat.div_le_self _ _) lm)
  have er : (m : Int) % (n : Int) = ((m % n : Nat) : Int) := by rw [Int.natCast_emod]
  have lq : m / n < 256 ^ 8 := Nat.lt_of_le_of_lt (Nat.div_le_self _ _) lm
  have lr : m % n < 256 ^ 8 := Nat.lt_of_le_of_lt (Nat.mod_le _ _) lm
  have HE := Lib.hid (And.intro ed (And.intro er (And.intro lq lr))); clear ed er lq lr
  have HX := Lib.hid (And.intro (And.intro hm hn) (And.intro hmx hnx)); clear hm hn hmx hnx lm ln
  go_enter Tryd.func52, Tryd.ntmps52
  go_wp2_with fail
  refine (trim_S m _ HX.out.2.1).mono ?_
  rintro e w' ⟨rfl, rfl⟩
  go_wp2_with fail
  refine (trim_S n _ HX.out.2.2).mono ?_
  rintro e w' ⟨rfl, rfl⟩
  go_wp2_with fail
  refine (short_S m _ HX.out.1.1).mono ?_
  rintro e w' ⟨rfl, rfl⟩
  go_wp2_with fail
  refine (short_S n _ HX.out.1.2).mono ?_
  rintro e w' ⟨rfl, rfl⟩
  go_wp2_with fail
  rw [HE.out.1]
  refine (fromShort_any (m / n) _ HE.out.2.2.1).mono ?_
  rintro e w1 ⟨rfl, hb1⟩
  have HB1 := Lib.hid hb1; clear hb1
  go_wp2_with fail
  refine (short_S m _ HX.out.1.1).mono ?_
  rintro e w' ⟨rfl, rfl⟩
  go_wp2_with fail
  refine (short_S n _ HX.out.1.2).mono ?_
  rintro e w' ⟨rfl, rfl⟩
  go_wp2_with fail
  rw [HE.out.2.1]
  refine (fromShort_any (m % n) _ HE.out.2.2.2).mono ?_
  rintro e w2 ⟨rfl, hb2⟩
  have HB2 := Lib.hid hb2; clear hb2
  go_wp2_with fail
  go_ret3
  exact ⟨rfl, below_next HB1.out HB2.out⟩

set_option maxHeartbeats 1000000 in
theorem div_less (m n : Nat) (w : World) (h0 : n ≠ 0) (hlong : 8 < (bstr n).length) (hlt : m < n) (hm : (bstr m).length ≤ 35184372088832) (hn : (bstr n).length ≤ 35184372088832) :
    Calls Tryd.prog 52 #[.string (S m), .string (S n)] w fun e w' => e = .returned (.tuple #[.string (S (m / n)), .string (S (m % n)), .int .i64 0]) ∧ Below w.heap.size w w' := by
  have he := S_empty_of h0
  have hsn : ¬ (S n).size ≤ 8 := by rw [S_size]; omega
  have hmx : (bstr m).length ≤ maxLen := by unfold maxLen; omega
  have hnx : (bstr n).length ≤ maxLen := by unfold maxLen; omega
  have hc : cmpZ m n = -1 := by unfold cmpZ; rw [if_pos hlt]
  have e1 : m / n = 0 := Nat.div_eq_of_lt hlt
  have e2 : m % n = m := Nat.mod_eq_of_lt hlt
  rw [e1, e2]
  have HX := Lib.hid (And.intro (And.intro hm hn) (And.intro hmx (And.intro hnx hc))); clear hm hn hmx hnx hc e1 e2 hlong hlt
  go_enter Tryd.func52, Tryd.ntmps52
  go_wp2_with fail
  refine (trim_S m _ HX.out.2.1).mono ?_
  rintro e w' ⟨rfl, rfl⟩
  go_wp2_with fail
  refine (trim_S n _ HX.out.2.2.1).mono ?_
  rintro e w' ⟨rfl, rfl⟩
  go_wp2_with fail
  all_goals
    refine (cmp_S m n _ (by have := HX.out.1.1; omega) (by have := HX.out.1.2; omega)).mono ?_
    rw [HX.out.2.2.2]
    rintro e w' ⟨rfl, rfl⟩
    go_wp2_with fail
    go_ret3
    exact ⟨rfl, Below.refl _ _⟩

theorem words_top {n : Nat} {ys : List Nat} (hy : Wok ys) (hv : wval ys = n) (hl : ys.length = ((bstr n).length + 3) / 4) : ∀ y, ys[ys.length - 1]? = some y → y ≠ 0 := by
  rintro y hy1 rfl
  have h1 := wval_take_succ hy1
  have hp : 0 < ys.length := by
    have := (List.getElem?_eq_some_iff.1 hy1).1
    omega
  rw [Nat.mul_zero, show ys.length - 1 + 1 = ys.length by omega, List.take_length] at h1
  replace h1 : wval ys = wval (ys.take (ys.length - 1)) := h1
  have h2 := wval_lt (hy.take (ys.length - 1))
  rw [← h1, List.length_take, Nat.min_eq_left (by omega), hv, show (4294967296 : Nat) = 256 ^ 4 from rfl, ← Nat.pow_mul] at h2
  have h3 := bstr_length_le.2 h2
  omega

set_option maxHeartbeats 2000000 in
set_option maxRecDepth 20000 in
theorem div_one (m n : Nat) (w : World) (h0 : n ≠ 0) (hlong : 8 < (bstr m).length) (h4 : (bstr n).length ≤ 4) (hm : (bstr m).length ≤ 35184372088832) :
    Calls Tryd.prog 52 #[.string (S m), .string (S n)] w fun e w' => e = .returned (.tuple #[.string (S (m / n)), .string (S (m % n)), .int .i64 0]) ∧ Below w.heap.size w w' := by
  have he := S_empty_of h0
  have hsm : ¬ (S m).size ≤ 8 := by rw [S_size]; omega
  have hmx : (bstr m).length ≤ maxLen := by unfold maxLen; omega
  have hnx : (bstr n).length ≤ maxLen := by unfold maxLen; omega
  have hn4 : n < 4294967296 := bstr_length_le.1 h4
  have hle : ¬ m < n := by
    have h1 : ¬ m < 256 ^ 8 := fun h => by have := bstr_length_le.2 h; omega
    omega
  have hc : 0 ≤ cmpZ m n := by unfold cmpZ; rw [if_neg hle]; split <;> omega
  have hm2 : (S m).size ≤ 140737488355328 := by rw [S_size]; omega
  have hn2 : (S n).size ≤ 140737488355328 := by rw [S_size]; omega
  have hnp := bstr_pos (Nat.pos_of_ne_zero h0)
  have HX := Lib.hid (And.intro (And.intro hm h4) (And.intro (And.intro hmx hnp) (And.intro hnx (And.intro hm2 hn2)))); clear hm h4 hmx hnx hm2 hn2 hlong hle hnp
  go_enter Tryd.func52, Tryd.ntmps52
  go_wp2_with fail
  refine (trim_S m _ HX.out.2.1.1).mono ?_
  rintro e w' ⟨rfl, rfl⟩
  go_wp2_with fail
  refine (trim_S n _ HX.out.2.2.1).mono ?_
  rintro e w' ⟨rfl, rfl⟩
  go_wp2_with fail
  refine (cmp_S m n _ (by have := HX.out.1.1; omega) (by have := HX.out.1.2; omega)).mono ?_
  rintro e w' ⟨rfl, rfl⟩
  go_wp2_with fail
  refine (words_any (S m) _ HX.out.2.2.2.1).mono ?_
  rintro e w1 ⟨g1, xs, rfl, hg1, hb1, hbel1, hok1, hv1, hl1⟩
  rw [toL_S, bval_bstr] at hv1 hl1
  have hxl : xs.length ≤ 8796093022209 := by have := HX.out.1.1; omega
  have HXS := Lib.hid (And.intro hok1 (And.intro hv1 (And.intro hl1 (And.intro hb1 hbel1)))); clear hok1 hv1 hl1 hb1 hbel1
  go_wp2_with fail
  refine (words_any (S n) _ HX.out.2.2.2.2).mono ?_
  rintro e w2 ⟨g2, ys, rfl, hg2, hb2, hbel2, hok2, hv2, hl2⟩
  rw [toL_S, bval_bstr] at hv2 hl2
  have hyl : ys.length = 1 := by have h1 := HX.out.1.2; have h2 := HX.out.2.1.2; omega
  obtain ⟨y, rfl⟩ : ∃ y, ys = [y] := by
    match ys, hyl with
    | [y], _ => exact ⟨y, rfl⟩
  obtain rfl : y = n := by simpa [wval] using hv2
  have hg12 : g1 < w1.heap.size := HXS.out.2.2.2.1.lt
  have hb1 := HXS.out.2.2.2.1.belowB hbel2
  have hbw := below_next HXS.out.2.2.2.2 hbel2
  have c2 : ∀ wi, w2.grownBy wi (some g1) → wi.cell? ⟨g2, 0, none⟩ = some (.int .u32 (y : Int)) := fun wi h => (World.cell?_of_block (h.block g2 hb2.lt (by intro e; cases e; omega))).trans (hb2.cell 0)
  have HY := Lib.hid (And.intro hb1 (And.intro hbw c2)); clear hb1 hbw c2 hb2 hbel2 hok2 hv2 hl2 hyl
  obtain ⟨nx, hnx⟩ : ∃ nx, nx = xs.length := ⟨_, rfl⟩
  rw [← hnx] at hxl ⊢
  have HNX := Lib.hid hnx; clear hnx
  have hy1 : (1 : Int) ≤ (y : Int) := by omega
  obtain ⟨e1, he1⟩ : ∃ e1, y = e1 + 1 := ⟨y - 1, by omega⟩
  have HE1 := Lib.hid he1; clear he1
  simp only [List.length_cons, List.length_nil, Nat.zero_add]
  go_wp2_with fail
  go_loopg [9, 10] nx (fun k r i wi => ∃ (j rr : Nat) (Y : List Nat), k = j ∧ j ≤ nx ∧ rr < y ∧ r = .int .u64 rr ∧ i = .int .i64 ((j : Int) - 1) ∧ Hid (w2.grownBy wi (some g1)) ∧ Hid (Blk wi g1 92 (wcells Y)) ∧ Hid (Y.length = nx ∧ Wok Y ∧ wval xs + e1 * wval (Y.take j) = y * wval Y + 4294967296 ^ j * rr))
  case atStart => exact ⟨nx, 0, xs, rfl, Nat.le_refl _, by omega, rfl, rfl, World.grownBy.refl _ _, HY.out.1, HNX.out.symm, HXS.out.1, by rw [HNX.out, List.take_length, HE1.out, Nat.add_mul, Nat.one_mul, Nat.mul_zero]; omega⟩
  case round =>
    obtain ⟨j, rr, Y, hgk2, hj, hr, rfl, rfl, hgr, hby, hy⟩ := hrel
    have HGK2 := Lib.hid hgk2; clear hgk2
    by_cases hlt2 : 0 < j
    · obtain ⟨j, rfl⟩ : ∃ j', j = j' + 1 := ⟨j - 1, by omega⟩
      rw [show (((j + 1 : Nat) : Int) - 1) = (j : Int) by omega]
      obtain ⟨x, hx2⟩ := get_of_lt hy.out.1.symm (show j < nx by omega)
      have c0 := (hby.out.cell j).trans (wcells_get hx2)
      have f0 := hby.out.frozen j
      have cy := HY.out.2.2 wr hgr.out
      have hj' : j ≤ nx := by omega
      have hxlt := hy.out.2.1.get hx2
      have HX2 := Lib.hid hx2; clear hx2 hlt2
      have hrl : rr < 4294967296 := by omega
      obtain ⟨L, hL⟩ : ∃ L, L = rr * 4294967296 + x := ⟨_, rfl⟩
      have eL : bits .or .u64 ((rr : Int) * 4294967296) (x : Int) = ((L : Nat) : Int) := by rw [hL]; exact or32 hrl hxlt
      have hLl : L < 18446744073709551616 := by omega
      have HL := Lib.hid hL; clear hL
      have hql : L / y < 4294967296 := by
        rw [Nat.div_lt_iff_lt_mul (by omega), HL.out]
        have h1 : (rr + 1) * 4294967296 ≤ y * 4294967296 := Nat.mul_le_mul_right _ hr
        rw [Nat.add_mul] at h1
        rw [Nat.mul_comm 4294967296]; omega
      have ed : IntKind.u64.wrap ((L : Int) / (y : Int)) % 4294967296 = ((L / y : Nat) : Int) := by
        rw [← Int.natCast_ediv]; generalize L / y = q at hql ⊢; rw [u64_wrap_nat (by omega)]; omega
      have er : (L : Int) % (y : Int) = ((L % y : Nat) : Int) := by rw [Int.natCast_emod]
      have HD := Lib.hid (And.intro ed (And.intro er hql)); clear ed er hql
      go_wp2_with fail
      go_region
      rw [HD.out.1, HD.out.2.1]
      go_wp2_with fail
      go_roundg j
      case measure => rw [HGK2.out]; omega
      case rel =>
        refine ⟨j, L % y, Y.set j (L / y), rfl, hj', Nat.mod_lt _ (by omega), rfl, rfl, grown_drew (grown_set hgr.out _ _), ?_, ?_⟩
        · have h1 := (hby.out.set_ j (.int .u32 ((L / y : Nat) : Int))).drew
          rw [wcells_set] at h1
          exact h1
        · refine ⟨by rw [List.length_set]; exact hy.out.1, hy.out.2.1.set _ HD.out.2.2, ?_⟩
          have h0 := hy.out.2.2
          rw [Nat.pow_succ] at h0
          have h2 := wval_take_succ HX2.out
          rw [List.take_set_of_le (Nat.le_refl _)]
          exact one_step' HE1.out h0 h2 (wval_put HX2.out _) (by rw [Nat.div_add_mod, HL.out, Nat.mul_comm])
    · obtain rfl : j = 0 := by omega
      have e0 : ((0 : Nat) : Int) - 1 = -1 := rfl
      rw [e0]; clear e0
      obtain ⟨h1, h2, h3⟩ := hy.out
      rw [List.take_zero, show wval [] = 0 from rfl, Nat.mul_zero, Nat.add_zero, Nat.pow_zero, Nat.one_mul, HXS.out.2.1] at h3
      have hq : wval Y = m / y ∧ rr = m % y := by
        have h4 : m / y = wval Y := by rw [h3, Nat.mul_add_div (by omega), Nat.div_eq_of_lt hr, Nat.add_zero]
        have h5 : m % y = rr := by rw [h3, Nat.mul_add_mod, Nat.mod_eq_of_lt hr]
        exact ⟨h4.symm, h5.symm⟩
      have hbe : Below w.heap.size w wr := HY.out.2.1.trans (below_of_grown hgr.out HY.out.2.1.size (fun k hk => by cases hk; exact hg1))
      have HF := Lib.hid (And.intro hq (And.intro hbe (And.intro h1 h2))); clear hq hbe h1 h2 h3
      go_wp2_with fail
      refine (text_any Y _ nx _ _ HF.out.2.2.1.symm (by omega) HF.out.2.2.2 hby.out.wAt).mono ?_
      rw [HF.out.1.1]
      rintro e w4 ⟨rfl, hbel4⟩
      have HB4 := Lib.hid hbel4; clear hbel4
      go_wp2_with fail
      refine (fromShort_any rr _ (Nat.lt_trans hr (Nat.lt_trans hn4 (by decide)))).mono ?_
      rw [HF.out.1.2]
      rintro e w5 ⟨rfl, hbel5⟩
      have HB5 := Lib.hid hbel5; clear hbel5
      go_wp2_with fail
      go_ret3
      exact ⟨rfl, below_next (below_next HF.out.2.1 HB4.out) HB5.out⟩
end Go.Proofs.YtekbpiooecdopaaDoor
