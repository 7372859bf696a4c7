/- Walks of package nat: right. -/
import Derived.Test.YtlfddhiimcophaaDoorNatLd
import Derived.RegionTactic
import Derived.BigRegion
namespace Go.Proofs.YtlfddhiimcophaaDoor
open Go.RowKit
set_option linter.unusedVariables false
set_option linter.unusedSimpArgs false

theorem rt_or {x y b : Nat} (hb0 : 0 < b) (hb : b ≤ 63) (hx : x < 18446744073709551616) : bits .or .u64 (((x / 2 ^ b : Nat)) : Int) (((y * 2 ^ (64 - b) % 18446744073709551616 : Nat)) : Int) = ((x / 2 ^ b + y * 2 ^ (64 - b) % 18446744073709551616 : Nat) : Int) := by
  have e : (18446744073709551616 : Nat) = 2 ^ (64 - b) * 2 ^ b := by rw [← Nat.pow_add, show 64 - b + b = 64 by omega]
  have h1 : x / 2 ^ b < 2 ^ (64 - b) := by
    rw [Nat.div_lt_iff_lt_mul (Nat.pow_pos (by omega)), ← e]; exact hx
  have h2 : y * 2 ^ (64 - b) % 18446744073709551616 % 2 ^ (64 - b) = 0 := by
    rw [Nat.mod_mod_of_dvd _ ⟨2 ^ b, e⟩]; exact Nat.mul_mod_left _ _
  have h3 : x / 2 ^ b ≤ x := Nat.div_le_self _ _
  rw [u64_or_nat _ _ (by omega) (Nat.mod_lt _ (by omega)), Nat.or_comm, nat_join (64 - b) _ _ h2 h1, Nat.add_comm]
theorem rt_wrap {y b : Nat} : IntKind.u64.wrap ((y : Int) * 2 ^ (64 - b)) = ((y * 2 ^ (64 - b) % 18446744073709551616 : Nat) : Int) := by
  have h3 : (y : Int) * 2 ^ (64 - b) = ((y * 2 ^ (64 - b) : Nat) : Int) := by rw [Int.natCast_mul, Int.natCast_pow]; rfl
  rw [h3, IntKind.wrap_u64]; omega
theorem rt_back {Z U : List Nat} {i x y b c0 : Nat} (hb : b ≤ 63) (hi : i < Z.length) (hx : U[i]? = some x) (hy : U.getD (i + 1) 0 = y) (h : 2 ^ b * lval (Z.take i) + c0 = lval (U.take i) + 18446744073709551616 ^ i * (U.getD i 0 % 2 ^ b)) :
    2 ^ b * lval ((Z.set i (x / 2 ^ b + y * 2 ^ (64 - b) % 18446744073709551616)).take (i + 1)) + c0 = lval (U.take (i + 1)) + 18446744073709551616 ^ (i + 1) * (U.getD (i + 1) 0 % 2 ^ b) := by
  rw [hy]
  have h1 : U.getD i 0 = x := by rw [List.getD_eq_getElem?_getD, hx]; rfl
  rw [h1] at h
  exact ll_back hb rfl hi hx h
theorem rt_end {Z R c0 p : Nat} (hp : 0 < p) (hc : c0 < p) (h : p * Z + c0 = R) : Z = R / p := by
  rw [← h, Nat.mul_add_div hp, Nat.div_eq_of_lt hc, Nat.add_zero]
theorem rt_pow (q s : Nat) : 2 ^ (64 * q + s) = 18446744073709551616 ^ q * 2 ^ s := by
  rw [show (18446744073709551616 : Nat) = 2 ^ 64 from rfl, ← Nat.pow_mul, Nat.pow_add]
theorem rt_drop {X : List Nat} {q : Nat} (hok : Lok X) (h : q ≤ X.length) : lval (X.drop q) = lval X / 18446744073709551616 ^ q := by
  have h1 := lval_split X q h
  have h2 := lval_lt (hok.take q)
  rw [List.length_take, Nat.min_eq_left h] at h2
  rw [h1, Nat.add_mul_div_left _ _ (Nat.pow_pos (by omega)), Nat.div_eq_of_lt h2, Nat.zero_add]

set_option maxHeartbeats 1000000 in
set_option maxRecDepth 20000 in
theorem right_any (pre X post : List Nat) (g k n c b : Nat) (w : World) (hk : k = pre.length) (hn : n = X.length) (hn2 : n ≤ 35184372088832) (hc : n ≤ c) (hok : Lok X) (hb : b < 64 * n) (hblk : Blk w g 59 (lcells (pre ++ X ++ post))) :
    Calls Tryd.prog 79 #[.slice (some ⟨g, k, none⟩) n c, .int .i64 b] w fun e w' => (∃ pre' X' post' c', e = .returned (.slice (some ⟨g, List.length pre', none⟩) (List.length X') c') ∧ X'.length ≤ c' ∧ Blk w' g 59 (lcells (pre' ++ X' ++ post')) ∧ lval X' = lval X / 2 ^ b ∧ Tp X' ∧ Lok X' ∧ X'.length ≤ n) ∧ w.grownBy w' (some g) := by
  obtain ⟨q, hq⟩ : ∃ q, q = b / 64 := ⟨_, rfl⟩
  obtain ⟨s, hs⟩ : ∃ s, s = b % 64 := ⟨_, rfl⟩
  have hqn : q < n := by omega
  have hs63 : s ≤ 63 := by omega
  have e1 : (b : Int) / 64 = (q : Int) := by omega
  have e2 : (b : Int) % 64 = (s : Int) := by omega
  have hbq : b = 64 * q + s := by omega
  have hpl : (pre ++ X.take q).length = k + q := by rw [List.length_append, List.length_take, ← hk]; omega
  have hsp : pre ++ X ++ post = (pre ++ X.take q) ++ X.drop q ++ post := by rw [List.append_assoc pre (X.take q), List.take_append_drop]
  have hdl : (X.drop q).length = n - q := by rw [List.length_drop, ← hn]
  have hdv : lval (X.drop q) = lval X / 18446744073709551616 ^ q := rt_drop hok (by omega)
  have hb1 := hblk
  rw [hsp] at hb1
  have HN := Lib.hid (And.intro hk (And.intro hn (And.intro hok (And.intro hb1 (And.intro hpl (And.intro hdl hdv))))))
  have HB := Lib.hid (And.intro hbq (And.intro hq hs))
  clear hk hn hok hblk hb1 hpl hdl hdv hsp hbq hq hs
  have g1 : (q : Int) ≤ (n : Int) := by omega
  have g2 : (q : Int) ≤ (c : Int) := by omega
  have g3 : (c == q) = false := by rw [beq_eq_false_iff_ne]; omega
  have g4 : ((c : Int) == (q : Int)) = false := by rw [beq_eq_false_iff_ne]; omega
  have g5 : ¬ c = q := by omega
  rcases Nat.eq_zero_or_pos s with h0 | h0
  · have HS := Lib.hid h0
    have hs0 : ¬ 0 < s := by omega
    clear h0
    go_enter Tryd.func79, Tryd.ntmps79
    go_wp2_with fail
    refine (cut_any (pre ++ X.take q) (X.drop q) post g (k + q) (n - q) (c - q) _ HN.out.2.2.2.2.1.symm HN.out.2.2.2.2.2.1.symm (by omega) (by omega) (HN.out.2.2.1.drop _) HN.out.2.2.2.1).mono ?_
    rintro e w' ⟨⟨X', post', rfl, hp, hv, ht, hl, hle⟩, rfl⟩
    have HF := Lib.hid (And.intro hp (And.intro hv (And.intro ht (And.intro hl hle)))); clear hp hv ht hl hle
    go_wp2_with fail
    go_ret
    refine ⟨⟨pre ++ X.take q, X', post', c - q, by rw [HN.out.2.2.2.2.1]; rfl, by have := HF.out.2.2.2.2; omega, by rw [← HF.out.1]; exact HN.out.2.2.2.1, ?_, HF.out.2.2.1, HF.out.2.2.2.1, by have := HF.out.2.2.2.2; omega⟩, World.grownBy.refl _ _⟩
    rw [HF.out.2.1, HN.out.2.2.2.2.2.2, HB.out.1, rt_pow, HS.out, Nat.pow_zero, Nat.mul_one]
  · have hs0 : 0 < s := h0
    clear h0
    go_enter Tryd.func79, Tryd.ntmps79
    go_wp2_with fail
    go_loopg [16] (n - q) (fun kk i wr => ∃ (j : Nat) (Z : List Nat), kk = n - q - j ∧ j ≤ n - q ∧ i = .int .i64 (j : Nat) ∧ Hid (w.grownBy wr (some g)) ∧ Hid (Blk wr g 59 (lcells ((pre ++ X.take q) ++ Z ++ post))) ∧ Hid (Z.length = n - q ∧ Lok Z ∧ Z.drop j = (X.drop q).drop j ∧ 2 ^ s * lval (Z.take j) + (X.drop q).getD 0 0 % 2 ^ s = lval ((X.drop q).take j) + 18446744073709551616 ^ j * ((X.drop q).getD j 0 % 2 ^ s)))
    case atStart =>
      refine ⟨0, X.drop q, rfl, Nat.zero_le _, rfl, World.grownBy.refl _ _, HN.out.2.2.2.1, HN.out.2.2.2.2.2.1, HN.out.2.2.1.drop _, rfl, ?_⟩
      rw [List.take_zero, Nat.pow_zero, Nat.one_mul]
      show 2 ^ s * 0 + _ = 0 + _
      rw [Nat.mul_zero]
    case round =>
      obtain ⟨j, Z, hgk, hj, rfl, hgr, hblk, hz⟩ := hrel
      have HGK := Lib.hid hgk; clear hgk
      by_cases hlt : j < n - q
      · obtain ⟨x, hxx⟩ := get_of_lt hz.out.1.symm hlt
        have hux := ll_drop_get hz.out.2.2.1 hxx (Nat.le_refl _)
        have kq : k + q + j = (pre ++ X.take q).length + j := by rw [HN.out.2.2.2.2.1]
        have c1 := (hblk.out.cell (k + q + j)).trans (lcells_get (show ((pre ++ X.take q) ++ Z ++ post)[k + q + j]? = some x by rw [kq]; exact win_get hxx))
        have f1 := hblk.out.frozen (k + q + j)
        have hxl := hz.out.2.1.get hxx
        have hxb : x / 2 ^ s ≤ x := Nat.div_le_self _ _
        obtain ⟨X1, hX1⟩ : ∃ X1, X1 = x / 2 ^ s := ⟨_, rfl⟩
        have eX : (x : Int) / 2 ^ s = (X1 : Int) := by rw [hX1]; push_cast; rfl
        have hXl : X1 < 18446744073709551616 := by omega
        have HX := Lib.hid (And.intro hxx (And.intro hux (And.intro hX1 kq))); clear hxx hux hX1 hxb kq
        have l1 : (j : Int) < (n : Int) - (q : Int) := by omega
        by_cases hj1 : j + 1 < n - q
        · obtain ⟨y, hyy⟩ := get_of_lt hz.out.1.symm hj1
          have huy := ll_drop_get hz.out.2.2.1 hyy (Nat.le_succ _)
          have c2 := (hblk.out.cell (k + q + (j + 1))).trans (lcells_get (show ((pre ++ X.take q) ++ Z ++ post)[k + q + (j + 1)]? = some y by rw [show k + q + (j + 1) = (pre ++ X.take q).length + (j + 1) by rw [HN.out.2.2.2.2.1]]; exact win_get hyy))
          have HY := Lib.hid (And.intro hyy huy); clear hyy huy
          have s1 : (0 : Int) ≤ 64 - (s : Int) := by omega
          have s2 : (64 - (s : Int)).toNat = 64 - s := by omega
          go_wp2_with fail
          obtain ⟨wy, hwy⟩ : ∃ wy, wy = wr.setCell ⟨g, k + q + j, none⟩ (.int .u64 X1) := ⟨_, rfl⟩
          rw [← hwy]
          have k0 : Blk wy g 59 (lcells ((pre ++ X.take q) ++ Z.set j X1 ++ post)) := by
            have h1 := hblk.out.set_ (k + q + j) (.int .u64 (X1 : Int))
            rw [lcells_set, HX.out.2.2.2, win_set (by rw [hz.out.1]; exact hlt), ← HX.out.2.2.2] at h1
            rw [hwy]; exact h1
          have k1 : wy.cell? ⟨g, k + q + j, none⟩ = some (.int .u64 X1) := (k0.cell _).trans (lcells_get (by rw [HX.out.2.2.2]; exact win_get (List.getElem?_set_self (by rw [hz.out.1]; exact hlt))))
          have k2 : wy.cell? ⟨g, k + q + (j + 1), none⟩ = some (.int .u64 y) := (k0.cell _).trans (lcells_get (by rw [show k + q + (j + 1) = (pre ++ X.take q).length + (j + 1) by rw [HN.out.2.2.2.2.1]]; exact win_get (by rw [List.getElem?_set_ne (by omega)]; exact HY.out.1)))
          have k3 : wy.frozen? ⟨g, k + q + j, none⟩ = false := k0.frozen _
          have k4 : w.grownBy wy (some g) := by rw [hwy]; exact grown_set hgr.out _ _
          have K := Lib.hid (And.intro k0 k4); clear k0 k4 hwy c1 c2 f1
          obtain ⟨D, hD⟩ : ∃ D, D = x / 2 ^ s + y * 2 ^ (64 - s) % 18446744073709551616 := ⟨_, rfl⟩
          have eB : bits .or .u64 (X1 : Int) (IntKind.u64.wrap ((y : Int) * 2 ^ (64 - s))) = (D : Int) := by rw [rt_wrap, HX.out.2.2.1, rt_or hs0 hs63 hxl, hD]
          have HDD := Lib.hid (And.intro hD eB); clear hD eB
          go_region
          rw [HDD.out.2]
          go_wp2_with fail
          go_roundg (n - q - (j + 1))
          case measure => rw [HGK.out]; omega
          case rel =>
            have hgd : (X.drop q).getD (j + 1) 0 = y := by rw [List.getD_eq_getElem?_getD, HY.out.2]; rfl
            refine ⟨j + 1, Z.set j D, rfl, by omega, by go_num, grown_drew (grown_set K.out.2 _ _), ?_, by rw [List.length_set]; exact hz.out.1, hz.out.2.1.set _ (by rw [HDD.out.1]; exact ll_or_lt hs63 hxl), ?_, ?_⟩
            · have h1 := (K.out.1.set_ (k + q + j) (.int .u64 (D : Int))).drew
              rw [lcells_set, HX.out.2.2.2, win_set (by rw [List.length_set, hz.out.1]; exact hlt), ← HX.out.2.2.2, List.set_set] at h1
              exact h1
            · rw [List.drop_set_of_lt (by omega)]
              have := congrArg (List.drop 1) hz.out.2.2.1
              rwa [List.drop_drop, List.drop_drop] at this
            · rw [HDD.out.1]
              exact rt_back hs63 (show j < Z.length by rw [hz.out.1]; exact hlt) HX.out.2.1 hgd hz.out.2.2.2
        · go_wp2_with fail
          go_roundg (n - q - (j + 1))
          case measure => rw [HGK.out]; omega
          case rel =>
            have hgd : (X.drop q).getD (j + 1) 0 = 0 := by rw [List.getD_eq_getElem?_getD, List.getElem?_eq_none (by rw [HN.out.2.2.2.2.2.1]; omega)]; rfl
            have e0 : x / 2 ^ s + 0 * 2 ^ (64 - s) % 18446744073709551616 = X1 := by rw [Nat.zero_mul, HX.out.2.2.1]; rfl
            refine ⟨j + 1, Z.set j X1, rfl, by omega, by go_num, grown_set hgr.out _ _, ?_, by rw [List.length_set]; exact hz.out.1, hz.out.2.1.set _ hXl, ?_, ?_⟩
            · have h1 := hblk.out.set_ (k + q + j) (.int .u64 (X1 : Int))
              rw [lcells_set, HX.out.2.2.2, win_set (by rw [hz.out.1]; exact hlt), ← HX.out.2.2.2] at h1
              exact h1
            · rw [List.drop_set_of_lt (by omega)]
              have := congrArg (List.drop 1) hz.out.2.2.1
              rwa [List.drop_drop, List.drop_drop] at this
            · have := rt_back (y := 0) hs63 (show j < Z.length by rw [hz.out.1]; exact hlt) HX.out.2.1 hgd hz.out.2.2.2
              rwa [e0] at this
      · obtain rfl : j = n - q := by omega
        obtain ⟨z1, z2, z3, z4⟩ := hz.out
        have hgd : (X.drop q).getD (n - q) 0 = 0 := by rw [List.getD_eq_getElem?_getD, List.getElem?_eq_none (by rw [HN.out.2.2.2.2.2.1]; omega)]; rfl
        rw [hgd, Nat.zero_mod, Nat.mul_zero, Nat.add_zero, List.take_of_length_le (by rw [z1]; exact Nat.le_refl _), List.take_of_length_le (by rw [HN.out.2.2.2.2.2.1]; exact Nat.le_refl _)] at z4
        have hzv := rt_end (Nat.pow_pos (by omega)) (Nat.mod_lt _ (Nat.pow_pos (by omega))) z4
        have HZ := Lib.hid (And.intro z1 (And.intro z2 hzv)); clear z1 z2 z3 z4 hzv hgd
        go_wp2_with fail
        refine (cut_any (pre ++ X.take q) Z post g (k + q) (n - q) (c - q) _ HN.out.2.2.2.2.1.symm HZ.out.1.symm (by omega) (by omega) HZ.out.2.1 hblk.out).mono ?_
        rintro e w' ⟨⟨X', post', rfl, hp, hv, ht, hl, hle⟩, rfl⟩
        have HF := Lib.hid (And.intro hp (And.intro hv (And.intro ht (And.intro hl hle)))); clear hp hv ht hl hle
        go_wp2_with fail
        go_ret
        refine ⟨⟨pre ++ X.take q, X', post', c - q, by rw [HN.out.2.2.2.2.1]; rfl, by have := HF.out.2.2.2.2; omega, by rw [← HF.out.1]; exact hblk.out, ?_, HF.out.2.2.1, HF.out.2.2.2.1, by have := HF.out.2.2.2.2; omega⟩, hgr.out⟩
        rw [HF.out.2.1, HZ.out.2.2, HN.out.2.2.2.2.2.2, Nat.div_div_eq_div_mul, ← rt_pow, ← HB.out.1]
end Go.Proofs.YtlfddhiimcophaaDoor
