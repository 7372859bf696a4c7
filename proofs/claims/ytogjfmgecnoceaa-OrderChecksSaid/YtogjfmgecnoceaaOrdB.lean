/- Walks: long (package order) and TimesFault (reference). -/
import Derived.Test.YtogjfmgecnoceaaOrdA
namespace Go.Proofs.Ytogjfmgecnoceaa
open Go.RowKit
set_option linter.unusedVariables false
set_option linter.unusedSimpArgs false

set_option maxHeartbeats 1000000 in
set_option maxRecDepth 20000 in
theorem long_any (rs : List Row) (A : Option Addr) (n c : Nat) (ts : List Int) (A1 : Option Addr) (n1 c1 : Nat) (w : World) (hn : n = rs.length) (hm : n ≤ 9223372036854775807) (h : RowsAt w w.heap.size A rs) (hn1 : n1 = ts.length) (hm1 : n1 ≤ 9223372036854775807) (hs : IntsAt w w.heap.size A1 ts) :
    Calls Try.prog 89 #[.slice A n c, .slice A1 n1 c1] w fun e w' => e = .returned (.int .i64 (tmErr (ll rs) ts)) ∧ w = w' := by
  have HC := Lib.hid (bcheck_any rs A n c w hn hm h)
  have HN := Lib.hid (show n = (ll rs).length by rw [ll_len]; exact hn); clear hn
  have HN1 := Lib.hid hn1; clear hn1
  have H1 := Lib.hid hs; clear hs h
  by_cases hb : bErr (ll rs) = 0
  · by_cases hl : n1 = n
    · subst hl
      have HB := Lib.hid hb
      rw [HB.out] at HC
      clear hb
      go_enter Try.func89, Try.ntmps89
      go_wp2_with fail
      refine HC.out.mono ?_
      rintro e w' ⟨rfl, rfl⟩
      go_wp2_with fail
      go_loopg [20] n1 (fun k i wr => ∃ j : Nat, k = n1 - j ∧ j ≤ n1 ∧ i = .int .i64 j ∧ Hid (∀ i < j, ∀ t, ts[i]? = some t → 0 ≤ t ∧ t ≤ 2000) ∧ w = wr)
      case atStart => exact ⟨0, by omega, Nat.zero_le _, rfl, forall_lt_zero, rfl⟩
      case round =>
        obtain ⟨j, hgk, hj, rfl, hall, rfl⟩ := hrel
        have HGK := Lib.hid hgk; clear hgk
        by_cases hlt : j < n1
        · obtain ⟨t, ht⟩ := get_of_lt HN1.out hlt
          obtain ⟨b, off, rfl, hb, h0⟩ := H1.out j t ht
          have HT := Lib.hid ht; clear ht
          by_cases hok : 0 ≤ t ∧ t ≤ 2000
          · obtain ⟨o1, o2⟩ := hok
            go_wp2_with fail
            go_roundg (n1 - (j + 1))
            case measure => rw [HGK.out]; omega
            case rel => exact ⟨j+1, rfl, by omega, by go_num, forall_lt_succ hall.out (fun t' ht' => by rw [HT.out] at ht'; cases ht'; exact ⟨o1, o2⟩), rfl⟩
          · have HE := Lib.hid (tmErr_arg HB.out (by rw [← HN1.out, HN.out]) HT.out (by omega))
            have hok' : t < 0 ∨ (0 ≤ t ∧ 2000 < t) := by omega
            clear hok
            rcases hok' with o1 | ⟨o1, o2⟩
            all_goals
              go_wp2_with fail
              go_ret
              exact ⟨ret_int HE.out.symm, rfl⟩
        · have HE := Lib.hid (tmErr_ok HB.out (by rw [← HN1.out, HN.out]) (by rw [← HN1.out]; intro i hi; exact hall.out i (by omega)))
          go_wp2_with fail
          go_ret
          exact ⟨ret_int HE.out.symm, rfl⟩
    · have HE := Lib.hid (tmErr_len (ts := ts) hb (by rw [← HN1.out, ← HN.out]; exact hl))
      have hne : ((n1 : Int) != (n : Int)) = true := by simp; omega
      rw [hb] at HC
      clear hb
      go_enter Try.func89, Try.ntmps89
      go_wp2_with fail
      refine HC.out.mono ?_
      rintro e w' ⟨rfl, rfl⟩
      go_wp2_with fail
      go_ret
      exact ⟨ret_int HE.out.symm, rfl⟩
  · have HE := Lib.hid (tmErr_b (ts := ts) hb)
    have hne : (bErr (ll rs) != 0) = true := by simpa using hb
    generalize bErr (ll rs) = eb at *
    clear hb
    go_enter Try.func89, Try.ntmps89
    go_wp2_with fail
    refine HC.out.mono ?_
    rintro e w' ⟨rfl, rfl⟩
    go_wp2_with fail
    go_ret
    exact ⟨ret_int HE.out.symm, rfl⟩

set_option maxHeartbeats 1000000 in
set_option maxRecDepth 20000 in
theorem tfault_any (rs : List Row) (A : Option Addr) (n c : Nat) (ts : List Int) (A1 : Option Addr) (n1 c1 : Nat) (w : World) (hn : n = rs.length) (hm : n ≤ 9223372036854775807) (h : RowsAt w w.heap.size A rs) (hn1 : n1 = ts.length) (hm1 : n1 ≤ 9223372036854775807) (hs : IntsAt w w.heap.size A1 ts) :
    Calls Try.prog 22 #[.slice A n c, .slice A1 n1 c1] w fun e w' => e = .returned (.int .i64 (tmErr (ll rs) ts)) ∧ w = w' := by
  have HC := Lib.hid (bfault_any rs A n c w hn hm h)
  have HN := Lib.hid (show n = (ll rs).length by rw [ll_len]; exact hn); clear hn
  have HN1 := Lib.hid hn1; clear hn1
  have H1 := Lib.hid hs; clear hs h
  by_cases hbl : bErr (ll rs) = 0 ∧ n1 = n
  · obtain ⟨hb, rfl⟩ := hbl
    have HB := Lib.hid hb
    rw [HB.out] at HC
    clear hb
    go_enter Try.func22, Try.ntmps22
    go_wp2_with fail
    refine HC.out.mono ?_
    rintro e w' ⟨rfl, rfl⟩
    go_wp2_with fail
    go_loopg [5, 21] n1 (fun k e i wr => ∃ (j : Nat) (ev : Int), k = n1 - j ∧ j ≤ n1 ∧ i = .int .i64 j ∧ e = .int .i64 ev ∧ Hid ((ev = 0 ∧ ∀ i < j, ∀ t, ts[i]? = some t → 0 ≤ t ∧ t ≤ 2000) ∨ (ev = 1 ∧ tmErr (ll rs) ts = 1)) ∧ w = wr)
    case atStart => exact ⟨0, 0, by omega, Nat.zero_le _, rfl, rfl, .inl ⟨rfl, forall_lt_zero⟩, rfl⟩
    case round =>
      obtain ⟨j, ev, hgk, hj, rfl, rfl, hall, rfl⟩ := hrel
      have HGK := Lib.hid hgk; clear hgk
      by_cases hlt : j < n1
      · obtain ⟨t, ht⟩ := get_of_lt HN1.out hlt
        obtain ⟨b, off, rfl, hb, h0⟩ := H1.out j t ht
        have HT := Lib.hid ht; clear ht
        rcases hall.out with ⟨rfl, ha⟩ | ⟨rfl, ha⟩
        · have HA := Lib.hid ha; clear ha hall
          by_cases hok : 0 ≤ t ∧ t ≤ 2000
          · obtain ⟨o1, o2⟩ := hok
            go_wp2_with fail
            go_roundg (n1 - (j + 1))
            case measure => rw [HGK.out]; omega
            case rel => exact ⟨j+1, 0, rfl, by omega, by go_num, rfl, .inl ⟨rfl, forall_lt_succ HA.out (fun t' ht' => by rw [HT.out] at ht'; cases ht'; exact ⟨o1, o2⟩)⟩, rfl⟩
          · have HE := Lib.hid (tmErr_arg HB.out (by rw [← HN1.out, HN.out]) HT.out (by omega))
            have hok' : t < 0 ∨ (0 ≤ t ∧ 2000 < t) := by omega
            clear hok
            rcases hok' with o1 | ⟨o1, o2⟩
            all_goals
              go_wp2_with fail
              go_roundg (n1 - (j + 1))
              case measure => rw [HGK.out]; omega
              case rel => exact ⟨j+1, 1, rfl, by omega, by go_num, rfl, .inr ⟨rfl, HE.out⟩, rfl⟩
        · have HA := Lib.hid ha; clear ha hall
          go_wp2_with fail
          go_roundg (n1 - (j + 1))
          case measure => rw [HGK.out]; omega
          case rel => exact ⟨j+1, 1, rfl, by omega, by go_num, rfl, .inr ⟨rfl, HA.out⟩, rfl⟩
      · have HE : Hid (ev = tmErr (ll rs) ts) := Lib.hid (by
          rcases hall.out with ⟨rfl, ha⟩ | ⟨rfl, ha⟩
          · exact (tmErr_ok HB.out (by rw [← HN1.out, HN.out]) (by rw [← HN1.out]; intro i hi; exact ha i (by omega))).symm
          · exact ha.symm)
        go_wp2_with fail
        go_ret
        exact ⟨ret_int HE.out, rfl⟩
  · obtain ⟨eb, heb, hne0⟩ : ∃ eb, tmErr (ll rs) ts = eb ∧ eb ≠ 0 ∧ (bErr (ll rs) ≠ 0 → eb = bErr (ll rs)) ∧ (bErr (ll rs) = 0 → eb = 3) := by
      by_cases hb : bErr (ll rs) = 0
      · refine ⟨3, tmErr_len hb ?_, by omega, fun h => absurd hb h, fun _ => rfl⟩
        rw [← HN1.out, ← HN.out]; exact fun h => hbl ⟨hb, h⟩
      · exact ⟨_, tmErr_b hb, hb, fun _ => rfl, fun h => absurd h hb⟩
    obtain ⟨hne0, he1, he2⟩ := hne0
    have HE := Lib.hid heb; clear heb
    have hne : (eb == 0) = false := by simpa using hne0
    by_cases hb : bErr (ll rs) = 0
    · have hln : ((n : Int) != (n1 : Int)) = true := by simp; exact fun h => hbl ⟨hb, by omega⟩
      obtain rfl := he2 hb
      rw [hb] at HC
      clear hb he1 he2 hne0 hbl
      go_enter Try.func22, Try.ntmps22
      go_wp2_with fail
      refine HC.out.mono ?_
      rintro e w' ⟨rfl, rfl⟩
      go_wp2_with fail
      go_loopg [5, 21] n1 (fun k e i wr => ∃ (j : Nat), k = n1 - j ∧ j ≤ n1 ∧ i = .int .i64 j ∧ e = .int .i64 3 ∧ w = wr)
      case atStart => exact ⟨0, by omega, Nat.zero_le _, rfl, rfl, rfl⟩
      case round =>
        obtain ⟨j, hgk, hj, rfl, rfl, rfl⟩ := hrel
        have HGK := Lib.hid hgk; clear hgk
        by_cases hlt : j < n1
        · obtain ⟨t, ht⟩ := get_of_lt HN1.out hlt
          obtain ⟨b, off, rfl, hb, h0⟩ := H1.out j t ht
          clear ht
          go_wp2_with fail
          go_roundg (n1 - (j + 1))
          case measure => rw [HGK.out]; omega
          case rel => exact ⟨j+1, rfl, by omega, by go_num, rfl, rfl⟩
        · go_wp2_with fail
          go_ret
          exact ⟨ret_int HE.out.symm, rfl⟩
    · rw [← he1 hb] at HC
      clear hb he1 he2 hbl
      go_enter Try.func22, Try.ntmps22
      go_wp2_with fail
      refine HC.out.mono ?_
      rintro e w' ⟨rfl, rfl⟩
      go_wp2_with fail
      go_loopg [5, 21] n1 (fun k e i wr => ∃ (j : Nat), k = n1 - j ∧ j ≤ n1 ∧ i = .int .i64 j ∧ e = .int .i64 eb ∧ w = wr)
      case atStart => exact ⟨0, by omega, Nat.zero_le _, rfl, rfl, rfl⟩
      case round =>
        obtain ⟨j, hgk, hj, rfl, rfl, rfl⟩ := hrel
        have HGK := Lib.hid hgk; clear hgk
        by_cases hlt : j < n1
        · obtain ⟨t, ht⟩ := get_of_lt HN1.out hlt
          obtain ⟨b, off, rfl, hb, h0⟩ := H1.out j t ht
          clear ht
          go_wp2_with fail
          go_roundg (n1 - (j + 1))
          case measure => rw [HGK.out]; omega
          case rel => exact ⟨j+1, rfl, by omega, by go_num, rfl, rfl⟩
        · go_wp2_with fail
          go_ret
          exact ⟨ret_int HE.out.symm, rfl⟩
end Go.Proofs.Ytogjfmgecnoceaa
