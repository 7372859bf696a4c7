/- Walks: Check (package order) and BeforeFault (reference). -/
import Derived.Test.YtogjfmgecnoceaaChecked
import Derived.Test.YtogjfmgecnoceaaOrdR
import Derived.Deep.LoopGhost
namespace Go.Proofs.Ytogjfmgecnoceaa
open Go.RowKit
set_option linter.unusedVariables false
set_option linter.unusedSimpArgs false

set_option maxHeartbeats 1000000 in
set_option maxRecDepth 20000 in
theorem bcheck_any (rs : List Row) (A : Option Addr) (n c : Nat) (w : World) (hn : n = rs.length) (hm : n ≤ 9223372036854775807) (h : RowsAt w w.heap.size A rs) :
    Calls Try.prog 42 #[.slice A n c] w fun e w' => e = .returned (.int .i64 (bErr (ll rs))) ∧ w = w' := by
  have HN := Lib.hid hn; clear hn
  have H := Lib.hid h; clear h
  have HNL : Hid (n = (ll rs).length) := Lib.hid (by rw [ll_len]; exact HN.out)
  by_cases h40 : 40 < n
  · have HL := Lib.hid h40
    go_enter Try.func42, Try.ntmps42
    go_wp2_with fail
    go_ret
    exact ⟨ret_int (bErr_large (by rw [← HNL.out]; exact HL.out)).symm, rfl⟩
  have HL : Hid (¬ 40 < (ll rs).length) := Lib.hid (by rw [← HNL.out]; exact h40)
  go_enter Try.func42, Try.ntmps42
  go_wp2_with fail
  go_loopg [12] n (fun k i wr => ∃ j : Nat, k = n - j ∧ j ≤ n ∧ i = .int .i64 j ∧ Hid (∀ i < j, rowAt (ll rs) i = none) ∧ w = wr)
  case atStart => exact ⟨0, by omega, Nat.zero_le _, rfl, forall_lt_zero, rfl⟩
  case round =>
    obtain ⟨k, hgk, hk, rfl, hall, rfl⟩ := hrel
    have HGK := Lib.hid hgk; clear hgk
    by_cases hlt : k < n
    · obtain ⟨r, hr⟩ := get_of_lt HN.out hlt
      obtain ⟨b, off, rfl, hb, h0, hxm, hx⟩ := H.out k r hr
      have HR := Lib.hid (ll_get hr); clear hr
      have HX := Lib.hid hx; clear hx
      obtain ⟨tA, tc, txs⟩ := r
      dsimp only at h0 hxm HX HR
      generalize hm2 : txs.length = m at *
      have HM := Lib.hid hm2; clear hm2
      go_wp2_with fail
      clear h0
      go_loopg [19] m (fun kk i wi => ∃ q : Nat, kk = m - q ∧ q ≤ m ∧ i = .int .i64 q ∧ Hid (∀ j < q, elAt txs k j = none) ∧ w = wi)
      case atStart => exact ⟨0, by omega, Nat.zero_le _, rfl, forall_lt_zero, rfl⟩
      case round =>
        obtain ⟨q, hgk2, hq, rfl, hall2, rfl⟩ := hrel
        have HGK2 := Lib.hid hgk2; clear hgk2
        by_cases hlt2 : q < m
        · obtain ⟨x, hx⟩ := get_of_lt HM.out.symm hlt2
          obtain ⟨b', off', rfl, hb', c0⟩ := HX.out q x hx
          have HXX := Lib.hid hx; clear hx
          by_cases hxo : 0 ≤ x ∧ x < k
          · obtain ⟨x1, x2⟩ := hxo
            rcases Nat.eq_zero_or_pos q with hq0 | hq0
            · subst hq0
              rw [Nat.add_zero] at c0
              have HOK := Lib.hid (elAt_ok (k := k) HXX.out ⟨x1, x2⟩ (.inl rfl))
              go_wp2_with fail
              go_roundg (m - (0 + 1))
              case measure => rw [HGK2.out]; omega
              case rel => exact ⟨0+1, rfl, by omega, by go_num, forall_lt_succ hall2.out HOK.out, rfl⟩
            · obtain ⟨q', rfl⟩ : ∃ q', q = q' + 1 := ⟨q - 1, by omega⟩
              obtain ⟨y, hy⟩ := get_of_lt HM.out.symm (show q' < m by omega)
              obtain ⟨b'', off'', hA'', _, c1⟩ := HX.out q' y hy
              cases hA''
              have HY : Hid (nth txs ((q' + 1 - 1 : Nat) : Int) = y) := Lib.hid (nth_get hy)
              clear hy
              by_cases hle : x ≤ y
              · have HE := Lib.hid (bErr_some HL.out (by rw [← HNL.out]; exact hlt) hall.out HR.out (by rw [HM.out]; exact hlt2) hall2.out (elAt_ord HXX.out ⟨x1, x2⟩ (by omega) (by rw [HY.out]; exact hle)))
                go_wp2_with fail
                go_ret
                exact ⟨ret_int HE.out.symm, rfl⟩
              · have HOK := Lib.hid (elAt_ok (k := k) HXX.out ⟨x1, x2⟩ (.inr (by rw [HY.out]; omega)))
                go_wp2_with fail
                go_roundg (m - (q' + 1 + 1))
                case measure => rw [HGK2.out]; omega
                case rel => exact ⟨q'+1+1, rfl, by omega, by go_num, forall_lt_succ hall2.out HOK.out, rfl⟩
          · have hxo' : x < 0 ∨ (0 ≤ x ∧ (k : Int) ≤ x) := by omega
            have HE := Lib.hid (bErr_some HL.out (by rw [← HNL.out]; exact hlt) hall.out HR.out (by rw [HM.out]; exact hlt2) hall2.out (elAt_arg HXX.out (show x < 0 ∨ (k : Int) ≤ x by omega)))
            clear hxo
            rcases hxo' with hx1 | ⟨hx1, hx2⟩
            all_goals
              go_wp2_with fail
              go_ret
              exact ⟨ret_int HE.out.symm, rfl⟩
        · go_wp2_with fail
          go_roundg (n - (k + 1))
          case measure => rw [HGK.out]; omega
          case rel => exact ⟨k+1, rfl, by omega, by go_num, forall_lt_succ hall.out (rowAt_ok HR.out (by rw [HM.out]; intro j hj; exact hall2.out j (by omega))), rfl⟩
    · go_wp2_with fail
      go_ret
      obtain rfl : k = n := by omega
      exact ⟨ret_int (bErr_none HL.out (by rw [← HNL.out]; exact hall.out)).symm, rfl⟩
set_option maxHeartbeats 1000000 in
set_option maxRecDepth 20000 in
theorem bfault_any (rs : List Row) (A : Option Addr) (n c : Nat) (w : World) (hn : n = rs.length) (hm : n ≤ 9223372036854775807) (h : RowsAt w w.heap.size A rs) :
    Calls Try.prog 43 #[.slice A n c] w fun e w' => e = .returned (.int .i64 (bErr (ll rs))) ∧ w = w' := by
  have HN := Lib.hid hn; clear hn
  have H := Lib.hid h; clear h
  have HNL : Hid (n = (ll rs).length) := Lib.hid (by rw [ll_len]; exact HN.out)
  by_cases h40 : 40 < n
  · have HL := Lib.hid h40
    go_enter Try.func43, Try.ntmps43
    go_wp2_with fail
    go_ret
    exact ⟨ret_int (bErr_large (by rw [← HNL.out]; exact HL.out)).symm, rfl⟩
  have HL : Hid (¬ 40 < (ll rs).length) := Lib.hid (by rw [← HNL.out]; exact h40)
  go_enter Try.func43, Try.ntmps43
  go_wp2_with fail
  go_loopg [13] n (fun k i wr => ∃ j : Nat, k = n - j ∧ j ≤ n ∧ i = .int .i64 j ∧ Hid (∀ i < j, rowAt (ll rs) i = none) ∧ w = wr)
  case atStart => exact ⟨0, by omega, Nat.zero_le _, rfl, forall_lt_zero, rfl⟩
  case round =>
    obtain ⟨k, hgk, hk, rfl, hall, rfl⟩ := hrel
    have HGK := Lib.hid hgk; clear hgk
    by_cases hlt : k < n
    · obtain ⟨r, hr⟩ := get_of_lt HN.out hlt
      obtain ⟨b, off, rfl, hb, h0, hxm, hx⟩ := H.out k r hr
      have HR := Lib.hid (ll_get hr); clear hr
      have HX := Lib.hid hx; clear hx
      obtain ⟨tA, tc, txs⟩ := r
      dsimp only at h0 hxm HX HR
      generalize hm2 : txs.length = m at *
      have HM := Lib.hid hm2; clear hm2
      go_wp2_with fail
      clear h0
      go_loopg [5, 20] m (fun kk s5 i wi => ∃ q : Nat, kk = m - q ∧ q ≤ m ∧ i = .int .i64 q ∧ s5 = .int .i64 (if q = 0 then -1 else nth txs ((q - 1 : Nat) : Int)) ∧ Hid (∀ j < q, elAt txs k j = none) ∧ w = wi)
      case atStart => exact ⟨0, by omega, Nat.zero_le _, rfl, rfl, forall_lt_zero, rfl⟩
      case round =>
        obtain ⟨q, hgk2, hq, rfl, hlast, hall2, rfl⟩ := hrel
        have HGK2 := Lib.hid hgk2; clear hgk2
        by_cases hlt2 : q < m
        · obtain ⟨x, hx⟩ := get_of_lt HM.out.symm hlt2
          obtain ⟨b', off', rfl, hb', c0⟩ := HX.out q x hx
          have HXX := Lib.hid hx; clear hx
          by_cases hxo : 0 ≤ x ∧ x < k
          · obtain ⟨x1, x2⟩ := hxo
            rcases Nat.eq_zero_or_pos q with hq0 | hq0
            · subst hq0
              rw [Nat.add_zero] at c0
              rw [if_pos rfl] at hlast
              subst hlast
              have HOK := Lib.hid (elAt_ok (k := k) HXX.out ⟨x1, x2⟩ (.inl rfl))
              go_wp2_with fail
              go_roundg (m - (0 + 1))
              case measure => rw [HGK2.out]; omega
              case rel => exact ⟨0+1, rfl, by omega, by go_num, by simp [nth, HXX.out], forall_lt_succ hall2.out HOK.out, rfl⟩
            · obtain ⟨q', rfl⟩ : ∃ q', q = q' + 1 := ⟨q - 1, by omega⟩
              obtain ⟨y, hy⟩ := get_of_lt HM.out.symm (show q' < m by omega)
              obtain ⟨b'', off'', hA'', _, c1⟩ := HX.out q' y hy
              cases hA''
              have HY : Hid (nth txs ((q' + 1 - 1 : Nat) : Int) = y) := Lib.hid (nth_get hy)
              rw [if_neg (by omega), HY.out] at hlast
              subst hlast
              clear hy
              by_cases hle : x ≤ y
              · have HE := Lib.hid (bErr_some HL.out (by rw [← HNL.out]; exact hlt) hall.out HR.out (by rw [HM.out]; exact hlt2) hall2.out (elAt_ord HXX.out ⟨x1, x2⟩ (by omega) (by rw [HY.out]; exact hle)))
                go_wp2_with fail
                go_ret
                exact ⟨ret_int HE.out.symm, rfl⟩
              · have HOK := Lib.hid (elAt_ok (k := k) HXX.out ⟨x1, x2⟩ (.inr (by rw [HY.out]; omega)))
                go_wp2_with fail
                go_roundg (m - (q' + 1 + 1))
                case measure => rw [HGK2.out]; omega
                case rel => exact ⟨q'+1+1, rfl, by omega, by go_num, by simp [nth, HXX.out], forall_lt_succ hall2.out HOK.out, rfl⟩
          · have hxo' : x < 0 ∨ (0 ≤ x ∧ (k : Int) ≤ x) := by omega
            have HE := Lib.hid (bErr_some HL.out (by rw [← HNL.out]; exact hlt) hall.out HR.out (by rw [HM.out]; exact hlt2) hall2.out (elAt_arg HXX.out (show x < 0 ∨ (k : Int) ≤ x by omega)))
            clear hxo
            have HLA := Lib.hid hlast; clear hlast
            rcases hxo' with hx1 | ⟨hx1, hx2⟩
            all_goals
              go_wp2_with fail
              go_ret
              exact ⟨ret_int HE.out.symm, rfl⟩
        · have HLA := Lib.hid hlast; clear hlast
          go_wp2_with fail
          go_roundg (n - (k + 1))
          case measure => rw [HGK.out]; omega
          case rel => exact ⟨k+1, rfl, by omega, by go_num, forall_lt_succ hall.out (rowAt_ok HR.out (by rw [HM.out]; intro j hj; exact hall2.out j (by omega))), rfl⟩
    · go_wp2_with fail
      go_ret
      obtain rfl : k = n := by omega
      exact ⟨ret_int (bErr_none HL.out (by rw [← HNL.out]; exact hall.out)).symm, rfl⟩
end Go.Proofs.Ytogjfmgecnoceaa
