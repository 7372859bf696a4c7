/- Walks: tasks (package tools) and TasksFault (reference). -/
import Derived.Test.YtogjfmgecnoceaaToolsS
import Derived.Test.YtogjfmgecnoceaaToolsA
import Derived.Deep.LoopGhost
namespace Go.Proofs.Ytogjfmgecnoceaa
open Go.RowKit
set_option linter.unusedVariables false
set_option linter.unusedSimpArgs false

set_option maxHeartbeats 1000000 in
theorem tasks_any (ts : List Tk) (A : Option Addr) (n c : Nat) (w : World) (hn : n = ts.length) (hm : n ≤ 9223372036854775807) (h : TasksAt w w.heap.size A ts) :
    Calls Try.prog 81 #[.slice A n c] w fun e w' => e = .returned (.int .i64 (tErr ts)) ∧ Below w.heap.size w w' := by
  have HN := Lib.hid hn; clear hn
  have H := Lib.hid h; clear h
  by_cases h60 : 60 < n
  · have HL := Lib.hid h60
    go_enter Try.func81, Try.ntmps81
    go_wp2_with fail
    go_ret
    exact ⟨ret_int (tErr_large (by rw [← HN.out]; exact HL.out)).symm, Below.refl _ _⟩
  have H60 : ¬ 60 < ts.length := by rw [← HN.out]; exact h60
  have HL := Lib.hid H60; clear H60
  go_enter Try.func81, Try.ntmps81
  go_wp2_with fail
  go_loopg [12] n (fun k i wr => ∃ j : Nat, k = n - j ∧ j ≤ n ∧ i = .int .i64 j ∧ Hid (Below w.heap.size w wr) ∧ Hid (∀ i < j, tkAt ts i = none))
  case atStart => exact ⟨0, by omega, Nat.zero_le _, rfl, Below.refl _ _, forall_lt_zero⟩
  case round =>
    obtain ⟨k, hgk, hk, rfl, hbel, hall⟩ := hrel
    have HGK := Lib.hid hgk; clear hgk
    by_cases hlt : k < n
    · obtain ⟨t, ht⟩ := get_of_lt HN.out hlt
      obtain ⟨b, off, rfl, hb, h0, h1, h2, hxm, hx⟩ := H.out k t ht
      have HT := Lib.hid ht; clear ht
      have g0 := (hbel.out.cell (p := ⟨b, off + k*3, none⟩) hb).trans h0
      have g1 := (hbel.out.cell (p := ⟨b, off + k*3+1, none⟩) hb).trans h1
      have g2 := (hbel.out.cell (p := ⟨b, off + k*3+2, none⟩) hb).trans h2
      clear h0 h1 h2
      have HX := Lib.hid hx; clear hx
      have hz := hbel.out.size
      obtain ⟨tt, tl, tA, tc, txs⟩ := t
      dsimp only at g0 g1 g2 hxm HX
      generalize hm2 : txs.length = m at *
      have HM := Lib.hid hm2; clear hm2
      by_cases hok : -1 ≤ tt ∧ tt ≤ 5 ∧ 1 ≤ tl ∧ tl ≤ 2000
      · obtain ⟨o1, o2, o3, o4⟩ := hok
        have HOK := Lib.hid (show okT ⟨tt, tl, tA, tc, txs⟩ = true by rw [okT_iff]; exact ⟨o1, o2, o3, o4⟩)
        go_wp2_with fail
        clear g0 g1 g2
        generalize hg : wr.heap.size = g at *
        have hcell : Hid ((wr.alloc (.cells #[.int .i64 tt, .int .i64 tl, .slice tA m tc] 34)).cell? ⟨g, 2, none⟩ = some (.slice tA m tc)) := by subst hg; simp [Hid]
        have hbw : Hid (Below w.heap.size w (wr.alloc (.cells #[.int .i64 tt, .int .i64 tl, .slice tA m tc] 34))) := by subst hg; exact hbel.out.alloc hz _
        generalize wr.alloc (.cells #[.int .i64 tt, .int .i64 tl, .slice tA m tc] 34) = wo at *
        go_loopg [38] m (fun kk i wi => ∃ j : Nat, kk = m - j ∧ j ≤ m ∧ i = .int .i64 j ∧ Hid (∀ j' < j, ∀ x, txs[j']? = some x → 0 ≤ x ∧ x < k) ∧ wi = wo)
        case atStart => exact ⟨0, by omega, Nat.zero_le _, rfl, forall_lt_zero, rfl⟩
        case round =>
          obtain ⟨j, hgk2, hj, rfl, hall2, rfl⟩ := hrel
          have HGK2 := Lib.hid hgk2; clear hgk2
          by_cases hlt2 : j < m
          · obtain ⟨x, hx⟩ := get_of_lt HM.out.symm hlt2
            obtain ⟨b', off', rfl, hb', c0⟩ := HX.out j x hx
            have c1 := (hbw.out.cell (p := ⟨b', off' + j, none⟩) hb').trans c0
            clear c0
            have HXX := Lib.hid hx; clear hx
            by_cases hxo : 0 ≤ x ∧ x < k
            · obtain ⟨x1, x2⟩ := hxo
              go_wp2_with fail
              go_roundg (m - (j + 1))
              case measure => rw [HGK2.out]; omega
              case rel => exact ⟨j+1, rfl, by omega, by go_num, forall_lt_succ hall2.out (fun x' hx' => by rw [HXX.out] at hx'; cases hx'; exact ⟨x1, x2⟩), rfl⟩
            · have hxo' : x < 0 ∨ (0 ≤ x ∧ (k : Int) ≤ x) := by omega
              have HBAD := Lib.hid (tkAt_ord HT.out HOK.out HXX.out (by omega))
              clear hxo
              rcases hxo' with hx1 | ⟨hx1, hx2⟩
              all_goals
                go_wp2_with fail
                go_ret
                exact ⟨ret_int (tErr_some HL.out (by rw [← HN.out]; exact hlt) hall.out HBAD.out).symm, hbw.out⟩
          · go_wp2_with fail
            go_roundg (n - (k + 1))
            case measure => rw [HGK.out]; omega
            case rel => exact ⟨k+1, rfl, by omega, by go_num, hbw.out, forall_lt_succ hall.out (tkAt_ok HT.out HOK.out (by show ∀ j < txs.length, _; rw [HM.out]; intro j' hj' x hx; exact hall2.out j' (by omega) x hx))⟩
      · have hbad : tt < -1 ∨ (-1 ≤ tt ∧ 5 < tt) ∨ (-1 ≤ tt ∧ tt ≤ 5 ∧ tl < 1) ∨ (-1 ≤ tt ∧ tt ≤ 5 ∧ 1 ≤ tl ∧ 2000 < tl) := by omega
        have HOK := Lib.hid (show okT ⟨tt, tl, tA, tc, txs⟩ = false by rw [← Bool.not_eq_true, okT_iff]; exact hok)
        clear hok
        rcases hbad with o1 | ⟨o1, o2⟩ | ⟨o1, o2, o3⟩ | ⟨o1, o2, o3, o4⟩
        all_goals
          go_wp2_with fail
          go_ret
          exact ⟨ret_int (tErr_some HL.out (by rw [← HN.out]; exact hlt) hall.out (tkAt_bad HT.out HOK.out)).symm, hbel.out.alloc hz _⟩
    · go_wp2_with fail
      go_ret
      obtain rfl : k = n := by omega
      exact ⟨ret_int (tErr_none HL.out (by rw [← HN.out]; exact hall.out)).symm, hbel.out⟩
set_option maxHeartbeats 1000000 in
theorem tfault_any (ts : List Tk) (A : Option Addr) (n c : Nat) (w : World) (hn : n = ts.length) (hm : n ≤ 9223372036854775807) (h : TasksAt w w.heap.size A ts) :
    Calls Try.prog 83 #[.slice A n c] w fun e w' => e = .returned (.int .i64 (tErr ts)) ∧ Below w.heap.size w w' := by
  have HN := Lib.hid hn; clear hn
  have H := Lib.hid h; clear h
  by_cases h60 : 60 < n
  · have HL := Lib.hid h60
    go_enter Try.func83, Try.ntmps83
    go_wp2_with fail
    go_ret
    exact ⟨ret_int (tErr_large (by rw [← HN.out]; exact HL.out)).symm, Below.refl _ _⟩
  have H60 : ¬ 60 < ts.length := by rw [← HN.out]; exact h60
  have HL := Lib.hid H60; clear H60
  go_enter Try.func83, Try.ntmps83
  go_wp2_with fail
  go_loopg [12] n (fun k i wr => ∃ j : Nat, k = n - j ∧ j ≤ n ∧ i = .int .i64 j ∧ Hid (Below w.heap.size w wr) ∧ Hid (∀ i < j, tkAt ts i = none))
  case atStart => exact ⟨0, by omega, Nat.zero_le _, rfl, Below.refl _ _, forall_lt_zero⟩
  case round =>
    obtain ⟨k, hgk, hk, rfl, hbel, hall⟩ := hrel
    have HGK := Lib.hid hgk; clear hgk
    by_cases hlt : k < n
    · obtain ⟨t, ht⟩ := get_of_lt HN.out hlt
      obtain ⟨b, off, rfl, hb, h0, h1, h2, hxm, hx⟩ := H.out k t ht
      have HT := Lib.hid ht; clear ht
      have g0 := (hbel.out.cell (p := ⟨b, off + k*3, none⟩) hb).trans h0
      have g1 := (hbel.out.cell (p := ⟨b, off + k*3+1, none⟩) hb).trans h1
      have g2 := (hbel.out.cell (p := ⟨b, off + k*3+2, none⟩) hb).trans h2
      clear h0 h1 h2
      have HX := Lib.hid hx; clear hx
      have hz := hbel.out.size
      obtain ⟨tt, tl, tA, tc, txs⟩ := t
      dsimp only at g0 g1 g2 hxm HX
      generalize hm2 : txs.length = m at *
      have HM := Lib.hid hm2; clear hm2
      by_cases hok : -1 ≤ tt ∧ tt ≤ 5 ∧ 1 ≤ tl ∧ tl ≤ 2000
      · obtain ⟨o1, o2, o3, o4⟩ := hok
        have HOK := Lib.hid (show okT ⟨tt, tl, tA, tc, txs⟩ = true by rw [okT_iff]; exact ⟨o1, o2, o3, o4⟩)
        go_wp2_with fail
        clear g0 g1 g2
        generalize hg : wr.heap.size = g at *
        have hcell : Hid ((wr.alloc (.cells #[.int .i64 tt, .int .i64 tl, .slice tA m tc] 34)).cell? ⟨g, 2, none⟩ = some (.slice tA m tc)) := by subst hg; simp [Hid]
        have hbw : Hid (Below w.heap.size w (wr.alloc (.cells #[.int .i64 tt, .int .i64 tl, .slice tA m tc] 34))) := by subst hg; exact hbel.out.alloc hz _
        generalize wr.alloc (.cells #[.int .i64 tt, .int .i64 tl, .slice tA m tc] 34) = wo at *
        go_loopg [38] m (fun kk i wi => ∃ j : Nat, kk = m - j ∧ j ≤ m ∧ i = .int .i64 j ∧ Hid (∀ j' < j, ∀ x, txs[j']? = some x → 0 ≤ x ∧ x < k) ∧ wi = wo)
        case atStart => exact ⟨0, by omega, Nat.zero_le _, rfl, forall_lt_zero, rfl⟩
        case round =>
          obtain ⟨j, hgk2, hj, rfl, hall2, rfl⟩ := hrel
          have HGK2 := Lib.hid hgk2; clear hgk2
          by_cases hlt2 : j < m
          · obtain ⟨x, hx⟩ := get_of_lt HM.out.symm hlt2
            obtain ⟨b', off', rfl, hb', c0⟩ := HX.out j x hx
            have c1 := (hbw.out.cell (p := ⟨b', off' + j, none⟩) hb').trans c0
            clear c0
            have HXX := Lib.hid hx; clear hx
            by_cases hxo : 0 ≤ x ∧ x < k
            · obtain ⟨x1, x2⟩ := hxo
              go_wp2_with fail
              go_roundg (m - (j + 1))
              case measure => rw [HGK2.out]; omega
              case rel => exact ⟨j+1, rfl, by omega, by go_num, forall_lt_succ hall2.out (fun x' hx' => by rw [HXX.out] at hx'; cases hx'; exact ⟨x1, x2⟩), rfl⟩
            · have hxo' : x < 0 ∨ (0 ≤ x ∧ (k : Int) ≤ x) := by omega
              have HBAD := Lib.hid (tkAt_ord HT.out HOK.out HXX.out (by omega))
              clear hxo
              rcases hxo' with hx1 | ⟨hx1, hx2⟩
              all_goals
                go_wp2_with fail
                go_ret
                exact ⟨ret_int (tErr_some HL.out (by rw [← HN.out]; exact hlt) hall.out HBAD.out).symm, hbw.out⟩
          · go_wp2_with fail
            go_roundg (n - (k + 1))
            case measure => rw [HGK.out]; omega
            case rel => exact ⟨k+1, rfl, by omega, by go_num, hbw.out, forall_lt_succ hall.out (tkAt_ok HT.out HOK.out (by show ∀ j < txs.length, _; rw [HM.out]; intro j' hj' x hx; exact hall2.out j' (by omega) x hx))⟩
      · have hbad : tt < -1 ∨ (-1 ≤ tt ∧ 5 < tt) ∨ (-1 ≤ tt ∧ tt ≤ 5 ∧ tl < 1) ∨ (-1 ≤ tt ∧ tt ≤ 5 ∧ 1 ≤ tl ∧ 2000 < tl) := by omega
        have HOK := Lib.hid (show okT ⟨tt, tl, tA, tc, txs⟩ = false by rw [← Bool.not_eq_true, okT_iff]; exact hok)
        clear hok
        rcases hbad with o1 | ⟨o1, o2⟩ | ⟨o1, o2, o3⟩ | ⟨o1, o2, o3, o4⟩
        all_goals
          go_wp2_with fail
          go_ret
          exact ⟨ret_int (tErr_some HL.out (by rw [← HN.out]; exact hlt) hall.out (tkAt_bad HT.out HOK.out)).symm, hbel.out.alloc hz _⟩
    · go_wp2_with fail
      go_ret
      obtain rfl : k = n := by omega
      exact ⟨ret_int (tErr_none HL.out (by rw [← HN.out]; exact hall.out)).symm, hbel.out⟩
end Go.Proofs.Ytogjfmgecnoceaa
