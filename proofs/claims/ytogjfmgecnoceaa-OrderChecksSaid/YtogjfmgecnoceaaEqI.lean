/- Walk: slices.Equal at integers. -/
import Derived.Test.YtogjfmgecnoceaaChecked
import Derived.Test.YtogjfmgecnoceaaInts
import Derived.Deep.LoopGhost
import Derived.Deep.QuietTactic
import Derived.BigQuiet
import Derived.WalkSpells
namespace Go.Proofs.Ytogjfmgecnoceaa
open Go.RowKit
set_option linter.unusedVariables false
set_option linter.unusedSimpArgs false

set_option maxHeartbeats 1000000 in
theorem equalI_any (xs ys : List Int) (A B : Option Addr) (n m c d : Nat) (w : World) (hn : n = xs.length) (hm : m = ys.length) (hx : n ≤ 9223372036854775807) (hy : m ≤ 9223372036854775807) (h : IntsAt w w.heap.size A xs) (h' : IntsAt w w.heap.size B ys) {r : Bool} (hr : decide (xs = ys) = r) :
    Calls Try.prog 15 #[.slice A n c, .slice B m d] w fun e w' => e = .returned (.bool r) ∧ Below w.heap.size w w' := by
  have HN := Lib.hid hn; clear hn
  have HM := Lib.hid hm; clear hm
  have H := Lib.hid h; clear h
  have H' := Lib.hid h'; clear h'
  have HR := Lib.hid hr; clear hr
  by_cases hnm : n = m
  · subst hnm
    go_enter Try.func15, Try.ntmps15
    go_wp2_with fail
    go_loopg [13] n (fun k i wr => ∃ j : Nat, k = n - j ∧ j ≤ n ∧ i = .int .i64 j ∧ Hid (Below w.heap.size w wr) ∧ Hid (xs.take j = ys.take j))
    case atStart => exact ⟨0, by omega, Nat.zero_le _, rfl, Below.refl _ _, rfl⟩
    case round =>
      obtain ⟨j, hgk, hj, rfl, hbel, hall⟩ := hrel
      have HGK := Lib.hid hgk; clear hgk
      by_cases hlt : j < n
      · obtain ⟨x, hx⟩ := get_of_lt HN.out hlt
        obtain ⟨y, hy⟩ := get_of_lt HM.out hlt
        obtain ⟨b, off, rfl, hb, h0⟩ := H.out j x hx
        obtain ⟨b', off', rfl, hb', h0'⟩ := H'.out j y hy
        have HX := Lib.hid (And.intro hx hy); clear hx hy
        have g0 := (hbel.out.cell (p := ⟨b, off + j, none⟩) hb).trans h0
        have g1 := (hbel.out.cell (p := ⟨b', off' + j, none⟩) hb').trans h0'
        clear h0 h0'
        have i1 : (0 : Int) ≤ (j : Int) := by omega
        have i2 : (j : Int) < (n : Int) := by omega
        by_cases hxy : x = y
        · have HT : Hid (xs.take (j+1) = ys.take (j+1)) := Lib.hid (by rw [List.take_add_one, List.take_add_one, HX.out.1, HX.out.2, hall.out, hxy])
          have hd : (x == y) = true := by simp [hxy]
          have hd' : (x != y) = false := by simp [hxy]
          clear hxy
          go_wp2_with fail
          go_quiet (fail)
          go_wp2_with fail
          go_roundg (n - (j + 1))
          case measure => rw [HGK.out]; omega
          case rel => exact ⟨j+1, rfl, by omega, by go_num, below_drewN hbel.out _, HT.out⟩
        · have HF : Hid (r = false) := Lib.hid (by
            rw [← HR.out, decide_eq_false_iff_not]
            intro he
            have h1 := HX.out.1
            rw [he, HX.out.2] at h1
            exact hxy (Option.some.inj h1).symm)
          have hd : (x == y) = false := by simp [hxy]
          have hd' : (x != y) = true := by simp [hxy]
          clear hxy
          go_wp2_with fail
          go_quiet (fail)
          go_wp2_with fail
          go_ret
          exact ⟨ret_bool HF.out.symm, below_drewN hbel.out _⟩
      · go_wp2_with fail
        go_ret
        refine ⟨ret_bool ?_, hbel.out⟩
        have h1 := hall.out
        rw [show j = n by omega] at h1
        conv at h1 => lhs; rw [HN.out]
        conv at h1 => rhs; rw [HM.out]
        rw [List.take_length, List.take_length] at h1
        rw [← HR.out, h1]; simp
  · have HF : Hid (r = false) := Lib.hid (by
      rw [← HR.out, decide_eq_false_iff_not]
      intro he
      exact hnm (by rw [HN.out, HM.out, he]))
    have hne : ((n : Int) != (m : Int)) = true := by simp; omega
    go_enter Try.func15, Try.ntmps15
    go_wp2_with fail
    go_ret
    exact ⟨ret_bool HF.out.symm, Below.refl _ _⟩
end Go.Proofs.Ytogjfmgecnoceaa
