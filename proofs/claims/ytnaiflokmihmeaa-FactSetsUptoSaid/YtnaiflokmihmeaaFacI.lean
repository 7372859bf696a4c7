/- slices.Compare at integers (two lists of one length). -/
import Derived.Test.YtnaiflokmihmeaaFacA
import Derived.Test.YtnaiflokmihmeaaInts
namespace Go.Proofs.Ytnaiflokmihmeaa
open Go.RowKit
set_option linter.unusedVariables false
set_option linter.unusedSimpArgs false

def cmpI (x y : Int) : Int := if x < y then -1 else if y < x then 1 else 0
theorem isnan_any (x : Int) (w : World) : Calls Try.prog 112 #[.int .i64 x] w fun e w' => e = .returned (.bool false) ∧ w' = w := by
  go_enter Try.func112, Try.ntmps112
  go_wp2_with fail
  go_ret
  exact ⟨by simp, rfl⟩
theorem cmpI_any (x y : Int) (w : World) : Calls Try.prog 96 #[.int .i64 x, .int .i64 y] w fun e w' => e = .returned (.int .i64 (cmpI x y)) ∧ w' = w := by
  by_cases h1 : x < y
  · have HV := Lib.hid (show cmpI x y = -1 by simp [cmpI, h1])
    go_enter Try.func96, Try.ntmps96
    go_wp2_with (first | (go_at_call 112; refine (isnan_any _ _).mono ?_; rintro e w' ⟨rfl, rfl⟩) | fail)
    go_ret
    exact ⟨by rw [HV.out]; rfl, rfl⟩
  · by_cases h2 : y < x
    · have HV := Lib.hid (show cmpI x y = 1 by simp [cmpI, h1, h2])
      have h1' : y ≤ x := by omega
      go_enter Try.func96, Try.ntmps96
      go_wp2_with (first | (go_at_call 112; refine (isnan_any _ _).mono ?_; rintro e w' ⟨rfl, rfl⟩) | fail)
      go_ret
      exact ⟨by rw [HV.out]; rfl, rfl⟩
    · obtain rfl : x = y := by omega
      have HV := Lib.hid (show cmpI x x = 0 by simp [cmpI])
      clear h1 h2
      go_enter Try.func96, Try.ntmps96
      go_wp2_with (first | (go_at_call 112; refine (isnan_any _ _).mono ?_; rintro e w' ⟨rfl, rfl⟩) | fail)
      go_ret
      exact ⟨by rw [HV.out]; rfl, rfl⟩
def lexC : List Int → List Int → Int
  | x :: xs, y :: ys => if cmpI x y ≠ 0 then cmpI x y else lexC xs ys
  | _, _ => 0
theorem lexC_step {xs ys : List Int} {j : Nat} {x y : Int} (hx : xs[j]? = some x) (hy : ys[j]? = some y) : lexC (xs.drop j) (ys.drop j) = if cmpI x y ≠ 0 then cmpI x y else lexC (xs.drop (j+1)) (ys.drop (j+1)) := by
  obtain ⟨h1, e1⟩ := List.getElem?_eq_some_iff.1 hx
  obtain ⟨h2, e2⟩ := List.getElem?_eq_some_iff.1 hy
  rw [List.drop_eq_getElem_cons h1, List.drop_eq_getElem_cons h2, e1, e2]
  rfl

set_option maxHeartbeats 2000000 in
theorem compareI_any (xs ys : List Int) (A B : Option Addr) (n c d : Nat) (w : World) (hn : n = xs.length) (hm : n = ys.length) (hx : n ≤ 9223372036854775807) (h : IntsAt w w.heap.size A xs) (h' : IntsAt w w.heap.size B ys) :
    Calls Try.prog 67 #[.slice A n c, .slice B n d] w fun e w' => e = .returned (.int .i64 (lexC xs ys)) ∧ w' = w := by
  have HN := Lib.hid hn; clear hn
  have HM := Lib.hid hm; clear hm
  have H := Lib.hid h; clear h
  have H' := Lib.hid h'; clear h'
  go_enter Try.func67, Try.ntmps67
  go_wp2_with fail
  go_loop [11] (fun i => ∃ j : Nat, j ≤ n ∧ i = .int .i64 j ∧ Hid (lexC xs ys = lexC (xs.drop j) (ys.drop j))) (fun i => n - (intOf i).toNat)
  case atStart => exact ⟨0, Nat.zero_le _, rfl, Lib.hid (by rw [List.drop_zero, List.drop_zero])⟩
  case round =>
    obtain ⟨j, hj, rfl, hL⟩ := hrel
    by_cases hlt : j < n
    · obtain ⟨x, hx⟩ := get_of_lt HN.out hlt
      obtain ⟨y, hy⟩ := get_of_lt HM.out hlt
      obtain ⟨b, off, rfl, hb, h0⟩ := H.out j x hx
      obtain ⟨b', off', rfl, hb', h0'⟩ := H'.out j y hy
      have HS := Lib.hid (hL.out.trans (lexC_step hx hy)); clear hx hy hL
      have HC := Lib.hid (cmpI_any x y w)
      by_cases hc : cmpI x y = 0
      · have HT : Hid (lexC xs ys = lexC (xs.drop (j+1)) (ys.drop (j+1))) := Lib.hid (by rw [HS.out, if_neg (by simp [hc])])
        rw [hc] at HC
        clear hc
        go_wp2_with fail
        refine HC.out.mono ?_
        rintro e w' ⟨rfl, rfl⟩
        go_wp2_with fail
        go_round
        case rel => exact ⟨j+1, by omega, by go_num, HT.out⟩
        case measure => simp [intOf]; omega
      · have HT : Hid (lexC xs ys = cmpI x y) := Lib.hid (by rw [HS.out, if_pos hc])
        have hc' : (cmpI x y != 0) = true := by simp [hc]
        clear hc
        go_wp2_with fail
        refine HC.out.mono ?_
        rintro e w' ⟨rfl, rfl⟩
        go_wp2_with fail
        go_ret
        exact ⟨by rw [HT.out]; rfl, rfl⟩
    · obtain rfl : j = n := by omega
      have HZ : Hid (lexC xs ys = 0) := Lib.hid (by rw [hL.out, HN.out, List.drop_length]; simp [lexC])
      go_wp2_with fail
      go_ret
      exact ⟨by rw [HZ.out]; rfl, rfl⟩
end Go.Proofs.Ytnaiflokmihmeaa
