/- slices.Equal at facts (of two equal lists). -/
import Derived.Test.YtnaiflokmihmeaaFacG
import Derived.Deep.LoopGhost
import Derived.Deep.QuietTactic
import Derived.BigQuiet
import Derived.WalkSpells
namespace Go.Proofs.Ytnaiflokmihmeaa
open Go.RowKit
set_option linter.unusedVariables false
set_option linter.unusedSimpArgs false

set_option maxHeartbeats 1000000 in
theorem equalG_any (xs : List Ft) (A B : Option Addr) (n c d : Nat) (w : World) (hn : n = xs.length) (hx : n ≤ 9223372036854775807) (h : FactsAt w w.heap.size A xs) (h' : FactsAt w w.heap.size B xs) :
    Calls Try.prog 25 #[.slice A n c, .slice B n d] w fun e w' => e = .returned (.bool true) ∧ Below w.heap.size w w' := by
  have HN := Lib.hid hn; clear hn
  have H := Lib.hid h; clear h
  have H' := Lib.hid h'; clear h'
  go_enter Try.func25, Try.ntmps25
  go_wp2_with fail
  go_loopg [13] n (fun k i wr => ∃ j : Nat, k = n - j ∧ j ≤ n ∧ i = .int .i64 j ∧ Hid (Below w.heap.size w wr))
  case atStart => exact ⟨0, by omega, Nat.zero_le _, rfl, Below.refl _ _⟩
  case round =>
    obtain ⟨j, hgk, hj, rfl, hbel⟩ := hrel
    have HGK := Lib.hid hgk; clear hgk
    by_cases hlt : j < n
    · obtain ⟨u, hu⟩ := get_of_lt HN.out hlt
      obtain ⟨b, off, rfl, hb, h0, h1, h2⟩ := H.out.three hu
      obtain ⟨b', off', rfl, hb', h0', h1', h2'⟩ := H'.out.three hu
      clear hu
      have g0 := (hbel.out.cell (p := ⟨b, off + j*3, none⟩) hb).trans h0
      have g1 := (hbel.out.cell (p := ⟨b, off + j*3+1, none⟩) hb).trans h1
      have g2 := (hbel.out.cell (p := ⟨b, off + j*3+2, none⟩) hb).trans h2
      have g0' := (hbel.out.cell (p := ⟨b', off' + j*3, none⟩) hb').trans h0'
      have g1' := (hbel.out.cell (p := ⟨b', off' + j*3+1, none⟩) hb').trans h1'
      have g2' := (hbel.out.cell (p := ⟨b', off' + j*3+2, none⟩) hb').trans h2'
      clear h0 h1 h2 h0' h1' h2'
      have i1 : (0 : Int) ≤ (j : Int) := by omega
      have i2 : (j : Int) < (n : Int) := by omega
      go_wp2_with fail
      go_quiet (fail)
      go_wp2_with fail
      go_roundg (n - (j + 1))
      case measure => rw [HGK.out]; omega
      case rel => exact ⟨j+1, rfl, by omega, by go_num, below_drewN hbel.out _⟩
    · go_wp2_with fail
      go_ret
      exact ⟨rfl, hbel.out⟩

end Go.Proofs.Ytnaiflokmihmeaa
