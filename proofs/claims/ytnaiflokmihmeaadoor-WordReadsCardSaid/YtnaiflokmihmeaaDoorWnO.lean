/- slices.Equal at words (of two equal lists); how many words there are. -/
import Derived.Test.YtnaiflokmihmeaaDoorWnH
import Derived.Deep.LoopGhost
import Derived.Deep.QuietTactic
import Derived.BigQuiet
import Derived.WalkSpells
namespace Go.Proofs.YtnaiflokmihmeaaDoor
open Go.RowKit
set_option linter.unusedVariables false
set_option linter.unusedSimpArgs false

theorem maxL_of {w : World} (h : w.ShapedOpen Tryd.prog) : MaxL w := by
  obtain ⟨m, hm⟩ := Tryd.laysM219.s1_3 w h
  have hm' : w.cell? ⟨0, 0, none⟩ = some (.int .i64 m) := hm
  refine ⟨?_, m, hm'⟩
  rcases Nat.eq_zero_or_pos w.heap.size with h0 | h0
  · exfalso
    have : w.heap[0]? = none := Array.getElem?_eq_none (by omega)
    unfold World.cell? at hm'
    simp [this] at hm'
  · exact h0
theorem readG_len (s : ByteArray) : ∀ (k p : Nat) (acc : List Wrd), acc.length ≤ p → p ≤ s.size → (readG s k p acc).1.length ≤ s.size := by
  intro k
  induction k with
  | zero => intro p acc h hp; show acc.length ≤ s.size; omega
  | succ k ih =>
    intro p acc h hp
    unfold readG
    cases hx : (bl s)[p]? with
    | none => show acc.length ≤ s.size; omega
    | some x =>
      simp only
      split
      · refine ih _ _ ?_ ?_
        · rw [List.length_append]
          have := nextP_gt hx
          simp; omega
        · have := nextP_le hx
          rwa [bl_len] at this
      · simp
theorem readR_len (s : ByteArray) : (readR s).1.length ≤ 4096 := by
  unfold readR
  split
  · simp
  · have := skipL_le (bl s) false
    rw [bl_len] at this
    have := readG_len s (s.size + 1) (skipL (bl s) false) [] (by simp) this
    omega
set_option maxHeartbeats 1000000 in
theorem equalW_any (xs : List Wrd) (A B : Option Addr) (n c d : Nat) (w : World) (hn : n = xs.length) (hx : n ≤ 9223372036854775807) (h : WordsAt w w.heap.size A xs) (h' : WordsAt w w.heap.size B xs) :
    Calls Tryd.prog 14 #[.slice A n c, .slice B n d] w fun e w' => e = .returned (.bool true) ∧ Below w.heap.size w w' := by
  have HN := Lib.hid hn; clear hn
  have H := Lib.hid h; clear h
  have H' := Lib.hid h'; clear h'
  go_enter Tryd.func14, Tryd.ntmps14
  go_wp2_with fail
  go_loopg [13] n (fun k i wr => ∃ j : Nat, k = n - j ∧ j ≤ n ∧ i = .int .i64 j ∧ Hid (Below w.heap.size w wr))
  case atStart => exact ⟨0, by omega, Nat.zero_le _, rfl, Below.refl _ _⟩
  case round =>
    obtain ⟨j, hgk, hj, rfl, hbel⟩ := hrel
    have HGK := Lib.hid hgk; clear hgk
    by_cases hlt : j < n
    · obtain ⟨u, hu⟩ : ∃ u, xs[j]? = some u := ⟨_, List.getElem?_eq_getElem (by have := HN.out; omega)⟩
      obtain ⟨b, off, rfl, hb, h0, h1, h2⟩ := H.out.three hu
      obtain ⟨b', off', rfl, hb', h0', h1', h2'⟩ := H'.out.three hu
      clear hu
      have g0 := (hbel.out.cell (p := ⟨b, off + j*3, none⟩) hb).trans h0
      have g1 := (hbel.out.cell (p := ⟨b, off + j*3+1, none⟩) hb).trans h1
      have g2 := (hbel.out.cell (p := ⟨b, off + j*3+2, none⟩) hb).trans h2
      have g0' := (hbel.out.cell (p := ⟨b', off' + j*3, none⟩) hb').trans h0'
      have g1' := (hbel.out.cell (p := ⟨b', off' + j*3+1, none⟩) hb').trans h1'
      have g2' := (hbel.out.cell (p := ⟨b', off' + j*3+2, none⟩) hb').trans h2'
      clear h0 h1 h2 h0' h1' h2'
      have i1 : (0 : Int) ≤ (j : Int) := by omega
      have i2 : (j : Int) < (n : Int) := by omega
      go_wp2_with fail
      go_quiet (fail)
      go_wp2_with fail
      go_roundg (n - (j + 1))
      case measure => rw [HGK.out]; omega
      case rel => exact ⟨j+1, rfl, by omega, by go_num, below_drewN hbel.out _⟩
    · go_wp2_with fail
      go_ret
      exact ⟨rfl, hbel.out⟩
end Go.Proofs.YtnaiflokmihmeaaDoor
