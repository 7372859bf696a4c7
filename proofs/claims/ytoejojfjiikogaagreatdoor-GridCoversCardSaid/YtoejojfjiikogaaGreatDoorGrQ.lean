/- Cells: slices.Equal, Index, Contains (printed by gridp.py). -/
import Derived.Test.YtoejojfjiikogaaGreatDoorGrG

namespace Go.Proofs.YtoejojfjiikogaaGreatDoor
open Go.RowKit
set_option linter.unusedVariables false
set_option linter.unusedSimpArgs false

set_option maxHeartbeats 2000000 in
set_option maxRecDepth 20000 in
theorem index_any (xs : List Ft) (v : Ft) (A : Option Addr) (n c : Nat) (w : World) (hn : n = xs.length) (hx : n ≤ 1000000) (h : FactsAt w w.heap.size A xs) :
    Calls Tryz.prog 47 #[.slice A n c, valF v] w fun e w' => (∃ z : Int, e = .returned (.int .i64 z) ∧ decide (z ≥ 0) = decide (v ∈ xs)) ∧ Below w.heap.size w w' := by
  have HN := Lib.hid hn; clear hn
  have H := Lib.hid h; clear h
  obtain ⟨vx, vy⟩ := v
  show Calls Tryz.prog 47 #[.slice A n c, .agg #[.int .i64 vx, .int .i64 vy]] w _
  go_enter Tryz.func47, Tryz.ntmps47
  go_upto_region 1 with (fail)
  have HB0 : Hid (Below w.heap.size w (w.alloc (.cells #[.int .i64 vx, .int .i64 vy] 36)) ∧ Blk (w.alloc (.cells #[.int .i64 vx, .int .i64 vy] 36)) w.heap.size 36 #[.int .i64 vx, .int .i64 vy]) := Lib.hid ⟨(Below.refl _ _).alloc (Nat.le_refl _) _, Blk.new _ _ _⟩
  generalize World.alloc w _ = w1 at *
  generalize hp : w.heap.size = p at HB0 ⊢
  have HP := Lib.hid hp; clear hp
  go_wp2_with fail
  go_loopg [8] n (fun k i wr => ∃ j : Nat, k = n - j ∧ j ≤ n ∧ i = .int .i64 j ∧ Hid (Below p w wr ∧ Blk wr p 36 #[.int .i64 vx, .int .i64 vy]) ∧ Hid (∀ t, t < j → xs[t]? ≠ some ⟨vx, vy⟩))
  case atStart => exact ⟨0, by omega, Nat.zero_le _, rfl, HB0, Lib.hid (fun t ht => absurd ht (by omega))⟩
  case round =>
    obtain ⟨j, hgk, hj, rfl, HB, HS⟩ := hrel
    have HGK := Lib.hid hgk; clear hgk
    by_cases hlt : j < n
    · obtain ⟨⟨ax, ay⟩, hu⟩ := get_of_lt HN.out hlt
      obtain ⟨b, off, rfl, hb, h0, h1⟩ := H.out.two hu
      dsimp only at h0 h1
      have HU := Lib.hid hu; clear hu
      rw [← HP.out] at HB
      have g0 := (HB.out.1.cell (p := ⟨b, off + j*2, none⟩) hb).trans h0
      have g1 := (HB.out.1.cell (p := ⟨b, off + j*2+1, none⟩) hb).trans h1
      rw [HP.out] at HB
      have k0 := HB.out.2.cell 0
      have k1 := HB.out.2.cell 1
      simp at k0 k1
      clear h0 h1
      have i1 : (0 : Int) ≤ (j : Int) := by omega
      have i2 : (j : Int) < (n : Int) := by omega
      by_cases he : (⟨vx, vy⟩ : Ft) = ⟨ax, ay⟩
      · have HE : Hid (decide (((j : Int)) ≥ 0) = decide ((⟨vx, vy⟩ : Ft) ∈ xs)) := Lib.hid (by
          rw [decide_eq_true i1, decide_eq_true]; rw [he]; exact List.mem_of_getElem? HU.out)
        have heq := equal_ft vx vy ax ay (decide_eq_true he)
        have heq2 := equal_ft2 vx vy ax ay (decide_eq_true he)
        clear he
        go_wp2_with fail
        go_quiet (fail)
        clear heq heq2
        go_wp2_with fail
        go_ret
        exact ⟨⟨_, rfl, HE.out⟩, below_drewN (by rw [HP.out]; exact HB.out.1) _⟩
      · have HE : Hid (xs[j]? ≠ some ⟨vx, vy⟩) := Lib.hid (by rw [HU.out]; exact fun e => he (Option.some.inj e).symm)
        have heq := equal_ft vx vy ax ay (decide_eq_false he)
        have heq2 := equal_ft2 vx vy ax ay (decide_eq_false he)
        clear he
        go_wp2_with fail
        go_quiet (fail)
        clear heq heq2
        go_wp2_with fail
        go_roundg (n - (j + 1))
        case measure => rw [HGK.out]; omega
        case rel => exact ⟨j+1, rfl, by omega, by go_num, Lib.hid ⟨below_drewN HB.out.1 _, HB.out.2.drewN _⟩, Lib.hid (forall_lt_succ HS.out HE.out)⟩
    · obtain rfl : j = n := by omega
      have HE : Hid (decide ((-1 : Int) ≥ 0) = decide ((⟨vx, vy⟩ : Ft) ∈ xs)) := Lib.hid (by
        rw [decide_eq_false (by omega), decide_eq_false]
        intro h
        obtain ⟨t, ht⟩ := List.mem_iff_getElem?.1 h
        have h2 := (List.getElem?_eq_some_iff.1 ht).1
        exact HS.out t (by rw [HN.out]; exact h2) ht)
      go_wp2_with fail
      go_ret
      exact ⟨⟨_, rfl, HE.out⟩, by rw [HP.out]; exact HB.out.1⟩
set_option maxHeartbeats 2000000 in
theorem contains_any (xs : List Ft) (v : Ft) (A : Option Addr) (n c : Nat) (w : World) (hn : n = xs.length) (hx : n ≤ 1000000) (h : FactsAt w w.heap.size A xs) :
    Calls Tryz.prog 16 #[.slice A n c, valF v] w fun e w' => e = .returned (.bool (decide (v ∈ xs))) ∧ Below w.heap.size w w' := by
  obtain ⟨vx, vy⟩ := v
  have hb0 : Below w.heap.size w (w.alloc (.cells #[.int .i64 vx, .int .i64 vy] 36)) := (Below.refl _ _).alloc (Nat.le_refl _) _
  have HI := Lib.hid (index_any xs ⟨vx, vy⟩ A n c _ hn hx (h.next hb0))
  have HB0 := Lib.hid hb0
  clear hb0 h hn hx
  unfold valF at HI
  show Calls Tryz.prog 16 #[.slice A n c, .agg #[.int .i64 vx, .int .i64 vy]] w _
  dsimp only at HI
  generalize decide ((⟨vx, vy⟩ : Ft) ∈ xs) = rb at *
  go_enter Tryz.func16, Tryz.ntmps16
  go_wp2_with fail
  refine HI.out.mono ?_
  rintro e w2 ⟨⟨z, rfl, hz⟩, hb2⟩
  have HB2 := Lib.hid (HB0.out.trans (hb2.mono HB0.out.size))
  have HZ := Lib.hid hz
  clear hb2 hz
  go_wp2_with fail
  go_ret
  exact ⟨by rw [← HZ.out]; rfl, HB2.out⟩
end Go.Proofs.YtoejojfjiikogaaGreatDoor
