/- Cells: slices.Equal, Index, Contains (printed by gridp.py). -/
import Derived.Test.YtoejojfjiikogaaDoorGrG

namespace Go.Proofs.YtoejojfjiikogaaDoor
open Go.RowKit
set_option linter.unusedVariables false
set_option linter.unusedSimpArgs false

set_option maxHeartbeats 2000000 in
set_option maxRecDepth 20000 in
/-- slices.Equal at cells *)-/
theorem equal_any (xs ys : List Ft) (A B : Option Addr) (n m c d : Nat) (w : World) (hn : n = xs.length) (hm : m = ys.length) (hx : n ≤ 1000000) (h : FactsAt w w.heap.size A xs) (h' : FactsAt w w.heap.size B ys) :
    Calls Tryd.prog 20 #[.slice A n c, .slice B m d] w fun e w' => e = .returned (.bool (decide (xs = ys))) ∧ Below w.heap.size w w' := by
  by_cases hnm : n = m
  · subst hnm
    have HN := Lib.hid hn; clear hn
    have HM := Lib.hid hm; clear hm
    have H := Lib.hid h; clear h
    have H' := Lib.hid h'; clear h'
    go_enter Tryd.func20, Tryd.ntmps20
    go_wp2_with fail
    go_loopg [13] n (fun k i wr => ∃ j : Nat, k = n - j ∧ j ≤ n ∧ i = .int .i64 j ∧ Hid (Below w.heap.size w wr) ∧ Hid (∀ t, t < j → xs[t]? = ys[t]?))
    case atStart => exact ⟨0, by omega, Nat.zero_le _, rfl, Lib.hid (Below.refl _ _), Lib.hid (fun t ht => absurd ht (by omega))⟩
    case round =>
      obtain ⟨j, hgk, hj, rfl, hbel, HS⟩ := hrel
      have HGK := Lib.hid hgk; clear hgk
      by_cases hlt : j < n
      · obtain ⟨⟨ax, ay⟩, hu⟩ := get_of_lt HN.out hlt
        obtain ⟨⟨bx, byy⟩, hv⟩ := get_of_lt HM.out hlt
        obtain ⟨b, off, rfl, hb, h0, h1⟩ := H.out.two hu
        obtain ⟨b', off', rfl, hb', h0', h1'⟩ := H'.out.two hv
        dsimp only at h0 h1 h0' h1'
        have HU := Lib.hid hu; clear hu
        have HV := Lib.hid hv; clear hv
        have g0 := (hbel.out.cell (p := ⟨b, off + j*2, none⟩) hb).trans h0
        have g1 := (hbel.out.cell (p := ⟨b, off + j*2+1, none⟩) hb).trans h1
        have g0' := (hbel.out.cell (p := ⟨b', off' + j*2, none⟩) hb').trans h0'
        have g1' := (hbel.out.cell (p := ⟨b', off' + j*2+1, none⟩) hb').trans h1'
        clear h0 h1 h0' h1'
        have i1 : (0 : Int) ≤ (j : Int) := by omega
        have i2 : (j : Int) < (n : Int) := by omega
        by_cases he : (⟨ax, ay⟩ : Ft) = ⟨bx, byy⟩
        · have HE := Lib.hid he
          have heq := equal_ft ax ay bx byy (decide_eq_true he)
          have heq2 := equal_ft2 ax ay bx byy (decide_eq_true he)
          clear he
          go_wp2_with fail
          go_quiet (fail)
          clear heq heq2
          go_wp2_with fail
          go_roundg (n - (j + 1))
          case measure => rw [HGK.out]; omega
          case rel => exact ⟨j+1, rfl, by omega, by go_num, below_drewN hbel.out _, Lib.hid (forall_lt_succ HS.out (by rw [HU.out, HV.out, HE.out]))⟩
        · have HE : Hid (decide (xs = ys) = false) := Lib.hid (decide_eq_false fun e => he (by
            have h1 := HU.out
            rw [e, HV.out] at h1
            exact (Option.some.inj h1).symm))
          have heq := equal_ft ax ay bx byy (decide_eq_false he)
          have heq2 := equal_ft2 ax ay bx byy (decide_eq_false he)
          clear he
          go_wp2_with fail
          go_quiet (fail)
          clear heq heq2
          go_wp2_with fail
          go_ret
          exact ⟨by rw [HE.out]; rfl, below_drewN hbel.out _⟩
      · obtain rfl : j = n := by omega
        have HE : Hid (decide (xs = ys) = true) := Lib.hid (decide_eq_true (by
          apply List.ext_getElem?
          intro t
          rcases Nat.lt_or_ge t j with h1 | h1
          · exact HS.out t h1
          · rw [List.getElem?_eq_none (by rw [← HN.out]; exact h1), List.getElem?_eq_none (by rw [← HM.out]; exact h1)]))
        go_wp2_with fail
        go_ret
        exact ⟨by rw [HE.out]; rfl, hbel.out⟩
  · have HE : Hid (decide (xs = ys) = false) := Lib.hid (decide_eq_false fun e => hnm (by rw [hn, hm, e]))
    rw [HE.out]
    have hne : ((n : Int) != (m : Int)) = true := by simp; omega
    clear hn hm hnm h h' HE
    go_enter Tryd.func20, Tryd.ntmps20
    go_wp2_with fail
    go_ret
    exact ⟨rfl, Below.refl _ _⟩
set_option maxHeartbeats 2000000 in
set_option maxRecDepth 20000 in
theorem index_any (xs : List Ft) (v : Ft) (A : Option Addr) (n c : Nat) (w : World) (hn : n = xs.length) (hx : n ≤ 1000000) (h : FactsAt w w.heap.size A xs) :
    Calls Tryd.prog 92 #[.slice A n c, valF v] w fun e w' => (∃ z : Int, e = .returned (.int .i64 z) ∧ decide (z ≥ 0) = decide (v ∈ xs)) ∧ Below w.heap.size w w' := by
  have HN := Lib.hid hn; clear hn
  have H := Lib.hid h; clear h
  obtain ⟨vx, vy⟩ := v
  show Calls Tryd.prog 92 #[.slice A n c, .agg #[.int .i64 vx, .int .i64 vy]] w _
  go_enter Tryd.func92, Tryd.ntmps92
  go_upto_region 1 with (fail)
  have HB0 : Hid (Below w.heap.size w (w.alloc (.cells #[.int .i64 vx, .int .i64 vy] 60)) ∧ Blk (w.alloc (.cells #[.int .i64 vx, .int .i64 vy] 60)) w.heap.size 60 #[.int .i64 vx, .int .i64 vy]) := Lib.hid ⟨(Below.refl _ _).alloc (Nat.le_refl _) _, Blk.new _ _ _⟩
  generalize World.alloc w _ = w1 at *
  generalize hp : w.heap.size = p at HB0 ⊢
  have HP := Lib.hid hp; clear hp
  go_wp2_with fail
  go_loopg [8] n (fun k i wr => ∃ j : Nat, k = n - j ∧ j ≤ n ∧ i = .int .i64 j ∧ Hid (Below p w wr ∧ Blk wr p 60 #[.int .i64 vx, .int .i64 vy]) ∧ Hid (∀ t, t < j → xs[t]? ≠ some ⟨vx, vy⟩))
  case atStart => exact ⟨0, by omega, Nat.zero_le _, rfl, HB0, Lib.hid (fun t ht => absurd ht (by omega))⟩
  case round =>
    obtain ⟨j, hgk, hj, rfl, HB, HS⟩ := hrel
    have HGK := Lib.hid hgk; clear hgk
    by_cases hlt : j < n
    · obtain ⟨⟨ax, ay⟩, hu⟩ := get_of_lt HN.out hlt
      obtain ⟨b, off, rfl, hb, h0, h1⟩ := H.out.two hu
      dsimp only at h0 h1
      have HU := Lib.hid hu; clear hu
      rw [← HP.out] at HB
      have g0 := (HB.out.1.cell (p := ⟨b, off + j*2, none⟩) hb).trans h0
      have g1 := (HB.out.1.cell (p := ⟨b, off + j*2+1, none⟩) hb).trans h1
      rw [HP.out] at HB
      have k0 := HB.out.2.cell 0
      have k1 := HB.out.2.cell 1
      simp at k0 k1
      clear h0 h1
      have i1 : (0 : Int) ≤ (j : Int) := by omega
      have i2 : (j : Int) < (n : Int) := by omega
      by_cases he : (⟨vx, vy⟩ : Ft) = ⟨ax, ay⟩
      · have HE : Hid (decide (((j : Int)) ≥ 0) = decide ((⟨vx, vy⟩ : Ft) ∈ xs)) := Lib.hid (by
          rw [decide_eq_true i1, decide_eq_true]; rw [he]; exact List.mem_of_getElem? HU.out)
        have heq := equal_ft vx vy ax ay (decide_eq_true he)
        have heq2 := equal_ft2 vx vy ax ay (decide_eq_true he)
        clear he
        go_wp2_with fail
        go_quiet (fail)
        clear heq heq2
        go_wp2_with fail
        go_ret
        exact ⟨⟨_, rfl, HE.out⟩, below_drewN (by rw [HP.out]; exact HB.out.1) _⟩
      · have HE : Hid (xs[j]? ≠ some ⟨vx, vy⟩) := Lib.hid (by rw [HU.out]; exact fun e => he (Option.some.inj e).symm)
        have heq := equal_ft vx vy ax ay (decide_eq_false he)
        have heq2 := equal_ft2 vx vy ax ay (decide_eq_false he)
        clear he
        go_wp2_with fail
        go_quiet (fail)
        clear heq heq2
        go_wp2_with fail
        go_roundg (n - (j + 1))
        case measure => rw [HGK.out]; omega
        case rel => exact ⟨j+1, rfl, by omega, by go_num, Lib.hid ⟨below_drewN HB.out.1 _, HB.out.2.drewN _⟩, Lib.hid (forall_lt_succ HS.out HE.out)⟩
    · obtain rfl : j = n := by omega
      have HE : Hid (decide ((-1 : Int) ≥ 0) = decide ((⟨vx, vy⟩ : Ft) ∈ xs)) := Lib.hid (by
        rw [decide_eq_false (by omega), decide_eq_false]
        intro h
        obtain ⟨t, ht⟩ := List.mem_iff_getElem?.1 h
        have h2 := (List.getElem?_eq_some_iff.1 ht).1
        exact HS.out t (by rw [HN.out]; exact h2) ht)
      go_wp2_with fail
      go_ret
      exact ⟨⟨_, rfl, HE.out⟩, by rw [HP.out]; exact HB.out.1⟩
set_option maxHeartbeats 2000000 in
theorem contains_any (xs : List Ft) (v : Ft) (A : Option Addr) (n c : Nat) (w : World) (hn : n = xs.length) (hx : n ≤ 1000000) (h : FactsAt w w.heap.size A xs) :
    Calls Tryd.prog 52 #[.slice A n c, valF v] w fun e w' => e = .returned (.bool (decide (v ∈ xs))) ∧ Below w.heap.size w w' := by
  obtain ⟨vx, vy⟩ := v
  have hb0 : Below w.heap.size w (w.alloc (.cells #[.int .i64 vx, .int .i64 vy] 60)) := (Below.refl _ _).alloc (Nat.le_refl _) _
  have HI := Lib.hid (index_any xs ⟨vx, vy⟩ A n c _ hn hx (h.next hb0))
  have HB0 := Lib.hid hb0
  clear hb0 h hn hx
  unfold valF at HI
  show Calls Tryd.prog 52 #[.slice A n c, .agg #[.int .i64 vx, .int .i64 vy]] w _
  dsimp only at HI
  generalize decide ((⟨vx, vy⟩ : Ft) ∈ xs) = rb at *
  go_enter Tryd.func52, Tryd.ntmps52
  go_wp2_with fail
  refine HI.out.mono ?_
  rintro e w2 ⟨⟨z, rfl, hz⟩, hb2⟩
  have HB2 := Lib.hid (HB0.out.trans (hb2.mono HB0.out.size))
  have HZ := Lib.hid hz
  clear hb2 hz
  go_wp2_with fail
  go_ret
  exact ⟨by rw [← HZ.out]; rfl, HB2.out⟩
end Go.Proofs.YtoejojfjiikogaaDoor
