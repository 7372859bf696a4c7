/- Walks: the closure of Steps; slices.IndexFunc at steps. -/
import Derived.Test.YtnaiflokmihmeaaAsC
namespace Go.Proofs.Ytnaiflokmihmeaa
open Go.RowKit
set_option linter.unusedVariables false
set_option linter.unusedSimpArgs false

/-- the variable at block p holds the world d, which lies below -/
def VarW (p : Nat) (d : Wd) (r : Raw) (w : World) : Prop := Blk w p 25 (wcs d.sl r) ∧ WOk w r d
theorem VarW.next {p : Nat} {d : Wd} {r : Raw} {w w' : World} (h : VarW p d r w) (hb : Below w.heap.size w w') : VarW p d r w' := ⟨h.1.belowB hb, h.2.next hb⟩
set_option maxHeartbeats 2000000 in
set_option maxRecDepth 20000 in
theorem del_any (d : Wd) (r : Raw) (s : Stp) (p : Nat) (w : World) (h : VarW p d r w) :
    Calls Try.prog 92 #[sv s, .pointer (some ⟨p, 0, none⟩)] w fun e w' => e = .returned (.bool (decide (canE d s ≠ 0))) ∧ Below w.heap.size w w' := by
  have HC := Lib.hid (fun W (hb : Below w.heap.size w W) => can_any d r s W (h.2.next hb))
  obtain ⟨A1, n1, c1, A2, n2, c2, A3, n3, c3⟩ := r
  obtain ⟨k, a, q, s0, t⟩ := s
  unfold wv sv at HC
  unfold sv
  dsimp only at HC ⊢
  have hbx : Below w.heap.size w (w.alloc (.cells #[.int .i64 k, .int .i64 a, .int .i64 q, .int .i64 s0, .int .i64 t] 39)) := (Below.refl _ _).alloc (Nat.le_refl _) _
  have HB := Lib.hid hbx
  have HV := Lib.hid (h.next hbx)
  have HX := Lib.hid (Blk.new w 39 #[.int .i64 k, .int .i64 a, .int .i64 q, .int .i64 s0, .int .i64 t])
  clear hbx h
  have HE : Hid (∀ z : Int, canE d ⟨k, a, q, s0, t⟩ = z → decide (canE d ⟨k, a, q, s0, t⟩ ≠ 0) = (z != 0)) := Lib.hid (fun z hz => by subst hz; by_cases h9 : canE d ⟨k, a, q, s0, t⟩ = 0 <;> simp [h9])
  generalize hce : canE d ⟨k, a, q, s0, t⟩ = ce at *
  clear hce
  go_enter Try.func92, Try.ntmps92
  go_upto_region 1 with (fail)
  generalize World.alloc w _ = w1 at *
  have k0 := HV.out.1.cell 0
  have k1 := HV.out.1.cell 1
  have k2 := HV.out.1.cell 2
  have k3 := HV.out.1.cell 3
  have g0 := HX.out.cell 0
  have g1 := HX.out.cell 1
  have g2 := HX.out.cell 2
  have g3 := HX.out.cell 3
  have g4 := HX.out.cell 4
  unfold wcs at k0 k1 k2 k3
  simp at k0 k1 k2 k3 g0 g1 g2 g3 g4
  go_wp2_with fail
  refine (HC.out _ HB.out).mono ?_
  rintro e w2 ⟨rfl, hb2⟩
  have HB2 := Lib.hid (HB.out.trans (hb2.mono HB.out.size))
  go_wp2_with fail
  go_ret
  exact ⟨by rw [HE.out _ rfl]; rfl, HB2.out⟩
/-- the steps that are done away with -/
def badS (d : Wd) (s : Stp) : Bool := decide (canE d s ≠ 0)
/-- the first of them among xs, of which the first j are good -/
theorem first_bad {d : Wd} {xs : List Stp} {j : Nat} {s : Stp} (hg : ∀ i, i < j → ∀ x, xs[i]? = some x → badS d x = false) (hx : xs[j]? = some s) (hb : badS d s = true) : xs.findIdx? (badS d) = some j := by
  have hl := (List.getElem?_eq_some_iff.1 hx).1
  rw [List.findIdx?_eq_some_iff_getElem]
  refine ⟨hl, by rw [(List.getElem?_eq_some_iff.1 hx).2]; exact hb, fun i hi => ?_⟩
  have := hg i hi _ (List.getElem?_eq_getElem (by omega))
  simp [this]
theorem no_bad {d : Wd} {xs : List Stp} (hg : ∀ i, i < xs.length → ∀ x, xs[i]? = some x → badS d x = false) : xs.findIdx? (badS d) = none := by
  rw [List.findIdx?_eq_none_iff]
  intro x hx
  obtain ⟨i, hi⟩ := List.mem_iff_getElem?.1 hx
  exact hg i (List.getElem?_eq_some_iff.1 hi).1 x hi
def ixS (d : Wd) (xs : List Stp) : Int := match xs.findIdx? (badS d) with
  | some i => (i : Int)
  | none => -1
theorem ixS_some {d : Wd} {xs : List Stp} {j : Nat} (h : xs.findIdx? (badS d) = some j) : ixS d xs = j := by unfold ixS; rw [h]
theorem ixS_none {d : Wd} {xs : List Stp} (h : xs.findIdx? (badS d) = none) : ixS d xs = -1 := by unfold ixS; rw [h]
set_option maxHeartbeats 2000000 in
set_option maxRecDepth 20000 in
theorem indexS_any (d : Wd) (r : Raw) (p : Nat) (xs : List Stp) (A : Option Addr) (n c : Nat) (w : World) (hn : n = xs.length) (hm : n ≤ 9223372036854775807) (h : StepsAt w w.heap.size A xs) (hv : VarW p d r w) :
    Calls Try.prog 108 #[.slice A n c, .func (.func 92) #[] #[.pointer (some ⟨p, 0, none⟩)]] w fun e w' =>
      e = .returned (.int .i64 (ixS d xs)) ∧ Below w.heap.size w w' := by
  have HN := Lib.hid hn
  have H := Lib.hid h
  have HV := Lib.hid hv
  clear hn h hv
  go_enter Try.func108, Try.ntmps108
  go_wp2_with fail
  go_loopg [8] n (fun k i wr => ∃ j : Nat, k = n - j ∧ j ≤ n ∧ i = .int .i64 j ∧ Hid (Below w.heap.size w wr) ∧ Hid (∀ i, i < j → ∀ x, xs[i]? = some x → badS d x = false))
  case atStart => exact ⟨0, by omega, Nat.zero_le _, rfl, Lib.hid (Below.refl _ _), Lib.hid (fun i hi => by omega)⟩
  case round =>
    obtain ⟨j, hgk, hj, rfl, HB, HG⟩ := hrel
    have HGK := Lib.hid hgk; clear hgk
    by_cases hlt : j < n
    · obtain ⟨s, hs⟩ := get_of_lt HN.out hlt
      obtain ⟨b, off, rfl, hb, g0, g1, g2, g3, g4⟩ := H.out.five hs
      rw [← HB.out.cell (p := ⟨b, _, none⟩) hb] at g0 g1 g2 g3 g4
      have HX := Lib.hid hs
      have HD := Lib.hid (del_any d r s p wr (HV.out.next HB.out))
      have HZ : Hid (∀ z, badS d s = z → decide (canE d s ≠ 0) = z) := Lib.hid (fun z hz => hz)
      have i1 : (0 : Int) ≤ (j : Int) := by omega
      have i2 : (j : Int) < (n : Int) := by omega
      clear hs hb
      obtain ⟨sk, sa, sp, s0, st⟩ := s
      unfold sv at HD
      dsimp only at HD g0 g1 g2 g3 g4
      cases hz : badS d ⟨sk, sa, sp, s0, st⟩ with
      | true =>
        rw [HZ.out _ hz] at HD
        have HF := Lib.hid (ixS_some (first_bad HG.out HX.out hz))
        clear hz
        go_wp2_with fail
        refine HD.out.mono ?_
        rintro e w2 ⟨rfl, hb2⟩
        have HB2 := Lib.hid (HB.out.trans (hb2.mono HB.out.size))
        clear hb2
        go_wp2_with fail
        go_ret
        exact ⟨ret_int (by rw [HF.out]), HB2.out⟩
      | false =>
        rw [HZ.out _ hz] at HD
        have HG2 : Hid (∀ i, i < j + 1 → ∀ x, xs[i]? = some x → badS d x = false) := Lib.hid (forall_lt_succ HG.out (fun x hx => by rw [HX.out] at hx; cases hx; exact hz))
        clear hz
        go_wp2_with fail
        refine HD.out.mono ?_
        rintro e w2 ⟨rfl, hb2⟩
        have HB2 := Lib.hid (HB.out.trans (hb2.mono HB.out.size))
        clear hb2
        go_wp2_with fail
        go_roundg (n - (j + 1))
        case measure => rw [HGK.out]; omega
        case rel => exact ⟨j+1, rfl, by omega, by go_num, HB2, HG2⟩
    · obtain rfl : j = n := by omega
      have HF := Lib.hid (ixS_none (no_bad (d := d) (xs := xs) (by rw [← HN.out]; exact HG.out)))
      go_wp2_with fail
      go_ret
      exact ⟨ret_int (by rw [HF.out]), HB.out⟩
end Go.Proofs.Ytnaiflokmihmeaa
