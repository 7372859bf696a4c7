/- Walks: Far, Common (package replan). -/
import Derived.Test.YtnaiflokmihmeaaMgK
import Derived.Test.YtnaiflokmihmeaaActRuns
namespace Go.Proofs.Ytnaiflokmihmeaa
open Go.RowKit
set_option linter.unusedVariables false
set_option linter.unusedSimpArgs false

/-- how many steps two plans share at their beginnings -/
def cmn : List Stp → List Stp → Nat
  | x :: xs, y :: ys => if x = y then cmn xs ys + 1 else 0
  | _, _ => 0
theorem cmn_eq : ∀ {j : Nat} {xs ys : List Stp}, xs.take j = ys.take j → j ≤ xs.length → j ≤ ys.length → (j = xs.length ∨ j = ys.length ∨ ∃ s t, xs[j]? = some s ∧ ys[j]? = some t ∧ s ≠ t) → cmn xs ys = j := by
  intro j
  induction j with
  | zero =>
    intro xs ys _ _ _ h
    cases xs with
    | nil => rfl
    | cons x xs =>
      cases ys with
      | nil => rfl
      | cons y ys =>
        rcases h with h | h | ⟨s, t, h1, h2, h3⟩
        · simp at h
        · simp at h
        · simp at h1 h2
          subst h1 h2
          show (if x = y then cmn xs ys + 1 else 0) = 0
          rw [if_neg h3]
  | succ j ih =>
    intro xs ys h1 h2 h3 h
    cases xs with
    | nil => simp at h2
    | cons x xs =>
      cases ys with
      | nil => simp at h3
      | cons y ys =>
        simp at h1 h2 h3
        obtain ⟨rfl, h1⟩ := h1
        show (if x = x then cmn xs ys + 1 else 0) = j + 1
        rw [if_pos rfl, ih h1 h2 h3]
        rcases h with h | h | ⟨s, t, h4, h5, h6⟩
        · simp at h; exact .inl h
        · simp at h; exact .inr (.inl h)
        · simp at h4 h5; exact .inr (.inr ⟨s, t, h4, h5, h6⟩)
theorem cmn_stop {j : Nat} {xs ys : List Stp} {s t : Stp} (h1 : xs.take j = ys.take j) (hx : xs[j]? = some s) (hy : ys[j]? = some t) (hn : s ≠ t) : cmn xs ys = j :=
  cmn_eq h1 (Nat.le_of_lt (List.getElem?_eq_some_iff.1 hx).1) (Nat.le_of_lt (List.getElem?_eq_some_iff.1 hy).1) (.inr (.inr ⟨s, t, hx, hy, hn⟩))
theorem take_more {j : Nat} {xs ys : List Stp} {s : Stp} (h1 : xs.take j = ys.take j) (hx : xs[j]? = some s) (hy : ys[j]? = some s) : xs.take (j+1) = ys.take (j+1) := by
  rw [List.take_add_one, List.take_add_one, h1, hx, hy]
theorem stp_ne {s t : Stp} (h : s ≠ t) : s.k ≠ t.k ∨ (s.k = t.k ∧ s.a ≠ t.a) ∨ (s.k = t.k ∧ s.a = t.a ∧ s.p ≠ t.p) ∨ (s.k = t.k ∧ s.a = t.a ∧ s.p = t.p ∧ s.s ≠ t.s) ∨ (s.k = t.k ∧ s.a = t.a ∧ s.p = t.p ∧ s.s = t.s ∧ s.t ≠ t.t) := by
  obtain ⟨a1, a2, a3, a4, a5⟩ := s
  obtain ⟨b1, b2, b3, b4, b5⟩ := t
  dsimp only
  by_cases h1 : a1 = b1
  · by_cases h2 : a2 = b2
    · by_cases h3 : a3 = b3
      · by_cases h4 : a4 = b4
        · exact .inr (.inr (.inr (.inr ⟨h1, h2, h3, h4, fun h5 => h (by rw [h1, h2, h3, h4, h5])⟩)))
        · exact .inr (.inr (.inr (.inl ⟨h1, h2, h3, h4⟩)))
      · exact .inr (.inr (.inl ⟨h1, h2, h3⟩))
    · exact .inr (.inl ⟨h1, h2⟩)
  · exact .inl h1
set_option maxHeartbeats 1000000 in
set_option maxRecDepth 20000 in
theorem far_any (d : Wd) (r : Raw) (ss : List Stp) (A : Option Addr) (n c : Nat) (w : World) (hn : n = ss.length) (hm : n * 40 ≤ 140737488351232) (hc : n ≤ c) (h : WOk w r d) (hs : StepsAt w w.heap.size A ss) :
    Calls Try.prog 18 #[wv d.sl r, .slice A n c] w fun e w' => e = .returned (.int .i64 ((runE d ss).2.1 : Int)) ∧ Below w.heap.size w w' := by
  have HRU := Lib.hid (fun W (hb : Below w.heap.size w W) => run_any d r ss A n c W hn hm hc (h.next hb) (hs.next hb))
  have HS0 := Lib.hid (W1S.start w d.sl r)
  unfold RunPost at HRU
  generalize runE d ss = R at *
  obtain ⟨D, j, ec⟩ := R
  clear h hs hn
  obtain ⟨A1, n1, c1, A2, n2, c2, A3, n3, c3⟩ := r
  unfold wv wcs
  unfold wv wcs at HRU
  unfold wcs at HS0
  dsimp only at HRU HS0 ⊢
  go_enter Try.func18, Try.ntmps18
  go_wp2_with fail
  generalize World.alloc w _ = w1 at *
  obtain ⟨k0, k1, k2, k3⟩ := HS0.out.all
  dsimp only at k0 k1 k2 k3
  go_wp2_with fail
  refine (HRU.out _ HS0.out.bel).mono ?_
  rintro e w2 ⟨⟨B1, m1, e1, B2, m2, e2, B3, m3, e3⟩, rfl, ho2, hb2⟩
  have hbx : Below w2.heap.size w2 (w2.alloc (.cells #[.int .i64 D.sl, .slice B1 m1 e1, .slice B2 m2 e2, .slice B3 m3 e3] 25)) := (Below.refl _ _).alloc (Nat.le_refl _) _
  have HS3 := Lib.hid ((HS0.out.next hb2).next hbx)
  clear hbx hb2 ho2 k0 k1 k2 k3 HS0 HRU
  dsimp only
  go_upto_region 2 with (fail)
  generalize World.alloc w2 _ = w3 at *
  go_wp2_with fail
  go_ret
  exact ⟨rfl, HS3.out.bel⟩
set_option maxHeartbeats 1000000 in
set_option maxRecDepth 20000 in
theorem common_any (xs ys : List Stp) (A B : Option Addr) (n c m e : Nat) (w : World) (hn : n = xs.length) (hm : m = ys.length) (hn2 : n * 40 ≤ 140737488351232) (hm2 : m * 40 ≤ 140737488351232) (hs : StepsAt w w.heap.size A xs) (hs' : StepsAt w w.heap.size B ys) :
    Calls Try.prog 17 #[.slice A n c, .slice B m e] w fun x w' => x = .returned (.int .i64 (cmn xs ys : Int)) ∧ Below w.heap.size w w' := by
  have HX := Lib.hid hn
  have HY := Lib.hid hm
  have HXS := Lib.hid hs
  have HYS := Lib.hid hs'
  clear hn hm hs hs'
  go_enter Try.func17, Try.ntmps17
  go_wp2_with fail
  go_loopg [5] n (fun kx i wr => ∃ j : Nat, kx = n - j ∧ j ≤ n ∧ j ≤ m ∧ i = .int .i64 j ∧ Hid (Below w.heap.size w wr) ∧ Hid (xs.take j = ys.take j))
  case atStart => exact ⟨0, by omega, Nat.zero_le _, Nat.zero_le _, rfl, Lib.hid (Below.refl _ _), Lib.hid rfl⟩
  case round =>
    obtain ⟨j, hgk, hj, hj2, rfl, HB, HT⟩ := hrel
    have HGK := Lib.hid hgk; clear hgk
    by_cases hlt : j < n
    · by_cases hlt2 : j < m
      · skip
        obtain ⟨s, hx⟩ := get_of_lt HX.out hlt
        obtain ⟨t, hy⟩ := get_of_lt HY.out hlt2
        obtain ⟨b, off, rfl, hb, g0, g1, g2, g3, g4⟩ := HXS.out.five hx
        obtain ⟨b', off', rfl, hb', o0, o1, o2, o3, o4⟩ := HYS.out.five hy
        rw [← HB.out.cell (p := ⟨b, _, none⟩) hb] at g0 g1 g2 g3 g4
        rw [← HB.out.cell (p := ⟨b', _, none⟩) hb'] at o0 o1 o2 o3 o4
        have i1 : (0 : Int) ≤ (j : Int) := by omega
        have i2 : (j : Int) < (n : Int) := by omega
        have i3 : (j : Int) < (m : Int) := by omega
        clear hb hb'
        have hmin : (j : Int) < min (n : Int) (m : Int) := by omega
        by_cases hst : s = t
        · subst hst
          have HT2 := Lib.hid (take_more HT.out hx hy)
          clear hx hy
          obtain ⟨sk, sa, sp, s0, st⟩ := s
          dsimp only at g0 g1 g2 g3 g4 o0 o1 o2 o3 o4
          go_wp2_with fail
          go_quiet (fail)
          go_wp2_with fail
          go_roundg (n - (j + 1))
          case measure => rw [HGK.out]; omega
          case rel => exact ⟨j+1, rfl, by omega, by omega, by go_num, Lib.hid (below_drewN HB.out _), HT2⟩
        · have HC := Lib.hid (cmn_stop HT.out hx hy hst)
          have hne := stp_ne hst
          clear hx hy hst
          obtain ⟨sk, sa, sp, s0, st⟩ := s
          obtain ⟨tk, ta, tp, t0, tt⟩ := t
          dsimp only at g0 g1 g2 g3 g4 o0 o1 o2 o3 o4 hne
          rcases hne with h1 | ⟨rfl, h1⟩ | ⟨rfl, rfl, h1⟩ | ⟨rfl, rfl, rfl, h1⟩ | ⟨rfl, rfl, rfl, rfl, h1⟩
          all_goals
            go_wp2_with fail
            go_quiet (fail)
            go_wp2_with fail
            go_ret
            exact ⟨ret_int (by rw [HC.out]), below_drewN HB.out _⟩
      · obtain rfl : j = m := by omega
        have hmin : min (n : Int) (j : Int) = (j : Int) := by omega
        have HC := Lib.hid (cmn_eq HT.out (by rw [← HX.out]; omega) (by rw [← HY.out]; omega) (.inr (.inl HY.out)))
        clear hj2 hlt2
        go_wp2_with fail
        go_quiet (fail)
        go_wp2_with fail
        go_ret
        exact ⟨ret_int (by rw [HC.out]), below_drewN HB.out _⟩
    · obtain rfl : j = n := by omega
      have hmin : min (j : Int) (m : Int) = (j : Int) := by omega
      have HC := Lib.hid (cmn_eq HT.out (by rw [← HX.out]; omega) (by rw [← HY.out]; omega) (.inl HX.out))
      go_wp2_with fail
      go_quiet (fail)
      go_wp2_with fail
      go_ret
      exact ⟨ret_int (by rw [HC.out]), below_drewN HB.out _⟩
end Go.Proofs.Ytnaiflokmihmeaa
