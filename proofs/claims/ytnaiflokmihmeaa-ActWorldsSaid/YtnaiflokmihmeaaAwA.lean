/- Walks: slices.Clone, Copy (package act) at any length; Same (package act). -/
import Derived.Test.YtnaiflokmihmeaaMgK
namespace Go.Proofs.Ytnaiflokmihmeaa
open Go.RowKit
set_option linter.unusedVariables false
set_option linter.unusedSimpArgs false

theorem cloneI_big (xs : List Int) (A : Option Addr) (n c : Nat) (w : World) (hn : n = xs.length) (hm : n * 8 ≤ 140737488351232) (h : IntsAt w w.heap.size A xs) :
    Calls Try.prog 15 #[.slice A n c] w (ClonePost 3 n (cellsI xs) w) := by
  have hnil := fun W => Lib.run_eql_slice_nil (P := Try.prog) W 22 3 A n c 0 0 Try.underlying22
  obtain ⟨i0, hi0, hz0, hz1, hz2⟩ := info_parts infoI
  cases A with
  | none =>
    have hus : xs = [] := by
      cases xs with
      | nil => rfl
      | cons a l => obtain ⟨b, off, hA, _⟩ := h 0 a rfl; cases hA
    subst hus
    have hn0 : n = 0 := hn
    subst hn0
    clear h hn
    go_enter Try.func15, Try.ntmps15
    go_wp2_with fail
    go_ret
    exact ⟨_, rfl, World.ownsRow_nil _ _ _ _, Below.refl _ _⟩
  | some ad =>
    have HR := Lib.hid h.reads
    have HN := Lib.hid hn; clear hn h
    go_enter Try.func15, Try.ntmps15
    go_wp2_with (at_builtin; refine wpList_append_any _ rfl (.tmp 5) (.tmp 6) _ rfl w.heap.size 3 i0 _ 1 8 Try.underlying22 hi0 hz0 hz1 hz2 rfl (by omega) _ 0 [] rfl (Blk.owns (Blk.new _ _ _) (Nat.le_refl _)) w.heap.size (some ad) n c (cellsI xs) rfl (by rw [HN.out]; exact HR.out.alloc (Nat.le_refl _) _) (cellsI_oneCell xs) (by unfold maxLen; omega) (by omega) (by simp) ?_; intro v2 w2 hown2 hg2 hat2)
    go_ret
    refine ⟨_, rfl, by simpa using hown2, ?_⟩
    exact ((Below.refl _ _).alloc (Nat.le_refl _) _).grown hg2 (by simp) (by intro k hk; cases hk; exact Nat.le_refl _)
theorem cloneB_big (xs : List Bool) (A : Option Addr) (n c : Nat) (w : World) (hn : n = xs.length) (hm : n * 1 ≤ 140737488351232) (h : BoolsAt w w.heap.size A xs) :
    Calls Try.prog 16 #[.slice A n c] w (ClonePost 4 n (cellsB xs) w) := by
  have hnil := fun W => Lib.run_eql_slice_nil (P := Try.prog) W 23 4 A n c 0 0 Try.underlying23
  obtain ⟨i0, hi0, hz0, hz1, hz2⟩ := info_parts infoBo
  cases A with
  | none =>
    have hus : xs = [] := by
      cases xs with
      | nil => rfl
      | cons a l => obtain ⟨b, off, hA, _⟩ := h 0 a rfl; cases hA
    subst hus
    have hn0 : n = 0 := hn
    subst hn0
    clear h hn
    go_enter Try.func16, Try.ntmps16
    go_wp2_with fail
    go_ret
    exact ⟨_, rfl, World.ownsRow_nil _ _ _ _, Below.refl _ _⟩
  | some ad =>
    have HR := Lib.hid h.reads
    have HN := Lib.hid hn; clear hn h
    go_enter Try.func16, Try.ntmps16
    go_wp2_with (at_builtin; refine wpList_append_any _ rfl (.tmp 5) (.tmp 6) _ rfl w.heap.size 4 i0 _ 1 1 Try.underlying23 hi0 hz0 hz1 hz2 rfl (by omega) _ 0 [] rfl (Blk.owns (Blk.new _ _ _) (Nat.le_refl _)) w.heap.size (some ad) n c (cellsB xs) rfl (by rw [HN.out]; exact HR.out.alloc (Nat.le_refl _) _) (cellsB_oneCell xs) (by unfold maxLen; omega) (by omega) (by simp) ?_; intro v2 w2 hown2 hg2 hat2)
    go_ret
    refine ⟨_, rfl, by simpa using hown2, ?_⟩
    exact ((Below.refl _ _).alloc (Nat.le_refl _) _).grown hg2 (by simp) (by intro k hk; cases hk; exact Nat.le_refl _)
set_option maxHeartbeats 8000000 in
set_option maxRecDepth 20000 in
theorem copy_big (d : Wd) (r : Raw) (w : World) (h : WOk w r d) (hs1 : r.n1 * 8 ≤ 140737488351232) (hs2 : r.n2 * 1 ≤ 140737488351232) (hs3 : r.n3 * 8 ≤ 140737488351232) :
    Calls Try.prog 47 #[wv d.sl r] w (CopyPost d r w) := by
  have HC1 := Lib.hid (fun W (hb : Below w.heap.size w W) => cloneI_big d.pl r.A1 r.n1 r.c1 W h.h1 hs1 (h.i1.next hb))
  have HC2 := Lib.hid (fun W (hb : Below w.heap.size w W) => cloneB_big d.se r.A2 r.n2 r.c2 W h.h2 hs2 (h.i2.next hb))
  have HC3 := Lib.hid (fun W (hb : Below w.heap.size w W) => cloneI_big d.sp r.A3 r.n3 r.c3 W h.h3 hs3 (h.i3.next hb))
  have HS := Lib.hid (CpS.start w d.sl r)
  clear h
  unfold ClonePost at HC1 HC2 HC3
  obtain ⟨A1, n1, c1, A2, n2, c2, A3, n3, c3⟩ := r
  unfold wv wcs
  unfold wcs at HS
  dsimp only at HC1 HC2 HC3 HS ⊢
  go_enter Try.func47, Try.ntmps47
  go_wp2_with fail
  have hS := HS.out
  generalize World.alloc (World.alloc w _) _ = w1 at *
  go_region_held3 (fun w' => w'.cell? ⟨w.heap.size, 0, none⟩ = some (.int .i64 d.sl) ∧ w'.cell? ⟨w.heap.size, 1, none⟩ = some (.slice A1 n1 c1) ∧ w'.cell? ⟨w.heap.size, 2, none⟩ = some (.slice A2 n2 c2) ∧ w'.cell? ⟨w.heap.size, 3, none⟩ = some (.slice A3 n3 c3) ∧ CpS w d.sl ⟨A1, n1, c1, A2, n2, c2, A3, n3, c3⟩ w')
    (first | exact CpS.all (by assumption) | exact CpS.all (CpS.drew (by assumption)) | exact CpS.all (CpS.store hS7 _ _ _ _))
    (first
      | (go_at_call 16
         (with_reducible refine (HC2.out _ (CpS.bel (by first | assumption | exact CpS.drew (by assumption) | (go_split_ands; assumption)))).mono ?_)
         rintro e w6 ⟨v6, rfl, ho6, hb6⟩
         have hS6 := CpS.next (by first | assumption | exact CpS.drew (by assumption) | (go_split_ands; assumption)) hb6
         have hR2 := Rws.more (by first | exact hR1 | exact Rws.drew hR1) hb6 ho6
         obtain ⟨hn6, A6, c6, rfl, _, _, _⟩ := BoolsAt.of_own ho6
         clear hn6)
      | (go_at_call 15
         (with_reducible refine (HC3.out _ (CpS.bel (by first | assumption | exact CpS.drew (by assumption) | (go_split_ands; assumption)))).mono ?_)
         rintro e w7 ⟨v7, rfl, ho7, hb7⟩
         have hS7 := CpS.next (by first | assumption | exact CpS.drew (by assumption) | (go_split_ands; assumption)) hb7
         have hR3 := Rws.more (by first | exact hR2 | exact Rws.drew hR2) hb7 ho7
         obtain ⟨hn7, A7, c7, rfl, _, _, _⟩ := IntsAt.of_ownN ho7
         clear hn7
         obtain ⟨x0, y0, z0, u0, ⟨q0, q1, q2, q3⟩, q4, q5, q6, q7⟩ := hS7.room)
      | (go_at_call 15
         (with_reducible refine (HC1.out _ (CpS.bel (by first | assumption | exact CpS.drew (by assumption) | (go_split_ands; assumption)))).mono ?_)
         rintro e w5 ⟨v5, rfl, ho5, hb5⟩
         have hS5 := CpS.next (by first | assumption | exact CpS.drew (by assumption) | (go_split_ands; assumption)) hb5
         have hR1 := Rws.more (Rws.begin (CpS.bel (by first | assumption | exact CpS.drew (by assumption) | (go_split_ands; assumption)))) hb5 ho5
         obtain ⟨hn5, A5, c5, rfl, _, _, _⟩ := IntsAt.of_ownN ho5
         clear hn5))
  all_goals
    have HR3 := Lib.hid (Rws.res (r' := ⟨A5, n1, c5, A6, n2, c6, A7, n3, c7⟩) hS7 hR3 (.int .i64 d.sl) (.slice A5 n1 c5) (.slice A6 n2 c6) (.slice A7 n3 c7))
    have HBR := Lib.hid (CpS.stored hS7 (.int .i64 d.sl) (.slice A5 n1 c5) (.slice A6 n2 c6) (.slice A7 n3 c7))
    clear hR1 hR2 hR3 hS5 hS6 hS7 ho5 ho6 ho7 hb5 hb6 hb7 q0 q1 q2 q3 q4 q5 q6 q7
    go_wp2_with fail
    exact ret_blk1 rfl rfl rfl HBR.out (n := 4) rfl (by kernel_rfl) ⟨⟨A5, n1, c5, A6, n2, c6, A7, n3, c7⟩, rfl, rfl, rfl, rfl, HR3.out⟩
set_option maxHeartbeats 2000000 in
set_option maxRecDepth 20000 in
theorem asame_any (d e : Wd) (r q : Raw) (w : World) (h : WOk w r d) (h' : WOk w q e) :
    Calls Try.prog 46 #[wv d.sl r, wv e.sl q] w fun x w' => x = .returned (.bool (decide (d = e))) ∧ Below w.heap.size w w' := by
  have HS0 := Lib.hid (W2S.start w d.sl e.sl r q)
  have HE1 := Lib.hid (fun W (hb : Below w.heap.size w W) => equalI_any d.pl e.pl r.A1 q.A1 r.n1 q.n1 r.c1 q.c1 W h.h1 h'.h1 (by have := h.l1; have := h.m1; omega) (by have := h'.l1; have := h'.m1; omega) (h.next hb).i1 (h'.next hb).i1 rfl)
  have HE2 := Lib.hid (fun W (hb : Below w.heap.size w W) => equalB_any d.se e.se r.A2 q.A2 r.n2 q.n2 r.c2 q.c2 W h.h2 h'.h2 (by have := h.l2; have := h.m2; omega) (by have := h'.l2; have := h'.m2; omega) (h.next hb).i2 (h'.next hb).i2 rfl)
  have HE3 := Lib.hid (fun W (hb : Below w.heap.size w W) => equalI_any d.sp e.sp r.A3 q.A3 r.n3 q.n3 r.c3 q.c3 W h.h3 h'.h3 (by have := h.l3; have := h.m3; omega) (by have := h'.l3; have := h'.m3; omega) (h.next hb).i3 (h'.next hb).i3 rfl)
  have HEQ := Lib.hid (wd_eq (d := d) (e := e))
  clear h h'
  by_cases a1 : d.sl = e.sl
  · skip
    by_cases a2 : d.pl = e.pl
    · skip
      by_cases a3 : d.se = e.se
      · skip
        by_cases a4 : d.sp = e.sp
        · skip
          have HD : decide (d = e) = true := decide_eq_true (HEQ.out.2 ⟨a1, a2, a3, a4⟩)
          rw [HD]
          rw [decide_eq_true a2] at HE1
          rw [decide_eq_true a3] at HE2
          rw [decide_eq_true a4] at HE3
          clear HD HEQ
          obtain ⟨A1, n1, c1, A2, n2, c2, A3, n3, c3⟩ := r
          obtain ⟨B1, m1, b1, B2, m2, b2, B3, m3, b3⟩ := q
          unfold wv wcs
          unfold wcs at HS0
          dsimp only at HS0 HE1 HE2 HE3 ⊢
          generalize d.sl = sd at *
          generalize e.sl = se at *
          subst a1
          clear a2 a3 a4
          go_enter Try.func46, Try.ntmps46
          go_wp2_with fail
          generalize World.alloc (World.alloc w _) _ = w1 at *
          obtain ⟨k0, k1, k2, k3, g0, g1, g2, g3⟩ := HS0.out.all
          dsimp only at k0 k1 k2 k3 g0 g1 g2 g3
          go_wp2_with fail
          refine (HE1.out _ HS0.out.bel).mono ?_
          rintro e0 w2 ⟨rfl, hb⟩
          have HS1 := Lib.hid (HS0.out.next hb)
          clear hb HS0 k0 k1 k2 k3 g0 g1 g2 g3
          have HS0 := HS1
          clear HS1
          obtain ⟨k0, k1, k2, k3, g0, g1, g2, g3⟩ := HS0.out.all
          dsimp only at k0 k1 k2 k3 g0 g1 g2 g3
          go_wp2_with fail
          refine (HE2.out _ HS0.out.bel).mono ?_
          rintro e0 w3 ⟨rfl, hb⟩
          have HS1 := Lib.hid (HS0.out.next hb)
          clear hb HS0 k0 k1 k2 k3 g0 g1 g2 g3
          have HS0 := HS1
          clear HS1
          obtain ⟨k0, k1, k2, k3, g0, g1, g2, g3⟩ := HS0.out.all
          dsimp only at k0 k1 k2 k3 g0 g1 g2 g3
          go_wp2_with fail
          refine (HE3.out _ HS0.out.bel).mono ?_
          rintro e0 w4 ⟨rfl, hb⟩
          have HS1 := Lib.hid (HS0.out.next hb)
          clear hb HS0 k0 k1 k2 k3 g0 g1 g2 g3
          have HS0 := HS1
          clear HS1
          obtain ⟨k0, k1, k2, k3, g0, g1, g2, g3⟩ := HS0.out.all
          dsimp only at k0 k1 k2 k3 g0 g1 g2 g3
          go_wp2_with fail
          go_ret
          exact ⟨rfl, HS0.out.bel⟩
        · skip
          have HD : decide (d = e) = false := decide_eq_false fun h9 => a4 (HEQ.out.1 h9).2.2.2
          rw [HD]
          rw [decide_eq_true a2] at HE1
          rw [decide_eq_true a3] at HE2
          rw [decide_eq_false a4] at HE3
          clear HD HEQ
          obtain ⟨A1, n1, c1, A2, n2, c2, A3, n3, c3⟩ := r
          obtain ⟨B1, m1, b1, B2, m2, b2, B3, m3, b3⟩ := q
          unfold wv wcs
          unfold wcs at HS0
          dsimp only at HS0 HE1 HE2 HE3 ⊢
          generalize d.sl = sd at *
          generalize e.sl = se at *
          subst a1
          clear a2 a3 a4
          go_enter Try.func46, Try.ntmps46
          go_wp2_with fail
          generalize World.alloc (World.alloc w _) _ = w1 at *
          obtain ⟨k0, k1, k2, k3, g0, g1, g2, g3⟩ := HS0.out.all
          dsimp only at k0 k1 k2 k3 g0 g1 g2 g3
          go_wp2_with fail
          refine (HE1.out _ HS0.out.bel).mono ?_
          rintro e0 w2 ⟨rfl, hb⟩
          have HS1 := Lib.hid (HS0.out.next hb)
          clear hb HS0 k0 k1 k2 k3 g0 g1 g2 g3
          have HS0 := HS1
          clear HS1
          obtain ⟨k0, k1, k2, k3, g0, g1, g2, g3⟩ := HS0.out.all
          dsimp only at k0 k1 k2 k3 g0 g1 g2 g3
          go_wp2_with fail
          refine (HE2.out _ HS0.out.bel).mono ?_
          rintro e0 w3 ⟨rfl, hb⟩
          have HS1 := Lib.hid (HS0.out.next hb)
          clear hb HS0 k0 k1 k2 k3 g0 g1 g2 g3
          have HS0 := HS1
          clear HS1
          obtain ⟨k0, k1, k2, k3, g0, g1, g2, g3⟩ := HS0.out.all
          dsimp only at k0 k1 k2 k3 g0 g1 g2 g3
          go_wp2_with fail
          refine (HE3.out _ HS0.out.bel).mono ?_
          rintro e0 w4 ⟨rfl, hb⟩
          have HS1 := Lib.hid (HS0.out.next hb)
          clear hb HS0 k0 k1 k2 k3 g0 g1 g2 g3
          have HS0 := HS1
          clear HS1
          obtain ⟨k0, k1, k2, k3, g0, g1, g2, g3⟩ := HS0.out.all
          dsimp only at k0 k1 k2 k3 g0 g1 g2 g3
          go_wp2_with fail
          go_ret
          exact ⟨rfl, HS0.out.bel⟩
      · skip
        have HD : decide (d = e) = false := decide_eq_false fun h9 => a3 (HEQ.out.1 h9).2.2.1
        rw [HD]
        rw [decide_eq_true a2] at HE1
        rw [decide_eq_false a3] at HE2
        clear HD HEQ
        obtain ⟨A1, n1, c1, A2, n2, c2, A3, n3, c3⟩ := r
        obtain ⟨B1, m1, b1, B2, m2, b2, B3, m3, b3⟩ := q
        unfold wv wcs
        unfold wcs at HS0
        dsimp only at HS0 HE1 HE2 HE3 ⊢
        generalize d.sl = sd at *
        generalize e.sl = se at *
        subst a1
        clear a2 a3
        go_enter Try.func46, Try.ntmps46
        go_wp2_with fail
        generalize World.alloc (World.alloc w _) _ = w1 at *
        obtain ⟨k0, k1, k2, k3, g0, g1, g2, g3⟩ := HS0.out.all
        dsimp only at k0 k1 k2 k3 g0 g1 g2 g3
        go_wp2_with fail
        refine (HE1.out _ HS0.out.bel).mono ?_
        rintro e0 w2 ⟨rfl, hb⟩
        have HS1 := Lib.hid (HS0.out.next hb)
        clear hb HS0 k0 k1 k2 k3 g0 g1 g2 g3
        have HS0 := HS1
        clear HS1
        obtain ⟨k0, k1, k2, k3, g0, g1, g2, g3⟩ := HS0.out.all
        dsimp only at k0 k1 k2 k3 g0 g1 g2 g3
        go_wp2_with fail
        refine (HE2.out _ HS0.out.bel).mono ?_
        rintro e0 w3 ⟨rfl, hb⟩
        have HS1 := Lib.hid (HS0.out.next hb)
        clear hb HS0 k0 k1 k2 k3 g0 g1 g2 g3
        have HS0 := HS1
        clear HS1
        obtain ⟨k0, k1, k2, k3, g0, g1, g2, g3⟩ := HS0.out.all
        dsimp only at k0 k1 k2 k3 g0 g1 g2 g3
        go_wp2_with fail
        go_ret
        exact ⟨rfl, HS0.out.bel⟩
    · skip
      have HD : decide (d = e) = false := decide_eq_false fun h9 => a2 (HEQ.out.1 h9).2.1
      rw [HD]
      rw [decide_eq_false a2] at HE1
      clear HD HEQ
      obtain ⟨A1, n1, c1, A2, n2, c2, A3, n3, c3⟩ := r
      obtain ⟨B1, m1, b1, B2, m2, b2, B3, m3, b3⟩ := q
      unfold wv wcs
      unfold wcs at HS0
      dsimp only at HS0 HE1 HE2 HE3 ⊢
      generalize d.sl = sd at *
      generalize e.sl = se at *
      subst a1
      clear a2
      go_enter Try.func46, Try.ntmps46
      go_wp2_with fail
      generalize World.alloc (World.alloc w _) _ = w1 at *
      obtain ⟨k0, k1, k2, k3, g0, g1, g2, g3⟩ := HS0.out.all
      dsimp only at k0 k1 k2 k3 g0 g1 g2 g3
      go_wp2_with fail
      refine (HE1.out _ HS0.out.bel).mono ?_
      rintro e0 w2 ⟨rfl, hb⟩
      have HS1 := Lib.hid (HS0.out.next hb)
      clear hb HS0 k0 k1 k2 k3 g0 g1 g2 g3
      have HS0 := HS1
      clear HS1
      obtain ⟨k0, k1, k2, k3, g0, g1, g2, g3⟩ := HS0.out.all
      dsimp only at k0 k1 k2 k3 g0 g1 g2 g3
      go_wp2_with fail
      go_ret
      exact ⟨rfl, HS0.out.bel⟩
  · skip
    have HD : decide (d = e) = false := decide_eq_false fun h9 => a1 (HEQ.out.1 h9).1
    rw [HD]
    clear HD HEQ
    obtain ⟨A1, n1, c1, A2, n2, c2, A3, n3, c3⟩ := r
    obtain ⟨B1, m1, b1, B2, m2, b2, B3, m3, b3⟩ := q
    unfold wv wcs
    unfold wcs at HS0
    dsimp only at HS0 HE1 HE2 HE3 ⊢
    generalize d.sl = sd at *
    generalize e.sl = se at *
    have hq : (sd == se) = false := by simpa using a1
    clear a1
    go_enter Try.func46, Try.ntmps46
    go_wp2_with fail
    generalize World.alloc (World.alloc w _) _ = w1 at *
    obtain ⟨k0, k1, k2, k3, g0, g1, g2, g3⟩ := HS0.out.all
    dsimp only at k0 k1 k2 k3 g0 g1 g2 g3
    go_wp2_with fail
    go_ret
    exact ⟨rfl, HS0.out.bel⟩
end Go.Proofs.Ytnaiflokmihmeaa
