/- Walks: Book (package tools). -/
import Derived.Test.YtkoibebejhmpaaaToolsA
import Derived.Test.YtkoibebejhmpaaaToolsM
import Derived.Deep.RegionHeld3
import Derived.WalkSpells
namespace Go.Proofs.Ytkoibebejhmpaaa
open Go.RowKit
set_option linter.unusedVariables false
set_option linter.unusedSimpArgs false

theorem infoUse : (Try.prog.info? 29).map (fun i => (i.zero, i.size, i.bytes)) = some (some (.agg #[.int .i64 0, .int .i64 0, .int .i64 0]), 3, 24) := by kernel_rfl

def bookErr (us : List U) (u : U) : Int := if chk us ≠ 0 then chk us else chk (us ++ [u])
def BookPost (us : List U) (u : U) (w : World) (e : Ending) (w' : World) : Prop :=
  ∃ v, e = .returned (.tuple #[v, .int .i64 (bookErr us u)]) ∧ Below w.heap.size w w' ∧ ((bookErr us u ≠ 0 ∧ v = .slice none 0 0) ∨ (bookErr us u = 0 ∧ w'.ownsRow w.heap.size 29 3 v (us ++ [u]).length (cellsU (us ++ [u]))))

set_option maxHeartbeats 400000 in
theorem book_any (us : List U) (A : Option Addr) (n c : Nat) (u : U) (w : World) (hn : n = us.length) (hnc : n ≤ c) (hm : c ≤ maxLen) (h : UsesAt w w.heap.size A us) :
    Calls Try.prog 14 #[.slice A n c, u.v] w (BookPost us u w) := by
  have HC := Lib.hid (fun W (hw : Below w.heap.size w W) => check_any us A n c W hn hnc hm ((h.below hw (Nat.le_refl _)).more hw.size))
  have HN := Lib.hid hn; clear hn
  have H := Lib.hid h; clear h
  have HM := Lib.hid hm; clear hm
  by_cases hchk : chk us = 0
  · have h60 := (chk_zero hchk).1
    rw [← HN.out] at h60
    have HCHK := Lib.hid hchk; clear hchk
    obtain ⟨i0, hi0, hz0, hz1, hz2⟩ := info_parts infoUse
    go_enter Try.func14, Try.ntmps14
    go_wp2_with fail
    refine (HC.out _ ((Below.refl _ _).alloc (Nat.le_refl _) _)).mono ?_
    rw [HCHK.out]
    rintro e w1 ⟨rfl, hb1⟩
    have hblk : Blk w1 w.heap.size 29 #[.int .i64 u.t, .int .i64 u.f, .int .i64 u.l] := (Blk.new w _ _).belowB hb1
    have e0 : w1.cell? ⟨w.heap.size, 0, none⟩ = some (.int .i64 u.t) := hblk.cell 0
    have e1 : w1.cell? ⟨w.heap.size, 1, none⟩ = some (.int .i64 u.f) := hblk.cell 1
    have e2 : w1.cell? ⟨w.heap.size, 2, none⟩ = some (.int .i64 u.l) := hblk.cell 2
    have hz : w.heap.size < w1.heap.size := hblk.lt
    have HR : Hid (Reads w1 w.heap.size 3 A n (cellsU us)) := by rw [HN.out]; exact ((H.out.reads).alloc (Nat.le_refl _) _).below (hb1.mono (by simp))
    go_wp2_with fail
    go_region_held3 (fun w' => w'.cell? ⟨w.heap.size, 0, none⟩ = some (.int .i64 u.t) ∧ w'.cell? ⟨w.heap.size, 1, none⟩ = some (.int .i64 u.f) ∧ w'.cell? ⟨w.heap.size, 2, none⟩ = some (.int .i64 u.l))
      (go_keep)
      (first
        | (refine step_append_any _ rfl (.tmp 16) (.tmp 18) _ rfl (w.heap.size + 1) 29 i0 _ 3 24 Try.underlying22 hi0 hz0 hz1 hz2 rfl (by omega) v2 (0 + n) ([] ++ cellsU us) rfl (by first | exact hown2 | exact hown2.alloc _) _ _ 1 1 (cellsU [u]) rfl (Blk.reads (t := 29) (cs := #[.int .i64 u.t, .int .i64 u.f, .int .i64 u.l]) (by first | exact Blk.new _ _ _ | exact Blk.grown (by first | exact Blk.new _ _ _ | exact (Blk.at_ (by simp)).drew | exact (Blk.new _ _ _).alloc _) hg2 (fun h => by have h' := Option.some.inj h; first | omega | (simp at h'; done) | (simp at h'; omega))) rfl rfl) (cellsU_oneCell _) (by unfold maxLen; omega) (by omega) (by have := hg2.size; simp at this; first | omega | (simp; omega)) ?_
           intro v3 w3 hown3 hg3 hat3
           have hlt2 := hown2.lt
           have hb3 := below_of_grown (B := w.heap.size + 1) hg3 (by have := hg2.size; simp at this; first | omega | (simp; omega)) (fun k hk => (hlt2 k hk).1)
           obtain ⟨r0, r1, r2⟩ := cells3_below hb3 (b := w.heap.size) (x := .int .i64 u.t) (y := .int .i64 u.f) (z := .int .i64 u.l) (by omega) (by simp [*]) (by simp [*]) (by simp [*]))
        | (go_must (refine step_append_any _ rfl (.tmp 14) (.tmp 15) _ rfl (w.heap.size + 1) 29 i0 _ 3 24 Try.underlying22 hi0 hz0 hz1 hz2 rfl (by omega) _ 0 [] rfl (Blk.owns (by first | exact Blk.new _ _ _ | exact (Blk.at_ (by simp)).drew | exact (Blk.new _ _ _).alloc _) (by first | omega | (simp; omega))) w.heap.size A n c (cellsU us) rfl (by first | exact HR.out.alloc (by omega) _ | exact (HR.out.alloc (by omega) _).alloc (by simp; omega) _) (cellsU_oneCell us) (by unfold maxLen; omega) (by omega) (by first | omega | (simp; omega)) ?_)
           intro v2 w2 hown2 hg2 hat2
           have hb2 := below_of_grown (B := w.heap.size + 1) hg2 (by first | omega | (simp; omega)) (by intro k hk; cases hk; first | omega | (simp; omega))
           obtain ⟨q0, q1, q2⟩ := cells3_below hb2 (b := w.heap.size) (x := .int .i64 u.t) (y := .int .i64 u.f) (z := .int .i64 u.l) (by omega) (by simp [*]) (by simp [*]) (by simp [*]))
        | fail)
    all_goals
      have hbw1 : Below w.heap.size w w1 := ((Below.refl _ _).alloc (Nat.le_refl _) _).trans (hb1.mono (by simp))
      have hbw2 : Below w.heap.size w w2 := (hbw1.trans (by first | exact ((Below.refl w.heap.size w1).alloc (by omega) (.cells #[] 29)).drew | exact (((Below.refl w.heap.size w1).alloc (by omega) (.cells #[] 29)).alloc (by simp; omega) (.cells #[.int .i64 u.t, .int .i64 u.f, .int .i64 u.l] 29)).drew | exact (((Below.refl w.heap.size w1).alloc (by omega) (.cells #[.int .i64 u.t, .int .i64 u.f, .int .i64 u.l] 29)).alloc (by simp; omega) (.cells #[] 29)).drew)).trans (hb2.mono (by omega))
      have hbw3 : Below w.heap.size w w3 := (hbw2.trans (by first | exact Below.refl _ _ | exact (Below.refl _ _).alloc hbw2.size _)).trans (hb3.mono (by omega))
      have hown : w3.ownsRow w.heap.size 29 3 v3 (us ++ [u]).length (cellsU (us ++ [u])) := by
        have e1 : (us ++ [u]).length = 0 + n + 1 := by simp [HN.out]
        rw [e1, cellsU_append]
        obtain ⟨a1, a2⟩ := hown3
        refine ⟨by simpa using a1, ?_⟩
        rcases a2 with a2 | ⟨g, cap, cur, b1, b2, b3⟩
        · exact .inl a2
        · exact .inr ⟨g, cap, cur, b1, by omega, by simpa using b3⟩
      obtain ⟨A3, c3, rfl, hl3, hm3, hu3⟩ := UsesAt.of_own hown
      have HOWN := Lib.hid hown
      have HU3 := Lib.hid hu3
      clear hown3 hg3 hat3 hown2 hg2 hat2 hown hu3 q0 q1 q2 r0 r1 r2 e0 e1 e2
      have hbe : bookErr us u = chk (us ++ [u]) := by simp [bookErr, HCHK.out]
      have HBE := Lib.hid hbe; clear hbe
      generalize hnn : (us ++ [u]).length = nn at *
      have HNN := Lib.hid hnn.symm; clear hnn
      by_cases hc2 : chk (us ++ [u]) = 0
      · have HC2 := Lib.hid hc2; clear hc2
        go_wp2_with fail
        refine (check_any (us ++ [u]) _ _ _ _ HNN.out hl3 hm3 HU3.out).mono ?_
        rw [HC2.out]
        rintro e w4 ⟨rfl, hb4⟩
        go_wp2_with fail
        go_ret2
        refine ⟨_, by rw [HBE.out, HC2.out]; rfl, hbw3.trans (hb4.mono hbw3.size), .inr ⟨by rw [HBE.out, HC2.out], ?_⟩⟩
        rw [← HNN.out]
        exact own_below HOWN.out hb4
      · have hc3 : (chk (us ++ [u]) != 0) = true := by simpa using hc2
        generalize hcc : chk (us ++ [u]) = cc at *
        have HCC := Lib.hid hcc; clear hcc
        have HC2 := Lib.hid hc2; clear hc2
        go_wp2_with fail
        refine (check_any (us ++ [u]) _ _ _ _ HNN.out hl3 hm3 HU3.out).mono ?_
        rw [HCC.out]
        rintro e w4 ⟨rfl, hb4⟩
        go_wp2_with fail
        go_ret2
        exact ⟨_, by rw [HBE.out, ← HCC.out]; rfl, hbw3.trans (hb4.mono hbw3.size), .inl ⟨by rw [HBE.out]; exact HC2.out, rfl⟩⟩
  · have hb : (chk us != 0) = true := by simpa using hchk
    have hbe : bookErr us u = chk us := by simp [bookErr, hchk]
    generalize hcc : chk us = cc at *
    have HBE := Lib.hid hbe; clear hbe
    have HCC := Lib.hid hcc; clear hcc
    have HCHK := Lib.hid hchk; clear hchk
    go_enter Try.func14, Try.ntmps14
    go_wp2_with fail
    refine (HC.out _ ((Below.refl _ _).alloc (Nat.le_refl _) _)).mono ?_
    rintro e w1 ⟨rfl, hb1⟩
    go_wp2_with fail
    go_ret2
    exact ⟨_, by rw [HBE.out]; rfl, ((Below.refl _ _).alloc (Nat.le_refl _) _).trans (hb1.mono (by simp)), .inl ⟨by rw [HBE.out]; exact HCHK.out, rfl⟩⟩
end Go.Proofs.Ytkoibebejhmpaaa
