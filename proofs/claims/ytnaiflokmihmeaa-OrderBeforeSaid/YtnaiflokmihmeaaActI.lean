/- Walk: WorldFault (reference). -/
import Derived.Test.YtnaiflokmihmeaaMgI
import Derived.Test.YtnaiflokmihmeaaMgC
namespace Go.Proofs.Ytnaiflokmihmeaa
open Go.RowKit
set_option linter.unusedVariables false
set_option linter.unusedSimpArgs false

abbrev encI (x : Int) : Value := .int .i64 x
theorem kIntB : KLaw Try.prog 3 encI := klaw_int Try.underlying3
theorem zBo (w : World) : (zeroValue 4).run Try.prog w = .ok (.bool false) w := by kernel_rfl
/-- a world in a variable, and two sets of numbers -/
structure WFS (w : World) (sl : Int) (r : Raw) (sP sS : List Int) (wr : World) : Prop where
  bel : Below w.heap.size w wr
  one : Blk wr w.heap.size 25 (wcs sl r)
  pm : SetN encI wr (w.heap.size + 1) sP
  sm : SetN encI wr (w.heap.size + 2) sS
section
variable {w wr w' : World} {sl : Int} {r : Raw} {sP sS : List Int}
theorem WFS.start (w : World) (sl : Int) (r : Raw) : WFS w sl r [] [] (((w.alloc (.cells (wcs sl r) 25)).alloc (.map #[] 0)).alloc (.map #[] 0)) := by
  have hz : ((w.alloc (.cells (wcs sl r) 25))).heap.size = w.heap.size + 1 := by simp
  have hz2 : (((w.alloc (.cells (wcs sl r) 25)).alloc (.map #[] 0))).heap.size = w.heap.size + 2 := by simp
  refine ⟨(((Below.refl _ _).alloc (Nat.le_refl _) _).alloc (by simp) _).alloc (by simp; omega) _, ((Blk.new _ _ _).alloc _).alloc _, ?_, ?_⟩
  · have h := (SetN.made (enc := encI) (w.alloc (.cells (wcs sl r) 25))).alloc (.map #[] 0)
    rwa [hz] at h
  · have h := SetN.made (enc := encI) ((w.alloc (.cells (wcs sl r) 25)).alloc (.map #[] 0))
    rwa [hz2] at h
theorem WFS.cells (h : WFS w sl r sP sS wr) : wr.cell? ⟨w.heap.size, 0, none⟩ = some (.int .i64 sl) ∧ wr.cell? ⟨w.heap.size, 1, none⟩ = some (.slice r.A1 r.n1 r.c1) ∧ wr.cell? ⟨w.heap.size, 2, none⟩ = some (.slice r.A2 r.n2 r.c2) ∧ wr.cell? ⟨w.heap.size, 3, none⟩ = some (.slice r.A3 r.n3 r.c3) := ⟨h.one.cell 0, h.one.cell 1, h.one.cell 2, h.one.cell 3⟩
theorem WFS.putP (h : WFS w sl r sP sS wr) {s' : List Int} (hs : SetN encI w' (w.heap.size + 1) s') (hg : wr.grownBy w' (some (w.heap.size + 1))) : WFS w sl r s' sS w' :=
  ⟨h.bel.grown hg h.bel.size (fun k hk => by cases hk; omega), h.one.grown hg (fun e => by injection e with e; omega), hs, h.sm.grown hg (fun e => by injection e with e; omega)⟩
theorem WFS.putS (h : WFS w sl r sP sS wr) {s' : List Int} (hs : SetN encI w' (w.heap.size + 2) s') (hg : wr.grownBy w' (some (w.heap.size + 2))) : WFS w sl r sP s' w' :=
  ⟨h.bel.grown hg h.bel.size (fun k hk => by cases hk; omega), h.one.grown hg (fun e => by injection e with e; omega), h.pm.grown hg (fun e => by injection e with e; omega), hs⟩
end
theorem mem_take_succ {xs : List Int} {j : Nat} {x : Int} (h : xs[j]? = some x) (y : Int) : y ∈ xs.take (j + 1) ↔ y ∈ xs.take j ∨ y = x := by
  rw [List.take_add_one, h, List.mem_append]; simp

set_option maxHeartbeats 4000000 in
set_option maxRecDepth 20000 in
theorem wfault_any (d : Wd) (r : Raw) (w : World) (h : WOk w r d) (hlo : ∀ x ∈ d.pl, -9223372036854775808 ≤ x) : Calls Try.prog 14 #[wv d.sl r] w fun e w' => e = .returned (.int .i64 (wErr d)) ∧ Below w.heap.size w w' := by
  have HB := Lib.hid (wboxed w d.sl r)
  have HFS := Lib.hid (WFS.start w d.sl r)
  have HLO := Lib.hid hlo
  have H1 := Lib.hid h.h1
  have H2 := Lib.hid h.h2
  have H3 := Lib.hid h.h3
  have I1 := Lib.hid h.i1
  have I3 := Lib.hid h.i3
  have m1 := Nat.le_trans h.l1 h.m1
  have m2 := Nat.le_trans h.l2 h.m2
  have m3 := Nat.le_trans h.l3 h.m3
  clear h hlo
  obtain ⟨A1, n1, c1, A2, n2, c2, A3, n3, c3⟩ := r
  dsimp only at m1 m2 m3
  by_cases hbad : d.sl < 0 ∨ (0 ≤ d.sl ∧ 8 < d.sl) ∨ (0 ≤ d.sl ∧ d.sl ≤ 8 ∧ 6 < (n1 : Int)) ∨ (0 ≤ d.sl ∧ d.sl ≤ 8 ∧ (n1 : Int) ≤ 6 ∧ 4 < (n3 : Int))
  · have HV := Lib.hid (wErr_2 (d := d) (by
      unfold Bad
      have e1 := H1.out
      have e3 := H3.out
      dsimp only at e1 e3
      rw [← e1, ← e3]; omega))
    unfold wv wcs
    unfold wcs at HB
    dsimp only at HB H1 H2 H3 I1 I3 ⊢
    generalize d.sl = sl at *
    rcases hbad with h | ⟨h, h'⟩ | ⟨h, h', h''⟩ | ⟨h, h', h'', h'''⟩
    all_goals
      go_enter Try.func14, Try.ntmps14
      go_wp2_with fail
      go_ret
      exact ⟨ret_int HV.out.symm, HB.out.1⟩
  · have hs0 : 0 ≤ d.sl := by omega
    have hs8 : d.sl ≤ 8 := by omega
    have hn1 : (n1 : Int) ≤ 6 := by omega
    have hn3 : (n3 : Int) ≤ 4 := by omega
    have HNB : Hid (¬ Bad d) := Lib.hid (by
      unfold Bad
      have e1 := H1.out
      have e3 := H3.out
      dsimp only at e1 e3
      rw [← e1, ← e3]; omega)
    clear hbad
    by_cases h2 : n2 = n1
    · subst h2
      have HSE : Hid (d.se.length = d.pl.length) := Lib.hid (by have e1 := H1.out; have e2 := H2.out; dsimp only at e1 e2; omega)
      have hne : ((n2 : Int) != (n2 : Int)) = false := by simp
      have HDS : Hid (∃ s, s = d.sl) := Lib.hid ⟨_, rfl⟩
      unfold wv wcs
      unfold wcs at HFS
      dsimp only at HFS H1 H2 H3 I1 I3 ⊢
      obtain ⟨sl, hsl⟩ := HDS.out
      have HSL := Lib.hid hsl
      rw [← hsl] at HFS hs0 hs8 ⊢
      clear hsl HDS HB
      have hw1 := i64_w (8 + (n2 : Int)) (by omega) (by omega)
      have hmm := @run_makeMap Try.prog
      go_enter Try.func14, Try.ntmps14
      go_wp2_with fail
      clear hmm
      go_loopg [42] n2 (fun kx i wr => ∃ (j : Nat) (sP : List Int), kx = n2 - j ∧ j ≤ n2 ∧ i = .int .i64 j ∧ Hid (WFS w sl ⟨A1, n2, c1, A2, n2, c2, A3, n3, c3⟩ sP [] wr) ∧ Hid (∀ y, y ∈ sP ↔ y ∈ d.pl.take j ∧ y ≠ -1) ∧ Hid (∀ i < j, pE d i = none))
      case atStart => exact ⟨0, [], by omega, Nat.zero_le _, rfl, HFS.out, Lib.hid (fun y => by simp), Lib.hid (fun i hi => by omega)⟩
      case round =>
        clear HFS
        obtain ⟨j, sP, hgk, hj, rfl, HWF, HS, hall⟩ := hrel
        have HGK := Lib.hid hgk; clear hgk
        obtain ⟨k0, k1, k2, k3⟩ := HWF.out.cells
        dsimp only at k0 k1 k2 k3
        by_cases hlt : j < n2
        · obtain ⟨x, hx⟩ := get_of_lt H1.out hlt
          obtain ⟨b, off, rfl, hb, hc0⟩ := I1.out j x hx
          have hc := (HWF.out.bel.cell (p := ⟨b, off + j, none⟩) hb).trans hc0
          have HP := Lib.hid (pE_at hx)
          have HE := Lib.hid (fun e he => wErr_p HNB.out HSE.out (by rw [← H1.out]; exact hlt) hall.out (k := j) (e := e) he)
          have hxl := HLO.out x (List.mem_of_getElem? hx)
          have HMT := Lib.hid (mem_take_succ hx)
          rw [← HSL.out, ← H3.out] at HP
          clear hx hc0
          by_cases h1 : x = -1
          · subst h1
            have HN1 : Hid (pE d j = none) := Lib.hid (by rw [HP.out, if_neg (by omega), if_neg (by simp)])
            clear hxl
            go_wp2_with fail
            go_roundg (n2 - (j + 1))
            case measure => rw [HGK.out]; omega
            case rel => exact ⟨j+1, sP, rfl, hlt, by go_num, HWF, Lib.hid (fun y => by rw [HS.out y, HMT.out y]; constructor; exact fun h => ⟨.inl h.1, h.2⟩; exact fun h => ⟨h.1.resolve_right h.2, h.2⟩), Lib.hid (forall_lt_succ hall.out HN1.out)⟩
          · have hx1 : (x == -1) = false := by simp [h1]
            by_cases ha : sl ≤ x
            · have HV := Lib.hid (HE.out 1 (by rw [HP.out, if_pos (.inl ha)]))
              clear h1
              go_wp2_with fail
              go_ret
              exact ⟨ret_int HV.out.symm, HWF.out.bel⟩
            · have ha' : x < sl := by omega
              have hw := i64_w (-2 - x) (by omega) (by omega)
              by_cases hb2 : x < -1 - (n3 : Int)
              · have HV := Lib.hid (HE.out 1 (by rw [HP.out, if_pos (.inr hb2)]))
                have hx0 : x < 0 := by omega
                have hb3 : (n3 : Int) ≤ -2 - x := by omega
                clear h1 ha
                go_wp2_with fail
                go_ret
                exact ⟨ret_int HV.out.symm, HWF.out.bel⟩
              · rw [if_neg (by omega)] at HP
                have hcs : 0 ≤ x ∨ (x < 0 ∧ -2 - x < (n3 : Int)) := by omega
                clear ha hb2
                cases hmem : decide (x ∈ d.pl.take j) with
                | true =>
                  have HV := Lib.hid (HE.out 10 (by rw [HP.out, if_pos ⟨h1, by simpa using hmem⟩]))
                  have hms : decide (x ∈ sP) = true := decide_eq_true ((HS.out x).2 ⟨by simpa using hmem, h1⟩)
                  have HMS := Lib.hid hms
                  clear h1 hmem hms
                  rcases hcs with h | ⟨h, h'⟩
                  all_goals
                    go_wp2_with (first | (at_lookup; refine wpList_set_get _ rfl _ _ 90 rfl kIntB Try.underlying90 (zBo _) HWF.out.pm x HMS.out rfl rfl ?_) | (at_mapUpdate; refine wpList_set_put _ rfl _ _ _ 90 rfl kIntB Try.underlying90 HWF.out.pm x rfl rfl rfl ?_; intro w5 hs5 hg5 hz5))
                    go_ret
                    exact ⟨ret_int HV.out.symm, HWF.out.bel⟩
                | false =>
                  have hnm : x ∉ d.pl.take j := by simpa using hmem
                  have HN1 : Hid (pE d j = none) := Lib.hid (by rw [HP.out, if_neg (fun h => hnm h.2)])
                  have hms : decide (x ∈ sP) = false := decide_eq_false (fun h => hnm ((HS.out x).1 h).1)
                  have HMS := Lib.hid hms
                  have HX1 := Lib.hid h1
                  clear h1 hmem hms hnm
                  rcases hcs with h | ⟨h, h'⟩
                  all_goals
                    go_wp2_with (first | (at_lookup; refine wpList_set_get _ rfl _ _ 90 rfl kIntB Try.underlying90 (zBo _) HWF.out.pm x HMS.out rfl rfl ?_) | (at_mapUpdate; refine wpList_set_put _ rfl _ _ _ 90 rfl kIntB Try.underlying90 HWF.out.pm x rfl rfl rfl ?_; intro w5 hs5 hg5 hz5))
                    have HWG := Lib.hid (HWF.out.putP hs5 hg5)
                    clear hs5 hg5 hz5
                    go_roundg (n2 - (j + 1))
                    case measure => rw [HGK.out]; omega
                    case rel => exact ⟨j+1, _, rfl, hlt, by go_num, HWG, Lib.hid (fun y => by rw [sput_mem, HS.out y, HMT.out y]; constructor; (rintro (h | h); exact ⟨.inl h.1, h.2⟩; exact ⟨.inr h, h ▸ HX1.out⟩); (rintro ⟨h | h, h2⟩; exact .inl ⟨h, h2⟩; exact .inr h)), Lib.hid (forall_lt_succ hall.out HN1.out)⟩
        · obtain rfl : j = n2 := by omega
          have HPN : Hid (∀ i < d.pl.length, pE d i = none) := Lib.hid (by rw [← H1.out]; exact hall.out)
          clear hall
          go_wp2_with fail
          go_loopg [77] n3 (fun kx i wr => ∃ (q : Nat) (sS : List Int), kx = n3 - q ∧ q ≤ n3 ∧ i = .int .i64 q ∧ Hid (WFS w sl ⟨A1, j, c1, A2, j, c2, A3, n3, c3⟩ sP sS wr) ∧ Hid (∀ y, y ∈ sS ↔ y ∈ d.sp.take q ∧ y ≠ -1) ∧ Hid (∀ i < q, sE d i = none))
          case atStart => exact ⟨0, [], by omega, Nat.zero_le _, rfl, HWF, Lib.hid (fun y => by simp), Lib.hid (fun i hi => by omega)⟩
          case round =>
            clear HWF HS HGK k0 k1 k2 k3
            obtain ⟨q, sS, hgk, hq, rfl, HWF, HS, hall⟩ := hrel
            have HGK := Lib.hid hgk; clear hgk
            obtain ⟨k0, k1, k2, k3⟩ := HWF.out.cells
            dsimp only at k0 k1 k2 k3
            by_cases hlt3 : q < n3
            · obtain ⟨x, hx⟩ := get_of_lt H3.out hlt3
              obtain ⟨b, off, rfl, hb, hc0⟩ := I3.out q x hx
              have hc := (HWF.out.bel.cell (p := ⟨b, off + q, none⟩) hb).trans hc0
              have HP := Lib.hid (sE_at hx)
              have HE := Lib.hid (fun e he => wErr_s HNB.out HSE.out HPN.out (by rw [← H3.out]; exact hlt3) hall.out (k := q) (e := e) he)
              have HMT := Lib.hid (mem_take_succ hx)
              rw [← HSL.out, ← H1.out] at HP
              clear hx hc0
              by_cases h1 : x = -1
              · subst h1
                have HN1 : Hid (sE d q = none) := Lib.hid (by rw [HP.out, if_neg (by omega), if_neg (by simp)])
                go_wp2_with fail
                go_roundg (n3 - (q + 1))
                case measure => rw [HGK.out]; omega
                case rel => exact ⟨q+1, sS, rfl, hlt3, by go_num, HWF, Lib.hid (fun y => by rw [HS.out y, HMT.out y]; constructor; exact fun h => ⟨.inl h.1, h.2⟩; exact fun h => ⟨h.1.resolve_right h.2, h.2⟩), Lib.hid (forall_lt_succ hall.out HN1.out)⟩
              · have hx1 : (x == -1) = false := by simp [h1]
                by_cases ha : x < -1 ∨ (sl ≤ x ∧ x < 8) ∨ 8 + (j : Int) ≤ x
                · have HV := Lib.hid (HE.out 1 (by rw [HP.out, if_pos ha]))
                  have ha' : x < 0 ∨ (0 ≤ x ∧ sl ≤ x ∧ x < 8) ∨ (0 ≤ x ∧ sl ≤ x ∧ 8 ≤ x ∧ 8 + (j : Int) ≤ x) := by omega
                  clear ha h1
                  rcases ha' with g1 | ⟨g1, g2, g3⟩ | ⟨g1, g2, g3, g4⟩
                  all_goals
                    go_wp2_with fail
                    go_ret
                    exact ⟨ret_int HV.out.symm, HWF.out.bel⟩
                · rw [if_neg ha] at HP
                  have hcs : (0 ≤ x ∧ x < sl) ∨ (0 ≤ x ∧ sl ≤ x ∧ 8 ≤ x ∧ x < 8 + (j : Int)) := by omega
                  clear ha
                  cases hmem : decide (x ∈ d.sp.take q) with
                  | true =>
                    have HV := Lib.hid (HE.out 10 (by rw [HP.out, if_pos ⟨h1, by simpa using hmem⟩]))
                    have hms : decide (x ∈ sS) = true := decide_eq_true ((HS.out x).2 ⟨by simpa using hmem, h1⟩)
                    have HMS := Lib.hid hms
                    clear h1 hmem hms
                    rcases hcs with ⟨g1, g2⟩ | ⟨g1, g2, g3, g4⟩
                    all_goals
                      go_wp2_with (first | (at_lookup; refine wpList_set_get _ rfl _ _ 90 rfl kIntB Try.underlying90 (zBo _) HWF.out.sm x HMS.out rfl rfl ?_) | (at_mapUpdate; refine wpList_set_put _ rfl _ _ _ 90 rfl kIntB Try.underlying90 HWF.out.sm x rfl rfl rfl ?_; intro w5 hs5 hg5 hz5))
                      go_ret
                      exact ⟨ret_int HV.out.symm, HWF.out.bel⟩
                  | false =>
                    have hnm : x ∉ d.sp.take q := by simpa using hmem
                    have HN1 : Hid (sE d q = none) := Lib.hid (by rw [HP.out, if_neg (fun h => hnm h.2)])
                    have hms : decide (x ∈ sS) = false := decide_eq_false (fun h => hnm ((HS.out x).1 h).1)
                    have HMS := Lib.hid hms
                    have HX1 := Lib.hid h1
                    clear h1 hmem hms hnm
                    rcases hcs with ⟨g1, g2⟩ | ⟨g1, g2, g3, g4⟩
                    all_goals
                      go_wp2_with (first | (at_lookup; refine wpList_set_get _ rfl _ _ 90 rfl kIntB Try.underlying90 (zBo _) HWF.out.sm x HMS.out rfl rfl ?_) | (at_mapUpdate; refine wpList_set_put _ rfl _ _ _ 90 rfl kIntB Try.underlying90 HWF.out.sm x rfl rfl rfl ?_; intro w5 hs5 hg5 hz5))
                      have HWG := Lib.hid (HWF.out.putS hs5 hg5)
                      clear hs5 hg5 hz5
                      go_roundg (n3 - (q + 1))
                      case measure => rw [HGK.out]; omega
                      case rel => exact ⟨q+1, _, rfl, hlt3, by go_num, HWG, Lib.hid (fun y => by rw [sput_mem, HS.out y, HMT.out y]; constructor; (rintro (h | h); exact ⟨.inl h.1, h.2⟩; exact ⟨.inr h, h ▸ HX1.out⟩); (rintro ⟨h | h, h2⟩; exact .inl ⟨h, h2⟩; exact .inr h)), Lib.hid (forall_lt_succ hall.out HN1.out)⟩
            · obtain rfl : q = n3 := by omega
              have HV := Lib.hid (wErr_0 HNB.out HSE.out HPN.out (by rw [← H3.out]; exact hall.out))
              go_wp2_with fail
              go_ret
              exact ⟨ret_int HV.out.symm, HWF.out.bel⟩
    · have HV := Lib.hid (wErr_3 HNB.out (by have e1 := H1.out; have e2 := H2.out; dsimp only at e1 e2; omega))
      have hne : ((n1 : Int) != (n2 : Int)) = true := by simp; omega
      unfold wv wcs
      unfold wcs at HB
      dsimp only at HB H1 H2 H3 I1 I3 ⊢
      generalize d.sl = sl at *
      clear h2
      go_enter Try.func14, Try.ntmps14
      go_wp2_with fail
      go_ret
      exact ⟨ret_int HV.out.symm, HB.out.1⟩
end Go.Proofs.Ytnaiflokmihmeaa
