/- Walks: Right and End (package tools), StartsFit (reference). -/
import Derived.Test.YtogjfmgecnoceaaToolsW
import Derived.Test.YtogjfmgecnoceaaToolsB
import Derived.Deep.RegionHeld3
import Derived.RegionTactic
import Derived.ChangeAlike
namespace Go.Proofs.Ytogjfmgecnoceaa
open Go.RowKit
set_option linter.unusedVariables false
set_option linter.unusedSimpArgs false

/-- the uses of a list of starts under way -/
def URows (w : World) (u : Value) (us : List U) (wr : World) : Prop := Rws w [⟨u, 102, 3, us.length, cellsU us⟩] wr
theorem URows.uses {w wr : World} {u : Value} {us : List U} (h : URows w u us wr) : ∃ A c, u = .slice A us.length c ∧ us.length ≤ c ∧ c ≤ maxLen ∧ UsesAt wr wr.heap.size A us := UsesAt.of_own (Rws.head h)
theorem URows.add {w wr : World} {u' : Value} {us : List U} {x : U} {n : Nat} (hn : n = us.length) (h : Rws w [⟨u', 102, 3, n + 1, cellsU us ++ (#[.int .i64 x.t, .int .i64 x.f, .int .i64 x.l] : Array Value).toList⟩] wr) : URows w u' (us ++ [x]) wr := by
  subst hn
  have e : cellsU (us ++ [x]) = cellsU us ++ [.int .i64 x.t, .int .i64 x.f, .int .i64 x.l] := by rw [cellsU_append, cellsU_one]
  unfold URows
  rw [e, List.length_append]
  exact h
theorem URows.row {w wr : World} {u : Value} {us : List U} {n : Nat} (h : URows w u us wr) (hn : us.length = n) : Rws w (⟨u, 102, 3, n, cellsU us⟩ :: []) wr := by subst hn; exact h
theorem usesOf_snoc {ts : List Tk} {ss : List Int} {k : Nat} {t : Tk} {s : Int} (ht : ts[k]? = some t) (hs : ss[k]? = some s) (h : 0 ≤ t.t) : usesOf ts ss (k+1) = usesOf ts ss k ++ [⟨t.t, s, t.l⟩] := by
  simp [usesOf, ht, h, st, hs]
theorem usesOf_same {ts : List Tk} {ss : List Int} {k : Nat} {t : Tk} (ht : ts[k]? = some t) (h : ¬ 0 ≤ t.t) : usesOf ts ss (k+1) = usesOf ts ss k := by
  simp [usesOf, ht, h]

set_option maxHeartbeats 4000000 in
set_option maxRecDepth 20000 in
theorem right_any (ts : List Tk) (A : Option Addr) (n c : Nat) (ss : List Int) (A1 : Option Addr) (n1 c1 : Nat) (w : World) (hn : n = ts.length) (hm : n ≤ 9223372036854775807) (h : TasksAt w w.heap.size A ts) (hn1 : n1 = ss.length) (hm1 : n1 ≤ 9223372036854775807) (hs : IntsAt w w.heap.size A1 ss) (hb : ∀ x ∈ ss, -9223372036854775808 ≤ x ∧ x ≤ 9223372036854775807) :
    Calls Try.prog 18 #[.slice A n c, .slice A1 n1 c1] w fun e w' => e = .returned (.bool (fits ts ss)) ∧ Below w.heap.size w w' := by
  have HC := Lib.hid (tasks_any ts A n c w hn hm h)
  have HN := Lib.hid hn; clear hn
  have H := Lib.hid h; clear h
  have HN1 := Lib.hid hn1; clear hn1
  have H1 := Lib.hid hs; clear hs
  have HB1 := Lib.hid hb; clear hb
  by_cases herr : tErr ts = 0
  · have h60 := (tErr_zero herr).1
    rw [← HN.out] at h60
    have HE := Lib.hid herr; clear herr
    by_cases hlen : n1 = n
    · subst hlen
      have HL : Hid (ss.length = ts.length) := Lib.hid (HN1.out.symm.trans HN.out)
      go_enter Try.func18, Try.ntmps18
      go_wp2_with fail
      refine HC.out.mono ?_
      rw [HE.out]
      rintro e w1 ⟨rfl, hb1⟩
      go_wp2_with fail
      go_loopg [5, 22] n1 (fun k u i wr => ∃ (j : Nat), k = n1 - j ∧ j ≤ n1 ∧ i = .int .i64 j ∧ Hid (∀ i < j, fitK ts ss i = true) ∧ Hid (URows w u (usesOf ts ss j) wr))
      case atStart => exact ⟨0, by omega, Nat.zero_le _, rfl, forall_lt_zero, (Rws.begin hb1).nil _ _⟩
      case round =>
        obtain ⟨j, hgk, hj, rfl, hall, hrows⟩ := hrel
        have HGK := Lib.hid hgk; clear hgk
        by_cases hlt : j < n1
        · obtain ⟨t, ht⟩ := get_of_lt HN.out hlt
          obtain ⟨s, hs⟩ := get_of_lt HN1.out hlt
          obtain ⟨b, off, rfl, hb, h0, h1, h2, hxm, hx⟩ := H.out j t ht
          obtain ⟨bs, offs, rfl, hbs, hs0⟩ := H1.out j s hs
          obtain ⟨hok, hord⟩ := tkAt_inv ht ((tErr_zero HE.out).2 j (by rw [← HN.out]; exact hlt))
          obtain ⟨q1, q2, q3, q4⟩ := okT_iff.1 hok; clear hok
          obtain ⟨z1, z2⟩ := HB1.out s (List.mem_of_getElem? hs)
          have HT := Lib.hid ht; clear ht
          have HS := Lib.hid hs; clear hs
          have g0 := (hrows.out.below.cell (p := ⟨b, off + j*3, none⟩) hb).trans h0
          have g1 := (hrows.out.below.cell (p := ⟨b, off + j*3+1, none⟩) hb).trans h1
          have g2 := (hrows.out.below.cell (p := ⟨b, off + j*3+2, none⟩) hb).trans h2
          clear h0 h1 h2
          have HS0 := Lib.hid hs0; clear hs0
          have HX := Lib.hid hx; clear hx
          have HORD := Lib.hid hord; clear hord
          have hz := hrows.out.below.size
          obtain ⟨A6, c6, rfl, hl6, hm6, hI6⟩ := hrows.out.uses
          have hlen6 : (usesOf ts ss j).length ≤ j := usesOf_len _ _ _
          clear hI6
          obtain ⟨tt, tl, tA, tc, txs⟩ := t
          dsimp only at g0 g1 g2 hxm HX q1 q2 q3 q4 HORD
          have HFAIL : Hid (fitK ts ss j = false → fits ts ss = false) := fun h => fits_no (by rw [← HN.out]; exact hlt) h
          generalize hmm : txs.length = m at *
          have HM := Lib.hid hmm; clear hmm
          generalize hn6 : (usesOf ts ss j).length = n6 at *
          have HN6 := Lib.hid hn6; clear hn6
          unfold maxLen at hm6
          have hnm6 : n6 + 1 ≤ 4294967296 := by omega
          go_wp2_with fail
          clear g0 g1 g2
          have HR0 := Lib.hid (show URows w (.slice A6 n6 c6) (usesOf ts ss j) (wr.alloc (.cells #[.int .i64 tt, .int .i64 tl, .slice tA m tc] 34)) from Rws.alloc hrows.out _)
          have HB0 := Lib.hid (Blk.new wr 34 #[.int .i64 tt, .int .i64 tl, .slice tA m tc])
          clear hrows hz
          generalize hg : wr.heap.size = g at *
          have HG := Lib.hid hg; clear hg
          generalize wr.alloc (.cells #[.int .i64 tt, .int .i64 tl, .slice tA m tc] 34) = wo at *
          have gs := (HR0.out.below.cell (p := ⟨bs, offs + j, none⟩) hbs).trans HS0.out
          have e1 := HB0.out.cell 1
          have e2 := HB0.out.cell 2
          simp only [List.getElem?_toArray, List.getElem?_cons_zero, List.getElem?_cons_succ] at e1 e2
          have i1 : (0 : Int) ≤ (j : Int) := by omega
          have i2 : (j : Int) < (n1 : Int) := by omega
          by_cases hr1 : s < 0
          · have HF := Lib.hid (HFAIL.out (fitK_range HT.out HS.out (by omega)))
            have hd : decide (s < 0) = true := by simpa using hr1
            go_quiet (fail)
            go_wp2_with fail
            go_ret
            exact ⟨ret_bool HF.out.symm, below_drewN HR0.out.below _⟩
          by_cases hr2 : 2000 - tl < s
          · have HF := Lib.hid (HFAIL.out (fitK_range HT.out HS.out (by show ¬ (0 ≤ s ∧ s ≤ 2000 - tl); omega)))
            have hd : decide (s < 0) = false := by simpa using hr1
            have hw := i64_p (2000 - tl) (by omega) (by omega)
            go_quiet (fail)
            go_wp2_with fail
            go_ret
            exact ⟨ret_bool HF.out.symm, below_drewN HR0.out.below _⟩
          · have hd : decide (s < 0) = false := by simpa using hr1
            have hd2 : decide (2000 - tl < s) = false := by simpa using hr2
            have hw := i64_p (2000 - tl) (by omega) (by omega)
            go_quiet (fail)
            clear hw
            go_wp2_with fail
            clear e1 e2 hd hd2 gs
            have HRNG := Lib.hid (show 0 ≤ s ∧ s ≤ 2000 - tl by omega)
            go_loopg [45] m (fun kk i wi => ∃ q : Nat, kk = m - q ∧ q ≤ m ∧ i = .int .i64 q ∧ Hid (∀ j' < q, ∀ x, txs[j']? = some x → st ss x + lo ts x ≤ s) ∧ Hid (URows w (.slice A6 n6 c6) (usesOf ts ss j) wi) ∧ Hid (Blk wi g 34 #[.int .i64 tt, .int .i64 tl, .slice tA m tc]))
            case atStart => exact ⟨0, by omega, Nat.zero_le _, rfl, forall_lt_zero, Rws.drewN HR0.out _, HB0.out.drewN _⟩
            case round =>
              obtain ⟨q, hgk2, hq, rfl, hall2, hR, hB⟩ := hrel
              have HGK2 := Lib.hid hgk2; clear hgk2
              by_cases hlt2 : q < m
              · obtain ⟨x, hx⟩ := get_of_lt HM.out.symm hlt2
                obtain ⟨x1, x2⟩ := HORD.out x (List.mem_of_getElem? hx)
                obtain ⟨x, rfl⟩ := Int.eq_ofNat_of_zero_le x1
                have hxj : x < j := by omega
                obtain ⟨b', off', rfl, hb', c0⟩ := HX.out q x hx
                have c1 := (hR.out.below.cell (p := ⟨b', off' + q, none⟩) hb').trans c0
                clear c0 x1 x2
                have HXX := Lib.hid hx; clear hx
                obtain ⟨sx, hsx⟩ := get_of_lt HN1.out (show x < n1 by omega)
                obtain ⟨b4, off4, hA4, hb4, c4⟩ := H1.out x sx hsx
                cases hA4
                have cs := (hR.out.below.cell (p := ⟨bs, offs + x, none⟩) hbs).trans c4
                have cj := (hR.out.below.cell (p := ⟨bs, offs + j, none⟩) hbs).trans HS0.out
                obtain ⟨t2, ht2⟩ := get_of_lt HN.out (show x < n1 by omega)
                obtain ⟨b3, off3, hA3, hb3, _, h1, _⟩ := H.out x t2 ht2
                cases hA3
                have g1 := (hR.out.below.cell (p := ⟨b, off + x*3+1, none⟩) hb3).trans h1
                clear h1 c4
                obtain ⟨u1, u2⟩ := fitK_inv ht2 hsx (hall.out x hxj)
                have hok2 := okT_iff.1 (tkAt_inv ht2 ((tErr_zero HE.out).2 x (by rw [← HN.out]; omega))).1
                have HST := Lib.hid (show st ss x = sx ∧ lo ts x = t2.l from ⟨st_get hsx, lo_get ht2⟩)
                clear ht2 hsx
                generalize t2.l = lv at *
                obtain ⟨-, -, v1, v2⟩ := hok2
                have hw := i64_p (sx + lv) (by omega) (by omega)
                have k1 : (0 : Int) ≤ (x : Int) := by omega
                have k2 : (x : Int) < (n1 : Int) := by omega
                by_cases hcmp : s < sx + lv
                · have HF := Lib.hid (HFAIL.out (fitK_after HT.out HS.out HXX.out (by rw [HST.out.1, HST.out.2]; exact hcmp)))
                  have hd : decide (s < sx + lv) = true := by simpa using hcmp
                  go_wp2_with fail
                  go_quiet (fail)
                  go_wp2_with fail
                  go_ret
                  exact ⟨ret_bool HF.out.symm, below_drewN hR.out.below _⟩
                · have hd : decide (s < sx + lv) = false := by simpa using hcmp
                  go_wp2_with fail
                  go_quiet (fail)
                  clear hw
                  go_wp2_with fail
                  go_roundg (m - (q + 1))
                  case measure => rw [HGK2.out]; omega
                  case rel => exact ⟨q+1, rfl, by omega, by go_num, forall_lt_succ hall2.out (fun x' hx' => by rw [HXX.out] at hx'; cases hx'; rw [HST.out.1, HST.out.2]; omega), Rws.drewN hR.out _, hB.out.drewN _⟩
              · obtain rfl : q = m := by omega
                have HYES := Lib.hid (fitK_yes HT.out HS.out HRNG.out (by show ∀ j < txs.length, _; rw [HM.out]; exact hall2.out))
                have e0 := hB.out.cell 0
                have e1 := hB.out.cell 1
                simp only [List.getElem?_toArray, List.getElem?_cons_zero, List.getElem?_cons_succ] at e0 e1
                have cj := (hR.out.below.cell (p := ⟨bs, offs + j, none⟩) hbs).trans HS0.out
                by_cases ht0 : 0 ≤ tt
                · have HU := Lib.hid (usesOf_snoc HT.out HS.out ht0)
                  go_wp2_with fail
                  go_region_held3 (fun w' => w'.cell? ⟨g, 0, none⟩ = some (.int .i64 tt) ∧ w'.cell? ⟨g, 1, none⟩ = some (.int .i64 tl) ∧ w'.cell? ⟨bs, offs + j, none⟩ = some (.int .i64 s))
                    (go_keep)
                    (first
                      | (refine step_append_keep rfl (.tmp 68) (.tmp 78) _ rfl Try.underlying99 infoUseV rfl rfl (by first | exact Rws.drew (Rws.alloc (hR.out.row HN6.out) _) | exact Rws.alloc (Rws.drew (hR.out.row HN6.out)) _) (by first | exact (Blk.new _ _ _).drew | exact Blk.new _ _ _) rfl rfl rfl (three_int _ _ _) hnm6 (by first | exact (hB.out.alloc _).drew | exact hB.out.drew.alloc _) (by decide) ?_
                         intro v6 w3 hR3 hb3 hT3
                         have r0 := hT3.cell 0
                         have r1 := hT3.cell 1
                         simp only [List.getElem?_toArray, List.getElem?_cons_zero, List.getElem?_cons_succ] at r0 r1
                         have r2 := (hb3.cell (p := ⟨bs, offs + j, none⟩) hbs).trans HS0.out)
                      | fail)
                  all_goals
                    have HR3 := Lib.hid (URows.add (x := ⟨tt, s, tl⟩) HN6.out.symm hR3)
                    clear hR3 hb3 hT3
                    go_wp2_with fail
                    go_roundg (n1 - (j + 1))
                    case measure => rw [HGK.out]; omega
                    case rel => exact ⟨j+1, rfl, by omega, by go_num, forall_lt_succ hall.out HYES.out, by rw [HU.out]; exact HR3.out⟩
                · have HU := Lib.hid (usesOf_same (ss := ss) HT.out ht0)
                  go_wp2_with fail
                  go_roundg (n1 - (j + 1))
                  case measure => rw [HGK.out]; omega
                  case rel => exact ⟨j+1, rfl, by omega, by go_num, forall_lt_succ hall.out HYES.out, by rw [HU.out]; exact hR.out⟩
        · obtain rfl : j = n1 := by omega
          obtain ⟨A6, c6, rfl, hl6, hm6, hI6⟩ := hrows.out.uses
          have HX : Hid (fits ts ss = decide (chk (usesOf ts ss j) = 0)) := Lib.hid (by rw [HN.out]; exact fits_all HE.out HL.out (by rw [← HN.out]; exact hall.out))
          have HCK := Lib.hid (check_any (usesOf ts ss j) A6 _ _ _ rfl hl6 hm6 hI6)
          generalize hn6 : (usesOf ts ss j).length = n6 at *
          have HN6 := Lib.hid hn6; clear hn6
          clear hI6
          generalize hcc : chk (usesOf ts ss j) = cc at *
          have HCC := Lib.hid hcc; clear hcc
          go_wp2_with fail
          refine HCK.out.mono ?_
          rintro e w2 ⟨rfl, hb2⟩
          go_wp2_with fail
          go_ret
          exact ⟨ret_bool (by rw [HX.out]; first | rfl | (by_cases hz : cc = 0 <;> simp [hz])), hrows.out.below.trans (hb2.mono hrows.out.below.size)⟩
    · have hne : ((n1 : Int) != (n : Int)) = true := by simp; omega
      have HF := Lib.hid (fits_len (ts := ts) (ss := ss) (by rw [← HN.out, ← HN1.out]; exact hlen))
      go_enter Try.func18, Try.ntmps18
      go_wp2_with fail
      refine HC.out.mono ?_
      rw [HE.out]
      rintro e w1 ⟨rfl, hb1⟩
      go_wp2_with fail
      go_ret
      exact ⟨ret_bool HF.out.symm, hb1⟩
  · have hb : (tErr ts != 0) = true := by simpa using herr
    have HF := Lib.hid (fits_bad (ss := ss) herr)
    generalize hcc : tErr ts = cc at *
    have HCC := Lib.hid hcc; clear hcc
    clear herr
    go_enter Try.func18, Try.ntmps18
    go_wp2_with fail
    refine HC.out.mono ?_
    rintro e w1 ⟨rfl, hb1⟩
    go_wp2_with fail
    go_ret
    exact ⟨ret_bool HF.out.symm, hb1⟩
end Go.Proofs.Ytogjfmgecnoceaa
