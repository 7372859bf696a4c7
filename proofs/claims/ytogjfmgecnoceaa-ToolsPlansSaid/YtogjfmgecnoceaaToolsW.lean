/- Walks: PlanOf (reference). -/
import Derived.Test.YtogjfmgecnoceaaToolsV
namespace Go.Proofs.Ytogjfmgecnoceaa
open Go.RowKit
set_option linter.unusedVariables false
set_option linter.unusedSimpArgs false

set_option maxHeartbeats 4000000 in
set_option maxRecDepth 20000 in
theorem planof_any (ts : List Tk) (A : Option Addr) (n c : Nat) (w : World) (hn : n = ts.length) (hm : n ≤ 9223372036854775807) (h : TasksAt w w.heap.size A ts) :
    Calls Try.prog 13 #[.slice A n c] w (PlanPost ts w) := by
  have HC := Lib.hid (tfault_any ts A n c w hn hm h)
  have HN := Lib.hid hn; clear hn
  have H := Lib.hid h; clear h
  by_cases herr : tErr ts = 0
  · have h60 := (tErr_zero herr).1
    rw [← HN.out] at h60
    have HE := Lib.hid herr; clear herr
    go_enter Try.func13, Try.ntmps13
    go_wp2_with fail
    refine HC.out.mono ?_
    rw [HE.out]
    rintro e w1 ⟨rfl, hb1⟩
    go_wp2_with fail
    go_loopg [5, 6, 19] n (fun k u o i wr => ∃ (j : Nat) (s : List Int × List U), k = n - j ∧ j ≤ n ∧ i = .int .i64 j ∧ Hid (pfold ts (ts.take j) = some s) ∧ Hid (PRows w o u s wr))
    case atStart => exact ⟨0, ([], []), by omega, Nat.zero_le _, rfl, rfl, ((Rws.begin hb1).nil _ _).nil _ _⟩
    case round =>
      obtain ⟨j, s, hgk, hj, rfl, hpf, hrows⟩ := hrel
      have HGK := Lib.hid hgk; clear hgk
      by_cases hlt : j < n
      · have HINV := Lib.hid (pfold_inv HE.out hpf.out (by rw [← HN.out]; exact hj))
        obtain ⟨t, ht⟩ := get_of_lt HN.out hlt
        obtain ⟨b, off, rfl, hb, h0, h1, h2, hxm, hx⟩ := H.out j t ht
        obtain ⟨hok, hord⟩ := tkAt_inv ht ((tErr_zero HE.out).2 j (by rw [← HN.out]; exact hlt))
        have HSTEP : Hid (∀ s', pstep ts s t = s' → pfold ts (ts.take (j+1)) = s') := fun s' hs' => by rw [take_succ_get ht, pfold_snoc, hpf.out]; exact hs'
        obtain ⟨q1, q2, q3, q4⟩ := okT_iff.1 hok; clear hok
        have HT := Lib.hid ht; clear ht
        have g0 := (hrows.out.below.cell (p := ⟨b, off + j*3, none⟩) hb).trans h0
        have g1 := (hrows.out.below.cell (p := ⟨b, off + j*3+1, none⟩) hb).trans h1
        have g2 := (hrows.out.below.cell (p := ⟨b, off + j*3+2, none⟩) hb).trans h2
        clear h0 h1 h2
        have HX := Lib.hid hx; clear hx
        have HORD := Lib.hid hord; clear hord
        have hz := hrows.out.below.size
        obtain ⟨A5, c5, rfl, hl5, hm5, hI5⟩ := hrows.out.ints
        obtain ⟨A6, c6, rfl, hl6, hm6, hI6⟩ := hrows.out.uses
        have hlen5 : s.1.length = j := HINV.out.len
        have hlen6 : s.2.length ≤ j := HINV.out.le
        have HROWS := Lib.hid hrows.out; clear hrows
        clear hI5 hI6
        obtain ⟨tt, tl, tA, tc, txs⟩ := t
        dsimp only at g0 g1 g2 hxm HX q1 q2 q3 q4 HORD
        generalize hmm : txs.length = m at *
        have HM := Lib.hid hmm; clear hmm
        generalize hn5 : s.1.length = n5 at *
        have HN5 := Lib.hid hn5; clear hn5
        generalize hn6 : s.2.length = n6 at *
        have HN6 := Lib.hid hn6; clear hn6
        obtain rfl : n5 = j := hlen5
        unfold maxLen at hm5 hm6
        have hnm5 : n5 + 1 ≤ 4294967296 := by omega
        have hnm6 : n6 + 1 ≤ 4294967296 := by omega
        go_wp2_with fail
        clear g0 g1 g2
        have HR0 : Hid (PRows w (.slice A5 n5 c5) (.slice A6 n6 c6) s (wr.alloc (.cells #[.int .i64 tt, .int .i64 tl, .slice tA m tc] 34))) := Rws.alloc HROWS.out _
        have HB0 : Hid (Blk (wr.alloc (.cells #[.int .i64 tt, .int .i64 tl, .slice tA m tc] 34)) wr.heap.size 34 #[.int .i64 tt, .int .i64 tl, .slice tA m tc]) := Blk.new _ _ _
        clear HROWS hz
        generalize hg : wr.heap.size = g at *
        have HG := Lib.hid hg; clear hg
        generalize wr.alloc (.cells #[.int .i64 tt, .int .i64 tl, .slice tA m tc] 34) = wo at *
        go_loopg [9, 26] m (fun kk a i wi => ∃ q : Nat, kk = m - q ∧ q ≤ m ∧ i = .int .i64 q ∧ a = .int .i64 (atOf ts s.1 (txs.take q)) ∧ Hid (PRows w (.slice A5 n5 c5) (.slice A6 n6 c6) s wi) ∧ Hid (Blk wi g 34 #[.int .i64 tt, .int .i64 tl, .slice tA m tc]))
        case atStart => exact ⟨0, by omega, Nat.zero_le _, rfl, rfl, HR0.out, HB0.out⟩
        case round =>
          obtain ⟨q, hgk2, hq, rfl, rfl, hR, hB⟩ := hrel
          have HGK2 := Lib.hid hgk2; clear hgk2
          obtain ⟨a1, a2⟩ := atOf_le HE.out HINV.out.bd (txs.take q)
          by_cases hlt2 : q < m
          · obtain ⟨x, hx⟩ := get_of_lt HM.out.symm hlt2
            obtain ⟨x1, x2⟩ := HORD.out x (List.mem_of_getElem? hx)
            obtain ⟨x, rfl⟩ := Int.eq_ofNat_of_zero_le x1
            have hxj : x < n5 := by omega
            obtain ⟨b', off', rfl, hb', c0⟩ := HX.out q x hx
            have c1 := (hR.out.below.cell (p := ⟨b', off' + q, none⟩) hb').trans c0
            clear c0
            have HAT : Hid (atOf ts s.1 (txs.take (q+1)) = max (atOf ts s.1 (txs.take q)) (st s.1 x + lo ts x)) := by rw [take_succ_get hx]; exact atOf_snoc _ _ _ _
            clear hx x1 x2
            obtain ⟨ov, hov⟩ := get_of_lt HN5.out.symm hxj
            obtain ⟨A5', c5', hA5, _, _, hI5⟩ := hR.out.ints
            cases hA5
            obtain ⟨b5, off5, rfl, hb5, c5c⟩ := hI5 x ov hov
            clear hI5
            obtain ⟨t2, ht2⟩ := get_of_lt HN.out (show x < n by omega)
            obtain ⟨b3, off3, hA3, hb3, _, h1, _⟩ := H.out x t2 ht2
            cases hA3
            have g1 := (hR.out.below.cell (p := ⟨b, off + x*3+1, none⟩) hb3).trans h1
            clear h1
            have hlv := lo_bd HE.out x
            have hsv := st_bd HINV.out.bd x
            rw [lo_get ht2] at HAT hlv
            rw [st_get hov] at HAT hsv
            clear ht2 hov
            generalize t2.l = lv at *
            generalize hav : atOf ts s.1 (txs.take q) = av at *
            have HAV := Lib.hid hav; clear hav
            obtain ⟨l1, l2⟩ := hlv
            obtain ⟨s1, s2⟩ := hsv
            have hw := i64_p (ov + lv) (by omega) (by omega)
            go_wp2_with fail
            go_quiet (fail)
            go_wp2_with fail
            all_goals
              go_roundg (m - (q + 1))
              case measure => rw [HGK2.out]; omega
              case rel => exact ⟨q+1, rfl, by omega, by go_num, by rw [HAT.out]; first | rw [Int.max_eq_left (by omega)] | rw [Int.max_eq_right (by omega)], Rws.drewN hR.out _, hB.out.drewN _⟩
          · obtain rfl : q = m := by omega
            have e0 := hB.out.cell 0
            have e1 := hB.out.cell 1
            simp only [List.getElem?_toArray, List.getElem?_cons_zero, List.getElem?_cons_succ] at e0 e1
            have HTK : Hid (txs.take q = txs) := by rw [← HM.out]; exact List.take_length
            rw [HTK.out] at a1 a2
            rw [HTK.out]
            have HST : Hid (∀ s', (if 2000 - tl < atOf ts s.1 txs then none else if 0 ≤ tt then (if ff s.2 tt (atOf ts s.1 txs) tl < 0 then none else some (s.1 ++ [ff s.2 tt (atOf ts s.1 txs) tl], s.2 ++ [⟨tt, ff s.2 tt (atOf ts s.1 txs) tl, tl⟩])) else some (s.1 ++ [atOf ts s.1 txs], s.2)) = s' → pfold ts (ts.take (n5+1)) = s') := HSTEP.out
            generalize hav : atOf ts s.1 txs = av at *
            have HAV := Lib.hid hav; clear hav
            by_cases ht0 : 0 ≤ tt
            · obtain ⟨A6', c6', hA6, e6, e7, hI6⟩ := hR.out.uses
              rw [HN6.out] at hA6
              cases hA6
              have HI6 := Lib.hid hI6; clear hI6
              obtain ⟨ta, rfl⟩ := Int.eq_ofNat_of_zero_le ht0
              obtain ⟨tb, rfl⟩ := Int.eq_ofNat_of_zero_le (show 0 ≤ tl by omega)
              obtain ⟨tf, rfl⟩ := Int.eq_ofNat_of_zero_le a1
              have HALL := Lib.hid (all_ok HINV.out.ok)
              have HFO := Lib.hid (fun W h => firstof_any s.2 (A6) n6 c6 ta tf tb W HN6.out.symm (by omega) (by unfold maxLen; omega) h HALL.out (by omega) (by omega) (by omega))
              by_cases hff : ff s.2 ta tf tb < 0
              · have HP := Lib.hid (HST.out none (by
                  by_cases hlate : 2000 - (tb : Int) < tf
                  · rw [if_pos hlate]
                  · rw [if_neg hlate, if_pos ht0, if_pos hff]))
                generalize hfv : ff s.2 ta tf tb = fv at *
                have HFV := Lib.hid hfv; clear hfv
                go_wp2_with fail
                refine (HFO.out _ HI6.out).mono ?_
                rintro e w2 ⟨rfl, hb2⟩
                go_wp2_with fail
                go_ret2
                exact planPost_bad (plan_late HE.out HP.out) (hR.out.below.trans (hb2.mono hR.out.below.size))
              · have hlate : ¬ 2000 - (tb : Int) < tf := fun h => hff (by rw [ff_none fun x h1 h2 => by omega]; omega)
                have HP := Lib.hid (HST.out _ (by rw [if_neg hlate, if_pos ht0, if_neg hff]))
                have hfl : ff s.2 ta tf tb + tb ≤ 2000 := by
                  rcases ff_cases s.2 ta tf tb with ⟨e, _⟩ | ⟨r, e, _, h2, _⟩
                  · omega
                  · rw [e]; exact h2
                generalize hfv : ff s.2 ta tf tb = fv at *
                have HFV := Lib.hid hfv; clear hfv
                have hf0 : 0 ≤ fv := by omega
                go_wp2_with fail
                refine (HFO.out _ HI6.out).mono ?_
                rintro e w2 ⟨rfl, hb2⟩
                have HR2 := Lib.hid (show PRows w (.slice A5 n5 c5) (.slice A6 n6 c6) s w2 from Rws.next hR.out hb2)
                have HB2 := Lib.hid (hB.out.belowB hb2)
                clear e0 e1
                have e0 := HB2.out.cell 0
                have e1 := HB2.out.cell 1
                simp only [List.getElem?_toArray, List.getElem?_cons_zero, List.getElem?_cons_succ] at e0 e1
                go_wp2_with (first
                  | (at_builtin
                     refine wpList_append_one rfl (.tmp 65) (.tmp 72) _ rfl Try.underlying99 infoUseV rfl rfl (HR2.out.rowU HN6.out) rfl rfl rfl (three_int _ _ _) hnm6 ?_
                     intro v6 w3 hR3 hb3
                     have HR3 := Lib.hid (PRows.addU (x := ⟨ta, fv, tb⟩) HN6.out.symm hR3)
                     clear hR3 hb3 e0 e1)
                  | (at_builtin
                     refine wpList_append_one rfl (.tmp 74) (.tmp 76) _ rfl Try.underlying23 infoInt rfl rfl (HR3.out.rowO HN5.out) rfl rfl rfl (one_int _) hnm5 ?_
                     intro v5 w4 hR4 hb4))
                have HR4 := Lib.hid (show PRows w v5 v6 (s.1 ++ [fv], s.2 ++ [⟨ta, fv, tb⟩]) w4 from PRows.addO (s := (s.1, s.2 ++ [⟨ta, fv, tb⟩])) HN5.out.symm hR4)
                go_roundg (n - (n5 + 1))
                case measure => rw [HGK.out]; omega
                case rel => exact ⟨n5+1, _, rfl, by omega, by go_num, HP.out, HR4.out⟩
            · by_cases hlate : 2000 - tl < av
              · have HP := Lib.hid (HST.out none (by rw [if_pos hlate]))
                go_wp2_with fail
                go_ret2
                exact planPost_bad (plan_late HE.out HP.out) hR.out.below
              · have HP := Lib.hid (HST.out _ (by rw [if_neg hlate, if_neg ht0]))
                go_wp2_with (
                  at_builtin
                  refine wpList_append_one rfl (.tmp 74) (.tmp 76) _ rfl Try.underlying23 infoInt rfl rfl (hR.out.rowO HN5.out) rfl rfl rfl (one_int _) hnm5 ?_
                  intro v5 w4 hR4 hb4)
                have HR4 := Lib.hid (show PRows w v5 (.slice A6 n6 c6) (s.1 ++ [av], s.2) w4 from PRows.addO HN5.out.symm hR4)
                go_roundg (n - (n5 + 1))
                case measure => rw [HGK.out]; omega
                case rel => exact ⟨n5+1, _, rfl, by omega, by go_num, HP.out, HR4.out⟩
      · obtain rfl : j = n := by omega
        have HX : Hid (ts.take j = ts) := by rw [HN.out]; exact List.take_length
        rw [HX.out] at hpf
        go_wp2_with fail
        go_ret2
        exact planPost_done (plan_done HE.out hpf.out) hrows.out
  · have hb : (tErr ts != 0) = true := by simpa using herr
    generalize hcc : tErr ts = cc at *
    have HCC := Lib.hid hcc; clear hcc
    have HE := Lib.hid herr; clear herr
    go_enter Try.func13, Try.ntmps13
    go_wp2_with fail
    refine HC.out.mono ?_
    rintro e w1 ⟨rfl, hb1⟩
    go_wp2_with fail
    go_ret2
    exact planPost_bad (by rw [← HCC.out]; exact plan_bad (by rw [HCC.out]; exact HE.out)) hb1
end Go.Proofs.Ytogjfmgecnoceaa
