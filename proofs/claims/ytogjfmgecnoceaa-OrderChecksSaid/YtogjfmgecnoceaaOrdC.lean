/- Walks: Times (package order). -/
import Derived.Test.YtogjfmgecnoceaaOrdB
import Derived.Test.YtogjfmgecnoceaaGrowI
import Derived.Deep.QuietTactic
import Derived.BigQuiet
namespace Go.Proofs.Ytogjfmgecnoceaa
open Go.RowKit
set_option linter.unusedVariables false
set_option linter.unusedSimpArgs false

def startsL (rs : List (List Int)) (ts : List Int) : List Int := if tmErr rs ts = 0 then startsOf rs ts rs.length else []
def endL (rs : List (List Int)) (ts : List Int) : Int := if tmErr rs ts = 0 then endB rs ts rs.length else 0
def TimesPost (rs : List (List Int)) (ts : List Int) (w : World) (e : Ending) (w' : World) : Prop := ∃ v, e = .returned (.tuple #[v, .int .i64 (endL rs ts), .int .i64 (tmErr rs ts)]) ∧ IntsV w' v (startsL rs ts) ∧ Below w.heap.size w w'
theorem timesPost_bad {rs : List (List Int)} {ts : List Int} {w : World} {e : Int} (he : tmErr rs ts = e) (h : e ≠ 0) : TimesPost rs ts w (.returned (.tuple #[.slice none 0 0, .int .i64 0, .int .i64 e])) w :=
  ⟨.slice none 0 0, by rw [he]; simp [endL, he, h], by unfold startsL; rw [if_neg (by rw [he]; exact h)]; exact IntsV.nil _, Below.refl _ _⟩
theorem timesPost_ok {rs : List (List Int)} {ts : List Int} {w wr : World} {v : Value} {n : Nat} (he : tmErr rs ts = 0) (hn : n = rs.length) (h : IRow w v (startsOf rs ts n) wr) : TimesPost rs ts w (.returned (.tuple #[v, .int .i64 (endB rs ts n), .int .i64 0])) wr :=
  ⟨v, by rw [he, hn]; simp [endL, he], by unfold startsL; rw [if_pos he, ← hn]; exact h.intsV, h.bel⟩

set_option maxHeartbeats 2000000 in
set_option maxRecDepth 20000 in
theorem times_any (rs : List Row) (A : Option Addr) (n c : Nat) (ts : List Int) (A1 : Option Addr) (n1 c1 : Nat) (w : World) (hn : n = rs.length) (hm : n ≤ 9223372036854775807) (h : RowsAt w w.heap.size A rs) (hn1 : n1 = ts.length) (hm1 : n1 ≤ 9223372036854775807) (hs : IntsAt w w.heap.size A1 ts) :
    Calls Try.prog 19 #[.slice A n c, .slice A1 n1 c1] w (TimesPost (ll rs) ts w) := by
  have HC := Lib.hid (long_any rs A n c ts A1 n1 c1 w hn hm h hn1 hm1 hs)
  have HN := Lib.hid hn
  have HNL := Lib.hid (show n = (ll rs).length by rw [ll_len]; exact hn); clear hn
  have HN1 := Lib.hid hn1; clear hn1
  have H := Lib.hid h; clear h
  have H1 := Lib.hid hs; clear hs
  by_cases he : tmErr (ll rs) ts = 0
  · obtain ⟨hv, hl, ht⟩ := tmErr_zero he
    obtain rfl : n1 = n := by rw [HN1.out, hl, HNL.out]
    have h40 : n1 ≤ 40 := by rw [HNL.out]; exact hv.le
    have HV := Lib.hid hv; clear hv
    have HTB := Lib.hid ht; clear ht hl
    have HE := Lib.hid he; clear he
    rw [HE.out] at HC
    go_enter Try.func19, Try.ntmps19
    go_wp2_with fail
    refine HC.out.mono ?_
    rintro e w' ⟨rfl, rfl⟩
    go_wp2_with fail
    go_loopg [8, 9, 23] n1 (fun k o s9 i wr => ∃ j : Nat, k = n1 - j ∧ j ≤ n1 ∧ i = .int .i64 j ∧ s9 = .int .i64 (endB (ll rs) ts j) ∧ Hid (IRow w o (startsOf (ll rs) ts j) wr))
    case atStart => exact ⟨0, by omega, Nat.zero_le _, rfl, rfl, IRow.nil (Below.refl _ _)⟩
    case round =>
      obtain ⟨j, hgk, hj, rfl, rfl, hrow⟩ := hrel
      have HGK := Lib.hid hgk; clear hgk
      have hbd := endB_bd HV.out.low HTB.out j
      by_cases hlt : j < n1
      · obtain ⟨r, hr⟩ := get_of_lt HN.out hlt
        obtain ⟨t, ht⟩ := get_of_lt HN1.out hlt
        obtain ⟨b, off, rfl, hb, h0, hxm, hx⟩ := H.out j r hr
        obtain ⟨b1, off1, rfl, hb1, h1⟩ := H1.out j t ht
        have HR := Lib.hid (ll_get hr); clear hr
        have HX := Lib.hid hx; clear hx
        have HT0 := Lib.hid (HTB.out t (List.mem_of_getElem? ht))
        have HTN := Lib.hid (nth_get ht); clear ht
        have HS : Hid (S (ll rs) ts j = atB (startsOf (ll rs) ts j) ts r.xs) := Lib.hid (by unfold S; rw [HR.out]; rfl)
        have HLOW := Lib.hid (HV.out.lt j r.xs HR.out)
        obtain ⟨sb0, sb1⟩ := S_bd HV.out.low HTB.out j
        obtain ⟨tA, tc, txs⟩ := r
        dsimp only at h0 hxm HX HR HS HLOW
        generalize hm2 : txs.length = m at *
        have HM := Lib.hid hm2; clear hm2
        have g0 := (hrow.out.bel.cell (p := ⟨b, off + j, none⟩) hb).trans h0
        clear h0
        have H10 := Lib.hid h1; clear h1
        obtain ⟨A5, c5, rfl, hl5, hm5, hI5⟩ := hrow.out.ints
        clear hI5
        have hlen5 := startsOf_len (ll rs) ts j
        rw [hlen5] at hl5
        have HL5 := Lib.hid hlen5
        rw [HL5.out]
        clear hlen5
        unfold maxLen at hm5
        rw [HL5.out] at hrow
        go_wp2_with fail
        clear g0
        go_loopg [12, 30] m (fun kk a i wi => ∃ q : Nat, kk = m - q ∧ q ≤ m ∧ i = .int .i64 q ∧ a = .int .i64 (atB (startsOf (ll rs) ts j) ts (txs.take q)) ∧ Hid (IRow w (.slice A5 j c5) (startsOf (ll rs) ts j) wi))
        case atStart => exact ⟨0, by omega, Nat.zero_le _, rfl, rfl, hrow.out⟩
        case round =>
          obtain ⟨q, hgk2, hq, rfl, rfl, hR⟩ := hrel
          have HGK2 := Lib.hid hgk2; clear hgk2
          by_cases hlt2 : q < m
          · obtain ⟨x, hx⟩ := get_of_lt HM.out.symm hlt2
            obtain ⟨x1, x2⟩ := HLOW.out x (List.mem_of_getElem? hx)
            obtain ⟨x, rfl⟩ := Int.eq_ofNat_of_zero_le x1
            have hxj : x < j := by omega
            obtain ⟨b', off', rfl, hb', c0⟩ := HX.out q x hx
            have c1 := (hR.out.bel.cell (p := ⟨b', off' + q, none⟩) hb').trans c0
            clear c0
            have HAT : Hid (atB (startsOf (ll rs) ts j) ts (txs.take (q+1)) = max (atB (startsOf (ll rs) ts j) ts (txs.take q)) (nth (startsOf (ll rs) ts j) x + nth ts x)) := Lib.hid (by rw [List.take_add_one, hx]; exact atB_snoc _ _ _ _)
            clear hx x1 x2
            obtain ⟨ov, hov⟩ := get_of_lt HL5.out.symm hxj
            obtain ⟨A5', c5', hA5, _, _, hI5⟩ := hR.out.ints
            rw [HL5.out] at hA5
            cases hA5
            obtain ⟨b5, off5, rfl, hb5, c5c⟩ := hI5 x ov hov
            clear hI5
            obtain ⟨tv, htv⟩ := get_of_lt HN1.out (show x < n1 by omega)
            obtain ⟨b3, off3, hA3, hb3, h3⟩ := H1.out x tv htv
            cases hA3
            have g3 := (hR.out.bel.cell (p := ⟨b1, off1 + x, none⟩) hb3).trans h3
            clear h3
            obtain ⟨t1, t2⟩ := HTB.out tv (List.mem_of_getElem? htv)
            have hso : ov = S (ll rs) ts x := by
              have := startsOf_get (rs := ll rs) (ts := ts) hxj
              rw [hov] at this
              exact Option.some.inj this
            obtain ⟨o1, o2⟩ := S_bd HV.out.low HTB.out x
            rw [← hso] at o1 o2
            rw [nth_get hov, nth_get htv] at HAT
            clear hov htv hso
            have hav : 0 ≤ atB (startsOf (ll rs) ts j) ts (txs.take q) := (atB_max _ _ _).1
            generalize atB (startsOf (ll rs) ts j) ts (txs.take q) = av at *
            have hw := i64_w (ov + tv) (by omega) (by omega)
            have k0 : (0 : Int) ≤ (x : Int) := by omega
            have k1 : (x : Int) < (n1 : Int) := by omega
            have k2 : (x : Int) < (j : Int) := by omega
            go_wp2_with fail
            go_quiet (fail)
            clear hw
            go_wp2_with fail
            all_goals
              go_roundg (m - (q + 1))
              case measure => rw [HGK2.out]; omega
              case rel => exact ⟨q+1, rfl, by omega, by go_num, by rw [HAT.out]; first | rw [Int.max_eq_left (by omega)] | rw [Int.max_eq_right (by omega)], IRow.drewN hR.out _⟩
          · obtain rfl : q = m := by omega
            have HTK : Hid (txs.take q = txs) := Lib.hid (by rw [← HM.out]; exact List.take_length)
            rw [HTK.out, ← HS.out]
            have HEN : Hid (endB (ll rs) ts (j+1) = max (endB (ll rs) ts j) (S (ll rs) ts j + t)) := Lib.hid (by rw [← HTN.out]; rfl)
            have HST := Lib.hid (startsOf_succ (ll rs) ts j)
            generalize S (ll rs) ts j = sv at *
            generalize endB (ll rs) ts j = ev at *
            have hnm5 : j + 1 ≤ 4294967296 := by omega
            obtain ⟨t1, t2⟩ := HT0.out
            obtain ⟨v1, v2⟩ := hbd
            have hb1' := hb1
            go_wp2_with (
              at_builtin
              refine wpList_append_one rfl (.tmp 46) (.tmp 48) _ rfl Try.underlying23 infoI rfl rfl (hR.out.row HL5.out) rfl rfl rfl (one_i _) hnm5 ?_
              intro v5 w4 hR4 hb4
              have HR4 := Lib.hid (IRow.add HL5.out hR4)
              clear hR4
              have g1 := (hb4.cell (p := ⟨b1, off1 + j, none⟩) hb1').trans H10.out)
            all_goals
              go_roundg (n1 - (j + 1))
              case measure => rw [HGK.out]; omega
              case rel => exact ⟨j+1, rfl, by omega, by go_num, by rw [HEN.out]; first | rw [Int.max_eq_left (by omega)] | rw [Int.max_eq_right (by omega)], HR4.out.re HST.out⟩
      · obtain rfl : j = n1 := by omega
        go_wp2_with fail
        go_ret3
        exact timesPost_ok HE.out HNL.out hrow.out
  · have hne : (tmErr (ll rs) ts != 0) = true := by simpa using he
    obtain ⟨eb, heb⟩ : ∃ eb, tmErr (ll rs) ts = eb := ⟨_, rfl⟩
    rw [heb] at hne he HC
    have HE := Lib.hid heb; clear heb
    have HNE := Lib.hid he; clear he
    go_enter Try.func19, Try.ntmps19
    go_wp2_with fail
    refine HC.out.mono ?_
    rintro e w' ⟨rfl, rfl⟩
    go_wp2_with fail
    go_ret3
    exact timesPost_bad HE.out HNE.out
end Go.Proofs.Ytogjfmgecnoceaa
