/- Walks: Critical (package order). -/
import Derived.Test.YtogjfmgecnoceaaOrdD
namespace Go.Proofs.Ytogjfmgecnoceaa
open Go.RowKit
set_option linter.unusedVariables false
set_option linter.unusedSimpArgs false

/-- where two lists agree -/
def critF (a b : List Int) : Nat → List Int
  | 0 => []
  | k + 1 => critF a b k ++ (if nth a k = nth b k then [(k : Int)] else [])
theorem critF_len (a b : List Int) (k : Nat) : (critF a b k).length ≤ k := by
  induction k with
  | zero => exact Nat.le_refl _
  | succ k ih => unfold critF; rw [List.length_append]; split <;> simp <;> omega
theorem critF_yes {a b : List Int} {k : Nat} (h : nth a k = nth b k) : critF a b (k+1) = critF a b k ++ [(k : Int)] := by
  show critF a b k ++ (if nth a k = nth b k then [(k : Int)] else []) = _
  rw [if_pos h]
theorem critF_no {a b : List Int} {k : Nat} (h : nth a k ≠ nth b k) : critF a b (k+1) = critF a b k := by
  show critF a b k ++ (if nth a k = nth b k then [(k : Int)] else []) = _
  rw [if_neg h, List.append_nil]
def critL (rs : List (List Int)) (ts : List Int) (L : Nat → Int) : List Int := if tmErr rs ts = 0 then critF (startsL rs ts) (lateL rs ts L) rs.length else []
def CritPost (rs : List (List Int)) (ts : List Int) (L : Nat → Int) (w : World) (e : Ending) (w' : World) : Prop := ∃ v, e = .returned (.tuple #[v, .int .i64 (tmErr rs ts)]) ∧ IntsV w' v (critL rs ts L) ∧ Below w.heap.size w w'
theorem critPost_bad {rs : List (List Int)} {ts : List Int} {L : Nat → Int} {w w' : World} {e : Int} (he : tmErr rs ts = e) (h : e ≠ 0) (hb : Below w.heap.size w w') : CritPost rs ts L w (.returned (.tuple #[.slice none 0 0, .int .i64 e])) w' :=
  ⟨.slice none 0 0, by rw [he], by unfold critL; rw [if_neg (by rw [he]; exact h)]; exact IntsV.nil _, hb⟩
theorem critPost_ok {rs : List (List Int)} {ts : List Int} {L : Nat → Int} {w w2 wr : World} {v : Value} {n : Nat} (he : tmErr rs ts = 0) (hn : n = rs.length) (h : IRow w2 v (critF (startsL rs ts) (lateL rs ts L) n) wr) (hb : Below w.heap.size w w2) : CritPost rs ts L w (.returned (.tuple #[v, .int .i64 0])) wr :=
  ⟨v, by rw [he], by unfold critL; rw [if_pos he, ← hn]; exact h.intsV, hb.trans (h.bel.mono hb.size)⟩
theorem startsL_len {rs : List (List Int)} {ts : List Int} (he : tmErr rs ts = 0) : (startsL rs ts).length = rs.length := by unfold startsL; rw [if_pos he, startsOf_len]
theorem lateL_len {rs : List (List Int)} {ts : List Int} {L : Nat → Int} (he : tmErr rs ts = 0) : (lateL rs ts L).length = rs.length := by unfold lateL; rw [if_pos he]; simp [lateOf]

set_option maxHeartbeats 4000000 in
set_option maxRecDepth 20000 in
theorem critical_any (rs : List Row) (A : Option Addr) (n c : Nat) (ts : List Int) (A1 : Option Addr) (n1 c1 : Nat) (w : World) (hn : n = rs.length) (hm : n ≤ 9223372036854775807) (h : RowsAt w w.heap.size A rs) (hn1 : n1 = ts.length) (hm1 : n1 ≤ 9223372036854775807) (hs : IntsAt w w.heap.size A1 ts) (L : Nat → Int) (hL : tmErr (ll rs) ts = 0 → Back (ll rs) ts L) :
    Calls Try.prog 21 #[.slice A n c, .slice A1 n1 c1] w (CritPost (ll rs) ts L w) := by
  have HC := Lib.hid (times_any rs A n c ts A1 n1 c1 w hn hm h hn1 hm1 hs)
  have HC2 := Lib.hid (fun (W : World) (hb : Below w.heap.size w W) => latest_any rs A n c ts A1 n1 c1 W hn hm (h.next hb) hn1 hm1 (hs.next hb) L hL)
  have HNL := Lib.hid (show n = (ll rs).length by rw [ll_len]; exact hn); clear hn
  clear h hs hL hn1
  by_cases he : tmErr (ll rs) ts = 0
  · have h40 : n ≤ 40 := by rw [HNL.out]; exact (tmErr_zero he).1.le
    have HE := Lib.hid he; clear he
    have HSL := Lib.hid (startsL_len HE.out)
    have HLL := Lib.hid (lateL_len (L := L) HE.out)
    go_enter Try.func21, Try.ntmps21
    go_wp2_with fail
    refine HC.out.mono ?_
    rintro e w1 ⟨v6, rfl, ⟨A6, c6, rfl, hl6, hm6, hi6⟩, hb1⟩
    rw [HE.out]
    rw [HSL.out, ← HNL.out] at hl6 ⊢
    go_wp2_with fail
    refine (HC2.out w1 hb1).mono ?_
    rintro e w2 ⟨v9, rfl, ⟨A9, c9, rfl, hl9, hm9, hi9⟩, hb2⟩
    rw [HE.out]
    rw [HLL.out, ← HNL.out] at hl9 ⊢
    have HI6 := Lib.hid (hi6.next hb2); clear hi6
    have HI9 := Lib.hid hi9; clear hi9
    unfold maxLen at hm6 hm9
    have hbw := hb1.trans (hb2.mono hb1.size)
    go_wp2_with fail
    go_loopg [11, 31] n (fun k o i wr => ∃ j : Nat, k = n - j ∧ j ≤ n ∧ i = .int .i64 j ∧ Hid (IRow w2 o (critF (startsL (ll rs) ts) (lateL (ll rs) ts L) j) wr))
    case atStart => exact ⟨0, by omega, Nat.zero_le _, rfl, IRow.nil (Below.refl _ _)⟩
    case round =>
      obtain ⟨j, hgk, hj, rfl, hrow⟩ := hrel
      have HGK := Lib.hid hgk; clear hgk
      by_cases hlt : j < n
      · obtain ⟨x, hx⟩ := get_of_lt (HNL.out.trans HSL.out.symm) hlt
        obtain ⟨y, hy⟩ := get_of_lt (HNL.out.trans HLL.out.symm) hlt
        obtain ⟨b, off, rfl, hb, h0⟩ := HI6.out j x hx
        obtain ⟨b', off', rfl, hb', h0'⟩ := HI9.out j y hy
        have HXY := Lib.hid (And.intro (nth_get hx) (nth_get hy)); clear hx hy
        have g0 := (hrow.out.bel.cell (p := ⟨b, off + j, none⟩) hb).trans h0
        have g1 := (hrow.out.bel.cell (p := ⟨b', off' + j, none⟩) hb').trans h0'
        clear h0 h0'
        have i1 : (0 : Int) ≤ (j : Int) := by omega
        have i2 : (j : Int) < (n : Int) := by omega
        have hcl := critF_len (startsL (ll rs) ts) (lateL (ll rs) ts L) j
        obtain ⟨cl, hcl2⟩ : ∃ cl, (critF (startsL (ll rs) ts) (lateL (ll rs) ts L) j).length = cl := ⟨_, rfl⟩
        rw [hcl2] at hcl
        have HCL := Lib.hid hcl2; clear hcl2
        have hnm : cl + 1 ≤ 4294967296 := by omega
        by_cases hxy : x = y
        · have HY := Lib.hid (critF_yes (a := startsL (ll rs) ts) (b := lateL (ll rs) ts L) (k := j) (by rw [HXY.out.1, HXY.out.2, hxy]))
          have hd : (x == y) = true := by simp [hxy]
          clear hxy
          go_wp2_with fail
          go_quiet (fail)
          go_wp2_with (
            at_builtin
            refine wpList_append_one rfl (.tmp 43) (.tmp 45) _ rfl Try.underlying23 infoI rfl rfl ((IRow.drewN hrow.out _).row HCL.out) rfl rfl rfl (one_i _) hnm ?_
            intro v5 w4 hR4 hb4
            have HR4 := Lib.hid (IRow.add HCL.out hR4)
            clear hR4)
          go_roundg (n - (j + 1))
          case measure => rw [HGK.out]; omega
          case rel => exact ⟨j+1, rfl, by omega, by go_num, HR4.out.re HY.out⟩
        · have HY := Lib.hid (critF_no (a := startsL (ll rs) ts) (b := lateL (ll rs) ts L) (k := j) (by rw [HXY.out.1, HXY.out.2]; exact hxy))
          have hd : (x == y) = false := by simp [hxy]
          clear hxy
          go_wp2_with fail
          go_quiet (fail)
          go_wp2_with fail
          go_roundg (n - (j + 1))
          case measure => rw [HGK.out]; omega
          case rel => exact ⟨j+1, rfl, by omega, by go_num, (IRow.drewN hrow.out _).re HY.out⟩
      · obtain rfl : j = n := by omega
        go_wp2_with fail
        go_ret2
        exact critPost_ok HE.out HNL.out hrow.out hbw
  · have hne : (tmErr (ll rs) ts != 0) = true := by simpa using he
    obtain ⟨eb, heb⟩ : ∃ eb, tmErr (ll rs) ts = eb := ⟨_, rfl⟩
    have HEN : Hid (endL (ll rs) ts = 0) := Lib.hid (by unfold endL; rw [if_neg he])
    rw [heb] at hne he
    have HE := Lib.hid heb; clear heb
    have HNE := Lib.hid he; clear he
    go_enter Try.func21, Try.ntmps21
    go_wp2_with fail
    refine HC.out.mono ?_
    rintro e w' ⟨v6, rfl, hv6, hb1⟩
    rw [HE.out, HEN.out]
    clear hv6
    go_wp2_with fail
    go_ret2
    exact critPost_bad HE.out HNE.out hb1
end Go.Proofs.Ytogjfmgecnoceaa
