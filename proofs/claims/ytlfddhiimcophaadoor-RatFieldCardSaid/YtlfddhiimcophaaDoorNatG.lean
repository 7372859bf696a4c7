/- Walks of package nat: Sub, Add. -/
import Derived.Test.YtlfddhiimcophaaDoorNatF
import Derived.Deep.DeepCutAuto
namespace Go.Proofs.YtlfddhiimcophaaDoor
open Go.RowKit
set_option linter.unusedVariables false
set_option linter.unusedSimpArgs false

theorem below_next {w W W' : World} (h : Below w.heap.size w W) (h' : Below W.heap.size W W') : Below w.heap.size w W' := h.trans (h'.mono h.size)
theorem ret_si {a b : ByteArray} {c d : Int} (h : a = b) (h' : c = d) : Ending.returned (.tuple #[.string a, .int .i64 c]) = .returned (.tuple #[.string b, .int .i64 d]) := by rw [h, h']
def subS (m n : Nat) : ByteArray := if m < n then S 0 else S (m - n)
def subE (m n : Nat) : Int := if m < n then 1 else 0
theorem wlen_le {m : Nat} {ws : List Nat} (h : ws.length = ((bstr m).length + 3) / 4) (hm : (bstr m).length ≤ 35184372088832) : ws.length ≤ 8796093022209 := by omega
theorem wlen_mono {m n : Nat} (h : n ≤ m) : ((bstr n).length + 3) / 4 ≤ ((bstr m).length + 3) / 4 := by
  have : ¬ (bstr m).length < (bstr n).length := fun hh => by have := lt_of_len hh; omega
  omega

theorem sub_S (m n : Nat) (w : World) (hm : (bstr m).length ≤ 35184372088832) (hn : (bstr n).length ≤ 35184372088832) :
    Calls Tryd.prog 18 #[.string (S m), .string (S n)] w fun e w' => e = .returned (.tuple #[.string (subS m n), .int .i64 (subE m n)]) ∧ Below w.heap.size w w' := by
  have HMN := Lib.hid (And.intro hm hn)
  by_cases hlt : m < n
  · have hc : cmpZ m n = -1 := by simp [cmpZ, hlt]
    have HC := Lib.hid hc; clear hc
    have HLT := Lib.hid hlt; clear hlt
    go_enter Tryd.func18, Tryd.ntmps18
    go_wp2_with fail
    refine (cmp_S m n _ (by omega) (by omega)).mono ?_
    rw [HC.out]
    rintro e w' ⟨rfl, rfl⟩
    go_wp2_with fail
    go_ret2
    exact ⟨ret_si (by rw [subS, if_pos HLT.out]; rfl) (by rw [subE, if_pos HLT.out]), Below.refl _ _⟩
  · have hc : 0 ≤ cmpZ m n := by unfold cmpZ; rw [if_neg hlt]; split <;> omega
    generalize hz : cmpZ m n = z at *
    have HZ := Lib.hid hz; clear hz
    have HLT := Lib.hid hlt; clear hlt
    go_enter Tryd.func18, Tryd.ntmps18
    go_wp2_with fail
    refine (cmp_S m n _ (by omega) (by omega)).mono ?_
    rw [HZ.out]
    rintro e w' ⟨rfl, rfl⟩
    go_wp2_with fail
    refine (words_any (S m) _ (by rw [S_size]; omega)).mono ?_
    rintro e w1 ⟨g1, xs, rfl, hg1, hb1, hbel1, hok1, hv1, hl1⟩
    rw [toL_S, bval_bstr] at hv1 hl1
    have HX := Lib.hid (And.intro hok1 (And.intro hv1 hl1)); clear hok1 hv1 hl1
    generalize hnx : xs.length = nx at *
    have HNX := Lib.hid hnx.symm; clear hnx
    go_wp2_with fail
    refine (words_any (S n) _ (by rw [S_size]; omega)).mono ?_
    rintro e w2 ⟨g2, ys, rfl, hg2, hb2, hbel2, hok2, hv2, hl2⟩
    rw [toL_S, bval_bstr] at hv2 hl2
    have HY := Lib.hid (And.intro hok2 (And.intro hv2 hl2)); clear hok2 hv2 hl2
    generalize hny : ys.length = ny at *
    have HNY := Lib.hid hny.symm; clear hny
    have hb1' := hb1.belowB hbel2
    have hg1' := hb1.lt
    have HG := Lib.hid (And.intro hg1 hg2); clear hg1 hg2
    go_wp2_with fail
    refine (less_any xs ys g1 _ nx ny _ _ _ HNX.out HNY.out ?_ ?_ HX.out.1 HY.out.1 hb1' hb2.wAt ?_ ?_ ?_).mono ?_
    · have := HX.out.2.2; omega
    · have := HY.out.2.2; omega
    · rintro b off h; cases h; have := HG.out.2; omega
    · rw [HX.out.2.1, HY.out.2.1]; have := HLT.out; omega
    · rw [← HNX.out, ← HNY.out, HX.out.2.2, HY.out.2.2]; exact wlen_mono (by have := HLT.out; omega)
    rintro e w3 ⟨rfl, hgr, zs, hzl, hzok, hzb, hzv⟩
    have HZV := Lib.hid hzv; clear hzv
    have hz3 := hgr.size
    go_wp2_with fail
    refine (text_any zs _ nx _ _ ?_ ?_ hzok hzb.wAt).mono ?_
    · rw [hzl]; exact HNX.out
    · have := HX.out.2.2; omega
    rintro e w4 ⟨rfl, hbel4⟩
    go_wp2_with fail
    go_ret2
    refine ⟨ret_si ?_ (by rw [subE, if_neg HLT.out]), ?_⟩
    · rw [subS, if_neg HLT.out, HZV.out, HX.out.2.1, HY.out.2.1]
    · have h1 := below_next hbel1 hbel2
      have h2 : Below w.heap.size w w3 := h1.grown hgr h1.size (fun k hk => by cases hk; exact HG.out.1)
      exact below_next h2 hbel4

theorem wval_add_step {xs ys os : List Nat} {j c x : Nat} (hv : wval (os.take j) + 4294967296 ^ j * c = wval (xs.take j) + wval (ys.take j)) (hx : xs[j]? = some x) (hj : j < os.length) :
    wval ((os.set j ((c + x + wd ys j) % 4294967296)).take (j+1)) + 4294967296 ^ (j+1) * ((c + x + wd ys j) / 4294967296) = wval (xs.take (j+1)) + wval (ys.take (j+1)) := by
  have e1 : (os.set j ((c + x + wd ys j) % 4294967296))[j]? = some ((c + x + wd ys j) % 4294967296) := by rw [List.getElem?_set_self hj]
  rw [wval_take_succ e1, wd_take ys j, wval_take_succ hx, List.take_set_of_le (Nat.le_refl _), Nat.pow_succ]
  have h := Nat.mod_add_div (c + x + wd ys j) 4294967296
  generalize (c + x + wd ys j) / 4294967296 = q at *
  generalize (c + x + wd ys j) % 4294967296 = r at *
  have h2 : 4294967296 ^ j * r + 4294967296 ^ j * 4294967296 * q = 4294967296 ^ j * (c + x + wd ys j) := by rw [← h, Nat.mul_add, Nat.mul_assoc]
  rw [Nat.mul_add, Nat.mul_add] at h2
  omega
theorem sum_lt7 {m n : Nat} (hm : (bstr m).length < 8) (hn : (bstr n).length < 8) : m < 256 ^ 7 ∧ n < 256 ^ 7 := ⟨bstr_length_le.1 (by omega), bstr_length_le.1 (by omega)⟩

theorem add_S (m n : Nat) (w : World) (hm : (bstr m).length ≤ 35184372088832) (hn : (bstr n).length ≤ 35184372088832) :
    Calls Tryd.prog 19 #[.string (S m), .string (S n)] w fun e w' => e = .returned (.string (S (m + n))) ∧ Below w.heap.size w w' := by
  have hsm := S_size m
  have hsn := S_size n
  by_cases hshort : (bstr m).length < 8 ∧ (bstr n).length < 8
  · obtain ⟨h1, h2⟩ := hshort
    obtain ⟨l1, l2⟩ := sum_lt7 h1 h2
    have hs1 : (S m).size < 8 := by rw [S_size]; exact h1
    have hs2 : (S n).size < 8 := by rw [S_size]; exact h2
    have HS := Lib.hid (And.intro hsm hsn); clear hsm hsn
    have i1 : (m : Int) + n ≤ 18446744073709551615 := by omega
    have ec : ((m + n : Nat) : Int) = (m : Int) + n := by omega
    have HL := Lib.hid (show m + n < 256 ^ 8 by omega)
    have HEC := Lib.hid ec; clear ec l1 l2
    go_enter Tryd.func19, Tryd.ntmps19
    go_wp2_with fail
    refine (trim_S m _ (by unfold maxLen; omega)).mono ?_
    rintro e w' ⟨rfl, rfl⟩
    go_wp2_with fail
    refine (trim_S n _ (by unfold maxLen; omega)).mono ?_
    rintro e w' ⟨rfl, rfl⟩
    go_wp2_with fail
    refine (short_S m _ (by omega)).mono ?_
    rintro e w' ⟨rfl, rfl⟩
    go_wp2_with fail
    refine (short_S n _ (by omega)).mono ?_
    rintro e w' ⟨rfl, rfl⟩
    go_wp2_with fail
    rw [← HEC.out]
    refine (fromShort_any (m + n) _ HL.out).mono ?_
    rintro e w' ⟨rfl, hbel⟩
    go_wp2_with fail
    go_ret
    exact ⟨rfl, hbel⟩
  · have HS := Lib.hid (And.intro hsm hsn)
    have hnot : ¬ ((S m).size < 8 ∧ (S n).size < 8) := by rw [S_size, S_size]; exact hshort
    clear hshort
    rw [← hsm] at hm
    rw [← hsn] at hn
    clear hsm hsn
    go_enter Tryd.func19, Tryd.ntmps19
    go_wp2_with fail
    refine (trim_S m _ (by rw [← HS.out.1]; unfold maxLen; omega)).mono ?_
    rintro e w' ⟨rfl, rfl⟩
    go_wp2_with fail
    refine (trim_S n _ (by rw [← HS.out.2]; unfold maxLen; omega)).mono ?_
    rintro e w' ⟨rfl, rfl⟩
    go_wp2_with fail
    all_goals
      refine (words_any (S m) _ (by omega)).mono ?_
      rintro e w1 ⟨g1, xs, rfl, hg1, hb1, hbel1, hok1, hv1, hl1⟩
      rw [toL_S, bval_bstr, HS.out.1.symm] at hl1
      rw [toL_S, bval_bstr] at hv1
      have hnx1 : xs.length ≤ 8796093022209 := by omega
      have HX := Lib.hid (And.intro hok1 (And.intro hv1 hl1)); clear hok1 hv1 hl1
      go_wp2_with fail
      refine (words_any (S n) _ (by omega)).mono ?_
      rintro e w2 ⟨g2, ys, rfl, hg2, hb2, hbel2, hok2, hv2, hl2⟩
      rw [toL_S, bval_bstr, HS.out.2.symm] at hl2
      rw [toL_S, bval_bstr] at hv2
      have hny1 : ys.length ≤ 8796093022209 := by omega
      have HY := Lib.hid (And.intro hok2 (And.intro hv2 hl2)); clear hok2 hv2 hl2
      have hb1' := hb1.belowB hbel2
      have hbw := below_next hbel1 hbel2
      clear hb1 hbel1 hbel2 hm hn hnot
      go_upto_if 37 with (fail)
      go_cut [5, 6] (fun s5 s6 wc => w2 = wc ∧ ∃ ga gb ps qs, s5 = .slice (some ⟨ga, 0, none⟩) (List.length ps) ps.length ∧ s6 = .slice (some ⟨gb, 0, none⟩) (List.length qs) qs.length ∧ Hid (Blk w2 ga 61 (wcells ps)) ∧ Hid (Blk w2 gb 61 (wcells qs)) ∧ Hid (Wok ps ∧ Wok qs ∧ wval ps + wval qs = m + n) ∧ qs.length ≤ ps.length ∧ ps.length ≤ 8796093022209)
      case first =>
        by_cases hsw : xs.length < ys.length
        · go_wp2_with fail
          go_meet
          exact ⟨rfl, g2, g1, ys, xs, rfl, rfl, hb2, hb1', ⟨HY.out.1, HX.out.1, by rw [HY.out.2.1, HX.out.2.1, Nat.add_comm]⟩, by omega, by omega⟩
        · go_wp2_with fail
          go_meet
          exact ⟨rfl, g1, g2, xs, ys, rfl, rfl, hb1', hb2, ⟨HX.out.1, HY.out.1, by rw [HY.out.2.1, HX.out.2.1]⟩, by omega, by omega⟩
      case rest =>
        clear HX HY hb1' hb2 hg1 hg2 hnx1 hny1
        obtain ⟨rfl, ga, gb, ps, qs, rfl, rfl, hba, hbb, hab, hlen, hlim⟩ := hcut
        generalize hna : ps.length = na at *
        have HNA := Lib.hid hna.symm; clear hna
        generalize hnb : qs.length = nb at *
        have HNB := Lib.hid hnb.symm; clear hnb
        have HBW := Lib.hid hbw; clear hbw
        have hmk := make_words (na + 1) (by omega)
        have ec : ((na + 1 : Nat) : Int) = (na : Int) + 1 := by omega
        rw [ec] at hmk
        go_wp2_with fail
        clear hmk
        have HB0 : Hid (Below w2.heap.size w2 (w2.alloc (.cells (wcells (List.replicate (na + 1) 0)) 61))) := (Below.refl _ _).alloc (Nat.le_refl _) _
        go_loopg [8, 46] na (fun k co i wr => ∃ (j c : Nat) (os : List Nat), k = na - j ∧ j ≤ na ∧ c ≤ 1 ∧ i = .int .i64 j ∧ co = .int .u64 c ∧ Hid (Below w2.heap.size w2 wr) ∧ Hid (Blk wr w2.heap.size 61 (wcells os)) ∧ os.length = na + 1 ∧ Hid (Wok os ∧ wval (os.take j) + 4294967296 ^ j * c = wval (ps.take j) + wval (qs.take j)))
        case atStart => exact ⟨0, 0, _, rfl, Nat.zero_le _, Nat.zero_le _, rfl, rfl, HB0.out, Blk.new _ _ _, by simp, Wok.zeros _, rfl⟩
        case round =>
          obtain ⟨j, c, os, hgk, hj, hc1, rfl, rfl, hbel, hblk, hol, hos⟩ := hrel
          have HGK := Lib.hid hgk; clear hgk
          by_cases hlt : j < na
          · obtain ⟨x, hx⟩ := get_of_lt HNA.out hlt
            obtain ⟨o, ho⟩ := get_of_lt hol.symm (show j < na + 1 by omega)
            have e1 := ((hba.out.belowB hbel.out).cell j).trans (wcells_get hx)
            have e2 := (hblk.out.cell j).trans (wcells_get ho)
            have e3 := hblk.out.frozen j
            have hxlt := hab.out.1.get hx
            have hylt := wd_lt hab.out.2.1 j
            have HX := Lib.hid hx; clear hx ho
            have HOL := Lib.hid hol; clear hol
            by_cases hjb : j < nb
            · obtain ⟨y, hy⟩ := get_of_lt HNB.out hjb
              have e4 := ((hbb.out.belowB hbel.out).cell j).trans (wcells_get hy)
              have hwd : wd qs j = y := by simp [wd, hy]
              rw [hwd] at hylt
              have HWD := Lib.hid hwd; clear hwd hy
              go_wp2_with fail
              have q1 : ((c : Int) + x + y) / 4294967296 = (((c + x + wd qs j) / 4294967296 : Nat) : Int) := by rw [HWD.out]; omega
              have q2 : ((c : Int) + x + y) % 4294967296 = (((c + x + wd qs j) % 4294967296 : Nat) : Int) := by rw [HWD.out]; omega
              rw [q1, q2]
              go_roundg (na - (j + 1))
              case measure => rw [HGK.out]; omega
              case rel =>
                refine ⟨j + 1, _, os.set j ((c + x + wd qs j) % 4294967296), rfl, by omega, by rw [HWD.out]; omega, by go_num, rfl, hbel.out.setCell (Nat.le_refl _) _, by rw [← wcells_set]; exact hblk.out.set_ _ _, by rw [List.length_set]; exact HOL.out, hos.out.1.set _ (by omega), ?_⟩
                exact wval_add_step hos.out.2 HX.out (by rw [HOL.out]; omega)
            · have hwd : wd qs j = 0 := by
                unfold wd; rw [List.getElem?_eq_none (by rw [← HNB.out]; omega)]; rfl
              have HWD := Lib.hid hwd; clear hwd
              go_wp2_with fail
              have q1 : ((c : Int) + x) / 4294967296 = (((c + x + wd qs j) / 4294967296 : Nat) : Int) := by rw [HWD.out]; omega
              have q2 : ((c : Int) + x) % 4294967296 = (((c + x + wd qs j) % 4294967296 : Nat) : Int) := by rw [HWD.out]; omega
              rw [q1, q2]
              go_roundg (na - (j + 1))
              case measure => rw [HGK.out]; omega
              case rel =>
                refine ⟨j + 1, _, os.set j ((c + x + wd qs j) % 4294967296), rfl, by omega, by rw [HWD.out]; omega, by go_num, rfl, hbel.out.setCell (Nat.le_refl _) _, by rw [← wcells_set]; exact hblk.out.set_ _ _, by rw [List.length_set]; exact HOL.out, hos.out.1.set _ (by omega), ?_⟩
                exact wval_add_step hos.out.2 HX.out (by rw [HOL.out]; omega)
          · obtain rfl : j = na := by omega
            obtain ⟨o, ho⟩ := get_of_lt hol.symm (show j < j + 1 by omega)
            have e2 := (hblk.out.cell j).trans (wcells_get ho)
            have e3 := hblk.out.frozen j
            have e5 : (c : Int) % 4294967296 = (c : Int) := by omega
            have HO := Lib.hid ho; clear ho
            have HOL := Lib.hid hol; clear hol
            have hfin : wval (os.set j c) = m + n := by
              have h1 := hos.out.2
              have e1 : (os.set j c)[j]? = some c := by rw [List.getElem?_set_self (by rw [HOL.out]; omega)]
              have h2 := wval_take_succ e1
              rw [List.take_of_length_le (by rw [List.length_set, HOL.out]; exact Nat.le_refl _), List.take_set_of_le (Nat.le_refl _), h1] at h2
              rw [h2, HNA.out, List.take_length, List.take_of_length_le (by rw [← HNA.out, ← HNB.out]; exact hlen)]
              exact hab.out.2.2
            have HFIN := Lib.hid hfin; clear hfin
            have hblk2 := hblk.out.set_ j (.int .u32 (c : Int))
            rw [wcells_set] at hblk2
            have HB2 := Lib.hid hblk2; clear hblk2
            have hbel2 := hbel.out.setCell (p := ⟨w2.heap.size, j, none⟩) (Nat.le_refl _) (.int .u32 (c : Int))
            have HBE2 := Lib.hid hbel2; clear hbel2
            go_wp2_with fail
            refine (text_any (os.set j c) _ _ _ _ ?_ (by omega) (hos.out.1.set _ (by omega)) HB2.out.wAt).mono ?_
            · rw [List.length_set, HOL.out]
            rw [HFIN.out]
            rintro e w4 ⟨rfl, hbel4⟩
            go_wp2_with fail
            go_ret
            exact ⟨rfl, below_next (below_next HBW.out HBE2.out) hbel4⟩
end Go.Proofs.YtlfddhiimcophaaDoor
