/- Walks: Right (package order) and RightOf (reference). -/
import Derived.Test.YtogjfmgecnoceaaOrdS
import Derived.Test.YtogjfmgecnoceaaOrdI
import Derived.Test.YtogjfmgecnoceaaOrdF
namespace Go.Proofs.Ytogjfmgecnoceaa
open Go.RowKit
set_option linter.unusedVariables false
set_option linter.unusedSimpArgs false

theorem rowK_ll' {rs : List Row} {k : Nat} {r : Row} (h : rs[k]? = some r) : rowK (ll rs) k = r.xs := by unfold rowK; rw [ll_get h]; rfl
def RightPost (rs : List (List Int)) (p : List Int) (w : World) (e : Ending) (w' : World) : Prop := e = .returned (.bool (rightB rs p)) ∧ Below w.heap.size w w'
theorem rightPost_no {rs : List (List Int)} {p : List Int} {w w' : World} (h : ¬ RightP rs p) (hb : Below w.heap.size w w') : RightPost rs p w (.returned (.bool false)) w' := ⟨by rw [rightB_no h], hb⟩
theorem rightPost_yes {rs : List (List Int)} {p : List Int} {w w' : World} (h : RightP rs p) (hb : Below w.heap.size w w') : RightPost rs p w (.returned (.bool true)) w' := ⟨by rw [rightB_yes h], hb⟩
theorem stepOk_bad {rs : List (List Int)} {p : List Int} {i : Nat} {k : Int} (hk : p[i]? = some k) (h : ¬ StepOk rs p i k) : ¬ RightP rs p := fun hr => h (hr.2.2 i k hk)

set_option maxHeartbeats 4000000 in
set_option maxRecDepth 20000 in
theorem right_any_ (rs : List Row) (A : Option Addr) (n c : Nat) (ts : List Int) (A1 : Option Addr) (n1 c1 : Nat) (w : World) (hn : n = rs.length) (hm : n ≤ 9223372036854775807) (h : RowsAt w w.heap.size A rs) (hn1 : n1 = ts.length) (hm1 : n1 ≤ 9223372036854775807) (hs : IntsAt w w.heap.size A1 ts) :
    Calls Try.prog 44 #[.slice A n c, .slice A1 n1 c1] w (RightPost (ll rs) ts w) := by
  have HC := Lib.hid (bcheck_any rs A n c w hn hm h)
  have HN := Lib.hid hn
  have HNL := Lib.hid (show n = (ll rs).length by rw [ll_len]; exact hn); clear hn
  have HN1 := Lib.hid hn1; clear hn1
  have H := Lib.hid h; clear h
  have H1 := Lib.hid hs; clear hs
  by_cases he : bErr (ll rs) = 0
  · have HE := Lib.hid he
    have h40 : n ≤ 40 := by rw [HNL.out]; exact (bErr_vld he).le
    rw [HE.out] at HC
    clear he
    by_cases hl : n1 = n
    · subst hl
      have hd0 : ((n1 : Int) != (n1 : Int)) = false := by simp
      go_enter Try.func44, Try.ntmps44
      go_wp2_with fail
      refine HC.out.mono ?_
      rintro e w' ⟨rfl, rfl⟩
      go_wp2_with fail
      go_loopg [5, 22] n1 (fun k o i wr => ∃ j : Nat, k = n1 - j ∧ j ≤ n1 ∧ i = .int .i64 j ∧ Hid (IRow w o (ts.take j) wr) ∧ Hid (∀ i, i < j → ∀ k, ts[i]? = some k → StepOk (ll rs) ts i k))
      case atStart => exact ⟨0, by omega, Nat.zero_le _, rfl, IRow.nil (Below.refl _ _), Lib.hid (fun i hi => by omega)⟩
      case round =>
        obtain ⟨j, hgk, hj, rfl, hrow, hall⟩ := hrel
        have HGK := Lib.hid hgk; clear hgk
        by_cases hlt : j < n1
        · obtain ⟨x, hx⟩ := get_of_lt HN1.out hlt
          obtain ⟨b1, off1, rfl, hb1, h1⟩ := H1.out j x hx
          have g1 := (hrow.out.bel.cell (p := ⟨b1, off1 + j, none⟩) hb1).trans h1
          clear h1
          have HX := Lib.hid hx; clear hx
          obtain ⟨A5, c5, rfl, hl5, hm5, hi5⟩ := hrow.out.ints
          have HI5 := Lib.hid hi5; clear hi5
          have hlen : (ts.take j).length = j := by rw [List.length_take, ← HN1.out]; omega
          rw [hlen] at hl5 hrow ⊢
          unfold maxLen at hm5
          by_cases hx0 : x < 0
          · have HB := Lib.hid (stepOk_bad (rs := ll rs) HX.out (fun hs => by have := hs.1; omega))
            go_wp2_with fail
            go_ret
            exact rightPost_no HB.out hrow.out.bel
          · by_cases hxn : (n1 : Int) ≤ x
            · have HB := Lib.hid (stepOk_bad (rs := ll rs) HX.out (fun hs => by have := hs.2.1; rw [← HNL.out] at this; omega))
              have hx0' : 0 ≤ x := by omega
              go_wp2_with fail
              go_ret
              exact rightPost_no HB.out hrow.out.bel
            · obtain ⟨x, rfl⟩ := Int.eq_ofNat_of_zero_le (show 0 ≤ x by omega)
              have hxl : x < n1 := by omega
              by_cases hin : decide ((x : Int) ∈ ts.take j) = true
              · have HCC := Lib.hid (containsI_any (ts.take j) A5 j c5 (x : Int) wr hlen.symm (by omega) HI5.out hin)
                have HB := Lib.hid (stepOk_bad (rs := ll rs) HX.out (fun hs => hs.2.2.1 (by simpa using hin)))
                clear hin hlen
                go_wp2_with fail
                refine HCC.out.mono ?_
                rintro e w' ⟨rfl, rfl⟩
                go_wp2_with fail
                go_ret
                exact rightPost_no HB.out hrow.out.bel
              · have hin' : decide ((x : Int) ∈ ts.take j) = false := by simpa using hin
                have HCC := Lib.hid (containsI_any (ts.take j) A5 j c5 (x : Int) wr hlen.symm (by omega) HI5.out hin')
                have HNI := Lib.hid (show (x : Int) ∉ ts.take j by simpa using hin); clear hin hin'
                obtain ⟨r, hr⟩ := get_of_lt HN.out hxl
                obtain ⟨b, off, rfl, hb, h0, hxm, hxs⟩ := H.out x r hr
                have g0 := (hrow.out.bel.cell (p := ⟨b, off + x, none⟩) hb).trans h0
                have HRK := Lib.hid (rowK_ll' hr); clear hr
                have HXS := Lib.hid hxs; clear hxs h0
                obtain ⟨tA, tc, txs⟩ := r
                dsimp only at g0 hxm HRK HXS
                generalize hm2 : txs.length = m at *
                have HM2 := Lib.hid hm2; clear hm2
                have HLEN := Lib.hid hlen; clear hlen
                have k0 : (0 : Int) ≤ (x : Int) := by omega
                have k1 : (x : Int) < (n1 : Int) := by omega
                go_wp2_with fail
                refine HCC.out.mono ?_
                rintro e w' ⟨rfl, rfl⟩
                go_wp2_with fail
                clear g0 g1
                go_loopg [44] m (fun kk i wi => ∃ q : Nat, kk = m - q ∧ q ≤ m ∧ i = .int .i64 q ∧ Hid (IRow w (.slice A5 j c5) (ts.take j) wi) ∧ Hid (∀ i, i < q → ∀ y, txs[i]? = some y → y ∈ ts.take j))
                case atStart => exact ⟨0, by omega, Nat.zero_le _, rfl, hrow.out, Lib.hid (fun i hi => by omega)⟩
                case round =>
                  clear HI5 HCC hrow
                  obtain ⟨q, hgk2, hq, rfl, hrow, hys⟩ := hrel
                  have HGK2 := Lib.hid hgk2; clear hgk2
                  by_cases hlt2 : q < m
                  · obtain ⟨y, hy⟩ := get_of_lt HM2.out.symm hlt2
                    obtain ⟨b3, off3, rfl, hb3, c0⟩ := HXS.out q y hy
                    have g3 := (hrow.out.bel.cell (p := ⟨b3, off3 + q, none⟩) hb3).trans c0
                    clear c0
                    obtain ⟨A6, c6, hA6, _, _, hi6⟩ := hrow.out.ints
                    injection hA6 with e1 e2 e3
                    subst e1 e3
                    by_cases hin : decide (y ∈ ts.take j) = true
                    · have HCC := Lib.hid (containsI_any (ts.take j) A5 j c5 y wr HLEN.out.symm (by omega) hi6 hin)
                      have HYY : Hid (∀ z, txs[q]? = some z → z ∈ ts.take j) := Lib.hid (fun z hz => by rw [hy] at hz; rw [← Option.some.inj hz]; simpa using hin)
                      clear hin hy hi6 e2
                      go_wp2_with fail
                      refine HCC.out.mono ?_
                      rintro e w' ⟨rfl, rfl⟩
                      go_wp2_with fail
                      go_roundg (m - (q + 1))
                      case measure => rw [HGK2.out]; omega
                      case rel => exact ⟨q+1, rfl, by omega, by go_num, hrow.out, Lib.hid (forall_lt_succ hys.out HYY.out)⟩
                    · have hin' : decide (y ∈ ts.take j) = false := by simpa using hin
                      have HCC := Lib.hid (containsI_any (ts.take j) A5 j c5 y wr HLEN.out.symm (by omega) hi6 hin')
                      have HB := Lib.hid (stepOk_bad (rs := ll rs) HX.out (fun hs => by
                        have := hs.2.2.2 y (by rw [Int.toNat_natCast, HRK.out]; exact List.mem_of_getElem? hy)
                        exact hin (by simpa using this)))
                      clear hin hin' hy hi6 e2
                      go_wp2_with fail
                      refine HCC.out.mono ?_
                      rintro e w' ⟨rfl, rfl⟩
                      go_wp2_with fail
                      go_ret
                      exact rightPost_no HB.out hrow.out.bel
                  · obtain rfl : q = m := by omega
                    have HOK : Hid (StepOk (ll rs) ts j (x : Int)) := Lib.hid ⟨by omega, by rw [← HNL.out]; omega, HNI.out, fun y hy => by
                      rw [Int.toNat_natCast, HRK.out] at hy
                      obtain ⟨i, hi⟩ := List.mem_iff_getElem?.1 hy
                      exact hys.out i (by rw [← HM2.out]; exact (List.getElem?_eq_some_iff.1 hi).1) y hi⟩
                    have HTK : Hid (ts.take (j+1) = ts.take j ++ [(x : Int)]) := Lib.hid (by rw [List.take_add_one, HX.out]; rfl)
                    have hnm : j + 1 ≤ 4294967296 := by omega
                    go_wp2_with (
                      at_builtin
                      refine wpList_append_one rfl (.tmp 53) (.tmp 55) _ rfl Try.underlying23 infoI rfl rfl (hrow.out.row HLEN.out) rfl rfl rfl (one_i _) hnm ?_
                      intro v5 w9 hR4 hb4
                      have HR4 := Lib.hid (IRow.add HLEN.out hR4)
                      clear hR4)
                    go_roundg (n1 - (j + 1))
                    case measure => rw [HGK.out]; omega
                    case rel => exact ⟨j+1, rfl, by omega, by go_num, HR4.out.re HTK.out, Lib.hid (forall_lt_succ hall.out (fun k hk => by rw [HX.out] at hk; rw [← Option.some.inj hk]; exact HOK.out))⟩
        · obtain rfl : j = n1 := by omega
          have HB : Hid (RightP (ll rs) ts) := Lib.hid ⟨HE.out, by rw [← HN1.out, HNL.out], fun i k hi => hall.out i (by rw [HN1.out]; exact (List.getElem?_eq_some_iff.1 hi).1) k hi⟩
          go_wp2_with fail
          go_ret
          exact rightPost_yes HB.out hrow.out.bel
    · have hd0 : ((n1 : Int) != (n : Int)) = true := by simp; omega
      have HB : Hid (¬ RightP (ll rs) ts) := Lib.hid (fun hr => hl (by rw [HN1.out, hr.2.1, HNL.out]))
      clear hl
      go_enter Try.func44, Try.ntmps44
      go_wp2_with fail
      refine HC.out.mono ?_
      rintro e w' ⟨rfl, rfl⟩
      go_wp2_with fail
      go_ret
      exact rightPost_no HB.out (Below.refl _ _)
  · have hne : (bErr (ll rs) != 0) = true := by simpa using he
    have HB : Hid (¬ RightP (ll rs) ts) := Lib.hid (fun hr => he hr.1)
    obtain ⟨eb, heb⟩ : ∃ eb, bErr (ll rs) = eb := ⟨_, rfl⟩
    rw [heb] at hne HC
    clear heb he
    go_enter Try.func44, Try.ntmps44
    go_wp2_with fail
    refine HC.out.mono ?_
    rintro e w' ⟨rfl, rfl⟩
    go_wp2_with fail
    go_ret
    exact rightPost_no HB.out (Below.refl _ _)

theorem getD_int (o : Option Int) : (o.map fun x : Int => (.int .i64 x : Value)).getD (.int .i64 0) = .int .i64 (o.getD 0) := by cases o <;> rfl

set_option maxHeartbeats 4000000 in
set_option maxRecDepth 20000 in
theorem rightof_any (rs : List Row) (A : Option Addr) (n c : Nat) (ts : List Int) (A1 : Option Addr) (n1 c1 : Nat) (w : World) (hn : n = rs.length) (hm : n ≤ 9223372036854775807) (h : RowsAt w w.heap.size A rs) (hn1 : n1 = ts.length) (hm1 : n1 ≤ 9223372036854775807) (hs : IntsAt w w.heap.size A1 ts) :
    Calls Try.prog 45 #[.slice A n c, .slice A1 n1 c1] w (RightPost (ll rs) ts w) := by
  have HC := Lib.hid (bfault_any rs A n c w hn hm h)
  have HN := Lib.hid hn
  have HNL := Lib.hid (show n = (ll rs).length by rw [ll_len]; exact hn); clear hn
  have HN1 := Lib.hid hn1; clear hn1
  have H := Lib.hid h; clear h
  have H1 := Lib.hid hs; clear hs
  by_cases he : bErr (ll rs) = 0
  · have HE := Lib.hid he
    have h40 : n ≤ 40 := by rw [HNL.out]; exact (bErr_vld he).le
    rw [HE.out] at HC
    clear he
    by_cases hl : n1 = n
    · subst hl
      have hd0 : ((n1 : Int) != (n1 : Int)) = false := by simp
      have HRF := Lib.hid (right_ref (p := ts) HE.out (by rw [← HN1.out]; exact HNL.out))
      have hmm := @run_makeMap Try.prog
      go_enter Try.func45, Try.ntmps45
      go_wp2_with fail
      refine HC.out.mono ?_
      rintro e w' ⟨rfl, rfl⟩
      go_wp2_with fail
      clear hmm
      have HM0 := Lib.hid (show IM (w.alloc (.map #[] 0)) w.heap.size [] from MapOf.made w)
      have hb0 := Lib.hid ((Below.refl w.heap.size w).alloc (Nat.le_refl _) (.map #[] 0))
      generalize w.alloc (.map #[] 0) = w0 at *
      go_loopg [27] n1 (fun k i wr => ∃ j : Nat, k = n1 - j ∧ j ≤ n1 ∧ i = .int .i64 j ∧ Hid (Below w.heap.size w wr) ∧ Hid (IM wr w.heap.size (lat ts j)))
      case atStart => exact ⟨0, by omega, Nat.zero_le _, rfl, hb0.out, HM0.out⟩
      case round =>
        clear HM0 hb0
        obtain ⟨j, hgk, hj, rfl, hbel, hM⟩ := hrel
        have HGK := Lib.hid hgk; clear hgk
        by_cases hlt : j < n1
        · obtain ⟨x, hx⟩ := get_of_lt HN1.out hlt
          obtain ⟨b1, off1, rfl, hb1, h1⟩ := H1.out j x hx
          have g1 := (hbel.out.cell (p := ⟨b1, off1 + j, none⟩) hb1).trans h1
          clear h1
          have HL := Lib.hid (lat_succ hx); clear hx
          obtain ⟨w', hrun, hM', hg⟩ := hM.out.update kInt Try.underlying87 x (j : Int)
          have HM' := Lib.hid hM'; clear hM'
          have HB' := Lib.hid (hbel.out.grown hg hbel.out.size (fun k hk => by injection hk with hk; omega)); clear hg
          go_wp2_with fail
          go_roundg (n1 - (j + 1))
          case measure => rw [HGK.out]; omega
          case rel => exact ⟨j+1, rfl, by omega, by go_num, HB'.out, by rw [HL.out]; exact HM'.out⟩
        · obtain rfl : j = n1 := by omega
          have HFULL : Hid (lat ts ts.length = lat ts j) := Lib.hid (by rw [HN1.out])
          go_wp2_with fail
          go_loopg [38] j (fun kk i wi => ∃ k : Nat, kk = j - k ∧ k ≤ j ∧ i = .int .i64 k ∧ Hid (Below w.heap.size w wi) ∧ Hid (IM wi w.heap.size (lat ts j)) ∧ Hid (∀ i, i < k → RefOk (ll rs) ts i))
          case atStart => exact ⟨0, by omega, Nat.zero_le _, rfl, hbel.out, hM.out, Lib.hid (fun i hi => by omega)⟩
          case round =>
            clear hbel hM
            obtain ⟨k, hgk2, hk, rfl, hbel, hM, hall⟩ := hrel
            have HGK2 := Lib.hid hgk2; clear hgk2
            by_cases hlt2 : k < j
            · obtain ⟨r, hr⟩ := get_of_lt HN.out hlt2
              obtain ⟨b, off, rfl, hb, h0, hxm, hxs⟩ := H.out k r hr
              have g0 := (hbel.out.cell (p := ⟨b, off + k, none⟩) hb).trans h0
              have HRK := Lib.hid (rowK_ll' hr); clear hr h0
              have HXS := Lib.hid hxs; clear hxs
              obtain ⟨tA, tc, txs⟩ := r
              dsimp only at g0 hxm HRK HXS
              generalize hm2 : txs.length = m at *
              have HM2 := Lib.hid hm2; clear hm2
              cases hv : aget (lat ts j) (k : Int) with
              | none =>
                have hlk := hM.out.lookup kInt Try.underlying87 (zInt wr) (k : Int) true (v := .int .i64 0) (by rw [hv]; rfl) (o := false) (by rw [hv]; rfl)
                simp only [if_true] at hlk
                have HB : Hid (¬ RightP (ll rs) ts) := Lib.hid (fun hr => by
                  obtain ⟨v, h1, _⟩ := HRF.out.1 hr k (by rw [← HNL.out]; exact hlt2)
                  rw [HFULL.out, hv] at h1
                  cases h1)
                clear hv
                go_wp2_with fail
                go_ret
                exact rightPost_no HB.out hbel.out
              | some v =>
                have hlk := hM.out.lookup kInt Try.underlying87 (zInt wr) (k : Int) true (v := .int .i64 v) (by rw [hv]; rfl) (o := true) (by rw [hv]; rfl)
                simp only [if_true] at hlk
                have HV := Lib.hid hv; clear hv
                go_wp2_with fail
                clear hlk g0
                go_loopg [53] m (fun kk i wi => ∃ q : Nat, kk = m - q ∧ q ≤ m ∧ i = .int .i64 q ∧ Hid (Below w.heap.size w wi) ∧ Hid (IM wi w.heap.size (lat ts j)) ∧ Hid (∀ i, i < q → ∀ y, txs[i]? = some y → (aget (lat ts j) y).getD 0 ≤ v))
                case atStart => exact ⟨0, by omega, Nat.zero_le _, rfl, hbel.out, hM.out, Lib.hid (fun i hi => by omega)⟩
                case round =>
                  clear hbel hM
                  obtain ⟨q, hgk3, hq, rfl, hbel, hM, hys⟩ := hrel
                  have HGK3 := Lib.hid hgk3; clear hgk3
                  by_cases hlt3 : q < m
                  · obtain ⟨y, hy⟩ := get_of_lt HM2.out.symm hlt3
                    obtain ⟨b3, off3, rfl, hb3, c0⟩ := HXS.out q y hy
                    have g3 := (hbel.out.cell (p := ⟨b3, off3 + q, none⟩) hb3).trans c0
                    clear c0
                    obtain ⟨u, hu⟩ : ∃ u, (aget (lat ts j) y).getD 0 = u := ⟨_, rfl⟩
                    have hl1 := hM.out.lookup kInt Try.underlying87 (zInt wr) y false (v := .int .i64 u) (by rw [← hu]; exact getD_int _) rfl
                    have hl2 := hM.out.lookup kInt Try.underlying87 (zInt wr) (k : Int) false (v := .int .i64 v) (by rw [HV.out]; rfl) rfl
                    simp only [Bool.false_eq_true, if_false] at hl1 hl2
                    by_cases huv : v < u
                    · have HB : Hid (¬ RightP (ll rs) ts) := Lib.hid (fun hr => by
                        obtain ⟨v', h1, h2⟩ := HRF.out.1 hr k (by rw [← HNL.out]; exact hlt2)
                        rw [HFULL.out, HV.out] at h1
                        have h3 := h2 y (by rw [HRK.out]; exact List.mem_of_getElem? hy)
                        rw [HFULL.out, hu] at h3
                        have := Option.some.inj h1
                        omega)
                      clear hy hu
                      go_wp2_with fail
                      go_ret
                      exact rightPost_no HB.out hbel.out
                    · have HYY : Hid (∀ z, txs[q]? = some z → (aget (lat ts j) z).getD 0 ≤ v) := Lib.hid (fun z hz => by rw [hy] at hz; rw [← Option.some.inj hz, hu]; omega)
                      have hvu : u ≤ v := by omega
                      clear hy hu huv
                      go_wp2_with fail
                      go_roundg (m - (q + 1))
                      case measure => rw [HGK3.out]; omega
                      case rel => exact ⟨q+1, rfl, by omega, by go_num, hbel.out, hM.out, Lib.hid (forall_lt_succ hys.out HYY.out)⟩
                  · obtain rfl : q = m := by omega
                    have HOK : Hid (RefOk (ll rs) ts k) := Lib.hid ⟨v, by rw [HFULL.out]; exact HV.out, fun y hy => by
                      rw [HRK.out] at hy
                      obtain ⟨i, hi⟩ := List.mem_iff_getElem?.1 hy
                      rw [HFULL.out]
                      exact hys.out i (by rw [← HM2.out]; exact (List.getElem?_eq_some_iff.1 hi).1) y hi⟩
                    go_wp2_with fail
                    go_roundg (j - (k + 1))
                    case measure => rw [HGK2.out]; omega
                    case rel => exact ⟨k+1, rfl, by omega, by go_num, hbel.out, hM.out, Lib.hid (forall_lt_succ hall.out HOK.out)⟩
            · obtain rfl : k = j := by omega
              have HB : Hid (RightP (ll rs) ts) := Lib.hid (HRF.out.2 (fun i hi => hall.out i (by rw [HNL.out]; exact hi)))
              go_wp2_with fail
              go_ret
              exact rightPost_yes HB.out hbel.out
    · have hd0 : ((n1 : Int) != (n : Int)) = true := by simp; omega
      have HB : Hid (¬ RightP (ll rs) ts) := Lib.hid (fun hr => hl (by rw [HN1.out, hr.2.1, HNL.out]))
      clear hl
      go_enter Try.func45, Try.ntmps45
      go_wp2_with fail
      refine HC.out.mono ?_
      rintro e w' ⟨rfl, rfl⟩
      go_wp2_with fail
      go_ret
      exact rightPost_no HB.out (Below.refl _ _)
  · have hne : (bErr (ll rs) != 0) = true := by simpa using he
    have HB : Hid (¬ RightP (ll rs) ts) := Lib.hid (fun hr => he hr.1)
    obtain ⟨eb, heb⟩ : ∃ eb, bErr (ll rs) = eb := ⟨_, rfl⟩
    rw [heb] at hne HC
    clear heb he
    go_enter Try.func45, Try.ntmps45
    go_wp2_with fail
    refine HC.out.mono ?_
    rintro e w' ⟨rfl, rfl⟩
    go_wp2_with fail
    go_ret
    exact rightPost_no HB.out (Below.refl _ _)
end Go.Proofs.Ytogjfmgecnoceaa
