/- Walks: PickOf (reference). -/
import Derived.Test.YtogjfmgecnoceaaOrdK
import Derived.Test.YtogjfmgecnoceaaOrdN
import Derived.Test.YtogjfmgecnoceaaBlkI
namespace Go.Proofs.Ytogjfmgecnoceaa
open Go.RowKit
set_option linter.unusedVariables false
set_option linter.unusedSimpArgs false

/-- what each waits for, in block g; what has been picked, in a row behind it -/
structure WK (w : World) (g : Nat) (v : Value) (ws out : List Int) (wr : World) : Prop where
  blk : IBlk wr g ws
  rows : RwsB (g + 1) [⟨v, 3, 1, out.length, cellsI out⟩] wr
  size : g + 1 ≤ wr.heap.size
  bel : Below w.heap.size w wr
section
variable {w wr w' : World} {g d : Nat} {v v' : Value} {ws ws' out : List Int}
theorem WK.setW (h : WK w g v ws out wr) (hw : w.heap.size ≤ g) (k : Nat) (y : Int) : WK w g v (ws.set k y) out (wr.setCell ⟨g, k, none⟩ (.int .i64 y)) :=
  ⟨h.blk.set_ k y, h.rows.setCell (p := ⟨g, k, none⟩) (Nat.lt_succ_self g) _, by simp; exact h.size, h.bel.setCell hw _⟩
theorem WK.re (h : WK w g v ws out wr) (e : ws' = ws) : WK w g v ws' out wr := e ▸ h
theorem WK.row (h : WK w g v ws out wr) (hd : out.length = d) : RwsB (g + 1) [⟨v, 3, 1, d, cellsI out⟩] wr := by subst hd; exact h.rows
theorem WK.add {x : Int} (h : WK w g v ws out wr) (hd : out.length = d) (hw : w.heap.size ≤ g)
    (hR : RwsB (g + 1) ([(⟨v, 3, 1, d, cellsI out⟩ : Rw)].set 0 ⟨v', 3, 1, d + 1, cellsI out ++ (#[.int .i64 x] : Array Value).toList⟩) w') (hk : ∀ k, k < g + 1 → w'.heap[k]? = wr.heap[k]?) (hb : Below (g + 1) wr w') : WK w g v' ws (out ++ [x]) w' := by
  subst hd
  have e : cellsI (out ++ [x]) = cellsI out ++ [.int .i64 x] := by simp [cellsI]
  refine ⟨(hk g (Nat.lt_succ_self g)).trans h.blk, ?_, Nat.le_trans h.size hb.size, h.bel.trans (hb.mono (by omega))⟩
  rw [e, List.length_append]
  exact hR
theorem WK.intsV (h : WK w g v ws out wr) : IntsV wr v out := by
  obtain ⟨A, c, e, h1, h2, h3⟩ := IntsAt.of_own (h.rows.own _ List.mem_cons_self)
  exact ⟨A, c, e, h1, h2, h3⟩
theorem WK.start (h : IBlk wr g ws) (hs : g + 1 ≤ wr.heap.size) (hb : Below w.heap.size w wr) : WK w g (.slice none 0 0) ws [] wr :=
  ⟨h, ⟨fun r hr => by rw [List.mem_singleton.1 hr]; exact ⟨rfl, .inl ⟨rfl, rfl⟩⟩, List.pairwise_singleton _ _⟩, hs, hb⟩
end
/-- the first numbers, up to q -/
def fillW (rs : List (List Int)) (q : Nat) : List Int := (List.range rs.length).map fun j => if j < q then ((rowK rs j).length : Int) else 0
theorem fillW_zero {rs : List (List Int)} {n : Nat} (hn : n = rs.length) : fillW rs 0 = List.replicate n 0 := by
  subst hn
  refine List.ext_getElem? fun j => ?_
  by_cases hj : j < rs.length <;> simp [fillW, hj]
theorem fillW_succ {rs : List (List Int)} {q m : Nat} (hm : (rowK rs q).length = m) : (fillW rs q).set q (m : Int) = fillW rs (q+1) := by
  subst hm
  refine map_set (fun j hj hjq => ?_) ?_
  · by_cases h : j < q
    · rw [if_pos h, if_pos (by omega)]
    · have h2 : ¬ j < q + 1 := by omega
      rw [if_neg h, if_neg h2]
  · rw [if_pos (by omega)]
theorem fillW_end {rs : List (List Int)} {n : Nat} (hn : n = rs.length) : fillW rs n = wts rs [] := by
  rw [← wts_nil (m := 0) n hn]
  subst hn
  unfold fillW
  exact List.map_congr_left fun j hj => by rw [if_pos (by simpa using hj)]
theorem fillW_get {rs : List (List Int)} {q : Nat} (h : q < rs.length) : (fillW rs q)[q]? = some 0 := by simp [fillW, h]
theorem rowK_ll {rs : List Row} {k : Nat} {r : Row} (h : rs[k]? = some r) : rowK (ll rs) k = r.xs := by unfold rowK; rw [ll_get h]; rfl

set_option maxHeartbeats 8000000 in
set_option maxRecDepth 20000 in
theorem pickof_any (rs : List Row) (A : Option Addr) (n c : Nat) (ts : List Int) (A1 : Option Addr) (n1 c1 : Nat) (w : World) (hn : n = rs.length) (hm : n ≤ 9223372036854775807) (h : RowsAt w w.heap.size A rs) (hn1 : n1 = ts.length) (hm1 : n1 ≤ 9223372036854775807) (hs : IntsAt w w.heap.size A1 ts) (hts : ∀ x ∈ ts, -9223372036854775808 ≤ x ∧ x ≤ 9223372036854775807) :
    Calls Try.prog 41 #[.slice A n c, .slice A1 n1 c1] w (PickPost (ll rs) ts w) := by
  have HC := Lib.hid (bfault_any rs A n c w hn hm h)
  have HN := Lib.hid hn
  have HNL := Lib.hid (show n = (ll rs).length by rw [ll_len]; exact hn); clear hn
  have HN1 := Lib.hid hn1; clear hn1
  have H := Lib.hid h; clear h
  have H1 := Lib.hid hs; clear hs
  have HTS := Lib.hid hts; clear hts
  by_cases he : bErr (ll rs) = 0
  · have hv := bErr_vld he
    have h40 : n ≤ 40 := by rw [HNL.out]; exact hv.le
    have HV := Lib.hid hv; clear hv
    have HE := Lib.hid he; clear he
    have HMK := Lib.hid (make_i n (by omega))
    rw [HE.out] at HC
    go_enter Try.func41, Try.ntmps41
    go_wp2_with fail
    refine HC.out.mono ?_
    rintro e w' ⟨rfl, rfl⟩
    have hmk := HMK.out
    go_wp2_with fail
    clear hmk
    have HI0 := Lib.hid ((IBlk.made w n).re (fillW_zero HNL.out))
    have hbw := Lib.hid ((Below.refl _ w).alloc (Nat.le_refl _) (.cells (Array.replicate n (.int .i64 0)) 3))
    have hgs : w.heap.size + 1 ≤ (w.alloc (.cells (Array.replicate n (.int .i64 0)) 3)).heap.size := by simp
    generalize hg : w.heap.size = g at hgs HI0 ⊢
    have hgw : w.heap.size ≤ g := Nat.le_of_eq hg
    have HG := Lib.hid hg; clear hg
    generalize w.alloc (.cells (Array.replicate n (.int .i64 0)) 3) = w2 at *
    have HGW := Lib.hid hgw
    go_loopg [30] n (fun k i wr => ∃ q : Nat, k = n - q ∧ q ≤ n ∧ i = .int .i64 q ∧ Hid (IBlk wr g (fillW (ll rs) q)) ∧ Hid (Below w.heap.size w wr) ∧ g + 1 ≤ wr.heap.size)
    case atStart => exact ⟨0, by omega, Nat.zero_le _, rfl, HI0.out, hbw.out, hgs⟩
    case round =>
      clear HI0 hbw hgs
      obtain ⟨q, hgk, hq, rfl, hblk, hbel, hgs⟩ := hrel
      have HGK := Lib.hid hgk; clear hgk
      by_cases hlt : q < n
      · obtain ⟨r, hr⟩ := get_of_lt HN.out hlt
        obtain ⟨b, off, rfl, hb, h0, hxm, hx⟩ := H.out q r hr
        have HRK := Lib.hid (rowK_ll hr); clear hr hx
        have g0 := (hbel.out.cell (p := ⟨b, off + q, none⟩) hb).trans h0
        clear h0
        obtain ⟨tA, tc, txs⟩ := r
        dsimp only at g0 hxm HRK
        generalize hm2 : txs.length = m2 at *
        have HST := Lib.hid (fillW_succ (rs := ll rs) (q := q) (m := m2) (by rw [HRK.out]; exact hm2)); clear hm2
        have g2 := hblk.out.cell (fillW_get (show q < (ll rs).length by rw [← HNL.out]; exact hlt))
        have g3 := hblk.out.frozen q
        go_wp2_with fail
        go_roundg (n - (q + 1))
        case measure => rw [HGK.out]; omega
        case rel => exact ⟨q+1, rfl, by omega, by go_num, (hblk.out.set_ q _).re HST.out.symm, hbel.out.setCell hgw _, by simp; exact hgs⟩
      · obtain rfl : q = n := by omega
        have HWK := Lib.hid (WK.start (hblk.out.re (fillW_end HNL.out).symm) hgs hbel.out)
        clear hblk hbel hgs
        go_wp2_with fail
        go_loopg [10, 43] q (fun k o i wr => ∃ d : Nat, k = q - d ∧ d ≤ q ∧ i = .int .i64 d ∧ Hid (WK w g o (wts (ll rs) (pickN (ll rs) ts d)) (pickN (ll rs) ts d) wr))
        case atStart => exact ⟨0, by omega, Nat.zero_le _, rfl, HWK.out⟩
        case round =>
          clear HWK
          obtain ⟨d, hgk, hd, rfl, hwk⟩ := hrel
          have HGK := Lib.hid hgk; clear hgk
          by_cases hlt : d < q
          · have HPK := Lib.hid (pickN_pk (by_ := ts) HV.out.low (k := d) (by rw [← HNL.out]; exact hd))
            have HCL := Lib.hid (pick_closed (by_ := ts) HV.out (k := d) (by rw [← HNL.out]; exact hd))
            have HNX : Hid (pickN (ll rs) ts (d+1) = pickS (ll rs) ts (pickN (ll rs) ts d)) := Lib.hid rfl
            have HRP := Lib.hid (ready_pos HV.out.low (done := pickN (ll rs) ts d) (by rw [HPK.out.len, ← HNL.out]; exact hlt))
            obtain ⟨done, hdone⟩ : ∃ done, pickN (ll rs) ts d = done := ⟨_, rfl⟩
            rw [hdone] at hwk HPK HCL HNX HRP
            clear hdone
            have HBD := Lib.hid (fun k (hk : k < q) => wt_bd HV.out done (k := k) (by rw [← HNL.out]; exact hk))
            have HWC := Lib.hid (fun (wi : World) (v : Value) (out : List Int) (h : WK w g v (wts (ll rs) done) out wi) (k : Nat) (hk : k < q) => h.blk.cell (wts_get (show k < (ll rs).length by rw [← HNL.out]; exact hk)))
            go_wp2_with fail
            go_loopg [12, 48] q (fun k s12 i wi => ∃ (k' m : Nat), k = q - k' ∧ k' ≤ q ∧ s12 = .int .i64 m ∧ i = .int .i64 k' ∧ Hid ((readyL (ll rs) done k').length = m) ∧ Hid (WK w g u10 (wts (ll rs) done) done wi))
            case atStart => exact ⟨0, 0, by omega, Nat.zero_le _, rfl, rfl, rfl, hwk.out⟩
            case round =>
              clear hwk
              obtain ⟨k, m, hgk2, hk, rfl, rfl, hml, hwk⟩ := hrel
              have HGK2 := Lib.hid hgk2; clear hgk2
              by_cases hlt2 : k < q
              · have HRD := Lib.hid (wt_rdy (rs := ll rs) (done := done) (k := k))
                have g0 := HWC.out wr u10 done hwk.out k hlt2
                have hmk : m ≤ k := by rw [← hml.out]; exact readyL_len _ _ _
                obtain ⟨x, hx⟩ : ∃ x, wt (ll rs) done k = x := ⟨_, rfl⟩
                rw [hx] at g0 HRD
                clear hx
                by_cases hx0 : x = 0
                · have HY := Lib.hid (readyL_yes (rs := ll rs) (done := done) (k := k) (by rw [HRD.out, hx0]; rfl))
                  have hd0 : (x == 0) = true := by simp [hx0]
                  clear hx0
                  go_wp2_with fail
                  go_roundg (q - (k + 1))
                  case measure => rw [HGK2.out]; omega
                  case rel => exact ⟨k+1, m+1, rfl, by omega, by go_num, by go_num, by rw [HY.out, List.length_append, hml.out]; rfl, hwk.out⟩
                · have HY := Lib.hid (readyL_no (rs := ll rs) (done := done) (k := k) (by rw [HRD.out]; exact decide_eq_false hx0))
                  have hd0 : (x == 0) = false := by simp [hx0]
                  clear hx0
                  go_wp2_with fail
                  go_roundg (q - (k + 1))
                  case measure => rw [HGK2.out]; omega
                  case rel => exact ⟨k+1, m, rfl, by omega, rfl, by go_num, by rw [HY.out]; exact hml.out, hwk.out⟩
              · obtain rfl : k = q := by omega
                have hmp : 0 < m := by rw [← hml.out, HNL.out]; exact HRP.out
                have hmk : m ≤ k := by rw [← hml.out]; exact readyL_len _ _ _
                have HPI := Lib.hid (pickI_bd (by_ := ts) (d := d) hmp)
                go_upto_if 60 with (fail)
                go_cut [15] (fun s15 wc => s15 = .int .i64 (pickI ts d m) ∧ wc = wr)
                case first =>
                  by_cases hby : d < n1
                  · obtain ⟨bv, hbv⟩ := get_of_lt HN1.out hby
                    obtain ⟨b1, off1, rfl, hb1, h1⟩ := H1.out d bv hbv
                    have g1 := (hwk.out.bel.cell (p := ⟨b1, off1 + d, none⟩) hb1).trans h1
                    obtain ⟨z1, z2⟩ := HTS.out bv (List.mem_of_getElem? hbv)
                    have HI : Hid ((bv.tmod (m : Int) + m).tmod (m : Int) = pickI ts d m) := Lib.hid (by
                      rw [rem_pick hmp]; unfold pickI; rw [← HN1.out, if_pos hby, nth_get hbv])
                    clear hbv h1
                    have r1 := Int.tmod_lt_of_pos bv (show (0 : Int) < (m : Int) by omega)
                    have r2 : -(m : Int) < bv.tmod (m : Int) := Int.lt_tmod_of_pos _ (by omega)
                    have hm0 : ((m : Int) == 0) = false := by simp; omega
                    have hm1 : m ≠ 0 := by omega
                    obtain ⟨rv, hrv⟩ : ∃ rv, bv.tmod (m : Int) = rv := ⟨_, rfl⟩
                    rw [hrv] at r1 r2 HI
                    have HI2 : Hid ((rv + (m : Int)) % (m : Int) = pickI ts d m) := Lib.hid (by rw [← Int.tmod_eq_emod_of_nonneg (by omega)]; exact HI.out)
                    go_wp2_with fail
                    go_meet
                    exact ⟨by rw [HI2.out], rfl⟩
                  · have HI : Hid (pickI ts d m = 0) := Lib.hid (by unfold pickI; rw [← HN1.out, if_neg hby])
                    go_wp2_with fail
                    go_meet
                    exact ⟨by rw [HI.out], rfl⟩
                case rest =>
                  obtain ⟨rfl, rfl⟩ := hcut
                  go_wp2_with fail
                  go_loopg [10, 15, 73] k (fun kk o b i wi => ∃ (j : Nat) (z : Int), kk = k - j ∧ j ≤ k ∧ o = u10 ∧ b = .int .i64 z ∧ i = .int .i64 j ∧ 0 ≤ z ∧ z ≤ 40 ∧ Hid (z = pickI ts d m - (readyL (ll rs) done j).length) ∧ Hid (WK w g u10 (wts (ll rs) done) done wi))
                  case atStart => exact ⟨0, pickI ts d m, by omega, Nat.zero_le _, rfl, rfl, rfl, HPI.out.1, by have := HPI.out.2; omega, Lib.hid (by simp [readyL]), hwk.out⟩
                  case round =>
                    clear hwk
                    obtain ⟨j, z, hgk3, hj, ho, rfl, rfl, hz0, hz40, hzz, hwk⟩ := hrel
                    subst ho
                    have HGK3 := Lib.hid hgk3; clear hgk3
                    by_cases hlt3 : j < k
                    · have HRD := Lib.hid (wt_rdy (rs := ll rs) (done := done) (k := j))
                      have g0 := HWC.out wr _ done hwk.out j hlt3
                      obtain ⟨x, hx⟩ : ∃ x, wt (ll rs) done j = x := ⟨_, rfl⟩
                      have HX := Lib.hid hx
                      rw [hx] at g0 HRD
                      clear hx
                      by_cases hx0 : x = 0
                      · have HR0 : Hid (rdy (ll rs) done j = true) := Lib.hid (by rw [HRD.out, hx0]; rfl)
                        have hd0 : (x != 0) = false := by simp [hx0]
                        clear hx0
                        by_cases hzc : z = 0
                        · have hz1 : (z == 0) = true := by simp [hzc]
                          have HNEW : Hid (pickN (ll rs) ts (d+1) = done ++ [(j : Int)]) := Lib.hid (by
                            rw [HNX.out]
                            exact pick_hit HNL.out hlt3 HR0.out (by rw [HPK.out.len, hml.out]; have := hzz.out; omega))
                          have hjl : j < (ll rs).length := by rw [← HNL.out]; exact hlt3
                          have HJL := Lib.hid hjl
                          have HWG := Lib.hid (wts_get (done := done) hjl); clear hjl
                          have hdl : d + 1 ≤ 4294967296 := by omega
                          have hsz := hwk.out.size
                          have hrow := Lib.hid (hwk.out.row HPK.out.len)
                          clear hzc
                          go_wp2_with (
                            at_builtin
                            refine wpList_append_at (i := 0) rfl (.tmp 82) (.tmp 84) _ rfl Try.underlying23 infoI rfl rfl hrow.out hsz rfl rfl rfl rfl (one_i _) hdl ?_
                            intro v4 w4 hR4 hk4 hb4 h14
                            have HW4 := Lib.hid (hwk.out.add HPK.out.len HGW.out hR4 hk4 hb4)
                            have g5 := HW4.out.blk.cell HWG.out
                            have g6 := HW4.out.blk.frozen j
                            clear hR4 hk4 hb4)
                          have HW5 := Lib.hid ((HW4.out.setW HGW.out j (-1)).re (wtsM_zero HJL.out).symm)
                          clear g5 g6 g0 hwk hrow
                          go_loopg [91] k (fun kk i wi => ∃ q : Nat, kk = k - q ∧ q ≤ k ∧ i = .int .i64 q ∧ Hid (WK w g v4 (wtsM (ll rs) done j q) (done ++ [(j : Int)]) wi))
                          case atStart => exact ⟨0, by omega, Nat.zero_le _, rfl, HW5.out⟩
                          case round =>
                            clear HW5 HW4
                            obtain ⟨q, hgk4, hq, rfl, hwk⟩ := hrel
                            have HGK4 := Lib.hid hgk4; clear hgk4
                            by_cases hlt4 : q < k
                            · obtain ⟨r, hr⟩ := get_of_lt HN.out hlt4
                              obtain ⟨b, off, rfl, hb, h0, hxm, hx⟩ := H.out q r hr
                              have g1 := (hwk.out.bel.cell (p := ⟨b, off + q, none⟩) hb).trans h0
                              have HR := Lib.hid (rowK_ll hr); clear hr
                              have HXS := Lib.hid ((hx.below hwk.out.bel (Nat.le_refl _)).more hwk.out.bel.size); clear hx h0
                              obtain ⟨tA, tc, txs⟩ := r
                              dsimp only at g1 hxm HR HXS
                              generalize hm2 : txs.length = m2 at *
                              have HM2 := Lib.hid hm2; clear hm2
                              have hql : q < (ll rs).length := by rw [← HNL.out]; exact hlt4
                              have HQL := Lib.hid hql; clear hql
                              by_cases hin : decide ((j : Int) ∈ txs) = true
                              · have HCC := Lib.hid (containsI_any txs tA m2 tc (j : Int) wr HM2.out.symm (by omega) HXS.out hin)
                                obtain ⟨x2, hx2⟩ : ∃ x2, (wtsM (ll rs) done j q)[q]? = some x2 := ⟨_, wtsM_get HQL.out⟩
                                have HXB : Hid (-1 ≤ x2 ∧ x2 ≤ 40) := Lib.hid (by
                                  rw [wtsM_get HQL.out, if_neg (by omega)] at hx2
                                  have h3 := HBD.out q hlt4
                                  have h4 := Option.some.inj hx2
                                  split at h4 <;> omega)
                                obtain ⟨hxb1, hxb2⟩ := HXB.out
                                have HY := Lib.hid (wtsM_yes HV.out HCL.out HR0.out HQL.out (by rw [HR.out]; simpa using hin) hx2)
                                have g5 := hwk.out.blk.cell hx2
                                have g6 := hwk.out.blk.frozen q
                                clear hin hx2 HXB
                                go_wp2_with fail
                                refine HCC.out.mono ?_
                                rintro e w' ⟨rfl, rfl⟩
                                go_wp2_with fail
                                go_roundg (k - (q + 1))
                                case measure => rw [HGK4.out]; omega
                                case rel => exact ⟨q+1, rfl, by omega, by go_num, (hwk.out.setW HGW.out q _).re HY.out.symm⟩
                              · have hin' : decide ((j : Int) ∈ txs) = false := by simpa using hin
                                have HCC := Lib.hid (containsI_any txs tA m2 tc (j : Int) wr HM2.out.symm (by omega) HXS.out hin')
                                have HY := Lib.hid (wtsM_no (m := q) HV.out HCL.out HR0.out (by rw [HR.out]; simpa using hin))
                                clear hin hin'
                                go_wp2_with fail
                                refine HCC.out.mono ?_
                                rintro e w' ⟨rfl, rfl⟩
                                go_wp2_with fail
                                go_roundg (k - (q + 1))
                                case measure => rw [HGK4.out]; omega
                                case rel => exact ⟨q+1, rfl, by omega, by go_num, hwk.out.re HY.out.symm⟩
                            · obtain rfl : q = k := by omega
                              go_wp2_with fail
                              go_roundg (q - (d + 1))
                              case measure => rw [HGK.out]; omega
                              case rel => exact ⟨d+1, rfl, by omega, by go_num, by rw [HNEW.out]; exact hwk.out.re (wtsM_end HNL.out).symm⟩
                        · have hz1 : (z == 0) = false := by simp [hzc]
                          have hz2 : 0 < z := by omega
                          have HY := Lib.hid (readyL_yes HR0.out)
                          clear hzc
                          go_wp2_with fail
                          go_roundg (k - (j + 1))
                          case measure => rw [HGK3.out]; omega
                          case rel => exact ⟨j+1, z-1, rfl, by omega, rfl, by go_num, by go_num, by omega, by omega, Lib.hid (by have := hzz.out; rw [HY.out, List.length_append]; simp; omega), hwk.out⟩
                      · have HY := Lib.hid (readyL_no (rs := ll rs) (done := done) (k := j) (by rw [HRD.out]; exact decide_eq_false hx0))
                        have hd0 : (x != 0) = true := by simp [hx0]
                        clear hx0
                        go_wp2_with fail
                        go_roundg (k - (j + 1))
                        case measure => rw [HGK3.out]; omega
                        case rel => exact ⟨j+1, z, rfl, by omega, rfl, rfl, by go_num, hz0, hz40, by rw [HY.out]; exact hzz.out, hwk.out⟩
                    · obtain rfl : j = k := by omega
                      have h1 := hzz.out
                      rw [hml.out] at h1
                      have h2 := HPI.out.2
                      exact absurd h1 (by omega)
          · obtain rfl : d = q := by omega
            have HIV := Lib.hid hwk.out.intsV
            have hbel := hwk.out.bel
            go_wp2_with fail
            go_ret2
            exact ⟨_, by rw [HE.out]; rfl, by rw [if_pos HE.out, ← HNL.out]; exact HIV.out, hbel⟩
  · have hne : (bErr (ll rs) != 0) = true := by simpa using he
    obtain ⟨eb, heb⟩ : ∃ eb, bErr (ll rs) = eb := ⟨_, rfl⟩
    rw [heb] at hne he HC
    have HE := Lib.hid heb; clear heb
    have HNE := Lib.hid he; clear he
    go_enter Try.func41, Try.ntmps41
    go_wp2_with fail
    refine HC.out.mono ?_
    rintro e w' ⟨rfl, rfl⟩
    go_wp2_with fail
    go_ret2
    exact pickPost_bad HE.out HNE.out
end Go.Proofs.Ytogjfmgecnoceaa
