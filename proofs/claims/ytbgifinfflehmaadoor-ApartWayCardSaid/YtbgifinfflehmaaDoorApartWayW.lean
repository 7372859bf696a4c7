/- Joined texts. -/
import Derived.Test.YtbgifinfflehmaaDoorAp6
import Derived.Test.YtbgifinfflehmaaDoorPoW
import Derived.LoopN

/- The walk of ApartWay (printed by lawvec.py). -/
namespace Go.Proofs.YtbgifinfflehmaaDoor
open Go.RowKit
set_option linter.unusedVariables false
set_option linter.unusedSimpArgs false

set_option maxHeartbeats 8000000 in
set_option maxRecDepth 20000 in
theorem apartWay_far {A0 A1 : Option Addr} {n0 c0 n1 c1 : Nat} {xs0 xs1 : List Int} (x y u v i_ k_ : Int) (w : World) (hi0 : Ints w A0 n0 c0 xs0) (hi1 : Ints w A1 n1 c1 xs1) (hx0 : -9223372036854775808 ≤ x) (hx1 : x ≤ 9223372036854775807) (hy0 : -9223372036854775808 ≤ y) (hy1 : y ≤ 9223372036854775807) (hu0 : -9223372036854775808 ≤ u) (hu1 : u ≤ 9223372036854775807) (hv0 : -9223372036854775808 ≤ v) (hv1 : v ≤ 9223372036854775807) (hi_0 : -9223372036854775808 ≤ i_) (hi_1 : i_ ≤ 9223372036854775807) (hk_0 : -9223372036854775808 ≤ k_) (hk_1 : k_ ≤ 9223372036854775807) (hT : Tab w) (hfar : ¬ ratMq u * ratMq u + ratMq v * ratMq v < sqQ (polyQ xs0) (mvP (cosT (tdH u) (tdT u)) (sinT (tdT u)) (ratMq x) (ratMq y) (polyQ xs1))) :
    Calls Tryd.prog 4 #[.slice A0 n0 c0, .slice A1 n1 c1, .int .i64 x, .int .i64 y, .int .i64 u, .int .i64 v, .int .i64 i_, .int .i64 k_] w fun e w' => e = .returned (.bool true) ∧ Below w.heap.size w w' := by
  have Ix := Lib.hid (And.intro hx0 hx1); clear hx0 hx1
  have Iy := Lib.hid (And.intro hy0 hy1); clear hy0 hy1
  have Iu := Lib.hid (And.intro hu0 hu1); clear hu0 hu1
  have Iv := Lib.hid (And.intro hv0 hv1); clear hv0 hv1
  have Ii_ := Lib.hid (And.intro hi_0 hi_1); clear hi_0 hi_1
  have Ik_ := Lib.hid (And.intro hk_0 hk_1); clear hk_0 hk_1
  have HT := Lib.hid hT; clear hT
  have HI0 := Lib.hid hi0; clear hi0
  have HI1_ := Lib.hid hi1; clear hi1
  obtain ⟨fx, efx⟩ : ∃ r_, ratMq x = r_ := ⟨_, rfl⟩
  have Z_fx := Lib.hid (show Rz 2 fx from efx ▸ (ratMq_small x).rz.more (by omega))
  have Efx := Lib.hid efx; clear efx
  obtain ⟨fy, efy⟩ : ∃ r_, ratMq y = r_ := ⟨_, rfl⟩
  have Z_fy := Lib.hid (show Rz 2 fy from efy ▸ (ratMq_small y).rz.more (by omega))
  have Efy := Lib.hid efy; clear efy
  obtain ⟨ha, eha⟩ : ∃ r_, tdH u = r_ := ⟨_, rfl⟩
  obtain ⟨ta, eta⟩ : ∃ r_, tdT u = r_ := ⟨_, rfl⟩
  have Eha := Lib.hid (And.intro eha eta)
  have Gha := Lib.hid (show GoodT ha ta from eha ▸ eta ▸ td_good u)
  have Z_ta := Lib.hid (show Rz 2 ta from eta ▸ td_rz u); clear eha eta
  obtain ⟨gx, egx⟩ : ∃ r_, ratMq u = r_ := ⟨_, rfl⟩
  have Z_gx := Lib.hid (show Rz 2 gx from egx ▸ (ratMq_small u).rz.more (by omega))
  have Egx := Lib.hid egx; clear egx
  obtain ⟨gy, egy⟩ : ∃ r_, ratMq v = r_ := ⟨_, rfl⟩
  have Z_gy := Lib.hid (show Rz 2 gy from egy ▸ (ratMq_small v).rz.more (by omega))
  have Egy := Lib.hid egy; clear egy
  have CS := cos_sin ha ta Gha.out
  rw [Efx.out, Efy.out, Eha.out.1, Eha.out.2, Egx.out, Egy.out] at hfar
  obtain ⟨ps, hps⟩ : ∃ z, polyQ xs0 = z := ⟨_, rfl⟩
  obtain ⟨n, hn⟩ : ∃ z, ps.length = z := ⟨_, rfl⟩
  have hlen_ps := polyQ_len xs0
  rw [hps, hn] at hlen_ps
  have hcv_ps := polyQ_cvx xs0
  rw [hps] at hcv_ps
  have hz_ps := polyQ_z xs0
  rw [hps] at hz_ps
  obtain ⟨rs, hrs⟩ : ∃ z, polyQ xs1 = z := ⟨_, rfl⟩
  obtain ⟨m, hm⟩ : ∃ z, rs.length = z := ⟨_, rfl⟩
  have hlen_rs := polyQ_len xs1
  rw [hrs, hm] at hlen_rs
  have hcv_rs := polyQ_cvx xs1
  rw [hrs] at hcv_rs
  have hz_rs := polyQ_z xs1
  rw [hrs] at hz_rs
  rw [hps, hrs] at hfar
  obtain ⟨qs, hqs⟩ : ∃ z, mvP (cosT ha ta) (sinT ta) fx fy rs = z := ⟨_, rfl⟩
  have hcv_qs := cvx_mv CS hcv_rs (tx := fx) (ty := fy)
  have hz_qs : Pz 231 qs := by rw [← hqs]; exact mvP_z (ha := ha) Z_fx.out Z_fy.out Z_ta.out hz_rs
  have hl_qs : qs.length = m := by rw [← hqs, mvP_len]; exact hm
  rw [hqs] at hcv_qs hfar
  obtain ⟨qw, hqw⟩ : ∃ z, mvP (cosT false 0) (sinT 0) gx gy qs = z := ⟨_, rfl⟩
  have hc1 : cosT false 0 = 1 := by unfold cosT; decide +kernel
  have hs1 : sinT 0 = 0 := by unfold sinT; decide +kernel
  have hcv_qw := cvx_mv (c := cosT false 0) (s := sinT 0) (by rw [hc1, hs1]; decide +kernel) hcv_qs (tx := gx) (ty := gy)
  have hz_qw : Pz 40000 qw := by rw [← hqw]; exact (mvP_z (k := 231) (ha := false) (Z_gx.out.more (by omega)) (Z_gy.out.more (by omega)) (Rz.zero2.more (by omega)) hz_qs).more (by omega)
  have hl_qw : qw.length = m := by rw [← hqw, mvP_len]; exact hl_qs
  rw [hqw] at hcv_qw
  obtain ⟨mt, hmt⟩ : ∃ z, meetB ps qw = z := ⟨_, rfl⟩
  obtain ⟨d, hd⟩ : ∃ z, sqQ ps qs = z := ⟨_, rfl⟩
  obtain ⟨j1, hj1⟩ : ∃ z, belowN i_ n = z := ⟨_, rfl⟩
  obtain ⟨j2, hj2⟩ : ∃ z, belowN k_ m = z := ⟨_, rfl⟩
  have hj1n : j1 < n := hj1 ▸ belowN_lt i_ (by omega)
  have hj2m : j2 < m := hj2 ▸ belowN_lt k_ (by omega)
  have hcf := corner_far (a := ps) (b := qs) (by omega) (by omega) (show j1 < ps.length by omega) (show j2 < qs.length by omega)
  rw [hd] at hcf hfar
  have Z_d := Lib.hid (show Rz 10000000 d from hd ▸ (sqQ_rz (k := 231) (hz_ps.more (by omega)) hz_qs (by omega) (by omega)).more (by omega))
  obtain ⟨v1, hv1, r1⟩ : ∃ z, cmpQ d ((px ps j1 - px qs j2) * (px ps j1 - px qs j2) + (py ps j1 - py qs j2) * (py ps j1 - py qs j2)) = z ∧ decide (z ≤ 0) = true := ⟨_, rfl, decide_eq_true (cmp_le hcf)⟩
  obtain ⟨v2, hv2, r2⟩ : ∃ z, cmpQ (gx * gx + gy * gy) d = z ∧ decide (0 ≤ z) = true := ⟨_, rfl, decide_eq_true (cmp_le_iff.2 (by grind))⟩
  have HV1 := Lib.hid hv1; clear hv1 hcf
  have HV2 := Lib.hid hv2; clear hv2 hfar
  have HD := Lib.hid (show sqQ ps qs = d ∧ True from ⟨hd, trivial⟩); clear hd
  have HMT := Lib.hid hmt; clear hmt
  have HJ := Lib.hid (And.intro hj1n (And.intro hj2m (And.intro hj1 hj2))); clear hj1n hj2m hj1 hj2
  have HPM := Lib.hid (show (0 < n ∧ n ≤ 1048576) ∧ 0 < m ∧ m ≤ 1048576 from ⟨⟨by omega, by omega⟩, by omega, by omega⟩)
  have HCP := Lib.hid (show 3 ≤ n ∧ n ≤ 8 ∧ Cvx ps from ⟨by omega, by omega, hcv_ps⟩)
  have HCR := Lib.hid (show 3 ≤ m ∧ m ≤ 8 ∧ Cvx rs from ⟨by omega, by omega, hcv_rs⟩)
  have HCQ := Lib.hid (show 3 ≤ m ∧ m ≤ 8 ∧ Cvx qs from ⟨by omega, by omega, hcv_qs⟩)
  have HCW := Lib.hid (show 3 ≤ m ∧ m ≤ 8 ∧ Cvx qw from ⟨by omega, by omega, hcv_qw⟩)
  clear hcv_ps hcv_rs hcv_qs hcv_qw hlen_ps hlen_rs CS hc1 hs1
  have HZP := Lib.hid hz_ps; clear hz_ps
  have HZR := Lib.hid hz_rs; clear hz_rs
  have HZQ := Lib.hid hz_qs; clear hz_qs
  have HZW := Lib.hid hz_qw; clear hz_qw
  have HL := Lib.hid hn; clear hn
  have HLR := Lib.hid hm; clear hm
  have HLQ := Lib.hid hl_qs; clear hl_qs
  have HLW := Lib.hid hl_qw; clear hl_qw
  have HPS := Lib.hid hps; clear hps
  have HRS := Lib.hid hrs; clear hrs
  have HQS := Lib.hid hqs; clear hqs
  have HQW := Lib.hid hqw; clear hqw
  go_enter Tryd.func4, Tryd.ntmps4
  have HS : St w [] w := St.start
  go_upto_region 0 with (fail)
  refine wp_seq_text [] (StR.no HS) ?_
  refine Seq.pure rfl rfl (by intro w; go_simp; try first | with_reducible rfl | rfl) ?_
  simp only [Act.put, List.setIfInBounds_toArray, List.set_cons_zero, List.set_cons_succ]
  refine Seq.done fun ws1 hws => ?_
  have HS1 := hws.st
  clear HS hws
  go_upto_region 1 with (fail)
  refine wp_seq_text [] (StR.no HS1) ?_
  refine Seq.call rfl rfl rfl rfl (by kernel_rfl) (abegun_q HT.out) ?_
  simp only [Act.put, List.setIfInBounds_toArray, List.set_cons_zero, List.set_cons_succ]
  refine Seq.pure rfl rfl (by intro w; go_simp; try first | with_reducible rfl | rfl) ?_
  simp only [Act.put, List.setIfInBounds_toArray, List.set_cons_zero, List.set_cons_succ]
  refine Seq.done fun ws2 hws => ?_
  have HS2 := hws.st
  clear HS1 hws
  go_upto_region 3 with (fail)
  refine wp_seq_text [1000001, 1000007, 1000008] (StR.no HS2) ?_
  refine Seq.pure rfl rfl (by intro w; go_simp; try first | with_reducible rfl | rfl) ?_
  simp only [Act.put, List.setIfInBounds_toArray, List.set_cons_zero, List.set_cons_succ]
  refine Seq.callFresh (n := some n) (x := (30, PC ps)) rfl rfl rfl rfl (by kernel_rfl) (fun w h => poly_G HI0.out HPS.out HL.out w h.st) ?_
  intro bk28 _ _ hbk28_r
  simp only [mk]
  simp only [Act.put, List.setIfInBounds_toArray, List.set_cons_zero, List.set_cons_succ]
  refine Seq.pure rfl rfl (by intro w; go_simp; try first | with_reducible rfl | rfl) ?_
  simp only [Act.put, List.setIfInBounds_toArray, List.set_cons_zero, List.set_cons_succ]
  refine Seq.pure rfl rfl (by intro w; go_simp; try first | with_reducible rfl | rfl) ?_
  simp only [Act.put, List.setIfInBounds_toArray, List.set_cons_zero, List.set_cons_succ]
  refine Seq.pure rfl rfl (by intro w; go_simp; try first | with_reducible rfl | rfl) ?_
  simp only [Act.put, List.setIfInBounds_toArray, List.set_cons_zero, List.set_cons_succ]
  refine Seq.call rfl rfl rfl rfl (by kernel_rfl) (framed_q HT.out Ix.out Iy.out Iu.out Efx.out Efy.out Eha.out.1 Eha.out.2) ?_
  simp only [Act.put, List.setIfInBounds_toArray, List.set_cons_zero, List.set_cons_succ]
  refine Seq.pure rfl rfl (by intro w; go_simp; try first | with_reducible rfl | rfl) ?_
  simp only [Act.put, List.setIfInBounds_toArray, List.set_cons_zero, List.set_cons_succ]
  refine Seq.callFresh (n := some m) (x := (30, PC rs)) rfl rfl rfl rfl (by kernel_rfl) (fun w h => poly_G HI1_.out HRS.out HLR.out w h.st) ?_
  intro bk34 _ _ hbk34_r
  obtain ⟨ne_bk34_bk28, hbk34_r⟩ := Reg.ne_of_put hbk34_r
  have ne_bk28_bk34 := Ne.symm ne_bk34_bk28
  simp only [mk]
  simp only [Act.put, List.setIfInBounds_toArray, List.set_cons_zero, List.set_cons_succ]
  refine Seq.callFresh (n := some m) (x := (30, PC qs)) rfl rfl rfl rfl (by kernel_rfl) (fun w h => flist_G (k := 2) HT.out (Z_fx.out.more (by omega)) (Z_fy.out.more (by omega)) (Z_ta.out.more (by omega)) Gha.out (HZR.out.more (by omega)) HLR.out (by have := HCR.out.2.1; omega) HQS.out (by omega) _ w h.st (h.reg _ _ _ (by first | exact rS | exact rN (by assumption) (rS) | exact rN (by assumption) (rN (by assumption) (rS)) | exact rN (by assumption) (rN (by assumption) (rN (by assumption) (rS))) | exact rN (by assumption) (rN (by assumption) (rN (by assumption) (rN (by assumption) (rS)))))).2.2) ?_
  intro bk35 _ _ hbk35_r
  obtain ⟨ne_bk35_bk34, hbk35_r⟩ := Reg.ne_of_put hbk35_r
  have ne_bk34_bk35 := Ne.symm ne_bk35_bk34
  obtain ⟨ne_bk35_bk28, hbk35_r⟩ := Reg.ne_of_put hbk35_r
  have ne_bk28_bk35 := Ne.symm ne_bk35_bk28
  simp only [mk]
  simp only [Act.put, List.setIfInBounds_toArray, List.set_cons_zero, List.set_cons_succ]
  refine Seq.pure rfl rfl (by intro w; go_simp; try first | with_reducible rfl | rfl) ?_
  simp only [Act.put, List.setIfInBounds_toArray, List.set_cons_zero, List.set_cons_succ]
  refine Seq.pure rfl rfl (by intro w; go_simp; try first | with_reducible rfl | rfl) ?_
  simp only [Act.put, List.setIfInBounds_toArray, List.set_cons_zero, List.set_cons_succ]
  refine Seq.done fun ws3 hws => ?_
  have HS3 : St w [(bk28, 30, PC ps), (bk34, 30, PC rs), (bk35, 30, PC qs)] ws3 := hws.list3 (by first | exact rS | exact rN (by assumption) (rS) | exact rN (by assumption) (rN (by assumption) (rS)) | exact rN (by assumption) (rN (by assumption) (rN (by assumption) (rS))) | exact rN (by assumption) (rN (by assumption) (rN (by assumption) (rN (by assumption) (rS))))) (by first | exact rS | exact rN (by assumption) (rS) | exact rN (by assumption) (rN (by assumption) (rS)) | exact rN (by assumption) (rN (by assumption) (rN (by assumption) (rS))) | exact rN (by assumption) (rN (by assumption) (rN (by assumption) (rN (by assumption) (rS))))) (by first | exact rS | exact rN (by assumption) (rS) | exact rN (by assumption) (rN (by assumption) (rS)) | exact rN (by assumption) (rN (by assumption) (rN (by assumption) (rS))) | exact rN (by assumption) (rN (by assumption) (rN (by assumption) (rN (by assumption) (rS))))) (by assumption) (by assumption) (by assumption)
  clear HS2 hws
  go_upto_region 4 with (fail)
  refine wp_seq_text [] (StR.no HS3) ?_
  refine Seq.pure rfl rfl (by intro w; go_simp; try first | with_reducible rfl | rfl) ?_
  simp only [Act.put, List.setIfInBounds_toArray, List.set_cons_zero, List.set_cons_succ]
  refine Seq.pure rfl rfl (by intro w; go_simp; try first | with_reducible rfl | rfl) ?_
  simp only [Act.put, List.setIfInBounds_toArray, List.set_cons_zero, List.set_cons_succ]
  refine Seq.call rfl rfl rfl rfl (by kernel_rfl) (fun w h => sq_q2 (k := 231) HT.out (HZP.out.more (by omega)) HL.out ⟨HCP.out.1, by have := HCP.out.2.1; omega, HCP.out.2.2⟩ (HZQ.out.more (by omega)) HLQ.out ⟨HCQ.out.1, by have := HCQ.out.2.1; omega, HCQ.out.2.2⟩ HD.out.1 (by omega) _ _ w h (h.blk (bk28, _, _) (by repeat (first | exact mC | apply mT))).2 (h.blk (bk35, _, _) (by repeat (first | exact mC | apply mT))).2) ?_
  simp only [Act.put, List.setIfInBounds_toArray, List.set_cons_zero, List.set_cons_succ]
  refine Seq.pure rfl rfl (by intro w; go_simp; try first | with_reducible rfl | rfl) ?_
  simp only [Act.put, List.setIfInBounds_toArray, List.set_cons_zero, List.set_cons_succ]
  refine Seq.pure (v := .agg (RC d)) rfl rfl (fun w => rfl) ?_
  simp only [Act.put, List.setIfInBounds_toArray, List.set_cons_zero, List.set_cons_succ]
  refine Seq.pure (v := .int .i64 0) rfl rfl (fun w => rfl) ?_
  simp only [Act.put, List.setIfInBounds_toArray, List.set_cons_zero, List.set_cons_succ]
  refine Seq.alloc rfl rfl rfl (z := .agg #[.bool false, .string ⟨#[]⟩, .string ⟨#[]⟩]) (by kernel_rfl) rfl ?_
  intro bk19 _ _ hbk19_r
  simp only [Act.put, List.setIfInBounds_toArray, List.set_cons_zero, List.set_cons_succ]
  refine Seq.store rfl rfl rfl rfl rfl (by first | exact rS | exact rN (by assumption) (rS) | exact rN (by assumption) (rN (by assumption) (rS)) | exact rN (by assumption) (rN (by assumption) (rN (by assumption) (rS))) | exact rN (by assumption) (rN (by assumption) (rN (by assumption) (rN (by assumption) (rS))))) (n := 3) rfl rfl (by kernel_rfl) (RC_one _) ?_
  simp only [Act.put, List.setIfInBounds_toArray, List.set_cons_zero, List.set_cons_succ]
  refine Seq.pure rfl rfl (by intro w; go_simp; try first | with_reducible rfl | rfl) ?_
  simp only [Act.put, List.setIfInBounds_toArray, List.set_cons_zero, List.set_cons_succ]
  refine Seq.done fun ws4 hws => ?_
  have HS4 : St w [(bk19, 28, RC d), (bk28, 30, PC ps), (bk34, 30, PC rs), (bk35, 30, PC qs)] ws4 := hws.list1 (by first | exact rS | exact rN (by assumption) (rS) | exact rN (by assumption) (rN (by assumption) (rS)) | exact rN (by assumption) (rN (by assumption) (rN (by assumption) (rS))) | exact rN (by assumption) (rN (by assumption) (rN (by assumption) (rN (by assumption) (rS)))))
  clear HS3 hws
  go_upto_region 5 with (fail)
  refine wp_seq [] (by kernel_rfl) (by kernel_rfl) Reg.fin_no (StR.no HS4) ?_
  refine Seq.pure rfl rfl (by intro w; go_simp; try first | with_reducible rfl | rfl) ?_
  simp only [Act.put, List.setIfInBounds_toArray, List.set_cons_zero, List.set_cons_succ]
  refine Seq.pure rfl rfl (by intro w; go_simp; try first | with_reducible rfl | rfl) ?_
  simp only [Act.put, List.setIfInBounds_toArray, List.set_cons_zero, List.set_cons_succ]
  refine Seq.pure rfl rfl (by intro w; go_simp; try first | with_reducible rfl | rfl) ?_
  simp only [Act.put, List.setIfInBounds_toArray, List.set_cons_zero, List.set_cons_succ]
  refine Seq.pure (v := .int .i64 (n : Int)) rfl rfl (by intro w; go_simp; try first | with_reducible rfl | rfl) ?_
  simp only [Act.put, List.setIfInBounds_toArray, List.set_cons_zero, List.set_cons_succ]
  refine Seq.call rfl rfl rfl rfl (by kernel_rfl) (below_G Ii_.out HPM.out.1 HJ.out.2.2.1) ?_
  simp only [Act.put, List.setIfInBounds_toArray, List.set_cons_zero, List.set_cons_succ]
  refine Seq.index (m := 6) j1 rfl rfl rfl rfl rfl (by kernel_rfl) rfl HJ.out.1 ?_
  simp only [Act.put, List.setIfInBounds_toArray, List.set_cons_zero, List.set_cons_succ]
  refine Seq.loadAt rfl rfl rfl rfl (by repeat (first | exact mC | apply mT)) (n := 6) (cs' := VC (px ps j1) (py ps j1)) (PC_room (lt_of_pts HL.out HJ.out.1)) (by kernel_rfl) (PC_at (lt_of_pts HL.out HJ.out.1)) ?_
  simp only [Act.put, List.setIfInBounds_toArray, List.set_cons_zero, List.set_cons_succ]
  refine Seq.pure rfl rfl (by intro w; go_simp; try first | with_reducible rfl | rfl) ?_
  simp only [Act.put, List.setIfInBounds_toArray, List.set_cons_zero, List.set_cons_succ]
  refine Seq.pure rfl rfl (by intro w; go_simp; try first | with_reducible rfl | rfl) ?_
  simp only [Act.put, List.setIfInBounds_toArray, List.set_cons_zero, List.set_cons_succ]
  refine Seq.pure rfl rfl (by intro w; go_simp; try first | with_reducible rfl | rfl) ?_
  simp only [Act.put, List.setIfInBounds_toArray, List.set_cons_zero, List.set_cons_succ]
  refine Seq.pure (v := .int .i64 (m : Int)) rfl rfl (by intro w; go_simp; try first | with_reducible rfl | rfl) ?_
  simp only [Act.put, List.setIfInBounds_toArray, List.set_cons_zero, List.set_cons_succ]
  refine Seq.call rfl rfl rfl rfl (by kernel_rfl) (below_G Ik_.out HPM.out.2 HJ.out.2.2.2) ?_
  simp only [Act.put, List.setIfInBounds_toArray, List.set_cons_zero, List.set_cons_succ]
  refine Seq.index (m := 6) j2 rfl rfl rfl rfl rfl (by kernel_rfl) rfl HJ.out.2.1 ?_
  simp only [Act.put, List.setIfInBounds_toArray, List.set_cons_zero, List.set_cons_succ]
  refine Seq.loadAt rfl rfl rfl rfl (by repeat (first | exact mC | apply mT)) (n := 6) (cs' := VC (px qs j2) (py qs j2)) (PC_room (lt_of_pts HLQ.out HJ.out.2.1)) (by kernel_rfl) (PC_at (lt_of_pts HLQ.out HJ.out.2.1)) ?_
  simp only [Act.put, List.setIfInBounds_toArray, List.set_cons_zero, List.set_cons_succ]
  refine Seq.call rfl rfl rfl rfl (by kernel_rfl) (vsub_q (k := 231) HT.out ((HZP.out.x (lt_of_pts HL.out HJ.out.1)).more (by omega)) ((HZP.out.y (lt_of_pts HL.out HJ.out.1)).more (by omega)) ((HZQ.out.x (lt_of_pts HLQ.out HJ.out.2.1)).more (by omega)) ((HZQ.out.y (lt_of_pts HLQ.out HJ.out.2.1)).more (by omega))  rfl rfl (by omega)) ?_
  simp only [Act.put, List.setIfInBounds_toArray, List.set_cons_zero, List.set_cons_succ]
  refine Seq.alloc rfl rfl rfl (z := .agg #[.bool false, .string ⟨#[]⟩, .string ⟨#[]⟩, .bool false, .string ⟨#[]⟩, .string ⟨#[]⟩]) (by kernel_rfl) rfl ?_
  intro bk21 _ _ hbk21_r
  simp only [Act.put, List.setIfInBounds_toArray, List.set_cons_zero, List.set_cons_succ]
  refine Seq.store rfl rfl rfl rfl rfl (by first | exact rS | exact rN (by assumption) (rS) | exact rN (by assumption) (rN (by assumption) (rS)) | exact rN (by assumption) (rN (by assumption) (rN (by assumption) (rS))) | exact rN (by assumption) (rN (by assumption) (rN (by assumption) (rN (by assumption) (rS))))) (n := 6) rfl rfl (by kernel_rfl) (VC_one _ _) ?_
  simp only [Act.put, List.setIfInBounds_toArray, List.set_cons_zero, List.set_cons_succ]
  refine Seq.done fun ws5 hws => ?_
  have HS5 : St w [(bk21, 30, VC ((px ps j1) - (px qs j2)) ((py ps j1) - (py qs j2))), (bk19, 28, RC d), (bk28, 30, PC ps), (bk34, 30, PC rs), (bk35, 30, PC qs)] ws5 := hws.list1 (by first | exact rS | exact rN (by assumption) (rS) | exact rN (by assumption) (rN (by assumption) (rS)) | exact rN (by assumption) (rN (by assumption) (rN (by assumption) (rS))) | exact rN (by assumption) (rN (by assumption) (rN (by assumption) (rN (by assumption) (rS)))))
  clear HS4 hws
  go_upto_region 6 with (fail)
  refine wp_seq_text [] (StR.no HS5) ?_
  refine Seq.pure rfl rfl (by intro w; go_simp; try first | with_reducible rfl | rfl) ?_
  simp only [Act.put, List.setIfInBounds_toArray, List.set_cons_zero, List.set_cons_succ]
  refine Seq.pure rfl rfl (by intro w; go_simp; try first | with_reducible rfl | rfl) ?_
  simp only [Act.put, List.setIfInBounds_toArray, List.set_cons_zero, List.set_cons_succ]
  refine Seq.call rfl rfl rfl rfl (by kernel_rfl) (vector_q HT.out Iu.out Iv.out Egx.out Egy.out) ?_
  simp only [Act.put, List.setIfInBounds_toArray, List.set_cons_zero, List.set_cons_succ]
  refine Seq.alloc rfl rfl rfl (z := .agg #[.bool false, .string ⟨#[]⟩, .string ⟨#[]⟩, .bool false, .string ⟨#[]⟩, .string ⟨#[]⟩]) (by kernel_rfl) rfl ?_
  intro bk22 _ _ hbk22_r
  simp only [Act.put, List.setIfInBounds_toArray, List.set_cons_zero, List.set_cons_succ]
  refine Seq.store rfl rfl rfl rfl rfl (by first | exact rS | exact rN (by assumption) (rS) | exact rN (by assumption) (rN (by assumption) (rS)) | exact rN (by assumption) (rN (by assumption) (rN (by assumption) (rS))) | exact rN (by assumption) (rN (by assumption) (rN (by assumption) (rN (by assumption) (rS))))) (n := 6) rfl rfl (by kernel_rfl) (VC_one _ _) ?_
  simp only [Act.put, List.setIfInBounds_toArray, List.set_cons_zero, List.set_cons_succ]
  refine Seq.done fun ws6 hws => ?_
  have HS6 : St w [(bk22, 30, VC gx gy), (bk21, 30, VC ((px ps j1) - (px qs j2)) ((py ps j1) - (py qs j2))), (bk19, 28, RC d), (bk28, 30, PC ps), (bk34, 30, PC rs), (bk35, 30, PC qs)] ws6 := hws.list1 (by first | exact rS | exact rN (by assumption) (rS) | exact rN (by assumption) (rN (by assumption) (rS)) | exact rN (by assumption) (rN (by assumption) (rN (by assumption) (rS))) | exact rN (by assumption) (rN (by assumption) (rN (by assumption) (rN (by assumption) (rS)))))
  clear HS5 hws
  go_upto_region 7 with (fail)
  refine wp_seq_text [1000004, 11] (StR.no HS6) ?_
  refine Seq.pure rfl rfl (by intro w; go_simp; try first | with_reducible rfl | rfl) ?_
  simp only [Act.put, List.setIfInBounds_toArray, List.set_cons_zero, List.set_cons_succ]
  refine Seq.load rfl rfl rfl rfl (by repeat (first | exact mC | apply mT)) (n := 6) rfl (by kernel_rfl) ?_
  simp only [Act.put, List.setIfInBounds_toArray, List.set_cons_zero, List.set_cons_succ]
  refine Seq.pure (v := .agg (#[.bool (decide (Rat.num gx < 0)), .string (S (Rat.num gx).natAbs), .string (S (Rat.den gx)), .bool (decide (Rat.num gy < 0)), .string (S (Rat.num gy).natAbs), .string (S (Rat.den gy)), .bool false, .bool false, .string ⟨#[]⟩, .string ⟨#[]⟩])) rfl rfl (fun w => bld_Frame0 rfl rfl w) ?_
  simp only [Act.put, List.setIfInBounds_toArray, List.set_cons_zero, List.set_cons_succ]
  refine Seq.pure rfl rfl (by intro w; go_simp; try first | with_reducible rfl | rfl) ?_
  simp only [Act.put, List.setIfInBounds_toArray, List.set_cons_zero, List.set_cons_succ]
  refine Seq.callFresh (n := some m) (x := (30, PC qw)) rfl rfl rfl rfl (by kernel_rfl) (fun w h => flistraw_q (k := 231) HT.out (Z_gx.out.more (by omega)) (Z_gy.out.more (by omega)) HZQ.out HLQ.out (by have := HCQ.out.2.1; omega) HQW.out (by omega) _ w h.st (h.st.blk (bk35, _, _) (by repeat (first | exact mC | apply mT))).2) ?_
  intro bk65 _ _ hbk65_r
  simp only [mk]
  simp only [Act.put, List.setIfInBounds_toArray, List.set_cons_zero, List.set_cons_succ]
  refine Seq.callAny rfl rfl rfl rfl (by kernel_rfl) (fun w h => meet_q2 (k := 40000) HT.out (HZP.out.more (by omega)) HL.out ⟨HCP.out.1, by have := HCP.out.2.1; omega, HCP.out.2.2⟩ (HZW.out.more (by omega)) HLW.out ⟨HCW.out.1, by have := HCW.out.2.1; omega, HCW.out.2.2⟩ HMT.out (by omega) _ _ w h.st (h.st.blk (bk28, _, _) (by repeat (first | exact mC | apply mT))).2 (h.reg _ _ _ (by first | exact rS | exact rN (by assumption) (rS) | exact rN (by assumption) (rN (by assumption) (rS)) | exact rN (by assumption) (rN (by assumption) (rN (by assumption) (rS))) | exact rN (by assumption) (rN (by assumption) (rN (by assumption) (rN (by assumption) (rS)))))).2.2) ?_
  simp only [Act.put, List.setIfInBounds_toArray, List.set_cons_zero, List.set_cons_succ]
  refine Seq.pure rfl rfl (by intro w; go_simp; try first | with_reducible rfl | rfl) ?_
  simp only [Act.put, List.setIfInBounds_toArray, List.set_cons_zero, List.set_cons_succ]
  refine Seq.pure (v := .bool mt) rfl rfl (fun w => rfl) ?_
  simp only [Act.put, List.setIfInBounds_toArray, List.set_cons_zero, List.set_cons_succ]
  refine Seq.pure (v := .int .i64 0) rfl rfl (fun w => rfl) ?_
  simp only [Act.put, List.setIfInBounds_toArray, List.set_cons_zero, List.set_cons_succ]
  refine Seq.pure rfl rfl (by intro w; go_simp; try first | with_reducible rfl | rfl) ?_
  simp only [Act.put, List.setIfInBounds_toArray, List.set_cons_zero, List.set_cons_succ]
  refine Seq.pure rfl rfl (by intro w; go_simp; try first | with_reducible rfl | rfl) ?_
  simp only [Act.put, List.setIfInBounds_toArray, List.set_cons_zero, List.set_cons_succ]
  refine Seq.done fun ws7 hws => ?_
  have HS7 : St w [(bk65, 30, PC qw), (bk22, 30, VC gx gy), (bk21, 30, VC ((px ps j1) - (px qs j2)) ((py ps j1) - (py qs j2))), (bk19, 28, RC d), (bk28, 30, PC ps), (bk34, 30, PC rs), (bk35, 30, PC qs)] ws7 := hws.list1 (by first | exact rS | exact rN (by assumption) (rS) | exact rN (by assumption) (rN (by assumption) (rS)) | exact rN (by assumption) (rN (by assumption) (rN (by assumption) (rS))) | exact rN (by assumption) (rN (by assumption) (rN (by assumption) (rN (by assumption) (rS)))))
  clear HS6 hws
  go_upto_region 8 with (fail)
  refine wp_seq [] (by kernel_rfl) (by kernel_rfl) Reg.fin_no (StR.no HS7) ?_
  refine Seq.pure rfl rfl (by intro w; go_simp; try first | with_reducible rfl | rfl) ?_
  simp only [Act.put, List.setIfInBounds_toArray, List.set_cons_zero, List.set_cons_succ]
  refine Seq.pure rfl rfl (by intro w; go_simp; try first | with_reducible rfl | rfl) ?_
  simp only [Act.put, List.setIfInBounds_toArray, List.set_cons_zero, List.set_cons_succ]
  refine Seq.pure rfl rfl (by intro w; go_simp; try first | with_reducible rfl | rfl) ?_
  simp only [Act.put, List.setIfInBounds_toArray, List.set_cons_zero, List.set_cons_succ]
  refine Seq.pure rfl rfl (by intro w; go_simp; try first | with_reducible rfl | rfl) ?_
  simp only [Act.put, List.setIfInBounds_toArray, List.set_cons_zero, List.set_cons_succ]
  refine Seq.pure rfl rfl (by intro w; go_simp; try first | with_reducible rfl | rfl) ?_
  simp only [Act.put, List.setIfInBounds_toArray, List.set_cons_zero, List.set_cons_succ]
  refine Seq.pure rfl rfl (by intro w; go_simp; try first | with_reducible rfl | rfl) ?_
  simp only [Act.put, List.setIfInBounds_toArray, List.set_cons_zero, List.set_cons_succ]
  refine Seq.pure rfl rfl (by intro w; go_simp; try first | with_reducible rfl | rfl) ?_
  simp only [Act.put, List.setIfInBounds_toArray, List.set_cons_zero, List.set_cons_succ]
  refine Seq.load rfl rfl rfl rfl (by repeat (first | exact mC | apply mT)) (n := 3) rfl (by kernel_rfl) ?_
  simp only [Act.put, List.setIfInBounds_toArray, List.set_cons_zero, List.set_cons_succ]
  refine Seq.load rfl rfl rfl rfl (by repeat (first | exact mC | apply mT)) (n := 6) rfl (by kernel_rfl) ?_
  simp only [Act.put, List.setIfInBounds_toArray, List.set_cons_zero, List.set_cons_succ]
  refine Seq.load rfl rfl rfl rfl (by repeat (first | exact mC | apply mT)) (n := 6) rfl (by kernel_rfl) ?_
  simp only [Act.put, List.setIfInBounds_toArray, List.set_cons_zero, List.set_cons_succ]
  refine Seq.call rfl rfl rfl rfl (by kernel_rfl) (dot_q (k := 467) HT.out (((HZP.out.x (lt_of_pts HL.out HJ.out.1)).sub (HZQ.out.x (lt_of_pts HLQ.out HJ.out.2.1))).more (by omega)) (((HZP.out.y (lt_of_pts HL.out HJ.out.1)).sub (HZQ.out.y (lt_of_pts HLQ.out HJ.out.2.1))).more (by omega)) (((HZP.out.x (lt_of_pts HL.out HJ.out.1)).sub (HZQ.out.x (lt_of_pts HLQ.out HJ.out.2.1))).more (by omega)) (((HZP.out.y (lt_of_pts HL.out HJ.out.1)).sub (HZQ.out.y (lt_of_pts HLQ.out HJ.out.2.1))).more (by omega))  rfl (by omega)) ?_
  simp only [Act.put, List.setIfInBounds_toArray, List.set_cons_zero, List.set_cons_succ]
  refine Seq.call rfl rfl rfl rfl (by kernel_rfl) (cmp_q (k := 10000000) HT.out (Z_d.out.more (by omega)) (((((HZP.out.x (lt_of_pts HL.out HJ.out.1)).sub (HZQ.out.x (lt_of_pts HLQ.out HJ.out.2.1))).mul ((HZP.out.x (lt_of_pts HL.out HJ.out.1)).sub (HZQ.out.x (lt_of_pts HLQ.out HJ.out.2.1)))).add (((HZP.out.y (lt_of_pts HL.out HJ.out.1)).sub (HZQ.out.y (lt_of_pts HLQ.out HJ.out.2.1))).mul ((HZP.out.y (lt_of_pts HL.out HJ.out.1)).sub (HZQ.out.y (lt_of_pts HLQ.out HJ.out.2.1))))).more (by omega)) HV1.out (by omega)) ?_
  simp only [Act.put, List.setIfInBounds_toArray, List.set_cons_zero, List.set_cons_succ]
  refine Seq.pure rfl rfl (by intro w; go_simp; try first | with_reducible rfl | rfl) ?_
  simp only [Act.put, List.setIfInBounds_toArray, List.set_cons_zero, List.set_cons_succ]
  refine Seq.pure rfl rfl (by intro w; go_simp; try first | with_reducible rfl | rfl) ?_
  simp only [Act.put, List.setIfInBounds_toArray, List.set_cons_zero, List.set_cons_succ]
  refine Seq.pure rfl rfl (by intro w; go_simp; try first | with_reducible rfl | rfl) ?_
  simp only [Act.put, List.setIfInBounds_toArray, List.set_cons_zero, List.set_cons_succ]
  refine Seq.load rfl rfl rfl rfl (by repeat (first | exact mC | apply mT)) (n := 6) rfl (by kernel_rfl) ?_
  simp only [Act.put, List.setIfInBounds_toArray, List.set_cons_zero, List.set_cons_succ]
  refine Seq.load rfl rfl rfl rfl (by repeat (first | exact mC | apply mT)) (n := 6) rfl (by kernel_rfl) ?_
  simp only [Act.put, List.setIfInBounds_toArray, List.set_cons_zero, List.set_cons_succ]
  refine Seq.call rfl rfl rfl rfl (by kernel_rfl) (dot_q (k := 2) HT.out (Z_gx.out.more (by omega)) (Z_gy.out.more (by omega)) (Z_gx.out.more (by omega)) (Z_gy.out.more (by omega))  rfl (by omega)) ?_
  simp only [Act.put, List.setIfInBounds_toArray, List.set_cons_zero, List.set_cons_succ]
  refine Seq.load rfl rfl rfl rfl (by repeat (first | exact mC | apply mT)) (n := 3) rfl (by kernel_rfl) ?_
  simp only [Act.put, List.setIfInBounds_toArray, List.set_cons_zero, List.set_cons_succ]
  refine Seq.call rfl rfl rfl rfl (by kernel_rfl) (cmp_q (k := 10000000) HT.out (((Z_gx.out.mul Z_gx.out).add (Z_gy.out.mul Z_gy.out)).more (by omega)) (Z_d.out.more (by omega)) HV2.out (by omega)) ?_
  simp only [Act.put, List.setIfInBounds_toArray, List.set_cons_zero, List.set_cons_succ]
  refine Seq.pure rfl rfl (by intro w; go_simp; try first | with_reducible rfl | rfl) ?_
  simp only [Act.put, List.setIfInBounds_toArray, List.set_cons_zero, List.set_cons_succ]
  refine Seq.pure rfl rfl (by intro w; go_simp; try first | with_reducible rfl | rfl) ?_
  simp only [Act.put, List.setIfInBounds_toArray, List.set_cons_zero, List.set_cons_succ]
  refine Seq.nw rfl ?_
  simp only [Act.put, List.setIfInBounds_toArray, List.set_cons_zero, List.set_cons_succ]
  refine Seq.nw rfl ?_
  simp only [Act.put, List.setIfInBounds_toArray, List.set_cons_zero, List.set_cons_succ]
  refine Seq.pure rfl rfl (by intro w; go_simp; try first | with_reducible rfl | rfl) ?_
  simp only [Act.put, List.setIfInBounds_toArray, List.set_cons_zero, List.set_cons_succ]
  refine Seq.pure rfl rfl (by intro w; go_simp; try first | with_reducible rfl | rfl) ?_
  simp only [Act.put, List.setIfInBounds_toArray, List.set_cons_zero, List.set_cons_succ]
  refine Seq.pure rfl rfl (by intro w; go_simp; try first | with_reducible rfl | rfl) ?_
  simp only [Act.put, List.setIfInBounds_toArray, List.set_cons_zero, List.set_cons_succ]
  refine Seq.done fun ws8 hws => ?_
  have HS8 := hws.st
  clear HS7 hws
  go_wp2_with fail
  go_ret
  exact ⟨rfl, HS8.below⟩
set_option maxHeartbeats 8000000 in
set_option maxRecDepth 20000 in
theorem apartWay_near {A0 A1 : Option Addr} {n0 c0 n1 c1 : Nat} {xs0 xs1 : List Int} (x y u v i_ k_ : Int) (w : World) (hi0 : Ints w A0 n0 c0 xs0) (hi1 : Ints w A1 n1 c1 xs1) (hx0 : -9223372036854775808 ≤ x) (hx1 : x ≤ 9223372036854775807) (hy0 : -9223372036854775808 ≤ y) (hy1 : y ≤ 9223372036854775807) (hu0 : -9223372036854775808 ≤ u) (hu1 : u ≤ 9223372036854775807) (hv0 : -9223372036854775808 ≤ v) (hv1 : v ≤ 9223372036854775807) (hi_0 : -9223372036854775808 ≤ i_) (hi_1 : i_ ≤ 9223372036854775807) (hk_0 : -9223372036854775808 ≤ k_) (hk_1 : k_ ≤ 9223372036854775807) (hT : Tab w) (hfar :  ratMq u * ratMq u + ratMq v * ratMq v < sqQ (polyQ xs0) (mvP (cosT (tdH u) (tdT u)) (sinT (tdT u)) (ratMq x) (ratMq y) (polyQ xs1))) :
    Calls Tryd.prog 4 #[.slice A0 n0 c0, .slice A1 n1 c1, .int .i64 x, .int .i64 y, .int .i64 u, .int .i64 v, .int .i64 i_, .int .i64 k_] w fun e w' => e = .returned (.bool true) ∧ Below w.heap.size w w' := by
  have Ix := Lib.hid (And.intro hx0 hx1); clear hx0 hx1
  have Iy := Lib.hid (And.intro hy0 hy1); clear hy0 hy1
  have Iu := Lib.hid (And.intro hu0 hu1); clear hu0 hu1
  have Iv := Lib.hid (And.intro hv0 hv1); clear hv0 hv1
  have Ii_ := Lib.hid (And.intro hi_0 hi_1); clear hi_0 hi_1
  have Ik_ := Lib.hid (And.intro hk_0 hk_1); clear hk_0 hk_1
  have HT := Lib.hid hT; clear hT
  have HI0 := Lib.hid hi0; clear hi0
  have HI1_ := Lib.hid hi1; clear hi1
  obtain ⟨fx, efx⟩ : ∃ r_, ratMq x = r_ := ⟨_, rfl⟩
  have Z_fx := Lib.hid (show Rz 2 fx from efx ▸ (ratMq_small x).rz.more (by omega))
  have Efx := Lib.hid efx; clear efx
  obtain ⟨fy, efy⟩ : ∃ r_, ratMq y = r_ := ⟨_, rfl⟩
  have Z_fy := Lib.hid (show Rz 2 fy from efy ▸ (ratMq_small y).rz.more (by omega))
  have Efy := Lib.hid efy; clear efy
  obtain ⟨ha, eha⟩ : ∃ r_, tdH u = r_ := ⟨_, rfl⟩
  obtain ⟨ta, eta⟩ : ∃ r_, tdT u = r_ := ⟨_, rfl⟩
  have Eha := Lib.hid (And.intro eha eta)
  have Gha := Lib.hid (show GoodT ha ta from eha ▸ eta ▸ td_good u)
  have Z_ta := Lib.hid (show Rz 2 ta from eta ▸ td_rz u); clear eha eta
  obtain ⟨gx, egx⟩ : ∃ r_, ratMq u = r_ := ⟨_, rfl⟩
  have Z_gx := Lib.hid (show Rz 2 gx from egx ▸ (ratMq_small u).rz.more (by omega))
  have Egx := Lib.hid egx; clear egx
  obtain ⟨gy, egy⟩ : ∃ r_, ratMq v = r_ := ⟨_, rfl⟩
  have Z_gy := Lib.hid (show Rz 2 gy from egy ▸ (ratMq_small v).rz.more (by omega))
  have Egy := Lib.hid egy; clear egy
  have CS := cos_sin ha ta Gha.out
  rw [Efx.out, Efy.out, Eha.out.1, Eha.out.2, Egx.out, Egy.out] at hfar
  obtain ⟨ps, hps⟩ : ∃ z, polyQ xs0 = z := ⟨_, rfl⟩
  obtain ⟨n, hn⟩ : ∃ z, ps.length = z := ⟨_, rfl⟩
  have hlen_ps := polyQ_len xs0
  rw [hps, hn] at hlen_ps
  have hcv_ps := polyQ_cvx xs0
  rw [hps] at hcv_ps
  have hz_ps := polyQ_z xs0
  rw [hps] at hz_ps
  obtain ⟨rs, hrs⟩ : ∃ z, polyQ xs1 = z := ⟨_, rfl⟩
  obtain ⟨m, hm⟩ : ∃ z, rs.length = z := ⟨_, rfl⟩
  have hlen_rs := polyQ_len xs1
  rw [hrs, hm] at hlen_rs
  have hcv_rs := polyQ_cvx xs1
  rw [hrs] at hcv_rs
  have hz_rs := polyQ_z xs1
  rw [hrs] at hz_rs
  rw [hps, hrs] at hfar
  obtain ⟨qs, hqs⟩ : ∃ z, mvP (cosT ha ta) (sinT ta) fx fy rs = z := ⟨_, rfl⟩
  have hcv_qs := cvx_mv CS hcv_rs (tx := fx) (ty := fy)
  have hz_qs : Pz 231 qs := by rw [← hqs]; exact mvP_z (ha := ha) Z_fx.out Z_fy.out Z_ta.out hz_rs
  have hl_qs : qs.length = m := by rw [← hqs, mvP_len]; exact hm
  rw [hqs] at hcv_qs hfar
  obtain ⟨qw, hqw⟩ : ∃ z, mvP (cosT false 0) (sinT 0) gx gy qs = z := ⟨_, rfl⟩
  have hc1 : cosT false 0 = 1 := by unfold cosT; decide +kernel
  have hs1 : sinT 0 = 0 := by unfold sinT; decide +kernel
  have hcv_qw := cvx_mv (c := cosT false 0) (s := sinT 0) (by rw [hc1, hs1]; decide +kernel) hcv_qs (tx := gx) (ty := gy)
  have hz_qw : Pz 40000 qw := by rw [← hqw]; exact (mvP_z (k := 231) (ha := false) (Z_gx.out.more (by omega)) (Z_gy.out.more (by omega)) (Rz.zero2.more (by omega)) hz_qs).more (by omega)
  have hl_qw : qw.length = m := by rw [← hqw, mvP_len]; exact hl_qs
  rw [hqw] at hcv_qw
  obtain ⟨mt, hmt⟩ : ∃ z, meetB ps qw = z := ⟨_, rfl⟩
  obtain ⟨d, hd⟩ : ∃ z, sqQ ps qs = z := ⟨_, rfl⟩
  obtain ⟨j1, hj1⟩ : ∃ z, belowN i_ n = z := ⟨_, rfl⟩
  obtain ⟨j2, hj2⟩ : ∃ z, belowN k_ m = z := ⟨_, rfl⟩
  have hj1n : j1 < n := hj1 ▸ belowN_lt i_ (by omega)
  have hj2m : j2 < m := hj2 ▸ belowN_lt k_ (by omega)
  have hcf := corner_far (a := ps) (b := qs) (by omega) (by omega) (show j1 < ps.length by omega) (show j2 < qs.length by omega)
  rw [hd] at hcf hfar
  have Z_d := Lib.hid (show Rz 10000000 d from hd ▸ (sqQ_rz (k := 231) (hz_ps.more (by omega)) hz_qs (by omega) (by omega)).more (by omega))
  obtain ⟨v1, hv1, r1⟩ : ∃ z, cmpQ d ((px ps j1 - px qs j2) * (px ps j1 - px qs j2) + (py ps j1 - py qs j2) * (py ps j1 - py qs j2)) = z ∧ decide (z ≤ 0) = true := ⟨_, rfl, decide_eq_true (cmp_le hcf)⟩
  obtain ⟨v2, hv2, r2⟩ : ∃ z, cmpQ (gx * gx + gy * gy) d = z ∧ decide (0 ≤ z) = false := ⟨_, rfl, decide_eq_false (fun c => by have := cmp_le_iff.1 c; grind)⟩
  have hmf : mt = false := by
    rw [← hmt, ← hqw]
    exact way_apart hcv_ps hcv_qs (by omega) (by omega) hc1 hs1 (by rw [hd]; exact hfar)
  subst hmf
  have HV1 := Lib.hid hv1; clear hv1 hcf
  have HV2 := Lib.hid hv2; clear hv2 hfar
  have HD := Lib.hid (show sqQ ps qs = d ∧ True from ⟨hd, trivial⟩); clear hd
  have HMT := Lib.hid hmt; clear hmt
  have HJ := Lib.hid (And.intro hj1n (And.intro hj2m (And.intro hj1 hj2))); clear hj1n hj2m hj1 hj2
  have HPM := Lib.hid (show (0 < n ∧ n ≤ 1048576) ∧ 0 < m ∧ m ≤ 1048576 from ⟨⟨by omega, by omega⟩, by omega, by omega⟩)
  have HCP := Lib.hid (show 3 ≤ n ∧ n ≤ 8 ∧ Cvx ps from ⟨by omega, by omega, hcv_ps⟩)
  have HCR := Lib.hid (show 3 ≤ m ∧ m ≤ 8 ∧ Cvx rs from ⟨by omega, by omega, hcv_rs⟩)
  have HCQ := Lib.hid (show 3 ≤ m ∧ m ≤ 8 ∧ Cvx qs from ⟨by omega, by omega, hcv_qs⟩)
  have HCW := Lib.hid (show 3 ≤ m ∧ m ≤ 8 ∧ Cvx qw from ⟨by omega, by omega, hcv_qw⟩)
  clear hcv_ps hcv_rs hcv_qs hcv_qw hlen_ps hlen_rs CS hc1 hs1
  have HZP := Lib.hid hz_ps; clear hz_ps
  have HZR := Lib.hid hz_rs; clear hz_rs
  have HZQ := Lib.hid hz_qs; clear hz_qs
  have HZW := Lib.hid hz_qw; clear hz_qw
  have HL := Lib.hid hn; clear hn
  have HLR := Lib.hid hm; clear hm
  have HLQ := Lib.hid hl_qs; clear hl_qs
  have HLW := Lib.hid hl_qw; clear hl_qw
  have HPS := Lib.hid hps; clear hps
  have HRS := Lib.hid hrs; clear hrs
  have HQS := Lib.hid hqs; clear hqs
  have HQW := Lib.hid hqw; clear hqw
  go_enter Tryd.func4, Tryd.ntmps4
  have HS : St w [] w := St.start
  go_upto_region 0 with (fail)
  refine wp_seq_text [] (StR.no HS) ?_
  refine Seq.pure rfl rfl (by intro w; go_simp; try first | with_reducible rfl | rfl) ?_
  simp only [Act.put, List.setIfInBounds_toArray, List.set_cons_zero, List.set_cons_succ]
  refine Seq.done fun ws1 hws => ?_
  have HS1 := hws.st
  clear HS hws
  go_upto_region 1 with (fail)
  refine wp_seq_text [] (StR.no HS1) ?_
  refine Seq.call rfl rfl rfl rfl (by kernel_rfl) (abegun_q HT.out) ?_
  simp only [Act.put, List.setIfInBounds_toArray, List.set_cons_zero, List.set_cons_succ]
  refine Seq.pure rfl rfl (by intro w; go_simp; try first | with_reducible rfl | rfl) ?_
  simp only [Act.put, List.setIfInBounds_toArray, List.set_cons_zero, List.set_cons_succ]
  refine Seq.done fun ws2 hws => ?_
  have HS2 := hws.st
  clear HS1 hws
  go_upto_region 3 with (fail)
  refine wp_seq_text [1000001, 1000007, 1000008] (StR.no HS2) ?_
  refine Seq.pure rfl rfl (by intro w; go_simp; try first | with_reducible rfl | rfl) ?_
  simp only [Act.put, List.setIfInBounds_toArray, List.set_cons_zero, List.set_cons_succ]
  refine Seq.callFresh (n := some n) (x := (30, PC ps)) rfl rfl rfl rfl (by kernel_rfl) (fun w h => poly_G HI0.out HPS.out HL.out w h.st) ?_
  intro bk28 _ _ hbk28_r
  simp only [mk]
  simp only [Act.put, List.setIfInBounds_toArray, List.set_cons_zero, List.set_cons_succ]
  refine Seq.pure rfl rfl (by intro w; go_simp; try first | with_reducible rfl | rfl) ?_
  simp only [Act.put, List.setIfInBounds_toArray, List.set_cons_zero, List.set_cons_succ]
  refine Seq.pure rfl rfl (by intro w; go_simp; try first | with_reducible rfl | rfl) ?_
  simp only [Act.put, List.setIfInBounds_toArray, List.set_cons_zero, List.set_cons_succ]
  refine Seq.pure rfl rfl (by intro w; go_simp; try first | with_reducible rfl | rfl) ?_
  simp only [Act.put, List.setIfInBounds_toArray, List.set_cons_zero, List.set_cons_succ]
  refine Seq.call rfl rfl rfl rfl (by kernel_rfl) (framed_q HT.out Ix.out Iy.out Iu.out Efx.out Efy.out Eha.out.1 Eha.out.2) ?_
  simp only [Act.put, List.setIfInBounds_toArray, List.set_cons_zero, List.set_cons_succ]
  refine Seq.pure rfl rfl (by intro w; go_simp; try first | with_reducible rfl | rfl) ?_
  simp only [Act.put, List.setIfInBounds_toArray, List.set_cons_zero, List.set_cons_succ]
  refine Seq.callFresh (n := some m) (x := (30, PC rs)) rfl rfl rfl rfl (by kernel_rfl) (fun w h => poly_G HI1_.out HRS.out HLR.out w h.st) ?_
  intro bk34 _ _ hbk34_r
  obtain ⟨ne_bk34_bk28, hbk34_r⟩ := Reg.ne_of_put hbk34_r
  have ne_bk28_bk34 := Ne.symm ne_bk34_bk28
  simp only [mk]
  simp only [Act.put, List.setIfInBounds_toArray, List.set_cons_zero, List.set_cons_succ]
  refine Seq.callFresh (n := some m) (x := (30, PC qs)) rfl rfl rfl rfl (by kernel_rfl) (fun w h => flist_G (k := 2) HT.out (Z_fx.out.more (by omega)) (Z_fy.out.more (by omega)) (Z_ta.out.more (by omega)) Gha.out (HZR.out.more (by omega)) HLR.out (by have := HCR.out.2.1; omega) HQS.out (by omega) _ w h.st (h.reg _ _ _ (by first | exact rS | exact rN (by assumption) (rS) | exact rN (by assumption) (rN (by assumption) (rS)) | exact rN (by assumption) (rN (by assumption) (rN (by assumption) (rS))) | exact rN (by assumption) (rN (by assumption) (rN (by assumption) (rN (by assumption) (rS)))))).2.2) ?_
  intro bk35 _ _ hbk35_r
  obtain ⟨ne_bk35_bk34, hbk35_r⟩ := Reg.ne_of_put hbk35_r
  have ne_bk34_bk35 := Ne.symm ne_bk35_bk34
  obtain ⟨ne_bk35_bk28, hbk35_r⟩ := Reg.ne_of_put hbk35_r
  have ne_bk28_bk35 := Ne.symm ne_bk35_bk28
  simp only [mk]
  simp only [Act.put, List.setIfInBounds_toArray, List.set_cons_zero, List.set_cons_succ]
  refine Seq.pure rfl rfl (by intro w; go_simp; try first | with_reducible rfl | rfl) ?_
  simp only [Act.put, List.setIfInBounds_toArray, List.set_cons_zero, List.set_cons_succ]
  refine Seq.pure rfl rfl (by intro w; go_simp; try first | with_reducible rfl | rfl) ?_
  simp only [Act.put, List.setIfInBounds_toArray, List.set_cons_zero, List.set_cons_succ]
  refine Seq.done fun ws3 hws => ?_
  have HS3 : St w [(bk28, 30, PC ps), (bk34, 30, PC rs), (bk35, 30, PC qs)] ws3 := hws.list3 (by first | exact rS | exact rN (by assumption) (rS) | exact rN (by assumption) (rN (by assumption) (rS)) | exact rN (by assumption) (rN (by assumption) (rN (by assumption) (rS))) | exact rN (by assumption) (rN (by assumption) (rN (by assumption) (rN (by assumption) (rS))))) (by first | exact rS | exact rN (by assumption) (rS) | exact rN (by assumption) (rN (by assumption) (rS)) | exact rN (by assumption) (rN (by assumption) (rN (by assumption) (rS))) | exact rN (by assumption) (rN (by assumption) (rN (by assumption) (rN (by assumption) (rS))))) (by first | exact rS | exact rN (by assumption) (rS) | exact rN (by assumption) (rN (by assumption) (rS)) | exact rN (by assumption) (rN (by assumption) (rN (by assumption) (rS))) | exact rN (by assumption) (rN (by assumption) (rN (by assumption) (rN (by assumption) (rS))))) (by assumption) (by assumption) (by assumption)
  clear HS2 hws
  go_upto_region 4 with (fail)
  refine wp_seq_text [] (StR.no HS3) ?_
  refine Seq.pure rfl rfl (by intro w; go_simp; try first | with_reducible rfl | rfl) ?_
  simp only [Act.put, List.setIfInBounds_toArray, List.set_cons_zero, List.set_cons_succ]
  refine Seq.pure rfl rfl (by intro w; go_simp; try first | with_reducible rfl | rfl) ?_
  simp only [Act.put, List.setIfInBounds_toArray, List.set_cons_zero, List.set_cons_succ]
  refine Seq.call rfl rfl rfl rfl (by kernel_rfl) (fun w h => sq_q2 (k := 231) HT.out (HZP.out.more (by omega)) HL.out ⟨HCP.out.1, by have := HCP.out.2.1; omega, HCP.out.2.2⟩ (HZQ.out.more (by omega)) HLQ.out ⟨HCQ.out.1, by have := HCQ.out.2.1; omega, HCQ.out.2.2⟩ HD.out.1 (by omega) _ _ w h (h.blk (bk28, _, _) (by repeat (first | exact mC | apply mT))).2 (h.blk (bk35, _, _) (by repeat (first | exact mC | apply mT))).2) ?_
  simp only [Act.put, List.setIfInBounds_toArray, List.set_cons_zero, List.set_cons_succ]
  refine Seq.pure rfl rfl (by intro w; go_simp; try first | with_reducible rfl | rfl) ?_
  simp only [Act.put, List.setIfInBounds_toArray, List.set_cons_zero, List.set_cons_succ]
  refine Seq.pure (v := .agg (RC d)) rfl rfl (fun w => rfl) ?_
  simp only [Act.put, List.setIfInBounds_toArray, List.set_cons_zero, List.set_cons_succ]
  refine Seq.pure (v := .int .i64 0) rfl rfl (fun w => rfl) ?_
  simp only [Act.put, List.setIfInBounds_toArray, List.set_cons_zero, List.set_cons_succ]
  refine Seq.alloc rfl rfl rfl (z := .agg #[.bool false, .string ⟨#[]⟩, .string ⟨#[]⟩]) (by kernel_rfl) rfl ?_
  intro bk19 _ _ hbk19_r
  simp only [Act.put, List.setIfInBounds_toArray, List.set_cons_zero, List.set_cons_succ]
  refine Seq.store rfl rfl rfl rfl rfl (by first | exact rS | exact rN (by assumption) (rS) | exact rN (by assumption) (rN (by assumption) (rS)) | exact rN (by assumption) (rN (by assumption) (rN (by assumption) (rS))) | exact rN (by assumption) (rN (by assumption) (rN (by assumption) (rN (by assumption) (rS))))) (n := 3) rfl rfl (by kernel_rfl) (RC_one _) ?_
  simp only [Act.put, List.setIfInBounds_toArray, List.set_cons_zero, List.set_cons_succ]
  refine Seq.pure rfl rfl (by intro w; go_simp; try first | with_reducible rfl | rfl) ?_
  simp only [Act.put, List.setIfInBounds_toArray, List.set_cons_zero, List.set_cons_succ]
  refine Seq.done fun ws4 hws => ?_
  have HS4 : St w [(bk19, 28, RC d), (bk28, 30, PC ps), (bk34, 30, PC rs), (bk35, 30, PC qs)] ws4 := hws.list1 (by first | exact rS | exact rN (by assumption) (rS) | exact rN (by assumption) (rN (by assumption) (rS)) | exact rN (by assumption) (rN (by assumption) (rN (by assumption) (rS))) | exact rN (by assumption) (rN (by assumption) (rN (by assumption) (rN (by assumption) (rS)))))
  clear HS3 hws
  go_upto_region 5 with (fail)
  refine wp_seq [] (by kernel_rfl) (by kernel_rfl) Reg.fin_no (StR.no HS4) ?_
  refine Seq.pure rfl rfl (by intro w; go_simp; try first | with_reducible rfl | rfl) ?_
  simp only [Act.put, List.setIfInBounds_toArray, List.set_cons_zero, List.set_cons_succ]
  refine Seq.pure rfl rfl (by intro w; go_simp; try first | with_reducible rfl | rfl) ?_
  simp only [Act.put, List.setIfInBounds_toArray, List.set_cons_zero, List.set_cons_succ]
  refine Seq.pure rfl rfl (by intro w; go_simp; try first | with_reducible rfl | rfl) ?_
  simp only [Act.put, List.setIfInBounds_toArray, List.set_cons_zero, List.set_cons_succ]
  refine Seq.pure (v := .int .i64 (n : Int)) rfl rfl (by intro w; go_simp; try first | with_reducible rfl | rfl) ?_
  simp only [Act.put, List.setIfInBounds_toArray, List.set_cons_zero, List.set_cons_succ]
  refine Seq.call rfl rfl rfl rfl (by kernel_rfl) (below_G Ii_.out HPM.out.1 HJ.out.2.2.1) ?_
  simp only [Act.put, List.setIfInBounds_toArray, List.set_cons_zero, List.set_cons_succ]
  refine Seq.index (m := 6) j1 rfl rfl rfl rfl rfl (by kernel_rfl) rfl HJ.out.1 ?_
  simp only [Act.put, List.setIfInBounds_toArray, List.set_cons_zero, List.set_cons_succ]
  refine Seq.loadAt rfl rfl rfl rfl (by repeat (first | exact mC | apply mT)) (n := 6) (cs' := VC (px ps j1) (py ps j1)) (PC_room (lt_of_pts HL.out HJ.out.1)) (by kernel_rfl) (PC_at (lt_of_pts HL.out HJ.out.1)) ?_
  simp only [Act.put, List.setIfInBounds_toArray, List.set_cons_zero, List.set_cons_succ]
  refine Seq.pure rfl rfl (by intro w; go_simp; try first | with_reducible rfl | rfl) ?_
  simp only [Act.put, List.setIfInBounds_toArray, List.set_cons_zero, List.set_cons_succ]
  refine Seq.pure rfl rfl (by intro w; go_simp; try first | with_reducible rfl | rfl) ?_
  simp only [Act.put, List.setIfInBounds_toArray, List.set_cons_zero, List.set_cons_succ]
  refine Seq.pure rfl rfl (by intro w; go_simp; try first | with_reducible rfl | rfl) ?_
  simp only [Act.put, List.setIfInBounds_toArray, List.set_cons_zero, List.set_cons_succ]
  refine Seq.pure (v := .int .i64 (m : Int)) rfl rfl (by intro w; go_simp; try first | with_reducible rfl | rfl) ?_
  simp only [Act.put, List.setIfInBounds_toArray, List.set_cons_zero, List.set_cons_succ]
  refine Seq.call rfl rfl rfl rfl (by kernel_rfl) (below_G Ik_.out HPM.out.2 HJ.out.2.2.2) ?_
  simp only [Act.put, List.setIfInBounds_toArray, List.set_cons_zero, List.set_cons_succ]
  refine Seq.index (m := 6) j2 rfl rfl rfl rfl rfl (by kernel_rfl) rfl HJ.out.2.1 ?_
  simp only [Act.put, List.setIfInBounds_toArray, List.set_cons_zero, List.set_cons_succ]
  refine Seq.loadAt rfl rfl rfl rfl (by repeat (first | exact mC | apply mT)) (n := 6) (cs' := VC (px qs j2) (py qs j2)) (PC_room (lt_of_pts HLQ.out HJ.out.2.1)) (by kernel_rfl) (PC_at (lt_of_pts HLQ.out HJ.out.2.1)) ?_
  simp only [Act.put, List.setIfInBounds_toArray, List.set_cons_zero, List.set_cons_succ]
  refine Seq.call rfl rfl rfl rfl (by kernel_rfl) (vsub_q (k := 231) HT.out ((HZP.out.x (lt_of_pts HL.out HJ.out.1)).more (by omega)) ((HZP.out.y (lt_of_pts HL.out HJ.out.1)).more (by omega)) ((HZQ.out.x (lt_of_pts HLQ.out HJ.out.2.1)).more (by omega)) ((HZQ.out.y (lt_of_pts HLQ.out HJ.out.2.1)).more (by omega))  rfl rfl (by omega)) ?_
  simp only [Act.put, List.setIfInBounds_toArray, List.set_cons_zero, List.set_cons_succ]
  refine Seq.alloc rfl rfl rfl (z := .agg #[.bool false, .string ⟨#[]⟩, .string ⟨#[]⟩, .bool false, .string ⟨#[]⟩, .string ⟨#[]⟩]) (by kernel_rfl) rfl ?_
  intro bk21 _ _ hbk21_r
  simp only [Act.put, List.setIfInBounds_toArray, List.set_cons_zero, List.set_cons_succ]
  refine Seq.store rfl rfl rfl rfl rfl (by first | exact rS | exact rN (by assumption) (rS) | exact rN (by assumption) (rN (by assumption) (rS)) | exact rN (by assumption) (rN (by assumption) (rN (by assumption) (rS))) | exact rN (by assumption) (rN (by assumption) (rN (by assumption) (rN (by assumption) (rS))))) (n := 6) rfl rfl (by kernel_rfl) (VC_one _ _) ?_
  simp only [Act.put, List.setIfInBounds_toArray, List.set_cons_zero, List.set_cons_succ]
  refine Seq.done fun ws5 hws => ?_
  have HS5 : St w [(bk21, 30, VC ((px ps j1) - (px qs j2)) ((py ps j1) - (py qs j2))), (bk19, 28, RC d), (bk28, 30, PC ps), (bk34, 30, PC rs), (bk35, 30, PC qs)] ws5 := hws.list1 (by first | exact rS | exact rN (by assumption) (rS) | exact rN (by assumption) (rN (by assumption) (rS)) | exact rN (by assumption) (rN (by assumption) (rN (by assumption) (rS))) | exact rN (by assumption) (rN (by assumption) (rN (by assumption) (rN (by assumption) (rS)))))
  clear HS4 hws
  go_upto_region 6 with (fail)
  refine wp_seq_text [] (StR.no HS5) ?_
  refine Seq.pure rfl rfl (by intro w; go_simp; try first | with_reducible rfl | rfl) ?_
  simp only [Act.put, List.setIfInBounds_toArray, List.set_cons_zero, List.set_cons_succ]
  refine Seq.pure rfl rfl (by intro w; go_simp; try first | with_reducible rfl | rfl) ?_
  simp only [Act.put, List.setIfInBounds_toArray, List.set_cons_zero, List.set_cons_succ]
  refine Seq.call rfl rfl rfl rfl (by kernel_rfl) (vector_q HT.out Iu.out Iv.out Egx.out Egy.out) ?_
  simp only [Act.put, List.setIfInBounds_toArray, List.set_cons_zero, List.set_cons_succ]
  refine Seq.alloc rfl rfl rfl (z := .agg #[.bool false, .string ⟨#[]⟩, .string ⟨#[]⟩, .bool false, .string ⟨#[]⟩, .string ⟨#[]⟩]) (by kernel_rfl) rfl ?_
  intro bk22 _ _ hbk22_r
  simp only [Act.put, List.setIfInBounds_toArray, List.set_cons_zero, List.set_cons_succ]
  refine Seq.store rfl rfl rfl rfl rfl (by first | exact rS | exact rN (by assumption) (rS) | exact rN (by assumption) (rN (by assumption) (rS)) | exact rN (by assumption) (rN (by assumption) (rN (by assumption) (rS))) | exact rN (by assumption) (rN (by assumption) (rN (by assumption) (rN (by assumption) (rS))))) (n := 6) rfl rfl (by kernel_rfl) (VC_one _ _) ?_
  simp only [Act.put, List.setIfInBounds_toArray, List.set_cons_zero, List.set_cons_succ]
  refine Seq.done fun ws6 hws => ?_
  have HS6 : St w [(bk22, 30, VC gx gy), (bk21, 30, VC ((px ps j1) - (px qs j2)) ((py ps j1) - (py qs j2))), (bk19, 28, RC d), (bk28, 30, PC ps), (bk34, 30, PC rs), (bk35, 30, PC qs)] ws6 := hws.list1 (by first | exact rS | exact rN (by assumption) (rS) | exact rN (by assumption) (rN (by assumption) (rS)) | exact rN (by assumption) (rN (by assumption) (rN (by assumption) (rS))) | exact rN (by assumption) (rN (by assumption) (rN (by assumption) (rN (by assumption) (rS)))))
  clear HS5 hws
  go_upto_region 7 with (fail)
  refine wp_seq_text [1000004, 11] (StR.no HS6) ?_
  refine Seq.pure rfl rfl (by intro w; go_simp; try first | with_reducible rfl | rfl) ?_
  simp only [Act.put, List.setIfInBounds_toArray, List.set_cons_zero, List.set_cons_succ]
  refine Seq.load rfl rfl rfl rfl (by repeat (first | exact mC | apply mT)) (n := 6) rfl (by kernel_rfl) ?_
  simp only [Act.put, List.setIfInBounds_toArray, List.set_cons_zero, List.set_cons_succ]
  refine Seq.pure (v := .agg (#[.bool (decide (Rat.num gx < 0)), .string (S (Rat.num gx).natAbs), .string (S (Rat.den gx)), .bool (decide (Rat.num gy < 0)), .string (S (Rat.num gy).natAbs), .string (S (Rat.den gy)), .bool false, .bool false, .string ⟨#[]⟩, .string ⟨#[]⟩])) rfl rfl (fun w => bld_Frame0 rfl rfl w) ?_
  simp only [Act.put, List.setIfInBounds_toArray, List.set_cons_zero, List.set_cons_succ]
  refine Seq.pure rfl rfl (by intro w; go_simp; try first | with_reducible rfl | rfl) ?_
  simp only [Act.put, List.setIfInBounds_toArray, List.set_cons_zero, List.set_cons_succ]
  refine Seq.callFresh (n := some m) (x := (30, PC qw)) rfl rfl rfl rfl (by kernel_rfl) (fun w h => flistraw_q (k := 231) HT.out (Z_gx.out.more (by omega)) (Z_gy.out.more (by omega)) HZQ.out HLQ.out (by have := HCQ.out.2.1; omega) HQW.out (by omega) _ w h.st (h.st.blk (bk35, _, _) (by repeat (first | exact mC | apply mT))).2) ?_
  intro bk65 _ _ hbk65_r
  simp only [mk]
  simp only [Act.put, List.setIfInBounds_toArray, List.set_cons_zero, List.set_cons_succ]
  refine Seq.callAny rfl rfl rfl rfl (by kernel_rfl) (fun w h => meet_q2 (k := 40000) HT.out (HZP.out.more (by omega)) HL.out ⟨HCP.out.1, by have := HCP.out.2.1; omega, HCP.out.2.2⟩ (HZW.out.more (by omega)) HLW.out ⟨HCW.out.1, by have := HCW.out.2.1; omega, HCW.out.2.2⟩ HMT.out (by omega) _ _ w h.st (h.st.blk (bk28, _, _) (by repeat (first | exact mC | apply mT))).2 (h.reg _ _ _ (by first | exact rS | exact rN (by assumption) (rS) | exact rN (by assumption) (rN (by assumption) (rS)) | exact rN (by assumption) (rN (by assumption) (rN (by assumption) (rS))) | exact rN (by assumption) (rN (by assumption) (rN (by assumption) (rN (by assumption) (rS)))))).2.2) ?_
  simp only [Act.put, List.setIfInBounds_toArray, List.set_cons_zero, List.set_cons_succ]
  refine Seq.pure rfl rfl (by intro w; go_simp; try first | with_reducible rfl | rfl) ?_
  simp only [Act.put, List.setIfInBounds_toArray, List.set_cons_zero, List.set_cons_succ]
  refine Seq.pure (v := .bool false) rfl rfl (fun w => rfl) ?_
  simp only [Act.put, List.setIfInBounds_toArray, List.set_cons_zero, List.set_cons_succ]
  refine Seq.pure (v := .int .i64 0) rfl rfl (fun w => rfl) ?_
  simp only [Act.put, List.setIfInBounds_toArray, List.set_cons_zero, List.set_cons_succ]
  refine Seq.pure rfl rfl (by intro w; go_simp; try first | with_reducible rfl | rfl) ?_
  simp only [Act.put, List.setIfInBounds_toArray, List.set_cons_zero, List.set_cons_succ]
  refine Seq.pure rfl rfl (by intro w; go_simp; try first | with_reducible rfl | rfl) ?_
  simp only [Act.put, List.setIfInBounds_toArray, List.set_cons_zero, List.set_cons_succ]
  refine Seq.done fun ws7 hws => ?_
  have HS7 : St w [(bk65, 30, PC qw), (bk22, 30, VC gx gy), (bk21, 30, VC ((px ps j1) - (px qs j2)) ((py ps j1) - (py qs j2))), (bk19, 28, RC d), (bk28, 30, PC ps), (bk34, 30, PC rs), (bk35, 30, PC qs)] ws7 := hws.list1 (by first | exact rS | exact rN (by assumption) (rS) | exact rN (by assumption) (rN (by assumption) (rS)) | exact rN (by assumption) (rN (by assumption) (rN (by assumption) (rS))) | exact rN (by assumption) (rN (by assumption) (rN (by assumption) (rN (by assumption) (rS)))))
  clear HS6 hws
  go_upto_region 8 with (fail)
  refine wp_seq [] (by kernel_rfl) (by kernel_rfl) Reg.fin_no (StR.no HS7) ?_
  refine Seq.pure rfl rfl (by intro w; go_simp; try first | with_reducible rfl | rfl) ?_
  simp only [Act.put, List.setIfInBounds_toArray, List.set_cons_zero, List.set_cons_succ]
  refine Seq.pure rfl rfl (by intro w; go_simp; try first | with_reducible rfl | rfl) ?_
  simp only [Act.put, List.setIfInBounds_toArray, List.set_cons_zero, List.set_cons_succ]
  refine Seq.pure rfl rfl (by intro w; go_simp; try first | with_reducible rfl | rfl) ?_
  simp only [Act.put, List.setIfInBounds_toArray, List.set_cons_zero, List.set_cons_succ]
  refine Seq.pure rfl rfl (by intro w; go_simp; try first | with_reducible rfl | rfl) ?_
  simp only [Act.put, List.setIfInBounds_toArray, List.set_cons_zero, List.set_cons_succ]
  refine Seq.pure rfl rfl (by intro w; go_simp; try first | with_reducible rfl | rfl) ?_
  simp only [Act.put, List.setIfInBounds_toArray, List.set_cons_zero, List.set_cons_succ]
  refine Seq.pure rfl rfl (by intro w; go_simp; try first | with_reducible rfl | rfl) ?_
  simp only [Act.put, List.setIfInBounds_toArray, List.set_cons_zero, List.set_cons_succ]
  refine Seq.pure rfl rfl (by intro w; go_simp; try first | with_reducible rfl | rfl) ?_
  simp only [Act.put, List.setIfInBounds_toArray, List.set_cons_zero, List.set_cons_succ]
  refine Seq.load rfl rfl rfl rfl (by repeat (first | exact mC | apply mT)) (n := 3) rfl (by kernel_rfl) ?_
  simp only [Act.put, List.setIfInBounds_toArray, List.set_cons_zero, List.set_cons_succ]
  refine Seq.load rfl rfl rfl rfl (by repeat (first | exact mC | apply mT)) (n := 6) rfl (by kernel_rfl) ?_
  simp only [Act.put, List.setIfInBounds_toArray, List.set_cons_zero, List.set_cons_succ]
  refine Seq.load rfl rfl rfl rfl (by repeat (first | exact mC | apply mT)) (n := 6) rfl (by kernel_rfl) ?_
  simp only [Act.put, List.setIfInBounds_toArray, List.set_cons_zero, List.set_cons_succ]
  refine Seq.call rfl rfl rfl rfl (by kernel_rfl) (dot_q (k := 467) HT.out (((HZP.out.x (lt_of_pts HL.out HJ.out.1)).sub (HZQ.out.x (lt_of_pts HLQ.out HJ.out.2.1))).more (by omega)) (((HZP.out.y (lt_of_pts HL.out HJ.out.1)).sub (HZQ.out.y (lt_of_pts HLQ.out HJ.out.2.1))).more (by omega)) (((HZP.out.x (lt_of_pts HL.out HJ.out.1)).sub (HZQ.out.x (lt_of_pts HLQ.out HJ.out.2.1))).more (by omega)) (((HZP.out.y (lt_of_pts HL.out HJ.out.1)).sub (HZQ.out.y (lt_of_pts HLQ.out HJ.out.2.1))).more (by omega))  rfl (by omega)) ?_
  simp only [Act.put, List.setIfInBounds_toArray, List.set_cons_zero, List.set_cons_succ]
  refine Seq.call rfl rfl rfl rfl (by kernel_rfl) (cmp_q (k := 10000000) HT.out (Z_d.out.more (by omega)) (((((HZP.out.x (lt_of_pts HL.out HJ.out.1)).sub (HZQ.out.x (lt_of_pts HLQ.out HJ.out.2.1))).mul ((HZP.out.x (lt_of_pts HL.out HJ.out.1)).sub (HZQ.out.x (lt_of_pts HLQ.out HJ.out.2.1)))).add (((HZP.out.y (lt_of_pts HL.out HJ.out.1)).sub (HZQ.out.y (lt_of_pts HLQ.out HJ.out.2.1))).mul ((HZP.out.y (lt_of_pts HL.out HJ.out.1)).sub (HZQ.out.y (lt_of_pts HLQ.out HJ.out.2.1))))).more (by omega)) HV1.out (by omega)) ?_
  simp only [Act.put, List.setIfInBounds_toArray, List.set_cons_zero, List.set_cons_succ]
  refine Seq.pure rfl rfl (by intro w; go_simp; try first | with_reducible rfl | rfl) ?_
  simp only [Act.put, List.setIfInBounds_toArray, List.set_cons_zero, List.set_cons_succ]
  refine Seq.pure rfl rfl (by intro w; go_simp; try first | with_reducible rfl | rfl) ?_
  simp only [Act.put, List.setIfInBounds_toArray, List.set_cons_zero, List.set_cons_succ]
  refine Seq.pure rfl rfl (by intro w; go_simp; try first | with_reducible rfl | rfl) ?_
  simp only [Act.put, List.setIfInBounds_toArray, List.set_cons_zero, List.set_cons_succ]
  refine Seq.load rfl rfl rfl rfl (by repeat (first | exact mC | apply mT)) (n := 6) rfl (by kernel_rfl) ?_
  simp only [Act.put, List.setIfInBounds_toArray, List.set_cons_zero, List.set_cons_succ]
  refine Seq.load rfl rfl rfl rfl (by repeat (first | exact mC | apply mT)) (n := 6) rfl (by kernel_rfl) ?_
  simp only [Act.put, List.setIfInBounds_toArray, List.set_cons_zero, List.set_cons_succ]
  refine Seq.call rfl rfl rfl rfl (by kernel_rfl) (dot_q (k := 2) HT.out (Z_gx.out.more (by omega)) (Z_gy.out.more (by omega)) (Z_gx.out.more (by omega)) (Z_gy.out.more (by omega))  rfl (by omega)) ?_
  simp only [Act.put, List.setIfInBounds_toArray, List.set_cons_zero, List.set_cons_succ]
  refine Seq.load rfl rfl rfl rfl (by repeat (first | exact mC | apply mT)) (n := 3) rfl (by kernel_rfl) ?_
  simp only [Act.put, List.setIfInBounds_toArray, List.set_cons_zero, List.set_cons_succ]
  refine Seq.call rfl rfl rfl rfl (by kernel_rfl) (cmp_q (k := 10000000) HT.out (((Z_gx.out.mul Z_gx.out).add (Z_gy.out.mul Z_gy.out)).more (by omega)) (Z_d.out.more (by omega)) HV2.out (by omega)) ?_
  simp only [Act.put, List.setIfInBounds_toArray, List.set_cons_zero, List.set_cons_succ]
  refine Seq.pure rfl rfl (by intro w; go_simp; try first | with_reducible rfl | rfl) ?_
  simp only [Act.put, List.setIfInBounds_toArray, List.set_cons_zero, List.set_cons_succ]
  refine Seq.pure rfl rfl (by intro w; go_simp; try first | with_reducible rfl | rfl) ?_
  simp only [Act.put, List.setIfInBounds_toArray, List.set_cons_zero, List.set_cons_succ]
  refine Seq.pure rfl rfl (by intro w; go_simp; try first | with_reducible rfl | rfl) ?_
  simp only [Act.put, List.setIfInBounds_toArray, List.set_cons_zero, List.set_cons_succ]
  refine Seq.pure rfl rfl (by intro w; go_simp; try first | with_reducible rfl | rfl) ?_
  simp only [Act.put, List.setIfInBounds_toArray, List.set_cons_zero, List.set_cons_succ]
  refine Seq.pure rfl rfl (by intro w; go_simp; try first | with_reducible rfl | rfl) ?_
  simp only [Act.put, List.setIfInBounds_toArray, List.set_cons_zero, List.set_cons_succ]
  refine Seq.pure rfl rfl (by intro w; go_simp; try first | with_reducible rfl | rfl) ?_
  simp only [Act.put, List.setIfInBounds_toArray, List.set_cons_zero, List.set_cons_succ]
  refine Seq.pure rfl rfl (by intro w; go_simp; try first | with_reducible rfl | rfl) ?_
  simp only [Act.put, List.setIfInBounds_toArray, List.set_cons_zero, List.set_cons_succ]
  refine Seq.done fun ws8 hws => ?_
  have HS8 := hws.st
  clear HS7 hws
  go_wp2_with fail
  go_ret
  exact ⟨rfl, HS8.below⟩
theorem apartWay_int {A0 A1 : Option Addr} {n0 c0 n1 c1 : Nat} {xs0 xs1 : List Int} (x y u v i_ k_ : Int) (w : World) (hi0 : Ints w A0 n0 c0 xs0) (hi1 : Ints w A1 n1 c1 xs1) (hx0 : -9223372036854775808 ≤ x) (hx1 : x ≤ 9223372036854775807) (hy0 : -9223372036854775808 ≤ y) (hy1 : y ≤ 9223372036854775807) (hu0 : -9223372036854775808 ≤ u) (hu1 : u ≤ 9223372036854775807) (hv0 : -9223372036854775808 ≤ v) (hv1 : v ≤ 9223372036854775807) (hi_0 : -9223372036854775808 ≤ i_) (hi_1 : i_ ≤ 9223372036854775807) (hk_0 : -9223372036854775808 ≤ k_) (hk_1 : k_ ≤ 9223372036854775807) (hT : Tab w) :
    Calls Tryd.prog 4 #[.slice A0 n0 c0, .slice A1 n1 c1, .int .i64 x, .int .i64 y, .int .i64 u, .int .i64 v, .int .i64 i_, .int .i64 k_] w fun e w' => e = .returned (.bool true) ∧ Below w.heap.size w w' := by
  by_cases hc : ratMq u * ratMq u + ratMq v * ratMq v < sqQ (polyQ xs0) (mvP (cosT (tdH u) (tdT u)) (sinT (tdT u)) (ratMq x) (ratMq y) (polyQ xs1))
  · exact apartWay_near x y u v i_ k_ w hi0 hi1 hx0 hx1 hy0 hy1 hu0 hu1 hv0 hv1 hi_0 hi_1 hk_0 hk_1 hT hc
  · exact apartWay_far x y u v i_ k_ w hi0 hi1 hx0 hx1 hy0 hy1 hu0 hu1 hv0 hv1 hi_0 hi_1 hk_0 hk_1 hT hc
end Go.Proofs.YtbgifinfflehmaaDoor
