/- Joined texts. -/
import Derived.Test.YtbgifinfflehmaaDoorAp4
import Derived.Test.YtbgifinfflehmaaDoorOrd
import Derived.LoopN

/- The walk of ApartMoves (printed by lawvec.py). -/
namespace Go.Proofs.YtbgifinfflehmaaDoor
open Go.RowKit
set_option linter.unusedVariables false
set_option linter.unusedSimpArgs false

set_option maxHeartbeats 8000000 in
set_option maxRecDepth 20000 in
theorem apartMoves_int {A0 A1 : Option Addr} {n0 c0 n1 c1 : Nat} {xs0 xs1 : List Int} (x y u v bz : Int) (w : World) (hi0 : Ints w A0 n0 c0 xs0) (hi1 : Ints w A1 n1 c1 xs1) (hx0 : -9223372036854775808 ≤ x) (hx1 : x ≤ 9223372036854775807) (hy0 : -9223372036854775808 ≤ y) (hy1 : y ≤ 9223372036854775807) (hu0 : -9223372036854775808 ≤ u) (hu1 : u ≤ 9223372036854775807) (hv0 : -9223372036854775808 ≤ v) (hv1 : v ≤ 9223372036854775807) (hbz0 : -9223372036854775808 ≤ bz) (hbz1 : bz ≤ 9223372036854775807) (hT : Tab w) :
    Calls Tryd.prog 3 #[.slice A0 n0 c0, .slice A1 n1 c1, .int .i64 x, .int .i64 y, .int .i64 u, .int .i64 v, .int .i64 bz] w fun e w' => e = .returned (.bool true) ∧ Below w.heap.size w w' := by
  obtain ⟨b3, hb3⟩ : ∃ z, bz.tdiv 3 = z := ⟨_, rfl⟩
  have hb3a : b3.natAbs = bz.natAbs / 3 := by rw [← hb3]; exact Int.natAbs_tdiv bz 3
  have HB3 := Lib.hid (show IntKind.i64.wrap (bz.tdiv 3) = b3 ∧ bz.tdiv 3 = b3 from ⟨by rw [hb3]; exact i64_s _ (by omega) (by omega), hb3⟩)
  have Ib3 := Lib.hid (show -9223372036854775808 ≤ b3 ∧ b3 ≤ 9223372036854775807 from ⟨by omega, by omega⟩)
  clear hb3 hb3a
  have Ix := Lib.hid (And.intro hx0 hx1); clear hx0 hx1
  have Iy := Lib.hid (And.intro hy0 hy1); clear hy0 hy1
  have Iu := Lib.hid (And.intro hu0 hu1); clear hu0 hu1
  have Iv := Lib.hid (And.intro hv0 hv1); clear hv0 hv1
  have Ibz := Lib.hid (And.intro hbz0 hbz1); clear hbz0 hbz1
  have HT := Lib.hid hT; clear hT
  have HI0 := Lib.hid hi0; clear hi0
  have HI1_ := Lib.hid hi1; clear hi1
  obtain ⟨fx, efx⟩ : ∃ r_, ratMq x = r_ := ⟨_, rfl⟩
  have Z_fx := Lib.hid (show Rz 2 fx from efx ▸ (ratMq_small x).rz.more (by omega))
  have Efx := Lib.hid efx; clear efx
  obtain ⟨fy, efy⟩ : ∃ r_, ratMq y = r_ := ⟨_, rfl⟩
  have Z_fy := Lib.hid (show Rz 2 fy from efy ▸ (ratMq_small y).rz.more (by omega))
  have Efy := Lib.hid efy; clear efy
  obtain ⟨ha, eha⟩ : ∃ r_, tdH bz = r_ := ⟨_, rfl⟩
  obtain ⟨ta, eta⟩ : ∃ r_, tdT bz = r_ := ⟨_, rfl⟩
  have Eha := Lib.hid (And.intro eha eta)
  have Gha := Lib.hid (show GoodT ha ta from eha ▸ eta ▸ td_good bz)
  have Z_ta := Lib.hid (show Rz 2 ta from eta ▸ td_rz bz); clear eha eta
  obtain ⟨gx, egx⟩ : ∃ r_, ratMq u = r_ := ⟨_, rfl⟩
  have Z_gx := Lib.hid (show Rz 2 gx from egx ▸ (ratMq_small u).rz.more (by omega))
  have Egx := Lib.hid egx; clear egx
  obtain ⟨gy, egy⟩ : ∃ r_, ratMq v = r_ := ⟨_, rfl⟩
  have Z_gy := Lib.hid (show Rz 2 gy from egy ▸ (ratMq_small v).rz.more (by omega))
  have Egy := Lib.hid egy; clear egy
  obtain ⟨hb, ehb⟩ : ∃ r_, tdH b3 = r_ := ⟨_, rfl⟩
  obtain ⟨tb, etb⟩ : ∃ r_, tdT b3 = r_ := ⟨_, rfl⟩
  have Ehb := Lib.hid (And.intro ehb etb)
  have Ghb := Lib.hid (show GoodT hb tb from ehb ▸ etb ▸ td_good b3)
  have Z_tb := Lib.hid (show Rz 2 tb from etb ▸ td_rz b3); clear ehb etb
  have CS := cos_sin ha ta Gha.out
  have CS2 := cos_sin hb tb Ghb.out
  obtain ⟨ps, hps⟩ : ∃ z, polyQ xs0 = z := ⟨_, rfl⟩
  obtain ⟨n, hn⟩ : ∃ z, ps.length = z := ⟨_, rfl⟩
  have hlen_ps := polyQ_len xs0
  rw [hps, hn] at hlen_ps
  have hcv_ps := polyQ_cvx xs0
  rw [hps] at hcv_ps
  have hz_ps := polyQ_z xs0
  rw [hps] at hz_ps
  obtain ⟨rs, hrs⟩ : ∃ z, polyQ xs1 = z := ⟨_, rfl⟩
  obtain ⟨m, hm⟩ : ∃ z, rs.length = z := ⟨_, rfl⟩
  have hlen_rs := polyQ_len xs1
  rw [hrs, hm] at hlen_rs
  have hcv_rs := polyQ_cvx xs1
  rw [hrs] at hcv_rs
  have hz_rs := polyQ_z xs1
  rw [hrs] at hz_rs
  obtain ⟨qs, hqs⟩ : ∃ z, mvP (cosT ha ta) (sinT ta) fx fy rs = z := ⟨_, rfl⟩
  have hcv_qs := cvx_mv CS hcv_rs (tx := fx) (ty := fy)
  have hz_qs : Pz 231 qs := by rw [← hqs]; exact mvP_z (ha := ha) Z_fx.out Z_fy.out Z_ta.out hz_rs
  have hl_qs : qs.length = m := by rw [← hqs, mvP_len]; exact hm
  rw [hqs] at hcv_qs
  obtain ⟨pf, hpf⟩ : ∃ z, mvP (cosT hb tb) (sinT tb) gx gy ps = z := ⟨_, rfl⟩
  have hcv_pf := cvx_mv CS2 hcv_ps (tx := gx) (ty := gy)
  have hz_pf : Pz 231 pf := by rw [← hpf]; exact mvP_z (ha := hb) Z_gx.out Z_gy.out Z_tb.out hz_ps
  have hl_pf : pf.length = n := by rw [← hpf, mvP_len]; exact hn
  rw [hpf] at hcv_pf
  obtain ⟨qf, hqf⟩ : ∃ z, mvP (cosT hb tb) (sinT tb) gx gy qs = z := ⟨_, rfl⟩
  have hcv_qf := cvx_mv CS2 hcv_qs (tx := gx) (ty := gy)
  have hz_qf : Pz 17177 qf := by rw [← hqf]; exact mvP_z (k := 231) (ha := hb) (Z_gx.out.more (by omega)) (Z_gy.out.more (by omega)) (Z_tb.out.more (by omega)) hz_qs
  have hl_qf : qf.length = m := by rw [← hqf, mvP_len]; exact hl_qs
  rw [hqf] at hcv_qf
  obtain ⟨mt, hmt⟩ : ∃ z, meetB ps qs = z := ⟨_, rfl⟩
  have hmt2 : meetB qs ps = mt := by rw [meet_comm]; exact hmt
  obtain ⟨d, hd⟩ : ∃ z, sqQ ps qs = z := ⟨_, rfl⟩
  have hd2 : sqQ qs ps = d := by rw [sq_comm (by omega) (by omega)]; exact hd
  have hd3 : sqQ pf qf = d := by rw [← hpf, ← hqf, sq_mv CS2 (by omega) (by omega)]; exact hd
  have Z_d := Lib.hid (show Rz 10000000 d from hd ▸ (sqQ_rz (k := 231) (hz_ps.more (by omega)) hz_qs (by omega) (by omega)).more (by omega))
  obtain ⟨sv, hsv⟩ : ∃ z, sgnQ d = z := ⟨_, rfl⟩
  have hs : (mt = true ∧ sv = 0) ∨ (mt = false ∧ sv = 1) := by
    cases hx : mt with
    | true =>
      left
      rw [hx] at hmt
      rw [sq_zero hmt] at hd
      exact ⟨rfl, by rw [← hsv, ← hd]; decide +kernel⟩
    | false =>
      right
      rw [hx] at hmt
      have := sq_ps2 hcv_ps hcv_qs (by omega) (by omega) hmt
      rw [hd] at this
      exact ⟨rfl, by rw [← hsv]; unfold sgnQ cmpQ; rw [if_neg (by grind), if_pos this]⟩
  have HS0 := Lib.hid (show (sv == 0) = mt ∧ decide (sv = 0) = mt ∧ 0 ≤ sv by
    rcases hs with ⟨h1, h2⟩ | ⟨h1, h2⟩ <;> subst h1 <;> rw [h2] <;> exact ⟨rfl, rfl, by omega⟩)
  have HSV := Lib.hid hsv
  have HD := Lib.hid (And.intro hd (And.intro hd2 hd3))
  have HMT := Lib.hid (And.intro hmt hmt2)
  clear hs hsv hd hd2 hd3 hmt hmt2
  have HCP := Lib.hid (show 3 ≤ n ∧ n ≤ 8 ∧ Cvx ps from ⟨by omega, by omega, hcv_ps⟩)
  have HCR := Lib.hid (show 3 ≤ m ∧ m ≤ 8 ∧ Cvx rs from ⟨by omega, by omega, hcv_rs⟩)
  have HCQ := Lib.hid (show 3 ≤ m ∧ m ≤ 8 ∧ Cvx qs from ⟨by omega, by omega, hcv_qs⟩)
  have HCPF := Lib.hid (show 3 ≤ n ∧ n ≤ 8 ∧ Cvx pf from ⟨by omega, by omega, hcv_pf⟩)
  have HCQF := Lib.hid (show 3 ≤ m ∧ m ≤ 8 ∧ Cvx qf from ⟨by omega, by omega, hcv_qf⟩)
  clear hcv_ps hcv_rs hcv_qs hcv_pf hcv_qf hlen_ps hlen_rs CS CS2
  have HZP := Lib.hid hz_ps; clear hz_ps
  have HZR := Lib.hid hz_rs; clear hz_rs
  have HZQ := Lib.hid hz_qs; clear hz_qs
  have HZPF := Lib.hid hz_pf; clear hz_pf
  have HZQF := Lib.hid hz_qf; clear hz_qf
  have HL := Lib.hid hn; clear hn
  have HLR := Lib.hid hm; clear hm
  have HLQ := Lib.hid hl_qs; clear hl_qs
  have HLPF := Lib.hid hl_pf; clear hl_pf
  have HLQF := Lib.hid hl_qf; clear hl_qf
  have HPS := Lib.hid hps; clear hps
  have HRS := Lib.hid hrs; clear hrs
  have HQS := Lib.hid hqs; clear hqs
  have HPF := Lib.hid hpf; clear hpf
  have HQF := Lib.hid hqf; clear hqf
  go_enter Tryd.func3, Tryd.ntmps3
  have HS : St w [] w := St.start
  go_upto_region 0 with (fail)
  refine wp_seq_text [] (StR.no HS) ?_
  refine Seq.pure rfl rfl (by intro w; go_simp; try first | with_reducible rfl | rfl) ?_
  simp only [Act.put, List.setIfInBounds_toArray, List.set_cons_zero, List.set_cons_succ]
  refine Seq.done fun ws1 hws => ?_
  have HS1 := hws.st
  clear HS hws
  go_upto_region 1 with (fail)
  refine wp_seq_text [] (StR.no HS1) ?_
  refine Seq.call rfl rfl rfl rfl (by kernel_rfl) (abegun_q HT.out) ?_
  simp only [Act.put, List.setIfInBounds_toArray, List.set_cons_zero, List.set_cons_succ]
  refine Seq.pure rfl rfl (by intro w; go_simp; try first | with_reducible rfl | rfl) ?_
  simp only [Act.put, List.setIfInBounds_toArray, List.set_cons_zero, List.set_cons_succ]
  refine Seq.done fun ws2 hws => ?_
  have HS2 := hws.st
  clear HS1 hws
  go_upto_region 3 with (fail)
  refine wp_seq_text [1000001, 1000007, 1000008] (StR.no HS2) ?_
  refine Seq.pure rfl rfl (by intro w; go_simp; try first | with_reducible rfl | rfl) ?_
  simp only [Act.put, List.setIfInBounds_toArray, List.set_cons_zero, List.set_cons_succ]
  refine Seq.callFresh (n := some n) (x := (30, PC ps)) rfl rfl rfl rfl (by kernel_rfl) (fun w h => poly_G HI0.out HPS.out HL.out w h.st) ?_
  intro bk33 _ _ hbk33_r
  simp only [mk]
  simp only [Act.put, List.setIfInBounds_toArray, List.set_cons_zero, List.set_cons_succ]
  refine Seq.pure rfl rfl (by intro w; go_simp; try first | with_reducible rfl | rfl) ?_
  simp only [Act.put, List.setIfInBounds_toArray, List.set_cons_zero, List.set_cons_succ]
  refine Seq.pure rfl rfl (by intro w; go_simp; try first | with_reducible rfl | rfl) ?_
  simp only [Act.put, List.setIfInBounds_toArray, List.set_cons_zero, List.set_cons_succ]
  refine Seq.pure rfl rfl (by intro w; go_simp; try first | with_reducible rfl | rfl) ?_
  simp only [Act.put, List.setIfInBounds_toArray, List.set_cons_zero, List.set_cons_succ]
  refine Seq.call rfl rfl rfl rfl (by kernel_rfl) (framed_q HT.out Ix.out Iy.out Ibz.out Efx.out Efy.out Eha.out.1 Eha.out.2) ?_
  simp only [Act.put, List.setIfInBounds_toArray, List.set_cons_zero, List.set_cons_succ]
  refine Seq.pure rfl rfl (by intro w; go_simp; try first | with_reducible rfl | rfl) ?_
  simp only [Act.put, List.setIfInBounds_toArray, List.set_cons_zero, List.set_cons_succ]
  refine Seq.callFresh (n := some m) (x := (30, PC rs)) rfl rfl rfl rfl (by kernel_rfl) (fun w h => poly_G HI1_.out HRS.out HLR.out w h.st) ?_
  intro bk39 _ _ hbk39_r
  obtain ⟨ne_bk39_bk33, hbk39_r⟩ := Reg.ne_of_put hbk39_r
  have ne_bk33_bk39 := Ne.symm ne_bk39_bk33
  simp only [mk]
  simp only [Act.put, List.setIfInBounds_toArray, List.set_cons_zero, List.set_cons_succ]
  refine Seq.callFresh (n := some m) (x := (30, PC qs)) rfl rfl rfl rfl (by kernel_rfl) (fun w h => flist_G (k := 2) HT.out (Z_fx.out.more (by omega)) (Z_fy.out.more (by omega)) (Z_ta.out.more (by omega)) Gha.out (HZR.out.more (by omega)) HLR.out (by have := HCR.out.2.1; omega) HQS.out (by omega) _ w h.st (h.reg _ _ _ (by first | exact rS | exact rN (by assumption) (rS) | exact rN (by assumption) (rN (by assumption) (rS)) | exact rN (by assumption) (rN (by assumption) (rN (by assumption) (rS))) | exact rN (by assumption) (rN (by assumption) (rN (by assumption) (rN (by assumption) (rS)))))).2.2) ?_
  intro bk40 _ _ hbk40_r
  obtain ⟨ne_bk40_bk39, hbk40_r⟩ := Reg.ne_of_put hbk40_r
  have ne_bk39_bk40 := Ne.symm ne_bk40_bk39
  obtain ⟨ne_bk40_bk33, hbk40_r⟩ := Reg.ne_of_put hbk40_r
  have ne_bk33_bk40 := Ne.symm ne_bk40_bk33
  simp only [mk]
  simp only [Act.put, List.setIfInBounds_toArray, List.set_cons_zero, List.set_cons_succ]
  refine Seq.pure rfl rfl (by intro w; go_simp; try first | with_reducible rfl | rfl) ?_
  simp only [Act.put, List.setIfInBounds_toArray, List.set_cons_zero, List.set_cons_succ]
  refine Seq.pure rfl rfl (by intro w; go_simp; try first | with_reducible rfl | rfl) ?_
  simp only [Act.put, List.setIfInBounds_toArray, List.set_cons_zero, List.set_cons_succ]
  refine Seq.done fun ws3 hws => ?_
  have HS3 : St w [(bk33, 30, PC ps), (bk39, 30, PC rs), (bk40, 30, PC qs)] ws3 := hws.list3 (by first | exact rS | exact rN (by assumption) (rS) | exact rN (by assumption) (rN (by assumption) (rS)) | exact rN (by assumption) (rN (by assumption) (rN (by assumption) (rS))) | exact rN (by assumption) (rN (by assumption) (rN (by assumption) (rN (by assumption) (rS))))) (by first | exact rS | exact rN (by assumption) (rS) | exact rN (by assumption) (rN (by assumption) (rS)) | exact rN (by assumption) (rN (by assumption) (rN (by assumption) (rS))) | exact rN (by assumption) (rN (by assumption) (rN (by assumption) (rN (by assumption) (rS))))) (by first | exact rS | exact rN (by assumption) (rS) | exact rN (by assumption) (rN (by assumption) (rS)) | exact rN (by assumption) (rN (by assumption) (rN (by assumption) (rS))) | exact rN (by assumption) (rN (by assumption) (rN (by assumption) (rN (by assumption) (rS))))) (by assumption) (by assumption) (by assumption)
  clear HS2 hws
  go_upto_region 4 with (fail)
  refine wp_seq_text [] (StR.no HS3) ?_
  refine Seq.pure rfl rfl (by intro w; go_simp; try first | with_reducible rfl | rfl) ?_
  simp only [Act.put, List.setIfInBounds_toArray, List.set_cons_zero, List.set_cons_succ]
  refine Seq.pure rfl rfl (by intro w; go_simp; try first | with_reducible rfl | rfl) ?_
  simp only [Act.put, List.setIfInBounds_toArray, List.set_cons_zero, List.set_cons_succ]
  refine Seq.pure rfl rfl (by intro w; go_simp; try first | with_reducible rfl | rfl) ?_
  simp only [Act.put, List.setIfInBounds_toArray, List.set_cons_zero, List.set_cons_succ]
  refine Seq.pure (v := .int .i64 b3) rfl rfl (by intro w; go_simp <;> (first | (rw [HB3.out.1]; done) | (rw [HB3.out.2]; done) | exact HB3.out.1 | exact HB3.out.2 | (simp [HB3.out.1, HB3.out.2]; done) | (trace_state; done))) ?_
  simp only [Act.put, List.setIfInBounds_toArray, List.set_cons_zero, List.set_cons_succ]
  refine Seq.call rfl rfl rfl rfl (by kernel_rfl) (framed_q HT.out Iu.out Iv.out Ib3.out Egx.out Egy.out Ehb.out.1 Ehb.out.2) ?_
  simp only [Act.put, List.setIfInBounds_toArray, List.set_cons_zero, List.set_cons_succ]
  refine Seq.alloc rfl rfl rfl (z := .agg #[.bool false, .string ⟨#[]⟩, .string ⟨#[]⟩, .bool false, .string ⟨#[]⟩, .string ⟨#[]⟩, .bool false, .bool false, .string ⟨#[]⟩, .string ⟨#[]⟩]) (by kernel_rfl) rfl ?_
  intro bk17 _ _ hbk17_r
  simp only [Act.put, List.setIfInBounds_toArray, List.set_cons_zero, List.set_cons_succ]
  refine Seq.store rfl rfl rfl rfl rfl (by first | exact rS | exact rN (by assumption) (rS) | exact rN (by assumption) (rN (by assumption) (rS)) | exact rN (by assumption) (rN (by assumption) (rN (by assumption) (rS))) | exact rN (by assumption) (rN (by assumption) (rN (by assumption) (rN (by assumption) (rS))))) (n := 10) rfl rfl (by kernel_rfl) (FC_one _ _ _ _) ?_
  simp only [Act.put, List.setIfInBounds_toArray, List.set_cons_zero, List.set_cons_succ]
  refine Seq.done fun ws4 hws => ?_
  have HS4 : St w [(bk17, 34, FC gx gy hb tb), (bk33, 30, PC ps), (bk39, 30, PC rs), (bk40, 30, PC qs)] ws4 := hws.list1 (by first | exact rS | exact rN (by assumption) (rS) | exact rN (by assumption) (rN (by assumption) (rS)) | exact rN (by assumption) (rN (by assumption) (rN (by assumption) (rS))) | exact rN (by assumption) (rN (by assumption) (rN (by assumption) (rN (by assumption) (rS)))))
  clear HS3 hws
  go_upto_region 5 with (fail)
  refine wp_seq_text [] (StR.no HS4) ?_
  refine Seq.pure rfl rfl (by intro w; go_simp; try first | with_reducible rfl | rfl) ?_
  simp only [Act.put, List.setIfInBounds_toArray, List.set_cons_zero, List.set_cons_succ]
  refine Seq.pure rfl rfl (by intro w; go_simp; try first | with_reducible rfl | rfl) ?_
  simp only [Act.put, List.setIfInBounds_toArray, List.set_cons_zero, List.set_cons_succ]
  refine Seq.call rfl rfl rfl rfl (by kernel_rfl) (fun w h => meet_q2 (k := 231) HT.out (HZP.out.more (by omega)) HL.out ⟨HCP.out.1, by have := HCP.out.2.1; omega, HCP.out.2.2⟩ (HZQ.out.more (by omega)) HLQ.out ⟨HCQ.out.1, by have := HCQ.out.2.1; omega, HCQ.out.2.2⟩ HMT.out.1 (by omega) _ _ w h (h.blk (bk33, _, _) (by repeat (first | exact mC | apply mT))).2 (h.blk (bk40, _, _) (by repeat (first | exact mC | apply mT))).2) ?_
  simp only [Act.put, List.setIfInBounds_toArray, List.set_cons_zero, List.set_cons_succ]
  refine Seq.pure rfl rfl (by intro w; go_simp; try first | with_reducible rfl | rfl) ?_
  simp only [Act.put, List.setIfInBounds_toArray, List.set_cons_zero, List.set_cons_succ]
  refine Seq.pure (v := .bool mt) rfl rfl (fun w => rfl) ?_
  simp only [Act.put, List.setIfInBounds_toArray, List.set_cons_zero, List.set_cons_succ]
  refine Seq.pure (v := .int .i64 0) rfl rfl (fun w => rfl) ?_
  simp only [Act.put, List.setIfInBounds_toArray, List.set_cons_zero, List.set_cons_succ]
  refine Seq.pure rfl rfl (by intro w; go_simp; try first | with_reducible rfl | rfl) ?_
  simp only [Act.put, List.setIfInBounds_toArray, List.set_cons_zero, List.set_cons_succ]
  refine Seq.pure rfl rfl (by intro w; go_simp; try first | with_reducible rfl | rfl) ?_
  simp only [Act.put, List.setIfInBounds_toArray, List.set_cons_zero, List.set_cons_succ]
  refine Seq.done fun ws5 hws => ?_
  have HS5 := hws.st
  clear HS4 hws
  go_upto_region 6 with (fail)
  refine wp_seq_text [] (StR.no HS5) ?_
  refine Seq.pure rfl rfl (by intro w; go_simp; try first | with_reducible rfl | rfl) ?_
  simp only [Act.put, List.setIfInBounds_toArray, List.set_cons_zero, List.set_cons_succ]
  refine Seq.pure rfl rfl (by intro w; go_simp; try first | with_reducible rfl | rfl) ?_
  simp only [Act.put, List.setIfInBounds_toArray, List.set_cons_zero, List.set_cons_succ]
  refine Seq.call rfl rfl rfl rfl (by kernel_rfl) (fun w h => sq_q2 (k := 231) HT.out (HZP.out.more (by omega)) HL.out ⟨HCP.out.1, by have := HCP.out.2.1; omega, HCP.out.2.2⟩ (HZQ.out.more (by omega)) HLQ.out ⟨HCQ.out.1, by have := HCQ.out.2.1; omega, HCQ.out.2.2⟩ HD.out.1 (by omega) _ _ w h (h.blk (bk33, _, _) (by repeat (first | exact mC | apply mT))).2 (h.blk (bk40, _, _) (by repeat (first | exact mC | apply mT))).2) ?_
  simp only [Act.put, List.setIfInBounds_toArray, List.set_cons_zero, List.set_cons_succ]
  refine Seq.pure rfl rfl (by intro w; go_simp; try first | with_reducible rfl | rfl) ?_
  simp only [Act.put, List.setIfInBounds_toArray, List.set_cons_zero, List.set_cons_succ]
  refine Seq.pure (v := .agg (RC d)) rfl rfl (fun w => rfl) ?_
  simp only [Act.put, List.setIfInBounds_toArray, List.set_cons_zero, List.set_cons_succ]
  refine Seq.pure (v := .int .i64 0) rfl rfl (fun w => rfl) ?_
  simp only [Act.put, List.setIfInBounds_toArray, List.set_cons_zero, List.set_cons_succ]
  refine Seq.alloc rfl rfl rfl (z := .agg #[.bool false, .string ⟨#[]⟩, .string ⟨#[]⟩]) (by kernel_rfl) rfl ?_
  intro bk20 _ _ hbk20_r
  simp only [Act.put, List.setIfInBounds_toArray, List.set_cons_zero, List.set_cons_succ]
  refine Seq.store rfl rfl rfl rfl rfl (by first | exact rS | exact rN (by assumption) (rS) | exact rN (by assumption) (rN (by assumption) (rS)) | exact rN (by assumption) (rN (by assumption) (rN (by assumption) (rS))) | exact rN (by assumption) (rN (by assumption) (rN (by assumption) (rN (by assumption) (rS))))) (n := 3) rfl rfl (by kernel_rfl) (RC_one _) ?_
  simp only [Act.put, List.setIfInBounds_toArray, List.set_cons_zero, List.set_cons_succ]
  refine Seq.pure rfl rfl (by intro w; go_simp; try first | with_reducible rfl | rfl) ?_
  simp only [Act.put, List.setIfInBounds_toArray, List.set_cons_zero, List.set_cons_succ]
  refine Seq.done fun ws6 hws => ?_
  have HS6 : St w [(bk20, 28, RC d), (bk17, 34, FC gx gy hb tb), (bk33, 30, PC ps), (bk39, 30, PC rs), (bk40, 30, PC qs)] ws6 := hws.list1 (by first | exact rS | exact rN (by assumption) (rS) | exact rN (by assumption) (rN (by assumption) (rS)) | exact rN (by assumption) (rN (by assumption) (rN (by assumption) (rS))) | exact rN (by assumption) (rN (by assumption) (rN (by assumption) (rN (by assumption) (rS)))))
  clear HS5 hws
  go_upto_region 7 with (fail)
  refine wp_seq_text [] (StR.no HS6) ?_
  refine Seq.pure rfl rfl (by intro w; go_simp; try first | with_reducible rfl | rfl) ?_
  simp only [Act.put, List.setIfInBounds_toArray, List.set_cons_zero, List.set_cons_succ]
  refine Seq.pure rfl rfl (by intro w; go_simp; try first | with_reducible rfl | rfl) ?_
  simp only [Act.put, List.setIfInBounds_toArray, List.set_cons_zero, List.set_cons_succ]
  refine Seq.call rfl rfl rfl rfl (by kernel_rfl) (fun w h => sq_q2 (k := 231) HT.out (HZQ.out.more (by omega)) HLQ.out ⟨HCQ.out.1, by have := HCQ.out.2.1; omega, HCQ.out.2.2⟩ (HZP.out.more (by omega)) HL.out ⟨HCP.out.1, by have := HCP.out.2.1; omega, HCP.out.2.2⟩ HD.out.2.1 (by omega) _ _ w h (h.blk (bk40, _, _) (by repeat (first | exact mC | apply mT))).2 (h.blk (bk33, _, _) (by repeat (first | exact mC | apply mT))).2) ?_
  simp only [Act.put, List.setIfInBounds_toArray, List.set_cons_zero, List.set_cons_succ]
  refine Seq.pure rfl rfl (by intro w; go_simp; try first | with_reducible rfl | rfl) ?_
  simp only [Act.put, List.setIfInBounds_toArray, List.set_cons_zero, List.set_cons_succ]
  refine Seq.pure (v := .agg (RC d)) rfl rfl (fun w => rfl) ?_
  simp only [Act.put, List.setIfInBounds_toArray, List.set_cons_zero, List.set_cons_succ]
  refine Seq.pure (v := .int .i64 0) rfl rfl (fun w => rfl) ?_
  simp only [Act.put, List.setIfInBounds_toArray, List.set_cons_zero, List.set_cons_succ]
  refine Seq.alloc rfl rfl rfl (z := .agg #[.bool false, .string ⟨#[]⟩, .string ⟨#[]⟩]) (by kernel_rfl) rfl ?_
  intro bk22 _ _ hbk22_r
  simp only [Act.put, List.setIfInBounds_toArray, List.set_cons_zero, List.set_cons_succ]
  refine Seq.store rfl rfl rfl rfl rfl (by first | exact rS | exact rN (by assumption) (rS) | exact rN (by assumption) (rN (by assumption) (rS)) | exact rN (by assumption) (rN (by assumption) (rN (by assumption) (rS))) | exact rN (by assumption) (rN (by assumption) (rN (by assumption) (rN (by assumption) (rS))))) (n := 3) rfl rfl (by kernel_rfl) (RC_one _) ?_
  simp only [Act.put, List.setIfInBounds_toArray, List.set_cons_zero, List.set_cons_succ]
  refine Seq.pure rfl rfl (by intro w; go_simp; try first | with_reducible rfl | rfl) ?_
  simp only [Act.put, List.setIfInBounds_toArray, List.set_cons_zero, List.set_cons_succ]
  refine Seq.done fun ws7 hws => ?_
  have HS7 : St w [(bk22, 28, RC d), (bk20, 28, RC d), (bk17, 34, FC gx gy hb tb), (bk33, 30, PC ps), (bk39, 30, PC rs), (bk40, 30, PC qs)] ws7 := hws.list1 (by first | exact rS | exact rN (by assumption) (rS) | exact rN (by assumption) (rN (by assumption) (rS)) | exact rN (by assumption) (rN (by assumption) (rN (by assumption) (rS))) | exact rN (by assumption) (rN (by assumption) (rN (by assumption) (rN (by assumption) (rS)))))
  clear HS6 hws
  go_upto_region 8 with (fail)
  refine wp_seq_text [] (StR.no HS7) ?_
  refine Seq.pure rfl rfl (by intro w; go_simp; try first | with_reducible rfl | rfl) ?_
  simp only [Act.put, List.setIfInBounds_toArray, List.set_cons_zero, List.set_cons_succ]
  refine Seq.pure rfl rfl (by intro w; go_simp; try first | with_reducible rfl | rfl) ?_
  simp only [Act.put, List.setIfInBounds_toArray, List.set_cons_zero, List.set_cons_succ]
  refine Seq.call rfl rfl rfl rfl (by kernel_rfl) (fun w h => meet_q2 (k := 231) HT.out (HZQ.out.more (by omega)) HLQ.out ⟨HCQ.out.1, by have := HCQ.out.2.1; omega, HCQ.out.2.2⟩ (HZP.out.more (by omega)) HL.out ⟨HCP.out.1, by have := HCP.out.2.1; omega, HCP.out.2.2⟩ HMT.out.2 (by omega) _ _ w h (h.blk (bk40, _, _) (by repeat (first | exact mC | apply mT))).2 (h.blk (bk33, _, _) (by repeat (first | exact mC | apply mT))).2) ?_
  simp only [Act.put, List.setIfInBounds_toArray, List.set_cons_zero, List.set_cons_succ]
  refine Seq.pure rfl rfl (by intro w; go_simp; try first | with_reducible rfl | rfl) ?_
  simp only [Act.put, List.setIfInBounds_toArray, List.set_cons_zero, List.set_cons_succ]
  refine Seq.pure (v := .bool mt) rfl rfl (fun w => rfl) ?_
  simp only [Act.put, List.setIfInBounds_toArray, List.set_cons_zero, List.set_cons_succ]
  refine Seq.pure (v := .int .i64 0) rfl rfl (fun w => rfl) ?_
  simp only [Act.put, List.setIfInBounds_toArray, List.set_cons_zero, List.set_cons_succ]
  refine Seq.pure rfl rfl (by intro w; go_simp; try first | with_reducible rfl | rfl) ?_
  simp only [Act.put, List.setIfInBounds_toArray, List.set_cons_zero, List.set_cons_succ]
  refine Seq.pure rfl rfl (by intro w; go_simp; try first | with_reducible rfl | rfl) ?_
  simp only [Act.put, List.setIfInBounds_toArray, List.set_cons_zero, List.set_cons_succ]
  refine Seq.done fun ws8 hws => ?_
  have HS8 := hws.st
  clear HS7 hws
  go_upto_region 9 with (fail)
  refine wp_seq_ord [0, 1, 3, 4, 2, 5, 6, 7, 8, 9, 10, 11, 12] [1000004, 1000005, 13] (by kernel_rfl) (by kernel_rfl) Reg.fin_no (StR.no HS8) ?_
  simp only [pick, List.map_cons, List.map_nil, List.getElem?_cons_zero, List.getElem?_cons_succ, Option.getD_some]
  refine Seq.load rfl rfl rfl rfl (by repeat (first | exact mC | apply mT)) (n := 10) rfl (by kernel_rfl) ?_
  simp only [Act.put, List.setIfInBounds_toArray, List.set_cons_zero, List.set_cons_succ]
  refine Seq.pure rfl rfl (by intro w; go_simp; try first | with_reducible rfl | rfl) ?_
  simp only [Act.put, List.setIfInBounds_toArray, List.set_cons_zero, List.set_cons_succ]
  refine Seq.load rfl rfl rfl rfl (by repeat (first | exact mC | apply mT)) (n := 10) rfl (by kernel_rfl) ?_
  simp only [Act.put, List.setIfInBounds_toArray, List.set_cons_zero, List.set_cons_succ]
  refine Seq.pure rfl rfl (by intro w; go_simp; try first | with_reducible rfl | rfl) ?_
  simp only [Act.put, List.setIfInBounds_toArray, List.set_cons_zero, List.set_cons_succ]
  refine Seq.callFresh (n := some n) (x := (30, PC pf)) rfl rfl rfl rfl (by kernel_rfl) (fun w h => flist_G (k := 2) HT.out (Z_gx.out.more (by omega)) (Z_gy.out.more (by omega)) (Z_tb.out.more (by omega)) Ghb.out (HZP.out.more (by omega)) HL.out (by have := HCP.out.2.1; omega) HPF.out (by omega) _ w h.st (h.st.blk (bk33, _, _) (by repeat (first | exact mC | apply mT))).2) ?_
  intro bk73 _ _ hbk73_r
  simp only [mk]
  simp only [Act.put, List.setIfInBounds_toArray, List.set_cons_zero, List.set_cons_succ]
  refine Seq.callFresh (n := some m) (x := (30, PC qf)) rfl rfl rfl rfl (by kernel_rfl) (fun w h => flist_G (k := 231) HT.out (Z_gx.out.more (by omega)) (Z_gy.out.more (by omega)) (Z_tb.out.more (by omega)) Ghb.out (HZQ.out.more (by omega)) HLQ.out (by have := HCQ.out.2.1; omega) HQF.out (by omega) _ w h.st (h.st.blk (bk40, _, _) (by repeat (first | exact mC | apply mT))).2) ?_
  intro bk76 _ _ hbk76_r
  obtain ⟨ne_bk76_bk73, hbk76_r⟩ := Reg.ne_of_put hbk76_r
  have ne_bk73_bk76 := Ne.symm ne_bk76_bk73
  simp only [mk]
  simp only [Act.put, List.setIfInBounds_toArray, List.set_cons_zero, List.set_cons_succ]
  refine Seq.callAny rfl rfl rfl rfl (by kernel_rfl) (fun w h => sq_q2 (k := 17177) HT.out (HZPF.out.more (by omega)) HLPF.out ⟨HCPF.out.1, by have := HCPF.out.2.1; omega, HCPF.out.2.2⟩ (HZQF.out.more (by omega)) HLQF.out ⟨HCQF.out.1, by have := HCQF.out.2.1; omega, HCQF.out.2.2⟩ HD.out.2.2 (by omega) _ _ w h.st (h.reg _ _ _ (by first | exact rS | exact rN (by assumption) (rS) | exact rN (by assumption) (rN (by assumption) (rS)) | exact rN (by assumption) (rN (by assumption) (rN (by assumption) (rS))) | exact rN (by assumption) (rN (by assumption) (rN (by assumption) (rN (by assumption) (rS)))))).2.2 (h.reg _ _ _ (by first | exact rS | exact rN (by assumption) (rS) | exact rN (by assumption) (rN (by assumption) (rS)) | exact rN (by assumption) (rN (by assumption) (rN (by assumption) (rS))) | exact rN (by assumption) (rN (by assumption) (rN (by assumption) (rN (by assumption) (rS)))))).2.2) ?_
  simp only [Act.put, List.setIfInBounds_toArray, List.set_cons_zero, List.set_cons_succ]
  refine Seq.pure rfl rfl (by intro w; go_simp; try first | with_reducible rfl | rfl) ?_
  simp only [Act.put, List.setIfInBounds_toArray, List.set_cons_zero, List.set_cons_succ]
  refine Seq.pure (v := .agg (RC d)) rfl rfl (fun w => rfl) ?_
  simp only [Act.put, List.setIfInBounds_toArray, List.set_cons_zero, List.set_cons_succ]
  refine Seq.pure (v := .int .i64 0) rfl rfl (fun w => rfl) ?_
  simp only [Act.put, List.setIfInBounds_toArray, List.set_cons_zero, List.set_cons_succ]
  refine Seq.alloc rfl rfl rfl (z := .agg #[.bool false, .string ⟨#[]⟩, .string ⟨#[]⟩]) (by kernel_rfl) rfl ?_
  intro bk26 _ _ hbk26_r
  obtain ⟨ne_bk26_bk76, hbk26_r⟩ := Reg.ne_of_put hbk26_r
  have ne_bk76_bk26 := Ne.symm ne_bk26_bk76
  obtain ⟨ne_bk26_bk73, hbk26_r⟩ := Reg.ne_of_put hbk26_r
  have ne_bk73_bk26 := Ne.symm ne_bk26_bk73
  simp only [Act.put, List.setIfInBounds_toArray, List.set_cons_zero, List.set_cons_succ]
  refine Seq.store rfl rfl rfl rfl rfl (by first | exact rS | exact rN (by assumption) (rS) | exact rN (by assumption) (rN (by assumption) (rS)) | exact rN (by assumption) (rN (by assumption) (rN (by assumption) (rS))) | exact rN (by assumption) (rN (by assumption) (rN (by assumption) (rN (by assumption) (rS))))) (n := 3) rfl rfl (by kernel_rfl) (RC_one _) ?_
  simp only [Act.put, List.setIfInBounds_toArray, List.set_cons_zero, List.set_cons_succ]
  refine Seq.pure rfl rfl (by intro w; go_simp; try first | with_reducible rfl | rfl) ?_
  simp only [Act.put, List.setIfInBounds_toArray, List.set_cons_zero, List.set_cons_succ]
  refine Seq.done fun ws9 hws => ?_
  have HS9 : St w [(bk73, 30, PC pf), (bk76, 30, PC qf), (bk26, 28, RC d), (bk22, 28, RC d), (bk20, 28, RC d), (bk17, 34, FC gx gy hb tb), (bk33, 30, PC ps), (bk39, 30, PC rs), (bk40, 30, PC qs)] ws9 := hws.list3 (by first | exact rS | exact rN (by assumption) (rS) | exact rN (by assumption) (rN (by assumption) (rS)) | exact rN (by assumption) (rN (by assumption) (rN (by assumption) (rS))) | exact rN (by assumption) (rN (by assumption) (rN (by assumption) (rN (by assumption) (rS))))) (by first | exact rS | exact rN (by assumption) (rS) | exact rN (by assumption) (rN (by assumption) (rS)) | exact rN (by assumption) (rN (by assumption) (rN (by assumption) (rS))) | exact rN (by assumption) (rN (by assumption) (rN (by assumption) (rN (by assumption) (rS))))) (by first | exact rS | exact rN (by assumption) (rS) | exact rN (by assumption) (rN (by assumption) (rS)) | exact rN (by assumption) (rN (by assumption) (rN (by assumption) (rS))) | exact rN (by assumption) (rN (by assumption) (rN (by assumption) (rN (by assumption) (rS))))) (by assumption) (by assumption) (by assumption)
  clear HS8 hws
  go_upto_region 10 with (fail)
  refine wp_seq_text [] (StR.no HS9) ?_
  refine Seq.pure rfl rfl (by intro w; go_simp; try first | with_reducible rfl | rfl) ?_
  simp only [Act.put, List.setIfInBounds_toArray, List.set_cons_zero, List.set_cons_succ]
  refine Seq.pure rfl rfl (by intro w; go_simp; try first | with_reducible rfl | rfl) ?_
  simp only [Act.put, List.setIfInBounds_toArray, List.set_cons_zero, List.set_cons_succ]
  refine Seq.pure rfl rfl (by intro w; go_simp; try first | with_reducible rfl | rfl) ?_
  simp only [Act.put, List.setIfInBounds_toArray, List.set_cons_zero, List.set_cons_succ]
  refine Seq.pure rfl rfl (by intro w; go_simp; try first | with_reducible rfl | rfl) ?_
  simp only [Act.put, List.setIfInBounds_toArray, List.set_cons_zero, List.set_cons_succ]
  refine Seq.pure rfl rfl (by intro w; go_simp; try first | with_reducible rfl | rfl) ?_
  simp only [Act.put, List.setIfInBounds_toArray, List.set_cons_zero, List.set_cons_succ]
  refine Seq.slice (n := 5) (e := 36) (cs := #[.int .i64 0, .int .i64 0, .int .i64 0, .int .i64 0, .int .i64 0]) rfl rfl (by intro w; go_simp; try first | with_reducible rfl | rfl) ?_
  intro bk85 _ _ hbk85_r
  simp only [Act.put, List.setIfInBounds_toArray, List.set_cons_zero, List.set_cons_succ]
  refine Seq.pure (v := .int .i64 5) rfl rfl (by intro w; go_simp; try first | with_reducible rfl | rfl) ?_
  simp only [Act.put, List.setIfInBounds_toArray, List.set_cons_zero, List.set_cons_succ]
  refine Seq.pure rfl rfl (by intro w; go_simp; try first | with_reducible rfl | rfl) ?_
  simp only [Act.put, List.setIfInBounds_toArray, List.set_cons_zero, List.set_cons_succ]
  refine Seq.done fun ws10 hws => ?_
  have HS10 : St w [(bk85, 36, #[.int .i64 0, .int .i64 0, .int .i64 0, .int .i64 0, .int .i64 0]), (bk73, 30, PC pf), (bk76, 30, PC qf), (bk26, 28, RC d), (bk22, 28, RC d), (bk20, 28, RC d), (bk17, 34, FC gx gy hb tb), (bk33, 30, PC ps), (bk39, 30, PC rs), (bk40, 30, PC qs)] ws10 := hws.list1 (by first | exact rS | exact rN (by assumption) (rS) | exact rN (by assumption) (rN (by assumption) (rS)) | exact rN (by assumption) (rN (by assumption) (rN (by assumption) (rS))) | exact rN (by assumption) (rN (by assumption) (rN (by assumption) (rN (by assumption) (rS)))))
  clear HS9 hws
  go_wp2_with fail
  refine wp_loop_rounds 6 ?_
  rw [rounds_succ]
  go_upto_region 11 with (fail)
  refine wp_seq_text [] (StR.no HS10) ?_
  refine Seq.pure rfl rfl (by intro w; go_simp; try first | with_reducible rfl | rfl) ?_
  simp only [Act.put, List.setIfInBounds_toArray, List.set_cons_zero, List.set_cons_succ]
  refine Seq.done fun ws11 hws => ?_
  have HS11 := hws.st
  clear HS10 hws
  go_upto_region 12 with (fail)
  refine wp_seq_text [] (StR.no HS11) ?_
  refine Seq.pure (v := .pointer (some ⟨bk85, 0, none⟩)) rfl rfl (by intro w; go_simp; try first | with_reducible rfl | rfl) ?_
  simp only [Act.put, List.setIfInBounds_toArray, List.set_cons_zero, List.set_cons_succ]
  refine Seq.loadCell rfl rfl rfl rfl (by repeat (first | exact mC | apply mT)) (v := .int .i64 0) (by first | rfl | (simp [VC, TC, FC, BC, RC]; done)) (by kernel_rfl) rfl ?_
  simp only [Act.put, List.setIfInBounds_toArray, List.set_cons_zero, List.set_cons_succ]
  refine Seq.pure rfl rfl (by intro w; go_simp; try first | with_reducible rfl | rfl) ?_
  simp only [Act.put, List.setIfInBounds_toArray, List.set_cons_zero, List.set_cons_succ]
  refine Seq.done fun ws12 hws => ?_
  have HS12 := hws.st
  clear HS11 hws
  go_upto_region 13 with (fail)
  refine wp_seq_text [] (StR.no HS12) ?_
  refine Seq.pure rfl rfl (by intro w; go_simp; try first | with_reducible rfl | rfl) ?_
  simp only [Act.put, List.setIfInBounds_toArray, List.set_cons_zero, List.set_cons_succ]
  refine Seq.pure rfl rfl (by intro w; go_simp; try first | with_reducible rfl | rfl) ?_
  simp only [Act.put, List.setIfInBounds_toArray, List.set_cons_zero, List.set_cons_succ]
  refine Seq.done fun ws13 hws => ?_
  have HS13 := hws.st
  clear HS12 hws
  go_upto_region 15 with (fail)
  refine wp_seq_text [] (StR.no HS13) ?_
  refine Seq.pure (v := .int .i64 1) rfl rfl (by intro w; go_simp; try first | with_reducible rfl | rfl) ?_
  simp only [Act.put, List.setIfInBounds_toArray, List.set_cons_zero, List.set_cons_succ]
  refine Seq.pure rfl rfl (by intro w; go_simp; try first | with_reducible rfl | rfl) ?_
  simp only [Act.put, List.setIfInBounds_toArray, List.set_cons_zero, List.set_cons_succ]
  refine Seq.done fun ws14 hws => ?_
  have HS14 := hws.st
  clear HS13 hws
  go_wp2_with fail
  rw [rounds_succ]
  go_upto_region 11 with (fail)
  refine wp_seq_text [] (StR.no HS14) ?_
  refine Seq.pure rfl rfl (by intro w; go_simp; try first | with_reducible rfl | rfl) ?_
  simp only [Act.put, List.setIfInBounds_toArray, List.set_cons_zero, List.set_cons_succ]
  refine Seq.done fun ws15 hws => ?_
  have HS15 := hws.st
  clear HS14 hws
  go_upto_region 12 with (fail)
  refine wp_seq_text [] (StR.no HS15) ?_
  refine Seq.pure (v := .pointer (some ⟨bk85, 1, none⟩)) rfl rfl (by intro w; go_simp; try first | with_reducible rfl | rfl) ?_
  simp only [Act.put, List.setIfInBounds_toArray, List.set_cons_zero, List.set_cons_succ]
  refine Seq.loadCell rfl rfl rfl rfl (by repeat (first | exact mC | apply mT)) (v := .int .i64 0) (by first | rfl | (simp [VC, TC, FC, BC, RC]; done)) (by kernel_rfl) rfl ?_
  simp only [Act.put, List.setIfInBounds_toArray, List.set_cons_zero, List.set_cons_succ]
  refine Seq.pure rfl rfl (by intro w; go_simp; try first | with_reducible rfl | rfl) ?_
  simp only [Act.put, List.setIfInBounds_toArray, List.set_cons_zero, List.set_cons_succ]
  refine Seq.done fun ws16 hws => ?_
  have HS16 := hws.st
  clear HS15 hws
  go_upto_region 13 with (fail)
  refine wp_seq_text [] (StR.no HS16) ?_
  refine Seq.pure rfl rfl (by intro w; go_simp; try first | with_reducible rfl | rfl) ?_
  simp only [Act.put, List.setIfInBounds_toArray, List.set_cons_zero, List.set_cons_succ]
  refine Seq.pure rfl rfl (by intro w; go_simp; try first | with_reducible rfl | rfl) ?_
  simp only [Act.put, List.setIfInBounds_toArray, List.set_cons_zero, List.set_cons_succ]
  refine Seq.done fun ws17 hws => ?_
  have HS17 := hws.st
  clear HS16 hws
  go_upto_region 15 with (fail)
  refine wp_seq_text [] (StR.no HS17) ?_
  refine Seq.pure (v := .int .i64 2) rfl rfl (by intro w; go_simp; try first | with_reducible rfl | rfl) ?_
  simp only [Act.put, List.setIfInBounds_toArray, List.set_cons_zero, List.set_cons_succ]
  refine Seq.pure rfl rfl (by intro w; go_simp; try first | with_reducible rfl | rfl) ?_
  simp only [Act.put, List.setIfInBounds_toArray, List.set_cons_zero, List.set_cons_succ]
  refine Seq.done fun ws18 hws => ?_
  have HS18 := hws.st
  clear HS17 hws
  go_wp2_with fail
  rw [rounds_succ]
  go_upto_region 11 with (fail)
  refine wp_seq_text [] (StR.no HS18) ?_
  refine Seq.pure rfl rfl (by intro w; go_simp; try first | with_reducible rfl | rfl) ?_
  simp only [Act.put, List.setIfInBounds_toArray, List.set_cons_zero, List.set_cons_succ]
  refine Seq.done fun ws19 hws => ?_
  have HS19 := hws.st
  clear HS18 hws
  go_upto_region 12 with (fail)
  refine wp_seq_text [] (StR.no HS19) ?_
  refine Seq.pure (v := .pointer (some ⟨bk85, 2, none⟩)) rfl rfl (by intro w; go_simp; try first | with_reducible rfl | rfl) ?_
  simp only [Act.put, List.setIfInBounds_toArray, List.set_cons_zero, List.set_cons_succ]
  refine Seq.loadCell rfl rfl rfl rfl (by repeat (first | exact mC | apply mT)) (v := .int .i64 0) (by first | rfl | (simp [VC, TC, FC, BC, RC]; done)) (by kernel_rfl) rfl ?_
  simp only [Act.put, List.setIfInBounds_toArray, List.set_cons_zero, List.set_cons_succ]
  refine Seq.pure rfl rfl (by intro w; go_simp; try first | with_reducible rfl | rfl) ?_
  simp only [Act.put, List.setIfInBounds_toArray, List.set_cons_zero, List.set_cons_succ]
  refine Seq.done fun ws20 hws => ?_
  have HS20 := hws.st
  clear HS19 hws
  go_upto_region 13 with (fail)
  refine wp_seq_text [] (StR.no HS20) ?_
  refine Seq.pure rfl rfl (by intro w; go_simp; try first | with_reducible rfl | rfl) ?_
  simp only [Act.put, List.setIfInBounds_toArray, List.set_cons_zero, List.set_cons_succ]
  refine Seq.pure rfl rfl (by intro w; go_simp; try first | with_reducible rfl | rfl) ?_
  simp only [Act.put, List.setIfInBounds_toArray, List.set_cons_zero, List.set_cons_succ]
  refine Seq.done fun ws21 hws => ?_
  have HS21 := hws.st
  clear HS20 hws
  go_upto_region 15 with (fail)
  refine wp_seq_text [] (StR.no HS21) ?_
  refine Seq.pure (v := .int .i64 3) rfl rfl (by intro w; go_simp; try first | with_reducible rfl | rfl) ?_
  simp only [Act.put, List.setIfInBounds_toArray, List.set_cons_zero, List.set_cons_succ]
  refine Seq.pure rfl rfl (by intro w; go_simp; try first | with_reducible rfl | rfl) ?_
  simp only [Act.put, List.setIfInBounds_toArray, List.set_cons_zero, List.set_cons_succ]
  refine Seq.done fun ws22 hws => ?_
  have HS22 := hws.st
  clear HS21 hws
  go_wp2_with fail
  rw [rounds_succ]
  go_upto_region 11 with (fail)
  refine wp_seq_text [] (StR.no HS22) ?_
  refine Seq.pure rfl rfl (by intro w; go_simp; try first | with_reducible rfl | rfl) ?_
  simp only [Act.put, List.setIfInBounds_toArray, List.set_cons_zero, List.set_cons_succ]
  refine Seq.done fun ws23 hws => ?_
  have HS23 := hws.st
  clear HS22 hws
  go_upto_region 12 with (fail)
  refine wp_seq_text [] (StR.no HS23) ?_
  refine Seq.pure (v := .pointer (some ⟨bk85, 3, none⟩)) rfl rfl (by intro w; go_simp; try first | with_reducible rfl | rfl) ?_
  simp only [Act.put, List.setIfInBounds_toArray, List.set_cons_zero, List.set_cons_succ]
  refine Seq.loadCell rfl rfl rfl rfl (by repeat (first | exact mC | apply mT)) (v := .int .i64 0) (by first | rfl | (simp [VC, TC, FC, BC, RC]; done)) (by kernel_rfl) rfl ?_
  simp only [Act.put, List.setIfInBounds_toArray, List.set_cons_zero, List.set_cons_succ]
  refine Seq.pure rfl rfl (by intro w; go_simp; try first | with_reducible rfl | rfl) ?_
  simp only [Act.put, List.setIfInBounds_toArray, List.set_cons_zero, List.set_cons_succ]
  refine Seq.done fun ws24 hws => ?_
  have HS24 := hws.st
  clear HS23 hws
  go_upto_region 13 with (fail)
  refine wp_seq_text [] (StR.no HS24) ?_
  refine Seq.pure rfl rfl (by intro w; go_simp; try first | with_reducible rfl | rfl) ?_
  simp only [Act.put, List.setIfInBounds_toArray, List.set_cons_zero, List.set_cons_succ]
  refine Seq.pure rfl rfl (by intro w; go_simp; try first | with_reducible rfl | rfl) ?_
  simp only [Act.put, List.setIfInBounds_toArray, List.set_cons_zero, List.set_cons_succ]
  refine Seq.done fun ws25 hws => ?_
  have HS25 := hws.st
  clear HS24 hws
  go_upto_region 15 with (fail)
  refine wp_seq_text [] (StR.no HS25) ?_
  refine Seq.pure (v := .int .i64 4) rfl rfl (by intro w; go_simp; try first | with_reducible rfl | rfl) ?_
  simp only [Act.put, List.setIfInBounds_toArray, List.set_cons_zero, List.set_cons_succ]
  refine Seq.pure rfl rfl (by intro w; go_simp; try first | with_reducible rfl | rfl) ?_
  simp only [Act.put, List.setIfInBounds_toArray, List.set_cons_zero, List.set_cons_succ]
  refine Seq.done fun ws26 hws => ?_
  have HS26 := hws.st
  clear HS25 hws
  go_wp2_with fail
  rw [rounds_succ]
  go_upto_region 11 with (fail)
  refine wp_seq_text [] (StR.no HS26) ?_
  refine Seq.pure rfl rfl (by intro w; go_simp; try first | with_reducible rfl | rfl) ?_
  simp only [Act.put, List.setIfInBounds_toArray, List.set_cons_zero, List.set_cons_succ]
  refine Seq.done fun ws27 hws => ?_
  have HS27 := hws.st
  clear HS26 hws
  go_upto_region 12 with (fail)
  refine wp_seq_text [] (StR.no HS27) ?_
  refine Seq.pure (v := .pointer (some ⟨bk85, 4, none⟩)) rfl rfl (by intro w; go_simp; try first | with_reducible rfl | rfl) ?_
  simp only [Act.put, List.setIfInBounds_toArray, List.set_cons_zero, List.set_cons_succ]
  refine Seq.loadCell rfl rfl rfl rfl (by repeat (first | exact mC | apply mT)) (v := .int .i64 0) (by first | rfl | (simp [VC, TC, FC, BC, RC]; done)) (by kernel_rfl) rfl ?_
  simp only [Act.put, List.setIfInBounds_toArray, List.set_cons_zero, List.set_cons_succ]
  refine Seq.pure rfl rfl (by intro w; go_simp; try first | with_reducible rfl | rfl) ?_
  simp only [Act.put, List.setIfInBounds_toArray, List.set_cons_zero, List.set_cons_succ]
  refine Seq.done fun ws28 hws => ?_
  have HS28 := hws.st
  clear HS27 hws
  go_upto_region 13 with (fail)
  refine wp_seq_text [] (StR.no HS28) ?_
  refine Seq.pure rfl rfl (by intro w; go_simp; try first | with_reducible rfl | rfl) ?_
  simp only [Act.put, List.setIfInBounds_toArray, List.set_cons_zero, List.set_cons_succ]
  refine Seq.pure rfl rfl (by intro w; go_simp; try first | with_reducible rfl | rfl) ?_
  simp only [Act.put, List.setIfInBounds_toArray, List.set_cons_zero, List.set_cons_succ]
  refine Seq.done fun ws29 hws => ?_
  have HS29 := hws.st
  clear HS28 hws
  go_upto_region 15 with (fail)
  refine wp_seq_text [] (StR.no HS29) ?_
  refine Seq.pure (v := .int .i64 5) rfl rfl (by intro w; go_simp; try first | with_reducible rfl | rfl) ?_
  simp only [Act.put, List.setIfInBounds_toArray, List.set_cons_zero, List.set_cons_succ]
  refine Seq.pure rfl rfl (by intro w; go_simp; try first | with_reducible rfl | rfl) ?_
  simp only [Act.put, List.setIfInBounds_toArray, List.set_cons_zero, List.set_cons_succ]
  refine Seq.done fun ws30 hws => ?_
  have HS30 := hws.st
  clear HS29 hws
  go_wp2_with fail
  rw [rounds_succ]
  go_upto_region 11 with (fail)
  refine wp_seq_text [] (StR.no HS30) ?_
  refine Seq.pure rfl rfl (by intro w; go_simp; try first | with_reducible rfl | rfl) ?_
  simp only [Act.put, List.setIfInBounds_toArray, List.set_cons_zero, List.set_cons_succ]
  refine Seq.done fun ws31 hws => ?_
  have HS31 := hws.st
  clear HS30 hws
  go_upto_region 16 with (fail)
  refine wp_seq_text [] (StR.no HS31) ?_
  refine Seq.pure rfl rfl (by intro w; go_simp; try first | with_reducible rfl | rfl) ?_
  simp only [Act.put, List.setIfInBounds_toArray, List.set_cons_zero, List.set_cons_succ]
  refine Seq.pure rfl rfl (by intro w; go_simp; try first | with_reducible rfl | rfl) ?_
  simp only [Act.put, List.setIfInBounds_toArray, List.set_cons_zero, List.set_cons_succ]
  refine Seq.pure (v := .bool true) rfl rfl (by intro w; go_simp <;> (first | (rw [beq_self_eq_true mt]; done) | exact beq_self_eq_true mt | (simp [beq_self_eq_true mt]; done) | (trace_state; done))) ?_
  simp only [Act.put, List.setIfInBounds_toArray, List.set_cons_zero, List.set_cons_succ]
  refine Seq.pure rfl rfl (by intro w; go_simp; try first | with_reducible rfl | rfl) ?_
  simp only [Act.put, List.setIfInBounds_toArray, List.set_cons_zero, List.set_cons_succ]
  refine Seq.pure rfl rfl (by intro w; go_simp; try first | with_reducible rfl | rfl) ?_
  simp only [Act.put, List.setIfInBounds_toArray, List.set_cons_zero, List.set_cons_succ]
  refine Seq.load rfl rfl rfl rfl (by repeat (first | exact mC | apply mT)) (n := 3) rfl (by kernel_rfl) ?_
  simp only [Act.put, List.setIfInBounds_toArray, List.set_cons_zero, List.set_cons_succ]
  refine Seq.call rfl rfl rfl rfl (by kernel_rfl) (sign_q (k := 10000000) HT.out (Z_d.out.more (by omega)) HSV.out (by omega)) ?_
  simp only [Act.put, List.setIfInBounds_toArray, List.set_cons_zero, List.set_cons_succ]
  refine Seq.pure (v := .bool mt) rfl rfl (by intro w; go_simp <;> (first | (rw [HS0.out.1]; done) | (rw [HS0.out.2.1]; done) | exact HS0.out.1 | exact HS0.out.2.1 | (simp [HS0.out.1, HS0.out.2.1]; done) | (trace_state; done))) ?_
  simp only [Act.put, List.setIfInBounds_toArray, List.set_cons_zero, List.set_cons_succ]
  refine Seq.pure (v := .bool true) rfl rfl (by intro w; go_simp <;> (first | (rw [beq_self_eq_true mt]; done) | exact beq_self_eq_true mt | (simp [beq_self_eq_true mt]; done) | (trace_state; done))) ?_
  simp only [Act.put, List.setIfInBounds_toArray, List.set_cons_zero, List.set_cons_succ]
  refine Seq.pure rfl rfl (by intro w; go_simp; try first | with_reducible rfl | rfl) ?_
  simp only [Act.put, List.setIfInBounds_toArray, List.set_cons_zero, List.set_cons_succ]
  refine Seq.pure rfl rfl (by intro w; go_simp; try first | with_reducible rfl | rfl) ?_
  simp only [Act.put, List.setIfInBounds_toArray, List.set_cons_zero, List.set_cons_succ]
  refine Seq.load rfl rfl rfl rfl (by repeat (first | exact mC | apply mT)) (n := 3) rfl (by kernel_rfl) ?_
  simp only [Act.put, List.setIfInBounds_toArray, List.set_cons_zero, List.set_cons_succ]
  refine Seq.call rfl rfl rfl rfl (by kernel_rfl) (sign_q (k := 10000000) HT.out (Z_d.out.more (by omega)) HSV.out (by omega)) ?_
  simp only [Act.put, List.setIfInBounds_toArray, List.set_cons_zero, List.set_cons_succ]
  refine Seq.pure (v := .bool true) rfl rfl (by intro w; go_simp <;> (first | (rw [HS0.out.2.2]; done) | exact HS0.out.2.2 | (simp [HS0.out.2.2]; done) | (trace_state; done))) ?_
  simp only [Act.put, List.setIfInBounds_toArray, List.set_cons_zero, List.set_cons_succ]
  refine Seq.pure rfl rfl (by intro w; go_simp; try first | with_reducible rfl | rfl) ?_
  simp only [Act.put, List.setIfInBounds_toArray, List.set_cons_zero, List.set_cons_succ]
  refine Seq.pure rfl rfl (by intro w; go_simp; try first | with_reducible rfl | rfl) ?_
  simp only [Act.put, List.setIfInBounds_toArray, List.set_cons_zero, List.set_cons_succ]
  refine Seq.load rfl rfl rfl rfl (by repeat (first | exact mC | apply mT)) (n := 3) rfl (by kernel_rfl) ?_
  simp only [Act.put, List.setIfInBounds_toArray, List.set_cons_zero, List.set_cons_succ]
  refine Seq.load rfl rfl rfl rfl (by repeat (first | exact mC | apply mT)) (n := 3) rfl (by kernel_rfl) ?_
  simp only [Act.put, List.setIfInBounds_toArray, List.set_cons_zero, List.set_cons_succ]
  refine Seq.eqR rfl rfl rfl rfl rfl (b := true) (decide_eq_true rfl) ?_
  simp only [Act.put, List.setIfInBounds_toArray, List.set_cons_zero, List.set_cons_succ]
  refine Seq.pure rfl rfl (by intro w; go_simp; try first | with_reducible rfl | rfl) ?_
  simp only [Act.put, List.setIfInBounds_toArray, List.set_cons_zero, List.set_cons_succ]
  refine Seq.pure rfl rfl (by intro w; go_simp; try first | with_reducible rfl | rfl) ?_
  simp only [Act.put, List.setIfInBounds_toArray, List.set_cons_zero, List.set_cons_succ]
  refine Seq.load rfl rfl rfl rfl (by repeat (first | exact mC | apply mT)) (n := 3) rfl (by kernel_rfl) ?_
  simp only [Act.put, List.setIfInBounds_toArray, List.set_cons_zero, List.set_cons_succ]
  refine Seq.load rfl rfl rfl rfl (by repeat (first | exact mC | apply mT)) (n := 3) rfl (by kernel_rfl) ?_
  simp only [Act.put, List.setIfInBounds_toArray, List.set_cons_zero, List.set_cons_succ]
  refine Seq.eqR rfl rfl rfl rfl rfl (b := true) (decide_eq_true rfl) ?_
  simp only [Act.put, List.setIfInBounds_toArray, List.set_cons_zero, List.set_cons_succ]
  refine Seq.pure rfl rfl (by intro w; go_simp; try first | with_reducible rfl | rfl) ?_
  simp only [Act.put, List.setIfInBounds_toArray, List.set_cons_zero, List.set_cons_succ]
  refine Seq.pure rfl rfl (by intro w; go_simp; try first | with_reducible rfl | rfl) ?_
  simp only [Act.put, List.setIfInBounds_toArray, List.set_cons_zero, List.set_cons_succ]
  refine Seq.done fun ws32 hws => ?_
  have HS32 := hws.st
  clear HS31 hws
  go_wp2_with fail
  go_ret
  exact ⟨rfl, HS32.below⟩
end Go.Proofs.YtbgifinfflehmaaDoor
