/- The walk of ApartAxis (printed by lawvec.py). -/
import Derived.Test.YtbgifinfflehmaaDoorAp8
import Derived.Test.YtbgifinfflehmaaDoorAp9
import Derived.Test.YtbgifinfflehmaaDoorPoW
import Derived.LoopN
import Derived.Deep.LoopGhost
namespace Go.Proofs.YtbgifinfflehmaaDoor
open Go.RowKit
open List (setIfInBounds_toArray set_cons_zero set_cons_succ)
set_option linter.unusedVariables false
set_option linter.unusedSimpArgs false

set_option maxHeartbeats 8000000 in
set_option maxRecDepth 20000 in
theorem apartAxis_yes {A0 A1 : Option Addr} {n0 c0 n1 c1 : Nat} {xs0 xs1 : List Int} (x y bz : Int) (w : World) (hi0 : Ints w A0 n0 c0 xs0) (hi1 : Ints w A1 n1 c1 xs1) (hx0 : -9223372036854775808 ≤ x) (hx1 : x ≤ 9223372036854775807) (hy0 : -9223372036854775808 ≤ y) (hy1 : y ≤ 9223372036854775807) (hbz0 : -9223372036854775808 ≤ bz) (hbz1 : bz ≤ 9223372036854775807) (hT : Tab w) (hmt : meetB (polyQ xs0) (mvP (cosT (tdH bz) (tdT bz)) (sinT (tdT bz)) (ratMq x) (ratMq y) (polyQ xs1)) = true) :
    Calls Tryd.prog 5 #[.slice A0 n0 c0, .slice A1 n1 c1, .int .i64 x, .int .i64 y, .int .i64 bz] w fun e w' => e = .returned (.bool true) ∧ Below w.heap.size w w' := by
  have Ix := Lib.hid (And.intro hx0 hx1); clear hx0 hx1
  have Iy := Lib.hid (And.intro hy0 hy1); clear hy0 hy1
  have Ibz := Lib.hid (And.intro hbz0 hbz1); clear hbz0 hbz1
  have HT := Lib.hid hT; clear hT
  have HI0 := Lib.hid hi0; clear hi0
  have HI1_ := Lib.hid hi1; clear hi1
  obtain ⟨fx, efx⟩ : ∃ r_, ratMq x = r_ := ⟨_, rfl⟩
  have Z_fx := Lib.hid (show Rz 2 fx from efx ▸ (ratMq_small x).rz.more (by omega))
  have Efx := Lib.hid efx; clear efx
  obtain ⟨fy, efy⟩ : ∃ r_, ratMq y = r_ := ⟨_, rfl⟩
  have Z_fy := Lib.hid (show Rz 2 fy from efy ▸ (ratMq_small y).rz.more (by omega))
  have Efy := Lib.hid efy; clear efy
  obtain ⟨ha, eha⟩ : ∃ r_, tdH bz = r_ := ⟨_, rfl⟩
  obtain ⟨ta, eta⟩ : ∃ r_, tdT bz = r_ := ⟨_, rfl⟩
  have Eha := Lib.hid (And.intro eha eta)
  have Gha := Lib.hid (show GoodT ha ta from eha ▸ eta ▸ td_good bz)
  have Z_ta := Lib.hid (show Rz 2 ta from eta ▸ td_rz bz); clear eha eta
  have CS := cos_sin ha ta Gha.out
  rw [Efx.out, Efy.out, Eha.out.1, Eha.out.2] at hmt
  obtain ⟨ps, hps⟩ : ∃ z, polyQ xs0 = z := ⟨_, rfl⟩
  obtain ⟨n, hn⟩ : ∃ z, ps.length = z := ⟨_, rfl⟩
  have hlen_ps := polyQ_len xs0
  rw [hps, hn] at hlen_ps
  have hcv_ps := polyQ_cvx xs0
  rw [hps] at hcv_ps
  have hz_ps := polyQ_z xs0
  rw [hps] at hz_ps
  obtain ⟨rs, hrs⟩ : ∃ z, polyQ xs1 = z := ⟨_, rfl⟩
  obtain ⟨m, hm⟩ : ∃ z, rs.length = z := ⟨_, rfl⟩
  have hlen_rs := polyQ_len xs1
  rw [hrs, hm] at hlen_rs
  have hcv_rs := polyQ_cvx xs1
  rw [hrs] at hcv_rs
  have hz_rs := polyQ_z xs1
  rw [hrs] at hz_rs
  rw [hps, hrs] at hmt
  obtain ⟨qs, hqs⟩ : ∃ z, mvP (cosT ha ta) (sinT ta) fx fy rs = z := ⟨_, rfl⟩
  have hcv_qs := cvx_mv CS hcv_rs (tx := fx) (ty := fy)
  have hz_qs : Pz 231 qs := by rw [← hqs]; exact mvP_z (ha := ha) Z_fx.out Z_fy.out Z_ta.out hz_rs
  have hl_qs : qs.length = m := by rw [← hqs, mvP_len]; exact hm
  rw [hqs] at hcv_qs hmt
  have bm1 := box_meet hcv_ps hcv_qs (by omega) (by omega) hmt
  have bm2 := box_meet hcv_qs hcv_ps (by omega) (by omega) (by rw [meet_comm]; exact hmt)
  have rz_a := fun (i : Nat) (hi : i < n) => (And.intro (hz_ps.x (lt_of_pts hn hi)) (hz_ps.y (lt_of_pts hn hi)))
  have rz_b := fun (i : Nat) (hi : i < m) => (And.intro (hz_qs.x (lt_of_pts hl_qs hi)) (hz_qs.y (lt_of_pts hl_qs hi)))
  obtain ⟨a0, ha0⟩ : ∃ z, mnF (px ps) (n - 1) = z := ⟨_, rfl⟩
  have Z_a0 := Lib.hid (show Rz 231 a0 from ha0 ▸ (mnF_rz (n := n) (fun i hi => (rz_a i hi).1) _ (by omega)).more (by omega))
  obtain ⟨a1, ha1⟩ : ∃ z, mnF (py ps) (n - 1) = z := ⟨_, rfl⟩
  have Z_a1 := Lib.hid (show Rz 231 a1 from ha1 ▸ (mnF_rz (n := n) (fun i hi => (rz_a i hi).2) _ (by omega)).more (by omega))
  obtain ⟨a2, ha2⟩ : ∃ z, mxF (px ps) (n - 1) = z := ⟨_, rfl⟩
  have Z_a2 := Lib.hid (show Rz 231 a2 from ha2 ▸ (mxF_rz (n := n) (fun i hi => (rz_a i hi).1) _ (by omega)).more (by omega))
  obtain ⟨a3, ha3⟩ : ∃ z, mxF (py ps) (n - 1) = z := ⟨_, rfl⟩
  have Z_a3 := Lib.hid (show Rz 231 a3 from ha3 ▸ (mxF_rz (n := n) (fun i hi => (rz_a i hi).2) _ (by omega)).more (by omega))
  obtain ⟨b0, hb0⟩ : ∃ z, mnF (px qs) (m - 1) = z := ⟨_, rfl⟩
  have Z_b0 := Lib.hid (show Rz 231 b0 from hb0 ▸ (mnF_rz (n := m) (fun i hi => (rz_b i hi).1) _ (by omega)).more (by omega))
  obtain ⟨b1, hb1⟩ : ∃ z, mnF (py qs) (m - 1) = z := ⟨_, rfl⟩
  have Z_b1 := Lib.hid (show Rz 231 b1 from hb1 ▸ (mnF_rz (n := m) (fun i hi => (rz_b i hi).2) _ (by omega)).more (by omega))
  obtain ⟨b2, hb2⟩ : ∃ z, mxF (px qs) (m - 1) = z := ⟨_, rfl⟩
  have Z_b2 := Lib.hid (show Rz 231 b2 from hb2 ▸ (mxF_rz (n := m) (fun i hi => (rz_b i hi).1) _ (by omega)).more (by omega))
  obtain ⟨b3, hb3⟩ : ∃ z, mxF (py qs) (m - 1) = z := ⟨_, rfl⟩
  have Z_b3 := Lib.hid (show Rz 231 b3 from hb3 ▸ (mxF_rz (n := m) (fun i hi => (rz_b i hi).2) _ (by omega)).more (by omega))
  have va1 := box_valid (f := px ps) (n - 1)
  have va2 := box_valid (f := py ps) (n - 1)
  have vb1 := box_valid (f := px qs) (m - 1)
  have vb2 := box_valid (f := py qs) (m - 1)
  rw [hn, hl_qs, ha0, ha1, hb2, hb3] at bm1
  rw [hn, hl_qs, hb0, hb1, ha2, ha3] at bm2
  rw [ha0, ha2] at va1
  rw [ha1, ha3] at va2
  rw [hb0, hb2] at vb1
  rw [hb1, hb3] at vb2
  have HO := Lib.hid (show (a0 ≤ a2 ∧ a1 ≤ a3) ∧ (b0 ≤ b2 ∧ b1 ≤ b3) ∧ a0 ≤ b2 ∧ b0 ≤ a2 ∧ a1 ≤ b3 ∧ b1 ≤ a3 from ⟨⟨va1, va2⟩, ⟨vb1, vb2⟩, bm1.1, bm2.1, bm1.2, bm2.2⟩)
  have HBA := Lib.hid (show mnF (px ps) (n - 1) = a0 ∧ mnF (py ps) (n - 1) = a1 ∧ mxF (px ps) (n - 1) = a2 ∧ mxF (py ps) (n - 1) = a3 from ⟨ha0, ha1, ha2, ha3⟩)
  have HBB := Lib.hid (show mnF (px qs) (m - 1) = b0 ∧ mnF (py qs) (m - 1) = b1 ∧ mxF (px qs) (m - 1) = b2 ∧ mxF (py qs) (m - 1) = b3 from ⟨hb0, hb1, hb2, hb3⟩)
  clear va1 va2 vb1 vb2 bm1 bm2 ha0 ha1 ha2 ha3 hb0 hb1 hb2 hb3 rz_a rz_b
  have HMT := Lib.hid hmt; clear hmt
  have HCP := Lib.hid (show 3 ≤ n ∧ n ≤ 8 ∧ Cvx ps from ⟨by omega, by omega, hcv_ps⟩)
  have HCR := Lib.hid (show 3 ≤ m ∧ m ≤ 8 ∧ Cvx rs from ⟨by omega, by omega, hcv_rs⟩)
  have HCQ := Lib.hid (show 3 ≤ m ∧ m ≤ 8 ∧ Cvx qs from ⟨by omega, by omega, hcv_qs⟩)
  clear hcv_ps hcv_rs hcv_qs hlen_ps hlen_rs CS
  have HZP := Lib.hid hz_ps; clear hz_ps
  have HZR := Lib.hid hz_rs; clear hz_rs
  have HZQ := Lib.hid hz_qs; clear hz_qs
  have HL := Lib.hid hn; clear hn
  have HLR := Lib.hid hm; clear hm
  have HLQ := Lib.hid hl_qs; clear hl_qs
  have HPS := Lib.hid hps; clear hps
  have HRS := Lib.hid hrs; clear hrs
  have HQS := Lib.hid hqs; clear hqs
  go_enter Tryd.func5, Tryd.ntmps5
  have HS : St w [] w := St.start
  go_upto_region 0 with (fail)
  refine wp_seq_text [] (StR.no HS) ?_
  refine Seq.pure rfl rfl (by intro w; go_simp; try first | with_reducible rfl | rfl) ?_
  simp only [Act.put, setIfInBounds_toArray, set_cons_zero, set_cons_succ]
  refine Seq.done fun ws1 hws => ?_
  have HS1 := hws.st
  clear HS hws
  go_upto_region 1 with (fail)
  refine wp_seq_text [] (StR.no HS1) ?_
  refine Seq.call rfl rfl rfl rfl (by kernel_rfl) (abegun_q HT.out) ?_
  simp only [Act.put, setIfInBounds_toArray, set_cons_zero, set_cons_succ]
  refine Seq.pure rfl rfl (by intro w; go_simp; try first | with_reducible rfl | rfl) ?_
  simp only [Act.put, setIfInBounds_toArray, set_cons_zero, set_cons_succ]
  refine Seq.done fun ws2 hws => ?_
  have HS2 := hws.st
  clear HS1 hws
  go_upto_region 3 with (fail)
  refine wp_seq_text [1000001, 1000007, 1000008] (StR.no HS2) ?_
  refine Seq.pure rfl rfl (by intro w; go_simp; try first | with_reducible rfl | rfl) ?_
  simp only [Act.put, setIfInBounds_toArray, set_cons_zero, set_cons_succ]
  refine Seq.callFresh (n := some n) (x := (30, PC ps)) rfl rfl rfl rfl (by kernel_rfl) (fun w h => poly_G HI0.out HPS.out HL.out w h.st) ?_
  intro bk24 _ _ hbk24_r
  simp only [mk]
  simp only [Act.put, setIfInBounds_toArray, set_cons_zero, set_cons_succ]
  refine Seq.pure rfl rfl (by intro w; go_simp; try first | with_reducible rfl | rfl) ?_
  simp only [Act.put, setIfInBounds_toArray, set_cons_zero, set_cons_succ]
  refine Seq.pure rfl rfl (by intro w; go_simp; try first | with_reducible rfl | rfl) ?_
  simp only [Act.put, setIfInBounds_toArray, set_cons_zero, set_cons_succ]
  refine Seq.pure rfl rfl (by intro w; go_simp; try first | with_reducible rfl | rfl) ?_
  simp only [Act.put, setIfInBounds_toArray, set_cons_zero, set_cons_succ]
  refine Seq.call rfl rfl rfl rfl (by kernel_rfl) (framed_q HT.out Ix.out Iy.out Ibz.out Efx.out Efy.out Eha.out.1 Eha.out.2) ?_
  simp only [Act.put, setIfInBounds_toArray, set_cons_zero, set_cons_succ]
  refine Seq.pure rfl rfl (by intro w; go_simp; try first | with_reducible rfl | rfl) ?_
  simp only [Act.put, setIfInBounds_toArray, set_cons_zero, set_cons_succ]
  refine Seq.callFresh (n := some m) (x := (30, PC rs)) rfl rfl rfl rfl (by kernel_rfl) (fun w h => poly_G HI1_.out HRS.out HLR.out w h.st) ?_
  intro bk30 _ _ hbk30_r
  obtain ⟨ne_bk30_bk24, hbk30_r⟩ := Reg.ne_of_put hbk30_r
  have ne_bk24_bk30 := Ne.symm ne_bk30_bk24
  simp only [mk]
  simp only [Act.put, setIfInBounds_toArray, set_cons_zero, set_cons_succ]
  refine Seq.callFresh (n := some m) (x := (30, PC qs)) rfl rfl rfl rfl (by kernel_rfl) (fun w h => flist_G (k := 2) HT.out (Z_fx.out.more (by omega)) (Z_fy.out.more (by omega)) (Z_ta.out.more (by omega)) Gha.out (HZR.out.more (by omega)) HLR.out (by have := HCR.out.2.1; omega) HQS.out (by omega) _ w h.st (h.reg _ _ _ (by first | exact rS | exact rN (by assumption) (rS) | exact rN (by assumption) (rN (by assumption) (rS)) | exact rN (by assumption) (rN (by assumption) (rN (by assumption) (rS))) | exact rN (by assumption) (rN (by assumption) (rN (by assumption) (rN (by assumption) (rS)))))).2.2) ?_
  intro bk31 _ _ hbk31_r
  obtain ⟨ne_bk31_bk30, hbk31_r⟩ := Reg.ne_of_put hbk31_r
  have ne_bk30_bk31 := Ne.symm ne_bk31_bk30
  obtain ⟨ne_bk31_bk24, hbk31_r⟩ := Reg.ne_of_put hbk31_r
  have ne_bk24_bk31 := Ne.symm ne_bk31_bk24
  simp only [mk]
  simp only [Act.put, setIfInBounds_toArray, set_cons_zero, set_cons_succ]
  refine Seq.pure rfl rfl (by intro w; go_simp; try first | with_reducible rfl | rfl) ?_
  simp only [Act.put, setIfInBounds_toArray, set_cons_zero, set_cons_succ]
  refine Seq.pure rfl rfl (by intro w; go_simp; try first | with_reducible rfl | rfl) ?_
  simp only [Act.put, setIfInBounds_toArray, set_cons_zero, set_cons_succ]
  refine Seq.done fun ws3 hws => ?_
  have HS3 : St w [(bk24, 30, PC ps), (bk30, 30, PC rs), (bk31, 30, PC qs)] ws3 := hws.list3 (by first | exact rS | exact rN (by assumption) (rS) | exact rN (by assumption) (rN (by assumption) (rS)) | exact rN (by assumption) (rN (by assumption) (rN (by assumption) (rS))) | exact rN (by assumption) (rN (by assumption) (rN (by assumption) (rN (by assumption) (rS))))) (by first | exact rS | exact rN (by assumption) (rS) | exact rN (by assumption) (rN (by assumption) (rS)) | exact rN (by assumption) (rN (by assumption) (rN (by assumption) (rS))) | exact rN (by assumption) (rN (by assumption) (rN (by assumption) (rN (by assumption) (rS))))) (by first | exact rS | exact rN (by assumption) (rS) | exact rN (by assumption) (rN (by assumption) (rS)) | exact rN (by assumption) (rN (by assumption) (rN (by assumption) (rS))) | exact rN (by assumption) (rN (by assumption) (rN (by assumption) (rN (by assumption) (rS))))) (by assumption) (by assumption) (by assumption)
  clear HS2 hws
  go_upto_region 4 with (fail)
  refine wp_seq_text [] (StR.no HS3) ?_
  refine Seq.pure rfl rfl (by intro w; go_simp; try first | with_reducible rfl | rfl) ?_
  simp only [Act.put, setIfInBounds_toArray, set_cons_zero, set_cons_succ]
  refine Seq.pure rfl rfl (by intro w; go_simp; try first | with_reducible rfl | rfl) ?_
  simp only [Act.put, setIfInBounds_toArray, set_cons_zero, set_cons_succ]
  refine Seq.call rfl rfl rfl rfl (by kernel_rfl) (fun w h => meet_q2 (k := 231) HT.out (HZP.out.more (by omega)) HL.out ⟨HCP.out.1, by have := HCP.out.2.1; omega, HCP.out.2.2⟩ (HZQ.out.more (by omega)) HLQ.out ⟨HCQ.out.1, by have := HCQ.out.2.1; omega, HCQ.out.2.2⟩ HMT.out (by omega) _ _ w h (h.blk (bk24, _, _) (by repeat (first | exact mC | apply mT))).2 (h.blk (bk31, _, _) (by repeat (first | exact mC | apply mT))).2) ?_
  simp only [Act.put, setIfInBounds_toArray, set_cons_zero, set_cons_succ]
  refine Seq.pure rfl rfl (by intro w; go_simp; try first | with_reducible rfl | rfl) ?_
  simp only [Act.put, setIfInBounds_toArray, set_cons_zero, set_cons_succ]
  refine Seq.pure (v := .bool true) rfl rfl (fun w => rfl) ?_
  simp only [Act.put, setIfInBounds_toArray, set_cons_zero, set_cons_succ]
  refine Seq.pure (v := .int .i64 0) rfl rfl (fun w => rfl) ?_
  simp only [Act.put, setIfInBounds_toArray, set_cons_zero, set_cons_succ]
  refine Seq.pure rfl rfl (by intro w; go_simp; try first | with_reducible rfl | rfl) ?_
  simp only [Act.put, setIfInBounds_toArray, set_cons_zero, set_cons_succ]
  refine Seq.pure rfl rfl (by intro w; go_simp; try first | with_reducible rfl | rfl) ?_
  simp only [Act.put, setIfInBounds_toArray, set_cons_zero, set_cons_succ]
  refine Seq.done fun ws4 hws => ?_
  have HS4 := hws.st
  clear HS3 hws
  go_upto_region 5 with (fail)
  refine wp_seq_text [] (StR.no HS4) ?_
  refine Seq.pure rfl rfl (by intro w; go_simp; try first | with_reducible rfl | rfl) ?_
  simp only [Act.put, setIfInBounds_toArray, set_cons_zero, set_cons_succ]
  refine Seq.pure rfl rfl (by intro w; go_simp; try first | with_reducible rfl | rfl) ?_
  simp only [Act.put, setIfInBounds_toArray, set_cons_zero, set_cons_succ]
  refine Seq.call rfl rfl rfl rfl (by kernel_rfl) (fun w h => axis_no (k := 231) HT.out (HZP.out.more (by omega)) HL.out ⟨HCP.out.1, by have := HCP.out.2.1; omega, HCP.out.2.2⟩ (HZQ.out.more (by omega)) HLQ.out ⟨HCQ.out.1, by have := HCQ.out.2.1; omega, HCQ.out.2.2⟩ HMT.out (by omega) _ _ w h (h.blk (bk24, _, _) (by repeat (first | exact mC | apply mT))).2 (h.blk (bk31, _, _) (by repeat (first | exact mC | apply mT))).2) ?_
  simp only [Act.put, setIfInBounds_toArray, set_cons_zero, set_cons_succ]
  refine Seq.pure rfl rfl (by intro w; go_simp; try first | with_reducible rfl | rfl) ?_
  simp only [Act.put, setIfInBounds_toArray, set_cons_zero, set_cons_succ]
  refine Seq.pure (v := .agg (#[.bool false, .string ⟨#[]⟩, .string ⟨#[]⟩, .bool false, .string ⟨#[]⟩, .string ⟨#[]⟩])) rfl rfl (fun w => rfl) ?_
  simp only [Act.put, setIfInBounds_toArray, set_cons_zero, set_cons_succ]
  refine Seq.pure (v := .int .i64 10) rfl rfl (fun w => rfl) ?_
  simp only [Act.put, setIfInBounds_toArray, set_cons_zero, set_cons_succ]
  refine Seq.alloc rfl rfl rfl (z := .agg #[.bool false, .string ⟨#[]⟩, .string ⟨#[]⟩, .bool false, .string ⟨#[]⟩, .string ⟨#[]⟩]) (by kernel_rfl) rfl ?_
  intro bk15 _ _ hbk15_r
  simp only [Act.put, setIfInBounds_toArray, set_cons_zero, set_cons_succ]
  refine Seq.store rfl rfl rfl rfl rfl (by first | exact rS | exact rN (by assumption) (rS) | exact rN (by assumption) (rN (by assumption) (rS)) | exact rN (by assumption) (rN (by assumption) (rN (by assumption) (rS))) | exact rN (by assumption) (rN (by assumption) (rN (by assumption) (rN (by assumption) (rS))))) (n := 6) rfl rfl (by kernel_rfl) (by intro u hu; simp at hu; rcases hu with rfl | rfl | rfl | rfl | rfl | rfl <;> rfl) ?_
  simp only [Act.put, setIfInBounds_toArray, set_cons_zero, set_cons_succ]
  refine Seq.pure rfl rfl (by intro w; go_simp; try first | with_reducible rfl | rfl) ?_
  simp only [Act.put, setIfInBounds_toArray, set_cons_zero, set_cons_succ]
  refine Seq.done fun ws5 hws => ?_
  have HS5 : St w [(bk15, 30, #[.bool false, .string ⟨#[]⟩, .string ⟨#[]⟩, .bool false, .string ⟨#[]⟩, .string ⟨#[]⟩]), (bk24, 30, PC ps), (bk30, 30, PC rs), (bk31, 30, PC qs)] ws5 := hws.list1 (by first | exact rS | exact rN (by assumption) (rS) | exact rN (by assumption) (rN (by assumption) (rS)) | exact rN (by assumption) (rN (by assumption) (rN (by assumption) (rS))) | exact rN (by assumption) (rN (by assumption) (rN (by assumption) (rN (by assumption) (rS)))))
  clear HS4 hws
  go_upto_region 6 with (fail)
  refine wp_seq_text [] (StR.no HS5) ?_
  refine Seq.pure rfl rfl (by intro w; go_simp; try first | with_reducible rfl | rfl) ?_
  simp only [Act.put, setIfInBounds_toArray, set_cons_zero, set_cons_succ]
  refine Seq.pure rfl rfl (by intro w; go_simp; try first | with_reducible rfl | rfl) ?_
  simp only [Act.put, setIfInBounds_toArray, set_cons_zero, set_cons_succ]
  refine Seq.done fun ws6 hws => ?_
  have HS6 := hws.st
  clear HS5 hws
  go_upto_region 8 with (fail)
  refine wp_seq_text [] (StR.no HS6) ?_
  refine Seq.pure rfl rfl (by intro w; go_simp; try first | with_reducible rfl | rfl) ?_
  simp only [Act.put, setIfInBounds_toArray, set_cons_zero, set_cons_succ]
  refine Seq.done fun ws7 hws => ?_
  have HS7 := hws.st
  clear HS6 hws
  go_upto_region 9 with (fail)
  refine wp_seq_text [] (StR.no HS7) ?_
  refine Seq.pure rfl rfl (by intro w; go_simp; try first | with_reducible rfl | rfl) ?_
  simp only [Act.put, setIfInBounds_toArray, set_cons_zero, set_cons_succ]
  refine Seq.pure rfl rfl (by intro w; go_simp; try first | with_reducible rfl | rfl) ?_
  simp only [Act.put, setIfInBounds_toArray, set_cons_zero, set_cons_succ]
  refine Seq.pure rfl rfl (by intro w; go_simp; try first | with_reducible rfl | rfl) ?_
  simp only [Act.put, setIfInBounds_toArray, set_cons_zero, set_cons_succ]
  refine Seq.pure rfl rfl (by intro w; go_simp; try first | with_reducible rfl | rfl) ?_
  simp only [Act.put, setIfInBounds_toArray, set_cons_zero, set_cons_succ]
  refine Seq.call rfl rfl rfl rfl (by kernel_rfl) (fun w h => box_G (k := 231) HT.out (HZP.out.more (by omega)) HL.out ⟨HCP.out.1, by have := HCP.out.2.1; omega, HCP.out.2.2⟩ HBA.out (by omega) _ w h (h.blk (bk24, _, _) (by repeat (first | exact mC | apply mT))).2) ?_
  simp only [Act.put, setIfInBounds_toArray, set_cons_zero, set_cons_succ]
  refine Seq.pure rfl rfl (by intro w; go_simp; try first | with_reducible rfl | rfl) ?_
  simp only [Act.put, setIfInBounds_toArray, set_cons_zero, set_cons_succ]
  refine Seq.call rfl rfl rfl rfl (by kernel_rfl) (fun w h => box_G (k := 231) HT.out (HZQ.out.more (by omega)) HLQ.out ⟨HCQ.out.1, by have := HCQ.out.2.1; omega, HCQ.out.2.2⟩ HBB.out (by omega) _ w h (h.blk (bk31, _, _) (by repeat (first | exact mC | apply mT))).2) ?_
  simp only [Act.put, setIfInBounds_toArray, set_cons_zero, set_cons_succ]
  refine Seq.call rfl rfl rfl rfl (by kernel_rfl) (boxes_q (k := 231) HT.out Z_a0.out Z_a1.out Z_a2.out Z_a3.out Z_b0.out Z_b1.out Z_b2.out Z_b3.out HO.out.1 HO.out.2.1 HO.out.2.2.1 HO.out.2.2.2.1 HO.out.2.2.2.2.1 HO.out.2.2.2.2.2 (by omega)) ?_
  simp only [Act.put, setIfInBounds_toArray, set_cons_zero, set_cons_succ]
  refine Seq.pure rfl rfl (by intro w; go_simp; try first | with_reducible rfl | rfl) ?_
  simp only [Act.put, setIfInBounds_toArray, set_cons_zero, set_cons_succ]
  refine Seq.pure rfl rfl (by intro w; go_simp; try first | with_reducible rfl | rfl) ?_
  simp only [Act.put, setIfInBounds_toArray, set_cons_zero, set_cons_succ]
  refine Seq.done fun ws8 hws => ?_
  have HS8 := hws.st
  clear HS7 hws
  go_wp2_with fail
  go_ret
  exact ⟨rfl, HS8.below⟩
set_option maxHeartbeats 8000000 in
set_option maxRecDepth 20000 in
theorem apartAxis_no {A0 A1 : Option Addr} {n0 c0 n1 c1 : Nat} {xs0 xs1 : List Int} (x y bz : Int) (w : World) (hi0 : Ints w A0 n0 c0 xs0) (hi1 : Ints w A1 n1 c1 xs1) (hx0 : -9223372036854775808 ≤ x) (hx1 : x ≤ 9223372036854775807) (hy0 : -9223372036854775808 ≤ y) (hy1 : y ≤ 9223372036854775807) (hbz0 : -9223372036854775808 ≤ bz) (hbz1 : bz ≤ 9223372036854775807) (hT : Tab w) (hmt : meetB (polyQ xs0) (mvP (cosT (tdH bz) (tdT bz)) (sinT (tdT bz)) (ratMq x) (ratMq y) (polyQ xs1)) = false) :
    Calls Tryd.prog 5 #[.slice A0 n0 c0, .slice A1 n1 c1, .int .i64 x, .int .i64 y, .int .i64 bz] w fun e w' => e = .returned (.bool true) ∧ Below w.heap.size w w' := by
  have Ix := Lib.hid (And.intro hx0 hx1); clear hx0 hx1
  have Iy := Lib.hid (And.intro hy0 hy1); clear hy0 hy1
  have Ibz := Lib.hid (And.intro hbz0 hbz1); clear hbz0 hbz1
  have HT := Lib.hid hT; clear hT
  have HI0 := Lib.hid hi0; clear hi0
  have HI1_ := Lib.hid hi1; clear hi1
  obtain ⟨fx, efx⟩ : ∃ r_, ratMq x = r_ := ⟨_, rfl⟩
  have Z_fx := Lib.hid (show Rz 2 fx from efx ▸ (ratMq_small x).rz.more (by omega))
  have Efx := Lib.hid efx; clear efx
  obtain ⟨fy, efy⟩ : ∃ r_, ratMq y = r_ := ⟨_, rfl⟩
  have Z_fy := Lib.hid (show Rz 2 fy from efy ▸ (ratMq_small y).rz.more (by omega))
  have Efy := Lib.hid efy; clear efy
  obtain ⟨ha, eha⟩ : ∃ r_, tdH bz = r_ := ⟨_, rfl⟩
  obtain ⟨ta, eta⟩ : ∃ r_, tdT bz = r_ := ⟨_, rfl⟩
  have Eha := Lib.hid (And.intro eha eta)
  have Gha := Lib.hid (show GoodT ha ta from eha ▸ eta ▸ td_good bz)
  have Z_ta := Lib.hid (show Rz 2 ta from eta ▸ td_rz bz); clear eha eta
  have CS := cos_sin ha ta Gha.out
  rw [Efx.out, Efy.out, Eha.out.1, Eha.out.2] at hmt
  obtain ⟨ps, hps⟩ : ∃ z, polyQ xs0 = z := ⟨_, rfl⟩
  obtain ⟨n, hn⟩ : ∃ z, ps.length = z := ⟨_, rfl⟩
  have hlen_ps := polyQ_len xs0
  rw [hps, hn] at hlen_ps
  have hcv_ps := polyQ_cvx xs0
  rw [hps] at hcv_ps
  have hz_ps := polyQ_z xs0
  rw [hps] at hz_ps
  obtain ⟨rs, hrs⟩ : ∃ z, polyQ xs1 = z := ⟨_, rfl⟩
  obtain ⟨m, hm⟩ : ∃ z, rs.length = z := ⟨_, rfl⟩
  have hlen_rs := polyQ_len xs1
  rw [hrs, hm] at hlen_rs
  have hcv_rs := polyQ_cvx xs1
  rw [hrs] at hcv_rs
  have hz_rs := polyQ_z xs1
  rw [hrs] at hz_rs
  rw [hps, hrs] at hmt
  obtain ⟨qs, hqs⟩ : ∃ z, mvP (cosT ha ta) (sinT ta) fx fy rs = z := ⟨_, rfl⟩
  have hcv_qs := cvx_mv CS hcv_rs (tx := fx) (ty := fy)
  have hz_qs : Pz 231 qs := by rw [← hqs]; exact mvP_z (ha := ha) Z_fx.out Z_fy.out Z_ta.out hz_rs
  have hl_qs : qs.length = m := by rw [← hqs, mvP_len]; exact hm
  rw [hqs] at hcv_qs hmt
  obtain ⟨n1, n2, zn1, zn2, hdot, hax⟩ := axis_ok (k := 231) (hz_ps.more (by omega)) hcv_ps hz_qs hcv_qs hmt
  have Z_n1 := Lib.hid zn1; clear zn1
  have Z_n2 := Lib.hid zn2; clear zn2
  have HDOT := Lib.hid hdot; clear hdot
  have HAX := Lib.hid hax; clear hax
  have HMT := Lib.hid hmt; clear hmt
  have HCP := Lib.hid (show 3 ≤ n ∧ n ≤ 8 ∧ Cvx ps from ⟨by omega, by omega, hcv_ps⟩)
  have HCR := Lib.hid (show 3 ≤ m ∧ m ≤ 8 ∧ Cvx rs from ⟨by omega, by omega, hcv_rs⟩)
  have HCQ := Lib.hid (show 3 ≤ m ∧ m ≤ 8 ∧ Cvx qs from ⟨by omega, by omega, hcv_qs⟩)
  clear hcv_ps hcv_rs hcv_qs hlen_ps hlen_rs CS
  have HZP := Lib.hid hz_ps; clear hz_ps
  have HZR := Lib.hid hz_rs; clear hz_rs
  have HZQ := Lib.hid hz_qs; clear hz_qs
  have HL := Lib.hid hn; clear hn
  have HLR := Lib.hid hm; clear hm
  have HLQ := Lib.hid hl_qs; clear hl_qs
  have HPS := Lib.hid hps; clear hps
  have HRS := Lib.hid hrs; clear hrs
  have HQS := Lib.hid hqs; clear hqs
  go_enter Tryd.func5, Tryd.ntmps5
  have HS : St w [] w := St.start
  go_upto_region 0 with (fail)
  refine wp_seq_text [] (StR.no HS) ?_
  refine Seq.pure rfl rfl (by intro w; go_simp; try first | with_reducible rfl | rfl) ?_
  simp only [Act.put, setIfInBounds_toArray, set_cons_zero, set_cons_succ]
  refine Seq.done fun ws1 hws => ?_
  have HS1 := hws.st
  clear HS hws
  go_upto_region 1 with (fail)
  refine wp_seq_text [] (StR.no HS1) ?_
  refine Seq.call rfl rfl rfl rfl (by kernel_rfl) (abegun_q HT.out) ?_
  simp only [Act.put, setIfInBounds_toArray, set_cons_zero, set_cons_succ]
  refine Seq.pure rfl rfl (by intro w; go_simp; try first | with_reducible rfl | rfl) ?_
  simp only [Act.put, setIfInBounds_toArray, set_cons_zero, set_cons_succ]
  refine Seq.done fun ws2 hws => ?_
  have HS2 := hws.st
  clear HS1 hws
  go_upto_region 3 with (fail)
  refine wp_seq_text [1000001, 1000007, 1000008] (StR.no HS2) ?_
  refine Seq.pure rfl rfl (by intro w; go_simp; try first | with_reducible rfl | rfl) ?_
  simp only [Act.put, setIfInBounds_toArray, set_cons_zero, set_cons_succ]
  refine Seq.callFresh (n := some n) (x := (30, PC ps)) rfl rfl rfl rfl (by kernel_rfl) (fun w h => poly_G HI0.out HPS.out HL.out w h.st) ?_
  intro bk24 _ _ hbk24_r
  simp only [mk]
  simp only [Act.put, setIfInBounds_toArray, set_cons_zero, set_cons_succ]
  refine Seq.pure rfl rfl (by intro w; go_simp; try first | with_reducible rfl | rfl) ?_
  simp only [Act.put, setIfInBounds_toArray, set_cons_zero, set_cons_succ]
  refine Seq.pure rfl rfl (by intro w; go_simp; try first | with_reducible rfl | rfl) ?_
  simp only [Act.put, setIfInBounds_toArray, set_cons_zero, set_cons_succ]
  refine Seq.pure rfl rfl (by intro w; go_simp; try first | with_reducible rfl | rfl) ?_
  simp only [Act.put, setIfInBounds_toArray, set_cons_zero, set_cons_succ]
  refine Seq.call rfl rfl rfl rfl (by kernel_rfl) (framed_q HT.out Ix.out Iy.out Ibz.out Efx.out Efy.out Eha.out.1 Eha.out.2) ?_
  simp only [Act.put, setIfInBounds_toArray, set_cons_zero, set_cons_succ]
  refine Seq.pure rfl rfl (by intro w; go_simp; try first | with_reducible rfl | rfl) ?_
  simp only [Act.put, setIfInBounds_toArray, set_cons_zero, set_cons_succ]
  refine Seq.callFresh (n := some m) (x := (30, PC rs)) rfl rfl rfl rfl (by kernel_rfl) (fun w h => poly_G HI1_.out HRS.out HLR.out w h.st) ?_
  intro bk30 _ _ hbk30_r
  obtain ⟨ne_bk30_bk24, hbk30_r⟩ := Reg.ne_of_put hbk30_r
  have ne_bk24_bk30 := Ne.symm ne_bk30_bk24
  simp only [mk]
  simp only [Act.put, setIfInBounds_toArray, set_cons_zero, set_cons_succ]
  refine Seq.callFresh (n := some m) (x := (30, PC qs)) rfl rfl rfl rfl (by kernel_rfl) (fun w h => flist_G (k := 2) HT.out (Z_fx.out.more (by omega)) (Z_fy.out.more (by omega)) (Z_ta.out.more (by omega)) Gha.out (HZR.out.more (by omega)) HLR.out (by have := HCR.out.2.1; omega) HQS.out (by omega) _ w h.st (h.reg _ _ _ (by first | exact rS | exact rN (by assumption) (rS) | exact rN (by assumption) (rN (by assumption) (rS)) | exact rN (by assumption) (rN (by assumption) (rN (by assumption) (rS))) | exact rN (by assumption) (rN (by assumption) (rN (by assumption) (rN (by assumption) (rS)))))).2.2) ?_
  intro bk31 _ _ hbk31_r
  obtain ⟨ne_bk31_bk30, hbk31_r⟩ := Reg.ne_of_put hbk31_r
  have ne_bk30_bk31 := Ne.symm ne_bk31_bk30
  obtain ⟨ne_bk31_bk24, hbk31_r⟩ := Reg.ne_of_put hbk31_r
  have ne_bk24_bk31 := Ne.symm ne_bk31_bk24
  simp only [mk]
  simp only [Act.put, setIfInBounds_toArray, set_cons_zero, set_cons_succ]
  refine Seq.pure rfl rfl (by intro w; go_simp; try first | with_reducible rfl | rfl) ?_
  simp only [Act.put, setIfInBounds_toArray, set_cons_zero, set_cons_succ]
  refine Seq.pure rfl rfl (by intro w; go_simp; try first | with_reducible rfl | rfl) ?_
  simp only [Act.put, setIfInBounds_toArray, set_cons_zero, set_cons_succ]
  refine Seq.done fun ws3 hws => ?_
  have HS3 : St w [(bk24, 30, PC ps), (bk30, 30, PC rs), (bk31, 30, PC qs)] ws3 := hws.list3 (by first | exact rS | exact rN (by assumption) (rS) | exact rN (by assumption) (rN (by assumption) (rS)) | exact rN (by assumption) (rN (by assumption) (rN (by assumption) (rS))) | exact rN (by assumption) (rN (by assumption) (rN (by assumption) (rN (by assumption) (rS))))) (by first | exact rS | exact rN (by assumption) (rS) | exact rN (by assumption) (rN (by assumption) (rS)) | exact rN (by assumption) (rN (by assumption) (rN (by assumption) (rS))) | exact rN (by assumption) (rN (by assumption) (rN (by assumption) (rN (by assumption) (rS))))) (by first | exact rS | exact rN (by assumption) (rS) | exact rN (by assumption) (rN (by assumption) (rS)) | exact rN (by assumption) (rN (by assumption) (rN (by assumption) (rS))) | exact rN (by assumption) (rN (by assumption) (rN (by assumption) (rN (by assumption) (rS))))) (by assumption) (by assumption) (by assumption)
  clear HS2 hws
  go_upto_region 4 with (fail)
  refine wp_seq_text [] (StR.no HS3) ?_
  refine Seq.pure rfl rfl (by intro w; go_simp; try first | with_reducible rfl | rfl) ?_
  simp only [Act.put, setIfInBounds_toArray, set_cons_zero, set_cons_succ]
  refine Seq.pure rfl rfl (by intro w; go_simp; try first | with_reducible rfl | rfl) ?_
  simp only [Act.put, setIfInBounds_toArray, set_cons_zero, set_cons_succ]
  refine Seq.call rfl rfl rfl rfl (by kernel_rfl) (fun w h => meet_q2 (k := 231) HT.out (HZP.out.more (by omega)) HL.out ⟨HCP.out.1, by have := HCP.out.2.1; omega, HCP.out.2.2⟩ (HZQ.out.more (by omega)) HLQ.out ⟨HCQ.out.1, by have := HCQ.out.2.1; omega, HCQ.out.2.2⟩ HMT.out (by omega) _ _ w h (h.blk (bk24, _, _) (by repeat (first | exact mC | apply mT))).2 (h.blk (bk31, _, _) (by repeat (first | exact mC | apply mT))).2) ?_
  simp only [Act.put, setIfInBounds_toArray, set_cons_zero, set_cons_succ]
  refine Seq.pure rfl rfl (by intro w; go_simp; try first | with_reducible rfl | rfl) ?_
  simp only [Act.put, setIfInBounds_toArray, set_cons_zero, set_cons_succ]
  refine Seq.pure (v := .bool false) rfl rfl (fun w => rfl) ?_
  simp only [Act.put, setIfInBounds_toArray, set_cons_zero, set_cons_succ]
  refine Seq.pure (v := .int .i64 0) rfl rfl (fun w => rfl) ?_
  simp only [Act.put, setIfInBounds_toArray, set_cons_zero, set_cons_succ]
  refine Seq.pure rfl rfl (by intro w; go_simp; try first | with_reducible rfl | rfl) ?_
  simp only [Act.put, setIfInBounds_toArray, set_cons_zero, set_cons_succ]
  refine Seq.pure rfl rfl (by intro w; go_simp; try first | with_reducible rfl | rfl) ?_
  simp only [Act.put, setIfInBounds_toArray, set_cons_zero, set_cons_succ]
  refine Seq.done fun ws4 hws => ?_
  have HS4 := hws.st
  clear HS3 hws
  go_upto_region 5 with (fail)
  refine wp_seq_text [] (StR.no HS4) ?_
  refine Seq.pure rfl rfl (by intro w; go_simp; try first | with_reducible rfl | rfl) ?_
  simp only [Act.put, setIfInBounds_toArray, set_cons_zero, set_cons_succ]
  refine Seq.pure rfl rfl (by intro w; go_simp; try first | with_reducible rfl | rfl) ?_
  simp only [Act.put, setIfInBounds_toArray, set_cons_zero, set_cons_succ]
  refine Seq.call rfl rfl rfl rfl (by kernel_rfl) (fun w h => HAX.out _ _ _ _ HT.out HL.out ⟨HCP.out.1, by have := HCP.out.2.1; omega, HCP.out.2.2⟩ HLQ.out ⟨HCQ.out.1, by have := HCQ.out.2.1; omega, HCQ.out.2.2⟩ (by omega) _ _ w h (h.blk (bk24, _, _) (by repeat (first | exact mC | apply mT))).2 (h.blk (bk31, _, _) (by repeat (first | exact mC | apply mT))).2) ?_
  simp only [Act.put, setIfInBounds_toArray, set_cons_zero, set_cons_succ]
  refine Seq.pure rfl rfl (by intro w; go_simp; try first | with_reducible rfl | rfl) ?_
  simp only [Act.put, setIfInBounds_toArray, set_cons_zero, set_cons_succ]
  refine Seq.pure (v := .agg (VC n1 n2)) rfl rfl (fun w => rfl) ?_
  simp only [Act.put, setIfInBounds_toArray, set_cons_zero, set_cons_succ]
  refine Seq.pure (v := .int .i64 0) rfl rfl (fun w => rfl) ?_
  simp only [Act.put, setIfInBounds_toArray, set_cons_zero, set_cons_succ]
  refine Seq.alloc rfl rfl rfl (z := .agg #[.bool false, .string ⟨#[]⟩, .string ⟨#[]⟩, .bool false, .string ⟨#[]⟩, .string ⟨#[]⟩]) (by kernel_rfl) rfl ?_
  intro bk15 _ _ hbk15_r
  simp only [Act.put, setIfInBounds_toArray, set_cons_zero, set_cons_succ]
  refine Seq.store rfl rfl rfl rfl rfl (by first | exact rS | exact rN (by assumption) (rS) | exact rN (by assumption) (rN (by assumption) (rS)) | exact rN (by assumption) (rN (by assumption) (rN (by assumption) (rS))) | exact rN (by assumption) (rN (by assumption) (rN (by assumption) (rN (by assumption) (rS))))) (n := 6) rfl rfl (by kernel_rfl) (VC_one _ _) ?_
  simp only [Act.put, setIfInBounds_toArray, set_cons_zero, set_cons_succ]
  refine Seq.pure rfl rfl (by intro w; go_simp; try first | with_reducible rfl | rfl) ?_
  simp only [Act.put, setIfInBounds_toArray, set_cons_zero, set_cons_succ]
  refine Seq.done fun ws5 hws => ?_
  have HS5 : St w [(bk15, 30, VC n1 n2), (bk24, 30, PC ps), (bk30, 30, PC rs), (bk31, 30, PC qs)] ws5 := hws.list1 (by first | exact rS | exact rN (by assumption) (rS) | exact rN (by assumption) (rN (by assumption) (rS)) | exact rN (by assumption) (rN (by assumption) (rN (by assumption) (rS))) | exact rN (by assumption) (rN (by assumption) (rN (by assumption) (rN (by assumption) (rS)))))
  clear HS4 hws
  go_upto_region 6 with (fail)
  refine wp_seq_text [] (StR.no HS5) ?_
  refine Seq.pure rfl rfl (by intro w; go_simp; try first | with_reducible rfl | rfl) ?_
  simp only [Act.put, setIfInBounds_toArray, set_cons_zero, set_cons_succ]
  refine Seq.pure rfl rfl (by intro w; go_simp; try first | with_reducible rfl | rfl) ?_
  simp only [Act.put, setIfInBounds_toArray, set_cons_zero, set_cons_succ]
  refine Seq.done fun ws6 hws => ?_
  have HS6 := hws.st
  clear HS5 hws
  go_upto_region 8 with (fail)
  refine wp_seq_text [] (StR.no HS6) ?_
  refine Seq.pure rfl rfl (by intro w; go_simp; try first | with_reducible rfl | rfl) ?_
  simp only [Act.put, setIfInBounds_toArray, set_cons_zero, set_cons_succ]
  refine Seq.done fun ws7 hws => ?_
  have HS7 := hws.st
  clear HS6 hws
  go_upto_region 10 with (fail)
  refine wp_seq_text [] (StR.no HS7) ?_
  refine Seq.pure rfl rfl (by intro w; go_simp; try first | with_reducible rfl | rfl) ?_
  simp only [Act.put, setIfInBounds_toArray, set_cons_zero, set_cons_succ]
  refine Seq.pure (v := .int .i64 (n : Int)) rfl rfl (by intro w; go_simp; try first | with_reducible rfl | rfl) ?_
  simp only [Act.put, setIfInBounds_toArray, set_cons_zero, set_cons_succ]
  refine Seq.pure rfl rfl (by intro w; go_simp; try first | with_reducible rfl | rfl) ?_
  simp only [Act.put, setIfInBounds_toArray, set_cons_zero, set_cons_succ]
  refine Seq.done fun ws8 hws => ?_
  have HS8 := hws.st
  clear HS7 hws
  go_wp2_with fail
  go_loopg [58] n (fun kk s58 wr => ∃ i : Nat, kk = n - i ∧ s58 = .int .i64 (i : Int) ∧ i ≤ n ∧ Hid (St w [(bk15, 30, VC n1 n2), (bk24, 30, PC ps), (bk30, 30, PC rs), (bk31, 30, PC qs)] wr))
  case atStart => exact ⟨0, rfl, rfl, by omega, Lib.hid HS8⟩
  case round =>
    obtain ⟨i, hgk, rfl, hin, hS⟩ := hrel
    have HGK := Lib.hid hgk; clear hgk
    have HR := hS.out; clear hS
    by_cases hc : i < n
    · obtain ⟨i1, hi1⟩ : ∃ i1 : Nat, i1 = i + 1 := ⟨_, rfl⟩
      have HI1 := Lib.hid (show IntKind.i64.wrap ((i : Int) + 1) = (i1 : Int) ∧ n - i1 < n - i ∧ i1 ≤ n from ⟨by have := HCP.out.2.1; rw [i64_s _ (by omega) (by omega)]; omega, by omega, by omega⟩)
      have HC := Lib.hid hc
      clear hc hi1 hin
      go_upto_region 11 with (fail)
      refine wp_seq_text [] (StR.no HR) ?_
      refine Seq.pure (v := .bool true) rfl rfl (by intro w; go_simp <;> (first | (rw [HC.out]; done) | exact HC.out | (simp [HC.out]; done) | (trace_state; done))) ?_
      simp only [Act.put, setIfInBounds_toArray, set_cons_zero, set_cons_succ]
      refine Seq.done fun ws9 hws => ?_
      have HS9 := hws.st
      clear HR hws
      go_upto_region 12 with (fail)
      refine wp_seq_text [] (StR.no HS9) ?_
      refine Seq.index (m := 6) i rfl rfl rfl rfl rfl (by kernel_rfl) rfl HC.out ?_
      simp only [Act.put, setIfInBounds_toArray, set_cons_zero, set_cons_succ]
      refine Seq.loadAt rfl rfl rfl rfl (by repeat (first | exact mC | apply mT)) (n := 6) (cs' := VC (px ps i) (py ps i)) (PC_room (lt_of_pts HL.out HC.out)) (by kernel_rfl) (PC_at (lt_of_pts HL.out HC.out)) ?_
      simp only [Act.put, setIfInBounds_toArray, set_cons_zero, set_cons_succ]
      refine Seq.alloc rfl rfl rfl (z := .agg #[.bool false, .string ⟨#[]⟩, .string ⟨#[]⟩, .bool false, .string ⟨#[]⟩, .string ⟨#[]⟩]) (by kernel_rfl) rfl ?_
      intro bk18 _ _ hbk18_r
      simp only [Act.put, setIfInBounds_toArray, set_cons_zero, set_cons_succ]
      refine Seq.store rfl rfl rfl rfl rfl (by first | exact rS | exact rN (by assumption) (rS) | exact rN (by assumption) (rN (by assumption) (rS)) | exact rN (by assumption) (rN (by assumption) (rN (by assumption) (rS))) | exact rN (by assumption) (rN (by assumption) (rN (by assumption) (rN (by assumption) (rS))))) (n := 6) rfl rfl (by kernel_rfl) (VC_one _ _) ?_
      simp only [Act.put, setIfInBounds_toArray, set_cons_zero, set_cons_succ]
      refine Seq.done fun ws10 hws => ?_
      have HS10 : St w [(bk18, 30, VC (px ps i) (py ps i)), (bk15, 30, VC n1 n2), (bk24, 30, PC ps), (bk30, 30, PC rs), (bk31, 30, PC qs)] ws10 := hws.list1 (by first | exact rS | exact rN (by assumption) (rS) | exact rN (by assumption) (rN (by assumption) (rS)) | exact rN (by assumption) (rN (by assumption) (rN (by assumption) (rS))) | exact rN (by assumption) (rN (by assumption) (rN (by assumption) (rN (by assumption) (rS)))))
      clear HS9 hws
      go_upto_region 13 with (fail)
      refine wp_seq_text [] (StR.no HS10) ?_
      refine Seq.pure rfl rfl (by intro w; go_simp; try first | with_reducible rfl | rfl) ?_
      simp only [Act.put, setIfInBounds_toArray, set_cons_zero, set_cons_succ]
      refine Seq.pure (v := .int .i64 (m : Int)) rfl rfl (by intro w; go_simp; try first | with_reducible rfl | rfl) ?_
      simp only [Act.put, setIfInBounds_toArray, set_cons_zero, set_cons_succ]
      refine Seq.pure rfl rfl (by intro w; go_simp; try first | with_reducible rfl | rfl) ?_
      simp only [Act.put, setIfInBounds_toArray, set_cons_zero, set_cons_succ]
      refine Seq.done fun ws11 hws => ?_
      have HS11 := hws.st
      clear HS10 hws
      go_wp2_with fail
      go_loopg [64] m (fun kk s64 wr => ∃ q : Nat, kk = m - q ∧ s64 = .int .i64 (q : Int) ∧ q ≤ m ∧ Hid (St w [(bk18, 30, VC (px ps i) (py ps i)), (bk15, 30, VC n1 n2), (bk24, 30, PC ps), (bk30, 30, PC rs), (bk31, 30, PC qs)] wr))
      case atStart => exact ⟨0, rfl, rfl, by omega, Lib.hid HS11⟩
      case round =>
        obtain ⟨q, hgk2, rfl, hqm, hS2⟩ := hrel
        have HGK2 := Lib.hid hgk2; clear hgk2
        have HR2 := hS2.out; clear hS2
        by_cases hc2 : q < m
        · obtain ⟨q1, hq1⟩ : ∃ q1 : Nat, q1 = q + 1 := ⟨_, rfl⟩
          have HQ1 := Lib.hid (show IntKind.i64.wrap ((q : Int) + 1) = (q1 : Int) ∧ m - q1 < m - q ∧ q1 ≤ m from ⟨by have := HCQ.out.2.1; rw [i64_s _ (by omega) (by omega)]; omega, by omega, by omega⟩)
          obtain ⟨sv, hsv⟩ : ∃ v, cmpQ (n1 * px ps i + n2 * py ps i) (n1 * px qs q + n2 * py qs q) = v := ⟨_, rfl⟩
          have HSG := Lib.hid (show sv < 0 by rw [← hsv]; unfold cmpQ; rw [if_pos (HDOT.out i q (lt_of_pts HL.out HC.out) (lt_of_pts HLQ.out hc2))]; decide)
          have HC2 := Lib.hid hc2
          have HSV := Lib.hid hsv
          clear hsv hc2 hqm hq1
          go_upto_region 14 with (fail)
          refine wp_seq_text [] (StR.no HR2) ?_
          refine Seq.pure (v := .bool true) rfl rfl (by intro w; go_simp <;> (first | (rw [HC2.out]; done) | exact HC2.out | (simp [HC2.out]; done) | (trace_state; done))) ?_
          simp only [Act.put, setIfInBounds_toArray, set_cons_zero, set_cons_succ]
          refine Seq.done fun ws12 hws => ?_
          have HS12 := hws.st
          clear HR2 hws
          go_upto_region 15 with (fail)
          refine wp_seq_text [] (StR.no HS12) ?_
          refine Seq.index (m := 6) q rfl rfl rfl rfl rfl (by kernel_rfl) rfl HC2.out ?_
          simp only [Act.put, setIfInBounds_toArray, set_cons_zero, set_cons_succ]
          refine Seq.loadAt rfl rfl rfl rfl (by repeat (first | exact mC | apply mT)) (n := 6) (cs' := VC (px qs q) (py qs q)) (PC_room (lt_of_pts HLQ.out HC2.out)) (by kernel_rfl) (PC_at (lt_of_pts HLQ.out HC2.out)) ?_
          simp only [Act.put, setIfInBounds_toArray, set_cons_zero, set_cons_succ]
          refine Seq.alloc rfl rfl rfl (z := .agg #[.bool false, .string ⟨#[]⟩, .string ⟨#[]⟩, .bool false, .string ⟨#[]⟩, .string ⟨#[]⟩]) (by kernel_rfl) rfl ?_
          intro bk20 _ _ hbk20_r
          simp only [Act.put, setIfInBounds_toArray, set_cons_zero, set_cons_succ]
          refine Seq.store rfl rfl rfl rfl rfl (by first | exact rS | exact rN (by assumption) (rS) | exact rN (by assumption) (rN (by assumption) (rS)) | exact rN (by assumption) (rN (by assumption) (rN (by assumption) (rS))) | exact rN (by assumption) (rN (by assumption) (rN (by assumption) (rN (by assumption) (rS))))) (n := 6) rfl rfl (by kernel_rfl) (VC_one _ _) ?_
          simp only [Act.put, setIfInBounds_toArray, set_cons_zero, set_cons_succ]
          refine Seq.done fun ws13 hws => ?_
          have HS13 : St w [(bk20, 30, VC (px qs q) (py qs q)), (bk18, 30, VC (px ps i) (py ps i)), (bk15, 30, VC n1 n2), (bk24, 30, PC ps), (bk30, 30, PC rs), (bk31, 30, PC qs)] ws13 := hws.list1 (by first | exact rS | exact rN (by assumption) (rS) | exact rN (by assumption) (rN (by assumption) (rS)) | exact rN (by assumption) (rN (by assumption) (rN (by assumption) (rS))) | exact rN (by assumption) (rN (by assumption) (rN (by assumption) (rN (by assumption) (rS)))))
          clear HS12 hws
          go_upto_region 16 with (fail)
          refine wp_seq [] (by kernel_rfl) (by kernel_rfl) Reg.fin_no (StR.no HS13) ?_
          refine Seq.load rfl rfl rfl rfl (by repeat (first | exact mC | apply mT)) (n := 6) rfl (by kernel_rfl) ?_
          simp only [Act.put, setIfInBounds_toArray, set_cons_zero, set_cons_succ]
          refine Seq.load rfl rfl rfl rfl (by repeat (first | exact mC | apply mT)) (n := 6) rfl (by kernel_rfl) ?_
          simp only [Act.put, setIfInBounds_toArray, set_cons_zero, set_cons_succ]
          refine Seq.call rfl rfl rfl rfl (by kernel_rfl) (dot_q (k := 925) HT.out (Z_n1.out.more (by omega)) (Z_n2.out.more (by omega)) ((HZP.out.x (lt_of_pts HL.out HC.out)).more (by omega)) ((HZP.out.y (lt_of_pts HL.out HC.out)).more (by omega))  rfl (by omega)) ?_
          simp only [Act.put, setIfInBounds_toArray, set_cons_zero, set_cons_succ]
          refine Seq.load rfl rfl rfl rfl (by repeat (first | exact mC | apply mT)) (n := 6) rfl (by kernel_rfl) ?_
          simp only [Act.put, setIfInBounds_toArray, set_cons_zero, set_cons_succ]
          refine Seq.load rfl rfl rfl rfl (by repeat (first | exact mC | apply mT)) (n := 6) rfl (by kernel_rfl) ?_
          simp only [Act.put, setIfInBounds_toArray, set_cons_zero, set_cons_succ]
          refine Seq.call rfl rfl rfl rfl (by kernel_rfl) (dot_q (k := 925) HT.out (Z_n1.out.more (by omega)) (Z_n2.out.more (by omega)) ((HZQ.out.x (lt_of_pts HLQ.out HC2.out)).more (by omega)) ((HZQ.out.y (lt_of_pts HLQ.out HC2.out)).more (by omega))  rfl (by omega)) ?_
          simp only [Act.put, setIfInBounds_toArray, set_cons_zero, set_cons_succ]
          refine Seq.call rfl rfl rfl rfl (by kernel_rfl) (cmp_q (k := 4625) HT.out (((Z_n1.out.mul (HZP.out.x (lt_of_pts HL.out HC.out))).add (Z_n2.out.mul (HZP.out.y (lt_of_pts HL.out HC.out)))).more (by omega)) (((Z_n1.out.mul (HZQ.out.x (lt_of_pts HLQ.out HC2.out))).add (Z_n2.out.mul (HZQ.out.y (lt_of_pts HLQ.out HC2.out)))).more (by omega)) HSV.out (by omega)) ?_
          simp only [Act.put, setIfInBounds_toArray, set_cons_zero, set_cons_succ]
          refine Seq.pure (v := .bool false) rfl rfl (by intro w; go_simp <;> (first | (rw [HSG.out]; done) | exact HSG.out | (simp [HSG.out]; done) | (trace_state; done))) ?_
          simp only [Act.put, setIfInBounds_toArray, set_cons_zero, set_cons_succ]
          refine Seq.done fun ws14 hws => ?_
          have HS14 := hws.st
          clear HS13 hws
          go_upto_region 18 with (fail)
          refine wp_seq_text [] (StR.no HS14) ?_
          refine Seq.pure (v := .int .i64 (q1 : Int)) rfl rfl (by intro w; go_simp <;> (first | (rw [HQ1.out.1]; done) | exact HQ1.out.1 | (simp [HQ1.out.1]; done) | (trace_state; done))) ?_
          simp only [Act.put, setIfInBounds_toArray, set_cons_zero, set_cons_succ]
          refine Seq.pure rfl rfl (by intro w; go_simp; try first | with_reducible rfl | rfl) ?_
          simp only [Act.put, setIfInBounds_toArray, set_cons_zero, set_cons_succ]
          refine Seq.done fun ws15 hws => ?_
          have HS15 := hws.st
          clear HS14 hws
          go_wp2_with fail
          go_roundg (m - q1)
          case measure => rw [HGK2.out]; exact HQ1.out.2.1
          case rel => exact ⟨q1, rfl, rfl, HQ1.out.2.2, Lib.hid (HS15.sub (.cons _ (.refl _)))⟩
        · have HC2 := Lib.hid (show m ≤ q by omega)
          clear hc2 hqm
          go_upto_region 14 with (fail)
          refine wp_seq_text [] (StR.no HR2) ?_
          refine Seq.pure (v := .bool false) rfl rfl (by intro w; go_simp <;> (first | (rw [HC2.out]; done) | exact HC2.out | (simp [HC2.out]; done) | (trace_state; done))) ?_
          simp only [Act.put, setIfInBounds_toArray, set_cons_zero, set_cons_succ]
          refine Seq.done fun ws12 hws => ?_
          have HS12 := hws.st
          clear HR2 hws
          go_upto_region 19 with (fail)
          refine wp_seq_text [] (StR.no HS12) ?_
          refine Seq.pure (v := .int .i64 (i1 : Int)) rfl rfl (by intro w; go_simp <;> (first | (rw [HI1.out.1]; done) | exact HI1.out.1 | (simp [HI1.out.1]; done) | (trace_state; done))) ?_
          simp only [Act.put, setIfInBounds_toArray, set_cons_zero, set_cons_succ]
          refine Seq.pure rfl rfl (by intro w; go_simp; try first | with_reducible rfl | rfl) ?_
          simp only [Act.put, setIfInBounds_toArray, set_cons_zero, set_cons_succ]
          refine Seq.done fun ws13 hws => ?_
          have HS13 := hws.st
          clear HS12 hws
          go_wp2_with fail
          go_roundg (n - i1)
          case measure => rw [HGK.out]; exact HI1.out.2.1
          case rel => exact ⟨i1, rfl, rfl, HI1.out.2.2, Lib.hid (HS13.sub (.cons _ (.refl _)))⟩
    · have HC := Lib.hid (show n ≤ i by omega)
      clear hc hin
      go_upto_region 11 with (fail)
      refine wp_seq_text [] (StR.no HR) ?_
      refine Seq.pure (v := .bool false) rfl rfl (by intro w; go_simp <;> (first | (rw [HC.out]; done) | exact HC.out | (simp [HC.out]; done) | (trace_state; done))) ?_
      simp only [Act.put, setIfInBounds_toArray, set_cons_zero, set_cons_succ]
      refine Seq.done fun ws9 hws => ?_
      have HS9 := hws.st
      clear HR hws
      go_upto_region 20 with (fail)
      refine wp_seq_text [] (StR.no HS9) ?_
      refine Seq.pure rfl rfl (by intro w; go_simp; try first | with_reducible rfl | rfl) ?_
      simp only [Act.put, setIfInBounds_toArray, set_cons_zero, set_cons_succ]
      refine Seq.pure rfl rfl (by intro w; go_simp; try first | with_reducible rfl | rfl) ?_
      simp only [Act.put, setIfInBounds_toArray, set_cons_zero, set_cons_succ]
      refine Seq.pure rfl rfl (by intro w; go_simp; try first | with_reducible rfl | rfl) ?_
      simp only [Act.put, setIfInBounds_toArray, set_cons_zero, set_cons_succ]
      refine Seq.done fun ws10 hws => ?_
      have HS10 := hws.st
      clear HS9 hws
      go_wp2_with fail
      go_ret
      exact ⟨rfl, HS10.below⟩
theorem apartAxis_int {A0 A1 : Option Addr} {n0 c0 n1 c1 : Nat} {xs0 xs1 : List Int} (x y bz : Int) (w : World) (hi0 : Ints w A0 n0 c0 xs0) (hi1 : Ints w A1 n1 c1 xs1) (hx0 : -9223372036854775808 ≤ x) (hx1 : x ≤ 9223372036854775807) (hy0 : -9223372036854775808 ≤ y) (hy1 : y ≤ 9223372036854775807) (hbz0 : -9223372036854775808 ≤ bz) (hbz1 : bz ≤ 9223372036854775807) (hT : Tab w) :
    Calls Tryd.prog 5 #[.slice A0 n0 c0, .slice A1 n1 c1, .int .i64 x, .int .i64 y, .int .i64 bz] w fun e w' => e = .returned (.bool true) ∧ Below w.heap.size w w' := by
  cases hc : meetB (polyQ xs0) (mvP (cosT (tdH bz) (tdT bz)) (sinT (tdT bz)) (ratMq x) (ratMq y) (polyQ xs1)) with
  | true => exact apartAxis_yes x y bz w hi0 hi1 hx0 hx1 hy0 hy1 hbz0 hbz1 hT hc
  | false => exact apartAxis_no x y bz w hi0 hi1 hx0 hx1 hy0 hy1 hbz0 hbz1 hT hc
end Go.Proofs.YtbgifinfflehmaaDoor
