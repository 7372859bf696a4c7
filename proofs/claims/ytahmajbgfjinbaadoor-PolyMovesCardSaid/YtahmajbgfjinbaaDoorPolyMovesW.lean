/- Joined texts. -/
import Derived.Test.YtahmajbgfjinbaaDoorPo5

/- The walk of PolyMoves (printed by lawvec.py). -/
namespace Go.Proofs.YtahmajbgfjinbaaDoor
open Go.RowKit
set_option linter.unusedVariables false
set_option linter.unusedSimpArgs false

set_option maxHeartbeats 4000000 in
set_option maxRecDepth 20000 in
theorem polyMoves_int {A : Option Addr} {n c : Nat} {xs : List Int} (x y bz u v : Int) (w : World) (hi : Ints w A n c xs) (hx0 : -9223372036854775808 ≤ x) (hx1 : x ≤ 9223372036854775807) (hy0 : -9223372036854775808 ≤ y) (hy1 : y ≤ 9223372036854775807) (hbz0 : -9223372036854775808 ≤ bz) (hbz1 : bz ≤ 9223372036854775807) (hu0 : -9223372036854775808 ≤ u) (hu1 : u ≤ 9223372036854775807) (hv0 : -9223372036854775808 ≤ v) (hv1 : v ≤ 9223372036854775807) (hT : Tab w) :
    Calls Tryd.prog 13 #[.slice A n c, .int .i64 x, .int .i64 y, .int .i64 bz, .int .i64 u, .int .i64 v] w fun e w' => e = .returned (.bool true) ∧ Below w.heap.size w w' := by
  have Ix := Lib.hid (And.intro hx0 hx1); clear hx0 hx1
  have Iy := Lib.hid (And.intro hy0 hy1); clear hy0 hy1
  have Ibz := Lib.hid (And.intro hbz0 hbz1); clear hbz0 hbz1
  have Iu := Lib.hid (And.intro hu0 hu1); clear hu0 hu1
  have Iv := Lib.hid (And.intro hv0 hv1); clear hv0 hv1
  have HT := Lib.hid hT; clear hT
  have HIX := Lib.hid hi; clear hi
  obtain ⟨fx, efx⟩ : ∃ r_, ratMq x = r_ := ⟨_, rfl⟩
  have Z_fx := Lib.hid (show Rz 2 fx from efx ▸ (ratMq_small x).rz.more (by omega))
  have Efx := Lib.hid efx; clear efx
  obtain ⟨fy, efy⟩ : ∃ r_, ratMq y = r_ := ⟨_, rfl⟩
  have Z_fy := Lib.hid (show Rz 2 fy from efy ▸ (ratMq_small y).rz.more (by omega))
  have Efy := Lib.hid efy; clear efy
  obtain ⟨ha, eha⟩ : ∃ r_, tdH bz = r_ := ⟨_, rfl⟩
  obtain ⟨ta, eta⟩ : ∃ r_, tdT bz = r_ := ⟨_, rfl⟩
  have Eha := Lib.hid (And.intro eha eta)
  have Gha := Lib.hid (show GoodT ha ta from eha ▸ eta ▸ td_good bz)
  have Z_ta := Lib.hid (show Rz 2 ta from eta ▸ td_rz bz); clear eha eta
  obtain ⟨gx, egx⟩ : ∃ r_, ratMq u = r_ := ⟨_, rfl⟩
  have Z_gx := Lib.hid (show Rz 2 gx from egx ▸ (ratMq_small u).rz.more (by omega))
  have Egx := Lib.hid egx; clear egx
  obtain ⟨gy, egy⟩ : ∃ r_, ratMq v = r_ := ⟨_, rfl⟩
  have Z_gy := Lib.hid (show Rz 2 gy from egy ▸ (ratMq_small v).rz.more (by omega))
  have Egy := Lib.hid egy; clear egy
  have CS := cos_sin ha ta Gha.out
  obtain ⟨ps, hps⟩ : ∃ z, polyQ xs = z := ⟨_, rfl⟩
  obtain ⟨m, hm⟩ : ∃ z, ps.length = z := ⟨_, rfl⟩
  have hlen := polyQ_len xs
  rw [hps, hm] at hlen
  have hcv := polyQ_cvx xs
  rw [hps] at hcv
  have hzp := polyQ_z xs
  rw [hps] at hzp
  obtain ⟨qs, hqs⟩ : ∃ z, mvP (cosT ha ta) (sinT ta) fx fy ps = z := ⟨_, rfl⟩
  have hcq := cvx_mv CS hcv (tx := fx) (ty := fy)
  have hzq : Pz 231 qs := by rw [← hqs]; exact mvP_z (ha := ha) Z_fx.out Z_fy.out Z_ta.out hzp
  have hlq : qs.length = m := by rw [← hqs, mvP_len]; exact hm
  have harq := area_mv CS (show 0 < ps.length by omega) (tx := fx) (ty := fy)
  have hpos := area_pos hcv (by omega)
  have hhas := hasB_mv CS ps gx gy (tx := fx) (ty := fy)
  rw [hqs] at hcq harq hhas
  obtain ⟨ar, har⟩ : ∃ z, areaQ ps = z := ⟨_, rfl⟩
  obtain ⟨hb, hhb⟩ : ∃ z, hasB ps gx gy = z := ⟨_, rfl⟩
  obtain ⟨mx, hmx⟩ : ∃ z, mvx (cosT ha ta) (sinT ta) fx fy gx gy = z := ⟨_, rfl⟩
  obtain ⟨my, hmy⟩ : ∃ z, mvy (cosT ha ta) (sinT ta) fx fy gx gy = z := ⟨_, rfl⟩
  rw [har] at harq hpos
  rw [hmx, hmy, hhb] at hhas
  have hzm := mvP_z Z_fx.out Z_fy.out Z_ta.out (show Pz 2 [(gx, gy)] from fun p hp => by rw [List.mem_singleton] at hp; subst hp; exact ⟨Z_gx.out, Z_gy.out⟩) (ha := ha)
  have hzm2 := hzm (mx, my) (by rw [← hmx, ← hmy]; exact List.mem_singleton.2 rfl)
  have Z_mx := Lib.hid (show Rz 1000 mx from hzm2.1.more (by omega))
  have Z_my := Lib.hid (show Rz 1000 my from hzm2.2.more (by omega))
  obtain ⟨sv, hsv, hs1⟩ : ∃ z, sgnQ ar = z ∧ decide (0 < z) = true := ⟨_, rfl, decide_eq_true (by unfold sgnQ cmpQ; grind)⟩
  have HSV := Lib.hid hsv; clear hsv hpos
  have Z_ar := Lib.hid (show Rz 1000000000000 ar from har ▸ areaQ_rz hzp (by omega) hm (by omega))
  have HAR := Lib.hid (And.intro har harq); clear har harq
  have HHB := Lib.hid (And.intro hhas hhb); clear hhas hhb
  have HM := Lib.hid (And.intro hmx hmy); clear hmx hmy hzm hzm2
  have HCP := Lib.hid (show 3 ≤ m ∧ m ≤ 8 ∧ Cvx ps from ⟨by omega, by omega, hcv⟩)
  have HCQ := Lib.hid (show 3 ≤ m ∧ m ≤ 8 ∧ Cvx qs from ⟨by omega, by omega, hcq⟩)
  have HZP := Lib.hid hzp
  have HZQ := Lib.hid hzq
  have HL := Lib.hid hm
  have HLQ := Lib.hid hlq
  have HPS := Lib.hid hps
  have HQS := Lib.hid hqs
  clear hcv hcq hzp hzq hm hlq hps hqs CS hlen
  go_enter Tryd.func13, Tryd.ntmps13
  have HS : St w [] w := St.start
  go_upto_region 0 with (fail)
  refine wp_seq_text [] (StR.no HS) ?_
  refine Seq.pure rfl rfl (by intro w; go_simp; try first | with_reducible rfl | rfl) ?_
  simp only [Act.put, List.setIfInBounds_toArray, List.set_cons_zero, List.set_cons_succ]
  refine Seq.done fun ws1 hws => ?_
  have HS1 := hws.st
  clear HS hws
  go_upto_region 1 with (fail)
  refine wp_seq_text [] (StR.no HS1) ?_
  refine Seq.call rfl rfl rfl rfl (by kernel_rfl) (pbegun_q HT.out) ?_
  simp only [Act.put, List.setIfInBounds_toArray, List.set_cons_zero, List.set_cons_succ]
  refine Seq.pure rfl rfl (by intro w; go_simp; try first | with_reducible rfl | rfl) ?_
  simp only [Act.put, List.setIfInBounds_toArray, List.set_cons_zero, List.set_cons_succ]
  refine Seq.done fun ws2 hws => ?_
  have HS2 := hws.st
  clear HS1 hws
  go_upto_region 3 with (fail)
  refine wp_seq_text [1000001] (StR.no HS2) ?_
  refine Seq.pure rfl rfl (by intro w; go_simp; try first | with_reducible rfl | rfl) ?_
  simp only [Act.put, List.setIfInBounds_toArray, List.set_cons_zero, List.set_cons_succ]
  refine Seq.callFresh (n := some m) (x := (26, PC ps)) rfl rfl rfl rfl (by kernel_rfl) (fun w h => poly_G HIX.out HPS.out HL.out w h.st) ?_
  intro bk20 _ _ hbk20_r
  simp only [mk]
  simp only [Act.put, List.setIfInBounds_toArray, List.set_cons_zero, List.set_cons_succ]
  refine Seq.pure rfl rfl (by intro w; go_simp; try first | with_reducible rfl | rfl) ?_
  simp only [Act.put, List.setIfInBounds_toArray, List.set_cons_zero, List.set_cons_succ]
  refine Seq.pure rfl rfl (by intro w; go_simp; try first | with_reducible rfl | rfl) ?_
  simp only [Act.put, List.setIfInBounds_toArray, List.set_cons_zero, List.set_cons_succ]
  refine Seq.pure rfl rfl (by intro w; go_simp; try first | with_reducible rfl | rfl) ?_
  simp only [Act.put, List.setIfInBounds_toArray, List.set_cons_zero, List.set_cons_succ]
  refine Seq.call rfl rfl rfl rfl (by kernel_rfl) (framed_q HT.out Ix.out Iy.out Ibz.out Efx.out Efy.out Eha.out.1 Eha.out.2) ?_
  simp only [Act.put, List.setIfInBounds_toArray, List.set_cons_zero, List.set_cons_succ]
  refine Seq.pure rfl rfl (by intro w; go_simp; try first | with_reducible rfl | rfl) ?_
  simp only [Act.put, List.setIfInBounds_toArray, List.set_cons_zero, List.set_cons_succ]
  refine Seq.pure rfl rfl (by intro w; go_simp; try first | with_reducible rfl | rfl) ?_
  simp only [Act.put, List.setIfInBounds_toArray, List.set_cons_zero, List.set_cons_succ]
  refine Seq.call rfl rfl rfl rfl (by kernel_rfl) (vector_q HT.out Iu.out Iv.out Egx.out Egy.out) ?_
  simp only [Act.put, List.setIfInBounds_toArray, List.set_cons_zero, List.set_cons_succ]
  refine Seq.alloc rfl rfl rfl (z := .agg #[.bool false, .string ⟨#[]⟩, .string ⟨#[]⟩, .bool false, .string ⟨#[]⟩, .string ⟨#[]⟩, .bool false, .bool false, .string ⟨#[]⟩, .string ⟨#[]⟩]) (by kernel_rfl) rfl ?_
  intro bk14 _ _ hbk14_r
  obtain ⟨ne_bk14_bk20, hbk14_r⟩ := Reg.ne_of_put hbk14_r
  have ne_bk20_bk14 := Ne.symm ne_bk14_bk20
  simp only [Act.put, List.setIfInBounds_toArray, List.set_cons_zero, List.set_cons_succ]
  refine Seq.alloc rfl rfl rfl (z := .agg #[.bool false, .string ⟨#[]⟩, .string ⟨#[]⟩, .bool false, .string ⟨#[]⟩, .string ⟨#[]⟩]) (by kernel_rfl) rfl ?_
  intro bk15 _ _ hbk15_r
  obtain ⟨ne_bk15_bk14, hbk15_r⟩ := Reg.ne_of_put hbk15_r
  have ne_bk14_bk15 := Ne.symm ne_bk15_bk14
  obtain ⟨ne_bk15_bk20, hbk15_r⟩ := Reg.ne_of_put hbk15_r
  have ne_bk20_bk15 := Ne.symm ne_bk15_bk20
  simp only [Act.put, List.setIfInBounds_toArray, List.set_cons_zero, List.set_cons_succ]
  refine Seq.pure rfl rfl (by intro w; go_simp; try first | with_reducible rfl | rfl) ?_
  simp only [Act.put, List.setIfInBounds_toArray, List.set_cons_zero, List.set_cons_succ]
  refine Seq.store rfl rfl rfl rfl rfl (by first | exact rS | exact rN (by assumption) (rS) | exact rN (by assumption) (rN (by assumption) (rS)) | exact rN (by assumption) (rN (by assumption) (rN (by assumption) (rS))) | exact rN (by assumption) (rN (by assumption) (rN (by assumption) (rN (by assumption) (rS))))) (n := 10) rfl rfl (by kernel_rfl) (FC_one _ _ _ _) ?_
  simp only [Act.put, List.setIfInBounds_toArray, List.set_cons_zero, List.set_cons_succ]
  refine Seq.store rfl rfl rfl rfl rfl (by first | exact rS | exact rN (by assumption) (rS) | exact rN (by assumption) (rN (by assumption) (rS)) | exact rN (by assumption) (rN (by assumption) (rN (by assumption) (rS))) | exact rN (by assumption) (rN (by assumption) (rN (by assumption) (rN (by assumption) (rS))))) (n := 6) rfl rfl (by kernel_rfl) (VC_one _ _) ?_
  simp only [Act.put, List.setIfInBounds_toArray, List.set_cons_zero, List.set_cons_succ]
  refine Seq.done fun ws3 hws => ?_
  have HS3 : St w [(bk20, 26, PC ps), (bk14, 57, FC fx fy ha ta), (bk15, 26, VC gx gy)] ws3 := hws.list3 (by first | exact rS | exact rN (by assumption) (rS) | exact rN (by assumption) (rN (by assumption) (rS)) | exact rN (by assumption) (rN (by assumption) (rN (by assumption) (rS))) | exact rN (by assumption) (rN (by assumption) (rN (by assumption) (rN (by assumption) (rS))))) (by first | exact rS | exact rN (by assumption) (rS) | exact rN (by assumption) (rN (by assumption) (rS)) | exact rN (by assumption) (rN (by assumption) (rN (by assumption) (rS))) | exact rN (by assumption) (rN (by assumption) (rN (by assumption) (rN (by assumption) (rS))))) (by first | exact rS | exact rN (by assumption) (rS) | exact rN (by assumption) (rN (by assumption) (rS)) | exact rN (by assumption) (rN (by assumption) (rN (by assumption) (rS))) | exact rN (by assumption) (rN (by assumption) (rN (by assumption) (rN (by assumption) (rS))))) (by assumption) (by assumption) (by assumption)
  clear HS2 hws
  go_upto_region 4 with (fail)
  refine wp_seq_text [1000002] (StR.no HS3) ?_
  refine Seq.load rfl rfl rfl rfl (by repeat (first | exact mC | apply mT)) (n := 10) rfl (by kernel_rfl) ?_
  simp only [Act.put, List.setIfInBounds_toArray, List.set_cons_zero, List.set_cons_succ]
  refine Seq.pure rfl rfl (by intro w; go_simp; try first | with_reducible rfl | rfl) ?_
  simp only [Act.put, List.setIfInBounds_toArray, List.set_cons_zero, List.set_cons_succ]
  refine Seq.callFresh (n := some m) (x := (26, PC qs)) rfl rfl rfl rfl (by kernel_rfl) (fun w h => flist_G (k := 2) HT.out (Z_fx.out.more (by omega)) (Z_fy.out.more (by omega)) (Z_ta.out.more (by omega)) Gha.out (HZP.out.more (by omega)) HL.out (by have := HCP.out.2.1; omega) HQS.out (by omega) _ w h.st (h.st.blk (bk20, _, _) (by repeat (first | exact mC | apply mT))).2) ?_
  intro bk30 _ _ hbk30_r
  simp only [mk]
  simp only [Act.put, List.setIfInBounds_toArray, List.set_cons_zero, List.set_cons_succ]
  refine Seq.pure rfl rfl (by intro w; go_simp; try first | with_reducible rfl | rfl) ?_
  simp only [Act.put, List.setIfInBounds_toArray, List.set_cons_zero, List.set_cons_succ]
  refine Seq.done fun ws4 hws => ?_
  have HS4 : St w [(bk30, 26, PC qs), (bk20, 26, PC ps), (bk14, 57, FC fx fy ha ta), (bk15, 26, VC gx gy)] ws4 := hws.list1 (by first | exact rS | exact rN (by assumption) (rS) | exact rN (by assumption) (rN (by assumption) (rS)) | exact rN (by assumption) (rN (by assumption) (rN (by assumption) (rS))) | exact rN (by assumption) (rN (by assumption) (rN (by assumption) (rN (by assumption) (rS)))))
  clear HS3 hws
  go_upto_region 5 with (fail)
  refine wp_seq [] (by kernel_rfl) (by kernel_rfl) Reg.fin_no (StR.no HS4) ?_
  refine Seq.pure rfl rfl (by intro w; go_simp; try first | with_reducible rfl | rfl) ?_
  simp only [Act.put, List.setIfInBounds_toArray, List.set_cons_zero, List.set_cons_succ]
  refine Seq.call rfl rfl rfl rfl (by kernel_rfl) (fun w h => pcheck_q (k := 2) HT.out (HZP.out.more (by omega)) HL.out ⟨HCP.out.1, by have := HCP.out.2.1; omega, HCP.out.2.2⟩ (by omega) _ w h (h.blk (bk20, _, _) (by repeat (first | exact mC | apply mT))).2) ?_
  simp only [Act.put, List.setIfInBounds_toArray, List.set_cons_zero, List.set_cons_succ]
  refine Seq.pure rfl rfl (by intro w; go_simp; try first | with_reducible rfl | rfl) ?_
  simp only [Act.put, List.setIfInBounds_toArray, List.set_cons_zero, List.set_cons_succ]
  refine Seq.pure rfl rfl (by intro w; go_simp; try first | with_reducible rfl | rfl) ?_
  simp only [Act.put, List.setIfInBounds_toArray, List.set_cons_zero, List.set_cons_succ]
  refine Seq.pure rfl rfl (by intro w; go_simp; try first | with_reducible rfl | rfl) ?_
  simp only [Act.put, List.setIfInBounds_toArray, List.set_cons_zero, List.set_cons_succ]
  refine Seq.call rfl rfl rfl rfl (by kernel_rfl) (fun w h => pcheck_q (k := 231) HT.out (HZQ.out.more (by omega)) HLQ.out ⟨HCQ.out.1, by have := HCQ.out.2.1; omega, HCQ.out.2.2⟩ (by omega) _ w h (h.blk (bk30, _, _) (by repeat (first | exact mC | apply mT))).2) ?_
  simp only [Act.put, List.setIfInBounds_toArray, List.set_cons_zero, List.set_cons_succ]
  refine Seq.pure rfl rfl (by intro w; go_simp; try first | with_reducible rfl | rfl) ?_
  simp only [Act.put, List.setIfInBounds_toArray, List.set_cons_zero, List.set_cons_succ]
  refine Seq.pure rfl rfl (by intro w; go_simp; try first | with_reducible rfl | rfl) ?_
  simp only [Act.put, List.setIfInBounds_toArray, List.set_cons_zero, List.set_cons_succ]
  refine Seq.pure rfl rfl (by intro w; go_simp; try first | with_reducible rfl | rfl) ?_
  simp only [Act.put, List.setIfInBounds_toArray, List.set_cons_zero, List.set_cons_succ]
  refine Seq.pure rfl rfl (by intro w; go_simp; try first | with_reducible rfl | rfl) ?_
  simp only [Act.put, List.setIfInBounds_toArray, List.set_cons_zero, List.set_cons_succ]
  refine Seq.call rfl rfl rfl rfl (by kernel_rfl) (fun w h => area_G (k := 231) HT.out (HZQ.out.more (by omega)) HLQ.out ⟨HCQ.out.1, by have := HCQ.out.2.1; omega, HCQ.out.2.2⟩ HAR.out.2 (by omega) _ w h (h.blk (bk30, _, _) (by repeat (first | exact mC | apply mT))).2) ?_
  simp only [Act.put, List.setIfInBounds_toArray, List.set_cons_zero, List.set_cons_succ]
  refine Seq.pure rfl rfl (by intro w; go_simp; try first | with_reducible rfl | rfl) ?_
  simp only [Act.put, List.setIfInBounds_toArray, List.set_cons_zero, List.set_cons_succ]
  refine Seq.call rfl rfl rfl rfl (by kernel_rfl) (fun w h => area_G (k := 2) HT.out (HZP.out.more (by omega)) HL.out ⟨HCP.out.1, by have := HCP.out.2.1; omega, HCP.out.2.2⟩ HAR.out.1 (by omega) _ w h (h.blk (bk20, _, _) (by repeat (first | exact mC | apply mT))).2) ?_
  simp only [Act.put, List.setIfInBounds_toArray, List.set_cons_zero, List.set_cons_succ]
  refine Seq.eqR rfl rfl rfl rfl rfl (b := true) (decide_eq_true rfl) ?_
  simp only [Act.put, List.setIfInBounds_toArray, List.set_cons_zero, List.set_cons_succ]
  refine Seq.pure rfl rfl (by intro w; go_simp; try first | with_reducible rfl | rfl) ?_
  simp only [Act.put, List.setIfInBounds_toArray, List.set_cons_zero, List.set_cons_succ]
  refine Seq.pure rfl rfl (by intro w; go_simp; try first | with_reducible rfl | rfl) ?_
  simp only [Act.put, List.setIfInBounds_toArray, List.set_cons_zero, List.set_cons_succ]
  refine Seq.pure rfl rfl (by intro w; go_simp; try first | with_reducible rfl | rfl) ?_
  simp only [Act.put, List.setIfInBounds_toArray, List.set_cons_zero, List.set_cons_succ]
  refine Seq.call rfl rfl rfl rfl (by kernel_rfl) (fun w h => area_G (k := 2) HT.out (HZP.out.more (by omega)) HL.out ⟨HCP.out.1, by have := HCP.out.2.1; omega, HCP.out.2.2⟩ HAR.out.1 (by omega) _ w h (h.blk (bk20, _, _) (by repeat (first | exact mC | apply mT))).2) ?_
  simp only [Act.put, List.setIfInBounds_toArray, List.set_cons_zero, List.set_cons_succ]
  refine Seq.call rfl rfl rfl rfl (by kernel_rfl) (sign_q (k := 1000000000000) HT.out (Z_ar.out.more (by omega)) HSV.out (by omega)) ?_
  simp only [Act.put, List.setIfInBounds_toArray, List.set_cons_zero, List.set_cons_succ]
  refine Seq.pure rfl rfl (by intro w; go_simp; try first | with_reducible rfl | rfl) ?_
  simp only [Act.put, List.setIfInBounds_toArray, List.set_cons_zero, List.set_cons_succ]
  refine Seq.pure rfl rfl (by intro w; go_simp; try first | with_reducible rfl | rfl) ?_
  simp only [Act.put, List.setIfInBounds_toArray, List.set_cons_zero, List.set_cons_succ]
  refine Seq.pure rfl rfl (by intro w; go_simp; try first | with_reducible rfl | rfl) ?_
  simp only [Act.put, List.setIfInBounds_toArray, List.set_cons_zero, List.set_cons_succ]
  refine Seq.pure rfl rfl (by intro w; go_simp; try first | with_reducible rfl | rfl) ?_
  simp only [Act.put, List.setIfInBounds_toArray, List.set_cons_zero, List.set_cons_succ]
  refine Seq.load rfl rfl rfl rfl (by repeat (first | exact mC | apply mT)) (n := 10) rfl (by kernel_rfl) ?_
  simp only [Act.put, List.setIfInBounds_toArray, List.set_cons_zero, List.set_cons_succ]
  refine Seq.load rfl rfl rfl rfl (by repeat (first | exact mC | apply mT)) (n := 6) rfl (by kernel_rfl) ?_
  simp only [Act.put, List.setIfInBounds_toArray, List.set_cons_zero, List.set_cons_succ]
  refine Seq.call rfl rfl rfl rfl (by kernel_rfl) (fput_q (k := 2) HT.out (Z_fx.out.more (by omega)) (Z_fy.out.more (by omega)) (Z_ta.out.more (by omega)) (Z_gx.out.more (by omega)) (Z_gy.out.more (by omega)) Gha.out HM.out.1 HM.out.2 (by omega)) ?_
  simp only [Act.put, List.setIfInBounds_toArray, List.set_cons_zero, List.set_cons_succ]
  refine Seq.call rfl rfl rfl rfl (by kernel_rfl) (fun w h => phas_q (k := 1000) HT.out (HZQ.out.more (by omega)) HLQ.out ⟨HCQ.out.1, by have := HCQ.out.2.1; omega, HCQ.out.2.2⟩ (Z_mx.out.more (by omega)) (Z_my.out.more (by omega)) HHB.out.1 (by omega) _ w h (h.blk (bk30, _, _) (by repeat (first | exact mC | apply mT))).2) ?_
  simp only [Act.put, List.setIfInBounds_toArray, List.set_cons_zero, List.set_cons_succ]
  refine Seq.pure rfl rfl (by intro w; go_simp; try first | with_reducible rfl | rfl) ?_
  simp only [Act.put, List.setIfInBounds_toArray, List.set_cons_zero, List.set_cons_succ]
  refine Seq.load rfl rfl rfl rfl (by repeat (first | exact mC | apply mT)) (n := 6) rfl (by kernel_rfl) ?_
  simp only [Act.put, List.setIfInBounds_toArray, List.set_cons_zero, List.set_cons_succ]
  refine Seq.call rfl rfl rfl rfl (by kernel_rfl) (fun w h => phas_q (k := 2) HT.out (HZP.out.more (by omega)) HL.out ⟨HCP.out.1, by have := HCP.out.2.1; omega, HCP.out.2.2⟩ (Z_gx.out.more (by omega)) (Z_gy.out.more (by omega)) HHB.out.2 (by omega) _ w h (h.blk (bk20, _, _) (by repeat (first | exact mC | apply mT))).2) ?_
  simp only [Act.put, List.setIfInBounds_toArray, List.set_cons_zero, List.set_cons_succ]
  refine Seq.pure rfl rfl (by intro w; go_simp; try first | with_reducible rfl | rfl) ?_
  simp only [Act.put, List.setIfInBounds_toArray, List.set_cons_zero, List.set_cons_succ]
  refine Seq.pure rfl rfl (by intro w; go_simp; try first | with_reducible rfl | rfl) ?_
  simp only [Act.put, List.setIfInBounds_toArray, List.set_cons_zero, List.set_cons_succ]
  refine Seq.pure rfl rfl (by intro w; go_simp; try first | with_reducible rfl | rfl) ?_
  simp only [Act.put, List.setIfInBounds_toArray, List.set_cons_zero, List.set_cons_succ]
  refine Seq.done fun ws5 hws => ?_
  have HS5 := hws.st
  clear HS4 hws
  go_wp2_with fail
  go_ret
  exact ⟨rfl, HS5.below⟩
end Go.Proofs.YtahmajbgfjinbaaDoor
