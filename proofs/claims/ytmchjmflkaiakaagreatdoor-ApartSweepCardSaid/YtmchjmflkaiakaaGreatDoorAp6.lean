/- Joined texts: Ap5 Ap6 Ap9. -/
import Derived.Test.YtmchjmflkaiakaaGreatDoorAp1
import Derived.Test.YtmchjmflkaiakaaGreatDoorPo6
import Derived.Deep.LoopGhost
/- a frame whose turn is the zero value (printed by lawvec.py). -/
set_option maxHeartbeats 4000000
set_option maxRecDepth 20000
namespace Go.Proofs.YtmchjmflkaiakaaGreatDoor
open Go.RowKit
set_option linter.unusedVariables false
set_option linter.unusedSimpArgs false
variable {W : World} {l : List Own}
theorem cmpraw_q (hT : Tab W) (w : World) (h : St W l w) : Rt 29 #[.agg #[.bool false, .string ⟨#[]⟩, .string ⟨#[]⟩], .agg #[.bool false, .string ⟨#[]⟩, .string ⟨#[]⟩]] w (.int .i64 0) := cmp_w (k := 2) (t1 := ⟨false, ⟨#[]⟩, ⟨#[]⟩⟩) (t2 := ⟨false, ⟨#[]⟩, ⟨#[]⟩⟩) hT rawZ0 rawZ0 (by decide +kernel) (by omega) w h
theorem minraw_q (hT : Tab W) (w : World) (h : St W l w) : Rt 63 #[.agg #[.bool false, .string ⟨#[]⟩, .string ⟨#[]⟩], .agg #[.bool false, .string ⟨#[]⟩, .string ⟨#[]⟩]] w (.agg (RC 0)) := by
 have HT := yh (tabS hT h); clear hT h
 go_enter Tryz.func63, Tryz.ntmps63
 have HS : St w [] w := St.start
 go_upto_region 0 with fail
 refine rgT [] HS ?_
 refine bX (#[.bool false, .string ⟨#[]⟩, .string ⟨#[]⟩]) ?_
 intro bk2 _ _ e2
 refine nZ ?_
 refine bX (#[.bool false, .string ⟨#[]⟩, .string ⟨#[]⟩]) ?_
 intro bk3 _ _ e3
 obtain ⟨_, _, e3⟩ := Reg.ne2 e3
 refine nZ ?_
 refine aL3 ?_
 intro bk4 _ _ e4
 obtain ⟨_, _, e4⟩ := Reg.ne2 e4
 obtain ⟨_, _, e4⟩ := Reg.ne2 e4
 refine nZ ?_
 refine dn3 bk2 bk3 bk4 fun _ HS1=>?_
 clear HS
 go_upto_region 1 with fail
 refine rgT [] HS1 ?_
 iterate 2 refine lV ?_
 refine cL (cmpraw_q HT.out) ?_
 refine pW ?_
 refine dnS fun _ HS2=>?_
 clear HS1
 go_upto_region 2 with fail
 have HPbk4 := HS2.p2
 refine wp_seq_text [] (StR.move (StR.no HPbk4)) ?_
 refine lV ?_
 refine cL fitraw_q ?_
 refine sV (RC_one _) ?_
 refine dn1 bk4 fun _ HS3=>?_
 clear HS2 HPbk4
 go_wp2_with fail
 exact rO HS3 ⟨rfl, HS3.below⟩
theorem tofraw_q (hT : Tab W) (w : World) (h : St W l w) : Rt 20 #[.agg #[.bool false, .string ⟨#[]⟩, .string ⟨#[]⟩]] w (.agg (TC false 0)) := by
 have HT := yh (tabS hT h); clear hT h
 go_enter Tryz.func20, Tryz.ntmps20
 have HS : St w [] w := St.start
 go_upto_region 0 with fail
 refine rgT [] HS ?_
 refine bX (#[.bool false, .string ⟨#[]⟩, .string ⟨#[]⟩]) ?_
 intro bk1 _ _ e1
 refine nZ ?_
 refine Seq.alloc rfl rfl rfl (z := .agg #[.bool false, .bool false, .string ⟨#[]⟩, .string ⟨#[]⟩]) (by kernel_rfl) rfl ?_
 intro bk2 _ _ e2
 obtain ⟨_, _, e2⟩ := Reg.ne2 e2
 refine nZ ?_
 refine Seq.done fun ws1 hws => ?_
 have HS1 : St w [(bk1, 27, #[.bool false, .string ⟨#[]⟩, .string ⟨#[]⟩]), (bk2, 46, #[.bool false, .bool false, .string ⟨#[]⟩, .string ⟨#[]⟩])] ws1 := hws.q2
 clear HS hws
 go_upto_region 1 with fail
 have HPbk2 := HS1.p1
 refine wp_seq_text [] (StR.move (StR.no HPbk2)) ?_
 iterate 2 refine lV ?_
 refine cL (minraw_q HT.out) ?_
 refine pV (.agg (TC false (0 : Rat))) (fun w => bld_Turn1 rfl rfl w) ?_
 refine sV (TC_one _ _) ?_
 refine dn1 bk2 fun _ HS2=>?_
 clear HS1 HPbk2
 go_wp2_with fail
 exact rO HS2 ⟨rfl, HS2.below⟩
theorem tfitraw_q (hT : Tab W) (w : World) (h : St W l w) : Rt 145 #[.agg #[.bool false, .bool false, .string ⟨#[]⟩, .string ⟨#[]⟩]] w (.agg (TC false 0)) := by
 have HT := yh (tabS hT h); clear hT h
 go_enter Tryz.func145, Tryz.ntmps145
 have HS : St w [] w := St.start
 go_upto_region 0 with fail
 refine rgT [] HS ?_
 refine bX (#[.bool false, .bool false, .string ⟨#[]⟩, .string ⟨#[]⟩]) ?_
 intro bk1 _ _ e1
 refine nZ ?_
 refine Seq.alloc rfl rfl rfl (z := .agg #[.bool false, .bool false, .string ⟨#[]⟩, .string ⟨#[]⟩]) (by kernel_rfl) rfl ?_
 intro bk2 _ _ e2
 obtain ⟨_, _, e2⟩ := Reg.ne2 e2
 refine nZ ?_
 refine Seq.done fun ws1 hws => ?_
 have HS1 : St w [(bk1, 46, #[.bool false, .bool false, .string ⟨#[]⟩, .string ⟨#[]⟩]), (bk2, 46, #[.bool false, .bool false, .string ⟨#[]⟩, .string ⟨#[]⟩])] ws1 := hws.q2
 clear HS hws
 go_upto_region 1 with fail
 refine rgT [] HS1 ?_
 refine pV (.pointer (some ⟨bk1, 0, none⟩)) (by intro w; go_simp; try first | with_reducible rfl | rfl) ?_
 refine Seq.loadCell rfl rfl rfl rfl (by repeat first|exact mC|apply mT) (v := .bool false) (by first | rfl | (simp [VC, TC, FC, BC, RC]; done)) (by kernel_rfl) rfl (nZ ?_)
 refine dnS fun _ HS2=>?_
 clear HS1
 go_upto_region 3 with fail
 have HPbk2 := HS2.p1
 refine wp_seq_text [] (StR.move (StR.no HPbk2)) ?_
 refine pV (.pointer (some ⟨bk1, 1, none⟩)) (by intro w; go_simp; try first | with_reducible rfl | rfl) ?_
 refine Seq.loadAt rfl rfl rfl rfl (by repeat first|exact mC|apply mT) (n := 3) (cs' := #[.bool false, .string ⟨#[]⟩, .string ⟨#[]⟩]) (by first | decide | exact Nat.le_refl _ | (simp [VC, TC, FC, BC, RC]; done)) (by kernel_rfl) (by first | rfl | (simp [VC, TC, FC, BC, RC]; done)) (nZ ?_)
 refine cL (tofraw_q HT.out) ?_
 refine sV (TC_one _ _) ?_
 refine dn1 bk2 fun _ HS3=>?_
 clear HS2 HPbk2
 go_wp2_with fail
 exact rO HS3 ⟨rfl, HS3.below⟩
theorem tfitz_q {z : Rat} (hT : Tab W) (hz : z = 0) (w : World) (h : St W l w) : Rt 145 #[.agg #[.bool false, .bool false, .string ⟨#[]⟩, .string ⟨#[]⟩]] w (.agg (TC false z)) := by
 subst hz; exact tfitraw_q hT w h
theorem cosraw_q (hT : Tab W) (w : World) (h : St W l w) : Rt 146 #[.agg #[.bool false, .bool false, .string ⟨#[]⟩, .string ⟨#[]⟩]] w (.agg (RC (cosT false 0))) := by
 have HT := yh (tabS hT h); clear hT h
 obtain ⟨z, hz⟩ : ∃ z : Rat, z = 0 := ⟨_, rfl⟩
 have Z_z := yh (show Rz 2 z by rw [hz]; exact Rz.zero2)
 have HZ := yh hz
 have HC := yh (show cosT false 0 = (1 - z * z) / (1 + z * z) by rw [hz]; rfl)
 clear hz
 go_enter Tryz.func146, Tryz.ntmps146
 have HS : St w [] w := St.start
 go_upto_region 0 with fail
 refine rgT [] HS ?_
 refine bX (#[.bool false, .bool false, .string ⟨#[]⟩, .string ⟨#[]⟩]) ?_
 intro bk1 _ _ e1
 refine nZ ?_
 refine aL3 ?_
 intro bk2 _ _ e2
 obtain ⟨_, _, e2⟩ := Reg.ne2 e2
 refine nZ ?_
 refine Seq.done fun ws1 hws => ?_
 have HS1 : St w [(bk1, 46, #[.bool false, .bool false, .string ⟨#[]⟩, .string ⟨#[]⟩]), (bk2, 27, #[.bool false, .string ⟨#[]⟩, .string ⟨#[]⟩])] ws1 := hws.q2
 clear HS hws
 go_upto_region 1 with fail
 refine wp_seq_text [0] (StR.move (StR.no HS1)) ?_
 refine gV ?_
 refine cL (tfitz_q HT.out HZ.out) ?_
 refine sV (TC_one _ _) ?_
 refine dn1 bk1 fun _ HS2=>?_
 clear HS1
 go_upto_region 2 with fail
 refine rgT [] HS2 ?_
 refine pV (.pointer (some ⟨bk1, 0, none⟩)) (by intro w; go_simp; try first | with_reducible rfl | rfl) ?_
 refine Seq.loadCell rfl rfl rfl rfl (by repeat first|exact mC|apply mT) (v := .bool false) (by first | rfl | (simp [VC, TC, FC, BC, RC]; done)) (by kernel_rfl) rfl (nZ ?_)
 refine dnS fun _ HS3=>?_
 clear HS2
 go_upto_region 4 with fail
 refine rgT [] HS3 ?_
 refine pV (.pointer (some ⟨bk1, 1, none⟩)) (by intro w; go_simp; try first | with_reducible rfl | rfl) ?_
 refine Seq.loadAt rfl rfl rfl rfl (by repeat first|exact mC|apply mT) (n := 3) (cs' := RC z) (by first | decide | exact Nat.le_refl _ | (simp [VC, TC, FC, BC, RC]; done)) (by kernel_rfl) (by first | rfl | (simp [VC, TC, FC, BC, RC]; done)) (nZ ?_)
 refine pV (.pointer (some ⟨bk1, 1, none⟩)) (by intro w; go_simp; try first | with_reducible rfl | rfl) ?_
 refine Seq.loadAt rfl rfl rfl rfl (by repeat first|exact mC|apply mT) (n := 3) (cs' := RC z) (by first | decide | exact Nat.le_refl _ | (simp [VC, TC, FC, BC, RC]; done)) (by kernel_rfl) (by first | rfl | (simp [VC, TC, FC, BC, RC]; done)) (nZ ?_)
 refine cX rfl rfl (mul_q (k := 2) HT.out (zm Z_z) (zm Z_z) rfl (by omega)) ?_
 refine aL3 ?_
 intro bk3 _ _ e3
 refine nZ ?_
 refine sV (RC_one _) ?_
 refine dn1 bk3 fun _ HS4=>?_
 clear HS3
 go_upto_region 5 with fail
 refine rgW [] HS4 ?_
 refine cX rfl rfl (of_q HT.out (by omega) (by omega) (show ((1 : Int) : Rat) = (1 : Rat) from rfl)) ?_
 refine lV ?_
 refine cX rfl rfl (sub_q (k := 4) HT.out ((show Rz 2 (1 : Rat) from Rz.lit (z := 1) rfl (by decide)).more (by omega)) ((Z_z.out.mul Z_z.out).more (by omega)) rfl (by omega)) ?_
 refine cX rfl rfl (of_q HT.out (by omega) (by omega) (show ((1 : Int) : Rat) = (1 : Rat) from rfl)) ?_
 refine lV ?_
 refine cX rfl rfl (add_q (k := 4) HT.out ((show Rz 2 (1 : Rat) from Rz.lit (z := 1) rfl (by decide)).more (by omega)) ((Z_z.out.mul Z_z.out).more (by omega)) rfl (by omega)) ?_
 refine cX rfl rfl (div_q (k := 13) HT.out (((show Rz 2 (1 : Rat) from Rz.lit (z := 1) rfl (by decide)).sub (Z_z.out.mul Z_z.out)).more (by omega)) (((show Rz 2 (1 : Rat) from Rz.lit (z := 1) rfl (by decide)).add (Z_z.out.mul Z_z.out)).more (by omega)) (one_sq z) rfl (by omega)) ?_
 refine pW ?_
 refine pV (.agg (RC (((1 : Rat) - (z * z)) / ((1 : Rat) + (z * z))))) (fun w => rfl) ?_
 refine pV (.int .i64 0) (fun w => rfl) ?_
 refine aL3 ?_
 intro bk4 _ _ e4
 refine nZ ?_
 refine sV (RC_one _) ?_
 refine pW ?_
 refine dn1 bk4 fun _ HS5=>?_
 clear HS4
 go_upto_region 6 with fail
 have HPbk2 := HS5.p3
 refine wp_seq_text [] (StR.move (StR.no HPbk2)) ?_
 refine lV ?_
 refine sV (RC_one _) ?_
 refine dn1 bk2 fun _ HS6=>?_
 clear HS5 HPbk2
 go_wp2_with fail
 exact ret_own rfl rfl rfl HS6 (by repeat first|exact mC|apply mT) (n := 3) rfl (by kernel_rfl) ⟨by rw [HC.out], HS6.below⟩
theorem sinraw_q (hT : Tab W) (w : World) (h : St W l w) : Rt 114 #[.agg #[.bool false, .bool false, .string ⟨#[]⟩, .string ⟨#[]⟩]] w (.agg (RC (sinT 0))) := by
 have HT := yh (tabS hT h); clear hT h
 obtain ⟨z, hz⟩ : ∃ z : Rat, z = 0 := ⟨_, rfl⟩
 have Z_z := yh (show Rz 2 z by rw [hz]; exact Rz.zero2)
 have HZ := yh hz
 have HC := yh (show sinT 0 = sinT z by rw [hz])
 clear hz
 go_enter Tryz.func114, Tryz.ntmps114
 have HS : St w [] w := St.start
 go_upto_region 0 with fail
 refine rgT [] HS ?_
 refine bX (#[.bool false, .bool false, .string ⟨#[]⟩, .string ⟨#[]⟩]) ?_
 intro bk1 _ _ e1
 refine nZ ?_
 refine aL3 ?_
 intro bk2 _ _ e2
 obtain ⟨_, _, e2⟩ := Reg.ne2 e2
 refine nZ ?_
 refine Seq.done fun ws1 hws => ?_
 have HS1 : St w [(bk1, 46, #[.bool false, .bool false, .string ⟨#[]⟩, .string ⟨#[]⟩]), (bk2, 27, #[.bool false, .string ⟨#[]⟩, .string ⟨#[]⟩])] ws1 := hws.q2
 clear HS hws
 go_upto_region 1 with fail
 refine wp_seq_text [0] (StR.move (StR.no HS1)) ?_
 refine gV ?_
 refine cL (tfitz_q HT.out HZ.out) ?_
 refine sV (TC_one _ _) ?_
 refine dn1 bk1 fun _ HS2=>?_
 clear HS1
 go_upto_region 2 with fail
 refine rgW [] HS2 ?_
 refine pV (.pointer (some ⟨bk1, 1, none⟩)) (by intro w; go_simp; try first | with_reducible rfl | rfl) ?_
 refine Seq.loadAt rfl rfl rfl rfl (by repeat first|exact mC|apply mT) (n := 3) (cs' := RC z) (by first | decide | exact Nat.le_refl _ | (simp [VC, TC, FC, BC, RC]; done)) (by kernel_rfl) (by first | rfl | (simp [VC, TC, FC, BC, RC]; done)) (nZ ?_)
 refine pV (.pointer (some ⟨bk1, 1, none⟩)) (by intro w; go_simp; try first | with_reducible rfl | rfl) ?_
 refine Seq.loadAt rfl rfl rfl rfl (by repeat first|exact mC|apply mT) (n := 3) (cs' := RC z) (by first | decide | exact Nat.le_refl _ | (simp [VC, TC, FC, BC, RC]; done)) (by kernel_rfl) (by first | rfl | (simp [VC, TC, FC, BC, RC]; done)) (nZ ?_)
 refine cX rfl rfl (add_q (k := 2) HT.out (zm Z_z) (zm Z_z) rfl (by omega)) ?_
 refine cX rfl rfl (of_q HT.out (by omega) (by omega) (show ((1 : Int) : Rat) = (1 : Rat) from rfl)) ?_
 refine pV (.pointer (some ⟨bk1, 1, none⟩)) (by intro w; go_simp; try first | with_reducible rfl | rfl) ?_
 refine Seq.loadAt rfl rfl rfl rfl (by repeat first|exact mC|apply mT) (n := 3) (cs' := RC z) (by first | decide | exact Nat.le_refl _ | (simp [VC, TC, FC, BC, RC]; done)) (by kernel_rfl) (by first | rfl | (simp [VC, TC, FC, BC, RC]; done)) (nZ ?_)
 refine pV (.pointer (some ⟨bk1, 1, none⟩)) (by intro w; go_simp; try first | with_reducible rfl | rfl) ?_
 refine Seq.loadAt rfl rfl rfl rfl (by repeat first|exact mC|apply mT) (n := 3) (cs' := RC z) (by first | decide | exact Nat.le_refl _ | (simp [VC, TC, FC, BC, RC]; done)) (by kernel_rfl) (by first | rfl | (simp [VC, TC, FC, BC, RC]; done)) (nZ ?_)
 refine cX rfl rfl (mul_q (k := 2) HT.out (zm Z_z) (zm Z_z) rfl (by omega)) ?_
 refine cX rfl rfl (add_q (k := 4) HT.out ((show Rz 2 (1 : Rat) from Rz.lit (z := 1) rfl (by decide)).more (by omega)) ((Z_z.out.mul Z_z.out).more (by omega)) rfl (by omega)) ?_
 refine cX rfl rfl (div_q (k := 13) HT.out ((Z_z.out.add Z_z.out).more (by omega)) (((show Rz 2 (1 : Rat) from Rz.lit (z := 1) rfl (by decide)).add (Z_z.out.mul Z_z.out)).more (by omega)) (one_sq z) rfl (by omega)) ?_
 refine pW ?_
 refine pV (.agg (RC (sinT z))) (fun w => rfl) ?_
 refine pV (.int .i64 0) (fun w => rfl) ?_
 refine aL3 ?_
 intro bk3 _ _ e3
 refine nZ ?_
 refine sV (RC_one _) ?_
 refine pW ?_
 refine dn1 bk3 fun _ HS3=>?_
 clear HS2
 go_upto_region 3 with fail
 have HPbk2 := HS3.p2
 refine wp_seq_text [] (StR.move (StR.no HPbk2)) ?_
 refine lV ?_
 refine sV (RC_one _) ?_
 refine dn1 bk2 fun _ HS4=>?_
 clear HS3 HPbk2
 go_wp2_with fail
 exact ret_own rfl rfl rfl HS4 (by repeat first|exact mC|apply mT) (n := 3) rfl (by kernel_rfl) ⟨by rw [HC.out], HS4.below⟩
theorem vturnraw_q {k : Nat} {v1 v2 : Rat} (hT : Tab W) (Zv1 : Rz k v1) (Zv2 : Rz k v2) (hk : k ≤ 1000000000) (w : World) (h : St W l w) : Rt 115 #[.agg (VC v1 v2), .agg #[.bool false, .bool false, .string ⟨#[]⟩, .string ⟨#[]⟩]] w (.agg (VC (v1 * cosT false 0 - v2 * sinT 0) (v1 * sinT 0 + v2 * cosT false 0))) := by
 have HT := yh (tabS hT h); clear hT h
 have Z_v1 := yh Zv1; clear Zv1
 have Z_v2 := yh Zv2; clear Zv2
 go_enter Tryz.func115, Tryz.ntmps115
 have HS : St w [] w := St.start
 go_upto_region 0 with fail
 refine rgT [] HS ?_
 refine bX (VC v1 v2) ?_
 intro bk2 _ _ e2
 refine nZ ?_
 refine bX (#[.bool false, .bool false, .string ⟨#[]⟩, .string ⟨#[]⟩]) ?_
 intro bk3 _ _ e3
 obtain ⟨_, _, e3⟩ := Reg.ne2 e3
 refine nZ ?_
 refine aL6 ?_
 intro bk4 _ _ e4
 obtain ⟨_, _, e4⟩ := Reg.ne2 e4
 obtain ⟨_, _, e4⟩ := Reg.ne2 e4
 refine nZ ?_
 refine dn3 bk2 bk3 bk4 fun _ HS1=>?_
 clear HS
 go_upto_region 1 with fail
 refine rgW [] HS1 ?_
 refine lV ?_
 refine cL (cosraw_q HT.out) ?_
 refine lV ?_
 refine cL (sinraw_q HT.out) ?_
 refine pV (.agg (VC (cosT false 0) (sinT 0))) (fun w => bld_Vec rfl rfl rfl w) ?_
 refine aL6 ?_
 intro bk5 _ _ e5
 refine nZ ?_
 refine sV (VC_one _ _) ?_
 refine dn1 bk5 fun _ HS2=>?_
 clear HS1
 go_upto_region 2 with fail
 have HPbk4 := HS2.p3
 refine wS [] (Reg.fin.put Reg.fin_no _ _) (StR.move (StR.no HPbk4)) ?_
 refine pV (.pointer (some ⟨bk2, 0, none⟩)) (by intro w; go_simp; try first | with_reducible rfl | rfl) ?_
 refine Seq.loadAt rfl rfl rfl rfl (by repeat first|exact mC|apply mT) (n := 3) (cs' := RC v1) (by first | decide | exact Nat.le_refl _ | (simp [VC, TC, FC, BC, RC]; done)) (by kernel_rfl) (by first | rfl | (simp [VC, TC, FC, BC, RC]; done)) (nZ ?_)
 refine pV (.pointer (some ⟨bk5, 0, none⟩)) (by intro w; go_simp; try first | with_reducible rfl | rfl) ?_
 refine Seq.loadAt rfl rfl rfl rfl (by repeat first|exact mC|apply mT) (n := 3) (cs' := RC (cosT false 0)) (by first | decide | exact Nat.le_refl _ | (simp [VC, TC, FC, BC, RC]; done)) (by kernel_rfl) (by first | rfl | (simp [VC, TC, FC, BC, RC]; done)) (nZ ?_)
 refine cX rfl rfl (mul_q (k := (1 * k + 26)) HT.out (zm Z_v1) ((Rz.cosT false Rz.zero2).more (by omega)) rfl (by omega)) ?_
 refine pV (.pointer (some ⟨bk2, 3, none⟩)) (by intro w; go_simp; try first | with_reducible rfl | rfl) ?_
 refine Seq.loadAt rfl rfl rfl rfl (by repeat first|exact mC|apply mT) (n := 3) (cs' := RC v2) (by first | decide | exact Nat.le_refl _ | (simp [VC, TC, FC, BC, RC]; done)) (by kernel_rfl) (by first | rfl | (simp [VC, TC, FC, BC, RC]; done)) (nZ ?_)
 refine pV (.pointer (some ⟨bk5, 3, none⟩)) (by intro w; go_simp; try first | with_reducible rfl | rfl) ?_
 refine Seq.loadAt rfl rfl rfl rfl (by repeat first|exact mC|apply mT) (n := 3) (cs' := RC (sinT 0)) (by first | decide | exact Nat.le_refl _ | (simp [VC, TC, FC, BC, RC]; done)) (by kernel_rfl) (by first | rfl | (simp [VC, TC, FC, BC, RC]; done)) (nZ ?_)
 refine cX rfl rfl (mul_q (k := (1 * k + 26)) HT.out (zm Z_v2) ((Rz.sinT Rz.zero2).more (by omega)) rfl (by omega)) ?_
 refine cX rfl rfl (sub_q (k := (1 * k + 26)) HT.out ((Z_v1.out.mul (Rz.cosT false Rz.zero2)).more (by omega)) ((Z_v2.out.mul (Rz.sinT Rz.zero2)).more (by omega)) rfl (by omega)) ?_
 refine pV (.pointer (some ⟨bk2, 0, none⟩)) (by intro w; go_simp; try first | with_reducible rfl | rfl) ?_
 refine Seq.loadAt rfl rfl rfl rfl (by repeat first|exact mC|apply mT) (n := 3) (cs' := RC v1) (by first | decide | exact Nat.le_refl _ | (simp [VC, TC, FC, BC, RC]; done)) (by kernel_rfl) (by first | rfl | (simp [VC, TC, FC, BC, RC]; done)) (nZ ?_)
 refine pV (.pointer (some ⟨bk5, 3, none⟩)) (by intro w; go_simp; try first | with_reducible rfl | rfl) ?_
 refine Seq.loadAt rfl rfl rfl rfl (by repeat first|exact mC|apply mT) (n := 3) (cs' := RC (sinT 0)) (by first | decide | exact Nat.le_refl _ | (simp [VC, TC, FC, BC, RC]; done)) (by kernel_rfl) (by first | rfl | (simp [VC, TC, FC, BC, RC]; done)) (nZ ?_)
 refine cX rfl rfl (mul_q (k := (1 * k + 26)) HT.out (zm Z_v1) ((Rz.sinT Rz.zero2).more (by omega)) rfl (by omega)) ?_
 refine pV (.pointer (some ⟨bk2, 3, none⟩)) (by intro w; go_simp; try first | with_reducible rfl | rfl) ?_
 refine Seq.loadAt rfl rfl rfl rfl (by repeat first|exact mC|apply mT) (n := 3) (cs' := RC v2) (by first | decide | exact Nat.le_refl _ | (simp [VC, TC, FC, BC, RC]; done)) (by kernel_rfl) (by first | rfl | (simp [VC, TC, FC, BC, RC]; done)) (nZ ?_)
 refine pV (.pointer (some ⟨bk5, 0, none⟩)) (by intro w; go_simp; try first | with_reducible rfl | rfl) ?_
 refine Seq.loadAt rfl rfl rfl rfl (by repeat first|exact mC|apply mT) (n := 3) (cs' := RC (cosT false 0)) (by first | decide | exact Nat.le_refl _ | (simp [VC, TC, FC, BC, RC]; done)) (by kernel_rfl) (by first | rfl | (simp [VC, TC, FC, BC, RC]; done)) (nZ ?_)
 refine cX rfl rfl (mul_q (k := (1 * k + 26)) HT.out (zm Z_v2) ((Rz.cosT false Rz.zero2).more (by omega)) rfl (by omega)) ?_
 refine cX rfl rfl (add_q (k := (1 * k + 26)) HT.out ((Z_v1.out.mul (Rz.sinT Rz.zero2)).more (by omega)) ((Z_v2.out.mul (Rz.cosT false Rz.zero2)).more (by omega)) rfl (by omega)) ?_
 refine pV (.agg (VC ((v1 * (cosT false 0)) - (v2 * (sinT 0))) ((v1 * (sinT 0)) + (v2 * (cosT false 0))))) (fun w => bld_Vec rfl rfl rfl w) ?_
 refine sV (VC_one _ _) ?_
 refine dn1 bk4 fun _ HS3=>?_
 clear HS2 HPbk4
 go_wp2_with fail
 exact rO HS3 ⟨rfl, HS3.below⟩
theorem fputraw_q {k : Nat} {a1 a2 v1 v2 z0 z1 : Rat} (hT : Tab W) (Za1 : Rz k a1) (Za2 : Rz k a2) (Zv1 : Rz k v1) (Zv2 : Rz k v2) (hz0 : a1 + (v1 * cosT false 0 - v2 * sinT 0) = z0) (hz1 : a2 + (v1 * sinT 0 + v2 * cosT false 0) = z1) (hk : k ≤ 1000000000) (w : World) (h : St W l w) : Rt 69 #[.agg (#[.bool (decide (Rat.num a1 < 0)), .string (S (Rat.num a1).natAbs), .string (S (Rat.den a1)), .bool (decide (Rat.num a2 < 0)), .string (S (Rat.num a2).natAbs), .string (S (Rat.den a2)), .bool false, .bool false, .string ⟨#[]⟩, .string ⟨#[]⟩]), .agg (VC v1 v2)] w (.agg (VC z0 z1)) := by
 have HT := yh (tabS hT h); clear hT h
 subst hz0 hz1
 have Z_a1 := yh Za1; clear Za1
 have Z_a2 := yh Za2; clear Za2
 have Z_v1 := yh Zv1; clear Zv1
 have Z_v2 := yh Zv2; clear Zv2
 go_enter Tryz.func69, Tryz.ntmps69
 have HS : St w [] w := St.start
 go_upto_region 0 with fail
 refine rgT [] HS ?_
 refine bX (#[.bool (decide (Rat.num a1 < 0)), .string (S (Rat.num a1).natAbs), .string (S (Rat.den a1)), .bool (decide (Rat.num a2 < 0)), .string (S (Rat.num a2).natAbs), .string (S (Rat.den a2)), .bool false, .bool false, .string ⟨#[]⟩, .string ⟨#[]⟩]) ?_
 intro bk2 _ _ e2
 refine nZ ?_
 refine bX (VC v1 v2) ?_
 intro bk3 _ _ e3
 obtain ⟨_, _, e3⟩ := Reg.ne2 e3
 refine nZ ?_
 refine aL6 ?_
 intro bk4 _ _ e4
 obtain ⟨_, _, e4⟩ := Reg.ne2 e4
 obtain ⟨_, _, e4⟩ := Reg.ne2 e4
 refine nZ ?_
 refine dn3 bk2 bk3 bk4 fun _ HS1=>?_
 clear HS
 go_upto_region 1 with fail
 have HPbk4 := HS1.p2
 refine wS [] (Reg.fin.put Reg.fin_no _ _) (StR.move (StR.no HPbk4)) ?_
 refine pV (.pointer (some ⟨bk2, 0, none⟩)) (by intro w; go_simp; try first | with_reducible rfl | rfl) ?_
 refine Seq.loadAt rfl rfl rfl rfl (by repeat first|exact mC|apply mT) (n := 6) (cs' := VC a1 a2) (by first | decide | exact Nat.le_refl _ | (simp [VC, TC, FC, BC, RC]; done)) (by kernel_rfl) (by first | rfl | (simp [VC, TC, FC, BC, RC]; done)) (nZ ?_)
 refine lV ?_
 refine pV (.pointer (some ⟨bk2, 6, none⟩)) (by intro w; go_simp; try first | with_reducible rfl | rfl) ?_
 refine Seq.loadAt rfl rfl rfl rfl (by repeat first|exact mC|apply mT) (n := 4) (cs' := #[.bool false, .bool false, .string ⟨#[]⟩, .string ⟨#[]⟩]) (by first | decide | exact Nat.le_refl _ | (simp [VC, TC, FC, BC, RC]; done)) (by kernel_rfl) (by first | rfl | (simp [VC, TC, FC, BC, RC]; done)) (nZ ?_)
 refine cX rfl rfl (vturnraw_q (k := k) HT.out Z_v1.out Z_v2.out (by omega)) ?_
 refine cX rfl rfl (vadd_q (k := (4 * k + 105)) HT.out (zm Z_a1) (zm Z_a2) (((Z_v1.out.mul (Rz.cosT false Rz.zero2)).sub (Z_v2.out.mul (Rz.sinT Rz.zero2))).more (by omega)) (((Z_v1.out.mul (Rz.sinT Rz.zero2)).add (Z_v2.out.mul (Rz.cosT false Rz.zero2))).more (by omega))  rfl rfl (by omega)) ?_
 refine sV (VC_one _ _) ?_
 refine dn1 bk4 fun _ HS2=>?_
 clear HS1 HPbk4
 go_wp2_with fail
 exact rO HS2 ⟨rfl, HS2.below⟩
theorem flistraw_q {k n : Nat} {a1 a2 : Rat} {ps qs : Pts} {W : World} {l : List Own} (hT : Tab W) (Za1 : Rz k a1) (Za2 : Rz k a2) (hz : Pz k ps) (hl : ps.length = n) (hn : n ≤ 1000000) (hq : mvP (cosT false 0) (sinT 0) a1 a2 ps = qs) (hk : k ≤ 10000000) (g : Nat) (w : World) (h : St W l w) (hg : Blk w g 29 (PC ps)) :
  Calls Tryz.prog 19 #[.agg (#[.bool (decide (Rat.num a1 < 0)), .string (S (Rat.num a1).natAbs), .string (S (Rat.den a1)), .bool (decide (Rat.num a2 < 0)), .string (S (Rat.num a2).natAbs), .string (S (Rat.den a2)), .bool false, .bool false, .string ⟨#[]⟩, .string ⟨#[]⟩]), .slice (some ⟨g, 0, none⟩) n n] w fun e w' => ∃ p, w.heap.size ≤ p ∧ e = .returned (mk (some n) p) ∧ Below w.heap.size w w' ∧ Blk w' p 29 (PC qs) := by
 have HT := yh (tabS hT h); clear hT h
 have HG := yh hg; clear hg
 have HZP := yh (show Pz (1 * k + 0) ps by rw [Nat.one_mul]; exact hz); clear hz
 have HQL := yh (show qs.length = n by rw [← hq, mvP_len]; exact hl)
 have HL := yh hl; clear hl
 have HQ := yh hq; clear hq
 have HN := yh hn; clear hn
 have Z_a1 := yh Za1; clear Za1
 have Z_a2 := yh Za2; clear Za2
 go_enter Tryz.func19, Tryz.ntmps19
 have HS : St w [] w := St.start
 go_upto_region 0 with fail
 refine rgT [] HS ?_
 refine bX (#[.bool (decide (Rat.num a1 < 0)), .string (S (Rat.num a1).natAbs), .string (S (Rat.den a1)), .bool (decide (Rat.num a2 < 0)), .string (S (Rat.num a2).natAbs), .string (S (Rat.den a2)), .bool false, .bool false, .string ⟨#[]⟩, .string ⟨#[]⟩]) ?_
 intro bk2 _ _ e2
 refine nZ ?_
 refine pW ?_
 refine dn1 bk2 fun _ HS1=>?_
 clear HS
 go_upto_region 1 with fail
 refine rgT [] HS1 ?_
 refine pW ?_
 refine pV (.int .i64 (n : Int)) (by intro w; go_simp; try first | with_reducible rfl | rfl) ?_
 refine Seq.slice (n := n) (e := 29) (cs := Mx qs 0 n) rfl rfl (fun w => mkV_n qs n HN.out rfl rfl rfl w) ?_
 intro bk10 _ _ e10
 refine nZ ?_
 refine pW ?_
 refine dn1 bk10 fun _ HS2=>?_
 clear HS1
 go_upto_region 2 with fail
 refine rgT [] HS2 ?_
 refine pW ?_
 refine pV (.int .i64 (n : Int)) (by intro w; go_simp; try first | with_reducible rfl | rfl) ?_
 refine pW ?_
 refine dnS fun _ HS3=>?_
 clear HS2
 go_wp2_with fail
 go_loopg [13] n (fun kk s13 wr => ∃ i : Nat, kk = n - i ∧ s13 = .int .i64 (i : Int) ∧ i ≤ n ∧ Hid (St w [(bk10, 29, Mx qs i n), (bk2, 50, #[.bool (decide (Rat.num a1 < 0)), .string (S (Rat.num a1).natAbs), .string (S (Rat.den a1)), .bool (decide (Rat.num a2 < 0)), .string (S (Rat.num a2).natAbs), .string (S (Rat.den a2)), .bool false, .bool false, .string ⟨#[]⟩, .string ⟨#[]⟩])] wr))
 case atStart => exact ⟨0, rfl, rfl, by omega, yh HS3⟩
 case round =>
  obtain ⟨i, hgk, rfl, hin, hS⟩ := hrel
  have HGK := yh hgk; clear hgk
  have HR := hS.out; clear hS
  by_cases hc : i < n
  ·obtain ⟨i1, hi1⟩ : ∃ i1 : Nat, i1 = i + 1 := ⟨_, rfl⟩
   have HI1 := yh (show IntKind.i64.wrap ((i : Int) + 1) = (i1 : Int) ∧ n - i1 < n - i ∧ i1 ≤ n ∧ i1 = i + 1 from ⟨by have := HN.out; rw [i64_s _ (by omega) (by omega)]; omega, by omega, by omega, hi1⟩)
   have HC := yh hc
   have HPX := yh (show a1 + (px ps i * cosT false 0 - py ps i * sinT 0) = px qs i ∧ a2 + (px ps i * sinT 0 + py ps i * cosT false 0) = py qs i from
    ⟨by rw [← HQ.out, px_mv (lt_of_pts HL.out hc)]; rfl, by rw [← HQ.out, py_mv (lt_of_pts HL.out hc)]; rfl⟩)
   clear hc hin hi1
   go_upto_region 3 with fail
   refine rgT [] HR ?_
   refine pV (.bool true) (by intro w; go_simp <;> (first | (rw [HC.out]; done) | exact HC.out | (simp [HC.out]; done))) ?_
   refine dnS fun ws4 HS4=>?_
   clear HR
   go_upto_region 4 with fail
   refine rgT [] HS4 ?_
   refine pW ?_
   refine iX 6 i HC.out ?_
   refine lF HG.out (VC (px ps i) (py ps i)) (PC_room (lt_of_pts HL.out HC.out)) (PC_at (lt_of_pts HL.out HC.out)) ?_
   refine aL6 ?_
   intro bk7 _ _ e7
   refine nZ ?_
   refine pW ?_
   refine sV (VC_one _ _) ?_
   refine dn1 bk7 fun ws5 HS5=>?_
   clear HS4
   go_upto_region 5 with fail
   have HPbk10 := HS5.p1
   refine wp_seq_text [3000000] (StR.move (StR.no HPbk10)) ?_
   iterate 2 refine pW ?_
   iterate 2 refine lV ?_
   refine cX rfl rfl (fputraw_q (k := 1 * k + 0) HT.out (zm Z_a1) (zm Z_a2) (HZP.out.x (lt_of_pts HL.out HC.out)) (HZP.out.y (lt_of_pts HL.out HC.out)) HPX.out.1 HPX.out.2 (by omega)) ?_
   refine iX 6 i HC.out ?_
   refine Seq.storeAt (v := .agg (VC (px qs i) (py qs i))) rfl rfl rfl rfl rfl (by repeat first|exact rS|refine rN ‹_› ?_) (by have := HC.out; rw [Mx_size]; show 6 * i + 6 ≤ 6 * n; omega) (by show _ = some 6; kernel_rfl) (VC_one _ _) (Mx_put qs HC.out) (nZ ?_)
   refine dn1 bk10 fun _ HS6=>?_
   clear HS5 HPbk10
   go_upto_region 6 with fail
   refine rgT [] HS6 ?_
   refine pV (.int .i64 (i1 : Int)) (by intro w; go_simp <;> (first | (rw [HI1.out.1]; done) | exact HI1.out.1 | (simp [HI1.out.1]; done))) ?_
   refine pW ?_
   refine dnS fun _ HS7=>?_
   clear HS6
   rw [← HI1.out.2.2.2] at HS7
   go_wp2_with fail
   go_roundg (n - i1)
   case measure => rw [HGK.out]; exact HI1.out.2.1
   case rel => exact ⟨i1, rfl, rfl, HI1.out.2.2.1, yh (HS7.sub (.cons_cons _ (.cons _ (.refl _))))⟩
  ·have HIN := yh (show i = n by omega)
   have HC := yh (show n ≤ i by omega)
   clear hc hin
   go_upto_region 3 with fail
   refine rgT [] HR ?_
   refine pV (.bool false) (by intro w; go_simp <;> (first | (rw [HC.out]; done) | exact HC.out | (simp [HC.out]; done))) ?_
   refine dnS fun _ HS4=>?_
   clear HR
   go_upto_region 7 with fail
   refine rgT [] HS4 ?_
   iterate 2 refine pW ?_
   refine dnS fun _ HS5=>?_
   clear HS4
   go_wp2_with fail
   go_ret
   have hb := (HS5.blk (bk10, _, _) (by repeat first|exact mC|apply mT))
   exact ⟨_, hb.1, rfl, HS5.below, by have := hb.2; rw [HIN.out, Mx_all HQL.out] at this; exact this⟩
theorem bld_Frame0 {o : Oper} {a : Act} {X : Operand} {x y : Rat} (ho : o.op = .build 50 #[(0, X)]) (hX : a.eval X = .agg (VC x y)) (w : World) : (execOp a.eval o).run Tryz.prog w = .ok (.value (.agg (#[.bool (decide (Rat.num x < 0)), .string (S (Rat.num x).natAbs), .string (S (Rat.den x)), .bool (decide (Rat.num y < 0)), .string (S (Rat.num y).natAbs), .string (S (Rat.den y)), .bool false, .bool false, .string ⟨#[]⟩, .string ⟨#[]⟩]))) w := by
 unfold VC at hX
 unfold execOp
 simp only [ho, List.map_toArray, List.map_cons, List.map_nil, hX]
 go_simp
open List (setIfInBounds_toArray set_cons_zero set_cons_succ)
theorem valid_q {k : Nat} {a0 a1 a2 a3 : Rat} {W : World} {l : List Own} (hT : Tab W) (Za0 : Rz k a0) (Za1 : Rz k a1) (Za2 : Rz k a2) (Za3 : Rz k a3) (hx : a0 ≤ a2) (hy : a1 ≤ a3) (hk : k ≤ 1000000000) (w : World) (h : St W l w) : Rt 100 #[.agg (BC a0 a1 a2 a3)] w (.bool true) := by
 have HT := yh (tabS hT h); clear hT h
 have Z_a0 := yh Za0; clear Za0
 have Z_a1 := yh Za1; clear Za1
 have Z_a2 := yh Za2; clear Za2
 have Z_a3 := yh Za3; clear Za3
 obtain ⟨v1, hv1, r1⟩ : ∃ z, cmpQ a0 a2 = z ∧ decide (z ≤ 0) = true := ⟨_, rfl, decide_eq_true (cmp_le hx)⟩
 have HV1 := yh hv1; clear hv1
 obtain ⟨v2, hv2, r2⟩ : ∃ z, cmpQ a1 a3 = z ∧ decide (z ≤ 0) = true := ⟨_, rfl, decide_eq_true (cmp_le hy)⟩
 have HV2 := yh hv2; clear hv2
 clear hx hy
 go_enter Tryz.func100, Tryz.ntmps100
 have HS : St w [] w := St.start
 go_upto_region 0 with fail
 refine rgT [] HS ?_
 refine bX (BC a0 a1 a2 a3) ?_
 intro bk1 _ _ e1
 refine nZ ?_
 refine pW ?_
 refine dn1 bk1 fun _ HS1=>?_
 clear HS
 go_upto_region 1 with fail
 refine rgT [] HS1 ?_
 refine pV (.pointer (some ⟨bk1, 0, none⟩)) (by intro w; go_simp; try first | with_reducible rfl | rfl) ?_
 refine pV (.pointer (some ⟨bk1, 0, none⟩)) (by intro w; go_simp; try first | with_reducible rfl | rfl) ?_
 refine Seq.loadAt rfl rfl rfl rfl (by repeat first|exact mC|apply mT) (n := 3) (cs' := RC a0) (by first | decide | exact Nat.le_refl _ | (simp [VC, TC, FC, BC, RC]; done)) (by kernel_rfl) (by first | rfl | (simp [VC, TC, FC, BC, RC]; done)) (nZ ?_)
 refine pV (.pointer (some ⟨bk1, 6, none⟩)) (by intro w; go_simp; try first | with_reducible rfl | rfl) ?_
 refine pV (.pointer (some ⟨bk1, 6, none⟩)) (by intro w; go_simp; try first | with_reducible rfl | rfl) ?_
 refine Seq.loadAt rfl rfl rfl rfl (by repeat first|exact mC|apply mT) (n := 3) (cs' := RC a2) (by first | decide | exact Nat.le_refl _ | (simp [VC, TC, FC, BC, RC]; done)) (by kernel_rfl) (by first | rfl | (simp [VC, TC, FC, BC, RC]; done)) (nZ ?_)
 refine cX rfl rfl (cmp_q (k := (1 * k + 0)) HT.out (zm Z_a0) (zm Z_a2) HV1.out (by omega)) ?_
 iterate 2 refine pW ?_
 refine pV (.pointer (some ⟨bk1, 0, none⟩)) (by intro w; go_simp; try first | with_reducible rfl | rfl) ?_
 refine pV (.pointer (some ⟨bk1, 3, none⟩)) (by intro w; go_simp; try first | with_reducible rfl | rfl) ?_
 refine Seq.loadAt rfl rfl rfl rfl (by repeat first|exact mC|apply mT) (n := 3) (cs' := RC a1) (by first | decide | exact Nat.le_refl _ | (simp [VC, TC, FC, BC, RC]; done)) (by kernel_rfl) (by first | rfl | (simp [VC, TC, FC, BC, RC]; done)) (nZ ?_)
 refine pV (.pointer (some ⟨bk1, 6, none⟩)) (by intro w; go_simp; try first | with_reducible rfl | rfl) ?_
 refine pV (.pointer (some ⟨bk1, 9, none⟩)) (by intro w; go_simp; try first | with_reducible rfl | rfl) ?_
 refine Seq.loadAt rfl rfl rfl rfl (by repeat first|exact mC|apply mT) (n := 3) (cs' := RC a3) (by first | decide | exact Nat.le_refl _ | (simp [VC, TC, FC, BC, RC]; done)) (by kernel_rfl) (by first | rfl | (simp [VC, TC, FC, BC, RC]; done)) (nZ ?_)
 refine cX rfl rfl (cmp_q (k := (1 * k + 0)) HT.out (zm Z_a1) (zm Z_a3) HV2.out (by omega)) ?_
 iterate 3 refine pW ?_
 refine dnS fun _ HS2=>?_
 clear HS1
 go_wp2_with fail
 go_ret
 exact ⟨rfl, HS2.below⟩
theorem boxes_q {k : Nat} {a0 a1 a2 a3 b0 b1 b2 b3 : Rat} {W : World} {l : List Own} (hT : Tab W) (Za0 : Rz k a0) (Za1 : Rz k a1) (Za2 : Rz k a2) (Za3 : Rz k a3) (Zb0 : Rz k b0) (Zb1 : Rz k b1) (Zb2 : Rz k b2) (Zb3 : Rz k b3) (ha : a0 ≤ a2 ∧ a1 ≤ a3) (hb : b0 ≤ b2 ∧ b1 ≤ b3) (h1 : a0 ≤ b2) (h2 : b0 ≤ a2) (h3 : a1 ≤ b3) (h4 : b1 ≤ a3) (hk : k ≤ 1000000000) (w : World) (h : St W l w) : Rt 56 #[.agg (BC a0 a1 a2 a3), .agg (BC b0 b1 b2 b3)] w (.bool true) := by
 have HT := yh (tabS hT h); clear hT h
 have HO := yh (show a0 ≤ a2 ∧ a1 ≤ a3 ∧ b0 ≤ b2 ∧ b1 ≤ b3 from ⟨ha.1, ha.2, hb.1, hb.2⟩); clear ha hb
 have Z_a0 := yh Za0; clear Za0
 have Z_a1 := yh Za1; clear Za1
 have Z_a2 := yh Za2; clear Za2
 have Z_a3 := yh Za3; clear Za3
 have Z_b0 := yh Zb0; clear Zb0
 have Z_b1 := yh Zb1; clear Zb1
 have Z_b2 := yh Zb2; clear Zb2
 have Z_b3 := yh Zb3; clear Zb3
 obtain ⟨v1, hv1, r1⟩ : ∃ z, cmpQ a0 b2 = z ∧ decide (z ≤ 0) = true := ⟨_, rfl, decide_eq_true (cmp_le h1)⟩
 have HV1 := yh hv1; clear hv1
 obtain ⟨v2, hv2, r2⟩ : ∃ z, cmpQ b0 a2 = z ∧ decide (z ≤ 0) = true := ⟨_, rfl, decide_eq_true (cmp_le h2)⟩
 have HV2 := yh hv2; clear hv2
 obtain ⟨v3, hv3, r3⟩ : ∃ z, cmpQ a1 b3 = z ∧ decide (z ≤ 0) = true := ⟨_, rfl, decide_eq_true (cmp_le h3)⟩
 have HV3 := yh hv3; clear hv3
 obtain ⟨v4, hv4, r4⟩ : ∃ z, cmpQ b1 a3 = z ∧ decide (z ≤ 0) = true := ⟨_, rfl, decide_eq_true (cmp_le h4)⟩
 have HV4 := yh hv4; clear hv4
 clear h1 h2 h3 h4
 go_enter Tryz.func56, Tryz.ntmps56
 have HS : St w [] w := St.start
 go_upto_region 0 with fail
 refine rgT [] HS ?_
 refine bX (BC a0 a1 a2 a3) ?_
 intro bk2 _ _ e2
 refine nZ ?_
 refine bX (BC b0 b1 b2 b3) ?_
 intro bk3 _ _ e3
 obtain ⟨_, _, e3⟩ := Reg.ne2 e3
 refine nZ ?_
 refine pW ?_
 refine Seq.done fun ws1 hws => ?_
 have HS1 : St w [(bk2, 38, BC a0 a1 a2 a3), (bk3, 38, BC b0 b1 b2 b3)] ws1 := hws.q2
 clear HS hws
 go_upto_region 1 with fail
 refine rgT [] HS1 ?_
 refine lV ?_
 refine cX rfl rfl (valid_q (k := k) HT.out Z_a0.out Z_a1.out Z_a2.out Z_a3.out HO.out.1 HO.out.2.1 (by omega)) ?_
 refine pW ?_
 refine lV ?_
 refine cX rfl rfl (valid_q (k := k) HT.out Z_b0.out Z_b1.out Z_b2.out Z_b3.out HO.out.2.2.1 HO.out.2.2.2 (by omega)) ?_
 iterate 2 refine pW ?_
 refine pV (.pointer (some ⟨bk2, 0, none⟩)) (by intro w; go_simp; try first | with_reducible rfl | rfl) ?_
 refine pV (.pointer (some ⟨bk2, 0, none⟩)) (by intro w; go_simp; try first | with_reducible rfl | rfl) ?_
 refine Seq.loadAt rfl rfl rfl rfl (by repeat first|exact mC|apply mT) (n := 3) (cs' := RC a0) (by first | decide | exact Nat.le_refl _ | (simp [VC, TC, FC, BC, RC]; done)) (by kernel_rfl) (by first | rfl | (simp [VC, TC, FC, BC, RC]; done)) (nZ ?_)
 refine pV (.pointer (some ⟨bk3, 6, none⟩)) (by intro w; go_simp; try first | with_reducible rfl | rfl) ?_
 refine pV (.pointer (some ⟨bk3, 6, none⟩)) (by intro w; go_simp; try first | with_reducible rfl | rfl) ?_
 refine Seq.loadAt rfl rfl rfl rfl (by repeat first|exact mC|apply mT) (n := 3) (cs' := RC b2) (by first | decide | exact Nat.le_refl _ | (simp [VC, TC, FC, BC, RC]; done)) (by kernel_rfl) (by first | rfl | (simp [VC, TC, FC, BC, RC]; done)) (nZ ?_)
 refine cX rfl rfl (cmp_q (k := (1 * k + 0)) HT.out (zm Z_a0) (zm Z_b2) HV1.out (by omega)) ?_
 iterate 3 refine pW ?_
 refine pV (.pointer (some ⟨bk3, 0, none⟩)) (by intro w; go_simp; try first | with_reducible rfl | rfl) ?_
 refine pV (.pointer (some ⟨bk3, 0, none⟩)) (by intro w; go_simp; try first | with_reducible rfl | rfl) ?_
 refine Seq.loadAt rfl rfl rfl rfl (by repeat first|exact mC|apply mT) (n := 3) (cs' := RC b0) (by first | decide | exact Nat.le_refl _ | (simp [VC, TC, FC, BC, RC]; done)) (by kernel_rfl) (by first | rfl | (simp [VC, TC, FC, BC, RC]; done)) (nZ ?_)
 refine pV (.pointer (some ⟨bk2, 6, none⟩)) (by intro w; go_simp; try first | with_reducible rfl | rfl) ?_
 refine pV (.pointer (some ⟨bk2, 6, none⟩)) (by intro w; go_simp; try first | with_reducible rfl | rfl) ?_
 refine Seq.loadAt rfl rfl rfl rfl (by repeat first|exact mC|apply mT) (n := 3) (cs' := RC a2) (by first | decide | exact Nat.le_refl _ | (simp [VC, TC, FC, BC, RC]; done)) (by kernel_rfl) (by first | rfl | (simp [VC, TC, FC, BC, RC]; done)) (nZ ?_)
 refine cX rfl rfl (cmp_q (k := (1 * k + 0)) HT.out (zm Z_b0) (zm Z_a2) HV2.out (by omega)) ?_
 iterate 3 refine pW ?_
 refine pV (.pointer (some ⟨bk2, 0, none⟩)) (by intro w; go_simp; try first | with_reducible rfl | rfl) ?_
 refine pV (.pointer (some ⟨bk2, 3, none⟩)) (by intro w; go_simp; try first | with_reducible rfl | rfl) ?_
 refine Seq.loadAt rfl rfl rfl rfl (by repeat first|exact mC|apply mT) (n := 3) (cs' := RC a1) (by first | decide | exact Nat.le_refl _ | (simp [VC, TC, FC, BC, RC]; done)) (by kernel_rfl) (by first | rfl | (simp [VC, TC, FC, BC, RC]; done)) (nZ ?_)
 refine pV (.pointer (some ⟨bk3, 6, none⟩)) (by intro w; go_simp; try first | with_reducible rfl | rfl) ?_
 refine pV (.pointer (some ⟨bk3, 9, none⟩)) (by intro w; go_simp; try first | with_reducible rfl | rfl) ?_
 refine Seq.loadAt rfl rfl rfl rfl (by repeat first|exact mC|apply mT) (n := 3) (cs' := RC b3) (by first | decide | exact Nat.le_refl _ | (simp [VC, TC, FC, BC, RC]; done)) (by kernel_rfl) (by first | rfl | (simp [VC, TC, FC, BC, RC]; done)) (nZ ?_)
 refine cX rfl rfl (cmp_q (k := (1 * k + 0)) HT.out (zm Z_a1) (zm Z_b3) HV3.out (by omega)) ?_
 iterate 3 refine pW ?_
 refine pV (.pointer (some ⟨bk3, 0, none⟩)) (by intro w; go_simp; try first | with_reducible rfl | rfl) ?_
 refine pV (.pointer (some ⟨bk3, 3, none⟩)) (by intro w; go_simp; try first | with_reducible rfl | rfl) ?_
 refine Seq.loadAt rfl rfl rfl rfl (by repeat first|exact mC|apply mT) (n := 3) (cs' := RC b1) (by first | decide | exact Nat.le_refl _ | (simp [VC, TC, FC, BC, RC]; done)) (by kernel_rfl) (by first | rfl | (simp [VC, TC, FC, BC, RC]; done)) (nZ ?_)
 refine pV (.pointer (some ⟨bk2, 6, none⟩)) (by intro w; go_simp; try first | with_reducible rfl | rfl) ?_
 refine pV (.pointer (some ⟨bk2, 9, none⟩)) (by intro w; go_simp; try first | with_reducible rfl | rfl) ?_
 refine Seq.loadAt rfl rfl rfl rfl (by repeat first|exact mC|apply mT) (n := 3) (cs' := RC a3) (by first | decide | exact Nat.le_refl _ | (simp [VC, TC, FC, BC, RC]; done)) (by kernel_rfl) (by first | rfl | (simp [VC, TC, FC, BC, RC]; done)) (nZ ?_)
 refine cX rfl rfl (cmp_q (k := (1 * k + 0)) HT.out (zm Z_b1) (zm Z_a3) HV4.out (by omega)) ?_
 iterate 3 refine pW ?_
 refine dnS fun _ HS2=>?_
 clear HS1
 go_wp2_with fail
 go_ret
 exact ⟨rfl, HS2.below⟩
end Go.Proofs.YtmchjmflkaiakaaGreatDoor
