/- Joined texts: Sp3 Sp4 Sp5. -/
import Derived.Test.YtmchjmflkaiakaaGreatDoorSp2
import Derived.LoopN
/- package span (printed by lawvec.py). -/
set_option maxHeartbeats 2000000
set_option maxRecDepth 20000
namespace Go.Proofs.YtmchjmflkaiakaaGreatDoor
open Go.RowKit
set_option linter.unusedVariables false
set_option linter.unusedSimpArgs false
variable {W : World} {l : List Own}
theorem sof_q {k : Nat} {t : Rat} {z0 : Rat} {z1 : Rat} (hT : Tab W) (Zt : Rz k t)  (hz0 : t = z0) (hz1 : t = z1) (hk : k ≤ 1000000000000) (w : World) (h : St W l w) : Rt 42 #[.agg (RC t)] w (.agg (VC z0 z1)) := by
 subst hz0
 subst hz1
 have HT := yh (tabS hT h); clear hT h
 have Z_t := yh Zt; clear Zt
 go_enter Tryz.func42, Tryz.ntmps42
 have HS : St w [] w := St.start
 go_upto_region 0 with fail
 refine rgT [] HS ?_
 refine bX (RC t) ?_
 intro bk1 _ _ e1
 refine nZ ?_
 refine aL6 ?_
 intro bk2 _ _ e2
 obtain ⟨_, _, e2⟩ := Reg.ne2 e2
 refine nZ ?_
 refine dn2 bk1 bk2 fun _ HS1=>?_
 clear HS
 go_upto_region 1 with fail
 refine wp_seq_text [0, 2] (StR.move (StR.no HS1)) ?_
 refine gV ?_
 refine gV ?_
 refine cX rfl rfl (min_q (k := (1 * k + 0)) HT.out (zm Z_t) (zm Z_t) (min_self _) (by omega)) ?_
 refine sV (RC_one _) ?_
 refine dn1 bk1 fun _ HS2=>?_
 clear HS1
 go_upto_region 2 with fail
 have HPbk2 := HS2.p1
 refine wp_seq_text [] (StR.move (StR.no HPbk2)) ?_
 iterate 2 refine lV ?_
 refine pV (.agg (VC t t)) (fun w => bld_Span rfl rfl rfl w) ?_
 refine sV (VC_one _ _) ?_
 refine dn1 bk2 fun _ HS3=>?_
 clear HS2 HPbk2
 go_wp2_with fail
 exact rO HS3 ⟨rfl, HS3.below⟩
theorem sgood_q {k : Nat} {al ah : Rat} (hT : Tab W) (Zal : Rz k al) (Zah : Rz k ah) (hlea : al ≤ ah)  (hk : k ≤ 1000000000000) (w : World) (h : St W l w) : Rt 91 #[.agg (VC al ah)] w (.bool true) := by
 have HT := yh (tabS hT h); clear hT h
 have Z_al := yh Zal; clear Zal
 have Z_ah := yh Zah; clear Zah
 obtain ⟨vc, hvc, vcr⟩ : ∃ v, cmpQ al ah = v ∧ v ≤ 0 := ⟨_, rfl, cmp_le hlea⟩
 have HVC := yh hvc; clear hvc
 have HLE := yh hlea; clear hlea
 go_enter Tryz.func91, Tryz.ntmps91
 have HS : St w [] w := St.start
 go_upto_region 0 with fail
 refine rgT [] HS ?_
 refine bX (VC al ah) ?_
 intro bk1 _ _ e1
 refine nZ ?_
 refine pU ?_
 refine dn1 bk1 fun _ HS1=>?_
 clear HS
 go_upto_region 1 with fail
 refine rgT [] HS1 ?_
 refine pU ?_
 refine lA (RC al) ?_
 refine cX rfl rfl (good_q (k := (1 * k + 0)) HT.out (zm Z_al) (by omega)) ?_
 iterate 2 refine pU ?_
 refine lA (RC ah) ?_
 refine cX rfl rfl (good_q (k := (1 * k + 0)) HT.out (zm Z_ah) (by omega)) ?_
 iterate 3 refine pU ?_
 refine lA (RC al) ?_
 refine pU ?_
 refine lA (RC ah) ?_
 refine cX rfl rfl (cmp_q (k := (1 * k + 0)) HT.out (zm Z_al) (zm Z_ah) HVC.out (by omega)) ?_
 iterate 3 refine pU ?_
 refine dnS fun _ HS2=>?_
 clear HS1
 go_wp2_with fail
 go_ret
 exact ⟨rfl, HS2.below⟩
theorem sfit_q {k : Nat} {al ah : Rat} {z0 : Rat} {z1 : Rat} (hT : Tab W) (Zal : Rz k al) (Zah : Rz k ah) (hlea : al ≤ ah) (hz0 : al = z0) (hz1 : ah = z1) (hk : k ≤ 1000000000000) (w : World) (h : St W l w) : Rt 83 #[.agg (VC al ah)] w (.agg (VC z0 z1)) := by
 subst hz0
 subst hz1
 have HT := yh (tabS hT h); clear hT h
 have Z_al := yh Zal; clear Zal
 have Z_ah := yh Zah; clear Zah
 go_enter Tryz.func83, Tryz.ntmps83
 have HS : St w [] w := St.start
 go_upto_region 0 with fail
 refine rgT [] HS ?_
 refine bX (VC al ah) ?_
 intro bk1 _ _ e1
 refine nZ ?_
 refine aL6 ?_
 intro bk2 _ _ e2
 obtain ⟨_, _, e2⟩ := Reg.ne2 e2
 refine nZ ?_
 refine dn2 bk1 bk2 fun _ HS1=>?_
 clear HS
 go_upto_region 1 with fail
 refine rgT [] HS1 ?_
 refine lV ?_
 refine cX rfl rfl (sgood_q (k := (1 * k + 0)) HT.out (zm Z_al) (zm Z_ah) hlea  (by omega)) ?_
 refine pU ?_
 refine dnS fun _ HS2=>?_
 clear HS1
 go_upto_region 3 with fail
 have HPbk2 := HS2.p1
 refine wp_seq_text [] (StR.move (StR.no HPbk2)) ?_
 refine lV ?_
 refine sV (VC_one _ _) ?_
 refine dn1 bk2 fun _ HS3=>?_
 clear HS2 HPbk2
 go_wp2_with fail
 exact rO HS3 ⟨rfl, HS3.below⟩
theorem has_q_tt {k : Nat} {al ah t : Rat} (hT : Tab W) (Zal : Rz k al) (Zah : Rz k ah) (Zt : Rz k t) (hlea : al ≤ ah) (c1 : al ≤ t) (c2 : t ≤ ah) (hk : k ≤ 1000000000000) (w : World) (h : St W l w) : Rt 33 #[.agg (VC al ah), .agg (RC t)] w (.bool true) := by
 have HT := yh (tabS hT h); clear hT h
 have Z_al := yh Zal; clear Zal
 have Z_ah := yh Zah; clear Zah
 have Z_t := yh Zt; clear Zt
 obtain ⟨v1, hv1, r1⟩ : ∃ v, cmpQ al t = v ∧ decide (v ≤ 0) = true := ⟨_, rfl, decide_eq_true (cmp_le c1)⟩
 have H1 := yh hv1; clear hv1
 clear c1
 obtain ⟨v2, hv2, r2⟩ : ∃ v, cmpQ t ah = v ∧ decide (v ≤ 0) = true := ⟨_, rfl, decide_eq_true (cmp_le c2)⟩
 have H2 := yh hv2; clear hv2
 clear c2
 go_enter Tryz.func33, Tryz.ntmps33
 have HS : St w [] w := St.start
 go_upto_region 0 with fail
 refine rgT [] HS ?_
 refine bX (VC al ah) ?_
 intro bk2 _ _ e2
 refine nZ ?_
 refine bX (RC t) ?_
 intro bk3 _ _ e3
 obtain ⟨_, _, e3⟩ := Reg.ne2 e3
 refine nZ ?_
 refine pU ?_
 refine dn2 bk2 bk3 fun _ HS1=>?_
 clear HS
 go_upto_region 1 with fail
 refine wp_seq_text [0] (StR.move (StR.no HS1)) ?_
 refine gV ?_
 refine cX rfl rfl (sfit_q (k := (1 * k + 0)) HT.out (zm Z_al) (zm Z_ah) hlea rfl rfl (by omega)) ?_
 refine sV (VC_one _ _) ?_
 refine dn1 bk2 fun _ HS2=>?_
 clear HS1
 go_upto_region 2 with fail
 refine rgT [] HS2 ?_
 refine pU ?_
 refine lA (RC al) ?_
 refine lV ?_
 refine cX rfl rfl (cmp_q (k := (1 * k + 0)) HT.out (zm Z_al) (zm Z_t) H1.out (by omega)) ?_
 iterate 2 refine pU ?_
 refine lV ?_
 refine pU ?_
 refine lA (RC ah) ?_
 refine cX rfl rfl (cmp_q (k := (1 * k + 0)) HT.out (zm Z_t) (zm Z_ah) H2.out (by omega)) ?_
 iterate 3 refine pU ?_
 refine dnS fun _ HS3=>?_
 clear HS2
 go_wp2_with fail
 go_ret
 exact ⟨rfl, HS3.below⟩
theorem has_q_tf {k : Nat} {al ah t : Rat} (hT : Tab W) (Zal : Rz k al) (Zah : Rz k ah) (Zt : Rz k t) (hlea : al ≤ ah) (c1 : al ≤ t) (c2 : t > ah) (hk : k ≤ 1000000000000) (w : World) (h : St W l w) : Rt 33 #[.agg (VC al ah), .agg (RC t)] w (.bool false) := by
 have HT := yh (tabS hT h); clear hT h
 have Z_al := yh Zal; clear Zal
 have Z_ah := yh Zah; clear Zah
 have Z_t := yh Zt; clear Zt
 obtain ⟨v1, hv1, r1⟩ : ∃ v, cmpQ al t = v ∧ decide (v ≤ 0) = true := ⟨_, rfl, decide_eq_true (cmp_le c1)⟩
 have H1 := yh hv1; clear hv1
 clear c1
 obtain ⟨v2, hv2, r2⟩ : ∃ v, cmpQ t ah = v ∧ decide (v ≤ 0) = false := ⟨_, rfl, decide_eq_false (by have := cmp_gt c2; omega)⟩
 have H2 := yh hv2; clear hv2
 clear c2
 go_enter Tryz.func33, Tryz.ntmps33
 have HS : St w [] w := St.start
 go_upto_region 0 with fail
 refine rgT [] HS ?_
 refine bX (VC al ah) ?_
 intro bk2 _ _ e2
 refine nZ ?_
 refine bX (RC t) ?_
 intro bk3 _ _ e3
 obtain ⟨_, _, e3⟩ := Reg.ne2 e3
 refine nZ ?_
 refine pU ?_
 refine dn2 bk2 bk3 fun _ HS1=>?_
 clear HS
 go_upto_region 1 with fail
 refine wp_seq_text [0] (StR.move (StR.no HS1)) ?_
 refine gV ?_
 refine cX rfl rfl (sfit_q (k := (1 * k + 0)) HT.out (zm Z_al) (zm Z_ah) hlea rfl rfl (by omega)) ?_
 refine sV (VC_one _ _) ?_
 refine dn1 bk2 fun _ HS2=>?_
 clear HS1
 go_upto_region 2 with fail
 refine rgT [] HS2 ?_
 refine pU ?_
 refine lA (RC al) ?_
 refine lV ?_
 refine cX rfl rfl (cmp_q (k := (1 * k + 0)) HT.out (zm Z_al) (zm Z_t) H1.out (by omega)) ?_
 iterate 2 refine pU ?_
 refine lV ?_
 refine pU ?_
 refine lA (RC ah) ?_
 refine cX rfl rfl (cmp_q (k := (1 * k + 0)) HT.out (zm Z_t) (zm Z_ah) H2.out (by omega)) ?_
 iterate 3 refine pU ?_
 refine dnS fun _ HS3=>?_
 clear HS2
 go_wp2_with fail
 go_ret
 exact ⟨rfl, HS3.below⟩
theorem has_q_ff {k : Nat} {al ah t : Rat} (hT : Tab W) (Zal : Rz k al) (Zah : Rz k ah) (Zt : Rz k t) (hlea : al ≤ ah) (c1 : al > t) (hk : k ≤ 1000000000000) (w : World) (h : St W l w) : Rt 33 #[.agg (VC al ah), .agg (RC t)] w (.bool false) := by
 have HT := yh (tabS hT h); clear hT h
 have Z_al := yh Zal; clear Zal
 have Z_ah := yh Zah; clear Zah
 have Z_t := yh Zt; clear Zt
 obtain ⟨v1, hv1, r1⟩ : ∃ v, cmpQ al t = v ∧ decide (v ≤ 0) = false := ⟨_, rfl, decide_eq_false (by have := cmp_gt c1; omega)⟩
 have H1 := yh hv1; clear hv1
 clear c1
 go_enter Tryz.func33, Tryz.ntmps33
 have HS : St w [] w := St.start
 go_upto_region 0 with fail
 refine rgT [] HS ?_
 refine bX (VC al ah) ?_
 intro bk2 _ _ e2
 refine nZ ?_
 refine bX (RC t) ?_
 intro bk3 _ _ e3
 obtain ⟨_, _, e3⟩ := Reg.ne2 e3
 refine nZ ?_
 refine pU ?_
 refine dn2 bk2 bk3 fun _ HS1=>?_
 clear HS
 go_upto_region 1 with fail
 refine wp_seq_text [0] (StR.move (StR.no HS1)) ?_
 refine gV ?_
 refine cX rfl rfl (sfit_q (k := (1 * k + 0)) HT.out (zm Z_al) (zm Z_ah) hlea rfl rfl (by omega)) ?_
 refine sV (VC_one _ _) ?_
 refine dn1 bk2 fun _ HS2=>?_
 clear HS1
 go_upto_region 2 with fail
 refine rgT [] HS2 ?_
 refine pU ?_
 refine lA (RC al) ?_
 refine lV ?_
 refine cX rfl rfl (cmp_q (k := (1 * k + 0)) HT.out (zm Z_al) (zm Z_t) H1.out (by omega)) ?_
 iterate 2 refine pU ?_
 iterate 5 refine nW ?_
 iterate 2 refine pU ?_
 refine dnS fun _ HS3=>?_
 clear HS2
 go_wp2_with fail
 go_ret
 exact ⟨rfl, HS3.below⟩
theorem has_q {k : Nat} {al ah t : Rat} {z0 : Bool} (hT : Tab W) (Zal : Rz k al) (Zah : Rz k ah) (Zt : Rz k t) (hlea : al ≤ ah) (hz0 : decide (al ≤ t ∧ t ≤ ah) = z0) (hk : k ≤ 1000000000000) (w : World) (h : St W l w) : Rt 33 #[.agg (VC al ah), .agg (RC t)] w (.bool z0) := by
 subst hz0
 by_cases c1 : al ≤ t
 ·by_cases c2 : t ≤ ah
  ·rw [decide_eq_true (And.intro c1 c2)]; exact has_q_tt hT Zal Zah Zt hlea c1 c2 hk w h
  ·rw [decide_eq_false (fun h => c2 h.2)]; exact has_q_tf hT Zal Zah Zt hlea c1 (by grind) hk w h
 ·rw [decide_eq_false (fun h => c1 h.1)]; exact has_q_ff hT Zal Zah Zt hlea (by grind) hk w h
theorem smake_q {k : Nat} {al ah z0 z1 : Rat} {W : World} {l : List Own} (hT : Tab W) (Zal : Rz k al) (Zah : Rz k ah) (hlea : al ≤ ah) (hz0 : al = z0) (hz1 : ah = z1) (hk : k ≤ 1000000000000) (w : World) (h : St W l w) : Rt 88 #[.agg (RC al), .agg (RC ah)] w (.tuple #[.agg (VC z0 z1), .int .i64 0]) := by
 subst hz0 hz1
 have HT := yh (tabS hT h); clear hT h
 have Z_al := yh Zal; clear Zal
 have Z_ah := yh Zah; clear Zah
 obtain ⟨vc, hvc, vcr⟩ : ∃ v, cmpQ al ah = v ∧ decide (0 < v) = false := ⟨_, rfl, decide_eq_false (by have := cmp_le hlea; omega)⟩
 have HVC := yh hvc; clear hvc hlea
 go_enter Tryz.func88, Tryz.ntmps88
 have HS : St w [] w := St.start
 go_upto_region 0 with fail
 refine rgT [] HS ?_
 refine bX (RC al) ?_
 intro bk2 _ _ e2
 refine nZ ?_
 refine bX (RC ah) ?_
 intro bk3 _ _ e3
 obtain ⟨_, _, e3⟩ := Reg.ne2 e3
 refine nZ ?_
 refine aL6 ?_
 intro bk4 _ _ e4
 obtain ⟨_, _, e4⟩ := Reg.ne2 e4
 obtain ⟨_, _, e4⟩ := Reg.ne2 e4
 refine nZ ?_
 refine pU ?_
 refine dn3 bk2 bk3 bk4 fun _ HS1=>?_
 clear HS
 go_upto_region 1 with fail
 refine rgT [] HS1 ?_
 iterate 2 refine lV ?_
 refine cX rfl rfl (cmp_q (k := (1 * k + 0)) HT.out (zm Z_al) (zm Z_ah) HVC.out (by omega)) ?_
 refine pU ?_
 refine dnS fun _ HS2=>?_
 clear HS1
 go_upto_region 3 with fail
 have HPbk4 := HS2.p2
 refine wS [] (Reg.fin.put Reg.fin_no _ _) (StR.move (StR.no HPbk4)) ?_
 iterate 2 refine lV ?_
 refine cX rfl rfl (min_q (k := (1 * k + 0)) HT.out (zm Z_al) (zm Z_al) (min_self _) (by omega)) ?_
 iterate 2 refine lV ?_
 refine cX rfl rfl (min_q (k := (1 * k + 0)) HT.out (zm Z_ah) (zm Z_ah) (min_self _) (by omega)) ?_
 refine pV (.agg (VC al ah)) (fun w => bld_Span rfl rfl rfl w) ?_
 refine sV (VC_one _ _) ?_
 refine pU ?_
 refine dn1 bk4 fun _ HS3=>?_
 clear HS2 HPbk4
 go_wp2_with fail
 exact ret_own2 rfl rfl rfl rfl HS3 (by repeat first|exact mC|apply mT) (n := 6) rfl (by kernel_rfl) ⟨rfl, HS3.below⟩
end Go.Proofs.YtmchjmflkaiakaaGreatDoor
