/- Joined texts: Sp3 Sp4 Sp5. -/
import Derived.Test.YtmchjmflkaiakaaGreatDoorSp2
import Derived.LoopN
/- package span (printed by lawvec.py). -/
set_option maxHeartbeats 2000000
set_option maxRecDepth 20000
namespace Go.Proofs.YtmchjmflkaiakaaGreatDoor
open Go.RowKit
set_option linter.unusedVariables false
set_option linter.unusedSimpArgs false
variable {W : World} {l : List Own}
theorem sof_q {k : Nat} {t : Rat} {z0 : Rat} {z1 : Rat} (hT : Tab W) (Zt : Rz k t)  (hz0 : t = z0) (hz1 : t = z1) (hk : k ≤ 1000000000000) (w : World) (h : St W l w) : Rt 42 #[.agg (RC t)] w (.agg (VC z0 z1)) := by
 subst hz0
 subst hz1
 have HT := yh (tabS hT h); clear hT h
 have Z_t := yh Zt; clear Zt
 go_enter Tryz.func42, Tryz.ntmps42
 have HS : St w [] w := St.start
 go_upto_region 0 with fail
 refine rgT [] HS ?_
 refine bX (RC t) ?_
 intro bk1 _ _ e1
 refine nZ ?_
 refine aL6 ?_
 intro bk2 _ _ e2
 obtain ⟨_, _, e2⟩ := Reg.ne2 e2
 refine nZ ?_
 refine dn2 bk1 bk2 fun _ HS1=>?_
 clear HS
 go_upto_region 1 with fail
 refine wp_seq_text [0, 2] (StR.move (StR.no HS1)) ?_
 refine gV ?_
 refine gV ?_
 refine cX rfl rfl (min_q (k := (1 * k + 0)) HT.out (zm Z_t) (zm Z_t) (min_self _) (by omega)) ?_
 refine sV (RC_one _) ?_
 refine dn1 bk1 fun _ HS2=>?_
 clear HS1
 go_upto_region 2 with fail
 have HPbk2 := HS2.p1
 refine wp_seq_text [] (StR.move (StR.no HPbk2)) ?_
 iterate 2 refine lV ?_
 refine pV (.agg (VC t t)) (fun w => bld_Span rfl rfl rfl w) ?_
 refine sV (VC_one _ _) ?_
 refine dn1 bk2 fun _ HS3=>?_
 clear HS2 HPbk2
 go_wp2_with fail
 exact rO HS3 ⟨rfl, HS3.below⟩
theorem around_2 {k : Nat} {x y : Rat} {z0 z1 : Rat} (hT : Tab W) (Zx : Rz k x) (Zy : Rz k y) (hz0 : minQ x y = z0) (hz1 : maxQ x y = z1) (hk : k ≤ 1000000000000) (g : Nat) (w : World) (h : St W l w) (hg : Blk w g 27 (SL2 x y)) : Rt 89 #[.slice (some ⟨g, 0, none⟩) 2 2] w (.agg (VC z0 z1)) := by
 subst hz0
 subst hz1
 have HT := yh (tabS hT h); clear hT h
 have HG := yh hg; clear hg
 have Z_x := yh Zx; clear Zx
 have Z_y := yh Zy; clear Zy
 go_enter Tryz.func89, Tryz.ntmps89
 have HS : St w [] w := St.start
 go_upto_region 0 with fail
 refine rgT [] HS ?_
 refine aL6 ?_
 intro bk2 _ _ e2
 refine nZ ?_
 refine dn1 bk2 fun _ HS1=>?_
 clear HS
 go_upto_region 1 with fail
 refine rgT [] HS1 ?_
 iterate 2 refine pU ?_
 refine Seq.loadAtF rfl rfl rfl rfl HG.out (n := 3) (cs' := RC x) (Nat.le_of_ble_eq_true rfl) (by kernel_rfl) rfl (nZ ?_)
 refine cX rfl rfl (sof_q (k := (1 * k + 0)) HT.out (zm Z_x)  rfl rfl (by omega)) ?_
 refine aL6 ?_
 intro bk3 _ _ e3
 refine nZ ?_
 refine sV (VC_one _ _) ?_
 refine dn1 bk3 fun _ HS2=>?_
 clear HS1
 go_upto_region 2 with fail
 refine rgT [] HS2 ?_
 refine pU ?_
 refine pV (.slice (some ⟨g, 3, none⟩) 1 1) (by intro w; go_simp; try rfl) ?_
 refine pV (.int .i64 1) (by intro w; go_simp; try rfl) ?_
 refine pU ?_
 refine dnS fun _ HS3=>?_
 clear HS2
 go_wp2_with fail
 refine wp_loop_rounds 2 ?_
 rw [rounds_succ]
 go_upto_region 3 with fail
 refine rgT [] HS3 ?_
 refine pU ?_
 refine dnS fun _ HS4=>?_
 clear HS3
 go_upto_region 4 with fail
 refine rgT [] HS4 ?_
 refine pU ?_
 refine Seq.loadAtF rfl rfl rfl rfl HG.out (n := 3) (cs' := RC y) (Nat.le_of_ble_eq_true rfl) (by kernel_rfl) rfl (nZ ?_)
 refine aL3 ?_
 intro bk5 _ _ e5
 refine nZ ?_
 refine sV (RC_one _) ?_
 refine dn1 bk5 fun _ HS5=>?_
 clear HS4
 go_upto_region 5 with fail
 have HPbk3 := HS5.p1
 refine wS [2, 10] (Reg.fin.put Reg.fin_no _ _) (StR.move (StR.no HPbk3)) ?_
 refine pU ?_
 refine Seq.getAt rfl rfl rfl rfl (by repeat first|exact rS|refine rN ‹_› ?_) (n := 3) (cs' := RC x) (Nat.le_of_ble_eq_true rfl) (by kernel_rfl) rfl (nZ ?_)
 refine lV ?_
 refine cX rfl rfl (min_q (k := (1 * k + 0)) HT.out (zm Z_x) (zm Z_y) rfl (by omega)) ?_
 refine pU ?_
 refine Seq.getAt rfl rfl rfl rfl (by repeat first|exact rS|refine rN ‹_› ?_) (n := 3) (cs' := RC x) (Nat.le_of_ble_eq_true rfl) (by kernel_rfl) rfl (nZ ?_)
 refine lV ?_
 refine cX rfl rfl (max_q (k := (1 * k + 0)) HT.out (zm Z_x) (zm Z_y) rfl (by omega)) ?_
 refine pU ?_
 refine Seq.storeAt (v := .agg (RC (minQ x y))) rfl rfl rfl rfl rfl (by repeat first|exact rS|refine rN ‹_› ?_) (Nat.le_of_ble_eq_true rfl) (by show _ = some 3; kernel_rfl) (RC_one _) (cs' := VC (minQ x y) x) rfl (nZ ?_)
 refine pU ?_
 refine Seq.storeAt (v := .agg (RC (maxQ x y))) rfl rfl rfl rfl rfl (by repeat first|exact rS|refine rN ‹_› ?_) (Nat.le_of_ble_eq_true rfl) (by show _ = some 3; kernel_rfl) (RC_one _) (cs' := VC (minQ x y) (maxQ x y)) rfl (nZ ?_)
 refine dn1 bk3 fun _ HS6=>?_
 clear HS5 HPbk3
 go_upto_region 6 with fail
 refine rgT [] HS6 ?_
 refine pV (.int .i64 1) (by intro w; go_simp; try rfl) ?_
 refine pU ?_
 refine dnS fun _ HS7=>?_
 clear HS6
 go_wp2_with fail
 rw [rounds_succ]
 go_upto_region 3 with fail
 refine rgT [] HS7 ?_
 refine pU ?_
 refine dnS fun _ HS8=>?_
 clear HS7
 go_upto_region 7 with fail
 have HPbk2 := HS8.p2
 refine wp_seq_text [] (StR.move (StR.no HPbk2)) ?_
 refine lV ?_
 refine sV (VC_one _ _) ?_
 refine dn1 bk2 fun _ HS9=>?_
 clear HS8 HPbk2
 go_wp2_with fail
 exact rO HS9 ⟨rfl, HS9.below⟩
theorem sgood_q {k : Nat} {al ah : Rat} (hT : Tab W) (Zal : Rz k al) (Zah : Rz k ah) (hlea : al ≤ ah)  (hk : k ≤ 1000000000000) (w : World) (h : St W l w) : Rt 91 #[.agg (VC al ah)] w (.bool true) := by
 have HT := yh (tabS hT h); clear hT h
 have Z_al := yh Zal; clear Zal
 have Z_ah := yh Zah; clear Zah
 obtain ⟨vc, hvc, vcr⟩ : ∃ v, cmpQ al ah = v ∧ v ≤ 0 := ⟨_, rfl, cmp_le hlea⟩
 have HVC := yh hvc; clear hvc
 have HLE := yh hlea; clear hlea
 go_enter Tryz.func91, Tryz.ntmps91
 have HS : St w [] w := St.start
 go_upto_region 0 with fail
 refine rgT [] HS ?_
 refine bX (VC al ah) ?_
 intro bk1 _ _ e1
 refine nZ ?_
 refine pU ?_
 refine dn1 bk1 fun _ HS1=>?_
 clear HS
 go_upto_region 1 with fail
 refine rgT [] HS1 ?_
 refine pU ?_
 refine lA (RC al) ?_
 refine cX rfl rfl (good_q (k := (1 * k + 0)) HT.out (zm Z_al) (by omega)) ?_
 iterate 2 refine pU ?_
 refine lA (RC ah) ?_
 refine cX rfl rfl (good_q (k := (1 * k + 0)) HT.out (zm Z_ah) (by omega)) ?_
 iterate 3 refine pU ?_
 refine lA (RC al) ?_
 refine pU ?_
 refine lA (RC ah) ?_
 refine cX rfl rfl (cmp_q (k := (1 * k + 0)) HT.out (zm Z_al) (zm Z_ah) HVC.out (by omega)) ?_
 iterate 3 refine pU ?_
 refine dnS fun _ HS2=>?_
 clear HS1
 go_wp2_with fail
 go_ret
 exact ⟨rfl, HS2.below⟩
theorem sfit_q {k : Nat} {al ah : Rat} {z0 : Rat} {z1 : Rat} (hT : Tab W) (Zal : Rz k al) (Zah : Rz k ah) (hlea : al ≤ ah) (hz0 : al = z0) (hz1 : ah = z1) (hk : k ≤ 1000000000000) (w : World) (h : St W l w) : Rt 83 #[.agg (VC al ah)] w (.agg (VC z0 z1)) := by
 subst hz0
 subst hz1
 have HT := yh (tabS hT h); clear hT h
 have Z_al := yh Zal; clear Zal
 have Z_ah := yh Zah; clear Zah
 go_enter Tryz.func83, Tryz.ntmps83
 have HS : St w [] w := St.start
 go_upto_region 0 with fail
 refine rgT [] HS ?_
 refine bX (VC al ah) ?_
 intro bk1 _ _ e1
 refine nZ ?_
 refine aL6 ?_
 intro bk2 _ _ e2
 obtain ⟨_, _, e2⟩ := Reg.ne2 e2
 refine nZ ?_
 refine dn2 bk1 bk2 fun _ HS1=>?_
 clear HS
 go_upto_region 1 with fail
 refine rgT [] HS1 ?_
 refine lV ?_
 refine cX rfl rfl (sgood_q (k := (1 * k + 0)) HT.out (zm Z_al) (zm Z_ah) hlea  (by omega)) ?_
 refine pU ?_
 refine dnS fun _ HS2=>?_
 clear HS1
 go_upto_region 3 with fail
 have HPbk2 := HS2.p1
 refine wp_seq_text [] (StR.move (StR.no HPbk2)) ?_
 refine lV ?_
 refine sV (VC_one _ _) ?_
 refine dn1 bk2 fun _ HS3=>?_
 clear HS2 HPbk2
 go_wp2_with fail
 exact rO HS3 ⟨rfl, HS3.below⟩
theorem sjoin_q {k : Nat} {al ah bl bh : Rat} {z0 : Rat} {z1 : Rat} (hT : Tab W) (Zal : Rz k al) (Zah : Rz k ah) (Zbl : Rz k bl) (Zbh : Rz k bh) (hlea : al ≤ ah) (hleb : bl ≤ bh) (hz0 : minQ al bl = z0) (hz1 : maxQ ah bh = z1) (hk : k ≤ 1000000000000) (w : World) (h : St W l w) : Rt 68 #[.agg (VC al ah), .agg (VC bl bh)] w (.agg (VC z0 z1)) := by
 subst hz0
 subst hz1
 have HT := yh (tabS hT h); clear hT h
 have Z_al := yh Zal; clear Zal
 have Z_ah := yh Zah; clear Zah
 have Z_bl := yh Zbl; clear Zbl
 have Z_bh := yh Zbh; clear Zbh
 go_enter Tryz.func68, Tryz.ntmps68
 have HS : St w [] w := St.start
 go_upto_region 0 with fail
 refine rgT [] HS ?_
 refine bX (VC al ah) ?_
 intro bk2 _ _ e2
 refine nZ ?_
 refine bX (VC bl bh) ?_
 intro bk3 _ _ e3
 obtain ⟨_, _, e3⟩ := Reg.ne2 e3
 refine nZ ?_
 refine aL6 ?_
 intro bk4 _ _ e4
 obtain ⟨_, _, e4⟩ := Reg.ne2 e4
 obtain ⟨_, _, e4⟩ := Reg.ne2 e4
 refine nZ ?_
 refine dn3 bk2 bk3 bk4 fun _ HS1=>?_
 clear HS
 go_upto_region 1 with fail
 have HPbk3 := HS1.p1
 have HPbk2 := HPbk3.p1
 refine wS [0, 4] (Reg.fin.put (Reg.fin.put Reg.fin_no _ _) _ _) (StR.move (StR.move (StR.no HPbk2))) ?_
 refine gV ?_
 refine cX rfl rfl (sfit_q (k := (1 * k + 0)) HT.out (zm Z_al) (zm Z_ah) hlea rfl rfl (by omega)) ?_
 refine gV ?_
 refine cX rfl rfl (sfit_q (k := (1 * k + 0)) HT.out (zm Z_bl) (zm Z_bh) hleb rfl rfl (by omega)) ?_
 refine sV (VC_one _ _) ?_
 refine sV (VC_one _ _) ?_
 refine dn2 bk2 bk3 fun _ HS2=>?_
 clear HS1 HPbk3 HPbk2
 go_upto_region 2 with fail
 have HPbk4 := HS2.p2
 refine wS [] (Reg.fin.put Reg.fin_no _ _) (StR.move (StR.no HPbk4)) ?_
 refine pU ?_
 refine lA (RC al) ?_
 refine pU ?_
 refine lA (RC bl) ?_
 refine cX rfl rfl (min_q (k := (1 * k + 0)) HT.out (zm Z_al) (zm Z_bl) rfl (by omega)) ?_
 refine pU ?_
 refine lA (RC ah) ?_
 refine pU ?_
 refine lA (RC bh) ?_
 refine cX rfl rfl (max_q (k := (1 * k + 0)) HT.out (zm Z_ah) (zm Z_bh) rfl (by omega)) ?_
 refine pV (.agg (VC (minQ al bl) (maxQ ah bh))) (fun w => bld_Span rfl rfl rfl w) ?_
 refine sV (VC_one _ _) ?_
 refine dn1 bk4 fun _ HS3=>?_
 clear HS2 HPbk4
 go_wp2_with fail
 exact rO HS3 ⟨rfl, HS3.below⟩
theorem has_q_tt {k : Nat} {al ah t : Rat} (hT : Tab W) (Zal : Rz k al) (Zah : Rz k ah) (Zt : Rz k t) (hlea : al ≤ ah) (c1 : al ≤ t) (c2 : t ≤ ah) (hk : k ≤ 1000000000000) (w : World) (h : St W l w) : Rt 33 #[.agg (VC al ah), .agg (RC t)] w (.bool true) := by
 have HT := yh (tabS hT h); clear hT h
 have Z_al := yh Zal; clear Zal
 have Z_ah := yh Zah; clear Zah
 have Z_t := yh Zt; clear Zt
 obtain ⟨v1, hv1, r1⟩ : ∃ v, cmpQ al t = v ∧ decide (v ≤ 0) = true := ⟨_, rfl, decide_eq_true (cmp_le c1)⟩
 have H1 := yh hv1; clear hv1
 clear c1
 obtain ⟨v2, hv2, r2⟩ : ∃ v, cmpQ t ah = v ∧ decide (v ≤ 0) = true := ⟨_, rfl, decide_eq_true (cmp_le c2)⟩
 have H2 := yh hv2; clear hv2
 clear c2
 go_enter Tryz.func33, Tryz.ntmps33
 have HS : St w [] w := St.start
 go_upto_region 0 with fail
 refine rgT [] HS ?_
 refine bX (VC al ah) ?_
 intro bk2 _ _ e2
 refine nZ ?_
 refine bX (RC t) ?_
 intro bk3 _ _ e3
 obtain ⟨_, _, e3⟩ := Reg.ne2 e3
 refine nZ ?_
 refine pU ?_
 refine dn2 bk2 bk3 fun _ HS1=>?_
 clear HS
 go_upto_region 1 with fail
 refine wp_seq_text [0] (StR.move (StR.no HS1)) ?_
 refine gV ?_
 refine cX rfl rfl (sfit_q (k := (1 * k + 0)) HT.out (zm Z_al) (zm Z_ah) hlea rfl rfl (by omega)) ?_
 refine sV (VC_one _ _) ?_
 refine dn1 bk2 fun _ HS2=>?_
 clear HS1
 go_upto_region 2 with fail
 refine rgT [] HS2 ?_
 refine pU ?_
 refine lA (RC al) ?_
 refine lV ?_
 refine cX rfl rfl (cmp_q (k := (1 * k + 0)) HT.out (zm Z_al) (zm Z_t) H1.out (by omega)) ?_
 iterate 2 refine pU ?_
 refine lV ?_
 refine pU ?_
 refine lA (RC ah) ?_
 refine cX rfl rfl (cmp_q (k := (1 * k + 0)) HT.out (zm Z_t) (zm Z_ah) H2.out (by omega)) ?_
 iterate 3 refine pU ?_
 refine dnS fun _ HS3=>?_
 clear HS2
 go_wp2_with fail
 go_ret
 exact ⟨rfl, HS3.below⟩
theorem has_q_tf {k : Nat} {al ah t : Rat} (hT : Tab W) (Zal : Rz k al) (Zah : Rz k ah) (Zt : Rz k t) (hlea : al ≤ ah) (c1 : al ≤ t) (c2 : t > ah) (hk : k ≤ 1000000000000) (w : World) (h : St W l w) : Rt 33 #[.agg (VC al ah), .agg (RC t)] w (.bool false) := by
 have HT := yh (tabS hT h); clear hT h
 have Z_al := yh Zal; clear Zal
 have Z_ah := yh Zah; clear Zah
 have Z_t := yh Zt; clear Zt
 obtain ⟨v1, hv1, r1⟩ : ∃ v, cmpQ al t = v ∧ decide (v ≤ 0) = true := ⟨_, rfl, decide_eq_true (cmp_le c1)⟩
 have H1 := yh hv1; clear hv1
 clear c1
 obtain ⟨v2, hv2, r2⟩ : ∃ v, cmpQ t ah = v ∧ decide (v ≤ 0) = false := ⟨_, rfl, decide_eq_false (by have := cmp_gt c2; omega)⟩
 have H2 := yh hv2; clear hv2
 clear c2
 go_enter Tryz.func33, Tryz.ntmps33
 have HS : St w [] w := St.start
 go_upto_region 0 with fail
 refine rgT [] HS ?_
 refine bX (VC al ah) ?_
 intro bk2 _ _ e2
 refine nZ ?_
 refine bX (RC t) ?_
 intro bk3 _ _ e3
 obtain ⟨_, _, e3⟩ := Reg.ne2 e3
 refine nZ ?_
 refine pU ?_
 refine dn2 bk2 bk3 fun _ HS1=>?_
 clear HS
 go_upto_region 1 with fail
 refine wp_seq_text [0] (StR.move (StR.no HS1)) ?_
 refine gV ?_
 refine cX rfl rfl (sfit_q (k := (1 * k + 0)) HT.out (zm Z_al) (zm Z_ah) hlea rfl rfl (by omega)) ?_
 refine sV (VC_one _ _) ?_
 refine dn1 bk2 fun _ HS2=>?_
 clear HS1
 go_upto_region 2 with fail
 refine rgT [] HS2 ?_
 refine pU ?_
 refine lA (RC al) ?_
 refine lV ?_
 refine cX rfl rfl (cmp_q (k := (1 * k + 0)) HT.out (zm Z_al) (zm Z_t) H1.out (by omega)) ?_
 iterate 2 refine pU ?_
 refine lV ?_
 refine pU ?_
 refine lA (RC ah) ?_
 refine cX rfl rfl (cmp_q (k := (1 * k + 0)) HT.out (zm Z_t) (zm Z_ah) H2.out (by omega)) ?_
 iterate 3 refine pU ?_
 refine dnS fun _ HS3=>?_
 clear HS2
 go_wp2_with fail
 go_ret
 exact ⟨rfl, HS3.below⟩
theorem has_q_ff {k : Nat} {al ah t : Rat} (hT : Tab W) (Zal : Rz k al) (Zah : Rz k ah) (Zt : Rz k t) (hlea : al ≤ ah) (c1 : al > t) (hk : k ≤ 1000000000000) (w : World) (h : St W l w) : Rt 33 #[.agg (VC al ah), .agg (RC t)] w (.bool false) := by
 have HT := yh (tabS hT h); clear hT h
 have Z_al := yh Zal; clear Zal
 have Z_ah := yh Zah; clear Zah
 have Z_t := yh Zt; clear Zt
 obtain ⟨v1, hv1, r1⟩ : ∃ v, cmpQ al t = v ∧ decide (v ≤ 0) = false := ⟨_, rfl, decide_eq_false (by have := cmp_gt c1; omega)⟩
 have H1 := yh hv1; clear hv1
 clear c1
 go_enter Tryz.func33, Tryz.ntmps33
 have HS : St w [] w := St.start
 go_upto_region 0 with fail
 refine rgT [] HS ?_
 refine bX (VC al ah) ?_
 intro bk2 _ _ e2
 refine nZ ?_
 refine bX (RC t) ?_
 intro bk3 _ _ e3
 obtain ⟨_, _, e3⟩ := Reg.ne2 e3
 refine nZ ?_
 refine pU ?_
 refine dn2 bk2 bk3 fun _ HS1=>?_
 clear HS
 go_upto_region 1 with fail
 refine wp_seq_text [0] (StR.move (StR.no HS1)) ?_
 refine gV ?_
 refine cX rfl rfl (sfit_q (k := (1 * k + 0)) HT.out (zm Z_al) (zm Z_ah) hlea rfl rfl (by omega)) ?_
 refine sV (VC_one _ _) ?_
 refine dn1 bk2 fun _ HS2=>?_
 clear HS1
 go_upto_region 2 with fail
 refine rgT [] HS2 ?_
 refine pU ?_
 refine lA (RC al) ?_
 refine lV ?_
 refine cX rfl rfl (cmp_q (k := (1 * k + 0)) HT.out (zm Z_al) (zm Z_t) H1.out (by omega)) ?_
 iterate 2 refine pU ?_
 iterate 5 refine nW ?_
 iterate 2 refine pU ?_
 refine dnS fun _ HS3=>?_
 clear HS2
 go_wp2_with fail
 go_ret
 exact ⟨rfl, HS3.below⟩
theorem has_q {k : Nat} {al ah t : Rat} {z0 : Bool} (hT : Tab W) (Zal : Rz k al) (Zah : Rz k ah) (Zt : Rz k t) (hlea : al ≤ ah) (hz0 : decide (al ≤ t ∧ t ≤ ah) = z0) (hk : k ≤ 1000000000000) (w : World) (h : St W l w) : Rt 33 #[.agg (VC al ah), .agg (RC t)] w (.bool z0) := by
 subst hz0
 by_cases c1 : al ≤ t
 ·by_cases c2 : t ≤ ah
  ·rw [decide_eq_true (And.intro c1 c2)]; exact has_q_tt hT Zal Zah Zt hlea c1 c2 hk w h
  ·rw [decide_eq_false (fun h => c2 h.2)]; exact has_q_tf hT Zal Zah Zt hlea c1 (by grind) hk w h
 ·rw [decide_eq_false (fun h => c1 h.1)]; exact has_q_ff hT Zal Zah Zt hlea (by grind) hk w h
variable {W : World} {l : List Own}
theorem min_le_max (a b : Rat) : minQ a b ≤ maxQ a b := by unfold minQ maxQ cmpQ; grind
theorem made_sq {x y : Int} {z0 z1 : Rat} (hT : Tab W) (hx : (-9223372036854775808 ≤ x ∧ x ≤ 9223372036854775807)) (hy : (-9223372036854775808 ≤ y ∧ y ≤ 9223372036854775807)) (hz0 : minQ (ratMq x) (ratMq y) = z0) (hz1 : maxQ (ratMq x) (ratMq y) = z1) (w : World) (h : St W l w) : Rt 13 #[.int .i64 x, .int .i64 y] w (.agg (VC z0 z1)) := by
 subst hz0 hz1
 have HT := yh (tabS hT h); clear hT h
 have HI := yh (And.intro hx hy); clear hx hy
 go_enter Tryz.func13, Tryz.ntmps13
 have HS : St w [] w := St.start
 go_upto_region 0 with fail
 refine rgT [] HS ?_
 refine aL6 ?_
 intro bk4 _ _ e4
 refine nZ ?_
 refine dn1 bk4 fun _ HS1=>?_
 clear HS
 go_upto_region 1 with fail
 refine rgT [] HS1 ?_
 refine pU ?_
 refine cL (ratM_q rfl HI.out.1.1 HI.out.1.2) ?_
 refine pU ?_
 refine cL (ratM_q rfl HI.out.2.1 HI.out.2.2) ?_
 refine aL3 ?_
 intro bk5 _ _ e5
 refine nZ ?_
 refine aL3 ?_
 intro bk6 _ _ e6
 obtain ⟨_, _, e6⟩ := Reg.ne2 e6
 refine nZ ?_
 refine sV (RC_one _) ?_
 refine sV (RC_one _) ?_
 refine dn2 bk5 bk6 fun _ HS2=>?_
 clear HS1
 go_upto_region 2 with fail
 have HPbk4 := HS2.p2
 refine wS [] (Reg.fin.put Reg.fin_no _ _) (StR.move (StR.no HPbk4)) ?_
 iterate 2 refine lV ?_
 refine cX rfl rfl (min_q (k := 1) HT.out ((ratMq_small x).rz.more (by omega)) ((ratMq_small y).rz.more (by omega)) rfl (by omega)) ?_
 iterate 2 refine lV ?_
 refine cX rfl rfl (max_q (k := 1) HT.out ((ratMq_small x).rz.more (by omega)) ((ratMq_small y).rz.more (by omega)) rfl (by omega)) ?_
 refine pV (.agg (VC (minQ (ratMq x) (ratMq y)) (maxQ (ratMq x) (ratMq y)))) (fun w => bld_Span rfl rfl rfl w) ?_
 refine sV (VC_one _ _) ?_
 refine dn1 bk4 fun _ HS3=>?_
 clear HS2 HPbk4
 go_wp2_with fail
 exact rO HS3 ⟨rfl, HS3.below⟩
theorem smake_q {k : Nat} {al ah z0 z1 : Rat} (hT : Tab W) (Zal : Rz k al) (Zah : Rz k ah) (hlea : al ≤ ah) (hz0 : al = z0) (hz1 : ah = z1) (hk : k ≤ 1000000000000) (w : World) (h : St W l w) : Rt 88 #[.agg (RC al), .agg (RC ah)] w (.tuple #[.agg (VC z0 z1), .int .i64 0]) := by
 subst hz0 hz1
 have HT := yh (tabS hT h); clear hT h
 have Z_al := yh Zal; clear Zal
 have Z_ah := yh Zah; clear Zah
 obtain ⟨vc, hvc, vcr⟩ : ∃ v, cmpQ al ah = v ∧ decide (0 < v) = false := ⟨_, rfl, decide_eq_false (by have := cmp_le hlea; omega)⟩
 have HVC := yh hvc; clear hvc hlea
 go_enter Tryz.func88, Tryz.ntmps88
 have HS : St w [] w := St.start
 go_upto_region 0 with fail
 refine rgT [] HS ?_
 refine bX (RC al) ?_
 intro bk2 _ _ e2
 refine nZ ?_
 refine bX (RC ah) ?_
 intro bk3 _ _ e3
 obtain ⟨_, _, e3⟩ := Reg.ne2 e3
 refine nZ ?_
 refine aL6 ?_
 intro bk4 _ _ e4
 obtain ⟨_, _, e4⟩ := Reg.ne2 e4
 obtain ⟨_, _, e4⟩ := Reg.ne2 e4
 refine nZ ?_
 refine pU ?_
 refine dn3 bk2 bk3 bk4 fun _ HS1=>?_
 clear HS
 go_upto_region 1 with fail
 refine rgT [] HS1 ?_
 iterate 2 refine lV ?_
 refine cX rfl rfl (cmp_q (k := (1 * k + 0)) HT.out (zm Z_al) (zm Z_ah) HVC.out (by omega)) ?_
 refine pU ?_
 refine dnS fun _ HS2=>?_
 clear HS1
 go_upto_region 3 with fail
 have HPbk4 := HS2.p2
 refine wS [] (Reg.fin.put Reg.fin_no _ _) (StR.move (StR.no HPbk4)) ?_
 iterate 2 refine lV ?_
 refine cX rfl rfl (min_q (k := (1 * k + 0)) HT.out (zm Z_al) (zm Z_al) (min_self _) (by omega)) ?_
 iterate 2 refine lV ?_
 refine cX rfl rfl (min_q (k := (1 * k + 0)) HT.out (zm Z_ah) (zm Z_ah) (min_self _) (by omega)) ?_
 refine pV (.agg (VC al ah)) (fun w => bld_Span rfl rfl rfl w) ?_
 refine sV (VC_one _ _) ?_
 refine pU ?_
 refine dn1 bk4 fun _ HS3=>?_
 clear HS2 HPbk4
 go_wp2_with fail
 exact ret_own2 rfl rfl rfl rfl HS3 (by repeat first|exact mC|apply mT) (n := 6) rfl (by kernel_rfl) ⟨rfl, HS3.below⟩
theorem ssq0_q {k : Nat} {al ah z0 z1 : Rat} (hT : Tab W) (Zal : Rz k al) (Zah : Rz k ah) (hlea : al ≤ ah) (hin : (al ≤ 0 ∧ 0 ≤ ah)) (hz0 : (0 : Rat) = z0) (hz1 : maxQ (al * al) (ah * ah) = z1) (hk : k ≤ 100000000000) (w : World) (h : St W l w) : Rt 41 #[.agg (VC al ah)] w (.agg (VC z0 z1)) := by
 subst hz0
 subst hz1
 have HT := yh (tabS hT h); clear hT h
 have Z_al := yh Zal; clear Zal
 have Z_ah := yh Zah; clear Zah
 have HLE := yh hlea; clear hlea
 have HIN := yh (show decide (al ≤ (0 : Rat) ∧ (0 : Rat) ≤ ah) = true from decide_eq_true hin); clear hin
 go_enter Tryz.func41, Tryz.ntmps41
 have HS : St w [] w := St.start
 go_upto_region 0 with fail
 refine rgT [] HS ?_
 refine bX (VC al ah) ?_
 intro bk1 _ _ e1
 refine nZ ?_
 refine aL6 ?_
 intro bk2 _ _ e2
 obtain ⟨_, _, e2⟩ := Reg.ne2 e2
 refine nZ ?_
 refine dn2 bk1 bk2 fun _ HS1=>?_
 clear HS
 go_upto_region 1 with fail
 refine wp_seq_text [0] (StR.move (StR.no HS1)) ?_
 refine gV ?_
 refine cX rfl rfl (sfit_q (k := (1 * k + 0)) HT.out (zm Z_al) (zm Z_ah) HLE.out rfl rfl (by omega)) ?_
 refine sV (VC_one _ _) ?_
 refine dn1 bk1 fun _ HS2=>?_
 clear HS1
 go_upto_region 2 with fail
 refine rgW [23] HS2 ?_
 refine pU ?_
 refine lA (RC al) ?_
 refine pU ?_
 refine lA (RC al) ?_
 refine cX rfl rfl (mul_q (k := (1 * k + 0)) HT.out (zm Z_al) (zm Z_al) rfl (by omega)) ?_
 refine pU ?_
 refine lA (RC ah) ?_
 refine pU ?_
 refine lA (RC ah) ?_
 refine cX rfl rfl (mul_q (k := (1 * k + 0)) HT.out (zm Z_ah) (zm Z_ah) rfl (by omega)) ?_
 refine Seq.slice (n := 2) (e := 27) (cs := SL2 (al * al) (ah * ah)) rfl rfl (fun w => slc_2 rfl rfl rfl w) ?_
 intro bk16 _ _ e16
 refine nZ ?_
 refine Seq.callAny rfl rfl rfl rfl (by kernel_rfl) (fun w h => around_2 (k := (2 * k + 0)) HT.out ((Z_al.out.mul Z_al.out).more (by omega)) ((Z_ah.out.mul Z_ah.out).more (by omega)) rfl rfl (by omega) _ w h.st (h.reg _ _ _ (by repeat first|exact rS|refine rN ‹_› ?_)).2.2) (nZ ?_)
 refine aL6 ?_
 intro bk3 _ _ e3
 obtain ⟨_, _, e3⟩ := Reg.ne2 e3
 refine nZ ?_
 refine sV (VC_one _ _) ?_
 refine dn2 bk16 bk3 fun _ HS3=>?_
 clear HS2
 go_upto_region 3 with fail
 refine rgW [] HS3 ?_
 refine lV ?_
 refine cX rfl rfl (of_q HT.out (by omega) (by omega) (show ((0 : Int) : Rat) = (0 : Rat) from rfl)) ?_
 refine cX rfl rfl (has_q (k := (1 * k + 2)) HT.out (zm Z_al) (zm Z_ah) ((show Rz 2 (0 : Rat) from Rz.lit (z := 0) rfl (by decide)).more (by omega)) HLE.out HIN.out (by omega)) ?_
 refine dnS fun _ HS4=>?_
 clear HS3
 go_upto_region 4 with fail
 have HPbk3 := HS4.p1
 refine wp_seq_text [] (StR.move (StR.no HPbk3)) ?_
 refine cX rfl rfl (of_q HT.out (by omega) (by omega) (show ((0 : Int) : Rat) = (0 : Rat) from rfl)) ?_
 refine pU ?_
 refine Seq.storeAt (v := .agg (RC (0 : Rat))) rfl rfl rfl rfl rfl (by repeat first|exact rS|refine rN ‹_› ?_) (Nat.le_of_ble_eq_true rfl) (by show _ = some 3; kernel_rfl) (RC_one _) (cs' := VC (0 : Rat) (maxQ (al * al) (ah * ah))) rfl (nZ ?_)
 refine dn1 bk3 fun _ HS5=>?_
 clear HS4 HPbk3
 go_upto_region 5 with fail
 have HPbk2 := HS5.p3
 refine wp_seq_text [] (StR.move (StR.no HPbk2)) ?_
 refine lV ?_
 refine sV (VC_one _ _) ?_
 refine dn1 bk2 fun _ HS6=>?_
 clear HS5 HPbk2
 go_wp2_with fail
 exact rO HS6 ⟨rfl, HS6.below⟩
theorem sbegun_q (hT : Tab W) (w : World) (h : St W l w) : Rt 61 #[] w (.bool true) := by
 have HT := yh (tabS hT h); clear hT h
 obtain ⟨hf, eh⟩ : ∃ z, ((-1 : Int) : Rat) / ((2 : Int) : Rat) = z := ⟨_, rfl⟩
 obtain ⟨tw, et⟩ : ∃ z, ((2 : Int) : Rat) / ((1 : Int) : Rat) = z := ⟨_, rfl⟩
 have Z_hf := yh (show Rz 4 hf from eh ▸ num_s (-1) 2 (by decide) (by decide) (by decide))
 have Z_tw := yh (show Rz 4 tw from et ▸ num_s 2 1 (by decide) (by decide) (by decide))
 have HLE := yh (show hf ≤ tw by rw [← eh, ← et]; decide +kernel)
 have HZ := yh (show (hf ≤ 0 ∧ 0 ≤ tw) ∧ (0 : Rat) = 0 ∧ maxQ (hf * hf) (tw * tw) = 4 by rw [← eh, ← et]; exact ⟨by decide +kernel, rfl, by decide +kernel⟩)
 have EH := yh eh; clear eh
 have ET := yh et; clear et
 go_enter Tryz.func61, Tryz.ntmps61
 have HS : St w [] w := St.start
 go_upto_region 0 with fail
 refine rgT [] HS ?_
 refine pU ?_
 refine dnS fun _ HS1=>?_
 clear HS
 go_upto_region 1 with fail
 refine rgT [] HS1 ?_
 refine cX rfl rfl (num_q (m := -1) (n := 2) HT.out (by decide) (by decide) (by decide) EH.out) ?_
 refine cX rfl rfl (num_q (m := 2) (n := 1) HT.out (by decide) (by decide) (by decide) ET.out) ?_
 refine cX rfl rfl (smake_q (k := 4) HT.out Z_hf.out Z_tw.out HLE.out rfl rfl (by omega)) ?_
 refine pU ?_
 refine pV (.agg (VC hf tw)) (fun w => rfl) ?_
 refine pV (.int .i64 0) (fun w => rfl) ?_
 refine aL6 ?_
 intro bk1 _ _ e1
 refine nZ ?_
 refine sV (VC_one _ _) ?_
 refine pU ?_
 refine dn1 bk1 fun _ HS2=>?_
 clear HS1
 go_upto_region 2 with fail
 refine rgT [] HS2 ?_
 refine cL (begun_q HT.out) ?_
 iterate 5 refine pU ?_
 refine lV ?_
 refine cX rfl rfl (sgood_q (k := 4) HT.out (zm Z_hf) (zm Z_tw) HLE.out  (by omega)) ?_
 iterate 2 refine pU ?_
 refine lV ?_
 refine cX rfl rfl (ssq0_q (k := 4) HT.out Z_hf.out Z_tw.out HLE.out HZ.out.1 HZ.out.2.1 HZ.out.2.2 (by omega)) ?_
 refine cX rfl rfl (num_q (m := 0) (n := 1) HT.out (by decide) (by decide) (by decide) (show ((0 : Int) : Rat) / ((1 : Int) : Rat) = (0 : Rat) from (by decide +kernel))) ?_
 refine cX rfl rfl (num_q (m := 4) (n := 1) HT.out (by decide) (by decide) (by decide) (show ((4 : Int) : Rat) / ((1 : Int) : Rat) = (4 : Rat) from (by decide +kernel))) ?_
 refine pV (.agg (VC (0 : Rat) (4 : Rat))) (fun w => bld_Span rfl rfl rfl w) ?_
 refine Seq.eqSp rfl rfl rfl rfl rfl (b := true) (decide_eq_true ⟨rfl, rfl⟩) (nZ ?_)
 iterate 2 refine pU ?_
 refine dnS fun _ HS3=>?_
 clear HS2
 go_wp2_with fail
 go_ret
 exact ⟨rfl, HS3.below⟩
end Go.Proofs.YtmchjmflkaiakaaGreatDoor
