/- Joined texts: Sp3 Sp4 Sp5. -/
import Derived.Test.YtmchjmflkaiakaaGreatDoorSp2
import Derived.LoopN
/- package span (printed by lawvec.py). -/
namespace Go.Proofs.YtmchjmflkaiakaaGreatDoor
open Go.RowKit
set_option linter.unusedVariables false
set_option linter.unusedSimpArgs false
set_option maxHeartbeats 2000000
set_option maxRecDepth 20000
variable {W : World} {l : List Own}
theorem sof_q {k : Nat} {t : Rat} {z0 : Rat} {z1 : Rat} (hT : Tab W) (Zt : Rz k t)  (hz0 : t = z0) (hz1 : t = z1) (hk : k ≤ 1000000000000) (w : World) (h : St W l w) :
  Calls Tryz.prog 42 #[.agg (RC t)] w fun e w' => e = .returned (.agg (VC z0 z1)) ∧ Below w.heap.size w w' := by
 subst hz0
 subst hz1
 have HT := Lib.hid (tabS hT h); clear hT h
 have Z_t := Lib.hid Zt; clear Zt
 go_enter Tryz.func42, Tryz.ntmps42
 have HS : St w [] w := St.start
 go_upto_region 0 with fail
 refine rgT [] HS ?_
 refine bX (RC t) ?_
 intro bk1 _ _ hbk1_r
 refine nZ ?_
 refine aL6 ?_
 intro bk2 _ _ hbk2_r
 obtain ⟨_, _, hbk2_r⟩ := Reg.ne2 hbk2_r
 refine nZ ?_
 refine d2 bk1 bk2 fun _ HS1=>?_
 clear HS
 go_upto_region 1 with fail
 refine wp_seq_text [0, 2] (StR.move (StR.no HS1)) ?_
 refine gV ?_
 refine gV ?_
 refine cX rfl rfl (min_q (k := (1 * k + 0)) HT.out (Z_t.out.more (by omega)) (Z_t.out.more (by omega)) (min_self _) (by omega)) ?_
 refine sV (RC_one _) ?_
 refine d1 bk1 fun _ HS2=>?_
 clear HS1
 go_upto_region 2 with fail
 have HPbk2 := HS2.p1
 refine wp_seq_text [] (StR.move (StR.no HPbk2)) ?_
 iterate 2 refine lV ?_
 refine pV (.agg (VC t t)) (fun w => bld_Span rfl rfl rfl w) ?_
 refine sV (VC_one _ _) ?_
 refine d1 bk2 fun _ HS3=>?_
 clear HS2 HPbk2
 go_wp2_with fail
 exact rO HS3 ⟨rfl, HS3.below⟩
theorem around_2 {k : Nat} {x y : Rat} {z0 z1 : Rat} (hT : Tab W) (Zx : Rz k x) (Zy : Rz k y) (hz0 : minQ x y = z0) (hz1 : maxQ x y = z1) (hk : k ≤ 1000000000000) (g : Nat) (w : World) (h : St W l w) (hg : Blk w g 27 (SL2 x y)) :
  Calls Tryz.prog 89 #[.slice (some ⟨g, 0, none⟩) 2 2] w fun e w' => e = .returned (.agg (VC z0 z1)) ∧ Below w.heap.size w w' := by
 subst hz0
 subst hz1
 have HT := Lib.hid (tabS hT h); clear hT h
 have HG := Lib.hid hg; clear hg
 have Z_x := Lib.hid Zx; clear Zx
 have Z_y := Lib.hid Zy; clear Zy
 go_enter Tryz.func89, Tryz.ntmps89
 have HS : St w [] w := St.start
 go_upto_region 0 with fail
 refine rgT [] HS ?_
 refine aL6 ?_
 intro bk2 _ _ hbk2_r
 refine nZ ?_
 refine d1 bk2 fun _ HS1=>?_
 clear HS
 go_upto_region 1 with fail
 refine rgT [] HS1 ?_
 iterate 2 refine pU ?_
 refine Seq.loadAtF rfl rfl rfl rfl HG.out (n := 3) (cs' := RC x) (Nat.le_of_ble_eq_true rfl) (by kernel_rfl) rfl (nZ ?_)
 refine cX rfl rfl (sof_q (k := (1 * k + 0)) HT.out (Z_x.out.more (by omega))  rfl rfl (by omega)) ?_
 refine aL6 ?_
 intro bk3 _ _ hbk3_r
 refine nZ ?_
 refine sV (VC_one _ _) ?_
 refine d1 bk3 fun _ HS2=>?_
 clear HS1
 go_upto_region 2 with fail
 refine rgT [] HS2 ?_
 refine pU ?_
 refine pV (.slice (some ⟨g, 3, none⟩) 1 1) (by intro w; go_simp; try rfl) ?_
 refine pV (.int .i64 1) (by intro w; go_simp; try rfl) ?_
 refine pU ?_
 refine dS fun _ HS3=>?_
 clear HS2
 go_wp2_with fail
 refine wp_loop_rounds 2 ?_
 rw [rounds_succ]
 go_upto_region 3 with fail
 refine rgT [] HS3 ?_
 refine pU ?_
 refine dS fun _ HS4=>?_
 clear HS3
 go_upto_region 4 with fail
 refine rgT [] HS4 ?_
 refine pU ?_
 refine Seq.loadAtF rfl rfl rfl rfl HG.out (n := 3) (cs' := RC y) (Nat.le_of_ble_eq_true rfl) (by kernel_rfl) rfl (nZ ?_)
 refine aL3 ?_
 intro bk5 _ _ hbk5_r
 refine nZ ?_
 refine sV (RC_one _) ?_
 refine d1 bk5 fun _ HS5=>?_
 clear HS4
 go_upto_region 5 with fail
 have HPbk3 := HS5.p1
 refine wS [2, 10] (Reg.fin.put Reg.fin_no _ _) (StR.move (StR.no HPbk3)) ?_
 refine pU ?_
 refine Seq.getAt rfl rfl rfl rfl (by repeat first|exact rS|refine rN ‹_› ?_) (n := 3) (cs' := RC x) (Nat.le_of_ble_eq_true rfl) (by kernel_rfl) rfl (nZ ?_)
 refine lV ?_
 refine cX rfl rfl (min_q (k := (1 * k + 0)) HT.out (Z_x.out.more (by omega)) (Z_y.out.more (by omega)) rfl (by omega)) ?_
 refine pU ?_
 refine Seq.getAt rfl rfl rfl rfl (by repeat first|exact rS|refine rN ‹_› ?_) (n := 3) (cs' := RC x) (Nat.le_of_ble_eq_true rfl) (by kernel_rfl) rfl (nZ ?_)
 refine lV ?_
 refine cX rfl rfl (max_q (k := (1 * k + 0)) HT.out (Z_x.out.more (by omega)) (Z_y.out.more (by omega)) rfl (by omega)) ?_
 refine pU ?_
 refine Seq.storeAt (v := .agg (RC (minQ x y))) rfl rfl rfl rfl rfl (by repeat first|exact rS|refine rN ‹_› ?_) (Nat.le_of_ble_eq_true rfl) (by show _ = some 3; kernel_rfl) (RC_one _) (cs' := VC (minQ x y) x) rfl (nZ ?_)
 refine pU ?_
 refine Seq.storeAt (v := .agg (RC (maxQ x y))) rfl rfl rfl rfl rfl (by repeat first|exact rS|refine rN ‹_› ?_) (Nat.le_of_ble_eq_true rfl) (by show _ = some 3; kernel_rfl) (RC_one _) (cs' := VC (minQ x y) (maxQ x y)) rfl (nZ ?_)
 refine d1 bk3 fun _ HS6=>?_
 clear HS5 HPbk3
 go_upto_region 6 with fail
 refine rgT [] HS6 ?_
 refine pV (.int .i64 1) (by intro w; go_simp; try rfl) ?_
 refine pU ?_
 refine dS fun _ HS7=>?_
 clear HS6
 go_wp2_with fail
 rw [rounds_succ]
 go_upto_region 3 with fail
 refine rgT [] HS7 ?_
 refine pU ?_
 refine dS fun _ HS8=>?_
 clear HS7
 go_upto_region 7 with fail
 have HPbk2 := HS8.p2
 refine wp_seq_text [] (StR.move (StR.no HPbk2)) ?_
 refine lV ?_
 refine sV (VC_one _ _) ?_
 refine d1 bk2 fun _ HS9=>?_
 clear HS8 HPbk2
 go_wp2_with fail
 exact rO HS9 ⟨rfl, HS9.below⟩
theorem around_4 {k : Nat} {x y z u : Rat} {z0 z1 : Rat} (hT : Tab W) (Zx : Rz k x) (Zy : Rz k y) (Zz : Rz k z) (Zu : Rz k u) (hz0 : minQ (minQ (minQ x y) z) u = z0) (hz1 : maxQ (maxQ (maxQ x y) z) u = z1) (hk : k ≤ 1000000000000) (g : Nat) (w : World) (h : St W l w) (hg : Blk w g 27 (SL4 x y z u)) :
  Calls Tryz.prog 89 #[.slice (some ⟨g, 0, none⟩) 4 4] w fun e w' => e = .returned (.agg (VC z0 z1)) ∧ Below w.heap.size w w' := by
 subst hz0
 subst hz1
 have HT := Lib.hid (tabS hT h); clear hT h
 have HG := Lib.hid hg; clear hg
 have Z_x := Lib.hid Zx; clear Zx
 have Z_y := Lib.hid Zy; clear Zy
 have Z_z := Lib.hid Zz; clear Zz
 have Z_u := Lib.hid Zu; clear Zu
 go_enter Tryz.func89, Tryz.ntmps89
 have HS : St w [] w := St.start
 go_upto_region 0 with fail
 refine rgT [] HS ?_
 refine aL6 ?_
 intro bk2 _ _ hbk2_r
 refine nZ ?_
 refine d1 bk2 fun _ HS1=>?_
 clear HS
 go_upto_region 1 with fail
 refine rgT [] HS1 ?_
 iterate 2 refine pU ?_
 refine Seq.loadAtF rfl rfl rfl rfl HG.out (n := 3) (cs' := RC x) (Nat.le_of_ble_eq_true rfl) (by kernel_rfl) rfl (nZ ?_)
 refine cX rfl rfl (sof_q (k := (1 * k + 0)) HT.out (Z_x.out.more (by omega))  rfl rfl (by omega)) ?_
 refine aL6 ?_
 intro bk3 _ _ hbk3_r
 refine nZ ?_
 refine sV (VC_one _ _) ?_
 refine d1 bk3 fun _ HS2=>?_
 clear HS1
 go_upto_region 2 with fail
 refine rgT [] HS2 ?_
 refine pU ?_
 refine pV (.slice (some ⟨g, 3, none⟩) 3 3) (by intro w; go_simp; try rfl) ?_
 refine pV (.int .i64 3) (by intro w; go_simp; try rfl) ?_
 refine pU ?_
 refine dS fun _ HS3=>?_
 clear HS2
 go_wp2_with fail
 refine wp_loop_rounds 4 ?_
 rw [rounds_succ]
 go_upto_region 3 with fail
 refine rgT [] HS3 ?_
 refine pU ?_
 refine dS fun _ HS4=>?_
 clear HS3
 go_upto_region 4 with fail
 refine rgT [] HS4 ?_
 refine pU ?_
 refine Seq.loadAtF rfl rfl rfl rfl HG.out (n := 3) (cs' := RC y) (Nat.le_of_ble_eq_true rfl) (by kernel_rfl) rfl (nZ ?_)
 refine aL3 ?_
 intro bk5 _ _ hbk5_r
 refine nZ ?_
 refine sV (RC_one _) ?_
 refine d1 bk5 fun _ HS5=>?_
 clear HS4
 go_upto_region 5 with fail
 have HPbk3 := HS5.p1
 refine wS [2, 10] (Reg.fin.put Reg.fin_no _ _) (StR.move (StR.no HPbk3)) ?_
 refine pU ?_
 refine Seq.getAt rfl rfl rfl rfl (by repeat first|exact rS|refine rN ‹_› ?_) (n := 3) (cs' := RC x) (Nat.le_of_ble_eq_true rfl) (by kernel_rfl) rfl (nZ ?_)
 refine lV ?_
 refine cX rfl rfl (min_q (k := (1 * k + 0)) HT.out (Z_x.out.more (by omega)) (Z_y.out.more (by omega)) rfl (by omega)) ?_
 refine pU ?_
 refine Seq.getAt rfl rfl rfl rfl (by repeat first|exact rS|refine rN ‹_› ?_) (n := 3) (cs' := RC x) (Nat.le_of_ble_eq_true rfl) (by kernel_rfl) rfl (nZ ?_)
 refine lV ?_
 refine cX rfl rfl (max_q (k := (1 * k + 0)) HT.out (Z_x.out.more (by omega)) (Z_y.out.more (by omega)) rfl (by omega)) ?_
 refine pU ?_
 refine Seq.storeAt (v := .agg (RC (minQ x y))) rfl rfl rfl rfl rfl (by repeat first|exact rS|refine rN ‹_› ?_) (Nat.le_of_ble_eq_true rfl) (by show _ = some 3; kernel_rfl) (RC_one _) (cs' := VC (minQ x y) x) rfl (nZ ?_)
 refine pU ?_
 refine Seq.storeAt (v := .agg (RC (maxQ x y))) rfl rfl rfl rfl rfl (by repeat first|exact rS|refine rN ‹_› ?_) (Nat.le_of_ble_eq_true rfl) (by show _ = some 3; kernel_rfl) (RC_one _) (cs' := VC (minQ x y) (maxQ x y)) rfl (nZ ?_)
 refine d1 bk3 fun _ HS6=>?_
 clear HS5 HPbk3
 go_upto_region 6 with fail
 refine rgT [] HS6 ?_
 refine pV (.int .i64 1) (by intro w; go_simp; try rfl) ?_
 refine pU ?_
 refine dS fun _ HS7=>?_
 clear HS6
 go_wp2_with fail
 rw [rounds_succ]
 go_upto_region 3 with fail
 refine rgT [] HS7 ?_
 refine pU ?_
 refine dS fun _ HS8=>?_
 clear HS7
 go_upto_region 4 with fail
 refine rgT [] HS8 ?_
 refine pU ?_
 refine Seq.loadAtF rfl rfl rfl rfl HG.out (n := 3) (cs' := RC z) (Nat.le_of_ble_eq_true rfl) (by kernel_rfl) rfl (nZ ?_)
 refine aL3 ?_
 intro bk5_1 _ _ hbk5_1_r
 refine nZ ?_
 refine sV (RC_one _) ?_
 refine d1 bk5_1 fun _ HS9=>?_
 clear HS8
 go_upto_region 5 with fail
 have HPbk3 := HS9.p1
 refine wS [2, 10] (Reg.fin.put Reg.fin_no _ _) (StR.move (StR.no HPbk3)) ?_
 refine pU ?_
 refine Seq.getAt rfl rfl rfl rfl (by repeat first|exact rS|refine rN ‹_› ?_) (n := 3) (cs' := RC (minQ x y)) (Nat.le_of_ble_eq_true rfl) (by kernel_rfl) rfl (nZ ?_)
 refine lV ?_
 refine cX rfl rfl (min_q (k := (1 * k + 0)) HT.out ((Rz.min (k := (1 * k + 0)) (Z_x.out.more (by omega)) (Z_y.out.more (by omega))).more (by omega)) (Z_z.out.more (by omega)) rfl (by omega)) ?_
 refine pU ?_
 refine Seq.getAt rfl rfl rfl rfl (by repeat first|exact rS|refine rN ‹_› ?_) (n := 3) (cs' := RC (maxQ x y)) (Nat.le_of_ble_eq_true rfl) (by kernel_rfl) rfl (nZ ?_)
 refine lV ?_
 refine cX rfl rfl (max_q (k := (1 * k + 0)) HT.out ((Rz.max (k := (1 * k + 0)) (Z_x.out.more (by omega)) (Z_y.out.more (by omega))).more (by omega)) (Z_z.out.more (by omega)) rfl (by omega)) ?_
 refine pU ?_
 refine Seq.storeAt (v := .agg (RC (minQ (minQ x y) z))) rfl rfl rfl rfl rfl (by repeat first|exact rS|refine rN ‹_› ?_) (Nat.le_of_ble_eq_true rfl) (by show _ = some 3; kernel_rfl) (RC_one _) (cs' := VC (minQ (minQ x y) z) (maxQ x y)) rfl (nZ ?_)
 refine pU ?_
 refine Seq.storeAt (v := .agg (RC (maxQ (maxQ x y) z))) rfl rfl rfl rfl rfl (by repeat first|exact rS|refine rN ‹_› ?_) (Nat.le_of_ble_eq_true rfl) (by show _ = some 3; kernel_rfl) (RC_one _) (cs' := VC (minQ (minQ x y) z) (maxQ (maxQ x y) z)) rfl (nZ ?_)
 refine d1 bk3 fun _ HS10=>?_
 clear HS9 HPbk3
 go_upto_region 6 with fail
 refine rgT [] HS10 ?_
 refine pV (.int .i64 2) (by intro w; go_simp; try rfl) ?_
 refine pU ?_
 refine dS fun _ HS11=>?_
 clear HS10
 go_wp2_with fail
 rw [rounds_succ]
 go_upto_region 3 with fail
 refine rgT [] HS11 ?_
 refine pU ?_
 refine dS fun _ HS12=>?_
 clear HS11
 go_upto_region 4 with fail
 refine rgT [] HS12 ?_
 refine pU ?_
 refine Seq.loadAtF rfl rfl rfl rfl HG.out (n := 3) (cs' := RC u) (Nat.le_of_ble_eq_true rfl) (by kernel_rfl) rfl (nZ ?_)
 refine aL3 ?_
 intro bk5_2 _ _ hbk5_2_r
 refine nZ ?_
 refine sV (RC_one _) ?_
 refine d1 bk5_2 fun _ HS13=>?_
 clear HS12
 go_upto_region 5 with fail
 have HPbk3 := HS13.p1
 refine wS [2, 10] (Reg.fin.put Reg.fin_no _ _) (StR.move (StR.no HPbk3)) ?_
 refine pU ?_
 refine Seq.getAt rfl rfl rfl rfl (by repeat first|exact rS|refine rN ‹_› ?_) (n := 3) (cs' := RC (minQ (minQ x y) z)) (Nat.le_of_ble_eq_true rfl) (by kernel_rfl) rfl (nZ ?_)
 refine lV ?_
 refine cX rfl rfl (min_q (k := (1 * k + 0)) HT.out ((Rz.min (k := (1 * k + 0)) ((Rz.min (k := (1 * k + 0)) (Z_x.out.more (by omega)) (Z_y.out.more (by omega))).more (by omega)) (Z_z.out.more (by omega))).more (by omega)) (Z_u.out.more (by omega)) rfl (by omega)) ?_
 refine pU ?_
 refine Seq.getAt rfl rfl rfl rfl (by repeat first|exact rS|refine rN ‹_› ?_) (n := 3) (cs' := RC (maxQ (maxQ x y) z)) (Nat.le_of_ble_eq_true rfl) (by kernel_rfl) rfl (nZ ?_)
 refine lV ?_
 refine cX rfl rfl (max_q (k := (1 * k + 0)) HT.out ((Rz.max (k := (1 * k + 0)) ((Rz.max (k := (1 * k + 0)) (Z_x.out.more (by omega)) (Z_y.out.more (by omega))).more (by omega)) (Z_z.out.more (by omega))).more (by omega)) (Z_u.out.more (by omega)) rfl (by omega)) ?_
 refine pU ?_
 refine Seq.storeAt (v := .agg (RC (minQ (minQ (minQ x y) z) u))) rfl rfl rfl rfl rfl (by repeat first|exact rS|refine rN ‹_› ?_) (Nat.le_of_ble_eq_true rfl) (by show _ = some 3; kernel_rfl) (RC_one _) (cs' := VC (minQ (minQ (minQ x y) z) u) (maxQ (maxQ x y) z)) rfl (nZ ?_)
 refine pU ?_
 refine Seq.storeAt (v := .agg (RC (maxQ (maxQ (maxQ x y) z) u))) rfl rfl rfl rfl rfl (by repeat first|exact rS|refine rN ‹_› ?_) (Nat.le_of_ble_eq_true rfl) (by show _ = some 3; kernel_rfl) (RC_one _) (cs' := VC (minQ (minQ (minQ x y) z) u) (maxQ (maxQ (maxQ x y) z) u)) rfl (nZ ?_)
 refine d1 bk3 fun _ HS14=>?_
 clear HS13 HPbk3
 go_upto_region 6 with fail
 refine rgT [] HS14 ?_
 refine pV (.int .i64 3) (by intro w; go_simp; try rfl) ?_
 refine pU ?_
 refine dS fun _ HS15=>?_
 clear HS14
 go_wp2_with fail
 rw [rounds_succ]
 go_upto_region 3 with fail
 refine rgT [] HS15 ?_
 refine pU ?_
 refine dS fun _ HS16=>?_
 clear HS15
 go_upto_region 7 with fail
 have HPbk2 := HS16.p4
 refine wp_seq_text [] (StR.move (StR.no HPbk2)) ?_
 refine lV ?_
 refine sV (VC_one _ _) ?_
 refine d1 bk2 fun _ HS17=>?_
 clear HS16 HPbk2
 go_wp2_with fail
 exact rO HS17 ⟨rfl, HS17.below⟩
theorem sgood_q {k : Nat} {al ah : Rat} (hT : Tab W) (Zal : Rz k al) (Zah : Rz k ah) (hlea : al ≤ ah)  (hk : k ≤ 1000000000000) (w : World) (h : St W l w) :
  Calls Tryz.prog 91 #[.agg (VC al ah)] w fun e w' => e = .returned (.bool true) ∧ Below w.heap.size w w' := by
 have HT := Lib.hid (tabS hT h); clear hT h
 have Z_al := Lib.hid Zal; clear Zal
 have Z_ah := Lib.hid Zah; clear Zah
 obtain ⟨vc, hvc, vcr⟩ : ∃ v, cmpQ al ah = v ∧ v ≤ 0 := ⟨_, rfl, cmp_le hlea⟩
 have HVC := Lib.hid hvc; clear hvc
 have HLE := Lib.hid hlea; clear hlea
 go_enter Tryz.func91, Tryz.ntmps91
 have HS : St w [] w := St.start
 go_upto_region 0 with fail
 refine rgT [] HS ?_
 refine bX (VC al ah) ?_
 intro bk1 _ _ hbk1_r
 refine nZ ?_
 refine pU ?_
 refine d1 bk1 fun _ HS1=>?_
 clear HS
 go_upto_region 1 with fail
 refine rgT [] HS1 ?_
 refine pU ?_
 refine lA (RC al) ?_
 refine cX rfl rfl (good_q (k := (1 * k + 0)) HT.out (Z_al.out.more (by omega)) (by omega)) ?_
 iterate 2 refine pU ?_
 refine lA (RC ah) ?_
 refine cX rfl rfl (good_q (k := (1 * k + 0)) HT.out (Z_ah.out.more (by omega)) (by omega)) ?_
 iterate 3 refine pU ?_
 refine lA (RC al) ?_
 refine pU ?_
 refine lA (RC ah) ?_
 refine cX rfl rfl (cmp_q (k := (1 * k + 0)) HT.out (Z_al.out.more (by omega)) (Z_ah.out.more (by omega)) HVC.out (by omega)) ?_
 iterate 3 refine pU ?_
 refine dS fun _ HS2=>?_
 clear HS1
 go_wp2_with fail
 go_ret
 exact ⟨rfl, HS2.below⟩
theorem sfit_q {k : Nat} {al ah : Rat} {z0 : Rat} {z1 : Rat} (hT : Tab W) (Zal : Rz k al) (Zah : Rz k ah) (hlea : al ≤ ah) (hz0 : al = z0) (hz1 : ah = z1) (hk : k ≤ 1000000000000) (w : World) (h : St W l w) :
  Calls Tryz.prog 83 #[.agg (VC al ah)] w fun e w' => e = .returned (.agg (VC z0 z1)) ∧ Below w.heap.size w w' := by
 subst hz0
 subst hz1
 have HT := Lib.hid (tabS hT h); clear hT h
 have Z_al := Lib.hid Zal; clear Zal
 have Z_ah := Lib.hid Zah; clear Zah
 go_enter Tryz.func83, Tryz.ntmps83
 have HS : St w [] w := St.start
 go_upto_region 0 with fail
 refine rgT [] HS ?_
 refine bX (VC al ah) ?_
 intro bk1 _ _ hbk1_r
 refine nZ ?_
 refine aL6 ?_
 intro bk2 _ _ hbk2_r
 obtain ⟨_, _, hbk2_r⟩ := Reg.ne2 hbk2_r
 refine nZ ?_
 refine d2 bk1 bk2 fun _ HS1=>?_
 clear HS
 go_upto_region 1 with fail
 refine rgT [] HS1 ?_
 refine lV ?_
 refine cX rfl rfl (sgood_q (k := (1 * k + 0)) HT.out (Z_al.out.more (by omega)) (Z_ah.out.more (by omega)) hlea  (by omega)) ?_
 refine pU ?_
 refine dS fun _ HS2=>?_
 clear HS1
 go_upto_region 3 with fail
 have HPbk2 := HS2.p1
 refine wp_seq_text [] (StR.move (StR.no HPbk2)) ?_
 refine lV ?_
 refine sV (VC_one _ _) ?_
 refine d1 bk2 fun _ HS3=>?_
 clear HS2 HPbk2
 go_wp2_with fail
 exact rO HS3 ⟨rfl, HS3.below⟩
theorem sadd_q {k : Nat} {al ah bl bh : Rat} {z0 : Rat} {z1 : Rat} (hT : Tab W) (Zal : Rz k al) (Zah : Rz k ah) (Zbl : Rz k bl) (Zbh : Rz k bh) (hlea : al ≤ ah) (hleb : bl ≤ bh) (hz0 : al + bl = z0) (hz1 : ah + bh = z1) (hk : k ≤ 1000000000000) (w : World) (h : St W l w) :
  Calls Tryz.prog 40 #[.agg (VC al ah), .agg (VC bl bh)] w fun e w' => e = .returned (.agg (VC z0 z1)) ∧ Below w.heap.size w w' := by
 subst hz0
 subst hz1
 have HT := Lib.hid (tabS hT h); clear hT h
 have Z_al := Lib.hid Zal; clear Zal
 have Z_ah := Lib.hid Zah; clear Zah
 have Z_bl := Lib.hid Zbl; clear Zbl
 have Z_bh := Lib.hid Zbh; clear Zbh
 go_enter Tryz.func40, Tryz.ntmps40
 have HS : St w [] w := St.start
 go_upto_region 0 with fail
 refine rgT [] HS ?_
 refine bX (VC al ah) ?_
 intro bk2 _ _ hbk2_r
 refine nZ ?_
 refine bX (VC bl bh) ?_
 intro bk3 _ _ hbk3_r
 obtain ⟨_, _, hbk3_r⟩ := Reg.ne2 hbk3_r
 refine nZ ?_
 refine aL6 ?_
 intro bk4 _ _ hbk4_r
 obtain ⟨_, _, hbk4_r⟩ := Reg.ne2 hbk4_r
 obtain ⟨_, _, hbk4_r⟩ := Reg.ne2 hbk4_r
 refine nZ ?_
 refine Seq.done fun ws1 hws => ?_
 have HS1 := hws.q3 (p := bk2) (q := bk3) (r := bk4)
 clear HS hws
 go_upto_region 1 with fail
 have HPbk3 := HS1.p1
 have HPbk2 := HPbk3.p1
 refine wS [0, 4] (Reg.fin.put (Reg.fin.put Reg.fin_no _ _) _ _) (StR.move (StR.move (StR.no HPbk2))) ?_
 refine gV ?_
 refine cX rfl rfl (sfit_q (k := (1 * k + 0)) HT.out (Z_al.out.more (by omega)) (Z_ah.out.more (by omega)) hlea rfl rfl (by omega)) ?_
 refine gV ?_
 refine cX rfl rfl (sfit_q (k := (1 * k + 0)) HT.out (Z_bl.out.more (by omega)) (Z_bh.out.more (by omega)) hleb rfl rfl (by omega)) ?_
 refine sV (VC_one _ _) ?_
 refine sV (VC_one _ _) ?_
 refine d2 bk2 bk3 fun _ HS2=>?_
 clear HS1 HPbk3 HPbk2
 go_upto_region 2 with fail
 have HPbk4 := HS2.p2
 refine wS [] (Reg.fin.put Reg.fin_no _ _) (StR.move (StR.no HPbk4)) ?_
 refine pU ?_
 refine lA (RC al) ?_
 refine pU ?_
 refine lA (RC bl) ?_
 refine cX rfl rfl (add_q (k := (1 * k + 0)) HT.out (Z_al.out.more (by omega)) (Z_bl.out.more (by omega)) rfl (by omega)) ?_
 refine pU ?_
 refine lA (RC ah) ?_
 refine pU ?_
 refine lA (RC bh) ?_
 refine cX rfl rfl (add_q (k := (1 * k + 0)) HT.out (Z_ah.out.more (by omega)) (Z_bh.out.more (by omega)) rfl (by omega)) ?_
 refine pV (.agg (VC (al + bl) (ah + bh))) (fun w => bld_Span rfl rfl rfl w) ?_
 refine sV (VC_one _ _) ?_
 refine d1 bk4 fun _ HS3=>?_
 clear HS2 HPbk4
 go_wp2_with fail
 exact rO HS3 ⟨rfl, HS3.below⟩
theorem ssub_q {k : Nat} {al ah bl bh : Rat} {z0 : Rat} {z1 : Rat} (hT : Tab W) (Zal : Rz k al) (Zah : Rz k ah) (Zbl : Rz k bl) (Zbh : Rz k bh) (hlea : al ≤ ah) (hleb : bl ≤ bh) (hz0 : al - bh = z0) (hz1 : ah - bl = z1) (hk : k ≤ 1000000000000) (w : World) (h : St W l w) :
  Calls Tryz.prog 44 #[.agg (VC al ah), .agg (VC bl bh)] w fun e w' => e = .returned (.agg (VC z0 z1)) ∧ Below w.heap.size w w' := by
 subst hz0
 subst hz1
 have HT := Lib.hid (tabS hT h); clear hT h
 have Z_al := Lib.hid Zal; clear Zal
 have Z_ah := Lib.hid Zah; clear Zah
 have Z_bl := Lib.hid Zbl; clear Zbl
 have Z_bh := Lib.hid Zbh; clear Zbh
 go_enter Tryz.func44, Tryz.ntmps44
 have HS : St w [] w := St.start
 go_upto_region 0 with fail
 refine rgT [] HS ?_
 refine bX (VC al ah) ?_
 intro bk2 _ _ hbk2_r
 refine nZ ?_
 refine bX (VC bl bh) ?_
 intro bk3 _ _ hbk3_r
 obtain ⟨_, _, hbk3_r⟩ := Reg.ne2 hbk3_r
 refine nZ ?_
 refine aL6 ?_
 intro bk4 _ _ hbk4_r
 obtain ⟨_, _, hbk4_r⟩ := Reg.ne2 hbk4_r
 obtain ⟨_, _, hbk4_r⟩ := Reg.ne2 hbk4_r
 refine nZ ?_
 refine Seq.done fun ws1 hws => ?_
 have HS1 := hws.q3 (p := bk2) (q := bk3) (r := bk4)
 clear HS hws
 go_upto_region 1 with fail
 have HPbk3 := HS1.p1
 have HPbk2 := HPbk3.p1
 refine wS [0, 4] (Reg.fin.put (Reg.fin.put Reg.fin_no _ _) _ _) (StR.move (StR.move (StR.no HPbk2))) ?_
 refine gV ?_
 refine cX rfl rfl (sfit_q (k := (1 * k + 0)) HT.out (Z_al.out.more (by omega)) (Z_ah.out.more (by omega)) hlea rfl rfl (by omega)) ?_
 refine gV ?_
 refine cX rfl rfl (sfit_q (k := (1 * k + 0)) HT.out (Z_bl.out.more (by omega)) (Z_bh.out.more (by omega)) hleb rfl rfl (by omega)) ?_
 refine sV (VC_one _ _) ?_
 refine sV (VC_one _ _) ?_
 refine d2 bk2 bk3 fun _ HS2=>?_
 clear HS1 HPbk3 HPbk2
 go_upto_region 2 with fail
 have HPbk4 := HS2.p2
 refine wS [] (Reg.fin.put Reg.fin_no _ _) (StR.move (StR.no HPbk4)) ?_
 refine pU ?_
 refine lA (RC al) ?_
 refine pU ?_
 refine lA (RC bh) ?_
 refine cX rfl rfl (sub_q (k := (1 * k + 0)) HT.out (Z_al.out.more (by omega)) (Z_bh.out.more (by omega)) rfl (by omega)) ?_
 refine pU ?_
 refine lA (RC ah) ?_
 refine pU ?_
 refine lA (RC bl) ?_
 refine cX rfl rfl (sub_q (k := (1 * k + 0)) HT.out (Z_ah.out.more (by omega)) (Z_bl.out.more (by omega)) rfl (by omega)) ?_
 refine pV (.agg (VC (al - bh) (ah - bl))) (fun w => bld_Span rfl rfl rfl w) ?_
 refine sV (VC_one _ _) ?_
 refine d1 bk4 fun _ HS3=>?_
 clear HS2 HPbk4
 go_wp2_with fail
 exact rO HS3 ⟨rfl, HS3.below⟩
theorem smul_q {k : Nat} {al ah bl bh : Rat} {z0 : Rat} {z1 : Rat} (hT : Tab W) (Zal : Rz k al) (Zah : Rz k ah) (Zbl : Rz k bl) (Zbh : Rz k bh) (hlea : al ≤ ah) (hleb : bl ≤ bh) (hz0 : minQ (minQ (minQ (al * bl) (al * bh)) (ah * bl)) (ah * bh) = z0) (hz1 : maxQ (maxQ (maxQ (al * bl) (al * bh)) (ah * bl)) (ah * bh) = z1) (hk : k ≤ 500000000000) (w : World) (h : St W l w) :
  Calls Tryz.prog 45 #[.agg (VC al ah), .agg (VC bl bh)] w fun e w' => e = .returned (.agg (VC z0 z1)) ∧ Below w.heap.size w w' := by
 subst hz0
 subst hz1
 have HT := Lib.hid (tabS hT h); clear hT h
 have Z_al := Lib.hid Zal; clear Zal
 have Z_ah := Lib.hid Zah; clear Zah
 have Z_bl := Lib.hid Zbl; clear Zbl
 have Z_bh := Lib.hid Zbh; clear Zbh
 go_enter Tryz.func45, Tryz.ntmps45
 have HS : St w [] w := St.start
 go_upto_region 0 with fail
 refine rgT [] HS ?_
 refine bX (VC al ah) ?_
 intro bk2 _ _ hbk2_r
 refine nZ ?_
 refine bX (VC bl bh) ?_
 intro bk3 _ _ hbk3_r
 obtain ⟨_, _, hbk3_r⟩ := Reg.ne2 hbk3_r
 refine nZ ?_
 refine aL6 ?_
 intro bk4 _ _ hbk4_r
 obtain ⟨_, _, hbk4_r⟩ := Reg.ne2 hbk4_r
 obtain ⟨_, _, hbk4_r⟩ := Reg.ne2 hbk4_r
 refine nZ ?_
 refine Seq.done fun ws1 hws => ?_
 have HS1 := hws.q3 (p := bk2) (q := bk3) (r := bk4)
 clear HS hws
 go_upto_region 1 with fail
 have HPbk3 := HS1.p1
 have HPbk2 := HPbk3.p1
 refine wS [0, 4] (Reg.fin.put (Reg.fin.put Reg.fin_no _ _) _ _) (StR.move (StR.move (StR.no HPbk2))) ?_
 refine gV ?_
 refine cX rfl rfl (sfit_q (k := (1 * k + 0)) HT.out (Z_al.out.more (by omega)) (Z_ah.out.more (by omega)) hlea rfl rfl (by omega)) ?_
 refine gV ?_
 refine cX rfl rfl (sfit_q (k := (1 * k + 0)) HT.out (Z_bl.out.more (by omega)) (Z_bh.out.more (by omega)) hleb rfl rfl (by omega)) ?_
 refine sV (VC_one _ _) ?_
 refine sV (VC_one _ _) ?_
 refine d2 bk2 bk3 fun _ HS2=>?_
 clear HS1 HPbk3 HPbk2
 go_upto_region 2 with fail
 have HPbk4 := HS2.p2
 refine wS [43] (Reg.fin.put Reg.fin_no _ _) (StR.move (StR.no HPbk4)) ?_
 refine pU ?_
 refine lA (RC al) ?_
 refine pU ?_
 refine lA (RC bl) ?_
 refine cX rfl rfl (mul_q (k := (1 * k + 0)) HT.out (Z_al.out.more (by omega)) (Z_bl.out.more (by omega)) rfl (by omega)) ?_
 refine pU ?_
 refine lA (RC al) ?_
 refine pU ?_
 refine lA (RC bh) ?_
 refine cX rfl rfl (mul_q (k := (1 * k + 0)) HT.out (Z_al.out.more (by omega)) (Z_bh.out.more (by omega)) rfl (by omega)) ?_
 refine pU ?_
 refine lA (RC ah) ?_
 refine pU ?_
 refine lA (RC bl) ?_
 refine cX rfl rfl (mul_q (k := (1 * k + 0)) HT.out (Z_ah.out.more (by omega)) (Z_bl.out.more (by omega)) rfl (by omega)) ?_
 refine pU ?_
 refine lA (RC ah) ?_
 refine pU ?_
 refine lA (RC bh) ?_
 refine cX rfl rfl (mul_q (k := (1 * k + 0)) HT.out (Z_ah.out.more (by omega)) (Z_bh.out.more (by omega)) rfl (by omega)) ?_
 refine Seq.slice (n := 4) (e := 27) (cs := SL4 (al * bl) (al * bh) (ah * bl) (ah * bh)) rfl rfl (fun w => slc_4 rfl rfl rfl rfl rfl w) ?_
 intro bk29 _ _ hbk29_r
 obtain ⟨_, _, hbk29_r⟩ := Reg.ne2 hbk29_r
 refine nZ ?_
 refine Seq.callAny rfl rfl rfl rfl (by kernel_rfl) (fun w h => around_4 (k := (2 * k + 0)) HT.out ((Z_al.out.mul Z_bl.out).more (by omega)) ((Z_al.out.mul Z_bh.out).more (by omega)) ((Z_ah.out.mul Z_bl.out).more (by omega)) ((Z_ah.out.mul Z_bh.out).more (by omega)) rfl rfl (by omega) _ w h.st (h.reg _ _ _ (by repeat first|exact rS|refine rN ‹_› ?_)).2.2) (nZ ?_)
 refine sV (VC_one _ _) ?_
 refine d2 bk4 bk29 fun _ HS3=>?_
 clear HS2 HPbk4
 go_wp2_with fail
 exact rO HS3 ⟨rfl, HS3.below⟩
theorem has_q_tt {k : Nat} {al ah t : Rat} (hT : Tab W) (Zal : Rz k al) (Zah : Rz k ah) (Zt : Rz k t) (hlea : al ≤ ah) (c1 : al ≤ t) (c2 : t ≤ ah) (hk : k ≤ 1000000000000) (w : World) (h : St W l w) :
  Calls Tryz.prog 33 #[.agg (VC al ah), .agg (RC t)] w fun e w' => e = .returned (.bool true) ∧ Below w.heap.size w w' := by
 have HT := Lib.hid (tabS hT h); clear hT h
 have Z_al := Lib.hid Zal; clear Zal
 have Z_ah := Lib.hid Zah; clear Zah
 have Z_t := Lib.hid Zt; clear Zt
 obtain ⟨v1, hv1, r1⟩ : ∃ v, cmpQ al t = v ∧ decide (v ≤ 0) = true := ⟨_, rfl, decide_eq_true (cmp_le c1)⟩
 have H1 := Lib.hid hv1; clear hv1
 clear c1
 obtain ⟨v2, hv2, r2⟩ : ∃ v, cmpQ t ah = v ∧ decide (v ≤ 0) = true := ⟨_, rfl, decide_eq_true (cmp_le c2)⟩
 have H2 := Lib.hid hv2; clear hv2
 clear c2
 go_enter Tryz.func33, Tryz.ntmps33
 have HS : St w [] w := St.start
 go_upto_region 0 with fail
 refine rgT [] HS ?_
 refine bX (VC al ah) ?_
 intro bk2 _ _ hbk2_r
 refine nZ ?_
 refine bX (RC t) ?_
 intro bk3 _ _ hbk3_r
 obtain ⟨_, _, hbk3_r⟩ := Reg.ne2 hbk3_r
 refine nZ ?_
 refine pU ?_
 refine d2 bk2 bk3 fun _ HS1=>?_
 clear HS
 go_upto_region 1 with fail
 refine wp_seq_text [0] (StR.move (StR.no HS1)) ?_
 refine gV ?_
 refine cX rfl rfl (sfit_q (k := (1 * k + 0)) HT.out (Z_al.out.more (by omega)) (Z_ah.out.more (by omega)) hlea rfl rfl (by omega)) ?_
 refine sV (VC_one _ _) ?_
 refine d1 bk2 fun _ HS2=>?_
 clear HS1
 go_upto_region 2 with fail
 refine rgT [] HS2 ?_
 refine pU ?_
 refine lA (RC al) ?_
 refine lV ?_
 refine cX rfl rfl (cmp_q (k := (1 * k + 0)) HT.out (Z_al.out.more (by omega)) (Z_t.out.more (by omega)) H1.out (by omega)) ?_
 iterate 2 refine pU ?_
 refine lV ?_
 refine pU ?_
 refine lA (RC ah) ?_
 refine cX rfl rfl (cmp_q (k := (1 * k + 0)) HT.out (Z_t.out.more (by omega)) (Z_ah.out.more (by omega)) H2.out (by omega)) ?_
 iterate 3 refine pU ?_
 refine dS fun _ HS3=>?_
 clear HS2
 go_wp2_with fail
 go_ret
 exact ⟨rfl, HS3.below⟩
theorem has_q_tf {k : Nat} {al ah t : Rat} (hT : Tab W) (Zal : Rz k al) (Zah : Rz k ah) (Zt : Rz k t) (hlea : al ≤ ah) (c1 : al ≤ t) (c2 : t > ah) (hk : k ≤ 1000000000000) (w : World) (h : St W l w) :
  Calls Tryz.prog 33 #[.agg (VC al ah), .agg (RC t)] w fun e w' => e = .returned (.bool false) ∧ Below w.heap.size w w' := by
 have HT := Lib.hid (tabS hT h); clear hT h
 have Z_al := Lib.hid Zal; clear Zal
 have Z_ah := Lib.hid Zah; clear Zah
 have Z_t := Lib.hid Zt; clear Zt
 obtain ⟨v1, hv1, r1⟩ : ∃ v, cmpQ al t = v ∧ decide (v ≤ 0) = true := ⟨_, rfl, decide_eq_true (cmp_le c1)⟩
 have H1 := Lib.hid hv1; clear hv1
 clear c1
 obtain ⟨v2, hv2, r2⟩ : ∃ v, cmpQ t ah = v ∧ decide (v ≤ 0) = false := ⟨_, rfl, decide_eq_false (by have := cmp_gt c2; omega)⟩
 have H2 := Lib.hid hv2; clear hv2
 clear c2
 go_enter Tryz.func33, Tryz.ntmps33
 have HS : St w [] w := St.start
 go_upto_region 0 with fail
 refine rgT [] HS ?_
 refine bX (VC al ah) ?_
 intro bk2 _ _ hbk2_r
 refine nZ ?_
 refine bX (RC t) ?_
 intro bk3 _ _ hbk3_r
 obtain ⟨_, _, hbk3_r⟩ := Reg.ne2 hbk3_r
 refine nZ ?_
 refine pU ?_
 refine d2 bk2 bk3 fun _ HS1=>?_
 clear HS
 go_upto_region 1 with fail
 refine wp_seq_text [0] (StR.move (StR.no HS1)) ?_
 refine gV ?_
 refine cX rfl rfl (sfit_q (k := (1 * k + 0)) HT.out (Z_al.out.more (by omega)) (Z_ah.out.more (by omega)) hlea rfl rfl (by omega)) ?_
 refine sV (VC_one _ _) ?_
 refine d1 bk2 fun _ HS2=>?_
 clear HS1
 go_upto_region 2 with fail
 refine rgT [] HS2 ?_
 refine pU ?_
 refine lA (RC al) ?_
 refine lV ?_
 refine cX rfl rfl (cmp_q (k := (1 * k + 0)) HT.out (Z_al.out.more (by omega)) (Z_t.out.more (by omega)) H1.out (by omega)) ?_
 iterate 2 refine pU ?_
 refine lV ?_
 refine pU ?_
 refine lA (RC ah) ?_
 refine cX rfl rfl (cmp_q (k := (1 * k + 0)) HT.out (Z_t.out.more (by omega)) (Z_ah.out.more (by omega)) H2.out (by omega)) ?_
 iterate 3 refine pU ?_
 refine dS fun _ HS3=>?_
 clear HS2
 go_wp2_with fail
 go_ret
 exact ⟨rfl, HS3.below⟩
theorem has_q_ff {k : Nat} {al ah t : Rat} (hT : Tab W) (Zal : Rz k al) (Zah : Rz k ah) (Zt : Rz k t) (hlea : al ≤ ah) (c1 : al > t) (hk : k ≤ 1000000000000) (w : World) (h : St W l w) :
  Calls Tryz.prog 33 #[.agg (VC al ah), .agg (RC t)] w fun e w' => e = .returned (.bool false) ∧ Below w.heap.size w w' := by
 have HT := Lib.hid (tabS hT h); clear hT h
 have Z_al := Lib.hid Zal; clear Zal
 have Z_ah := Lib.hid Zah; clear Zah
 have Z_t := Lib.hid Zt; clear Zt
 obtain ⟨v1, hv1, r1⟩ : ∃ v, cmpQ al t = v ∧ decide (v ≤ 0) = false := ⟨_, rfl, decide_eq_false (by have := cmp_gt c1; omega)⟩
 have H1 := Lib.hid hv1; clear hv1
 clear c1
 go_enter Tryz.func33, Tryz.ntmps33
 have HS : St w [] w := St.start
 go_upto_region 0 with fail
 refine rgT [] HS ?_
 refine bX (VC al ah) ?_
 intro bk2 _ _ hbk2_r
 refine nZ ?_
 refine bX (RC t) ?_
 intro bk3 _ _ hbk3_r
 obtain ⟨_, _, hbk3_r⟩ := Reg.ne2 hbk3_r
 refine nZ ?_
 refine pU ?_
 refine d2 bk2 bk3 fun _ HS1=>?_
 clear HS
 go_upto_region 1 with fail
 refine wp_seq_text [0] (StR.move (StR.no HS1)) ?_
 refine gV ?_
 refine cX rfl rfl (sfit_q (k := (1 * k + 0)) HT.out (Z_al.out.more (by omega)) (Z_ah.out.more (by omega)) hlea rfl rfl (by omega)) ?_
 refine sV (VC_one _ _) ?_
 refine d1 bk2 fun _ HS2=>?_
 clear HS1
 go_upto_region 2 with fail
 refine rgT [] HS2 ?_
 refine pU ?_
 refine lA (RC al) ?_
 refine lV ?_
 refine cX rfl rfl (cmp_q (k := (1 * k + 0)) HT.out (Z_al.out.more (by omega)) (Z_t.out.more (by omega)) H1.out (by omega)) ?_
 iterate 2 refine pU ?_
 iterate 5 refine nW ?_
 iterate 2 refine pU ?_
 refine dS fun _ HS3=>?_
 clear HS2
 go_wp2_with fail
 go_ret
 exact ⟨rfl, HS3.below⟩
theorem has_q {k : Nat} {al ah t : Rat} {z0 : Bool} (hT : Tab W) (Zal : Rz k al) (Zah : Rz k ah) (Zt : Rz k t) (hlea : al ≤ ah) (hz0 : decide (al ≤ t ∧ t ≤ ah) = z0) (hk : k ≤ 1000000000000) (w : World) (h : St W l w) :
  Calls Tryz.prog 33 #[.agg (VC al ah), .agg (RC t)] w fun e w' => e = .returned (.bool z0) ∧ Below w.heap.size w w' := by
 subst hz0
 by_cases c1 : al ≤ t
 ·by_cases c2 : t ≤ ah
  ·rw [decide_eq_true (And.intro c1 c2)]; exact has_q_tt hT Zal Zah Zt hlea c1 c2 hk w h
  ·rw [decide_eq_false (fun h => c2 h.2)]; exact has_q_tf hT Zal Zah Zt hlea c1 (by grind) hk w h
 ·rw [decide_eq_false (fun h => c1 h.1)]; exact has_q_ff hT Zal Zah Zt hlea (by grind) hk w h
set_option maxHeartbeats 2000000
set_option maxRecDepth 20000
variable {W : World} {l : List Own}
theorem min_le_l (a b : Rat) : minQ a b ≤ a := by unfold minQ cmpQ; grind
theorem min_le_r (a b : Rat) : minQ a b ≤ b := by unfold minQ cmpQ; grind
theorem le_max_l (a b : Rat) : a ≤ maxQ a b := by unfold maxQ cmpQ; grind
theorem le_max_r (a b : Rat) : b ≤ maxQ a b := by unfold maxQ cmpQ; grind
theorem le_min {a b c : Rat} (h1 : c ≤ a) (h2 : c ≤ b) : c ≤ minQ a b := by unfold minQ; split <;> assumption
theorem max_le {a b c : Rat} (h1 : a ≤ c) (h2 : b ≤ c) : maxQ a b ≤ c := by unfold maxQ; split <;> assumption
theorem smake_q {k : Nat} {al ah z0 z1 : Rat} (hT : Tab W) (Zal : Rz k al) (Zah : Rz k ah) (hlea : al ≤ ah) (hz0 : al = z0) (hz1 : ah = z1) (hk : k ≤ 1000000000000) (w : World) (h : St W l w) :
  Calls Tryz.prog 88 #[.agg (RC al), .agg (RC ah)] w fun e w' => e = .returned (.tuple #[.agg (VC z0 z1), .int .i64 0]) ∧ Below w.heap.size w w' := by
 subst hz0 hz1
 have HT := Lib.hid (tabS hT h); clear hT h
 have Z_al := Lib.hid Zal; clear Zal
 have Z_ah := Lib.hid Zah; clear Zah
 obtain ⟨vc, hvc, vcr⟩ : ∃ v, cmpQ al ah = v ∧ decide (0 < v) = false := ⟨_, rfl, decide_eq_false (by have := cmp_le hlea; omega)⟩
 have HVC := Lib.hid hvc; clear hvc hlea
 go_enter Tryz.func88, Tryz.ntmps88
 have HS : St w [] w := St.start
 go_upto_region 0 with fail
 refine rgT [] HS ?_
 refine bX (RC al) ?_
 intro bk2 _ _ hbk2_r
 refine nZ ?_
 refine bX (RC ah) ?_
 intro bk3 _ _ hbk3_r
 obtain ⟨_, _, hbk3_r⟩ := Reg.ne2 hbk3_r
 refine nZ ?_
 refine aL6 ?_
 intro bk4 _ _ hbk4_r
 obtain ⟨_, _, hbk4_r⟩ := Reg.ne2 hbk4_r
 obtain ⟨_, _, hbk4_r⟩ := Reg.ne2 hbk4_r
 refine nZ ?_
 refine pU ?_
 refine Seq.done fun ws1 hws => ?_
 have HS1 := hws.q3 (p := bk2) (q := bk3) (r := bk4)
 clear HS hws
 go_upto_region 1 with fail
 refine rgT [] HS1 ?_
 iterate 2 refine lV ?_
 refine cX rfl rfl (cmp_q (k := (1 * k + 0)) HT.out (Z_al.out.more (by omega)) (Z_ah.out.more (by omega)) HVC.out (by omega)) ?_
 refine pU ?_
 refine dS fun _ HS2=>?_
 clear HS1
 go_upto_region 3 with fail
 have HPbk4 := HS2.p2
 refine wS [] (Reg.fin.put Reg.fin_no _ _) (StR.move (StR.no HPbk4)) ?_
 iterate 2 refine lV ?_
 refine cX rfl rfl (min_q (k := (1 * k + 0)) HT.out (Z_al.out.more (by omega)) (Z_al.out.more (by omega)) (min_self _) (by omega)) ?_
 iterate 2 refine lV ?_
 refine cX rfl rfl (min_q (k := (1 * k + 0)) HT.out (Z_ah.out.more (by omega)) (Z_ah.out.more (by omega)) (min_self _) (by omega)) ?_
 refine pV (.agg (VC al ah)) (fun w => bld_Span rfl rfl rfl w) ?_
 refine sV (VC_one _ _) ?_
 refine pU ?_
 refine d1 bk4 fun _ HS3=>?_
 clear HS2 HPbk4
 go_wp2_with fail
 exact ret_own2 rfl rfl rfl rfl HS3 (by repeat first|exact mC|apply mT) (n := 6) rfl (by kernel_rfl) ⟨rfl, HS3.below⟩
theorem ssq0_q {k : Nat} {al ah z0 z1 : Rat} (hT : Tab W) (Zal : Rz k al) (Zah : Rz k ah) (hlea : al ≤ ah) (hin : (al ≤ 0 ∧ 0 ≤ ah)) (hz0 : (0 : Rat) = z0) (hz1 : maxQ (al * al) (ah * ah) = z1) (hk : k ≤ 100000000000) (w : World) (h : St W l w) :
  Calls Tryz.prog 41 #[.agg (VC al ah)] w fun e w' => e = .returned (.agg (VC z0 z1)) ∧ Below w.heap.size w w' := by
 subst hz0
 subst hz1
 have HT := Lib.hid (tabS hT h); clear hT h
 have Z_al := Lib.hid Zal; clear Zal
 have Z_ah := Lib.hid Zah; clear Zah
 have HLE := Lib.hid hlea; clear hlea
 have HIN := Lib.hid (show decide (al ≤ (0 : Rat) ∧ (0 : Rat) ≤ ah) = true from decide_eq_true hin); clear hin
 go_enter Tryz.func41, Tryz.ntmps41
 have HS : St w [] w := St.start
 go_upto_region 0 with fail
 refine rgT [] HS ?_
 refine bX (VC al ah) ?_
 intro bk1 _ _ hbk1_r
 refine nZ ?_
 refine aL6 ?_
 intro bk2 _ _ hbk2_r
 obtain ⟨_, _, hbk2_r⟩ := Reg.ne2 hbk2_r
 refine nZ ?_
 refine d2 bk1 bk2 fun _ HS1=>?_
 clear HS
 go_upto_region 1 with fail
 refine wp_seq_text [0] (StR.move (StR.no HS1)) ?_
 refine gV ?_
 refine cX rfl rfl (sfit_q (k := (1 * k + 0)) HT.out (Z_al.out.more (by omega)) (Z_ah.out.more (by omega)) HLE.out rfl rfl (by omega)) ?_
 refine sV (VC_one _ _) ?_
 refine d1 bk1 fun _ HS2=>?_
 clear HS1
 go_upto_region 2 with fail
 refine rgW [23] HS2 ?_
 refine pU ?_
 refine lA (RC al) ?_
 refine pU ?_
 refine lA (RC al) ?_
 refine cX rfl rfl (mul_q (k := (1 * k + 0)) HT.out (Z_al.out.more (by omega)) (Z_al.out.more (by omega)) rfl (by omega)) ?_
 refine pU ?_
 refine lA (RC ah) ?_
 refine pU ?_
 refine lA (RC ah) ?_
 refine cX rfl rfl (mul_q (k := (1 * k + 0)) HT.out (Z_ah.out.more (by omega)) (Z_ah.out.more (by omega)) rfl (by omega)) ?_
 refine Seq.slice (n := 2) (e := 27) (cs := SL2 (al * al) (ah * ah)) rfl rfl (fun w => slc_2 rfl rfl rfl w) ?_
 intro bk16 _ _ hbk16_r
 refine nZ ?_
 refine Seq.callAny rfl rfl rfl rfl (by kernel_rfl) (fun w h => around_2 (k := (2 * k + 0)) HT.out ((Z_al.out.mul Z_al.out).more (by omega)) ((Z_ah.out.mul Z_ah.out).more (by omega)) rfl rfl (by omega) _ w h.st (h.reg _ _ _ (by repeat first|exact rS|refine rN ‹_› ?_)).2.2) (nZ ?_)
 refine aL6 ?_
 intro bk3 _ _ hbk3_r
 obtain ⟨_, _, hbk3_r⟩ := Reg.ne2 hbk3_r
 refine nZ ?_
 refine sV (VC_one _ _) ?_
 refine d2 bk16 bk3 fun _ HS3=>?_
 clear HS2
 go_upto_region 3 with fail
 refine rgW [] HS3 ?_
 refine lV ?_
 refine cX rfl rfl (of_q HT.out (by omega) (by omega) (show ((0 : Int) : Rat) = (0 : Rat) from rfl)) ?_
 refine cX rfl rfl (has_q (k := (1 * k + 2)) HT.out (Z_al.out.more (by omega)) (Z_ah.out.more (by omega)) ((show Rz 2 (0 : Rat) from Rz.lit (z := 0) rfl (by decide)).more (by omega)) HLE.out HIN.out (by omega)) ?_
 refine dS fun _ HS4=>?_
 clear HS3
 go_upto_region 4 with fail
 have HPbk3 := HS4.p1
 refine wp_seq_text [] (StR.move (StR.no HPbk3)) ?_
 refine cX rfl rfl (of_q HT.out (by omega) (by omega) (show ((0 : Int) : Rat) = (0 : Rat) from rfl)) ?_
 refine pU ?_
 refine Seq.storeAt (v := .agg (RC (0 : Rat))) rfl rfl rfl rfl rfl (by repeat first|exact rS|refine rN ‹_› ?_) (Nat.le_of_ble_eq_true rfl) (by show _ = some 3; kernel_rfl) (RC_one _) (cs' := VC (0 : Rat) (maxQ (al * al) (ah * ah))) rfl (nZ ?_)
 refine d1 bk3 fun _ HS5=>?_
 clear HS4 HPbk3
 go_upto_region 5 with fail
 have HPbk2 := HS5.p3
 refine wp_seq_text [] (StR.move (StR.no HPbk2)) ?_
 refine lV ?_
 refine sV (VC_one _ _) ?_
 refine d1 bk2 fun _ HS6=>?_
 clear HS5 HPbk2
 go_wp2_with fail
 exact rO HS6 ⟨rfl, HS6.below⟩
theorem ssq1_q {k : Nat} {al ah z0 z1 : Rat} (hT : Tab W) (Zal : Rz k al) (Zah : Rz k ah) (hlea : al ≤ ah) (hin : ¬ (al ≤ 0 ∧ 0 ≤ ah)) (hz0 : minQ (al * al) (ah * ah) = z0) (hz1 : maxQ (al * al) (ah * ah) = z1) (hk : k ≤ 100000000000) (w : World) (h : St W l w) :
  Calls Tryz.prog 41 #[.agg (VC al ah)] w fun e w' => e = .returned (.agg (VC z0 z1)) ∧ Below w.heap.size w w' := by
 subst hz0
 subst hz1
 have HT := Lib.hid (tabS hT h); clear hT h
 have Z_al := Lib.hid Zal; clear Zal
 have Z_ah := Lib.hid Zah; clear Zah
 have HLE := Lib.hid hlea; clear hlea
 have HIN := Lib.hid (show decide (al ≤ (0 : Rat) ∧ (0 : Rat) ≤ ah) = false from decide_eq_false hin); clear hin
 go_enter Tryz.func41, Tryz.ntmps41
 have HS : St w [] w := St.start
 go_upto_region 0 with fail
 refine rgT [] HS ?_
 refine bX (VC al ah) ?_
 intro bk1 _ _ hbk1_r
 refine nZ ?_
 refine aL6 ?_
 intro bk2 _ _ hbk2_r
 obtain ⟨_, _, hbk2_r⟩ := Reg.ne2 hbk2_r
 refine nZ ?_
 refine d2 bk1 bk2 fun _ HS1=>?_
 clear HS
 go_upto_region 1 with fail
 refine wp_seq_text [0] (StR.move (StR.no HS1)) ?_
 refine gV ?_
 refine cX rfl rfl (sfit_q (k := (1 * k + 0)) HT.out (Z_al.out.more (by omega)) (Z_ah.out.more (by omega)) HLE.out rfl rfl (by omega)) ?_
 refine sV (VC_one _ _) ?_
 refine d1 bk1 fun _ HS2=>?_
 clear HS1
 go_upto_region 2 with fail
 refine rgW [23] HS2 ?_
 refine pU ?_
 refine lA (RC al) ?_
 refine pU ?_
 refine lA (RC al) ?_
 refine cX rfl rfl (mul_q (k := (1 * k + 0)) HT.out (Z_al.out.more (by omega)) (Z_al.out.more (by omega)) rfl (by omega)) ?_
 refine pU ?_
 refine lA (RC ah) ?_
 refine pU ?_
 refine lA (RC ah) ?_
 refine cX rfl rfl (mul_q (k := (1 * k + 0)) HT.out (Z_ah.out.more (by omega)) (Z_ah.out.more (by omega)) rfl (by omega)) ?_
 refine Seq.slice (n := 2) (e := 27) (cs := SL2 (al * al) (ah * ah)) rfl rfl (fun w => slc_2 rfl rfl rfl w) ?_
 intro bk16 _ _ hbk16_r
 refine nZ ?_
 refine Seq.callAny rfl rfl rfl rfl (by kernel_rfl) (fun w h => around_2 (k := (2 * k + 0)) HT.out ((Z_al.out.mul Z_al.out).more (by omega)) ((Z_ah.out.mul Z_ah.out).more (by omega)) rfl rfl (by omega) _ w h.st (h.reg _ _ _ (by repeat first|exact rS|refine rN ‹_› ?_)).2.2) (nZ ?_)
 refine aL6 ?_
 intro bk3 _ _ hbk3_r
 obtain ⟨_, _, hbk3_r⟩ := Reg.ne2 hbk3_r
 refine nZ ?_
 refine sV (VC_one _ _) ?_
 refine d2 bk16 bk3 fun _ HS3=>?_
 clear HS2
 go_upto_region 3 with fail
 refine rgW [] HS3 ?_
 refine lV ?_
 refine cX rfl rfl (of_q HT.out (by omega) (by omega) (show ((0 : Int) : Rat) = (0 : Rat) from rfl)) ?_
 refine cX rfl rfl (has_q (k := (1 * k + 2)) HT.out (Z_al.out.more (by omega)) (Z_ah.out.more (by omega)) ((show Rz 2 (0 : Rat) from Rz.lit (z := 0) rfl (by decide)).more (by omega)) HLE.out HIN.out (by omega)) ?_
 refine dS fun _ HS4=>?_
 clear HS3
 go_upto_region 5 with fail
 have HPbk2 := HS4.p3
 refine wp_seq_text [] (StR.move (StR.no HPbk2)) ?_
 refine lV ?_
 refine sV (VC_one _ _) ?_
 refine d1 bk2 fun _ HS5=>?_
 clear HS4 HPbk2
 go_wp2_with fail
 exact rO HS5 ⟨rfl, HS5.below⟩
end Go.Proofs.YtmchjmflkaiakaaGreatDoor
