/- Joined texts. -/
import Derived.Test.YtahmajbgfjinbaaDoorBoO
import Derived.Test.YtahmajbgfjinbaaDoorBo6

/- The walk of BorderOut (printed by lawvec.py). -/
namespace Go.Proofs.YtahmajbgfjinbaaDoor
open Go.RowKit
set_option linter.unusedVariables false
set_option linter.unusedSimpArgs false

set_option maxHeartbeats 4000000 in
set_option maxRecDepth 20000 in
theorem bo_pp {x y : Int} {lo hi : Rat} {a1 a2 : Nat} (w : World) (hT : Tab w) (hx : (-9223372036854775808 ≤ x ∧ x ≤ 9223372036854775807)) (hy : (-9223372036854775808 ≤ y ∧ y ≤ 9223372036854775807)) (e1 : minQ (ratMq x) (ratMq y) = lo) (e2 : maxQ (ratMq x) (ratMq y) = hi) (hle : lo ≤ hi) (hm1 : -ex 9218868437227405311 ≤ lo) (hm2 : hi ≤ ex 9218868437227405311) (hl : 0 ≤ lo) (hu : Und lo a1) (hh : 0 ≤ hi) (ho : Ovr hi a2) (ha : a_ok lo (frL false a1) (frH false a1)) (hb : b_ok hi (frL false a2) (frH false a2)) :
    Calls Tryd.prog 12 #[.int .i64 x, .int .i64 y] w fun e w' => e = .returned (.bool true) ∧ Below w.heap.size w w' := by
  have HT := Lib.hid hT; clear hT
  have HI := Lib.hid (And.intro hx hy); clear hx hy
  have Z_lo := Lib.hid (show Rz 1000 lo from e1 ▸ ((ratMq_small x).rz.min (ratMq_small y).rz).more (by omega))
  have Z_hi := Lib.hid (show Rz 1000 hi from e2 ▸ ((ratMq_small x).rz.max (ratMq_small y).rz).more (by omega))
  have HMD := Lib.hid (And.intro e1 e2); clear e1 e2
  have HLE := Lib.hid hle; clear hle
  have HM := Lib.hid (And.intro hm1 hm2); clear hm1 hm2
  obtain ⟨al, eal⟩ : ∃ z, frL false a1 = z := ⟨_, rfl⟩
  obtain ⟨ah, eah⟩ : ∃ z, frH false a1 = z := ⟨_, rfl⟩
  obtain ⟨bl, ebl⟩ : ∃ z, frL false a2 = z := ⟨_, rfl⟩
  obtain ⟨bh, ebh⟩ : ∃ z, frH false a2 = z := ⟨_, rfl⟩
  rw [eal, eah] at ha
  rw [ebl, ebh] at hb
  have hu1 := hu.1
  have ho1 := ho.1
  have Z_al := Lib.hid (show Rz 1000 al from eal ▸ frL_rz (by omega))
  have Z_ah := Lib.hid (show Rz 1000 ah from eah ▸ frH_rz (by omega))
  have Z_bl := Lib.hid (show Rz 1000 bl from ebl ▸ frL_rz (by omega))
  have Z_bh := Lib.hid (show Rz 1000 bh from ebh ▸ frH_rz (by omega))
  have HL := Lib.hid (show 0 ≤ lo ∧ Und lo a1 from ⟨hl, hu⟩)
  have HH := Lib.hid (show 0 ≤ hi ∧ Ovr hi a2 from ⟨hh, ho⟩)
  have HA := Lib.hid (show a1 = (if false = true then 9223372036854775808 else 0) + a1 ∧ a1 < 9218868437227405312 ∧ frL false a1 = al ∧ frH false a1 = ah from ⟨by simp, by omega, eal, eah⟩)
  have HB := Lib.hid (show a2 = (if false = true then 9223372036854775808 else 0) + a2 ∧ a2 < 9218868437227405312 ∧ frL false a2 = bl ∧ frH false a2 = bh from ⟨by simp, by omega, ebl, ebh⟩)
  clear eal eah ebl ebh hu ho hl hh hu1 ho1
  obtain ⟨v1, hv1, r1⟩ : ∃ v, cmpQ al lo = v ∧ decide (v < 0) = true := ⟨_, rfl, cmp_lt_t ha.1⟩
  obtain ⟨v2, hv2, r2⟩ : ∃ v, cmpQ bh hi = v ∧ decide (0 < v) = true := ⟨_, rfl, cmp_gt_t hb.1⟩
  obtain ⟨v3, hv3, r3⟩ : ∃ v, cmpQ (lo - ah) (ah - al) = v ∧ decide (v < 0) = true := ⟨_, rfl, cmp_lt_t ha.2⟩
  obtain ⟨v4, hv4, r4⟩ : ∃ v, cmpQ (bl - hi) (bh - bl) = v ∧ decide (v < 0) = true := ⟨_, rfl, cmp_lt_t hb.2⟩
  have HV1 := Lib.hid hv1; clear hv1
  have HV2 := Lib.hid hv2; clear hv2
  have HV3 := Lib.hid hv3; clear hv3
  have HV4 := Lib.hid hv4; clear hv4
  clear ha hb
  go_enter Tryd.func12, Tryd.ntmps12
  have HS : St w [] w := St.start
  go_upto_region 0 with (fail)
  refine wp_seq_text [] (StR.no HS) ?_
  refine Seq.pure rfl rfl (by intro w; go_simp; try first | with_reducible rfl | rfl) ?_
  simp only [Act.put, List.setIfInBounds_toArray, List.set_cons_zero, List.set_cons_succ]
  refine Seq.done fun ws1 hws => ?_
  have HS1 := hws.st
  clear HS hws
  go_upto_region 1 with (fail)
  refine wp_seq_text [] (StR.no HS1) ?_
  refine Seq.call rfl rfl rfl rfl (by kernel_rfl) (bbegun_q HT.out) ?_
  simp only [Act.put, List.setIfInBounds_toArray, List.set_cons_zero, List.set_cons_succ]
  refine Seq.pure rfl rfl (by intro w; go_simp; try first | with_reducible rfl | rfl) ?_
  simp only [Act.put, List.setIfInBounds_toArray, List.set_cons_zero, List.set_cons_succ]
  refine Seq.done fun ws2 hws => ?_
  have HS2 := hws.st
  clear HS1 hws
  go_upto_region 3 with (fail)
  refine wp_seq_text [] (StR.no HS2) ?_
  refine Seq.pure rfl rfl (by intro w; go_simp; try first | with_reducible rfl | rfl) ?_
  simp only [Act.put, List.setIfInBounds_toArray, List.set_cons_zero, List.set_cons_succ]
  refine Seq.pure rfl rfl (by intro w; go_simp; try first | with_reducible rfl | rfl) ?_
  simp only [Act.put, List.setIfInBounds_toArray, List.set_cons_zero, List.set_cons_succ]
  refine Seq.call rfl rfl rfl rfl (by kernel_rfl) (made_sq HT.out HI.out.1 HI.out.2 HMD.out.1 HMD.out.2) ?_
  simp only [Act.put, List.setIfInBounds_toArray, List.set_cons_zero, List.set_cons_succ]
  refine Seq.alloc rfl rfl rfl (z := .agg #[.bool false, .string ⟨#[]⟩, .string ⟨#[]⟩, .bool false, .string ⟨#[]⟩, .string ⟨#[]⟩]) (by kernel_rfl) rfl ?_
  intro bk5 _ _ hbk5_r
  simp only [Act.put, List.setIfInBounds_toArray, List.set_cons_zero, List.set_cons_succ]
  refine Seq.store rfl rfl rfl rfl rfl (by first | exact rS | exact rN (by assumption) (rS) | exact rN (by assumption) (rN (by assumption) (rS)) | exact rN (by assumption) (rN (by assumption) (rN (by assumption) (rS))) | exact rN (by assumption) (rN (by assumption) (rN (by assumption) (rN (by assumption) (rS))))) (n := 6) rfl rfl (by kernel_rfl) (VC_one _ _) ?_
  simp only [Act.put, List.setIfInBounds_toArray, List.set_cons_zero, List.set_cons_succ]
  refine Seq.done fun ws3 hws => ?_
  have HS3 : St w [(bk5, 46, VC lo hi)] ws3 := hws.list1 (by first | exact rS | exact rN (by assumption) (rS) | exact rN (by assumption) (rN (by assumption) (rS)) | exact rN (by assumption) (rN (by assumption) (rN (by assumption) (rS))) | exact rN (by assumption) (rN (by assumption) (rN (by assumption) (rN (by assumption) (rS)))))
  clear HS2 hws
  go_upto_region 4 with (fail)
  refine wp_seq_text [] (StR.no HS3) ?_
  refine Seq.load rfl rfl rfl rfl (by repeat (first | exact mC | apply mT)) (n := 6) rfl (by kernel_rfl) ?_
  simp only [Act.put, List.setIfInBounds_toArray, List.set_cons_zero, List.set_cons_succ]
  refine Seq.call rfl rfl rfl rfl (by kernel_rfl) (to_pp HT.out Z_lo.out Z_hi.out HLE.out HM.out.1 HM.out.2 HL.out.1 HL.out.2 HH.out.1 HH.out.2) ?_
  simp only [Act.put, List.setIfInBounds_toArray, List.set_cons_zero, List.set_cons_succ]
  refine Seq.pure rfl rfl (by intro w; go_simp; try first | with_reducible rfl | rfl) ?_
  simp only [Act.put, List.setIfInBounds_toArray, List.set_cons_zero, List.set_cons_succ]
  refine Seq.pure (v := .int .u64 (a1 : Int)) rfl rfl (fun w => rfl) ?_
  simp only [Act.put, List.setIfInBounds_toArray, List.set_cons_zero, List.set_cons_succ]
  refine Seq.pure (v := .int .u64 (a2 : Int)) rfl rfl (fun w => rfl) ?_
  simp only [Act.put, List.setIfInBounds_toArray, List.set_cons_zero, List.set_cons_succ]
  refine Seq.pure (v := .int .i64 0) rfl rfl (fun w => rfl) ?_
  simp only [Act.put, List.setIfInBounds_toArray, List.set_cons_zero, List.set_cons_succ]
  refine Seq.pure rfl rfl (by intro w; go_simp; try first | with_reducible rfl | rfl) ?_
  simp only [Act.put, List.setIfInBounds_toArray, List.set_cons_zero, List.set_cons_succ]
  refine Seq.pure rfl rfl (by intro w; go_simp; try first | with_reducible rfl | rfl) ?_
  simp only [Act.put, List.setIfInBounds_toArray, List.set_cons_zero, List.set_cons_succ]
  refine Seq.pure rfl rfl (by intro w; go_simp; try first | with_reducible rfl | rfl) ?_
  simp only [Act.put, List.setIfInBounds_toArray, List.set_cons_zero, List.set_cons_succ]
  refine Seq.done fun ws4 hws => ?_
  have HS4 := hws.st
  clear HS3 hws
  go_upto_region 5 with (fail)
  refine wp_seq_text [] (StR.no HS4) ?_
  refine Seq.pure rfl rfl (by intro w; go_simp; try first | with_reducible rfl | rfl) ?_
  simp only [Act.put, List.setIfInBounds_toArray, List.set_cons_zero, List.set_cons_succ]
  refine Seq.call rfl rfl rfl rfl (by kernel_rfl) (from_q (n := false) HT.out HA.out.1 HA.out.2.1 HA.out.2.2.1 HA.out.2.2.2) ?_
  simp only [Act.put, List.setIfInBounds_toArray, List.set_cons_zero, List.set_cons_succ]
  refine Seq.pure rfl rfl (by intro w; go_simp; try first | with_reducible rfl | rfl) ?_
  simp only [Act.put, List.setIfInBounds_toArray, List.set_cons_zero, List.set_cons_succ]
  refine Seq.pure (v := .agg (VC al ah)) rfl rfl (fun w => rfl) ?_
  simp only [Act.put, List.setIfInBounds_toArray, List.set_cons_zero, List.set_cons_succ]
  refine Seq.pure (v := .int .i64 0) rfl rfl (fun w => rfl) ?_
  simp only [Act.put, List.setIfInBounds_toArray, List.set_cons_zero, List.set_cons_succ]
  refine Seq.alloc rfl rfl rfl (z := .agg #[.bool false, .string ⟨#[]⟩, .string ⟨#[]⟩, .bool false, .string ⟨#[]⟩, .string ⟨#[]⟩]) (by kernel_rfl) rfl ?_
  intro bk9 _ _ hbk9_r
  simp only [Act.put, List.setIfInBounds_toArray, List.set_cons_zero, List.set_cons_succ]
  refine Seq.store rfl rfl rfl rfl rfl (by first | exact rS | exact rN (by assumption) (rS) | exact rN (by assumption) (rN (by assumption) (rS)) | exact rN (by assumption) (rN (by assumption) (rN (by assumption) (rS))) | exact rN (by assumption) (rN (by assumption) (rN (by assumption) (rN (by assumption) (rS))))) (n := 6) rfl rfl (by kernel_rfl) (VC_one _ _) ?_
  simp only [Act.put, List.setIfInBounds_toArray, List.set_cons_zero, List.set_cons_succ]
  refine Seq.pure rfl rfl (by intro w; go_simp; try first | with_reducible rfl | rfl) ?_
  simp only [Act.put, List.setIfInBounds_toArray, List.set_cons_zero, List.set_cons_succ]
  refine Seq.done fun ws5 hws => ?_
  have HS5 : St w [(bk9, 46, VC al ah), (bk5, 46, VC lo hi)] ws5 := hws.list1 (by first | exact rS | exact rN (by assumption) (rS) | exact rN (by assumption) (rN (by assumption) (rS)) | exact rN (by assumption) (rN (by assumption) (rN (by assumption) (rS))) | exact rN (by assumption) (rN (by assumption) (rN (by assumption) (rN (by assumption) (rS)))))
  clear HS4 hws
  go_upto_region 6 with (fail)
  refine wp_seq_text [] (StR.no HS5) ?_
  refine Seq.pure rfl rfl (by intro w; go_simp; try first | with_reducible rfl | rfl) ?_
  simp only [Act.put, List.setIfInBounds_toArray, List.set_cons_zero, List.set_cons_succ]
  refine Seq.call rfl rfl rfl rfl (by kernel_rfl) (from_q (n := false) HT.out HB.out.1 HB.out.2.1 HB.out.2.2.1 HB.out.2.2.2) ?_
  simp only [Act.put, List.setIfInBounds_toArray, List.set_cons_zero, List.set_cons_succ]
  refine Seq.pure rfl rfl (by intro w; go_simp; try first | with_reducible rfl | rfl) ?_
  simp only [Act.put, List.setIfInBounds_toArray, List.set_cons_zero, List.set_cons_succ]
  refine Seq.pure (v := .agg (VC bl bh)) rfl rfl (fun w => rfl) ?_
  simp only [Act.put, List.setIfInBounds_toArray, List.set_cons_zero, List.set_cons_succ]
  refine Seq.pure (v := .int .i64 0) rfl rfl (fun w => rfl) ?_
  simp only [Act.put, List.setIfInBounds_toArray, List.set_cons_zero, List.set_cons_succ]
  refine Seq.alloc rfl rfl rfl (z := .agg #[.bool false, .string ⟨#[]⟩, .string ⟨#[]⟩, .bool false, .string ⟨#[]⟩, .string ⟨#[]⟩]) (by kernel_rfl) rfl ?_
  intro bk11 _ _ hbk11_r
  simp only [Act.put, List.setIfInBounds_toArray, List.set_cons_zero, List.set_cons_succ]
  refine Seq.store rfl rfl rfl rfl rfl (by first | exact rS | exact rN (by assumption) (rS) | exact rN (by assumption) (rN (by assumption) (rS)) | exact rN (by assumption) (rN (by assumption) (rN (by assumption) (rS))) | exact rN (by assumption) (rN (by assumption) (rN (by assumption) (rN (by assumption) (rS))))) (n := 6) rfl rfl (by kernel_rfl) (VC_one _ _) ?_
  simp only [Act.put, List.setIfInBounds_toArray, List.set_cons_zero, List.set_cons_succ]
  refine Seq.pure rfl rfl (by intro w; go_simp; try first | with_reducible rfl | rfl) ?_
  simp only [Act.put, List.setIfInBounds_toArray, List.set_cons_zero, List.set_cons_succ]
  refine Seq.done fun ws6 hws => ?_
  have HS6 : St w [(bk11, 46, VC bl bh), (bk9, 46, VC al ah), (bk5, 46, VC lo hi)] ws6 := hws.list1 (by first | exact rS | exact rN (by assumption) (rS) | exact rN (by assumption) (rN (by assumption) (rS)) | exact rN (by assumption) (rN (by assumption) (rN (by assumption) (rS))) | exact rN (by assumption) (rN (by assumption) (rN (by assumption) (rN (by assumption) (rS)))))
  clear HS5 hws
  go_upto_region 7 with (fail)
  refine wp_seq [] (by kernel_rfl) (by kernel_rfl) Reg.fin_no (StR.no HS6) ?_
  refine Seq.pure rfl rfl (by intro w; go_simp; try first | with_reducible rfl | rfl) ?_
  simp only [Act.put, List.setIfInBounds_toArray, List.set_cons_zero, List.set_cons_succ]
  refine Seq.pure rfl rfl (by intro w; go_simp; try first | with_reducible rfl | rfl) ?_
  simp only [Act.put, List.setIfInBounds_toArray, List.set_cons_zero, List.set_cons_succ]
  refine Seq.pure rfl rfl (by intro w; go_simp; try first | with_reducible rfl | rfl) ?_
  simp only [Act.put, List.setIfInBounds_toArray, List.set_cons_zero, List.set_cons_succ]
  refine Seq.pure rfl rfl (by intro w; go_simp; try first | with_reducible rfl | rfl) ?_
  simp only [Act.put, List.setIfInBounds_toArray, List.set_cons_zero, List.set_cons_succ]
  refine Seq.pure rfl rfl (by intro w; go_simp; try first | with_reducible rfl | rfl) ?_
  simp only [Act.put, List.setIfInBounds_toArray, List.set_cons_zero, List.set_cons_succ]
  refine Seq.pure rfl rfl (by intro w; go_simp; try first | with_reducible rfl | rfl) ?_
  simp only [Act.put, List.setIfInBounds_toArray, List.set_cons_zero, List.set_cons_succ]
  refine Seq.pure rfl rfl (by intro w; go_simp; try first | with_reducible rfl | rfl) ?_
  simp only [Act.put, List.setIfInBounds_toArray, List.set_cons_zero, List.set_cons_succ]
  refine Seq.pure rfl rfl (by intro w; go_simp; try first | with_reducible rfl | rfl) ?_
  simp only [Act.put, List.setIfInBounds_toArray, List.set_cons_zero, List.set_cons_succ]
  refine Seq.pure rfl rfl (by intro w; go_simp; try first | with_reducible rfl | rfl) ?_
  simp only [Act.put, List.setIfInBounds_toArray, List.set_cons_zero, List.set_cons_succ]
  refine Seq.pure rfl rfl (by intro w; go_simp; try first | with_reducible rfl | rfl) ?_
  simp only [Act.put, List.setIfInBounds_toArray, List.set_cons_zero, List.set_cons_succ]
  refine Seq.pure rfl rfl (by intro w; go_simp; try first | with_reducible rfl | rfl) ?_
  simp only [Act.put, List.setIfInBounds_toArray, List.set_cons_zero, List.set_cons_succ]
  refine Seq.pure (v := .pointer (some ⟨bk9, 0, none⟩)) rfl rfl (by intro w; go_simp; try first | with_reducible rfl | rfl) ?_
  simp only [Act.put, List.setIfInBounds_toArray, List.set_cons_zero, List.set_cons_succ]
  refine Seq.loadAt rfl rfl rfl rfl (by repeat (first | exact mC | apply mT)) (n := 3) (cs' := RC al) (by first | decide | exact Nat.le_refl _ | (simp [VC, TC, FC, BC, RC]; done)) (by kernel_rfl) (by first | rfl | (simp [VC, TC, FC, BC, RC]; done)) ?_
  simp only [Act.put, List.setIfInBounds_toArray, List.set_cons_zero, List.set_cons_succ]
  refine Seq.pure (v := .pointer (some ⟨bk5, 0, none⟩)) rfl rfl (by intro w; go_simp; try first | with_reducible rfl | rfl) ?_
  simp only [Act.put, List.setIfInBounds_toArray, List.set_cons_zero, List.set_cons_succ]
  refine Seq.loadAt rfl rfl rfl rfl (by repeat (first | exact mC | apply mT)) (n := 3) (cs' := RC lo) (by first | decide | exact Nat.le_refl _ | (simp [VC, TC, FC, BC, RC]; done)) (by kernel_rfl) (by first | rfl | (simp [VC, TC, FC, BC, RC]; done)) ?_
  simp only [Act.put, List.setIfInBounds_toArray, List.set_cons_zero, List.set_cons_succ]
  refine Seq.call rfl rfl rfl rfl (by kernel_rfl) (cmp_q (k := 1000) HT.out (Z_al.out.more (by omega)) (Z_lo.out.more (by omega)) HV1.out (by omega)) ?_
  simp only [Act.put, List.setIfInBounds_toArray, List.set_cons_zero, List.set_cons_succ]
  refine Seq.pure rfl rfl (by intro w; go_simp; try first | with_reducible rfl | rfl) ?_
  simp only [Act.put, List.setIfInBounds_toArray, List.set_cons_zero, List.set_cons_succ]
  refine Seq.pure rfl rfl (by intro w; go_simp; try first | with_reducible rfl | rfl) ?_
  simp only [Act.put, List.setIfInBounds_toArray, List.set_cons_zero, List.set_cons_succ]
  refine Seq.pure rfl rfl (by intro w; go_simp; try first | with_reducible rfl | rfl) ?_
  simp only [Act.put, List.setIfInBounds_toArray, List.set_cons_zero, List.set_cons_succ]
  refine Seq.pure (v := .pointer (some ⟨bk11, 3, none⟩)) rfl rfl (by intro w; go_simp; try first | with_reducible rfl | rfl) ?_
  simp only [Act.put, List.setIfInBounds_toArray, List.set_cons_zero, List.set_cons_succ]
  refine Seq.loadAt rfl rfl rfl rfl (by repeat (first | exact mC | apply mT)) (n := 3) (cs' := RC bh) (by first | decide | exact Nat.le_refl _ | (simp [VC, TC, FC, BC, RC]; done)) (by kernel_rfl) (by first | rfl | (simp [VC, TC, FC, BC, RC]; done)) ?_
  simp only [Act.put, List.setIfInBounds_toArray, List.set_cons_zero, List.set_cons_succ]
  refine Seq.pure (v := .pointer (some ⟨bk5, 3, none⟩)) rfl rfl (by intro w; go_simp; try first | with_reducible rfl | rfl) ?_
  simp only [Act.put, List.setIfInBounds_toArray, List.set_cons_zero, List.set_cons_succ]
  refine Seq.loadAt rfl rfl rfl rfl (by repeat (first | exact mC | apply mT)) (n := 3) (cs' := RC hi) (by first | decide | exact Nat.le_refl _ | (simp [VC, TC, FC, BC, RC]; done)) (by kernel_rfl) (by first | rfl | (simp [VC, TC, FC, BC, RC]; done)) ?_
  simp only [Act.put, List.setIfInBounds_toArray, List.set_cons_zero, List.set_cons_succ]
  refine Seq.call rfl rfl rfl rfl (by kernel_rfl) (cmp_q (k := 1000) HT.out (Z_bh.out.more (by omega)) (Z_hi.out.more (by omega)) HV2.out (by omega)) ?_
  simp only [Act.put, List.setIfInBounds_toArray, List.set_cons_zero, List.set_cons_succ]
  refine Seq.pure rfl rfl (by intro w; go_simp; try first | with_reducible rfl | rfl) ?_
  simp only [Act.put, List.setIfInBounds_toArray, List.set_cons_zero, List.set_cons_succ]
  refine Seq.pure rfl rfl (by intro w; go_simp; try first | with_reducible rfl | rfl) ?_
  simp only [Act.put, List.setIfInBounds_toArray, List.set_cons_zero, List.set_cons_succ]
  refine Seq.pure rfl rfl (by intro w; go_simp; try first | with_reducible rfl | rfl) ?_
  simp only [Act.put, List.setIfInBounds_toArray, List.set_cons_zero, List.set_cons_succ]
  refine Seq.pure (v := .pointer (some ⟨bk5, 0, none⟩)) rfl rfl (by intro w; go_simp; try first | with_reducible rfl | rfl) ?_
  simp only [Act.put, List.setIfInBounds_toArray, List.set_cons_zero, List.set_cons_succ]
  refine Seq.loadAt rfl rfl rfl rfl (by repeat (first | exact mC | apply mT)) (n := 3) (cs' := RC lo) (by first | decide | exact Nat.le_refl _ | (simp [VC, TC, FC, BC, RC]; done)) (by kernel_rfl) (by first | rfl | (simp [VC, TC, FC, BC, RC]; done)) ?_
  simp only [Act.put, List.setIfInBounds_toArray, List.set_cons_zero, List.set_cons_succ]
  refine Seq.pure (v := .pointer (some ⟨bk9, 3, none⟩)) rfl rfl (by intro w; go_simp; try first | with_reducible rfl | rfl) ?_
  simp only [Act.put, List.setIfInBounds_toArray, List.set_cons_zero, List.set_cons_succ]
  refine Seq.loadAt rfl rfl rfl rfl (by repeat (first | exact mC | apply mT)) (n := 3) (cs' := RC ah) (by first | decide | exact Nat.le_refl _ | (simp [VC, TC, FC, BC, RC]; done)) (by kernel_rfl) (by first | rfl | (simp [VC, TC, FC, BC, RC]; done)) ?_
  simp only [Act.put, List.setIfInBounds_toArray, List.set_cons_zero, List.set_cons_succ]
  refine Seq.call rfl rfl rfl rfl (by kernel_rfl) (sub_q (k := 1000) HT.out (Z_lo.out.more (by omega)) (Z_ah.out.more (by omega)) rfl (by omega)) ?_
  simp only [Act.put, List.setIfInBounds_toArray, List.set_cons_zero, List.set_cons_succ]
  refine Seq.pure (v := .pointer (some ⟨bk9, 3, none⟩)) rfl rfl (by intro w; go_simp; try first | with_reducible rfl | rfl) ?_
  simp only [Act.put, List.setIfInBounds_toArray, List.set_cons_zero, List.set_cons_succ]
  refine Seq.loadAt rfl rfl rfl rfl (by repeat (first | exact mC | apply mT)) (n := 3) (cs' := RC ah) (by first | decide | exact Nat.le_refl _ | (simp [VC, TC, FC, BC, RC]; done)) (by kernel_rfl) (by first | rfl | (simp [VC, TC, FC, BC, RC]; done)) ?_
  simp only [Act.put, List.setIfInBounds_toArray, List.set_cons_zero, List.set_cons_succ]
  refine Seq.pure (v := .pointer (some ⟨bk9, 0, none⟩)) rfl rfl (by intro w; go_simp; try first | with_reducible rfl | rfl) ?_
  simp only [Act.put, List.setIfInBounds_toArray, List.set_cons_zero, List.set_cons_succ]
  refine Seq.loadAt rfl rfl rfl rfl (by repeat (first | exact mC | apply mT)) (n := 3) (cs' := RC al) (by first | decide | exact Nat.le_refl _ | (simp [VC, TC, FC, BC, RC]; done)) (by kernel_rfl) (by first | rfl | (simp [VC, TC, FC, BC, RC]; done)) ?_
  simp only [Act.put, List.setIfInBounds_toArray, List.set_cons_zero, List.set_cons_succ]
  refine Seq.call rfl rfl rfl rfl (by kernel_rfl) (sub_q (k := 1000) HT.out (Z_ah.out.more (by omega)) (Z_al.out.more (by omega)) rfl (by omega)) ?_
  simp only [Act.put, List.setIfInBounds_toArray, List.set_cons_zero, List.set_cons_succ]
  refine Seq.call rfl rfl rfl rfl (by kernel_rfl) (cmp_q (k := 4001) HT.out ((Z_lo.out.sub Z_ah.out).more (by omega)) ((Z_ah.out.sub Z_al.out).more (by omega)) HV3.out (by omega)) ?_
  simp only [Act.put, List.setIfInBounds_toArray, List.set_cons_zero, List.set_cons_succ]
  refine Seq.pure rfl rfl (by intro w; go_simp; try first | with_reducible rfl | rfl) ?_
  simp only [Act.put, List.setIfInBounds_toArray, List.set_cons_zero, List.set_cons_succ]
  refine Seq.pure rfl rfl (by intro w; go_simp; try first | with_reducible rfl | rfl) ?_
  simp only [Act.put, List.setIfInBounds_toArray, List.set_cons_zero, List.set_cons_succ]
  refine Seq.pure rfl rfl (by intro w; go_simp; try first | with_reducible rfl | rfl) ?_
  simp only [Act.put, List.setIfInBounds_toArray, List.set_cons_zero, List.set_cons_succ]
  refine Seq.pure (v := .pointer (some ⟨bk11, 0, none⟩)) rfl rfl (by intro w; go_simp; try first | with_reducible rfl | rfl) ?_
  simp only [Act.put, List.setIfInBounds_toArray, List.set_cons_zero, List.set_cons_succ]
  refine Seq.loadAt rfl rfl rfl rfl (by repeat (first | exact mC | apply mT)) (n := 3) (cs' := RC bl) (by first | decide | exact Nat.le_refl _ | (simp [VC, TC, FC, BC, RC]; done)) (by kernel_rfl) (by first | rfl | (simp [VC, TC, FC, BC, RC]; done)) ?_
  simp only [Act.put, List.setIfInBounds_toArray, List.set_cons_zero, List.set_cons_succ]
  refine Seq.pure (v := .pointer (some ⟨bk5, 3, none⟩)) rfl rfl (by intro w; go_simp; try first | with_reducible rfl | rfl) ?_
  simp only [Act.put, List.setIfInBounds_toArray, List.set_cons_zero, List.set_cons_succ]
  refine Seq.loadAt rfl rfl rfl rfl (by repeat (first | exact mC | apply mT)) (n := 3) (cs' := RC hi) (by first | decide | exact Nat.le_refl _ | (simp [VC, TC, FC, BC, RC]; done)) (by kernel_rfl) (by first | rfl | (simp [VC, TC, FC, BC, RC]; done)) ?_
  simp only [Act.put, List.setIfInBounds_toArray, List.set_cons_zero, List.set_cons_succ]
  refine Seq.call rfl rfl rfl rfl (by kernel_rfl) (sub_q (k := 1000) HT.out (Z_bl.out.more (by omega)) (Z_hi.out.more (by omega)) rfl (by omega)) ?_
  simp only [Act.put, List.setIfInBounds_toArray, List.set_cons_zero, List.set_cons_succ]
  refine Seq.pure (v := .pointer (some ⟨bk11, 3, none⟩)) rfl rfl (by intro w; go_simp; try first | with_reducible rfl | rfl) ?_
  simp only [Act.put, List.setIfInBounds_toArray, List.set_cons_zero, List.set_cons_succ]
  refine Seq.loadAt rfl rfl rfl rfl (by repeat (first | exact mC | apply mT)) (n := 3) (cs' := RC bh) (by first | decide | exact Nat.le_refl _ | (simp [VC, TC, FC, BC, RC]; done)) (by kernel_rfl) (by first | rfl | (simp [VC, TC, FC, BC, RC]; done)) ?_
  simp only [Act.put, List.setIfInBounds_toArray, List.set_cons_zero, List.set_cons_succ]
  refine Seq.pure (v := .pointer (some ⟨bk11, 0, none⟩)) rfl rfl (by intro w; go_simp; try first | with_reducible rfl | rfl) ?_
  simp only [Act.put, List.setIfInBounds_toArray, List.set_cons_zero, List.set_cons_succ]
  refine Seq.loadAt rfl rfl rfl rfl (by repeat (first | exact mC | apply mT)) (n := 3) (cs' := RC bl) (by first | decide | exact Nat.le_refl _ | (simp [VC, TC, FC, BC, RC]; done)) (by kernel_rfl) (by first | rfl | (simp [VC, TC, FC, BC, RC]; done)) ?_
  simp only [Act.put, List.setIfInBounds_toArray, List.set_cons_zero, List.set_cons_succ]
  refine Seq.call rfl rfl rfl rfl (by kernel_rfl) (sub_q (k := 1000) HT.out (Z_bh.out.more (by omega)) (Z_bl.out.more (by omega)) rfl (by omega)) ?_
  simp only [Act.put, List.setIfInBounds_toArray, List.set_cons_zero, List.set_cons_succ]
  refine Seq.call rfl rfl rfl rfl (by kernel_rfl) (cmp_q (k := 4001) HT.out ((Z_bl.out.sub Z_hi.out).more (by omega)) ((Z_bh.out.sub Z_bl.out).more (by omega)) HV4.out (by omega)) ?_
  simp only [Act.put, List.setIfInBounds_toArray, List.set_cons_zero, List.set_cons_succ]
  refine Seq.pure rfl rfl (by intro w; go_simp; try first | with_reducible rfl | rfl) ?_
  simp only [Act.put, List.setIfInBounds_toArray, List.set_cons_zero, List.set_cons_succ]
  refine Seq.pure rfl rfl (by intro w; go_simp; try first | with_reducible rfl | rfl) ?_
  simp only [Act.put, List.setIfInBounds_toArray, List.set_cons_zero, List.set_cons_succ]
  refine Seq.pure rfl rfl (by intro w; go_simp; try first | with_reducible rfl | rfl) ?_
  simp only [Act.put, List.setIfInBounds_toArray, List.set_cons_zero, List.set_cons_succ]
  refine Seq.done fun ws7 hws => ?_
  have HS7 := hws.st
  clear HS6 hws
  go_wp2_with fail
  go_ret
  exact ⟨rfl, HS7.below⟩
set_option maxHeartbeats 4000000 in
set_option maxRecDepth 20000 in
theorem bo_np {x y : Int} {lo hi : Rat} {a3 a2 : Nat} (w : World) (hT : Tab w) (hx : (-9223372036854775808 ≤ x ∧ x ≤ 9223372036854775807)) (hy : (-9223372036854775808 ≤ y ∧ y ≤ 9223372036854775807)) (e1 : minQ (ratMq x) (ratMq y) = lo) (e2 : maxQ (ratMq x) (ratMq y) = hi) (hle : lo ≤ hi) (hm1 : -ex 9218868437227405311 ≤ lo) (hm2 : hi ≤ ex 9218868437227405311) (hl : lo < 0) (hu : Ovr (-lo) a3) (hh : 0 ≤ hi) (ho : Ovr hi a2) (ha : a_ok lo (frL true a3) (frH true a3)) (hb : b_ok hi (frL false a2) (frH false a2)) :
    Calls Tryd.prog 12 #[.int .i64 x, .int .i64 y] w fun e w' => e = .returned (.bool true) ∧ Below w.heap.size w w' := by
  have HT := Lib.hid hT; clear hT
  have HI := Lib.hid (And.intro hx hy); clear hx hy
  have Z_lo := Lib.hid (show Rz 1000 lo from e1 ▸ ((ratMq_small x).rz.min (ratMq_small y).rz).more (by omega))
  have Z_hi := Lib.hid (show Rz 1000 hi from e2 ▸ ((ratMq_small x).rz.max (ratMq_small y).rz).more (by omega))
  have HMD := Lib.hid (And.intro e1 e2); clear e1 e2
  have HLE := Lib.hid hle; clear hle
  have HM := Lib.hid (And.intro hm1 hm2); clear hm1 hm2
  obtain ⟨al, eal⟩ : ∃ z, frL true a3 = z := ⟨_, rfl⟩
  obtain ⟨ah, eah⟩ : ∃ z, frH true a3 = z := ⟨_, rfl⟩
  obtain ⟨bl, ebl⟩ : ∃ z, frL false a2 = z := ⟨_, rfl⟩
  obtain ⟨bh, ebh⟩ : ∃ z, frH false a2 = z := ⟨_, rfl⟩
  rw [eal, eah] at ha
  rw [ebl, ebh] at hb
  have hu1 := hu.1
  have ho1 := ho.1
  have Z_al := Lib.hid (show Rz 1000 al from eal ▸ frL_rz (by omega))
  have Z_ah := Lib.hid (show Rz 1000 ah from eah ▸ frH_rz (by omega))
  have Z_bl := Lib.hid (show Rz 1000 bl from ebl ▸ frL_rz (by omega))
  have Z_bh := Lib.hid (show Rz 1000 bh from ebh ▸ frH_rz (by omega))
  obtain ⟨b3, hb3⟩ : ∃ b3 : Nat, b3 = a3 + 9223372036854775808 := ⟨_, rfl⟩
  have HL := Lib.hid (show lo < 0 ∧ Ovr (-lo) a3 ∧ b3 = a3 + 9223372036854775808 from ⟨hl, hu, hb3⟩)
  have HH := Lib.hid (show 0 ≤ hi ∧ Ovr hi a2 from ⟨hh, ho⟩)
  have HA := Lib.hid (show b3 = (if true = true then 9223372036854775808 else 0) + a3 ∧ a3 < 9218868437227405312 ∧ frL true a3 = al ∧ frH true a3 = ah from ⟨by rw [if_pos rfl]; omega, by omega, eal, eah⟩)
  have HB := Lib.hid (show a2 = (if false = true then 9223372036854775808 else 0) + a2 ∧ a2 < 9218868437227405312 ∧ frL false a2 = bl ∧ frH false a2 = bh from ⟨by simp, by omega, ebl, ebh⟩)
  clear eal eah ebl ebh hu ho hl hh hu1 ho1 hb3
  obtain ⟨v1, hv1, r1⟩ : ∃ v, cmpQ al lo = v ∧ decide (v < 0) = true := ⟨_, rfl, cmp_lt_t ha.1⟩
  obtain ⟨v2, hv2, r2⟩ : ∃ v, cmpQ bh hi = v ∧ decide (0 < v) = true := ⟨_, rfl, cmp_gt_t hb.1⟩
  obtain ⟨v3, hv3, r3⟩ : ∃ v, cmpQ (lo - ah) (ah - al) = v ∧ decide (v < 0) = true := ⟨_, rfl, cmp_lt_t ha.2⟩
  obtain ⟨v4, hv4, r4⟩ : ∃ v, cmpQ (bl - hi) (bh - bl) = v ∧ decide (v < 0) = true := ⟨_, rfl, cmp_lt_t hb.2⟩
  have HV1 := Lib.hid hv1; clear hv1
  have HV2 := Lib.hid hv2; clear hv2
  have HV3 := Lib.hid hv3; clear hv3
  have HV4 := Lib.hid hv4; clear hv4
  clear ha hb
  go_enter Tryd.func12, Tryd.ntmps12
  have HS : St w [] w := St.start
  go_upto_region 0 with (fail)
  refine wp_seq_text [] (StR.no HS) ?_
  refine Seq.pure rfl rfl (by intro w; go_simp; try first | with_reducible rfl | rfl) ?_
  simp only [Act.put, List.setIfInBounds_toArray, List.set_cons_zero, List.set_cons_succ]
  refine Seq.done fun ws1 hws => ?_
  have HS1 := hws.st
  clear HS hws
  go_upto_region 1 with (fail)
  refine wp_seq_text [] (StR.no HS1) ?_
  refine Seq.call rfl rfl rfl rfl (by kernel_rfl) (bbegun_q HT.out) ?_
  simp only [Act.put, List.setIfInBounds_toArray, List.set_cons_zero, List.set_cons_succ]
  refine Seq.pure rfl rfl (by intro w; go_simp; try first | with_reducible rfl | rfl) ?_
  simp only [Act.put, List.setIfInBounds_toArray, List.set_cons_zero, List.set_cons_succ]
  refine Seq.done fun ws2 hws => ?_
  have HS2 := hws.st
  clear HS1 hws
  go_upto_region 3 with (fail)
  refine wp_seq_text [] (StR.no HS2) ?_
  refine Seq.pure rfl rfl (by intro w; go_simp; try first | with_reducible rfl | rfl) ?_
  simp only [Act.put, List.setIfInBounds_toArray, List.set_cons_zero, List.set_cons_succ]
  refine Seq.pure rfl rfl (by intro w; go_simp; try first | with_reducible rfl | rfl) ?_
  simp only [Act.put, List.setIfInBounds_toArray, List.set_cons_zero, List.set_cons_succ]
  refine Seq.call rfl rfl rfl rfl (by kernel_rfl) (made_sq HT.out HI.out.1 HI.out.2 HMD.out.1 HMD.out.2) ?_
  simp only [Act.put, List.setIfInBounds_toArray, List.set_cons_zero, List.set_cons_succ]
  refine Seq.alloc rfl rfl rfl (z := .agg #[.bool false, .string ⟨#[]⟩, .string ⟨#[]⟩, .bool false, .string ⟨#[]⟩, .string ⟨#[]⟩]) (by kernel_rfl) rfl ?_
  intro bk5 _ _ hbk5_r
  simp only [Act.put, List.setIfInBounds_toArray, List.set_cons_zero, List.set_cons_succ]
  refine Seq.store rfl rfl rfl rfl rfl (by first | exact rS | exact rN (by assumption) (rS) | exact rN (by assumption) (rN (by assumption) (rS)) | exact rN (by assumption) (rN (by assumption) (rN (by assumption) (rS))) | exact rN (by assumption) (rN (by assumption) (rN (by assumption) (rN (by assumption) (rS))))) (n := 6) rfl rfl (by kernel_rfl) (VC_one _ _) ?_
  simp only [Act.put, List.setIfInBounds_toArray, List.set_cons_zero, List.set_cons_succ]
  refine Seq.done fun ws3 hws => ?_
  have HS3 : St w [(bk5, 46, VC lo hi)] ws3 := hws.list1 (by first | exact rS | exact rN (by assumption) (rS) | exact rN (by assumption) (rN (by assumption) (rS)) | exact rN (by assumption) (rN (by assumption) (rN (by assumption) (rS))) | exact rN (by assumption) (rN (by assumption) (rN (by assumption) (rN (by assumption) (rS)))))
  clear HS2 hws
  go_upto_region 4 with (fail)
  refine wp_seq_text [] (StR.no HS3) ?_
  refine Seq.load rfl rfl rfl rfl (by repeat (first | exact mC | apply mT)) (n := 6) rfl (by kernel_rfl) ?_
  simp only [Act.put, List.setIfInBounds_toArray, List.set_cons_zero, List.set_cons_succ]
  refine Seq.call rfl rfl rfl rfl (by kernel_rfl) (to_np HT.out Z_lo.out Z_hi.out HLE.out HM.out.1 HM.out.2 HL.out.1 HL.out.2.1 HL.out.2.2 HH.out.1 HH.out.2) ?_
  simp only [Act.put, List.setIfInBounds_toArray, List.set_cons_zero, List.set_cons_succ]
  refine Seq.pure rfl rfl (by intro w; go_simp; try first | with_reducible rfl | rfl) ?_
  simp only [Act.put, List.setIfInBounds_toArray, List.set_cons_zero, List.set_cons_succ]
  refine Seq.pure (v := .int .u64 (b3 : Int)) rfl rfl (fun w => rfl) ?_
  simp only [Act.put, List.setIfInBounds_toArray, List.set_cons_zero, List.set_cons_succ]
  refine Seq.pure (v := .int .u64 (a2 : Int)) rfl rfl (fun w => rfl) ?_
  simp only [Act.put, List.setIfInBounds_toArray, List.set_cons_zero, List.set_cons_succ]
  refine Seq.pure (v := .int .i64 0) rfl rfl (fun w => rfl) ?_
  simp only [Act.put, List.setIfInBounds_toArray, List.set_cons_zero, List.set_cons_succ]
  refine Seq.pure rfl rfl (by intro w; go_simp; try first | with_reducible rfl | rfl) ?_
  simp only [Act.put, List.setIfInBounds_toArray, List.set_cons_zero, List.set_cons_succ]
  refine Seq.pure rfl rfl (by intro w; go_simp; try first | with_reducible rfl | rfl) ?_
  simp only [Act.put, List.setIfInBounds_toArray, List.set_cons_zero, List.set_cons_succ]
  refine Seq.pure rfl rfl (by intro w; go_simp; try first | with_reducible rfl | rfl) ?_
  simp only [Act.put, List.setIfInBounds_toArray, List.set_cons_zero, List.set_cons_succ]
  refine Seq.done fun ws4 hws => ?_
  have HS4 := hws.st
  clear HS3 hws
  go_upto_region 5 with (fail)
  refine wp_seq_text [] (StR.no HS4) ?_
  refine Seq.pure rfl rfl (by intro w; go_simp; try first | with_reducible rfl | rfl) ?_
  simp only [Act.put, List.setIfInBounds_toArray, List.set_cons_zero, List.set_cons_succ]
  refine Seq.call rfl rfl rfl rfl (by kernel_rfl) (from_q (n := true) HT.out HA.out.1 HA.out.2.1 HA.out.2.2.1 HA.out.2.2.2) ?_
  simp only [Act.put, List.setIfInBounds_toArray, List.set_cons_zero, List.set_cons_succ]
  refine Seq.pure rfl rfl (by intro w; go_simp; try first | with_reducible rfl | rfl) ?_
  simp only [Act.put, List.setIfInBounds_toArray, List.set_cons_zero, List.set_cons_succ]
  refine Seq.pure (v := .agg (VC al ah)) rfl rfl (fun w => rfl) ?_
  simp only [Act.put, List.setIfInBounds_toArray, List.set_cons_zero, List.set_cons_succ]
  refine Seq.pure (v := .int .i64 0) rfl rfl (fun w => rfl) ?_
  simp only [Act.put, List.setIfInBounds_toArray, List.set_cons_zero, List.set_cons_succ]
  refine Seq.alloc rfl rfl rfl (z := .agg #[.bool false, .string ⟨#[]⟩, .string ⟨#[]⟩, .bool false, .string ⟨#[]⟩, .string ⟨#[]⟩]) (by kernel_rfl) rfl ?_
  intro bk9 _ _ hbk9_r
  simp only [Act.put, List.setIfInBounds_toArray, List.set_cons_zero, List.set_cons_succ]
  refine Seq.store rfl rfl rfl rfl rfl (by first | exact rS | exact rN (by assumption) (rS) | exact rN (by assumption) (rN (by assumption) (rS)) | exact rN (by assumption) (rN (by assumption) (rN (by assumption) (rS))) | exact rN (by assumption) (rN (by assumption) (rN (by assumption) (rN (by assumption) (rS))))) (n := 6) rfl rfl (by kernel_rfl) (VC_one _ _) ?_
  simp only [Act.put, List.setIfInBounds_toArray, List.set_cons_zero, List.set_cons_succ]
  refine Seq.pure rfl rfl (by intro w; go_simp; try first | with_reducible rfl | rfl) ?_
  simp only [Act.put, List.setIfInBounds_toArray, List.set_cons_zero, List.set_cons_succ]
  refine Seq.done fun ws5 hws => ?_
  have HS5 : St w [(bk9, 46, VC al ah), (bk5, 46, VC lo hi)] ws5 := hws.list1 (by first | exact rS | exact rN (by assumption) (rS) | exact rN (by assumption) (rN (by assumption) (rS)) | exact rN (by assumption) (rN (by assumption) (rN (by assumption) (rS))) | exact rN (by assumption) (rN (by assumption) (rN (by assumption) (rN (by assumption) (rS)))))
  clear HS4 hws
  go_upto_region 6 with (fail)
  refine wp_seq_text [] (StR.no HS5) ?_
  refine Seq.pure rfl rfl (by intro w; go_simp; try first | with_reducible rfl | rfl) ?_
  simp only [Act.put, List.setIfInBounds_toArray, List.set_cons_zero, List.set_cons_succ]
  refine Seq.call rfl rfl rfl rfl (by kernel_rfl) (from_q (n := false) HT.out HB.out.1 HB.out.2.1 HB.out.2.2.1 HB.out.2.2.2) ?_
  simp only [Act.put, List.setIfInBounds_toArray, List.set_cons_zero, List.set_cons_succ]
  refine Seq.pure rfl rfl (by intro w; go_simp; try first | with_reducible rfl | rfl) ?_
  simp only [Act.put, List.setIfInBounds_toArray, List.set_cons_zero, List.set_cons_succ]
  refine Seq.pure (v := .agg (VC bl bh)) rfl rfl (fun w => rfl) ?_
  simp only [Act.put, List.setIfInBounds_toArray, List.set_cons_zero, List.set_cons_succ]
  refine Seq.pure (v := .int .i64 0) rfl rfl (fun w => rfl) ?_
  simp only [Act.put, List.setIfInBounds_toArray, List.set_cons_zero, List.set_cons_succ]
  refine Seq.alloc rfl rfl rfl (z := .agg #[.bool false, .string ⟨#[]⟩, .string ⟨#[]⟩, .bool false, .string ⟨#[]⟩, .string ⟨#[]⟩]) (by kernel_rfl) rfl ?_
  intro bk11 _ _ hbk11_r
  simp only [Act.put, List.setIfInBounds_toArray, List.set_cons_zero, List.set_cons_succ]
  refine Seq.store rfl rfl rfl rfl rfl (by first | exact rS | exact rN (by assumption) (rS) | exact rN (by assumption) (rN (by assumption) (rS)) | exact rN (by assumption) (rN (by assumption) (rN (by assumption) (rS))) | exact rN (by assumption) (rN (by assumption) (rN (by assumption) (rN (by assumption) (rS))))) (n := 6) rfl rfl (by kernel_rfl) (VC_one _ _) ?_
  simp only [Act.put, List.setIfInBounds_toArray, List.set_cons_zero, List.set_cons_succ]
  refine Seq.pure rfl rfl (by intro w; go_simp; try first | with_reducible rfl | rfl) ?_
  simp only [Act.put, List.setIfInBounds_toArray, List.set_cons_zero, List.set_cons_succ]
  refine Seq.done fun ws6 hws => ?_
  have HS6 : St w [(bk11, 46, VC bl bh), (bk9, 46, VC al ah), (bk5, 46, VC lo hi)] ws6 := hws.list1 (by first | exact rS | exact rN (by assumption) (rS) | exact rN (by assumption) (rN (by assumption) (rS)) | exact rN (by assumption) (rN (by assumption) (rN (by assumption) (rS))) | exact rN (by assumption) (rN (by assumption) (rN (by assumption) (rN (by assumption) (rS)))))
  clear HS5 hws
  go_upto_region 7 with (fail)
  refine wp_seq [] (by kernel_rfl) (by kernel_rfl) Reg.fin_no (StR.no HS6) ?_
  refine Seq.pure rfl rfl (by intro w; go_simp; try first | with_reducible rfl | rfl) ?_
  simp only [Act.put, List.setIfInBounds_toArray, List.set_cons_zero, List.set_cons_succ]
  refine Seq.pure rfl rfl (by intro w; go_simp; try first | with_reducible rfl | rfl) ?_
  simp only [Act.put, List.setIfInBounds_toArray, List.set_cons_zero, List.set_cons_succ]
  refine Seq.pure rfl rfl (by intro w; go_simp; try first | with_reducible rfl | rfl) ?_
  simp only [Act.put, List.setIfInBounds_toArray, List.set_cons_zero, List.set_cons_succ]
  refine Seq.pure rfl rfl (by intro w; go_simp; try first | with_reducible rfl | rfl) ?_
  simp only [Act.put, List.setIfInBounds_toArray, List.set_cons_zero, List.set_cons_succ]
  refine Seq.pure rfl rfl (by intro w; go_simp; try first | with_reducible rfl | rfl) ?_
  simp only [Act.put, List.setIfInBounds_toArray, List.set_cons_zero, List.set_cons_succ]
  refine Seq.pure rfl rfl (by intro w; go_simp; try first | with_reducible rfl | rfl) ?_
  simp only [Act.put, List.setIfInBounds_toArray, List.set_cons_zero, List.set_cons_succ]
  refine Seq.pure rfl rfl (by intro w; go_simp; try first | with_reducible rfl | rfl) ?_
  simp only [Act.put, List.setIfInBounds_toArray, List.set_cons_zero, List.set_cons_succ]
  refine Seq.pure rfl rfl (by intro w; go_simp; try first | with_reducible rfl | rfl) ?_
  simp only [Act.put, List.setIfInBounds_toArray, List.set_cons_zero, List.set_cons_succ]
  refine Seq.pure rfl rfl (by intro w; go_simp; try first | with_reducible rfl | rfl) ?_
  simp only [Act.put, List.setIfInBounds_toArray, List.set_cons_zero, List.set_cons_succ]
  refine Seq.pure rfl rfl (by intro w; go_simp; try first | with_reducible rfl | rfl) ?_
  simp only [Act.put, List.setIfInBounds_toArray, List.set_cons_zero, List.set_cons_succ]
  refine Seq.pure rfl rfl (by intro w; go_simp; try first | with_reducible rfl | rfl) ?_
  simp only [Act.put, List.setIfInBounds_toArray, List.set_cons_zero, List.set_cons_succ]
  refine Seq.pure (v := .pointer (some ⟨bk9, 0, none⟩)) rfl rfl (by intro w; go_simp; try first | with_reducible rfl | rfl) ?_
  simp only [Act.put, List.setIfInBounds_toArray, List.set_cons_zero, List.set_cons_succ]
  refine Seq.loadAt rfl rfl rfl rfl (by repeat (first | exact mC | apply mT)) (n := 3) (cs' := RC al) (by first | decide | exact Nat.le_refl _ | (simp [VC, TC, FC, BC, RC]; done)) (by kernel_rfl) (by first | rfl | (simp [VC, TC, FC, BC, RC]; done)) ?_
  simp only [Act.put, List.setIfInBounds_toArray, List.set_cons_zero, List.set_cons_succ]
  refine Seq.pure (v := .pointer (some ⟨bk5, 0, none⟩)) rfl rfl (by intro w; go_simp; try first | with_reducible rfl | rfl) ?_
  simp only [Act.put, List.setIfInBounds_toArray, List.set_cons_zero, List.set_cons_succ]
  refine Seq.loadAt rfl rfl rfl rfl (by repeat (first | exact mC | apply mT)) (n := 3) (cs' := RC lo) (by first | decide | exact Nat.le_refl _ | (simp [VC, TC, FC, BC, RC]; done)) (by kernel_rfl) (by first | rfl | (simp [VC, TC, FC, BC, RC]; done)) ?_
  simp only [Act.put, List.setIfInBounds_toArray, List.set_cons_zero, List.set_cons_succ]
  refine Seq.call rfl rfl rfl rfl (by kernel_rfl) (cmp_q (k := 1000) HT.out (Z_al.out.more (by omega)) (Z_lo.out.more (by omega)) HV1.out (by omega)) ?_
  simp only [Act.put, List.setIfInBounds_toArray, List.set_cons_zero, List.set_cons_succ]
  refine Seq.pure rfl rfl (by intro w; go_simp; try first | with_reducible rfl | rfl) ?_
  simp only [Act.put, List.setIfInBounds_toArray, List.set_cons_zero, List.set_cons_succ]
  refine Seq.pure rfl rfl (by intro w; go_simp; try first | with_reducible rfl | rfl) ?_
  simp only [Act.put, List.setIfInBounds_toArray, List.set_cons_zero, List.set_cons_succ]
  refine Seq.pure rfl rfl (by intro w; go_simp; try first | with_reducible rfl | rfl) ?_
  simp only [Act.put, List.setIfInBounds_toArray, List.set_cons_zero, List.set_cons_succ]
  refine Seq.pure (v := .pointer (some ⟨bk11, 3, none⟩)) rfl rfl (by intro w; go_simp; try first | with_reducible rfl | rfl) ?_
  simp only [Act.put, List.setIfInBounds_toArray, List.set_cons_zero, List.set_cons_succ]
  refine Seq.loadAt rfl rfl rfl rfl (by repeat (first | exact mC | apply mT)) (n := 3) (cs' := RC bh) (by first | decide | exact Nat.le_refl _ | (simp [VC, TC, FC, BC, RC]; done)) (by kernel_rfl) (by first | rfl | (simp [VC, TC, FC, BC, RC]; done)) ?_
  simp only [Act.put, List.setIfInBounds_toArray, List.set_cons_zero, List.set_cons_succ]
  refine Seq.pure (v := .pointer (some ⟨bk5, 3, none⟩)) rfl rfl (by intro w; go_simp; try first | with_reducible rfl | rfl) ?_
  simp only [Act.put, List.setIfInBounds_toArray, List.set_cons_zero, List.set_cons_succ]
  refine Seq.loadAt rfl rfl rfl rfl (by repeat (first | exact mC | apply mT)) (n := 3) (cs' := RC hi) (by first | decide | exact Nat.le_refl _ | (simp [VC, TC, FC, BC, RC]; done)) (by kernel_rfl) (by first | rfl | (simp [VC, TC, FC, BC, RC]; done)) ?_
  simp only [Act.put, List.setIfInBounds_toArray, List.set_cons_zero, List.set_cons_succ]
  refine Seq.call rfl rfl rfl rfl (by kernel_rfl) (cmp_q (k := 1000) HT.out (Z_bh.out.more (by omega)) (Z_hi.out.more (by omega)) HV2.out (by omega)) ?_
  simp only [Act.put, List.setIfInBounds_toArray, List.set_cons_zero, List.set_cons_succ]
  refine Seq.pure rfl rfl (by intro w; go_simp; try first | with_reducible rfl | rfl) ?_
  simp only [Act.put, List.setIfInBounds_toArray, List.set_cons_zero, List.set_cons_succ]
  refine Seq.pure rfl rfl (by intro w; go_simp; try first | with_reducible rfl | rfl) ?_
  simp only [Act.put, List.setIfInBounds_toArray, List.set_cons_zero, List.set_cons_succ]
  refine Seq.pure rfl rfl (by intro w; go_simp; try first | with_reducible rfl | rfl) ?_
  simp only [Act.put, List.setIfInBounds_toArray, List.set_cons_zero, List.set_cons_succ]
  refine Seq.pure (v := .pointer (some ⟨bk5, 0, none⟩)) rfl rfl (by intro w; go_simp; try first | with_reducible rfl | rfl) ?_
  simp only [Act.put, List.setIfInBounds_toArray, List.set_cons_zero, List.set_cons_succ]
  refine Seq.loadAt rfl rfl rfl rfl (by repeat (first | exact mC | apply mT)) (n := 3) (cs' := RC lo) (by first | decide | exact Nat.le_refl _ | (simp [VC, TC, FC, BC, RC]; done)) (by kernel_rfl) (by first | rfl | (simp [VC, TC, FC, BC, RC]; done)) ?_
  simp only [Act.put, List.setIfInBounds_toArray, List.set_cons_zero, List.set_cons_succ]
  refine Seq.pure (v := .pointer (some ⟨bk9, 3, none⟩)) rfl rfl (by intro w; go_simp; try first | with_reducible rfl | rfl) ?_
  simp only [Act.put, List.setIfInBounds_toArray, List.set_cons_zero, List.set_cons_succ]
  refine Seq.loadAt rfl rfl rfl rfl (by repeat (first | exact mC | apply mT)) (n := 3) (cs' := RC ah) (by first | decide | exact Nat.le_refl _ | (simp [VC, TC, FC, BC, RC]; done)) (by kernel_rfl) (by first | rfl | (simp [VC, TC, FC, BC, RC]; done)) ?_
  simp only [Act.put, List.setIfInBounds_toArray, List.set_cons_zero, List.set_cons_succ]
  refine Seq.call rfl rfl rfl rfl (by kernel_rfl) (sub_q (k := 1000) HT.out (Z_lo.out.more (by omega)) (Z_ah.out.more (by omega)) rfl (by omega)) ?_
  simp only [Act.put, List.setIfInBounds_toArray, List.set_cons_zero, List.set_cons_succ]
  refine Seq.pure (v := .pointer (some ⟨bk9, 3, none⟩)) rfl rfl (by intro w; go_simp; try first | with_reducible rfl | rfl) ?_
  simp only [Act.put, List.setIfInBounds_toArray, List.set_cons_zero, List.set_cons_succ]
  refine Seq.loadAt rfl rfl rfl rfl (by repeat (first | exact mC | apply mT)) (n := 3) (cs' := RC ah) (by first | decide | exact Nat.le_refl _ | (simp [VC, TC, FC, BC, RC]; done)) (by kernel_rfl) (by first | rfl | (simp [VC, TC, FC, BC, RC]; done)) ?_
  simp only [Act.put, List.setIfInBounds_toArray, List.set_cons_zero, List.set_cons_succ]
  refine Seq.pure (v := .pointer (some ⟨bk9, 0, none⟩)) rfl rfl (by intro w; go_simp; try first | with_reducible rfl | rfl) ?_
  simp only [Act.put, List.setIfInBounds_toArray, List.set_cons_zero, List.set_cons_succ]
  refine Seq.loadAt rfl rfl rfl rfl (by repeat (first | exact mC | apply mT)) (n := 3) (cs' := RC al) (by first | decide | exact Nat.le_refl _ | (simp [VC, TC, FC, BC, RC]; done)) (by kernel_rfl) (by first | rfl | (simp [VC, TC, FC, BC, RC]; done)) ?_
  simp only [Act.put, List.setIfInBounds_toArray, List.set_cons_zero, List.set_cons_succ]
  refine Seq.call rfl rfl rfl rfl (by kernel_rfl) (sub_q (k := 1000) HT.out (Z_ah.out.more (by omega)) (Z_al.out.more (by omega)) rfl (by omega)) ?_
  simp only [Act.put, List.setIfInBounds_toArray, List.set_cons_zero, List.set_cons_succ]
  refine Seq.call rfl rfl rfl rfl (by kernel_rfl) (cmp_q (k := 4001) HT.out ((Z_lo.out.sub Z_ah.out).more (by omega)) ((Z_ah.out.sub Z_al.out).more (by omega)) HV3.out (by omega)) ?_
  simp only [Act.put, List.setIfInBounds_toArray, List.set_cons_zero, List.set_cons_succ]
  refine Seq.pure rfl rfl (by intro w; go_simp; try first | with_reducible rfl | rfl) ?_
  simp only [Act.put, List.setIfInBounds_toArray, List.set_cons_zero, List.set_cons_succ]
  refine Seq.pure rfl rfl (by intro w; go_simp; try first | with_reducible rfl | rfl) ?_
  simp only [Act.put, List.setIfInBounds_toArray, List.set_cons_zero, List.set_cons_succ]
  refine Seq.pure rfl rfl (by intro w; go_simp; try first | with_reducible rfl | rfl) ?_
  simp only [Act.put, List.setIfInBounds_toArray, List.set_cons_zero, List.set_cons_succ]
  refine Seq.pure (v := .pointer (some ⟨bk11, 0, none⟩)) rfl rfl (by intro w; go_simp; try first | with_reducible rfl | rfl) ?_
  simp only [Act.put, List.setIfInBounds_toArray, List.set_cons_zero, List.set_cons_succ]
  refine Seq.loadAt rfl rfl rfl rfl (by repeat (first | exact mC | apply mT)) (n := 3) (cs' := RC bl) (by first | decide | exact Nat.le_refl _ | (simp [VC, TC, FC, BC, RC]; done)) (by kernel_rfl) (by first | rfl | (simp [VC, TC, FC, BC, RC]; done)) ?_
  simp only [Act.put, List.setIfInBounds_toArray, List.set_cons_zero, List.set_cons_succ]
  refine Seq.pure (v := .pointer (some ⟨bk5, 3, none⟩)) rfl rfl (by intro w; go_simp; try first | with_reducible rfl | rfl) ?_
  simp only [Act.put, List.setIfInBounds_toArray, List.set_cons_zero, List.set_cons_succ]
  refine Seq.loadAt rfl rfl rfl rfl (by repeat (first | exact mC | apply mT)) (n := 3) (cs' := RC hi) (by first | decide | exact Nat.le_refl _ | (simp [VC, TC, FC, BC, RC]; done)) (by kernel_rfl) (by first | rfl | (simp [VC, TC, FC, BC, RC]; done)) ?_
  simp only [Act.put, List.setIfInBounds_toArray, List.set_cons_zero, List.set_cons_succ]
  refine Seq.call rfl rfl rfl rfl (by kernel_rfl) (sub_q (k := 1000) HT.out (Z_bl.out.more (by omega)) (Z_hi.out.more (by omega)) rfl (by omega)) ?_
  simp only [Act.put, List.setIfInBounds_toArray, List.set_cons_zero, List.set_cons_succ]
  refine Seq.pure (v := .pointer (some ⟨bk11, 3, none⟩)) rfl rfl (by intro w; go_simp; try first | with_reducible rfl | rfl) ?_
  simp only [Act.put, List.setIfInBounds_toArray, List.set_cons_zero, List.set_cons_succ]
  refine Seq.loadAt rfl rfl rfl rfl (by repeat (first | exact mC | apply mT)) (n := 3) (cs' := RC bh) (by first | decide | exact Nat.le_refl _ | (simp [VC, TC, FC, BC, RC]; done)) (by kernel_rfl) (by first | rfl | (simp [VC, TC, FC, BC, RC]; done)) ?_
  simp only [Act.put, List.setIfInBounds_toArray, List.set_cons_zero, List.set_cons_succ]
  refine Seq.pure (v := .pointer (some ⟨bk11, 0, none⟩)) rfl rfl (by intro w; go_simp; try first | with_reducible rfl | rfl) ?_
  simp only [Act.put, List.setIfInBounds_toArray, List.set_cons_zero, List.set_cons_succ]
  refine Seq.loadAt rfl rfl rfl rfl (by repeat (first | exact mC | apply mT)) (n := 3) (cs' := RC bl) (by first | decide | exact Nat.le_refl _ | (simp [VC, TC, FC, BC, RC]; done)) (by kernel_rfl) (by first | rfl | (simp [VC, TC, FC, BC, RC]; done)) ?_
  simp only [Act.put, List.setIfInBounds_toArray, List.set_cons_zero, List.set_cons_succ]
  refine Seq.call rfl rfl rfl rfl (by kernel_rfl) (sub_q (k := 1000) HT.out (Z_bh.out.more (by omega)) (Z_bl.out.more (by omega)) rfl (by omega)) ?_
  simp only [Act.put, List.setIfInBounds_toArray, List.set_cons_zero, List.set_cons_succ]
  refine Seq.call rfl rfl rfl rfl (by kernel_rfl) (cmp_q (k := 4001) HT.out ((Z_bl.out.sub Z_hi.out).more (by omega)) ((Z_bh.out.sub Z_bl.out).more (by omega)) HV4.out (by omega)) ?_
  simp only [Act.put, List.setIfInBounds_toArray, List.set_cons_zero, List.set_cons_succ]
  refine Seq.pure rfl rfl (by intro w; go_simp; try first | with_reducible rfl | rfl) ?_
  simp only [Act.put, List.setIfInBounds_toArray, List.set_cons_zero, List.set_cons_succ]
  refine Seq.pure rfl rfl (by intro w; go_simp; try first | with_reducible rfl | rfl) ?_
  simp only [Act.put, List.setIfInBounds_toArray, List.set_cons_zero, List.set_cons_succ]
  refine Seq.pure rfl rfl (by intro w; go_simp; try first | with_reducible rfl | rfl) ?_
  simp only [Act.put, List.setIfInBounds_toArray, List.set_cons_zero, List.set_cons_succ]
  refine Seq.done fun ws7 hws => ?_
  have HS7 := hws.st
  clear HS6 hws
  go_wp2_with fail
  go_ret
  exact ⟨rfl, HS7.below⟩
set_option maxHeartbeats 4000000 in
set_option maxRecDepth 20000 in
theorem bo_nn {x y : Int} {lo hi : Rat} {a3 a4 : Nat} (w : World) (hT : Tab w) (hx : (-9223372036854775808 ≤ x ∧ x ≤ 9223372036854775807)) (hy : (-9223372036854775808 ≤ y ∧ y ≤ 9223372036854775807)) (e1 : minQ (ratMq x) (ratMq y) = lo) (e2 : maxQ (ratMq x) (ratMq y) = hi) (hle : lo ≤ hi) (hm1 : -ex 9218868437227405311 ≤ lo) (hm2 : hi ≤ ex 9218868437227405311) (hl : lo < 0) (hu : Ovr (-lo) a3) (hh : hi < 0) (ho : Und (-hi) a4) (h4 : 0 < a4) (ha : a_ok lo (frL true a3) (frH true a3)) (hb : b_ok hi (frL true a4) (frH true a4)) :
    Calls Tryd.prog 12 #[.int .i64 x, .int .i64 y] w fun e w' => e = .returned (.bool true) ∧ Below w.heap.size w w' := by
  have HT := Lib.hid hT; clear hT
  have HI := Lib.hid (And.intro hx hy); clear hx hy
  have Z_lo := Lib.hid (show Rz 1000 lo from e1 ▸ ((ratMq_small x).rz.min (ratMq_small y).rz).more (by omega))
  have Z_hi := Lib.hid (show Rz 1000 hi from e2 ▸ ((ratMq_small x).rz.max (ratMq_small y).rz).more (by omega))
  have HMD := Lib.hid (And.intro e1 e2); clear e1 e2
  have HLE := Lib.hid hle; clear hle
  have HM := Lib.hid (And.intro hm1 hm2); clear hm1 hm2
  obtain ⟨al, eal⟩ : ∃ z, frL true a3 = z := ⟨_, rfl⟩
  obtain ⟨ah, eah⟩ : ∃ z, frH true a3 = z := ⟨_, rfl⟩
  obtain ⟨bl, ebl⟩ : ∃ z, frL true a4 = z := ⟨_, rfl⟩
  obtain ⟨bh, ebh⟩ : ∃ z, frH true a4 = z := ⟨_, rfl⟩
  rw [eal, eah] at ha
  rw [ebl, ebh] at hb
  have hu1 := hu.1
  have ho1 := ho.1
  have Z_al := Lib.hid (show Rz 1000 al from eal ▸ frL_rz (by omega))
  have Z_ah := Lib.hid (show Rz 1000 ah from eah ▸ frH_rz (by omega))
  have Z_bl := Lib.hid (show Rz 1000 bl from ebl ▸ frL_rz (by omega))
  have Z_bh := Lib.hid (show Rz 1000 bh from ebh ▸ frH_rz (by omega))
  obtain ⟨b3, hb3⟩ : ∃ b3 : Nat, b3 = a3 + 9223372036854775808 := ⟨_, rfl⟩
  obtain ⟨b4, hb4⟩ : ∃ b4 : Nat, b4 = a4 + 9223372036854775808 := ⟨_, rfl⟩
  have HL := Lib.hid (show lo < 0 ∧ Ovr (-lo) a3 ∧ b3 = a3 + 9223372036854775808 from ⟨hl, hu, hb3⟩)
  have HH := Lib.hid (show hi < 0 ∧ Und (-hi) a4 ∧ 0 < a4 ∧ b4 = a4 + 9223372036854775808 from ⟨hh, ho, h4, hb4⟩)
  have HA := Lib.hid (show b3 = (if true = true then 9223372036854775808 else 0) + a3 ∧ a3 < 9218868437227405312 ∧ frL true a3 = al ∧ frH true a3 = ah from ⟨by rw [if_pos rfl]; omega, by omega, eal, eah⟩)
  have HB := Lib.hid (show b4 = (if true = true then 9223372036854775808 else 0) + a4 ∧ a4 < 9218868437227405312 ∧ frL true a4 = bl ∧ frH true a4 = bh from ⟨by rw [if_pos rfl]; omega, by omega, ebl, ebh⟩)
  clear eal eah ebl ebh hu ho hl hh hu1 ho1 hb3 hb4 h4
  obtain ⟨v1, hv1, r1⟩ : ∃ v, cmpQ al lo = v ∧ decide (v < 0) = true := ⟨_, rfl, cmp_lt_t ha.1⟩
  obtain ⟨v2, hv2, r2⟩ : ∃ v, cmpQ bh hi = v ∧ decide (0 < v) = true := ⟨_, rfl, cmp_gt_t hb.1⟩
  obtain ⟨v3, hv3, r3⟩ : ∃ v, cmpQ (lo - ah) (ah - al) = v ∧ decide (v < 0) = true := ⟨_, rfl, cmp_lt_t ha.2⟩
  obtain ⟨v4, hv4, r4⟩ : ∃ v, cmpQ (bl - hi) (bh - bl) = v ∧ decide (v < 0) = true := ⟨_, rfl, cmp_lt_t hb.2⟩
  have HV1 := Lib.hid hv1; clear hv1
  have HV2 := Lib.hid hv2; clear hv2
  have HV3 := Lib.hid hv3; clear hv3
  have HV4 := Lib.hid hv4; clear hv4
  clear ha hb
  go_enter Tryd.func12, Tryd.ntmps12
  have HS : St w [] w := St.start
  go_upto_region 0 with (fail)
  refine wp_seq_text [] (StR.no HS) ?_
  refine Seq.pure rfl rfl (by intro w; go_simp; try first | with_reducible rfl | rfl) ?_
  simp only [Act.put, List.setIfInBounds_toArray, List.set_cons_zero, List.set_cons_succ]
  refine Seq.done fun ws1 hws => ?_
  have HS1 := hws.st
  clear HS hws
  go_upto_region 1 with (fail)
  refine wp_seq_text [] (StR.no HS1) ?_
  refine Seq.call rfl rfl rfl rfl (by kernel_rfl) (bbegun_q HT.out) ?_
  simp only [Act.put, List.setIfInBounds_toArray, List.set_cons_zero, List.set_cons_succ]
  refine Seq.pure rfl rfl (by intro w; go_simp; try first | with_reducible rfl | rfl) ?_
  simp only [Act.put, List.setIfInBounds_toArray, List.set_cons_zero, List.set_cons_succ]
  refine Seq.done fun ws2 hws => ?_
  have HS2 := hws.st
  clear HS1 hws
  go_upto_region 3 with (fail)
  refine wp_seq_text [] (StR.no HS2) ?_
  refine Seq.pure rfl rfl (by intro w; go_simp; try first | with_reducible rfl | rfl) ?_
  simp only [Act.put, List.setIfInBounds_toArray, List.set_cons_zero, List.set_cons_succ]
  refine Seq.pure rfl rfl (by intro w; go_simp; try first | with_reducible rfl | rfl) ?_
  simp only [Act.put, List.setIfInBounds_toArray, List.set_cons_zero, List.set_cons_succ]
  refine Seq.call rfl rfl rfl rfl (by kernel_rfl) (made_sq HT.out HI.out.1 HI.out.2 HMD.out.1 HMD.out.2) ?_
  simp only [Act.put, List.setIfInBounds_toArray, List.set_cons_zero, List.set_cons_succ]
  refine Seq.alloc rfl rfl rfl (z := .agg #[.bool false, .string ⟨#[]⟩, .string ⟨#[]⟩, .bool false, .string ⟨#[]⟩, .string ⟨#[]⟩]) (by kernel_rfl) rfl ?_
  intro bk5 _ _ hbk5_r
  simp only [Act.put, List.setIfInBounds_toArray, List.set_cons_zero, List.set_cons_succ]
  refine Seq.store rfl rfl rfl rfl rfl (by first | exact rS | exact rN (by assumption) (rS) | exact rN (by assumption) (rN (by assumption) (rS)) | exact rN (by assumption) (rN (by assumption) (rN (by assumption) (rS))) | exact rN (by assumption) (rN (by assumption) (rN (by assumption) (rN (by assumption) (rS))))) (n := 6) rfl rfl (by kernel_rfl) (VC_one _ _) ?_
  simp only [Act.put, List.setIfInBounds_toArray, List.set_cons_zero, List.set_cons_succ]
  refine Seq.done fun ws3 hws => ?_
  have HS3 : St w [(bk5, 46, VC lo hi)] ws3 := hws.list1 (by first | exact rS | exact rN (by assumption) (rS) | exact rN (by assumption) (rN (by assumption) (rS)) | exact rN (by assumption) (rN (by assumption) (rN (by assumption) (rS))) | exact rN (by assumption) (rN (by assumption) (rN (by assumption) (rN (by assumption) (rS)))))
  clear HS2 hws
  go_upto_region 4 with (fail)
  refine wp_seq_text [] (StR.no HS3) ?_
  refine Seq.load rfl rfl rfl rfl (by repeat (first | exact mC | apply mT)) (n := 6) rfl (by kernel_rfl) ?_
  simp only [Act.put, List.setIfInBounds_toArray, List.set_cons_zero, List.set_cons_succ]
  refine Seq.call rfl rfl rfl rfl (by kernel_rfl) (to_nn HT.out Z_lo.out Z_hi.out HLE.out HM.out.1 HM.out.2 HL.out.1 HL.out.2.1 HL.out.2.2 HH.out.1 HH.out.2.1 HH.out.2.2.1 HH.out.2.2.2) ?_
  simp only [Act.put, List.setIfInBounds_toArray, List.set_cons_zero, List.set_cons_succ]
  refine Seq.pure rfl rfl (by intro w; go_simp; try first | with_reducible rfl | rfl) ?_
  simp only [Act.put, List.setIfInBounds_toArray, List.set_cons_zero, List.set_cons_succ]
  refine Seq.pure (v := .int .u64 (b3 : Int)) rfl rfl (fun w => rfl) ?_
  simp only [Act.put, List.setIfInBounds_toArray, List.set_cons_zero, List.set_cons_succ]
  refine Seq.pure (v := .int .u64 (b4 : Int)) rfl rfl (fun w => rfl) ?_
  simp only [Act.put, List.setIfInBounds_toArray, List.set_cons_zero, List.set_cons_succ]
  refine Seq.pure (v := .int .i64 0) rfl rfl (fun w => rfl) ?_
  simp only [Act.put, List.setIfInBounds_toArray, List.set_cons_zero, List.set_cons_succ]
  refine Seq.pure rfl rfl (by intro w; go_simp; try first | with_reducible rfl | rfl) ?_
  simp only [Act.put, List.setIfInBounds_toArray, List.set_cons_zero, List.set_cons_succ]
  refine Seq.pure rfl rfl (by intro w; go_simp; try first | with_reducible rfl | rfl) ?_
  simp only [Act.put, List.setIfInBounds_toArray, List.set_cons_zero, List.set_cons_succ]
  refine Seq.pure rfl rfl (by intro w; go_simp; try first | with_reducible rfl | rfl) ?_
  simp only [Act.put, List.setIfInBounds_toArray, List.set_cons_zero, List.set_cons_succ]
  refine Seq.done fun ws4 hws => ?_
  have HS4 := hws.st
  clear HS3 hws
  go_upto_region 5 with (fail)
  refine wp_seq_text [] (StR.no HS4) ?_
  refine Seq.pure rfl rfl (by intro w; go_simp; try first | with_reducible rfl | rfl) ?_
  simp only [Act.put, List.setIfInBounds_toArray, List.set_cons_zero, List.set_cons_succ]
  refine Seq.call rfl rfl rfl rfl (by kernel_rfl) (from_q (n := true) HT.out HA.out.1 HA.out.2.1 HA.out.2.2.1 HA.out.2.2.2) ?_
  simp only [Act.put, List.setIfInBounds_toArray, List.set_cons_zero, List.set_cons_succ]
  refine Seq.pure rfl rfl (by intro w; go_simp; try first | with_reducible rfl | rfl) ?_
  simp only [Act.put, List.setIfInBounds_toArray, List.set_cons_zero, List.set_cons_succ]
  refine Seq.pure (v := .agg (VC al ah)) rfl rfl (fun w => rfl) ?_
  simp only [Act.put, List.setIfInBounds_toArray, List.set_cons_zero, List.set_cons_succ]
  refine Seq.pure (v := .int .i64 0) rfl rfl (fun w => rfl) ?_
  simp only [Act.put, List.setIfInBounds_toArray, List.set_cons_zero, List.set_cons_succ]
  refine Seq.alloc rfl rfl rfl (z := .agg #[.bool false, .string ⟨#[]⟩, .string ⟨#[]⟩, .bool false, .string ⟨#[]⟩, .string ⟨#[]⟩]) (by kernel_rfl) rfl ?_
  intro bk9 _ _ hbk9_r
  simp only [Act.put, List.setIfInBounds_toArray, List.set_cons_zero, List.set_cons_succ]
  refine Seq.store rfl rfl rfl rfl rfl (by first | exact rS | exact rN (by assumption) (rS) | exact rN (by assumption) (rN (by assumption) (rS)) | exact rN (by assumption) (rN (by assumption) (rN (by assumption) (rS))) | exact rN (by assumption) (rN (by assumption) (rN (by assumption) (rN (by assumption) (rS))))) (n := 6) rfl rfl (by kernel_rfl) (VC_one _ _) ?_
  simp only [Act.put, List.setIfInBounds_toArray, List.set_cons_zero, List.set_cons_succ]
  refine Seq.pure rfl rfl (by intro w; go_simp; try first | with_reducible rfl | rfl) ?_
  simp only [Act.put, List.setIfInBounds_toArray, List.set_cons_zero, List.set_cons_succ]
  refine Seq.done fun ws5 hws => ?_
  have HS5 : St w [(bk9, 46, VC al ah), (bk5, 46, VC lo hi)] ws5 := hws.list1 (by first | exact rS | exact rN (by assumption) (rS) | exact rN (by assumption) (rN (by assumption) (rS)) | exact rN (by assumption) (rN (by assumption) (rN (by assumption) (rS))) | exact rN (by assumption) (rN (by assumption) (rN (by assumption) (rN (by assumption) (rS)))))
  clear HS4 hws
  go_upto_region 6 with (fail)
  refine wp_seq_text [] (StR.no HS5) ?_
  refine Seq.pure rfl rfl (by intro w; go_simp; try first | with_reducible rfl | rfl) ?_
  simp only [Act.put, List.setIfInBounds_toArray, List.set_cons_zero, List.set_cons_succ]
  refine Seq.call rfl rfl rfl rfl (by kernel_rfl) (from_q (n := true) HT.out HB.out.1 HB.out.2.1 HB.out.2.2.1 HB.out.2.2.2) ?_
  simp only [Act.put, List.setIfInBounds_toArray, List.set_cons_zero, List.set_cons_succ]
  refine Seq.pure rfl rfl (by intro w; go_simp; try first | with_reducible rfl | rfl) ?_
  simp only [Act.put, List.setIfInBounds_toArray, List.set_cons_zero, List.set_cons_succ]
  refine Seq.pure (v := .agg (VC bl bh)) rfl rfl (fun w => rfl) ?_
  simp only [Act.put, List.setIfInBounds_toArray, List.set_cons_zero, List.set_cons_succ]
  refine Seq.pure (v := .int .i64 0) rfl rfl (fun w => rfl) ?_
  simp only [Act.put, List.setIfInBounds_toArray, List.set_cons_zero, List.set_cons_succ]
  refine Seq.alloc rfl rfl rfl (z := .agg #[.bool false, .string ⟨#[]⟩, .string ⟨#[]⟩, .bool false, .string ⟨#[]⟩, .string ⟨#[]⟩]) (by kernel_rfl) rfl ?_
  intro bk11 _ _ hbk11_r
  simp only [Act.put, List.setIfInBounds_toArray, List.set_cons_zero, List.set_cons_succ]
  refine Seq.store rfl rfl rfl rfl rfl (by first | exact rS | exact rN (by assumption) (rS) | exact rN (by assumption) (rN (by assumption) (rS)) | exact rN (by assumption) (rN (by assumption) (rN (by assumption) (rS))) | exact rN (by assumption) (rN (by assumption) (rN (by assumption) (rN (by assumption) (rS))))) (n := 6) rfl rfl (by kernel_rfl) (VC_one _ _) ?_
  simp only [Act.put, List.setIfInBounds_toArray, List.set_cons_zero, List.set_cons_succ]
  refine Seq.pure rfl rfl (by intro w; go_simp; try first | with_reducible rfl | rfl) ?_
  simp only [Act.put, List.setIfInBounds_toArray, List.set_cons_zero, List.set_cons_succ]
  refine Seq.done fun ws6 hws => ?_
  have HS6 : St w [(bk11, 46, VC bl bh), (bk9, 46, VC al ah), (bk5, 46, VC lo hi)] ws6 := hws.list1 (by first | exact rS | exact rN (by assumption) (rS) | exact rN (by assumption) (rN (by assumption) (rS)) | exact rN (by assumption) (rN (by assumption) (rN (by assumption) (rS))) | exact rN (by assumption) (rN (by assumption) (rN (by assumption) (rN (by assumption) (rS)))))
  clear HS5 hws
  go_upto_region 7 with (fail)
  refine wp_seq [] (by kernel_rfl) (by kernel_rfl) Reg.fin_no (StR.no HS6) ?_
  refine Seq.pure rfl rfl (by intro w; go_simp; try first | with_reducible rfl | rfl) ?_
  simp only [Act.put, List.setIfInBounds_toArray, List.set_cons_zero, List.set_cons_succ]
  refine Seq.pure rfl rfl (by intro w; go_simp; try first | with_reducible rfl | rfl) ?_
  simp only [Act.put, List.setIfInBounds_toArray, List.set_cons_zero, List.set_cons_succ]
  refine Seq.pure rfl rfl (by intro w; go_simp; try first | with_reducible rfl | rfl) ?_
  simp only [Act.put, List.setIfInBounds_toArray, List.set_cons_zero, List.set_cons_succ]
  refine Seq.pure rfl rfl (by intro w; go_simp; try first | with_reducible rfl | rfl) ?_
  simp only [Act.put, List.setIfInBounds_toArray, List.set_cons_zero, List.set_cons_succ]
  refine Seq.pure rfl rfl (by intro w; go_simp; try first | with_reducible rfl | rfl) ?_
  simp only [Act.put, List.setIfInBounds_toArray, List.set_cons_zero, List.set_cons_succ]
  refine Seq.pure rfl rfl (by intro w; go_simp; try first | with_reducible rfl | rfl) ?_
  simp only [Act.put, List.setIfInBounds_toArray, List.set_cons_zero, List.set_cons_succ]
  refine Seq.pure rfl rfl (by intro w; go_simp; try first | with_reducible rfl | rfl) ?_
  simp only [Act.put, List.setIfInBounds_toArray, List.set_cons_zero, List.set_cons_succ]
  refine Seq.pure rfl rfl (by intro w; go_simp; try first | with_reducible rfl | rfl) ?_
  simp only [Act.put, List.setIfInBounds_toArray, List.set_cons_zero, List.set_cons_succ]
  refine Seq.pure rfl rfl (by intro w; go_simp; try first | with_reducible rfl | rfl) ?_
  simp only [Act.put, List.setIfInBounds_toArray, List.set_cons_zero, List.set_cons_succ]
  refine Seq.pure rfl rfl (by intro w; go_simp; try first | with_reducible rfl | rfl) ?_
  simp only [Act.put, List.setIfInBounds_toArray, List.set_cons_zero, List.set_cons_succ]
  refine Seq.pure rfl rfl (by intro w; go_simp; try first | with_reducible rfl | rfl) ?_
  simp only [Act.put, List.setIfInBounds_toArray, List.set_cons_zero, List.set_cons_succ]
  refine Seq.pure (v := .pointer (some ⟨bk9, 0, none⟩)) rfl rfl (by intro w; go_simp; try first | with_reducible rfl | rfl) ?_
  simp only [Act.put, List.setIfInBounds_toArray, List.set_cons_zero, List.set_cons_succ]
  refine Seq.loadAt rfl rfl rfl rfl (by repeat (first | exact mC | apply mT)) (n := 3) (cs' := RC al) (by first | decide | exact Nat.le_refl _ | (simp [VC, TC, FC, BC, RC]; done)) (by kernel_rfl) (by first | rfl | (simp [VC, TC, FC, BC, RC]; done)) ?_
  simp only [Act.put, List.setIfInBounds_toArray, List.set_cons_zero, List.set_cons_succ]
  refine Seq.pure (v := .pointer (some ⟨bk5, 0, none⟩)) rfl rfl (by intro w; go_simp; try first | with_reducible rfl | rfl) ?_
  simp only [Act.put, List.setIfInBounds_toArray, List.set_cons_zero, List.set_cons_succ]
  refine Seq.loadAt rfl rfl rfl rfl (by repeat (first | exact mC | apply mT)) (n := 3) (cs' := RC lo) (by first | decide | exact Nat.le_refl _ | (simp [VC, TC, FC, BC, RC]; done)) (by kernel_rfl) (by first | rfl | (simp [VC, TC, FC, BC, RC]; done)) ?_
  simp only [Act.put, List.setIfInBounds_toArray, List.set_cons_zero, List.set_cons_succ]
  refine Seq.call rfl rfl rfl rfl (by kernel_rfl) (cmp_q (k := 1000) HT.out (Z_al.out.more (by omega)) (Z_lo.out.more (by omega)) HV1.out (by omega)) ?_
  simp only [Act.put, List.setIfInBounds_toArray, List.set_cons_zero, List.set_cons_succ]
  refine Seq.pure rfl rfl (by intro w; go_simp; try first | with_reducible rfl | rfl) ?_
  simp only [Act.put, List.setIfInBounds_toArray, List.set_cons_zero, List.set_cons_succ]
  refine Seq.pure rfl rfl (by intro w; go_simp; try first | with_reducible rfl | rfl) ?_
  simp only [Act.put, List.setIfInBounds_toArray, List.set_cons_zero, List.set_cons_succ]
  refine Seq.pure rfl rfl (by intro w; go_simp; try first | with_reducible rfl | rfl) ?_
  simp only [Act.put, List.setIfInBounds_toArray, List.set_cons_zero, List.set_cons_succ]
  refine Seq.pure (v := .pointer (some ⟨bk11, 3, none⟩)) rfl rfl (by intro w; go_simp; try first | with_reducible rfl | rfl) ?_
  simp only [Act.put, List.setIfInBounds_toArray, List.set_cons_zero, List.set_cons_succ]
  refine Seq.loadAt rfl rfl rfl rfl (by repeat (first | exact mC | apply mT)) (n := 3) (cs' := RC bh) (by first | decide | exact Nat.le_refl _ | (simp [VC, TC, FC, BC, RC]; done)) (by kernel_rfl) (by first | rfl | (simp [VC, TC, FC, BC, RC]; done)) ?_
  simp only [Act.put, List.setIfInBounds_toArray, List.set_cons_zero, List.set_cons_succ]
  refine Seq.pure (v := .pointer (some ⟨bk5, 3, none⟩)) rfl rfl (by intro w; go_simp; try first | with_reducible rfl | rfl) ?_
  simp only [Act.put, List.setIfInBounds_toArray, List.set_cons_zero, List.set_cons_succ]
  refine Seq.loadAt rfl rfl rfl rfl (by repeat (first | exact mC | apply mT)) (n := 3) (cs' := RC hi) (by first | decide | exact Nat.le_refl _ | (simp [VC, TC, FC, BC, RC]; done)) (by kernel_rfl) (by first | rfl | (simp [VC, TC, FC, BC, RC]; done)) ?_
  simp only [Act.put, List.setIfInBounds_toArray, List.set_cons_zero, List.set_cons_succ]
  refine Seq.call rfl rfl rfl rfl (by kernel_rfl) (cmp_q (k := 1000) HT.out (Z_bh.out.more (by omega)) (Z_hi.out.more (by omega)) HV2.out (by omega)) ?_
  simp only [Act.put, List.setIfInBounds_toArray, List.set_cons_zero, List.set_cons_succ]
  refine Seq.pure rfl rfl (by intro w; go_simp; try first | with_reducible rfl | rfl) ?_
  simp only [Act.put, List.setIfInBounds_toArray, List.set_cons_zero, List.set_cons_succ]
  refine Seq.pure rfl rfl (by intro w; go_simp; try first | with_reducible rfl | rfl) ?_
  simp only [Act.put, List.setIfInBounds_toArray, List.set_cons_zero, List.set_cons_succ]
  refine Seq.pure rfl rfl (by intro w; go_simp; try first | with_reducible rfl | rfl) ?_
  simp only [Act.put, List.setIfInBounds_toArray, List.set_cons_zero, List.set_cons_succ]
  refine Seq.pure (v := .pointer (some ⟨bk5, 0, none⟩)) rfl rfl (by intro w; go_simp; try first | with_reducible rfl | rfl) ?_
  simp only [Act.put, List.setIfInBounds_toArray, List.set_cons_zero, List.set_cons_succ]
  refine Seq.loadAt rfl rfl rfl rfl (by repeat (first | exact mC | apply mT)) (n := 3) (cs' := RC lo) (by first | decide | exact Nat.le_refl _ | (simp [VC, TC, FC, BC, RC]; done)) (by kernel_rfl) (by first | rfl | (simp [VC, TC, FC, BC, RC]; done)) ?_
  simp only [Act.put, List.setIfInBounds_toArray, List.set_cons_zero, List.set_cons_succ]
  refine Seq.pure (v := .pointer (some ⟨bk9, 3, none⟩)) rfl rfl (by intro w; go_simp; try first | with_reducible rfl | rfl) ?_
  simp only [Act.put, List.setIfInBounds_toArray, List.set_cons_zero, List.set_cons_succ]
  refine Seq.loadAt rfl rfl rfl rfl (by repeat (first | exact mC | apply mT)) (n := 3) (cs' := RC ah) (by first | decide | exact Nat.le_refl _ | (simp [VC, TC, FC, BC, RC]; done)) (by kernel_rfl) (by first | rfl | (simp [VC, TC, FC, BC, RC]; done)) ?_
  simp only [Act.put, List.setIfInBounds_toArray, List.set_cons_zero, List.set_cons_succ]
  refine Seq.call rfl rfl rfl rfl (by kernel_rfl) (sub_q (k := 1000) HT.out (Z_lo.out.more (by omega)) (Z_ah.out.more (by omega)) rfl (by omega)) ?_
  simp only [Act.put, List.setIfInBounds_toArray, List.set_cons_zero, List.set_cons_succ]
  refine Seq.pure (v := .pointer (some ⟨bk9, 3, none⟩)) rfl rfl (by intro w; go_simp; try first | with_reducible rfl | rfl) ?_
  simp only [Act.put, List.setIfInBounds_toArray, List.set_cons_zero, List.set_cons_succ]
  refine Seq.loadAt rfl rfl rfl rfl (by repeat (first | exact mC | apply mT)) (n := 3) (cs' := RC ah) (by first | decide | exact Nat.le_refl _ | (simp [VC, TC, FC, BC, RC]; done)) (by kernel_rfl) (by first | rfl | (simp [VC, TC, FC, BC, RC]; done)) ?_
  simp only [Act.put, List.setIfInBounds_toArray, List.set_cons_zero, List.set_cons_succ]
  refine Seq.pure (v := .pointer (some ⟨bk9, 0, none⟩)) rfl rfl (by intro w; go_simp; try first | with_reducible rfl | rfl) ?_
  simp only [Act.put, List.setIfInBounds_toArray, List.set_cons_zero, List.set_cons_succ]
  refine Seq.loadAt rfl rfl rfl rfl (by repeat (first | exact mC | apply mT)) (n := 3) (cs' := RC al) (by first | decide | exact Nat.le_refl _ | (simp [VC, TC, FC, BC, RC]; done)) (by kernel_rfl) (by first | rfl | (simp [VC, TC, FC, BC, RC]; done)) ?_
  simp only [Act.put, List.setIfInBounds_toArray, List.set_cons_zero, List.set_cons_succ]
  refine Seq.call rfl rfl rfl rfl (by kernel_rfl) (sub_q (k := 1000) HT.out (Z_ah.out.more (by omega)) (Z_al.out.more (by omega)) rfl (by omega)) ?_
  simp only [Act.put, List.setIfInBounds_toArray, List.set_cons_zero, List.set_cons_succ]
  refine Seq.call rfl rfl rfl rfl (by kernel_rfl) (cmp_q (k := 4001) HT.out ((Z_lo.out.sub Z_ah.out).more (by omega)) ((Z_ah.out.sub Z_al.out).more (by omega)) HV3.out (by omega)) ?_
  simp only [Act.put, List.setIfInBounds_toArray, List.set_cons_zero, List.set_cons_succ]
  refine Seq.pure rfl rfl (by intro w; go_simp; try first | with_reducible rfl | rfl) ?_
  simp only [Act.put, List.setIfInBounds_toArray, List.set_cons_zero, List.set_cons_succ]
  refine Seq.pure rfl rfl (by intro w; go_simp; try first | with_reducible rfl | rfl) ?_
  simp only [Act.put, List.setIfInBounds_toArray, List.set_cons_zero, List.set_cons_succ]
  refine Seq.pure rfl rfl (by intro w; go_simp; try first | with_reducible rfl | rfl) ?_
  simp only [Act.put, List.setIfInBounds_toArray, List.set_cons_zero, List.set_cons_succ]
  refine Seq.pure (v := .pointer (some ⟨bk11, 0, none⟩)) rfl rfl (by intro w; go_simp; try first | with_reducible rfl | rfl) ?_
  simp only [Act.put, List.setIfInBounds_toArray, List.set_cons_zero, List.set_cons_succ]
  refine Seq.loadAt rfl rfl rfl rfl (by repeat (first | exact mC | apply mT)) (n := 3) (cs' := RC bl) (by first | decide | exact Nat.le_refl _ | (simp [VC, TC, FC, BC, RC]; done)) (by kernel_rfl) (by first | rfl | (simp [VC, TC, FC, BC, RC]; done)) ?_
  simp only [Act.put, List.setIfInBounds_toArray, List.set_cons_zero, List.set_cons_succ]
  refine Seq.pure (v := .pointer (some ⟨bk5, 3, none⟩)) rfl rfl (by intro w; go_simp; try first | with_reducible rfl | rfl) ?_
  simp only [Act.put, List.setIfInBounds_toArray, List.set_cons_zero, List.set_cons_succ]
  refine Seq.loadAt rfl rfl rfl rfl (by repeat (first | exact mC | apply mT)) (n := 3) (cs' := RC hi) (by first | decide | exact Nat.le_refl _ | (simp [VC, TC, FC, BC, RC]; done)) (by kernel_rfl) (by first | rfl | (simp [VC, TC, FC, BC, RC]; done)) ?_
  simp only [Act.put, List.setIfInBounds_toArray, List.set_cons_zero, List.set_cons_succ]
  refine Seq.call rfl rfl rfl rfl (by kernel_rfl) (sub_q (k := 1000) HT.out (Z_bl.out.more (by omega)) (Z_hi.out.more (by omega)) rfl (by omega)) ?_
  simp only [Act.put, List.setIfInBounds_toArray, List.set_cons_zero, List.set_cons_succ]
  refine Seq.pure (v := .pointer (some ⟨bk11, 3, none⟩)) rfl rfl (by intro w; go_simp; try first | with_reducible rfl | rfl) ?_
  simp only [Act.put, List.setIfInBounds_toArray, List.set_cons_zero, List.set_cons_succ]
  refine Seq.loadAt rfl rfl rfl rfl (by repeat (first | exact mC | apply mT)) (n := 3) (cs' := RC bh) (by first | decide | exact Nat.le_refl _ | (simp [VC, TC, FC, BC, RC]; done)) (by kernel_rfl) (by first | rfl | (simp [VC, TC, FC, BC, RC]; done)) ?_
  simp only [Act.put, List.setIfInBounds_toArray, List.set_cons_zero, List.set_cons_succ]
  refine Seq.pure (v := .pointer (some ⟨bk11, 0, none⟩)) rfl rfl (by intro w; go_simp; try first | with_reducible rfl | rfl) ?_
  simp only [Act.put, List.setIfInBounds_toArray, List.set_cons_zero, List.set_cons_succ]
  refine Seq.loadAt rfl rfl rfl rfl (by repeat (first | exact mC | apply mT)) (n := 3) (cs' := RC bl) (by first | decide | exact Nat.le_refl _ | (simp [VC, TC, FC, BC, RC]; done)) (by kernel_rfl) (by first | rfl | (simp [VC, TC, FC, BC, RC]; done)) ?_
  simp only [Act.put, List.setIfInBounds_toArray, List.set_cons_zero, List.set_cons_succ]
  refine Seq.call rfl rfl rfl rfl (by kernel_rfl) (sub_q (k := 1000) HT.out (Z_bh.out.more (by omega)) (Z_bl.out.more (by omega)) rfl (by omega)) ?_
  simp only [Act.put, List.setIfInBounds_toArray, List.set_cons_zero, List.set_cons_succ]
  refine Seq.call rfl rfl rfl rfl (by kernel_rfl) (cmp_q (k := 4001) HT.out ((Z_bl.out.sub Z_hi.out).more (by omega)) ((Z_bh.out.sub Z_bl.out).more (by omega)) HV4.out (by omega)) ?_
  simp only [Act.put, List.setIfInBounds_toArray, List.set_cons_zero, List.set_cons_succ]
  refine Seq.pure rfl rfl (by intro w; go_simp; try first | with_reducible rfl | rfl) ?_
  simp only [Act.put, List.setIfInBounds_toArray, List.set_cons_zero, List.set_cons_succ]
  refine Seq.pure rfl rfl (by intro w; go_simp; try first | with_reducible rfl | rfl) ?_
  simp only [Act.put, List.setIfInBounds_toArray, List.set_cons_zero, List.set_cons_succ]
  refine Seq.pure rfl rfl (by intro w; go_simp; try first | with_reducible rfl | rfl) ?_
  simp only [Act.put, List.setIfInBounds_toArray, List.set_cons_zero, List.set_cons_succ]
  refine Seq.done fun ws7 hws => ?_
  have HS7 := hws.st
  clear HS6 hws
  go_wp2_with fail
  go_ret
  exact ⟨rfl, HS7.below⟩
set_option maxHeartbeats 4000000 in
set_option maxRecDepth 20000 in
theorem bo_n0 {x y : Int} {lo hi : Rat} {a3 : Nat} (w : World) (hT : Tab w) (hx : (-9223372036854775808 ≤ x ∧ x ≤ 9223372036854775807)) (hy : (-9223372036854775808 ≤ y ∧ y ≤ 9223372036854775807)) (e1 : minQ (ratMq x) (ratMq y) = lo) (e2 : maxQ (ratMq x) (ratMq y) = hi) (hle : lo ≤ hi) (hm1 : -ex 9218868437227405311 ≤ lo) (hm2 : hi ≤ ex 9218868437227405311) (hl : lo < 0) (hu : Ovr (-lo) a3) (hh : hi < 0) (ho : Und (-hi) 0) (ha : a_ok lo (frL true a3) (frH true a3)) (hb : b_ok hi (frL false 0) (frH false 0)) :
    Calls Tryd.prog 12 #[.int .i64 x, .int .i64 y] w fun e w' => e = .returned (.bool true) ∧ Below w.heap.size w w' := by
  have HT := Lib.hid hT; clear hT
  have HI := Lib.hid (And.intro hx hy); clear hx hy
  have Z_lo := Lib.hid (show Rz 1000 lo from e1 ▸ ((ratMq_small x).rz.min (ratMq_small y).rz).more (by omega))
  have Z_hi := Lib.hid (show Rz 1000 hi from e2 ▸ ((ratMq_small x).rz.max (ratMq_small y).rz).more (by omega))
  have HMD := Lib.hid (And.intro e1 e2); clear e1 e2
  have HLE := Lib.hid hle; clear hle
  have HM := Lib.hid (And.intro hm1 hm2); clear hm1 hm2
  obtain ⟨al, eal⟩ : ∃ z, frL true a3 = z := ⟨_, rfl⟩
  obtain ⟨ah, eah⟩ : ∃ z, frH true a3 = z := ⟨_, rfl⟩
  obtain ⟨bl, ebl⟩ : ∃ z, frL false 0 = z := ⟨_, rfl⟩
  obtain ⟨bh, ebh⟩ : ∃ z, frH false 0 = z := ⟨_, rfl⟩
  rw [eal, eah] at ha
  rw [ebl, ebh] at hb
  have hu1 := hu.1
  have ho1 := ho.1
  have Z_al := Lib.hid (show Rz 1000 al from eal ▸ frL_rz (by omega))
  have Z_ah := Lib.hid (show Rz 1000 ah from eah ▸ frH_rz (by omega))
  have Z_bl := Lib.hid (show Rz 1000 bl from ebl ▸ frL_rz (by omega))
  have Z_bh := Lib.hid (show Rz 1000 bh from ebh ▸ frH_rz (by omega))
  obtain ⟨b3, hb3⟩ : ∃ b3 : Nat, b3 = a3 + 9223372036854775808 := ⟨_, rfl⟩
  have HL := Lib.hid (show lo < 0 ∧ Ovr (-lo) a3 ∧ b3 = a3 + 9223372036854775808 from ⟨hl, hu, hb3⟩)
  have HH := Lib.hid (show hi < 0 ∧ Und (-hi) 0 from ⟨hh, ho⟩)
  have HA := Lib.hid (show b3 = (if true = true then 9223372036854775808 else 0) + a3 ∧ a3 < 9218868437227405312 ∧ frL true a3 = al ∧ frH true a3 = ah from ⟨by rw [if_pos rfl]; omega, by omega, eal, eah⟩)
  have HB := Lib.hid (show (0 : Nat) = (if false = true then 9223372036854775808 else 0) + 0 ∧ 0 < 9218868437227405312 ∧ frL false 0 = bl ∧ frH false 0 = bh from ⟨by simp, by omega, ebl, ebh⟩)
  clear eal eah ebl ebh hu ho hl hh hu1 ho1 hb3
  obtain ⟨v1, hv1, r1⟩ : ∃ v, cmpQ al lo = v ∧ decide (v < 0) = true := ⟨_, rfl, cmp_lt_t ha.1⟩
  obtain ⟨v2, hv2, r2⟩ : ∃ v, cmpQ bh hi = v ∧ decide (0 < v) = true := ⟨_, rfl, cmp_gt_t hb.1⟩
  obtain ⟨v3, hv3, r3⟩ : ∃ v, cmpQ (lo - ah) (ah - al) = v ∧ decide (v < 0) = true := ⟨_, rfl, cmp_lt_t ha.2⟩
  obtain ⟨v4, hv4, r4⟩ : ∃ v, cmpQ (bl - hi) (bh - bl) = v ∧ decide (v < 0) = true := ⟨_, rfl, cmp_lt_t hb.2⟩
  have HV1 := Lib.hid hv1; clear hv1
  have HV2 := Lib.hid hv2; clear hv2
  have HV3 := Lib.hid hv3; clear hv3
  have HV4 := Lib.hid hv4; clear hv4
  clear ha hb
  go_enter Tryd.func12, Tryd.ntmps12
  have HS : St w [] w := St.start
  go_upto_region 0 with (fail)
  refine wp_seq_text [] (StR.no HS) ?_
  refine Seq.pure rfl rfl (by intro w; go_simp; try first | with_reducible rfl | rfl) ?_
  simp only [Act.put, List.setIfInBounds_toArray, List.set_cons_zero, List.set_cons_succ]
  refine Seq.done fun ws1 hws => ?_
  have HS1 := hws.st
  clear HS hws
  go_upto_region 1 with (fail)
  refine wp_seq_text [] (StR.no HS1) ?_
  refine Seq.call rfl rfl rfl rfl (by kernel_rfl) (bbegun_q HT.out) ?_
  simp only [Act.put, List.setIfInBounds_toArray, List.set_cons_zero, List.set_cons_succ]
  refine Seq.pure rfl rfl (by intro w; go_simp; try first | with_reducible rfl | rfl) ?_
  simp only [Act.put, List.setIfInBounds_toArray, List.set_cons_zero, List.set_cons_succ]
  refine Seq.done fun ws2 hws => ?_
  have HS2 := hws.st
  clear HS1 hws
  go_upto_region 3 with (fail)
  refine wp_seq_text [] (StR.no HS2) ?_
  refine Seq.pure rfl rfl (by intro w; go_simp; try first | with_reducible rfl | rfl) ?_
  simp only [Act.put, List.setIfInBounds_toArray, List.set_cons_zero, List.set_cons_succ]
  refine Seq.pure rfl rfl (by intro w; go_simp; try first | with_reducible rfl | rfl) ?_
  simp only [Act.put, List.setIfInBounds_toArray, List.set_cons_zero, List.set_cons_succ]
  refine Seq.call rfl rfl rfl rfl (by kernel_rfl) (made_sq HT.out HI.out.1 HI.out.2 HMD.out.1 HMD.out.2) ?_
  simp only [Act.put, List.setIfInBounds_toArray, List.set_cons_zero, List.set_cons_succ]
  refine Seq.alloc rfl rfl rfl (z := .agg #[.bool false, .string ⟨#[]⟩, .string ⟨#[]⟩, .bool false, .string ⟨#[]⟩, .string ⟨#[]⟩]) (by kernel_rfl) rfl ?_
  intro bk5 _ _ hbk5_r
  simp only [Act.put, List.setIfInBounds_toArray, List.set_cons_zero, List.set_cons_succ]
  refine Seq.store rfl rfl rfl rfl rfl (by first | exact rS | exact rN (by assumption) (rS) | exact rN (by assumption) (rN (by assumption) (rS)) | exact rN (by assumption) (rN (by assumption) (rN (by assumption) (rS))) | exact rN (by assumption) (rN (by assumption) (rN (by assumption) (rN (by assumption) (rS))))) (n := 6) rfl rfl (by kernel_rfl) (VC_one _ _) ?_
  simp only [Act.put, List.setIfInBounds_toArray, List.set_cons_zero, List.set_cons_succ]
  refine Seq.done fun ws3 hws => ?_
  have HS3 : St w [(bk5, 46, VC lo hi)] ws3 := hws.list1 (by first | exact rS | exact rN (by assumption) (rS) | exact rN (by assumption) (rN (by assumption) (rS)) | exact rN (by assumption) (rN (by assumption) (rN (by assumption) (rS))) | exact rN (by assumption) (rN (by assumption) (rN (by assumption) (rN (by assumption) (rS)))))
  clear HS2 hws
  go_upto_region 4 with (fail)
  refine wp_seq_text [] (StR.no HS3) ?_
  refine Seq.load rfl rfl rfl rfl (by repeat (first | exact mC | apply mT)) (n := 6) rfl (by kernel_rfl) ?_
  simp only [Act.put, List.setIfInBounds_toArray, List.set_cons_zero, List.set_cons_succ]
  refine Seq.call rfl rfl rfl rfl (by kernel_rfl) (to_n0 HT.out Z_lo.out Z_hi.out HLE.out HM.out.1 HM.out.2 HL.out.1 HL.out.2.1 HL.out.2.2 HH.out.1 HH.out.2 rfl) ?_
  simp only [Act.put, List.setIfInBounds_toArray, List.set_cons_zero, List.set_cons_succ]
  refine Seq.pure rfl rfl (by intro w; go_simp; try first | with_reducible rfl | rfl) ?_
  simp only [Act.put, List.setIfInBounds_toArray, List.set_cons_zero, List.set_cons_succ]
  refine Seq.pure (v := .int .u64 (b3 : Int)) rfl rfl (fun w => rfl) ?_
  simp only [Act.put, List.setIfInBounds_toArray, List.set_cons_zero, List.set_cons_succ]
  refine Seq.pure (v := .int .u64 ((0 : Nat) : Int)) rfl rfl (fun w => rfl) ?_
  simp only [Act.put, List.setIfInBounds_toArray, List.set_cons_zero, List.set_cons_succ]
  refine Seq.pure (v := .int .i64 0) rfl rfl (fun w => rfl) ?_
  simp only [Act.put, List.setIfInBounds_toArray, List.set_cons_zero, List.set_cons_succ]
  refine Seq.pure rfl rfl (by intro w; go_simp; try first | with_reducible rfl | rfl) ?_
  simp only [Act.put, List.setIfInBounds_toArray, List.set_cons_zero, List.set_cons_succ]
  refine Seq.pure rfl rfl (by intro w; go_simp; try first | with_reducible rfl | rfl) ?_
  simp only [Act.put, List.setIfInBounds_toArray, List.set_cons_zero, List.set_cons_succ]
  refine Seq.pure rfl rfl (by intro w; go_simp; try first | with_reducible rfl | rfl) ?_
  simp only [Act.put, List.setIfInBounds_toArray, List.set_cons_zero, List.set_cons_succ]
  refine Seq.done fun ws4 hws => ?_
  have HS4 := hws.st
  clear HS3 hws
  go_upto_region 5 with (fail)
  refine wp_seq_text [] (StR.no HS4) ?_
  refine Seq.pure rfl rfl (by intro w; go_simp; try first | with_reducible rfl | rfl) ?_
  simp only [Act.put, List.setIfInBounds_toArray, List.set_cons_zero, List.set_cons_succ]
  refine Seq.call rfl rfl rfl rfl (by kernel_rfl) (from_q (n := true) HT.out HA.out.1 HA.out.2.1 HA.out.2.2.1 HA.out.2.2.2) ?_
  simp only [Act.put, List.setIfInBounds_toArray, List.set_cons_zero, List.set_cons_succ]
  refine Seq.pure rfl rfl (by intro w; go_simp; try first | with_reducible rfl | rfl) ?_
  simp only [Act.put, List.setIfInBounds_toArray, List.set_cons_zero, List.set_cons_succ]
  refine Seq.pure (v := .agg (VC al ah)) rfl rfl (fun w => rfl) ?_
  simp only [Act.put, List.setIfInBounds_toArray, List.set_cons_zero, List.set_cons_succ]
  refine Seq.pure (v := .int .i64 0) rfl rfl (fun w => rfl) ?_
  simp only [Act.put, List.setIfInBounds_toArray, List.set_cons_zero, List.set_cons_succ]
  refine Seq.alloc rfl rfl rfl (z := .agg #[.bool false, .string ⟨#[]⟩, .string ⟨#[]⟩, .bool false, .string ⟨#[]⟩, .string ⟨#[]⟩]) (by kernel_rfl) rfl ?_
  intro bk9 _ _ hbk9_r
  simp only [Act.put, List.setIfInBounds_toArray, List.set_cons_zero, List.set_cons_succ]
  refine Seq.store rfl rfl rfl rfl rfl (by first | exact rS | exact rN (by assumption) (rS) | exact rN (by assumption) (rN (by assumption) (rS)) | exact rN (by assumption) (rN (by assumption) (rN (by assumption) (rS))) | exact rN (by assumption) (rN (by assumption) (rN (by assumption) (rN (by assumption) (rS))))) (n := 6) rfl rfl (by kernel_rfl) (VC_one _ _) ?_
  simp only [Act.put, List.setIfInBounds_toArray, List.set_cons_zero, List.set_cons_succ]
  refine Seq.pure rfl rfl (by intro w; go_simp; try first | with_reducible rfl | rfl) ?_
  simp only [Act.put, List.setIfInBounds_toArray, List.set_cons_zero, List.set_cons_succ]
  refine Seq.done fun ws5 hws => ?_
  have HS5 : St w [(bk9, 46, VC al ah), (bk5, 46, VC lo hi)] ws5 := hws.list1 (by first | exact rS | exact rN (by assumption) (rS) | exact rN (by assumption) (rN (by assumption) (rS)) | exact rN (by assumption) (rN (by assumption) (rN (by assumption) (rS))) | exact rN (by assumption) (rN (by assumption) (rN (by assumption) (rN (by assumption) (rS)))))
  clear HS4 hws
  go_upto_region 6 with (fail)
  refine wp_seq_text [] (StR.no HS5) ?_
  refine Seq.pure rfl rfl (by intro w; go_simp; try first | with_reducible rfl | rfl) ?_
  simp only [Act.put, List.setIfInBounds_toArray, List.set_cons_zero, List.set_cons_succ]
  refine Seq.call rfl rfl rfl rfl (by kernel_rfl) (from_q (n := false) (bb := 0) HT.out HB.out.1 HB.out.2.1 HB.out.2.2.1 HB.out.2.2.2) ?_
  simp only [Act.put, List.setIfInBounds_toArray, List.set_cons_zero, List.set_cons_succ]
  refine Seq.pure rfl rfl (by intro w; go_simp; try first | with_reducible rfl | rfl) ?_
  simp only [Act.put, List.setIfInBounds_toArray, List.set_cons_zero, List.set_cons_succ]
  refine Seq.pure (v := .agg (VC bl bh)) rfl rfl (fun w => rfl) ?_
  simp only [Act.put, List.setIfInBounds_toArray, List.set_cons_zero, List.set_cons_succ]
  refine Seq.pure (v := .int .i64 0) rfl rfl (fun w => rfl) ?_
  simp only [Act.put, List.setIfInBounds_toArray, List.set_cons_zero, List.set_cons_succ]
  refine Seq.alloc rfl rfl rfl (z := .agg #[.bool false, .string ⟨#[]⟩, .string ⟨#[]⟩, .bool false, .string ⟨#[]⟩, .string ⟨#[]⟩]) (by kernel_rfl) rfl ?_
  intro bk11 _ _ hbk11_r
  simp only [Act.put, List.setIfInBounds_toArray, List.set_cons_zero, List.set_cons_succ]
  refine Seq.store rfl rfl rfl rfl rfl (by first | exact rS | exact rN (by assumption) (rS) | exact rN (by assumption) (rN (by assumption) (rS)) | exact rN (by assumption) (rN (by assumption) (rN (by assumption) (rS))) | exact rN (by assumption) (rN (by assumption) (rN (by assumption) (rN (by assumption) (rS))))) (n := 6) rfl rfl (by kernel_rfl) (VC_one _ _) ?_
  simp only [Act.put, List.setIfInBounds_toArray, List.set_cons_zero, List.set_cons_succ]
  refine Seq.pure rfl rfl (by intro w; go_simp; try first | with_reducible rfl | rfl) ?_
  simp only [Act.put, List.setIfInBounds_toArray, List.set_cons_zero, List.set_cons_succ]
  refine Seq.done fun ws6 hws => ?_
  have HS6 : St w [(bk11, 46, VC bl bh), (bk9, 46, VC al ah), (bk5, 46, VC lo hi)] ws6 := hws.list1 (by first | exact rS | exact rN (by assumption) (rS) | exact rN (by assumption) (rN (by assumption) (rS)) | exact rN (by assumption) (rN (by assumption) (rN (by assumption) (rS))) | exact rN (by assumption) (rN (by assumption) (rN (by assumption) (rN (by assumption) (rS)))))
  clear HS5 hws
  go_upto_region 7 with (fail)
  refine wp_seq [] (by kernel_rfl) (by kernel_rfl) Reg.fin_no (StR.no HS6) ?_
  refine Seq.pure rfl rfl (by intro w; go_simp; try first | with_reducible rfl | rfl) ?_
  simp only [Act.put, List.setIfInBounds_toArray, List.set_cons_zero, List.set_cons_succ]
  refine Seq.pure rfl rfl (by intro w; go_simp; try first | with_reducible rfl | rfl) ?_
  simp only [Act.put, List.setIfInBounds_toArray, List.set_cons_zero, List.set_cons_succ]
  refine Seq.pure rfl rfl (by intro w; go_simp; try first | with_reducible rfl | rfl) ?_
  simp only [Act.put, List.setIfInBounds_toArray, List.set_cons_zero, List.set_cons_succ]
  refine Seq.pure rfl rfl (by intro w; go_simp; try first | with_reducible rfl | rfl) ?_
  simp only [Act.put, List.setIfInBounds_toArray, List.set_cons_zero, List.set_cons_succ]
  refine Seq.pure rfl rfl (by intro w; go_simp; try first | with_reducible rfl | rfl) ?_
  simp only [Act.put, List.setIfInBounds_toArray, List.set_cons_zero, List.set_cons_succ]
  refine Seq.pure rfl rfl (by intro w; go_simp; try first | with_reducible rfl | rfl) ?_
  simp only [Act.put, List.setIfInBounds_toArray, List.set_cons_zero, List.set_cons_succ]
  refine Seq.pure rfl rfl (by intro w; go_simp; try first | with_reducible rfl | rfl) ?_
  simp only [Act.put, List.setIfInBounds_toArray, List.set_cons_zero, List.set_cons_succ]
  refine Seq.pure rfl rfl (by intro w; go_simp; try first | with_reducible rfl | rfl) ?_
  simp only [Act.put, List.setIfInBounds_toArray, List.set_cons_zero, List.set_cons_succ]
  refine Seq.pure rfl rfl (by intro w; go_simp; try first | with_reducible rfl | rfl) ?_
  simp only [Act.put, List.setIfInBounds_toArray, List.set_cons_zero, List.set_cons_succ]
  refine Seq.pure rfl rfl (by intro w; go_simp; try first | with_reducible rfl | rfl) ?_
  simp only [Act.put, List.setIfInBounds_toArray, List.set_cons_zero, List.set_cons_succ]
  refine Seq.pure rfl rfl (by intro w; go_simp; try first | with_reducible rfl | rfl) ?_
  simp only [Act.put, List.setIfInBounds_toArray, List.set_cons_zero, List.set_cons_succ]
  refine Seq.pure (v := .pointer (some ⟨bk9, 0, none⟩)) rfl rfl (by intro w; go_simp; try first | with_reducible rfl | rfl) ?_
  simp only [Act.put, List.setIfInBounds_toArray, List.set_cons_zero, List.set_cons_succ]
  refine Seq.loadAt rfl rfl rfl rfl (by repeat (first | exact mC | apply mT)) (n := 3) (cs' := RC al) (by first | decide | exact Nat.le_refl _ | (simp [VC, TC, FC, BC, RC]; done)) (by kernel_rfl) (by first | rfl | (simp [VC, TC, FC, BC, RC]; done)) ?_
  simp only [Act.put, List.setIfInBounds_toArray, List.set_cons_zero, List.set_cons_succ]
  refine Seq.pure (v := .pointer (some ⟨bk5, 0, none⟩)) rfl rfl (by intro w; go_simp; try first | with_reducible rfl | rfl) ?_
  simp only [Act.put, List.setIfInBounds_toArray, List.set_cons_zero, List.set_cons_succ]
  refine Seq.loadAt rfl rfl rfl rfl (by repeat (first | exact mC | apply mT)) (n := 3) (cs' := RC lo) (by first | decide | exact Nat.le_refl _ | (simp [VC, TC, FC, BC, RC]; done)) (by kernel_rfl) (by first | rfl | (simp [VC, TC, FC, BC, RC]; done)) ?_
  simp only [Act.put, List.setIfInBounds_toArray, List.set_cons_zero, List.set_cons_succ]
  refine Seq.call rfl rfl rfl rfl (by kernel_rfl) (cmp_q (k := 1000) HT.out (Z_al.out.more (by omega)) (Z_lo.out.more (by omega)) HV1.out (by omega)) ?_
  simp only [Act.put, List.setIfInBounds_toArray, List.set_cons_zero, List.set_cons_succ]
  refine Seq.pure rfl rfl (by intro w; go_simp; try first | with_reducible rfl | rfl) ?_
  simp only [Act.put, List.setIfInBounds_toArray, List.set_cons_zero, List.set_cons_succ]
  refine Seq.pure rfl rfl (by intro w; go_simp; try first | with_reducible rfl | rfl) ?_
  simp only [Act.put, List.setIfInBounds_toArray, List.set_cons_zero, List.set_cons_succ]
  refine Seq.pure rfl rfl (by intro w; go_simp; try first | with_reducible rfl | rfl) ?_
  simp only [Act.put, List.setIfInBounds_toArray, List.set_cons_zero, List.set_cons_succ]
  refine Seq.pure (v := .pointer (some ⟨bk11, 3, none⟩)) rfl rfl (by intro w; go_simp; try first | with_reducible rfl | rfl) ?_
  simp only [Act.put, List.setIfInBounds_toArray, List.set_cons_zero, List.set_cons_succ]
  refine Seq.loadAt rfl rfl rfl rfl (by repeat (first | exact mC | apply mT)) (n := 3) (cs' := RC bh) (by first | decide | exact Nat.le_refl _ | (simp [VC, TC, FC, BC, RC]; done)) (by kernel_rfl) (by first | rfl | (simp [VC, TC, FC, BC, RC]; done)) ?_
  simp only [Act.put, List.setIfInBounds_toArray, List.set_cons_zero, List.set_cons_succ]
  refine Seq.pure (v := .pointer (some ⟨bk5, 3, none⟩)) rfl rfl (by intro w; go_simp; try first | with_reducible rfl | rfl) ?_
  simp only [Act.put, List.setIfInBounds_toArray, List.set_cons_zero, List.set_cons_succ]
  refine Seq.loadAt rfl rfl rfl rfl (by repeat (first | exact mC | apply mT)) (n := 3) (cs' := RC hi) (by first | decide | exact Nat.le_refl _ | (simp [VC, TC, FC, BC, RC]; done)) (by kernel_rfl) (by first | rfl | (simp [VC, TC, FC, BC, RC]; done)) ?_
  simp only [Act.put, List.setIfInBounds_toArray, List.set_cons_zero, List.set_cons_succ]
  refine Seq.call rfl rfl rfl rfl (by kernel_rfl) (cmp_q (k := 1000) HT.out (Z_bh.out.more (by omega)) (Z_hi.out.more (by omega)) HV2.out (by omega)) ?_
  simp only [Act.put, List.setIfInBounds_toArray, List.set_cons_zero, List.set_cons_succ]
  refine Seq.pure rfl rfl (by intro w; go_simp; try first | with_reducible rfl | rfl) ?_
  simp only [Act.put, List.setIfInBounds_toArray, List.set_cons_zero, List.set_cons_succ]
  refine Seq.pure rfl rfl (by intro w; go_simp; try first | with_reducible rfl | rfl) ?_
  simp only [Act.put, List.setIfInBounds_toArray, List.set_cons_zero, List.set_cons_succ]
  refine Seq.pure rfl rfl (by intro w; go_simp; try first | with_reducible rfl | rfl) ?_
  simp only [Act.put, List.setIfInBounds_toArray, List.set_cons_zero, List.set_cons_succ]
  refine Seq.pure (v := .pointer (some ⟨bk5, 0, none⟩)) rfl rfl (by intro w; go_simp; try first | with_reducible rfl | rfl) ?_
  simp only [Act.put, List.setIfInBounds_toArray, List.set_cons_zero, List.set_cons_succ]
  refine Seq.loadAt rfl rfl rfl rfl (by repeat (first | exact mC | apply mT)) (n := 3) (cs' := RC lo) (by first | decide | exact Nat.le_refl _ | (simp [VC, TC, FC, BC, RC]; done)) (by kernel_rfl) (by first | rfl | (simp [VC, TC, FC, BC, RC]; done)) ?_
  simp only [Act.put, List.setIfInBounds_toArray, List.set_cons_zero, List.set_cons_succ]
  refine Seq.pure (v := .pointer (some ⟨bk9, 3, none⟩)) rfl rfl (by intro w; go_simp; try first | with_reducible rfl | rfl) ?_
  simp only [Act.put, List.setIfInBounds_toArray, List.set_cons_zero, List.set_cons_succ]
  refine Seq.loadAt rfl rfl rfl rfl (by repeat (first | exact mC | apply mT)) (n := 3) (cs' := RC ah) (by first | decide | exact Nat.le_refl _ | (simp [VC, TC, FC, BC, RC]; done)) (by kernel_rfl) (by first | rfl | (simp [VC, TC, FC, BC, RC]; done)) ?_
  simp only [Act.put, List.setIfInBounds_toArray, List.set_cons_zero, List.set_cons_succ]
  refine Seq.call rfl rfl rfl rfl (by kernel_rfl) (sub_q (k := 1000) HT.out (Z_lo.out.more (by omega)) (Z_ah.out.more (by omega)) rfl (by omega)) ?_
  simp only [Act.put, List.setIfInBounds_toArray, List.set_cons_zero, List.set_cons_succ]
  refine Seq.pure (v := .pointer (some ⟨bk9, 3, none⟩)) rfl rfl (by intro w; go_simp; try first | with_reducible rfl | rfl) ?_
  simp only [Act.put, List.setIfInBounds_toArray, List.set_cons_zero, List.set_cons_succ]
  refine Seq.loadAt rfl rfl rfl rfl (by repeat (first | exact mC | apply mT)) (n := 3) (cs' := RC ah) (by first | decide | exact Nat.le_refl _ | (simp [VC, TC, FC, BC, RC]; done)) (by kernel_rfl) (by first | rfl | (simp [VC, TC, FC, BC, RC]; done)) ?_
  simp only [Act.put, List.setIfInBounds_toArray, List.set_cons_zero, List.set_cons_succ]
  refine Seq.pure (v := .pointer (some ⟨bk9, 0, none⟩)) rfl rfl (by intro w; go_simp; try first | with_reducible rfl | rfl) ?_
  simp only [Act.put, List.setIfInBounds_toArray, List.set_cons_zero, List.set_cons_succ]
  refine Seq.loadAt rfl rfl rfl rfl (by repeat (first | exact mC | apply mT)) (n := 3) (cs' := RC al) (by first | decide | exact Nat.le_refl _ | (simp [VC, TC, FC, BC, RC]; done)) (by kernel_rfl) (by first | rfl | (simp [VC, TC, FC, BC, RC]; done)) ?_
  simp only [Act.put, List.setIfInBounds_toArray, List.set_cons_zero, List.set_cons_succ]
  refine Seq.call rfl rfl rfl rfl (by kernel_rfl) (sub_q (k := 1000) HT.out (Z_ah.out.more (by omega)) (Z_al.out.more (by omega)) rfl (by omega)) ?_
  simp only [Act.put, List.setIfInBounds_toArray, List.set_cons_zero, List.set_cons_succ]
  refine Seq.call rfl rfl rfl rfl (by kernel_rfl) (cmp_q (k := 4001) HT.out ((Z_lo.out.sub Z_ah.out).more (by omega)) ((Z_ah.out.sub Z_al.out).more (by omega)) HV3.out (by omega)) ?_
  simp only [Act.put, List.setIfInBounds_toArray, List.set_cons_zero, List.set_cons_succ]
  refine Seq.pure rfl rfl (by intro w; go_simp; try first | with_reducible rfl | rfl) ?_
  simp only [Act.put, List.setIfInBounds_toArray, List.set_cons_zero, List.set_cons_succ]
  refine Seq.pure rfl rfl (by intro w; go_simp; try first | with_reducible rfl | rfl) ?_
  simp only [Act.put, List.setIfInBounds_toArray, List.set_cons_zero, List.set_cons_succ]
  refine Seq.pure rfl rfl (by intro w; go_simp; try first | with_reducible rfl | rfl) ?_
  simp only [Act.put, List.setIfInBounds_toArray, List.set_cons_zero, List.set_cons_succ]
  refine Seq.pure (v := .pointer (some ⟨bk11, 0, none⟩)) rfl rfl (by intro w; go_simp; try first | with_reducible rfl | rfl) ?_
  simp only [Act.put, List.setIfInBounds_toArray, List.set_cons_zero, List.set_cons_succ]
  refine Seq.loadAt rfl rfl rfl rfl (by repeat (first | exact mC | apply mT)) (n := 3) (cs' := RC bl) (by first | decide | exact Nat.le_refl _ | (simp [VC, TC, FC, BC, RC]; done)) (by kernel_rfl) (by first | rfl | (simp [VC, TC, FC, BC, RC]; done)) ?_
  simp only [Act.put, List.setIfInBounds_toArray, List.set_cons_zero, List.set_cons_succ]
  refine Seq.pure (v := .pointer (some ⟨bk5, 3, none⟩)) rfl rfl (by intro w; go_simp; try first | with_reducible rfl | rfl) ?_
  simp only [Act.put, List.setIfInBounds_toArray, List.set_cons_zero, List.set_cons_succ]
  refine Seq.loadAt rfl rfl rfl rfl (by repeat (first | exact mC | apply mT)) (n := 3) (cs' := RC hi) (by first | decide | exact Nat.le_refl _ | (simp [VC, TC, FC, BC, RC]; done)) (by kernel_rfl) (by first | rfl | (simp [VC, TC, FC, BC, RC]; done)) ?_
  simp only [Act.put, List.setIfInBounds_toArray, List.set_cons_zero, List.set_cons_succ]
  refine Seq.call rfl rfl rfl rfl (by kernel_rfl) (sub_q (k := 1000) HT.out (Z_bl.out.more (by omega)) (Z_hi.out.more (by omega)) rfl (by omega)) ?_
  simp only [Act.put, List.setIfInBounds_toArray, List.set_cons_zero, List.set_cons_succ]
  refine Seq.pure (v := .pointer (some ⟨bk11, 3, none⟩)) rfl rfl (by intro w; go_simp; try first | with_reducible rfl | rfl) ?_
  simp only [Act.put, List.setIfInBounds_toArray, List.set_cons_zero, List.set_cons_succ]
  refine Seq.loadAt rfl rfl rfl rfl (by repeat (first | exact mC | apply mT)) (n := 3) (cs' := RC bh) (by first | decide | exact Nat.le_refl _ | (simp [VC, TC, FC, BC, RC]; done)) (by kernel_rfl) (by first | rfl | (simp [VC, TC, FC, BC, RC]; done)) ?_
  simp only [Act.put, List.setIfInBounds_toArray, List.set_cons_zero, List.set_cons_succ]
  refine Seq.pure (v := .pointer (some ⟨bk11, 0, none⟩)) rfl rfl (by intro w; go_simp; try first | with_reducible rfl | rfl) ?_
  simp only [Act.put, List.setIfInBounds_toArray, List.set_cons_zero, List.set_cons_succ]
  refine Seq.loadAt rfl rfl rfl rfl (by repeat (first | exact mC | apply mT)) (n := 3) (cs' := RC bl) (by first | decide | exact Nat.le_refl _ | (simp [VC, TC, FC, BC, RC]; done)) (by kernel_rfl) (by first | rfl | (simp [VC, TC, FC, BC, RC]; done)) ?_
  simp only [Act.put, List.setIfInBounds_toArray, List.set_cons_zero, List.set_cons_succ]
  refine Seq.call rfl rfl rfl rfl (by kernel_rfl) (sub_q (k := 1000) HT.out (Z_bh.out.more (by omega)) (Z_bl.out.more (by omega)) rfl (by omega)) ?_
  simp only [Act.put, List.setIfInBounds_toArray, List.set_cons_zero, List.set_cons_succ]
  refine Seq.call rfl rfl rfl rfl (by kernel_rfl) (cmp_q (k := 4001) HT.out ((Z_bl.out.sub Z_hi.out).more (by omega)) ((Z_bh.out.sub Z_bl.out).more (by omega)) HV4.out (by omega)) ?_
  simp only [Act.put, List.setIfInBounds_toArray, List.set_cons_zero, List.set_cons_succ]
  refine Seq.pure rfl rfl (by intro w; go_simp; try first | with_reducible rfl | rfl) ?_
  simp only [Act.put, List.setIfInBounds_toArray, List.set_cons_zero, List.set_cons_succ]
  refine Seq.pure rfl rfl (by intro w; go_simp; try first | with_reducible rfl | rfl) ?_
  simp only [Act.put, List.setIfInBounds_toArray, List.set_cons_zero, List.set_cons_succ]
  refine Seq.pure rfl rfl (by intro w; go_simp; try first | with_reducible rfl | rfl) ?_
  simp only [Act.put, List.setIfInBounds_toArray, List.set_cons_zero, List.set_cons_succ]
  refine Seq.done fun ws7 hws => ?_
  have HS7 := hws.st
  clear HS6 hws
  go_wp2_with fail
  go_ret
  exact ⟨rfl, HS7.below⟩
theorem borderOut_int (x y : Int) (w : World) (hx0 : -9223372036854775808 ≤ x) (hx1 : x ≤ 9223372036854775807) (hy0 : -9223372036854775808 ≤ y) (hy1 : y ≤ 9223372036854775807) (hT : Tab w) :
    Calls Tryd.prog 12 #[.int .i64 x, .int .i64 y] w fun e w' => e = .returned (.bool true) ∧ Below w.heap.size w w' := by
  obtain ⟨lo, e1⟩ : ∃ z, minQ (ratMq x) (ratMq y) = z := ⟨_, rfl⟩
  obtain ⟨hi, e2⟩ : ∃ z, maxQ (ratMq x) (ratMq y) = z := ⟨_, rfl⟩
  have hle : lo ≤ hi := by rw [← e1, ← e2]; exact min_le_max _ _
  have bx := ratMq_8 x
  have by_ := ratMq_8 y
  have l8 : -8 ≤ lo := by rw [← e1]; exact le_min bx.1 by_.1
  have h8 : hi ≤ 8 := by rw [← e2]; exact max_le bx.2 by_.2
  have mb := most_big
  have hm1 : -ex 9218868437227405311 ≤ lo := by grind
  have hm2 : hi ≤ ex 9218868437227405311 := by grind
  by_cases hl : 0 ≤ lo
  · have hh : 0 ≤ hi := by grind
    obtain ⟨a1, hu, hu2⟩ := und_ex hl (by grind)
    obtain ⟨a2, ho⟩ := ovr_ex hh h8
    exact bo_pp w hT ⟨hx0, hx1⟩ ⟨hy0, hy1⟩ e1 e2 hle hm1 hm2 hl hu hh ho (a_pos hu.2.1 hu2) (b_pos ho hh)
  · have hl : lo < 0 := by grind
    obtain ⟨a3, hu⟩ := ovr_ex (show 0 ≤ -lo by grind) (by grind)
    by_cases hh : 0 ≤ hi
    · obtain ⟨a2, ho⟩ := ovr_ex hh h8
      exact bo_np w hT ⟨hx0, hx1⟩ ⟨hy0, hy1⟩ e1 e2 hle hm1 hm2 hl hu hh ho (a_neg hu hl).2 (b_pos ho hh)
    · have hh : hi < 0 := by grind
      obtain ⟨a4, ho, ho2⟩ := und_ex (show 0 ≤ -hi by grind) (by grind)
      rcases Nat.eq_zero_or_pos a4 with h4 | h4
      · subst h4
        exact bo_n0 w hT ⟨hx0, hx1⟩ ⟨hy0, hy1⟩ e1 e2 hle hm1 hm2 hl hu hh ho (a_neg hu hl).2 (b_neg0 hh ho2)
      · exact bo_nn w hT ⟨hx0, hx1⟩ ⟨hy0, hy1⟩ e1 e2 hle hm1 hm2 hl hu hh ho h4 (a_neg hu hl).2 (b_neg ho.2.1 ho2 h4)
end Go.Proofs.YtahmajbgfjinbaaDoor
