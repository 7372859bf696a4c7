/- ganttop.h6begun: by hand. -/
import Derived.Test.YtmchjmflkaiakaaGreatDoorNmA
import Derived.Test.YtmchjmflkaiakaaGreatDoorGrF
import Derived.Test.YtmchjmflkaiakaaGreatDoorStO
import Derived.Test.YtmchjmflkaiakaaGreatDoorPo6
import Derived.Deep.LoopGhost
import Derived.OwnWalk
namespace Go.Proofs.YtmchjmflkaiakaaGreatDoor
open Go.RowKit
set_option linter.unusedVariables false
set_option linter.unusedSimpArgs false
set_option maxHeartbeats 4000000
set_option maxRecDepth 20000
theorem ex_1 : ex 4607182418800017408 = 1 := by
 rw [← ex_lo (b := 4607182418800017408) (by decide)]
 have e1 : exM 4607182418800017408 = 4503599627370496 := by decide
 have e2 : exE 4607182418800017408 = 1023 := by decide
 rw [e1, e2]
 have e3 : pw (1075 - 1023) = 4503599627370496 := by decide +kernel
 rw [e3]; decide +kernel
theorem ex_2 : ex 4611686018427387904 = 2 := by
 rw [← ex_lo (b := 4611686018427387904) (by decide)]
 have e1 : exM 4611686018427387904 = 4503599627370496 := by decide
 have e2 : exE 4611686018427387904 = 1024 := by decide
 rw [e1, e2]
 have e3 : pw (1075 - 1024) = 2251799813685248 := by decide +kernel
 rw [e3]; decide +kernel
theorem one_in : ∃ z0 z1, frL false 4607182418800017408 = z0 ∧ frH false 4607182418800017408 = z1 ∧ z0 ≤ z1 ∧ decide (z0 ≤ 1 ∧ 1 ≤ z1) = true ∧ decide (z0 ≤ 2 ∧ 2 ≤ z1) = false ∧ Rz 77 z0 ∧ Rz 77 z1 := by
 have f := fr_fl false (b := 4607182418800017408) (by omega) (by omega)
 have h1 := mid_lt 4607182418800017407
 have h2 := mid_gt 4607182418800017408
 have h3 := mid_lt 4607182418800017408
 have h4 := ex_le (show 4607182418800017408 + 1 ≤ 4611686018427387904 by omega)
 have e1 := ex_1
 have e2 := ex_2
 have g1 : frL false 4607182418800017408 = midE 4607182418800017407 := by rw [frL_f, if_neg (by omega)]
 have g2 : frH false 4607182418800017408 = midE 4607182418800017408 := frH_f _
 rw [show 4607182418800017407 + 1 = 4607182418800017408 from rfl, e1] at h1
 rw [e1] at h2
 rw [e2] at h4
 -- the number above 1 is at most 2, but its middle is less
 refine ⟨_, _, rfl, rfl, f.le, decide_eq_true ⟨by rw [g1]; grind, by rw [g2]; grind⟩, decide_eq_false ?_, f.zl, f.zh⟩
 rintro ⟨-, h5⟩
 rw [g2] at h5
 grind
def SQ : Pts := [((0 : Rat), (0 : Rat)), ((2 : Rat), (0 : Rat)), ((2 : Rat), (2 : Rat)), ((0 : Rat), (2 : Rat))]
theorem SQ_box : mnF (px SQ) (4 - 1) = 0 ∧ mnF (py SQ) (4 - 1) = 0 ∧ mxF (px SQ) (4 - 1) = 2 ∧ mxF (py SQ) (4 - 1) = 2 := by decide +kernel
theorem SQ_cells (w : World) (hT : Tab w) :
  Calls Tryz.prog 86 #[.agg (BC 0 0 2 2)] w fun e w' => ∃ A c, e = .returned (.tuple #[.slice A 16 c, .int .i64 0]) ∧ Below w.heap.size w w' := by
 have z0 : Rz 2 (0 : Rat) := Rz.zero2
 have z2 : Rz 2 (2 : Rat) := Rz.lit (z := 2) rfl (by decide)
 have h := of_w (k := 2) (n0 := 0) (n1 := 0) (x0 := -1) (x1 := 2) (y0 := -1) (y1 := 2) (nX := 4) (nY := 4) w hT (RawT.rc z0) (RawT.rc z0) (RawT.rc z2) (RawT.rc z2) (by decide +kernel) (by decide +kernel)
  (by decide +kernel) (by decide +kernel) (by omega) (by omega) (by omega) (by omega) (by omega) (by decide +kernel) (by decide +kernel) (by omega) (by omega) (by omega) (by omega) (by omega) (by omega) (by omega) (by omega) (by omega) (by omega)
 refine h.mono ?_
 rintro e w' ⟨v, rfl, hR⟩
 obtain ⟨A, c, hv, -⟩ := hR.facts
 rw [rowsL_len] at hv
 exact ⟨A, c, by rw [hv], hR.bel⟩
theorem hbegun_q {W : World} {l : List Own} (hT : Tab W) (w : World) (h : St W l w) :
  Calls Tryz.prog 37 #[] w fun e w' => e = .returned (.bool true) ∧ Below w.heap.size w w' := by
 have HT := Lib.hid (tabS hT h); clear hT h
 obtain ⟨z0, z1, e0, e1, hle, hh1, hh2, hr0, hr1⟩ := one_in
 have HF := Lib.hid (And.intro e0 e1); clear e0 e1
 have HLE := Lib.hid hle; clear hle
 have HI := Lib.hid (And.intro hh1 hh2); clear hh1 hh2
 have HZ := Lib.hid (And.intro hr0 hr1); clear hr0 hr1
 have HS0 : Hid (St w [] w) := Lib.hid St.start
 go_enter Tryz.func37, Tryz.ntmps37
 go_upto_region 2 with fail
 refine rgT [] HS0.out ?_
 refine pU ?_
 refine Seq.callV rfl rfl rfl rfl rfl (by kernel_rfl) (hat_q (x := 0) (y := 0) HT.out (by omega) (by omega) rfl rfl) (nZ ?_)
 refine pU ?_
 refine Seq.callV rfl rfl rfl rfl rfl (by kernel_rfl) (hat_q (x := 2) (y := 0) HT.out (by omega) (by omega) rfl rfl) (nZ ?_)
 refine pU ?_
 refine Seq.callV rfl rfl rfl rfl rfl (by kernel_rfl) (hat_q (x := 2) (y := 2) HT.out (by omega) (by omega) rfl rfl) (nZ ?_)
 refine pU ?_
 refine Seq.callV rfl rfl rfl rfl rfl (by kernel_rfl) (hat_q (x := 0) (y := 2) HT.out (by omega) (by omega) rfl rfl) (nZ ?_)
 refine Seq.slice (n := 4) (e := 29) (cs := PC SQ) rfl rfl (fun w => slcP_4 rfl rfl rfl rfl rfl w) ?_
 intro gp _ _ hgp
 refine nZ ?_
 refine pU ?_
 refine e1 gp fun _ HS1=>?_
 clear HS0
 go_upto_region 3 with fail
 refine rgT [] HS1.out ?_
 refine cX rfl rfl (from_q (n := false) (bb := 4607182418800017408) (b := 4607182418800017408) HT.out (by simp) (by omega) HF.out.1 HF.out.2) ?_
 refine pU ?_
 refine pV (.agg (VC z0 z1)) (fun w => rfl) ?_
 refine pV (.int .i64 0) (fun w => rfl) ?_
 refine aL6 ?_
 intro b3 _ _ hb3
 refine nZ ?_
 refine sV (VC_one _ _) ?_
 refine pU ?_
 refine e1 b3 fun _ HS2=>?_
 clear HS1
 go_upto_region 4 with fail
 refine wp_seq_textC 4 [] rfl rfl rfl (StR.no HS2.out) ?_
 refine cX rfl rfl (of_q (z := -1) HT.out (by omega) (by omega) (by decide +kernel)) ?_
 refine cX rfl rfl (of_q (z := 0) HT.out (by omega) (by omega) (by decide +kernel)) ?_
 refine cX rfl rfl (of_q (z := 1) HT.out (by omega) (by omega) (by decide +kernel)) ?_
 refine Seq.slice (n := 3) (e := 27) (cs := RX [] [-1, 0, 1]) rfl rfl (fun w => slcQ_3 rfl rfl rfl rfl w) ?_
 intro gl _ _ hgl
 refine nZ ?_
 refine Seq.done fun w3 hws => ?_
 have HBR : Hid (RAt w3 (some ⟨gl, 0, none⟩) [-1, 0, 1]) := Lib.hid (.inr ⟨gl, [], rfl, ((hws.q1 (p := gl)).blk _ List.mem_cons_self).2⟩)
 have HST1 := Lib.hid hws.st
 clear hws HS2
 refine ⟨wants_none rfl, ?_⟩
 refine w_call (vs := #[.slice (some ⟨gl, 0, none⟩) 3 3]) rfl rfl (by kernel_rfl) (roots_S (c := 3) w3 HBR.out rfl roots_one (tabS HT.out HST1.out) (by omega)) fun e w4 h9 => ?_
 obtain ⟨v9, e9, hb9, A9, c9, hv9, -⟩ := h9
 refine ⟨_, e9, ?_⟩
 have HS4 := Lib.hid (HST1.out.next hb9)
 have hv9' : v9 = .slice A9 2 c9 := hv9
 subst hv9'
 clear e9 hb9 hv9 HST1 HBR
 simp only [Act.eval, Act.put, List.setIfInBounds_toArray, List.set_cons_zero, List.set_cons_succ]
 refine ⟨wants_none rfl, w_mov rfl ?_⟩
 simp only [Act.eval, Act.put, List.setIfInBounds_toArray, List.set_cons_zero, List.set_cons_succ]
 refine ⟨wants_none rfl, w_ext (vs := #[.slice A9 2 c9, .int .i64 0]) rfl rfl rfl ?_⟩
 simp only [Act.eval, Act.put, List.setIfInBounds_toArray, List.set_cons_zero, List.set_cons_succ]
 refine ⟨wants_none rfl, w_ext (vs := #[.slice A9 2 c9, .int .i64 0]) rfl rfl rfl ?_⟩
 simp only [Act.eval, Act.put, List.setIfInBounds_toArray, List.set_cons_zero, List.set_cons_succ]
 refine ⟨wants_none rfl, st_asg rfl ?_⟩
 simp only [Act.eval, Act.put, List.setIfInBounds_toArray, List.set_cons_zero, List.set_cons_succ]
 refine ⟨wants_none rfl, st_asg rfl ?_⟩
 unfold chainW
 simp only [Act.eval, Act.put, List.setIfInBounds_toArray, List.set_cons_zero, List.set_cons_succ]
 go_upto_region 5 with fail
 refine wp_seq_textC 2 [] rfl rfl rfl (StR.no HS4.out) ?_
 refine pU ?_
 refine cX rfl rfl (fun w h => box_G (k := 2) (n := 4) HT.out sq_z rfl ⟨by omega, by omega, sq_cvx⟩ SQ_box (by omega) gp w h (h.blk (gp, _, _) (by repeat first|exact mC|apply mT)).2) ?_
 refine dH fun w5 HS5=>?_
 clear HS4
 refine ⟨wants_none rfl, ?_⟩
 refine w_call (vs := #[.agg (BC 0 0 2 2)]) rfl rfl (by kernel_rfl) (SQ_cells w5 (tabS HT.out HS5.out)) fun e w6 h9 => ?_
 obtain ⟨A8, c8, e8, hb8⟩ := h9
 refine ⟨_, e8, ?_⟩
 have HS6 := Lib.hid (HS5.out.next hb8)
 clear e8 hb8 HS5
 simp only [Act.eval, Act.put, List.setIfInBounds_toArray, List.set_cons_zero, List.set_cons_succ]
 refine ⟨wants_none rfl, w_mov rfl ?_⟩
 simp only [Act.eval, Act.put, List.setIfInBounds_toArray, List.set_cons_zero, List.set_cons_succ]
 refine ⟨wants_none rfl, w_ext (vs := #[.slice A8 16 c8, .int .i64 0]) rfl rfl rfl ?_⟩
 simp only [Act.eval, Act.put, List.setIfInBounds_toArray, List.set_cons_zero, List.set_cons_succ]
 refine ⟨wants_none rfl, w_ext (vs := #[.slice A8 16 c8, .int .i64 0]) rfl rfl rfl ?_⟩
 simp only [Act.eval, Act.put, List.setIfInBounds_toArray, List.set_cons_zero, List.set_cons_succ]
 refine ⟨wants_none rfl, st_asg rfl ?_⟩
 simp only [Act.eval, Act.put, List.setIfInBounds_toArray, List.set_cons_zero, List.set_cons_succ]
 refine ⟨wants_none rfl, st_asg rfl ?_⟩
 unfold chainW
 simp only [Act.eval, Act.put, List.setIfInBounds_toArray, List.set_cons_zero, List.set_cons_succ]
 go_upto_region 6 with fail
 refine rgW [] HS6.out ?_
 iterate 3 refine pU ?_
 refine lV ?_
 refine cX rfl rfl (of_q (z := 1) HT.out (by omega) (by omega) (by decide +kernel)) ?_
 refine cX rfl rfl (has_q (k := 77) HT.out HZ.out.1 HZ.out.2 (Rz.one2.more (by omega)) HLE.out HI.out.1 (by omega)) ?_
 iterate 2 refine pU ?_
 refine lV ?_
 refine cX rfl rfl (of_q (z := 2) HT.out (by omega) (by omega) (by decide +kernel)) ?_
 refine cX rfl rfl (has_q (k := 77) HT.out HZ.out.1 HZ.out.2 ((show Rz 2 (2 : Rat) from Rz.lit (z := 2) rfl (by decide)).more (by omega)) HLE.out HI.out.2 (by omega)) ?_
 iterate 22 refine pU ?_
 refine cX rfl rfl (fun w h => area_G (k := 2) (n := 4) HT.out sq_z rfl ⟨by omega, by omega, sq_cvx⟩ sq_area (by omega) gp w h (h.blk (gp, _, _) (by repeat first|exact mC|apply mT)).2) ?_
 refine cX rfl rfl (of_q (z := 4) HT.out (by omega) (by omega) (by decide +kernel)) ?_
 refine Seq.eqR rfl rfl rfl rfl rfl (b := true) (decide_eq_true rfl) (nZ ?_)
 iterate 2 refine pU ?_
 refine dH fun _ HS7=>?_
 clear HS6
 go_wp2_with fail
 go_ret
 exact ⟨rfl, HS7.out.below⟩
end Go.Proofs.YtmchjmflkaiakaaGreatDoor
