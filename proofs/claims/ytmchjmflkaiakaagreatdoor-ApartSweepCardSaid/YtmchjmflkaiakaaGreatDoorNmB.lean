/- Joined texts: NmL NmA NmB. -/
import Derived.Test.YtmchjmflkaiakaaGreatDoorBo4
import Derived.Test.YtmchjmflkaiakaaGreatDoorSp6
import Derived.Test.YtmchjmflkaiakaaGreatDoorApX3
import Derived.Test.YtmchjmflkaiakaaGreatDoorGrF
import Derived.Test.YtmchjmflkaiakaaGreatDoorStO
import Derived.Test.YtmchjmflkaiakaaGreatDoorPo6
import Derived.Deep.LoopGhost
import Derived.OwnWalk
set_option maxHeartbeats 4000000
set_option maxRecDepth 20000
namespace Go.Proofs.YtmchjmflkaiakaaGreatDoor
open Go.RowKit
set_option linter.unusedVariables false
set_option linter.unusedSimpArgs false
theorem pw_rz10 {n : Nat} (hn : n ≤ 73) : Rz 10 ((pw n : Nat) : Rat) := by
 have e1 : (((pw n : Nat) : Rat)).num = (pw n : Int) := Rat.num_natCast _
 have e2 : (((pw n : Nat) : Rat)).den = 1 := Rat.den_natCast _
 refine ⟨?_, ?_⟩
 ·rw [e1, Int.natAbs_natCast]
  unfold Sz
  rw [bstr_length_le]
  exact Nat.lt_of_le_of_lt (pw_le hn) (by decide +kernel)
 ·rw [e2]; exact Sz.one.more (by omega)
theorem ex_rz18 {b : Nat} (h1 : 4512606826625236992 ≤ b) (h2 : b ≤ 4701758010974797824) : Rz 18 (ex b) := by
 have h3 : 1002 ≤ exE b ∧ exE b ≤ 1044 := by unfold exE; rw [if_neg (by omega)]; omega
 rw [← ex_lo (by omega)]
 exact (m_rz (exM_lt b)).div (pw_rz10 (by omega)) (pw_ne _)
theorem mid_rz77 {b : Nat} (h1 : 4512606826625236992 ≤ b) (h2 : b < 4701758010974797824) : Rz 77 (midE b) :=
 ((num_s 1 2 (by decide) (by decide) (by decide)).mul ((ex_rz18 h1 (by omega)).add (ex_rz18 (b := b + 1) (by omega) (by omega)))).more (by omega)
theorem ex_2_21 : ex 4701758010974797824 = 2097152 := by
 rw [← ex_lo (b := 4701758010974797824) (by decide)]
 have e1 : exM 4701758010974797824 = 4503599627370496 := by decide
 have e2 : exE 4701758010974797824 = 1044 := by decide
 rw [e1, e2]
 have e3 : pw (1075 - 1044) = 2147483648 := by decide +kernel
 rw [e3]; decide +kernel
theorem mid_21 {b : Nat} (h : b < 4701758010974797824) : midE b ≤ 2097152 := by
 have h1 := mid_lt b
 have h2 := ex_le (show b + 1 ≤ 4701758010974797824 by omega)
 rw [ex_2_21] at h2; grind
structure Fl (l h : Rat) : Prop where
 zl : Rz 77 l
 zh : Rz 77 h
 le : l ≤ h
 lo : -2097152 ≤ l ∧ l ≤ 2097152
 hi : -2097152 ≤ h ∧ h ≤ 2097152
theorem fr_fl (n : Bool) {b : Nat} (h1 : 4517110426252607488 ≤ b) (h2 : b < 4701758010974797824) : Fl (frL n b) (frH n b) := by
 have z1 := mid_rz77 (b := b) (by omega) h2
 have z2 := mid_rz77 (b := b - 1) (by omega) (by omega)
 have p1 := mid_pos b
 have p2 := mid_pos (b - 1)
 have q1 := mid_21 h2
 have q2 := mid_21 (b := b - 1) (by omega)
 have m := mid_le (show b - 1 ≤ b by omega)
 unfold frL frH
 cases n
 ·have hb : ¬ b = 0 := by omega
  simp only [if_neg hb, Bool.false_eq_true, if_false]
  exact ⟨z2, z1, m, by constructor <;> grind, by constructor <;> grind⟩
 ·have hb : ¬ b = 0 := by omega
  simp only [if_neg hb, if_true]
  exact ⟨z1.neg, z2.neg, by grind, by constructor <;> grind, by constructor <;> grind⟩
theorem hat_q {x y : Int} {z0 z1 : Rat} {W : World} {l : List Own} (hT : Tab W) (hx : (-9223372036854775808 ≤ x ∧ x ≤ 9223372036854775807)) (hy : (-9223372036854775808 ≤ y ∧ y ≤ 9223372036854775807)) (hz0 : (x : Rat) = z0) (hz1 : (y : Rat) = z1) (w : World) (h : St W l w) : Rt 85 #[.int .i64 x, .int .i64 y] w (.agg (VC z0 z1)) := by
 subst hz0 hz1
 have HT := yh (tabS hT h); clear hT h
 have HI := yh (And.intro hx hy); clear hx hy
 go_enter Tryz.func85, Tryz.ntmps85
 have HS : St w [] w := St.start
 go_upto_region 0 with fail
 refine rgT [] HS ?_
 refine Seq.alloc rfl rfl rfl (z := .agg (#[.bool false, .string ⟨#[]⟩, .string ⟨#[]⟩, .bool false, .string ⟨#[]⟩, .string ⟨#[]⟩])) (by kernel_rfl) rfl ?_
 intro bk4 _ _ e4
 refine nZ ?_
 refine dn1 bk4 fun _ HS1=>?_
 clear HS
 go_upto_region 1 with fail
 refine wp_seq_text [] (StR.move (StR.no HS1)) ?_
 refine pW ?_
 refine cL (of_q HT.out HI.out.1.1 HI.out.1.2 rfl) ?_
 refine pW ?_
 refine cL (of_q HT.out HI.out.2.1 HI.out.2.2 rfl) ?_
 refine pV (.agg (VC ((x : Int) : Rat) ((y : Int) : Rat))) (fun w => bld_Vec rfl rfl rfl w) ?_
 refine sV (VC_one _ _) ?_
 refine dn1 bk4 fun _ HS2=>?_
 clear HS1
 go_wp2_with fail
 exact rO HS2 ⟨rfl, HS2.below⟩
theorem ex_1 : ex 4607182418800017408 = 1 := by
 rw [← ex_lo (b := 4607182418800017408) (by decide)]
 have e1 : exM 4607182418800017408 = 4503599627370496 := by decide
 have e2 : exE 4607182418800017408 = 1023 := by decide
 rw [e1, e2]
 have e3 : pw (1075 - 1023) = 4503599627370496 := by decide +kernel
 rw [e3]; decide +kernel
theorem ex_2 : ex 4611686018427387904 = 2 := by
 rw [← ex_lo (b := 4611686018427387904) (by decide)]
 have e1 : exM 4611686018427387904 = 4503599627370496 := by decide
 have e2 : exE 4611686018427387904 = 1024 := by decide
 rw [e1, e2]
 have e3 : pw (1075 - 1024) = 2251799813685248 := by decide +kernel
 rw [e3]; decide +kernel
theorem one_in : ∃ z0 z1, frL false 4607182418800017408 = z0 ∧ frH false 4607182418800017408 = z1 ∧ z0 ≤ z1 ∧ decide (z0 ≤ 1 ∧ 1 ≤ z1) = true ∧ decide (z0 ≤ 2 ∧ 2 ≤ z1) = false ∧ Rz 77 z0 ∧ Rz 77 z1 := by
 have f := fr_fl false (b := 4607182418800017408) (by omega) (by omega)
 have h1 := mid_lt 4607182418800017407
 have h2 := mid_gt 4607182418800017408
 have h3 := mid_lt 4607182418800017408
 have h4 := ex_le (show 4607182418800017408 + 1 ≤ 4611686018427387904 by omega)
 have e1 := ex_1
 have e2 := ex_2
 have g1 : frL false 4607182418800017408 = midE 4607182418800017407 := by rw [frL_f, if_neg (by omega)]
 have g2 : frH false 4607182418800017408 = midE 4607182418800017408 := frH_f _
 rw [show 4607182418800017407 + 1 = 4607182418800017408 from rfl, e1] at h1
 rw [e1] at h2
 rw [e2] at h4
 -- the number above 1 is at most 2, but its middle is less
 refine ⟨_, _, rfl, rfl, f.le, decide_eq_true ⟨by rw [g1]; grind, by rw [g2]; grind⟩, decide_eq_false ?_, f.zl, f.zh⟩
 rintro ⟨-, h5⟩
 rw [g2] at h5
 grind
def SQ : Pts := [((0 : Rat), (0 : Rat)), ((2 : Rat), (0 : Rat)), ((2 : Rat), (2 : Rat)), ((0 : Rat), (2 : Rat))]
theorem SQ_box : mnF (px SQ) (4 - 1) = 0 ∧ mnF (py SQ) (4 - 1) = 0 ∧ mxF (px SQ) (4 - 1) = 2 ∧ mxF (py SQ) (4 - 1) = 2 := by decide +kernel
theorem SQ_cells (w : World) (hT : Tab w) :
  Calls Tryz.prog 86 #[.agg (BC 0 0 2 2)] w fun e w' => ∃ A c, e = .returned (.tuple #[.slice A 16 c, .int .i64 0]) ∧ Below w.heap.size w w' := by
 have z0 : Rz 2 (0 : Rat) := Rz.zero2
 have z2 : Rz 2 (2 : Rat) := Rz.lit (z := 2) rfl (by decide)
 have h := of_w (k := 2) (n0 := 0) (n1 := 0) (x0 := -1) (x1 := 2) (y0 := -1) (y1 := 2) (nX := 4) (nY := 4) w hT (RawT.rc z0) (RawT.rc z0) (RawT.rc z2) (RawT.rc z2) (by decide +kernel) (by decide +kernel)
  (by decide +kernel) (by decide +kernel) (by omega) (by omega) (by omega) (by omega) (by omega) (by decide +kernel) (by decide +kernel) (by omega) (by omega) (by omega) (by omega) (by omega) (by omega) (by omega) (by omega) (by omega) (by omega)
 refine h.mono ?_
 rintro e w' ⟨v, rfl, hR⟩
 obtain ⟨A, c, hv, -⟩ := hR.facts
 rw [rowsL_len] at hv
 exact ⟨A, c, by rw [hv], hR.bel⟩
theorem from_1 {z0 z1 : Rat} {W : World} {l : List Own} (hT : Tab W) (hz0 : frL false 4607182418800017408 = z0) (hz1 : frH false 4607182418800017408 = z1) (w : World) (h : St W l w) : Rt 38 #[.int .u64 4607182418800017408] w (.tuple #[.agg (VC z0 z1), .int .i64 0]) := by
 subst hz0 hz1
 unfold frL frH
 simp only [Bool.false_eq_true, if_false]
 rw [if_neg (by decide)]
 exact from_10 (bb := 4607182418800017408) (b := 4607182418800017408) hT (by omega) (by rw [andNot_top _ (by omega)]) (by omega) (by omega) w h
theorem hbegun_q {W : World} {l : List Own} (hT : Tab W) (w : World) (h : St W l w) : Rt 37 #[] w (.bool true) := by
 have HT := yh (tabS hT h); clear hT h
 obtain ⟨z0, z1, e0, e1, hle, hh1, hh2, hr0, hr1⟩ := one_in
 have HF := yh (And.intro e0 e1); clear e0 e1
 have HLE := yh hle; clear hle
 have HI := yh (And.intro hh1 hh2); clear hh1 hh2
 have HZ := yh (And.intro hr0 hr1); clear hr0 hr1
 have HS0 : Hid (St w [] w) := yh St.start
 go_enter Tryz.func37, Tryz.ntmps37
 go_upto_region 2 with fail
 refine rgT [] HS0.out ?_
 refine pU ?_
 refine Seq.callV rfl rfl rfl rfl rfl (by kernel_rfl) (hat_q (x := 0) (y := 0) HT.out (by omega) (by omega) rfl rfl) (nZ ?_)
 refine pU ?_
 refine Seq.callV rfl rfl rfl rfl rfl (by kernel_rfl) (hat_q (x := 2) (y := 0) HT.out (by omega) (by omega) rfl rfl) (nZ ?_)
 refine pU ?_
 refine Seq.callV rfl rfl rfl rfl rfl (by kernel_rfl) (hat_q (x := 2) (y := 2) HT.out (by omega) (by omega) rfl rfl) (nZ ?_)
 refine pU ?_
 refine Seq.callV rfl rfl rfl rfl rfl (by kernel_rfl) (hat_q (x := 0) (y := 2) HT.out (by omega) (by omega) rfl rfl) (nZ ?_)
 refine Seq.slice (n := 4) (e := 29) (cs := PC SQ) rfl rfl (fun w => slcP_4 rfl rfl rfl rfl rfl w) ?_
 intro gp _ _ hgp
 refine nZ ?_
 refine pU ?_
 refine dh1 gp fun _ HS1=>?_
 clear HS0
 go_upto_region 3 with fail
 refine rgT [] HS1.out ?_
 refine cX rfl rfl (from_1 HT.out HF.out.1 HF.out.2) ?_
 refine pU ?_
 refine pV (.agg (VC z0 z1)) (fun w => rfl) ?_
 refine pV (.int .i64 0) (fun w => rfl) ?_
 refine aL6 ?_
 intro b3 _ _ hb3
 refine nZ ?_
 refine sV (VC_one _ _) ?_
 refine pU ?_
 refine dh1 b3 fun _ HS2=>?_
 clear HS1
 go_upto_region 4 with fail
 refine wp_seq_textC 4 [] rfl rfl rfl (StR.no HS2.out) ?_
 refine cX rfl rfl (of_q (z := -1) HT.out (by omega) (by omega) (by decide +kernel)) ?_
 refine cX rfl rfl (of_q (z := 0) HT.out (by omega) (by omega) (by decide +kernel)) ?_
 refine cX rfl rfl (of_q (z := 1) HT.out (by omega) (by omega) (by decide +kernel)) ?_
 refine Seq.slice (n := 3) (e := 27) (cs := RX [] [-1, 0, 1]) rfl rfl (fun w => slcQ_3 rfl rfl rfl rfl w) ?_
 intro gl _ _ hgl
 refine nZ ?_
 refine Seq.done fun w3 hws => ?_
 have HBR : Hid (RAt w3 (some ⟨gl, 0, none⟩) [-1, 0, 1]) := yh (.inr ⟨gl, [], rfl, ((hws.q1 (p := gl)).blk _ List.mem_cons_self).2⟩)
 have HST1 := yh hws.st
 clear hws HS2
 refine ⟨wants_none rfl, ?_⟩
 refine w_call (vs := #[.slice (some ⟨gl, 0, none⟩) 3 3]) rfl rfl (by kernel_rfl) (roots_S (c := 3) w3 HBR.out rfl roots_one (tabS HT.out HST1.out) (by omega)) fun e w4 h9 => ?_
 obtain ⟨v9, e9, hb9, A9, c9, hv9, -⟩ := h9
 refine ⟨_, e9, ?_⟩
 have HS4 := yh (HST1.out.next hb9)
 have hv9' : v9 = .slice A9 2 c9 := hv9
 subst hv9'
 clear e9 hb9 hv9 HST1 HBR
 simp only [Act.eval, Act.put, List.setIfInBounds_toArray, List.set_cons_zero, List.set_cons_succ]
 refine ⟨wants_none rfl, w_mov rfl ?_⟩
 simp only [Act.eval, Act.put, List.setIfInBounds_toArray, List.set_cons_zero, List.set_cons_succ]
 refine ⟨wants_none rfl, w_ext (vs := #[.slice A9 2 c9, .int .i64 0]) rfl rfl rfl ?_⟩
 simp only [Act.eval, Act.put, List.setIfInBounds_toArray, List.set_cons_zero, List.set_cons_succ]
 refine ⟨wants_none rfl, w_ext (vs := #[.slice A9 2 c9, .int .i64 0]) rfl rfl rfl ?_⟩
 simp only [Act.eval, Act.put, List.setIfInBounds_toArray, List.set_cons_zero, List.set_cons_succ]
 refine ⟨wants_none rfl, st_asg rfl ?_⟩
 simp only [Act.eval, Act.put, List.setIfInBounds_toArray, List.set_cons_zero, List.set_cons_succ]
 refine ⟨wants_none rfl, st_asg rfl ?_⟩
 unfold chainW
 simp only [Act.eval, Act.put, List.setIfInBounds_toArray, List.set_cons_zero, List.set_cons_succ]
 go_upto_region 5 with fail
 refine wp_seq_textC 2 [] rfl rfl rfl (StR.no HS4.out) ?_
 refine pU ?_
 refine cX rfl rfl (fun w h => box_G (k := 2) (n := 4) HT.out sq_z rfl ⟨by omega, by omega, sq_cvx⟩ SQ_box (by omega) gp w h (h.blk (gp, _, _) (by repeat first|exact mC|apply mT)).2) ?_
 refine dnH fun w5 HS5=>?_
 clear HS4
 refine ⟨wants_none rfl, ?_⟩
 refine w_call (vs := #[.agg (BC 0 0 2 2)]) rfl rfl (by kernel_rfl) (SQ_cells w5 (tabS HT.out HS5.out)) fun e w6 h9 => ?_
 obtain ⟨A8, c8, e8, hb8⟩ := h9
 refine ⟨_, e8, ?_⟩
 have HS6 := yh (HS5.out.next hb8)
 clear e8 hb8 HS5
 simp only [Act.eval, Act.put, List.setIfInBounds_toArray, List.set_cons_zero, List.set_cons_succ]
 refine ⟨wants_none rfl, w_mov rfl ?_⟩
 simp only [Act.eval, Act.put, List.setIfInBounds_toArray, List.set_cons_zero, List.set_cons_succ]
 refine ⟨wants_none rfl, w_ext (vs := #[.slice A8 16 c8, .int .i64 0]) rfl rfl rfl ?_⟩
 simp only [Act.eval, Act.put, List.setIfInBounds_toArray, List.set_cons_zero, List.set_cons_succ]
 refine ⟨wants_none rfl, w_ext (vs := #[.slice A8 16 c8, .int .i64 0]) rfl rfl rfl ?_⟩
 simp only [Act.eval, Act.put, List.setIfInBounds_toArray, List.set_cons_zero, List.set_cons_succ]
 refine ⟨wants_none rfl, st_asg rfl ?_⟩
 simp only [Act.eval, Act.put, List.setIfInBounds_toArray, List.set_cons_zero, List.set_cons_succ]
 refine ⟨wants_none rfl, st_asg rfl ?_⟩
 unfold chainW
 simp only [Act.eval, Act.put, List.setIfInBounds_toArray, List.set_cons_zero, List.set_cons_succ]
 go_upto_region 6 with fail
 refine rgW [] HS6.out ?_
 iterate 3 refine pU ?_
 refine lV ?_
 refine cX rfl rfl (of_q (z := 1) HT.out (by omega) (by omega) (by decide +kernel)) ?_
 refine cX rfl rfl (has_q (k := 77) HT.out HZ.out.1 HZ.out.2 (Rz.one2.more (by omega)) HLE.out HI.out.1 (by omega)) ?_
 iterate 2 refine pU ?_
 refine lV ?_
 refine cX rfl rfl (of_q (z := 2) HT.out (by omega) (by omega) (by decide +kernel)) ?_
 refine cX rfl rfl (has_q (k := 77) HT.out HZ.out.1 HZ.out.2 ((show Rz 2 (2 : Rat) from Rz.lit (z := 2) rfl (by decide)).more (by omega)) HLE.out HI.out.2 (by omega)) ?_
 iterate 22 refine pU ?_
 refine cX rfl rfl (fun w h => area_xG (J1 := []) (k := 2) (n := 4) HT.out sq_z rfl ⟨by omega, by omega, sq_cvx⟩ sq_area (by omega) gp w h (by rw [PX_nil]; exact (h.blk (gp, _, _) (by repeat first|exact mC|apply mT)).2)) ?_
 refine cX rfl rfl (of_q (z := 4) HT.out (by omega) (by omega) (by decide +kernel)) ?_
 refine Seq.eqR rfl rfl rfl rfl rfl (b := true) (decide_eq_true rfl) (nZ ?_)
 iterate 2 refine pU ?_
 refine dnH fun _ HS7=>?_
 clear HS6
 go_wp2_with fail
 go_ret
 exact ⟨rfl, HS7.out.below⟩
end Go.Proofs.YtmchjmflkaiakaaGreatDoor
