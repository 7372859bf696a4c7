/- The walk of NumbersHold (nmc.py) (printed by lawvec.py). -/
import Derived.Test.YtmchjmflkaiakaaGreatDoorNmB
namespace Go.Proofs.YtmchjmflkaiakaaGreatDoor
open Go.RowKit
set_option linter.unusedVariables false
set_option linter.unusedSimpArgs false
set_option maxHeartbeats 8000000
set_option maxRecDepth 20000
def FloatC (x bb : Nat) : Prop := ∀ (W : World) (l : List Own) (w : World) (h : St W l w), Calls Tryz.prog 39 #[.int .u64 (x : Int)] w fun e w' => e = .returned (.int .u64 (bb : Int)) ∧ Below w.heap.size w w'
def ToC (lo hi : Rat) (t1 t2 : Nat) : Prop := ∀ (W : World) (l : List Own) (hT : Tab W) (w : World) (h : St W l w), Calls Tryz.prog 50 #[.agg (VC lo hi)] w fun e w' => e = .returned (.tuple #[.int .u64 (t1 : Int), .int .u64 (t2 : Int), .int .i64 0]) ∧ Below w.heap.size w w'
theorem numbersHold_R {x y z ta tb tc ba bb_ bc t1 t2 b1 b2 : Nat} {na nb nc m1 m2 : Bool} {i j k v1 v2 v3 v4 : Int} {al ah bl bh cl ch ql qh el eh ml mh dl dh sl sh p q r n1 n2 n3 n4 n ul uh vl vh : Rat} (w : World) (HT : Hid (Tab w))
  (HFx : Hid (FloatC x ta))
  (HFy : Hid (FloatC y tb))
  (HFz : Hid (FloatC z tc))
  (Hab : Hid (Fl al ah)) (HBa : Hid (ta = (if na = true then 9223372036854775808 else 0) + ba ∧ ba < 9218868437227405312 ∧ frL na ba = al ∧ frH na ba = ah))
  (Hbb : Hid (Fl bl bh)) (HBb : Hid (tb = (if nb = true then 9223372036854775808 else 0) + bb_ ∧ bb_ < 9218868437227405312 ∧ frL nb bb_ = bl ∧ frH nb bb_ = bh))
  (Hcb : Hid (Fl cl ch)) (HBc : Hid (tc = (if nc = true then 9223372036854775808 else 0) + bc ∧ bc < 9218868437227405312 ∧ frL nc bc = cl ∧ frH nc bc = ch))
  (Ii : Hid (-9223372036854775808 ≤ i ∧ i ≤ 9223372036854775807))
  (Ij : Hid (-9223372036854775808 ≤ j ∧ j ≤ 9223372036854775807))
  (Ik : Hid (-9223372036854775808 ≤ k ∧ k ≤ 9223372036854775807))
  (Z_al : Hid (Rz 77 al))
  (Z_ah : Hid (Rz 77 ah))
  (Z_bl : Hid (Rz 77 bl))
  (Z_bh : Hid (Rz 77 bh))
  (Z_cl : Hid (Rz 77 cl))
  (Z_ch : Hid (Rz 77 ch))
  (Z_ql : Hid (Rz 156 ql))
  (Z_qh : Hid (Rz 156 qh))
  (Z_el : Hid (Rz 320 el))
  (Z_eh : Hid (Rz 320 eh))
  (Z_ml : Hid (Rz 154 ml))
  (Z_mh : Hid (Rz 154 mh))
  (Z_dl : Hid (Rz 463 dl))
  (Z_dh : Hid (Rz 463 dh))
  (Z_sl : Hid (Rz 800 sl))
  (Z_sh : Hid (Rz 800 sh))
  (Z_p : Hid (Rz 790 p))
  (Z_q : Hid (Rz 790 q))
  (Z_r : Hid (Rz 790 r))
  (Z_n1 : Hid (Rz 1580 n1))
  (Z_n2 : Hid (Rz 5000 n2))
  (Z_n3 : Hid (Rz 1580 n3))
  (Z_n4 : Hid (Rz 5000 n4))
  (Z_n : Hid (Rz 10000 n))
  (Z_ul : Hid (Rz 1000 ul))
  (Z_uh : Hid (Rz 1000 uh))
  (Z_vl : Hid (Rz 1000 vl))
  (Z_vh : Hid (Rz 1000 vh))
  (HQ : Hid (ql ≤ qh ∧ sqLo cl ch = ql ∧ maxQ (cl * cl) (ch * ch) = qh))
  (HE : Hid (el ≤ eh ∧ ql + 1 = el ∧ qh + 1 = eh ∧ ¬ (el ≤ 0 ∧ 0 ≤ eh)))
  (HM : Hid (ml ≤ mh ∧ minQ (minQ (minQ (al * bl) (al * bh)) (ah * bl)) (ah * bh) = ml ∧ maxQ (maxQ (maxQ (al * bl) (al * bh)) (ah * bl)) (ah * bh) = mh))
  (HD : Hid (dl ≤ dh ∧ ml - ch = dl ∧ mh - cl = dh))
  (HS_ : Hid (sl ≤ sh ∧ minQ (minQ (minQ (dl * ((1 : Rat) / eh)) (dl * ((1 : Rat) / el))) (dh * ((1 : Rat) / eh))) (dh * ((1 : Rat) / el)) = sl ∧ maxQ (maxQ (maxQ (dl * ((1 : Rat) / eh)) (dl * ((1 : Rat) / el))) (dh * ((1 : Rat) / eh))) (dh * ((1 : Rat) / el)) = sh))
  (Ep : Hid (ptQ al ah i = p)) (Eq : Hid (ptQ bl bh j = q)) (Er : Hid (ptQ cl ch k = r)) (E1 : Hid (p * q = n1)) (E2 : Hid (n1 - r = n2)) (E3 : Hid (r * r = n3)) (E4 : Hid (n3 + 1 = n4)) (HN0 : Hid (n4 ≠ 0)) (E5 : Hid (n2 / n4 = n))
  (HTO : Hid (ToC sl sh t1 t2)) (HHAS : Hid (decide (sl ≤ n ∧ n ≤ sh) = true)) (HB1 : Hid (t1 = (if m1 = true then 9223372036854775808 else 0) + b1 ∧ b1 < 9218868437227405312 ∧ frL m1 b1 = ul ∧ frH m1 b1 = uh)) (HB2 : Hid (t2 = (if m2 = true then 9223372036854775808 else 0) + b2 ∧ b2 < 9218868437227405312 ∧ frL m2 b2 = vl ∧ frH m2 b2 = vh)) (HU : Hid (ul ≤ uh)) (HV : Hid (vl ≤ vh))
  (HC1 : Hid (cmpQ ul n = v1)) (HC2 : Hid (cmpQ n vh = v2)) (HC3 : Hid (cmpQ ul sl = v3)) (HC4 : Hid (cmpQ sh vh = v4)) (hv1 : decide (v1 < 0) = true) (hv2 : decide (v2 < 0) = true) (hv3 : decide (v3 < 0) = true) (hv4 : decide (v4 < 0) = true) :
  Calls Tryz.prog 7 #[.int .u64 (x : Int), .int .u64 (y : Int), .int .u64 (z : Int), .int .i64 i, .int .i64 j, .int .i64 k] w fun e w' => e = .returned (.bool true) ∧ Below w.heap.size w w' := by
 go_enter Tryz.func7, Tryz.ntmps7
 have HS : St w [] w := St.start
 go_upto_region 0 with fail
 refine rgT [] HS ?_
 refine pW ?_
 refine dS fun _ HS1=>?_
 clear HS
 go_upto_region 1 with fail
 refine rgT [] HS1 ?_
 refine cL (hbegun_q HT.out) ?_
 refine pW ?_
 refine dS fun _ HS2=>?_
 clear HS1
 go_upto_region 3 with fail
 refine rgT [] HS2 ?_
 refine pW ?_
 refine cL (fun w h => HFx.out _ _ w h) ?_
 refine cL (from_q (n := na) HT.out HBa.out.1 HBa.out.2.1 HBa.out.2.2.1 HBa.out.2.2.2) ?_
 refine pW ?_
 refine pV (.agg (VC al ah)) (fun w => rfl) ?_
 refine pV (.int .i64 0) (fun w => rfl) ?_
 refine Seq.alloc rfl rfl rfl (z := .agg (#[.bool false, .string ⟨#[]⟩, .string ⟨#[]⟩, .bool false, .string ⟨#[]⟩, .string ⟨#[]⟩])) (by kernel_rfl) rfl ?_
 intro bk13 _ _ hbk13_r
 refine nZ ?_
 refine sV (VC_one _ _) ?_
 refine pW ?_
 refine d1 bk13 fun _ HS3=>?_
 clear HS2
 go_upto_region 4 with fail
 refine rgT [] HS3 ?_
 refine pW ?_
 refine cL (fun w h => HFy.out _ _ w h) ?_
 refine cL (from_q (n := nb) HT.out HBb.out.1 HBb.out.2.1 HBb.out.2.2.1 HBb.out.2.2.2) ?_
 refine pW ?_
 refine pV (.agg (VC bl bh)) (fun w => rfl) ?_
 refine pV (.int .i64 0) (fun w => rfl) ?_
 refine Seq.alloc rfl rfl rfl (z := .agg (#[.bool false, .string ⟨#[]⟩, .string ⟨#[]⟩, .bool false, .string ⟨#[]⟩, .string ⟨#[]⟩])) (by kernel_rfl) rfl ?_
 intro bk15 _ _ hbk15_r
 refine nZ ?_
 refine sV (VC_one _ _) ?_
 refine pW ?_
 refine d1 bk15 fun _ HS4=>?_
 clear HS3
 go_upto_region 5 with fail
 refine rgT [] HS4 ?_
 refine pW ?_
 refine cL (fun w h => HFz.out _ _ w h) ?_
 refine cL (from_q (n := nc) HT.out HBc.out.1 HBc.out.2.1 HBc.out.2.2.1 HBc.out.2.2.2) ?_
 refine pW ?_
 refine pV (.agg (VC cl ch)) (fun w => rfl) ?_
 refine pV (.int .i64 0) (fun w => rfl) ?_
 refine Seq.alloc rfl rfl rfl (z := .agg (#[.bool false, .string ⟨#[]⟩, .string ⟨#[]⟩, .bool false, .string ⟨#[]⟩, .string ⟨#[]⟩])) (by kernel_rfl) rfl ?_
 intro bk17 _ _ hbk17_r
 refine nZ ?_
 refine sV (VC_one _ _) ?_
 refine pW ?_
 refine d1 bk17 fun _ HS5=>?_
 clear HS4
 go_upto_region 6 with fail
 refine rgT [] HS5 ?_
 iterate 10 refine pW ?_
 refine dS fun _ HS6=>?_
 clear HS5
 go_upto_region 8 with fail
 refine rgT [] HS6 ?_
 refine lV ?_
 refine cX rfl rfl (ssq_q (k := 77) HT.out Z_cl.out Z_ch.out Hcb.out.le HQ.out.2.1 HQ.out.2.2 (by omega)) ?_
 refine cX rfl rfl (of_q (z := (1 : Rat)) HT.out (by omega) (by omega) (by decide +kernel)) ?_
 refine cX rfl rfl (sof_q (k := 2) HT.out Rz.one2 rfl rfl (by omega)) ?_
 refine cX rfl rfl (sadd_q (k := 156) HT.out Z_ql.out Z_qh.out (Rz.one2.more (by omega)) (Rz.one2.more (by omega)) HQ.out.1 Rat.le_refl HE.out.2.1 HE.out.2.2.1 (by omega)) ?_
 refine Seq.alloc rfl rfl rfl (z := .agg (#[.bool false, .string ⟨#[]⟩, .string ⟨#[]⟩, .bool false, .string ⟨#[]⟩, .string ⟨#[]⟩])) (by kernel_rfl) rfl ?_
 intro bk19 _ _ hbk19_r
 refine nZ ?_
 refine sV (VC_one _ _) ?_
 refine d1 bk19 fun _ HS7=>?_
 clear HS6
 go_upto_region 9 with fail
 refine rgW [] HS7 ?_
 iterate 2 refine lV ?_
 refine cX rfl rfl (smul_q (k := 77) HT.out Z_al.out Z_ah.out Z_bl.out Z_bh.out Hab.out.le Hbb.out.le HM.out.2.1 HM.out.2.2 (by omega)) ?_
 refine lV ?_
 refine cX rfl rfl (ssub_q (k := 154) HT.out Z_ml.out Z_mh.out (Z_cl.out.more (by omega)) (Z_ch.out.more (by omega)) HM.out.1 Hcb.out.le HD.out.2.1 HD.out.2.2 (by omega)) ?_
 refine lV ?_
 refine cX rfl rfl (sdiv_1 (k := 463) HT.out Z_dl.out Z_dh.out (Z_el.out.more (by omega)) (Z_eh.out.more (by omega)) HD.out.1 HE.out.1 HE.out.2.2.2 HS_.out.2.1 HS_.out.2.2 (by omega)) ?_
 refine pW ?_
 refine pV (.agg (VC sl sh)) (fun w => rfl) ?_
 refine pV (.int .i64 0) (fun w => rfl) ?_
 refine Seq.alloc rfl rfl rfl (z := .agg (#[.bool false, .string ⟨#[]⟩, .string ⟨#[]⟩, .bool false, .string ⟨#[]⟩, .string ⟨#[]⟩])) (by kernel_rfl) rfl ?_
 intro bk20 _ _ hbk20_r
 refine nZ ?_
 refine sV (VC_one _ _) ?_
 refine pW ?_
 refine d1 bk20 fun _ HS8=>?_
 clear HS7
 go_upto_region 10 with fail
 refine rgW [] HS8 ?_
 refine lV ?_
 refine pW ?_
 refine cX rfl rfl (hpart_q (k := 77) HT.out Z_al.out Z_ah.out Ii.out Ep.out (by omega)) ?_
 refine lV ?_
 refine pW ?_
 refine cX rfl rfl (hpart_q (k := 77) HT.out Z_bl.out Z_bh.out Ij.out Eq.out (by omega)) ?_
 refine lV ?_
 refine pW ?_
 refine cX rfl rfl (hpart_q (k := 77) HT.out Z_cl.out Z_ch.out Ik.out Er.out (by omega)) ?_
 refine Seq.alloc rfl rfl rfl (z := .agg (#[.bool false, .string ⟨#[]⟩, .string ⟨#[]⟩])) (by kernel_rfl) rfl ?_
 intro bk21 _ _ hbk21_r
 refine nZ ?_
 refine Seq.alloc rfl rfl rfl (z := .agg (#[.bool false, .string ⟨#[]⟩, .string ⟨#[]⟩])) (by kernel_rfl) rfl ?_
 intro bk22 _ _ hbk22_r
 obtain ⟨_, _, hbk22_r⟩ := Reg.ne2 hbk22_r
 refine nZ ?_
 refine Seq.alloc rfl rfl rfl (z := .agg (#[.bool false, .string ⟨#[]⟩, .string ⟨#[]⟩])) (by kernel_rfl) rfl ?_
 intro bk23 _ _ hbk23_r
 obtain ⟨_, _, hbk23_r⟩ := Reg.ne2 hbk23_r
 obtain ⟨_, _, hbk23_r⟩ := Reg.ne2 hbk23_r
 refine nZ ?_
 refine sV (RC_one _) ?_
 refine sV (RC_one _) ?_
 refine sV (RC_one _) ?_
 refine Seq.done fun ws9 hws => ?_
 have HS9 : St w [(bk21, 27, RC p), (bk22, 27, RC q), (bk23, 27, RC r), (bk20, 32, VC sl sh), (bk19, 32, VC el eh), (bk17, 32, VC cl ch), (bk15, 32, VC bl bh), (bk13, 32, VC al ah)] ws9 := hws.list3 (by repeat first|exact rS|refine rN ‹_› ?_) (by repeat first|exact rS|refine rN ‹_› ?_) (by repeat first|exact rS|refine rN ‹_› ?_) (by assumption) (by assumption) (by assumption)
 clear HS8 hws
 go_upto_region 11 with fail
 refine rgW [] HS9 ?_
 iterate 2 refine lV ?_
 refine cX rfl rfl (mul_q (k := 790) HT.out Z_p.out Z_q.out E1.out (by omega)) ?_
 refine lV ?_
 refine cX rfl rfl (sub_q (k := 1580) HT.out Z_n1.out (Z_r.out.more (by omega)) E2.out (by omega)) ?_
 iterate 2 refine lV ?_
 refine cX rfl rfl (mul_q (k := 790) HT.out Z_r.out Z_r.out E3.out (by omega)) ?_
 refine cX rfl rfl (of_q (z := (1 : Rat)) HT.out (by omega) (by omega) (by decide +kernel)) ?_
 refine cX rfl rfl (add_q (k := 1580) HT.out Z_n3.out (Rz.one2.more (by omega)) E4.out (by omega)) ?_
 refine cX rfl rfl (div_q (k := 5000) HT.out Z_n2.out Z_n4.out HN0.out E5.out (by omega)) ?_
 refine pW ?_
 refine pV (.agg (RC n)) (fun w => rfl) ?_
 refine pV (.int .i64 0) (fun w => rfl) ?_
 refine Seq.alloc rfl rfl rfl (z := .agg (#[.bool false, .string ⟨#[]⟩, .string ⟨#[]⟩])) (by kernel_rfl) rfl ?_
 intro bk24 _ _ hbk24_r
 refine nZ ?_
 refine sV (RC_one _) ?_
 refine pW ?_
 refine d1 bk24 fun _ HS10=>?_
 clear HS9
 go_upto_region 12 with fail
 refine rgT [] HS10 ?_
 refine lV ?_
 refine cL (fun w h => HTO.out _ _ HT.out w h) ?_
 refine pW ?_
 refine pV (.int .u64 (t1 : Int)) (fun w => rfl) ?_
 refine pV (.int .u64 (t2 : Int)) (fun w => rfl) ?_
 refine pV (.int .i64 0) (fun w => rfl) ?_
 iterate 3 refine pW ?_
 refine dS fun _ HS11=>?_
 clear HS10
 go_upto_region 13 with fail
 refine rgT [] HS11 ?_
 iterate 11 refine pW ?_
 iterate 2 refine lV ?_
 refine cX rfl rfl (has_q (k := 10000) HT.out (Z_sl.out.more (by omega)) (Z_sh.out.more (by omega)) Z_n.out HS_.out.1 HHAS.out (by omega)) ?_
 iterate 2 refine pW ?_
 refine dS fun _ HS12=>?_
 clear HS11
 go_upto_region 15 with fail
 refine rgT [] HS12 ?_
 refine pW ?_
 refine cL (from_q (n := m1) HT.out HB1.out.1 HB1.out.2.1 HB1.out.2.2.1 HB1.out.2.2.2) ?_
 refine pW ?_
 refine pV (.agg (VC ul uh)) (fun w => rfl) ?_
 refine pV (.int .i64 0) (fun w => rfl) ?_
 refine Seq.alloc rfl rfl rfl (z := .agg (#[.bool false, .string ⟨#[]⟩, .string ⟨#[]⟩, .bool false, .string ⟨#[]⟩, .string ⟨#[]⟩])) (by kernel_rfl) rfl ?_
 intro bk27 _ _ hbk27_r
 refine nZ ?_
 refine sV (VC_one _ _) ?_
 refine pW ?_
 refine d1 bk27 fun _ HS13=>?_
 clear HS12
 go_upto_region 16 with fail
 refine rgT [] HS13 ?_
 refine pW ?_
 refine cL (from_q (n := m2) HT.out HB2.out.1 HB2.out.2.1 HB2.out.2.2.1 HB2.out.2.2.2) ?_
 refine pW ?_
 refine pV (.agg (VC vl vh)) (fun w => rfl) ?_
 refine pV (.int .i64 0) (fun w => rfl) ?_
 refine Seq.alloc rfl rfl rfl (z := .agg (#[.bool false, .string ⟨#[]⟩, .string ⟨#[]⟩, .bool false, .string ⟨#[]⟩, .string ⟨#[]⟩])) (by kernel_rfl) rfl ?_
 intro bk28 _ _ hbk28_r
 refine nZ ?_
 refine sV (VC_one _ _) ?_
 refine pW ?_
 refine d1 bk28 fun _ HS14=>?_
 clear HS13
 go_upto_region 17 with fail
 refine rgT [] HS14 ?_
 iterate 7 refine pW ?_
 refine pV (.pointer (some ⟨bk27, 0, none⟩)) (by intro w; go_simp; try first | with_reducible rfl | rfl) ?_
 refine Seq.loadAt rfl rfl rfl rfl (by repeat first|exact mC|apply mT) (n := 3) (cs' := RC ul) (by first | decide | exact Nat.le_refl _ | (simp [VC, TC, FC, BC, RC]; done)) (by kernel_rfl) (by first | rfl | (simp [VC, TC, FC, BC, RC]; done)) (nZ ?_)
 refine lV ?_
 refine cX rfl rfl (cmp_q (k := 10000) HT.out (Z_ul.out.more (by omega)) Z_n.out HC1.out (by omega)) ?_
 iterate 3 refine pW ?_
 refine lV ?_
 refine pV (.pointer (some ⟨bk28, 3, none⟩)) (by intro w; go_simp; try first | with_reducible rfl | rfl) ?_
 refine Seq.loadAt rfl rfl rfl rfl (by repeat first|exact mC|apply mT) (n := 3) (cs' := RC vh) (by first | decide | exact Nat.le_refl _ | (simp [VC, TC, FC, BC, RC]; done)) (by kernel_rfl) (by first | rfl | (simp [VC, TC, FC, BC, RC]; done)) (nZ ?_)
 refine cX rfl rfl (cmp_q (k := 10000) HT.out Z_n.out (Z_vh.out.more (by omega)) HC2.out (by omega)) ?_
 iterate 3 refine pW ?_
 refine pV (.pointer (some ⟨bk27, 0, none⟩)) (by intro w; go_simp; try first | with_reducible rfl | rfl) ?_
 refine Seq.loadAt rfl rfl rfl rfl (by repeat first|exact mC|apply mT) (n := 3) (cs' := RC ul) (by first | decide | exact Nat.le_refl _ | (simp [VC, TC, FC, BC, RC]; done)) (by kernel_rfl) (by first | rfl | (simp [VC, TC, FC, BC, RC]; done)) (nZ ?_)
 refine pV (.pointer (some ⟨bk20, 0, none⟩)) (by intro w; go_simp; try first | with_reducible rfl | rfl) ?_
 refine Seq.loadAt rfl rfl rfl rfl (by repeat first|exact mC|apply mT) (n := 3) (cs' := RC sl) (by first | decide | exact Nat.le_refl _ | (simp [VC, TC, FC, BC, RC]; done)) (by kernel_rfl) (by first | rfl | (simp [VC, TC, FC, BC, RC]; done)) (nZ ?_)
 refine cX rfl rfl (cmp_q (k := 1000) HT.out (Z_ul.out.more (by omega)) (Z_sl.out.more (by omega)) HC3.out (by omega)) ?_
 iterate 3 refine pW ?_
 refine pV (.pointer (some ⟨bk20, 3, none⟩)) (by intro w; go_simp; try first | with_reducible rfl | rfl) ?_
 refine Seq.loadAt rfl rfl rfl rfl (by repeat first|exact mC|apply mT) (n := 3) (cs' := RC sh) (by first | decide | exact Nat.le_refl _ | (simp [VC, TC, FC, BC, RC]; done)) (by kernel_rfl) (by first | rfl | (simp [VC, TC, FC, BC, RC]; done)) (nZ ?_)
 refine pV (.pointer (some ⟨bk28, 3, none⟩)) (by intro w; go_simp; try first | with_reducible rfl | rfl) ?_
 refine Seq.loadAt rfl rfl rfl rfl (by repeat first|exact mC|apply mT) (n := 3) (cs' := RC vh) (by first | decide | exact Nat.le_refl _ | (simp [VC, TC, FC, BC, RC]; done)) (by kernel_rfl) (by first | rfl | (simp [VC, TC, FC, BC, RC]; done)) (nZ ?_)
 refine cX rfl rfl (cmp_q (k := 1000) HT.out (Z_sh.out.more (by omega)) (Z_vh.out.more (by omega)) HC4.out (by omega)) ?_
 iterate 3 refine pW ?_
 refine dS fun _ HS15=>?_
 clear HS14
 go_wp2_with fail
 go_ret
 exact ⟨rfl, HS15.below⟩
theorem numbersHold_int (x y z : Nat) (i j k : Int) (w : World) (hx : x < 18446744073709551616) (hy : y < 18446744073709551616) (hz : z < 18446744073709551616) (hi0 : -9223372036854775808 ≤ i) (hi1 : i ≤ 9223372036854775807) (hj0 : -9223372036854775808 ≤ j) (hj1 : j ≤ 9223372036854775807) (hk0 : -9223372036854775808 ≤ k) (hk1 : k ≤ 9223372036854775807) (hT : Tab w) :
  Calls Tryz.prog 7 #[.int .u64 (x : Int), .int .u64 (y : Int), .int .u64 (z : Int), .int .i64 i, .int .i64 j, .int .i64 k] w fun e w' => e = .returned (.bool true) ∧ Below w.heap.size w w' := by
 obtain ⟨na, ba, ta, ea, a1, a2, fa⟩ := float_ok x hx
 obtain ⟨nb, bb, tb, eb, b1, b2, fb⟩ := float_ok y hy
 obtain ⟨nc, bc, tc, ec, c1, c2, fc⟩ := float_ok z hz
 have Fa := fr_fl na a1 a2
 have Fb := fr_fl nb b1 b2
 have Fc := fr_fl nc c1 c2
 obtain ⟨al, hal⟩ : ∃ v, frL na ba = v := ⟨_, rfl⟩
 obtain ⟨ah, hah⟩ : ∃ v, frH na ba = v := ⟨_, rfl⟩
 obtain ⟨bl, hbl⟩ : ∃ v, frL nb bb = v := ⟨_, rfl⟩
 obtain ⟨bh, hbh⟩ : ∃ v, frH nb bb = v := ⟨_, rfl⟩
 obtain ⟨cl, hcl⟩ : ∃ v, frL nc bc = v := ⟨_, rfl⟩
 obtain ⟨ch, hch⟩ : ∃ v, frH nc bc = v := ⟨_, rfl⟩
 rw [hal, hah] at Fa
 rw [hbl, hbh] at Fb
 rw [hcl, hch] at Fc
 obtain ⟨p, hp⟩ : ∃ v, ptQ al ah i = v := ⟨_, rfl⟩
 obtain ⟨q, hq⟩ : ∃ v, ptQ bl bh j = v := ⟨_, rfl⟩
 obtain ⟨r, hr⟩ : ∃ v, ptQ cl ch k = v := ⟨_, rfl⟩
 have pa := pt_in i Fa.le
 have pb := pt_in j Fb.le
 have pc := pt_in k Fc.le
 have zp := ptQ_rz i Fa.zl Fa.zh
 have zq := ptQ_rz j Fb.zl Fb.zh
 have zr := ptQ_rz k Fc.zl Fc.zh
 rw [hp] at pa zp
 rw [hq] at pb zq
 rw [hr] at pc zr
 obtain ⟨ql, qh, el, eh, ml, mh, dl, dh, sl, sh, F⟩ := forms Fa Fb Fc pa pb pc
 obtain ⟨n, hn⟩ : ∃ v, (p * q - r) / (r * r + 1) = v := ⟨_, rfl⟩
 have z1 : Rz 1580 (p * q) := (zp.mul zq).more (by omega)
 have z2 : Rz 5000 (p * q - r) := (z1.sub zr).more (by omega)
 have z3 : Rz 1580 (r * r) := (zr.mul zr).more (by omega)
 have z4 : Rz 5000 (r * r + 1) := (z3.add Rz.one2).more (by omega)
 have zn : Rz 10000 n := by rw [← hn]; exact z2.div z4 F.ne
 have hin := F.is
 rw [hn] at hin
 obtain ⟨t1, t2, ⟨m1, g1, e1, l1, o1⟩, ⟨m2, g2, e2, l2, o2⟩, hto⟩ := to_ok (F.zs.1.more (by omega)) (F.zs.2.more (by omega)) F.fs.1 F.lo F.hi
 obtain ⟨ul, hul⟩ : ∃ v, frL m1 g1 = v := ⟨_, rfl⟩
 obtain ⟨uh, huh⟩ : ∃ v, frH m1 g1 = v := ⟨_, rfl⟩
 obtain ⟨vl, hvl⟩ : ∃ v, frL m2 g2 = v := ⟨_, rfl⟩
 obtain ⟨vh, hvh⟩ : ∃ v, frH m2 g2 = v := ⟨_, rfl⟩
 have u1 : Rz 1000 ul := by rw [← hul]; exact frL_rz l1
 have u2 : Rz 1000 uh := by rw [← huh]; exact frH_rz l1
 have u3 : Rz 1000 vl := by rw [← hvl]; exact frL_rz l2
 have u4 : Rz 1000 vh := by rw [← hvh]; exact frH_rz l2
 have u5 : ul ≤ uh := by rw [← hul, ← huh]; exact fr_le m1 g1
 have u6 : vl ≤ vh := by rw [← hvl, ← hvh]; exact fr_le m2 g2
 rw [hul, huh] at o1
 rw [hvl, hvh] at o2
 have k1 := o1.1
 have k2 := o2.1
 exact numbersHold_R w (Lib.hid hT) (Lib.hid fun W l w h => fa w h) (Lib.hid fun W l w h => fb w h) (Lib.hid fun W l w h => fc w h)
  (Lib.hid Fa) (Lib.hid ⟨ea, by omega, hal, hah⟩) (Lib.hid Fb) (Lib.hid ⟨eb, by omega, hbl, hbh⟩) (Lib.hid Fc) (Lib.hid ⟨ec, by omega, hcl, hch⟩)
  (Lib.hid ⟨hi0, hi1⟩) (Lib.hid ⟨hj0, hj1⟩) (Lib.hid ⟨hk0, hk1⟩) (Lib.hid Fa.zl) (Lib.hid Fa.zh) (Lib.hid Fb.zl) (Lib.hid Fb.zh) (Lib.hid Fc.zl) (Lib.hid Fc.zh)
  (Lib.hid F.zq.1) (Lib.hid F.zq.2) (Lib.hid F.ze.1) (Lib.hid F.ze.2) (Lib.hid F.zm.1) (Lib.hid F.zm.2) (Lib.hid F.zd.1) (Lib.hid F.zd.2) (Lib.hid F.zs.1) (Lib.hid F.zs.2)
  (Lib.hid zp) (Lib.hid zq) (Lib.hid zr) (Lib.hid z1) (Lib.hid z2) (Lib.hid z3) (Lib.hid z4) (Lib.hid zn) (Lib.hid u1) (Lib.hid u2) (Lib.hid u3) (Lib.hid u4)
  (Lib.hid F.fq) (Lib.hid F.fe) (Lib.hid F.fm) (Lib.hid F.fd) (Lib.hid F.fs) (Lib.hid hp) (Lib.hid hq) (Lib.hid hr) (Lib.hid rfl) (Lib.hid rfl) (Lib.hid rfl) (Lib.hid rfl) (Lib.hid F.ne) (Lib.hid hn)
  (Lib.hid fun W l hT w h => hto hT w h) (Lib.hid (decide_eq_true hin)) (Lib.hid ⟨e1, l1, hul, huh⟩) (Lib.hid ⟨e2, l2, hvl, hvh⟩) (Lib.hid u5) (Lib.hid u6)
  (Lib.hid rfl) (Lib.hid rfl) (Lib.hid rfl) (Lib.hid rfl) (cmp_lt_t (by grind)) (cmp_lt_t (by grind)) (cmp_lt_t (by grind)) (cmp_lt_t (by grind))
end Go.Proofs.YtmchjmflkaiakaaGreatDoor
