/- Joined texts: SwC SwD SwL. -/
import Derived.Test.YtmchjmflkaiakaaGreatDoorSwB
import Derived.Deep.LoopGhost
import Derived.OwnWalk
import Derived.Test.YtmchjmflkaiakaaGreatDoorPo4
import Derived.Test.YtmchjmflkaiakaaGreatDoorHuC
import Derived.Test.YtmchjmflkaiakaaGreatDoorHuI
import Derived.Test.YtmchjmflkaiakaaGreatDoorSp7
namespace Go.Proofs.YtmchjmflkaiakaaGreatDoor
open Go.RowKit
set_option linter.unusedVariables false
set_option linter.unusedSimpArgs false

set_option maxHeartbeats 4000000 in
set_option maxRecDepth 20000 in
theorem box_y {k n : Nat} {ps : Pts} {W : World} {l : List Own} (hT : Tab W) (hz : Pz k ps) (hl : ps.length = n) (hcv : 3 ≤ n ∧ n ≤ 64 ∧ True) (hk : k ≤ 100000000000) (g : Nat) (w : World) (h : St W l w) (hg : Blk w g 29 (PC ps)) :
  Calls Tryz.prog 22 #[.slice (some ⟨g, 0, none⟩) n n] w fun e w' => e = .returned (.agg (BC (mnF (px ps) (ps.length - 1)) (mnF (py ps) (ps.length - 1)) (mxF (px ps) (ps.length - 1)) (mxF (py ps) (ps.length - 1)))) ∧ Below w.heap.size w w' := by
 have HT := Lib.hid (tabS hT h); clear hT h
 have HG := Lib.hid hg; clear hg
 have HL := Lib.hid hl; clear hl
 have HNZ := Lib.hid (show ¬ n = 0 by have := hcv.1; omega)
 have HZP := Lib.hid (show Pz (1 * k + 0) ps by rw [Nat.one_mul]; exact hz); clear hz
 have HCV := Lib.hid (show 3 ≤ n ∧ n ≤ 64 ∧ True from ⟨hcv.1, hcv.2.1, trivial⟩)
 have HPOS := Lib.hid (show 0 < n by have := hcv.1; omega)
 obtain ⟨n1, hn1⟩ : ∃ n1, n - 1 = n1 := ⟨_, rfl⟩
 have HSL := Lib.hid (show n - 1 = n1 ∧ ¬ n = 1 ∧ ¬ (n : Int) < 1 from ⟨hn1, by have := hcv.1; omega, by have := hcv.1; omega⟩)
 clear hn1 hcv
 go_enter Tryz.func22, Tryz.ntmps22
 have HS : St w [] w := St.start
 go_upto_region 0 with (fail)
 refine rgT [] HS ?_
 refine Seq.alloc rfl rfl rfl (z := .agg #[.bool false, .string ⟨#[]⟩, .string ⟨#[]⟩, .bool false, .string ⟨#[]⟩, .string ⟨#[]⟩, .bool false, .string ⟨#[]⟩, .string ⟨#[]⟩, .bool false, .string ⟨#[]⟩, .string ⟨#[]⟩]) (by kernel_rfl) rfl ?_
 intro bk2 _ _ hbk2_r
 refine nZ ?_
 refine Seq.done fun ws1 hws => ?_
 have HS1 := hws.q1 (p := bk2)
 clear HS hws
 go_upto_region 1 with (fail)
 refine rgT [] HS1 ?_
 refine pV (.agg (#[.bool false, .string ⟨#[]⟩, .string ⟨#[]⟩, .bool false, .string ⟨#[]⟩, .string ⟨#[]⟩])) (by intro w; go_simp; try rfl) ?_
 refine pV (.agg (#[.bool false, .string ⟨#[]⟩, .string ⟨#[]⟩, .bool false, .string ⟨#[]⟩, .string ⟨#[]⟩])) (by intro w; go_simp; try rfl) ?_
 refine cL (vaddraw_q HT.out) ?_
 refine aL6 ?_
 intro bk3 _ _ hbk3_r
 refine nZ ?_
 refine sV (VC_one _ _) ?_
 refine Seq.done fun ws2 hws => ?_
 have HS2 := hws.q1 (p := bk3)
 clear HS1 hws
 go_upto_region 2 with (fail)
 refine rgT [] HS2 ?_
 refine pU ?_
 refine pV (.int .i64 (n : Int)) (by intro w; go_simp; try rfl) ?_
 refine pV (.bool false) (by intro w; go_simp <;> (first | (rw [HNZ.out]; done) | exact HNZ.out | (simp [HNZ.out]; done) | (trace_state; done))) ?_
 refine Seq.done fun ws3 hws => ?_
 have HS3 := hws.st
 clear HS2 hws
 go_upto_region 4 with (fail)
 refine rgW [] HS3 ?_
 refine pU ?_
 refine Seq.index (m := 6) 0 rfl rfl rfl rfl rfl (by kernel_rfl) rfl HPOS.out (nZ ?_)
 refine Seq.loadAtF rfl rfl rfl rfl HG.out (n := 6) (cs' := VC (px ps 0) (py ps 0)) (PC_room (lt_of_pts HL.out HPOS.out)) (by kernel_rfl) (PC_at (lt_of_pts HL.out HPOS.out)) (nZ ?_)
 refine lV ?_
 refine cX rfl rfl (vadd_q (k := (1 * k + 2)) HT.out ((HZP.out.x (lt_of_pts HL.out HPOS.out)).more (by omega)) ((HZP.out.y (lt_of_pts HL.out HPOS.out)).more (by omega)) (Rz.zero2.more (by omega)) (Rz.zero2.more (by omega))  (Rat.add_zero _) (Rat.add_zero _) (by omega)) ?_
 refine aL6 ?_
 intro bk4 _ _ hbk4_r
 refine nZ ?_
 refine sV (VC_one _ _) ?_
 refine Seq.done fun ws4 hws => ?_
 have HS4 := hws.q1 (p := bk4)
 clear HS3 hws
 go_upto_region 5 with (fail)
 refine rgT [] HS4 ?_
 refine lV ?_
 refine lV ?_
 refine pV (.agg (BC (px ps 0) (py ps 0) (px ps 0) (py ps 0))) (fun w => bld_Box rfl rfl rfl w) ?_
 refine Seq.alloc rfl rfl rfl (z := .agg #[.bool false, .string ⟨#[]⟩, .string ⟨#[]⟩, .bool false, .string ⟨#[]⟩, .string ⟨#[]⟩, .bool false, .string ⟨#[]⟩, .string ⟨#[]⟩, .bool false, .string ⟨#[]⟩, .string ⟨#[]⟩]) (by kernel_rfl) rfl ?_
 intro bk5 _ _ hbk5_r
 refine nZ ?_
 refine sV (BC_one _ _ _ _) ?_
 refine Seq.done fun ws5 hws => ?_
 have HS5 := hws.q1 (p := bk5)
 clear HS4 hws
 go_upto_region 6 with (fail)
 refine rgT [] HS5 ?_
 refine pU ?_
 refine pV (.slice (some ⟨g, 6, none⟩) n1 n1) (by intro w; go_simp <;> (first | (rw [HSL.out.1]; done) | (rw [HSL.out.2.1]; done) | (rw [HSL.out.2.2]; done) | exact HSL.out.1 | exact HSL.out.2.1 | exact HSL.out.2.2 | (simp [HSL.out.1, HSL.out.2.1, HSL.out.2.2]; done) | (trace_state; done))) ?_
 refine pV (.int .i64 (n1 : Int)) (by intro w; go_simp <;> (first | (rw [HSL.out.1]; done) | exact HSL.out.1 | (simp [HSL.out.1]; done) | (trace_state; done))) ?_
 refine pU ?_
 refine Seq.done fun ws6 hws => ?_
 have HS6 := hws.st
 clear HS5 hws
 go_wp2_with fail
 go_loopg [28] n1 (fun kk s28 wr => ∃ i : Nat, kk = n1 - i ∧ s28 = .int .i64 (i : Int) ∧ i ≤ n1 ∧ Hid (St w [(bk5, 38, BC (mnF (px ps) i) (mnF (py ps) i) (mxF (px ps) i) (mxF (py ps) i)), (bk4, 29, VC (px ps 0) (py ps 0)), (bk3, 29, VC (0 : Rat) (0 : Rat)), (bk2, 38, #[.bool false, .string ⟨#[]⟩, .string ⟨#[]⟩, .bool false, .string ⟨#[]⟩, .string ⟨#[]⟩, .bool false, .string ⟨#[]⟩, .string ⟨#[]⟩, .bool false, .string ⟨#[]⟩, .string ⟨#[]⟩])] wr))
 case atStart => exact ⟨0, rfl, rfl, by omega, Lib.hid HS6⟩
 case round =>
  obtain ⟨i, hgk, rfl, hin, hS⟩ := hrel
  have HGK := Lib.hid hgk; clear hgk
  have HR := hS.out; clear hS
  have hn1 := HSL.out.1
  have HIN := Lib.hid (show i < n by have := HCV.out.1; omega)
  by_cases hc : i < n1
  ·obtain ⟨i1, hi1⟩ : ∃ i1 : Nat, i1 = i + 1 := ⟨_, rfl⟩
   have HI1 := Lib.hid (show IntKind.i64.wrap ((i : Int) + 1) = (i1 : Int) ∧ n1 - i1 < n1 - i ∧ i1 ≤ n1 ∧ 6 + 6 * i = 6 * i1 from ⟨by have := HCV.out.2.1; rw [i64_s _ (by omega) (by omega)]; omega, by omega, by omega, by omega⟩)
   have HIN1 := Lib.hid (show i1 < n by omega)
   have HM := Lib.hid (show minQ (mnF (px ps) i) (px ps i1) = mnF (px ps) i1 ∧ minQ (mnF (py ps) i) (py ps i1) = mnF (py ps) i1 ∧ maxQ (mxF (px ps) i) (px ps i1) = mxF (px ps) i1 ∧ maxQ (mxF (py ps) i) (py ps i1) = mxF (py ps) i1 from by rw [hi1]; exact ⟨rfl, rfl, rfl, rfl⟩)
   have HC := Lib.hid hc
   clear hc hin hi1 hn1
   go_upto_region 7 with (fail)
   refine rgT [] HR ?_
   refine pV (.bool true) (by intro w; go_simp <;> (first | (rw [HC.out]; done) | exact HC.out | (simp [HC.out]; done) | (trace_state; done))) ?_
   refine Seq.done fun ws7 hws => ?_
   have HS7 := hws.st
   clear HR hws
   go_upto_region 8 with (fail)
   refine rgT [] HS7 ?_
   refine Seq.indexO (m := 6) i rfl rfl rfl rfl rfl (by kernel_rfl) rfl HC.out HI1.out.2.2.2 (nZ ?_)
   refine Seq.loadAtF rfl rfl rfl rfl HG.out (n := 6) (cs' := VC (px ps i1) (py ps i1)) (PC_room (lt_of_pts HL.out HIN1.out)) (by kernel_rfl) (PC_at (lt_of_pts HL.out HIN1.out)) (nZ ?_)
   refine aL6 ?_
   intro bk7 _ _ hbk7_r
   refine nZ ?_
   refine sV (VC_one _ _) ?_
   refine Seq.done fun ws8 hws => ?_
   have HS8 := hws.q1 (p := bk7)
   clear HS7 hws
   go_upto_region 9 with (fail)
   have HPbk5 := HS8.p1
   refine wS [4, 16] (Reg.fin.put Reg.fin_no _ _) (StR.move (StR.no HPbk5)) ?_
   iterate 2 refine pU ?_
   refine Seq.getAt rfl rfl rfl rfl (by repeat first|exact rS|refine rN ‹_› ?_) (n := 3) (cs' := RC (mnF (px ps) i)) (Nat.le_of_ble_eq_true rfl) (by kernel_rfl) rfl (nZ ?_)
   refine pU ?_
   refine lA (RC (px ps i1)) ?_
   refine cX rfl rfl (min_q (k := (1 * k + 0)) HT.out ((mnF_rz (fun q hq => HZP.out.x (lt_of_pts HL.out hq)) _ HIN.out).more (by omega)) ((HZP.out.x (lt_of_pts HL.out HIN1.out)).more (by omega)) HM.out.1 (by omega)) ?_
   iterate 2 refine pU ?_
   refine Seq.getAt rfl rfl rfl rfl (by repeat first|exact rS|refine rN ‹_› ?_) (n := 3) (cs' := RC (mnF (py ps) i)) (Nat.le_of_ble_eq_true rfl) (by kernel_rfl) rfl (nZ ?_)
   refine pU ?_
   refine lA (RC (py ps i1)) ?_
   refine cX rfl rfl (min_q (k := (1 * k + 0)) HT.out ((mnF_rz (fun q hq => HZP.out.y (lt_of_pts HL.out hq)) _ HIN.out).more (by omega)) ((HZP.out.y (lt_of_pts HL.out HIN1.out)).more (by omega)) HM.out.2.1 (by omega)) ?_
   refine pV (.agg (VC (mnF (px ps) i1) (mnF (py ps) i1))) (fun w => bld_Vec rfl rfl rfl w) ?_
   refine pU ?_
   refine Seq.storeAt (v := .agg (VC (mnF (px ps) i1) (mnF (py ps) i1))) rfl rfl rfl rfl rfl (by repeat first|exact rS|refine rN ‹_› ?_) (Nat.le_of_ble_eq_true rfl) (by show _ = some 6; kernel_rfl) (VC_one _ _) (cs' := BC (mnF (px ps) i1) (mnF (py ps) i1) (mxF (px ps) i) (mxF (py ps) i)) rfl (nZ ?_)
   refine Seq.done fun ws9 hws => ?_
   have HS9 := hws.q1 (p := bk5)
   clear HS8 hws HPbk5
   go_upto_region 10 with (fail)
   refine wS [4, 16] (Reg.fin.put Reg.fin_no _ _) (StR.move (StR.no HS9)) ?_
   iterate 2 refine pU ?_
   refine Seq.getAt rfl rfl rfl rfl (by repeat first|exact rS|refine rN ‹_› ?_) (n := 3) (cs' := RC (mxF (px ps) i)) (Nat.le_of_ble_eq_true rfl) (by kernel_rfl) rfl (nZ ?_)
   refine pU ?_
   refine lA (RC (px ps i1)) ?_
   refine cX rfl rfl (max_q (k := (1 * k + 0)) HT.out ((mxF_rz (fun q hq => HZP.out.x (lt_of_pts HL.out hq)) _ HIN.out).more (by omega)) ((HZP.out.x (lt_of_pts HL.out HIN1.out)).more (by omega)) HM.out.2.2.1 (by omega)) ?_
   iterate 2 refine pU ?_
   refine Seq.getAt rfl rfl rfl rfl (by repeat first|exact rS|refine rN ‹_› ?_) (n := 3) (cs' := RC (mxF (py ps) i)) (Nat.le_of_ble_eq_true rfl) (by kernel_rfl) rfl (nZ ?_)
   refine pU ?_
   refine lA (RC (py ps i1)) ?_
   refine cX rfl rfl (max_q (k := (1 * k + 0)) HT.out ((mxF_rz (fun q hq => HZP.out.y (lt_of_pts HL.out hq)) _ HIN.out).more (by omega)) ((HZP.out.y (lt_of_pts HL.out HIN1.out)).more (by omega)) HM.out.2.2.2 (by omega)) ?_
   refine pV (.agg (VC (mxF (px ps) i1) (mxF (py ps) i1))) (fun w => bld_Vec rfl rfl rfl w) ?_
   refine pU ?_
   refine Seq.storeAt (v := .agg (VC (mxF (px ps) i1) (mxF (py ps) i1))) rfl rfl rfl rfl rfl (by repeat first|exact rS|refine rN ‹_› ?_) (Nat.le_of_ble_eq_true rfl) (by show _ = some 6; kernel_rfl) (VC_one _ _) (cs' := BC (mnF (px ps) i1) (mnF (py ps) i1) (mxF (px ps) i1) (mxF (py ps) i1)) rfl (nZ ?_)
   refine Seq.done fun ws10 hws => ?_
   have HS10 := hws.q1 (p := bk5)
   clear HS9 hws
   go_upto_region 11 with (fail)
   refine rgT [] HS10 ?_
   refine pV (.int .i64 (i1 : Int)) (by intro w; go_simp <;> (first | (rw [HI1.out.1]; done) | exact HI1.out.1 | (simp [HI1.out.1]; done) | (trace_state; done))) ?_
   refine pU ?_
   refine Seq.done fun ws11 hws => ?_
   have HS11 := hws.st
   clear HS10 hws
   go_wp2_with fail
   go_roundg (n1 - i1)
   case measure => rw [HGK.out]; exact HI1.out.2.1
   case rel => exact ⟨i1, rfl, rfl, HI1.out.2.2.1, Lib.hid (HS11.sub (.cons_cons _ (.cons _ (.refl _))))⟩
  ·have HE := Lib.hid (show i = ps.length - 1 by rw [HL.out]; omega)
   have HC := Lib.hid (show n1 ≤ i by omega)
   clear hc hin hn1
   go_upto_region 7 with (fail)
   refine rgT [] HR ?_
   refine pV (.bool false) (by intro w; go_simp <;> (first | (rw [HC.out]; done) | exact HC.out | (simp [HC.out]; done) | (trace_state; done))) ?_
   refine Seq.done fun ws7 hws => ?_
   have HS7 := hws.st
   clear HR hws
   go_upto_region 12 with (fail)
   have HPbk2 := HS7.p3
   refine wp_seq_text [] (StR.move (StR.no HPbk2)) ?_
   refine lV ?_
   refine sV (BC_one _ _ _ _) ?_
   refine Seq.done fun ws8 hws => ?_
   have HS8 := hws.q1 (p := bk2)
   clear HS7 hws HPbk2
   go_wp2_with fail
   exact ret_own rfl rfl rfl HS8 (by repeat first|exact mC|apply mT) (n := 12) rfl (by kernel_rfl) ⟨by rw [HE.out], HS8.below⟩
def FZ (h : Bool) (t : Rat) : Array Value := #[.bool false, .string ⟨#[]⟩, .string ⟨#[]⟩, .bool false, .string ⟨#[]⟩, .string ⟨#[]⟩, .bool h, .bool (decide (t.num < 0)), .string (S t.num.natAbs), .string (S t.den)]
theorem zadd_q {k : Nat} {x : Rat} {W : World} {l : List Own} (hT : Tab W) (h1 : Rz k x) (hk0 : 2 ≤ k) (hk : k ≤ 1000000000000) (w : World) (h : St W l w) :
  Calls Tryz.prog 49 #[.agg #[.bool false, .string ⟨#[]⟩, .string ⟨#[]⟩], .agg (RC x)] w fun e w' => e = .returned (.agg (RC x)) ∧ Below w.heap.size w w' := add_w (t1 := ⟨false, ⟨#[]⟩, ⟨#[]⟩⟩) (t2 := rt x) hT (rawZ.more hk0) (RawT.rc h1) (Rat.zero_add x) (by omega) w h
theorem bld_FrameZ {o : Oper} {a : Act} {X : Operand} {h : Bool} {t : Rat} (ho : o.op = .build 50 #[(1, X)]) (hX : a.eval X = .agg (TC h t)) (w : World) : (execOp a.eval o).run Tryz.prog w = .ok (.value (.agg (FZ h t))) w := by
 unfold TC at hX
 unfold execOp FZ
 simp only [ho, List.map_toArray, List.map_cons, List.map_nil, hX]
 go_simp
set_option maxHeartbeats 4000000 in
set_option maxRecDepth 20000 in
theorem vzadd_q {k : Nat} {b1 b2 : Rat} {W : World} {l : List Own} (hT : Tab W) (Zb1 : Rz k b1) (Zb2 : Rz k b2) (hk0 : 2 ≤ k) (hk : k ≤ 1000000000000) (w : World) (h : St W l w) :
  Calls Tryz.prog 24 #[.agg #[.bool false, .string ⟨#[]⟩, .string ⟨#[]⟩, .bool false, .string ⟨#[]⟩, .string ⟨#[]⟩], .agg (VC b1 b2)] w fun e w' => e = .returned (.agg (VC b1 b2)) ∧ Below w.heap.size w w' := by
 have HT := Lib.hid (tabS hT h); clear hT h
 have Z_b1 := Lib.hid Zb1; clear Zb1
 have Z_b2 := Lib.hid Zb2; clear Zb2
 have HS0 : Hid (St w [] w) := Lib.hid St.start
 go_enter Tryz.func24, Tryz.ntmps24
 go_upto_region 0 with (fail)
 refine wp_seq_text [] (StR.no HS0.out) ?_
 refine bX (#[.bool false, .string ⟨#[]⟩, .string ⟨#[]⟩, .bool false, .string ⟨#[]⟩, .string ⟨#[]⟩]) ?_
 intro b2k _ _ hb2k
 refine nZ ?_
 refine bX (VC b1 b2) ?_
 intro b3 _ _ hb3
 obtain ⟨_, _, hb3⟩ := Reg.ne2 hb3
 refine nZ ?_
 refine aL6 ?_
 intro b4 _ _ hb4
 obtain ⟨_, _, hb4⟩ := Reg.ne2 hb4
 obtain ⟨_, _, hb4⟩ := Reg.ne2 hb4
 refine nZ ?_
 refine Seq.done fun w0 hws => ?_
 have HS1 := hws.q3 (p := b4) (q := b3) (r := b2k)
 clear hws HS0
 have HS2 := Lib.hid (StR.move (StR.no HS1))
 clear HS1
 go_upto_region 1 with (fail)
 refine wS [] (Reg.fin.put Reg.fin_no _ _) HS2.out ?_
 refine pU ?_
 refine lA (#[.bool false, .string ⟨#[]⟩, .string ⟨#[]⟩]) ?_
 refine pU ?_
 refine lA (RC b1) ?_
 refine cL (zadd_q (k := k) HT.out Z_b1.out hk0 hk) ?_
 refine pU ?_
 refine lA (#[.bool false, .string ⟨#[]⟩, .string ⟨#[]⟩]) ?_
 refine pU ?_
 refine lA (RC b2) ?_
 refine cL (zadd_q (k := k) HT.out Z_b2.out hk0 hk) ?_
 refine pV (.agg (VC b1 b2)) (fun w => bld_Vec rfl rfl rfl w) ?_
 refine sV (VC_one _ _) ?_
 refine Seq.done fun w1 hws => ?_
 have HS3 := hws.q1 (p := b4)
 clear hws HS2
 go_wp2_with fail
 exact rO HS3 ⟨rfl, HS3.below⟩
set_option maxHeartbeats 4000000 in
set_option maxRecDepth 20000 in
theorem fputz_q {k : Nat} {v1 v2 t : Rat} {h_ : Bool} {z0 z1 : Rat} {W : World} {l : List Own} (hT : Tab W) (Zt : Rz k t) (Zv1 : Rz k v1) (Zv2 : Rz k v2) (hga : GoodT h_ t) (hz0 : v1 * cosT h_ t - v2 * sinT t = z0) (hz1 : v1 * sinT t + v2 * cosT h_ t = z1) (hk0 : 2 ≤ k) (hk : k ≤ 100000000) (w : World) (h : St W l w) :
  Calls Tryz.prog 69 #[.agg (FZ h_ t), .agg (VC v1 v2)] w fun e w' => e = .returned (.agg (VC z0 z1)) ∧ Below w.heap.size w w' := by
 have HT := Lib.hid (tabS hT h); clear hT h
 have HC : Hid (Rz (8 * k + 10) (cosT h_ t)) := Lib.hid (Rz.cosT h_ Zt)
 have HSN : Hid (Rz (8 * k + 10) (sinT t)) := Lib.hid (Rz.sinT Zt)
 have HZ0 : Hid (Rz (40 * k + 41) z0) := Lib.hid (by rw [← hz0]; exact ((Zv1.mul HC.out).sub (Zv2.mul HSN.out)).more (by omega))
 have HZ1 : Hid (Rz (40 * k + 41) z1) := Lib.hid (by rw [← hz1]; exact ((Zv1.mul HSN.out).add (Zv2.mul HC.out)).more (by omega))
 have HE0 := Lib.hid hz0; clear hz0
 have HE1 := Lib.hid hz1; clear hz1
 have Z_t := Lib.hid Zt; clear Zt
 have Z_v1 := Lib.hid Zv1; clear Zv1
 have Z_v2 := Lib.hid Zv2; clear Zv2
 have HGA := Lib.hid hga; clear hga
 have HS0 : Hid (St w [] w) := Lib.hid St.start
 go_enter Tryz.func69, Tryz.ntmps69
 go_upto_region 0 with (fail)
 refine wp_seq_text [] (StR.no HS0.out) ?_
 refine bX (FZ h_ t) ?_
 intro b2k _ _ hb2k
 refine nZ ?_
 refine bX (VC v1 v2) ?_
 intro b3 _ _ hb3
 obtain ⟨_, _, hb3⟩ := Reg.ne2 hb3
 refine nZ ?_
 refine aL6 ?_
 intro b4 _ _ hb4
 obtain ⟨_, _, hb4⟩ := Reg.ne2 hb4
 obtain ⟨_, _, hb4⟩ := Reg.ne2 hb4
 refine nZ ?_
 refine Seq.done fun w0 hws => ?_
 have HS1 := hws.q3 (p := b4) (q := b3) (r := b2k)
 clear hws HS0
 have HS2 := Lib.hid (StR.move (StR.no HS1))
 clear HS1
 go_upto_region 1 with (fail)
 refine wS [] (Reg.fin.put Reg.fin_no _ _) HS2.out ?_
 refine pU ?_
 refine lA (#[.bool false, .string ⟨#[]⟩, .string ⟨#[]⟩, .bool false, .string ⟨#[]⟩, .string ⟨#[]⟩]) ?_
 refine lV ?_
 refine pU ?_
 refine lA (TC h_ t) ?_
 refine cX rfl rfl (vturn_q (k := k) HT.out Z_v1.out Z_v2.out Z_t.out HGA.out HE0.out HE1.out (by omega)) ?_
 refine cX rfl rfl (vzadd_q (k := 40 * k + 41) HT.out HZ0.out HZ1.out (by omega) (by omega)) ?_
 refine sV (VC_one _ _) ?_
 refine Seq.done fun w1 hws => ?_
 have HS3 := hws.q1 (p := b4)
 clear hws HS2
 go_wp2_with fail
 exact rO HS3 ⟨rfl, HS3.below⟩
set_option maxHeartbeats 4000000 in
set_option maxRecDepth 20000 in
theorem flistz_q {k n : Nat} {aw : Rat} {ha : Bool} {ps qs : Pts} {W : World} {l : List Own} (hT : Tab W) (Zaw : Rz k aw) (hga : GoodT ha aw) (hz : Pz k ps) (hl : ps.length = n) (hn : n ≤ 1000000) (hq : mvP (cosT ha aw) (sinT aw) 0 0 ps = qs) (hk0 : 2 ≤ k) (hk : k ≤ 10000000) (g : Nat) (w : World) (h : St W l w) (hg : Blk w g 29 (PC ps)) :
  Calls Tryz.prog 19 #[.agg (FZ ha aw), .slice (some ⟨g, 0, none⟩) n n] w fun e w' => ∃ p, w.heap.size ≤ p ∧ e = .returned (mk (some qs.length) p) ∧ Below w.heap.size w w' ∧ Blk w' p 29 (PC qs) := by
 have HT := Lib.hid (tabS hT h); clear hT h
 have HG := Lib.hid hg; clear hg
 have HGA := Lib.hid hga; clear hga
 have HZP := Lib.hid (show Pz (1 * k + 0) ps by rw [Nat.one_mul]; exact hz); clear hz
 have HQL := Lib.hid (show qs.length = n by rw [← hq, mvP_len]; exact hl)
 have HL := Lib.hid hl; clear hl
 have HQ := Lib.hid hq; clear hq
 have HN := Lib.hid hn; clear hn
 have Z_aw := Lib.hid Zaw; clear Zaw
 go_enter Tryz.func19, Tryz.ntmps19
 have HS : St w [] w := St.start
 go_upto_region 0 with (fail)
 refine rgT [] HS ?_
 refine bX (FZ ha aw) ?_
 intro bk2 _ _ hbk2_r
 refine nZ ?_
 refine pW ?_
 refine Seq.done fun ws1 hws => ?_
 have HS1 := hws.q1 (p := bk2)
 clear HS hws
 go_upto_region 1 with (fail)
 refine rgT [] HS1 ?_
 refine pW ?_
 refine pV (.int .i64 (n : Int)) (by intro w; go_simp; try first | with_reducible rfl | rfl) ?_
 refine Seq.slice (n := n) (e := 29) (cs := Mx qs 0 n) rfl rfl (fun w => mkV_n qs n HN.out rfl rfl rfl w) ?_
 intro bk10 _ _ hbk10_r
 refine nZ ?_
 refine pW ?_
 refine Seq.done fun ws2 hws => ?_
 have HS2 := hws.q1 (p := bk10)
 clear HS1 hws
 go_upto_region 2 with (fail)
 refine rgT [] HS2 ?_
 refine pW ?_
 refine pV (.int .i64 (n : Int)) (by intro w; go_simp; try first | with_reducible rfl | rfl) ?_
 refine pW ?_
 refine Seq.done fun ws3 hws => ?_
 have HS3 := hws.st
 clear HS2 hws
 go_wp2_with fail
 go_loopg [13] n (fun kk s13 wr => ∃ i : Nat, kk = n - i ∧ s13 = .int .i64 (i : Int) ∧ i ≤ n ∧ Hid (St w [(bk10, 29, Mx qs i n), (bk2, 50, FZ ha aw)] wr))
 case atStart => exact ⟨0, rfl, rfl, by omega, Lib.hid HS3⟩
 case round =>
  obtain ⟨i, hgk, rfl, hin, hS⟩ := hrel
  have HGK := Lib.hid hgk; clear hgk
  have HR := hS.out; clear hS
  by_cases hc : i < n
  ·obtain ⟨i1, hi1⟩ : ∃ i1 : Nat, i1 = i + 1 := ⟨_, rfl⟩
   have HI1 := Lib.hid (show IntKind.i64.wrap ((i : Int) + 1) = (i1 : Int) ∧ n - i1 < n - i ∧ i1 ≤ n ∧ i1 = i + 1 from ⟨by have := HN.out; rw [i64_s _ (by omega) (by omega)]; omega, by omega, by omega, hi1⟩)
   have HC := Lib.hid hc
   have HPX := Lib.hid (show px ps i * cosT ha aw - py ps i * sinT aw = px qs i ∧ px ps i * sinT aw + py ps i * cosT ha aw = py qs i from
    ⟨by rw [← HQ.out, px_mv (lt_of_pts HL.out hc)]; exact (Rat.zero_add _).symm, by rw [← HQ.out, py_mv (lt_of_pts HL.out hc)]; exact (Rat.zero_add _).symm⟩)
   clear hc hin hi1
   go_upto_region 3 with (fail)
   refine rgT [] HR ?_
   refine pV (.bool true) (by intro w; go_simp <;> (first | (rw [HC.out]; done) | exact HC.out | (simp [HC.out]; done) | (trace_state; done))) ?_
   refine Seq.done fun ws4 hws => ?_
   have HS4 := hws.st
   clear HR hws
   go_upto_region 4 with (fail)
   refine rgT [] HS4 ?_
   refine pW ?_
   refine Seq.index (m := 6) i rfl rfl rfl rfl rfl (by kernel_rfl) rfl HC.out (nZ ?_)
   refine Seq.loadAtF rfl rfl rfl rfl HG.out (n := 6) (cs' := VC (px ps i) (py ps i)) (PC_room (lt_of_pts HL.out HC.out)) (by kernel_rfl) (PC_at (lt_of_pts HL.out HC.out)) (nZ ?_)
   refine aL6 ?_
   intro bk7 _ _ hbk7_r
   refine nZ ?_
   refine pW ?_
   refine Seq.store rfl rfl rfl rfl rfl (by repeat first|exact rS|refine rN ‹_› ?_) (n := 6) rfl rfl (by kernel_rfl) (VC_one _ _) (nZ ?_)
   refine Seq.done fun ws5 hws => ?_
   have HS5 := hws.q1 (p := bk7)
   clear HS4 hws
   go_upto_region 5 with (fail)
   have HPbk10 := HS5.p1
   refine wp_seq_text [3000000] (StR.move (StR.no HPbk10)) ?_
   refine pW ?_
   refine pW ?_
   refine lV ?_
   refine lV ?_
   refine cX rfl rfl (fputz_q (k := (1 * k + 0)) HT.out (Z_aw.out.more (by omega)) ((HZP.out.x (lt_of_pts HL.out HC.out)).more (by omega)) ((HZP.out.y (lt_of_pts HL.out HC.out)).more (by omega)) HGA.out HPX.out.1 HPX.out.2 (by omega) (by omega)) ?_
   refine Seq.index (m := 6) i rfl rfl rfl rfl rfl (by kernel_rfl) rfl HC.out (nZ ?_)
   refine Seq.storeAt (v := .agg (VC (px qs i) (py qs i))) rfl rfl rfl rfl rfl (by repeat first|exact rS|refine rN ‹_› ?_) (by have := HC.out; rw [Mx_size]; show 6 * i + 6 ≤ 6 * n; omega) (by show _ = some 6; kernel_rfl) (VC_one _ _) (Mx_put qs HC.out) (nZ ?_)
   refine Seq.done fun ws6 hws => ?_
   have HS6 := hws.q1 (p := bk10)
   clear HS5 hws HPbk10
   go_upto_region 6 with (fail)
   refine rgT [] HS6 ?_
   refine pV (.int .i64 (i1 : Int)) (by intro w; go_simp <;> (first | (rw [HI1.out.1]; done) | exact HI1.out.1 | (simp [HI1.out.1]; done) | (trace_state; done))) ?_
   refine pW ?_
   refine Seq.done fun ws7 hws => ?_
   have HS7 := hws.st
   clear HS6 hws
   rw [← HI1.out.2.2.2] at HS7
   go_wp2_with fail
   go_roundg (n - i1)
   case measure => rw [HGK.out]; exact HI1.out.2.1
   case rel => exact ⟨i1, rfl, rfl, HI1.out.2.2.1, Lib.hid (HS7.sub (.cons_cons _ (.cons _ (.refl _))))⟩
  ·have HIN := Lib.hid (show i = n by omega)
   have HC := Lib.hid (show n ≤ i by omega)
   clear hc hin
   go_upto_region 3 with (fail)
   refine rgT [] HR ?_
   refine pV (.bool false) (by intro w; go_simp <;> (first | (rw [HC.out]; done) | exact HC.out | (simp [HC.out]; done) | (trace_state; done))) ?_
   refine Seq.done fun ws4 hws => ?_
   have HS4 := hws.st
   clear HR hws
   go_upto_region 7 with (fail)
   refine rgT [] HS4 ?_
   refine pW ?_
   refine pW ?_
   refine Seq.done fun ws5 hws => ?_
   have HS5 := hws.st
   clear HS4 hws
   go_wp2_with fail
   go_ret
   have hb := (HS5.blk (bk10, _, _) (by repeat first|exact mC|apply mT))
   exact ⟨_, hb.1, by rw [HQL.out]; rfl, HS5.below, by have := hb.2; rw [HIN.out, Mx_all HQL.out] at this; exact this⟩
theorem row_of {ax ay bx by_ x0 y0 x1 y1 x2 y2 : Rat} (hne : ¬ (ax = bx ∧ ay = by_)) (h0 : (bx - ax) * (y0 - ay) - (by_ - ay) * (x0 - ax) = 0) (h1 : (bx - ax) * (y1 - ay) - (by_ - ay) * (x1 - ax) = 0) (h2 : (bx - ax) * (y2 - ay) - (by_ - ay) * (x2 - ax) = 0) : (x1 - x0) * (y2 - y0) - (y1 - y0) * (x2 - x0) = 0 := by
 by_cases hx : bx - ax = 0
 ·have hy : by_ - ay ≠ 0 := fun h => hne ⟨by grind, by grind⟩
  have e : (by_ - ay) * ((x1 - x0) * (y2 - y0) - (y1 - y0) * (x2 - x0)) = 0 := by grind
  rcases Rat.mul_eq_zero.1 e with h | h
  ·exact absurd h hy
  ·exact h
 ·have e : (bx - ax) * ((x1 - x0) * (y2 - y0) - (y1 - y0) * (x2 - x0)) = 0 := by grind
  rcases Rat.mul_eq_zero.1 e with h | h
  ·exact absurd h hx
  ·exact h
theorem hull_three {L : List P2} (h : L.Pairwise lxl) {a b c : P2} (ha : a ∈ L) (hb : b ∈ L) (hc : c ∈ L) (hp : 0 < lft a b c) : 3 ≤ L.length ∧ 3 ≤ (hullL L).length := by
 have hab : a ≠ b := fun e => by subst e; unfold lft at hp; grind
 have hbc : b ≠ c := fun e => by subst e; unfold lft at hp; grind
 have hac : a ≠ c := fun e => by subst e; unfold lft at hp; grind
 have hl3 : 3 ≤ L.length := nodup_len (l := [a, b, c]) (by simp [hab, hbc, hac]) (by intro x hx; simp at hx; rcases hx with rfl | rfl | rfl <;> assumption)
 refine ⟨hl3, ?_⟩
 obtain ⟨hl, hu⟩ := hull_chains h (by omega)
 have ht := two_of h (by omega)
 have hnd := hull_nodup h (by omega)
 obtain ⟨mx, r, e1, h1⟩ := hl.top
 obtain ⟨mn, e2, h2⟩ := hl.low
 have m1 : mx ∈ hullL L := (pgon_mem hl hu ht mx).2 (.inl (by rw [e1]; exact List.mem_cons_self))
 have m2 : mn ∈ hullL L := (pgon_mem hl hu ht mn).2 (.inl (List.mem_of_getLast? e2))
 have hne : mx ≠ mn := by
  intro e
  subst e
  obtain ⟨p, hp1, q, hq1, hpq⟩ := ht
  apply hpq
  have key : ∀ q ∈ L, q = mx := fun q hq => by
   rcases h1 q hq with e | e
   ·exact e
   ·rcases h2 q hq with e' | e'
    ·exact e'
    ·exact absurd (lxl_trans e e') (lxl_irrefl _)
  rw [key p hp1, key q hq1]
 have hlen2 : 2 ≤ (hullL L).length := nodup_len (l := [mx, mn]) (by simp [hne]) (by intro x hx; simp at hx; rcases hx with rfl | rfl <;> assumption)
 rcases (by omega : 3 ≤ (hullL L).length ∨ (hullL L).length = 2) with h3 | h3
 ·exact h3
 ·exfalso
  obtain ⟨u, v, g1, g2, k1, -⟩ := pgon_edge hl hu ht (i := 0) (show 0 < (hullL L).length by omega)
  obtain ⟨u', v', g3, g4, k2, -⟩ := pgon_edge hl hu ht (i := 1) (show 1 < (hullL L).length by omega)
  have hH : (hullL L).length = 2 := h3
  have i1 : (0 + 1) % (hullL L).length = 1 := by rw [hH]
  have i2 : (1 + 1) % (hullL L).length = 0 := by rw [hH]
  change (hullL L)[0]? = some u at g1
  change (hullL L)[(0 + 1) % (hullL L).length]? = some v at g2
  change (hullL L)[1]? = some u' at g3
  change (hullL L)[(1 + 1) % (hullL L).length]? = some v' at g4
  rw [i1] at g2
  rw [i2] at g4
  have e1 : u' = v := by rw [g2] at g3; exact (Option.some.inj g3).symm
  have e2 : v' = u := by rw [g1] at g4; exact (Option.some.inj g4).symm
  subst e1 e2
  have huv : ¬ (v'.1 = u'.1 ∧ v'.2 = u'.2) := by
   intro ⟨x1, x2⟩
   have e : v' = u' := Prod.ext x1 x2
   rw [e] at g1
   have hp := List.pairwise_iff_getElem.1 hnd 0 1 (by omega) (by omega) (by omega)
   apply hp
   have q1 := (List.getElem?_eq_some_iff.1 g1).2
   have q2 := (List.getElem?_eq_some_iff.1 g2).2
   rw [q1, q2]
  have z : ∀ q ∈ L, (u'.1 - v'.1) * (q.2 - v'.2) - (u'.2 - v'.2) * (q.1 - v'.1) = 0 := fun q hq => by
   have a1 := k1 q hq
   have a2 := k2 q hq
   unfold lft at a1 a2
   grind
  have := row_of huv (z a ha) (z b hb) (z c hc)
  unfold lft at hp
  grind
theorem has_between {ps : Pts} {x y u v t : Rat} (h1 : hasB ps x y = true) (h2 : hasB ps (x + u) (y + v) = true) (t0 : 0 ≤ t) (t1 : t ≤ 1) : hasB ps (x + u * t) (y + v * t) = true := by
 unfold hasB at *
 rw [List.all_eq_true] at *
 intro i hi
 have a := of_decide_eq_true (h1 i hi)
 have b := of_decide_eq_true (h2 i hi)
 refine decide_eq_true ?_
 generalize px ps i = ax at *
 generalize py ps i = ay at *
 generalize px ps ((i + 1) % ps.length) = bx at *
 generalize py ps ((i + 1) % ps.length) = by_ at *
 unfold lf at *
 have c1 := mul_nn a (show 0 ≤ 1 - t by grind)
 have c2 := mul_nn b t0
 grind
theorem mn3 {z0 z2 q : Rat} (h1 : z0 ≤ z2) (h2 : z0 ≤ q) (h3 : q ≤ z2) : minQ (minQ z0 z2) q = z0 ∧ maxQ (maxQ z0 z2) q = z2 := by
 have a1 : minQ z0 z2 = z0 := by unfold minQ cmpQ; grind
 have a2 : maxQ z0 z2 = z2 := by unfold maxQ cmpQ; grind
 rw [a1, a2]
 constructor
 ·unfold minQ cmpQ; grind
 ·unfold maxQ cmpQ; grind
theorem mnF_le {f : Nat → Rat} : ∀ {m i : Nat}, i ≤ m → mnF f m ≤ f i
 | 0, i, h => by have : i = 0 := by omega
                 subst this; exact Rat.le_refl
 | m + 1, i, h => by
   have a1 := min_le_l (mnF f m) (f (m + 1))
   have a2 := min_le_r (mnF f m) (f (m + 1))
   rcases (by omega : i ≤ m ∨ i = m + 1) with h1 | h1
   ·have := mnF_le (f := f) h1
    show minQ (mnF f m) (f (m + 1)) ≤ f i
    grind
   ·subst h1; exact a2
theorem le_mxF {f : Nat → Rat} : ∀ {m i : Nat}, i ≤ m → f i ≤ mxF f m
 | 0, i, h => by have : i = 0 := by omega
                 subst this; exact Rat.le_refl
 | m + 1, i, h => by
   have a1 := le_max_l (mxF f m) (f (m + 1))
   have a2 := le_max_r (mxF f m) (f (m + 1))
   rcases (by omega : i ≤ m ∨ i = m + 1) with h1 | h1
   ·have := le_mxF (f := f) h1
    show f i ≤ maxQ (mxF f m) (f (m + 1))
    grind
   ·subst h1; exact a2
theorem mul_in2 {a c0 c1 c : Rat} (h1 : c0 ≤ c) (h2 : c ≤ c1) : mLo a a c0 c1 ≤ a * c ∧ a * c ≤ mHi a a c0 c1 := mul_in (Rat.le_refl) (Rat.le_refl) h1 h2
theorem turn_in {c0 c1 s0 s1 c s p q : Rat} (h1 : c0 ≤ c) (h2 : c ≤ c1) (h3 : s0 ≤ s) (h4 : s ≤ s1) :
  (tuL c0 c1 s0 s1 p q ≤ p * c - q * s ∧ p * c - q * s ≤ tuH c0 c1 s0 s1 p q) ∧ (tvL c0 c1 s0 s1 p q ≤ p * s + q * c ∧ p * s + q * c ≤ tvH c0 c1 s0 s1 p q) := by
 have a := mul_in2 (a := p) h1 h2
 have b := mul_in2 (a := q) h3 h4
 have d := mul_in2 (a := p) h3 h4
 have e := mul_in2 (a := q) h1 h2
 unfold tuL tuH tvL tvH
 grind
end Go.Proofs.YtmchjmflkaiakaaGreatDoor
