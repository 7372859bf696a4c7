/- Joined texts. -/
import Derived.Test.YtdhhbpnnahdofaaDoorSp2
import Derived.Test.YtdhhbpnnahdofaaDoorSpL
import Derived.LoopN

/- package span (printed by lawvec.py). -/
namespace Go.Proofs.YtdhhbpnnahdofaaDoor
open Go.RowKit
set_option linter.unusedVariables false
set_option linter.unusedSimpArgs false

set_option maxHeartbeats 2000000 in
set_option maxRecDepth 20000 in
theorem sof_q {k : Nat} {t : Rat} {z0 : Rat} {z1 : Rat} {W : World} {l : List Own} (hT : Tab W) (Zt : Rz k t)  (hz0 : t = z0) (hz1 : t = z1) (hk : k ≤ 1000000000000) (w : World) (h : St W l w) :
    Calls Tryd.prog 78 #[.agg (RC t)] w fun e w' => e = .returned (.agg (VC z0 z1)) ∧ Below w.heap.size w w' := by
  subst hz0
  subst hz1
  have HT := Lib.hid (tabS hT h); clear hT h
  have Z_t := Lib.hid Zt; clear Zt
  go_enter Tryd.func78, Tryd.ntmps78
  have HS : St w [] w := St.start
  go_upto_region 0 with (fail)
  refine wp_seq_text [] (StR.no HS) ?_
  refine Seq.box rfl rfl rfl (v := .agg (RC t)) (cs := RC t) rfl rfl ?_
  intro bk1 _ _ hbk1_r
  simp only [Act.put, nA, nB, nC]
  refine Seq.alloc rfl rfl rfl (z := .agg #[.bool false, .string ⟨#[]⟩, .string ⟨#[]⟩, .bool false, .string ⟨#[]⟩, .string ⟨#[]⟩]) (by kernel_rfl) rfl ?_
  intro bk2 _ _ hbk2_r
  obtain ⟨ne_bk2_bk1, hbk2_r⟩ := Reg.ne_of_put hbk2_r
  have ne_bk1_bk2 := Ne.symm ne_bk2_bk1
  simp only [Act.put, nA, nB, nC]
  refine Seq.done fun ws1 hws => ?_
  have HS1 : St w [(bk1, 32, RC t), (bk2, 34, #[.bool false, .string ⟨#[]⟩, .string ⟨#[]⟩, .bool false, .string ⟨#[]⟩, .string ⟨#[]⟩])] ws1 := hws.list2 (by repeat (first | exact rS | refine rN (by assumption) ?_)) (by repeat (first | exact rS | refine rN (by assumption) ?_)) (by assumption)
  clear HS hws
  go_upto_region 1 with (fail)
  refine wp_seq_text [0, 2] (StR.move (StR.no HS1)) ?_
  refine Seq.get rfl rfl rfl rfl (by repeat (first | exact rS | refine rN (by assumption) ?_)) (n := 3) rfl (by kernel_rfl) ?_
  simp only [Act.put, nA, nB, nC]
  refine Seq.get rfl rfl rfl rfl (by repeat (first | exact rS | refine rN (by assumption) ?_)) (n := 3) rfl (by kernel_rfl) ?_
  simp only [Act.put, nA, nB, nC]
  refine Seq.call rfl rfl rfl rfl (by kernel_rfl) (min_q (k := (1 * k + 0)) HT.out (Z_t.out.more (by omega)) (Z_t.out.more (by omega)) (min_self _) (by omega)) ?_
  simp only [Act.put, nA, nB, nC]
  refine Seq.store rfl rfl rfl rfl rfl (by repeat (first | exact rS | refine rN (by assumption) ?_)) (n := 3) rfl rfl (by kernel_rfl) (RC_one _) ?_
  simp only [Act.put, nA, nB, nC]
  refine Seq.done fun ws2 hws => ?_
  have HS2 : St w [(bk1, 32, RC t), (bk2, 34, #[.bool false, .string ⟨#[]⟩, .string ⟨#[]⟩, .bool false, .string ⟨#[]⟩, .string ⟨#[]⟩])] ws2 := hws.list1 (by repeat (first | exact rS | refine rN (by assumption) ?_))
  clear HS1 hws
  go_upto_region 2 with (fail)
  have HPbk2 : St w [(bk2, 34, #[.bool false, .string ⟨#[]⟩, .string ⟨#[]⟩, .bool false, .string ⟨#[]⟩, .string ⟨#[]⟩]), (bk1, 32, RC t)] _ := St.perm HS2 (List.perm_middle (l₁ := ([(bk1, 32, RC t)] : List Own)))
  refine wp_seq_text [] (StR.move (StR.no HPbk2)) ?_
  refine Seq.load rfl rfl rfl rfl (by repeat (first | exact mC | apply mT)) (n := 3) rfl (by kernel_rfl) ?_
  simp only [Act.put, nA, nB, nC]
  refine Seq.load rfl rfl rfl rfl (by repeat (first | exact mC | apply mT)) (n := 3) rfl (by kernel_rfl) ?_
  simp only [Act.put, nA, nB, nC]
  refine Seq.pure (v := .agg (VC t t)) rfl rfl (fun w => bld_Span rfl rfl rfl w) ?_
  simp only [Act.put, nA, nB, nC]
  refine Seq.store rfl rfl rfl rfl rfl (by repeat (first | exact rS | refine rN (by assumption) ?_)) (n := 6) rfl rfl (by kernel_rfl) (VC_one _ _) ?_
  simp only [Act.put, nA, nB, nC]
  refine Seq.done fun ws3 hws => ?_
  have HS3 : St w [(bk2, 34, VC t t), (bk1, 32, RC t)] ws3 := hws.list1 (by repeat (first | exact rS | refine rN (by assumption) ?_))
  clear HS2 hws HPbk2
  go_wp2_with fail
  exact ret_own rfl rfl rfl HS3 (by repeat (first | exact mC | apply mT)) (n := 6) rfl (by kernel_rfl) ⟨rfl, HS3.below⟩
set_option maxHeartbeats 2000000 in
set_option maxRecDepth 20000 in
theorem around_2 {k : Nat} {x y : Rat} {z0 z1 : Rat} {W : World} {l : List Own} (hT : Tab W) (Zx : Rz k x) (Zy : Rz k y) (hz0 : minQ x y = z0) (hz1 : maxQ x y = z1) (hk : k ≤ 1000000000000) (g : Nat) (w : World) (h : St W l w) (hg : Blk w g 32 (SL2 x y)) :
    Calls Tryd.prog 149 #[.slice (some ⟨g, 0, none⟩) 2 2] w fun e w' => e = .returned (.agg (VC z0 z1)) ∧ Below w.heap.size w w' := by
  subst hz0
  subst hz1
  have HT := Lib.hid (tabS hT h); clear hT h
  have HG := Lib.hid hg; clear hg
  have Z_x := Lib.hid Zx; clear Zx
  have Z_y := Lib.hid Zy; clear Zy
  go_enter Tryd.func149, Tryd.ntmps149
  have HS : St w [] w := St.start
  go_upto_region 0 with (fail)
  refine wp_seq_text [] (StR.no HS) ?_
  refine Seq.alloc rfl rfl rfl (z := .agg #[.bool false, .string ⟨#[]⟩, .string ⟨#[]⟩, .bool false, .string ⟨#[]⟩, .string ⟨#[]⟩]) (by kernel_rfl) rfl ?_
  intro bk2 _ _ hbk2_r
  simp only [Act.put, nA, nB, nC]
  refine Seq.done fun ws1 hws => ?_
  have HS1 : St w [(bk2, 34, #[.bool false, .string ⟨#[]⟩, .string ⟨#[]⟩, .bool false, .string ⟨#[]⟩, .string ⟨#[]⟩])] ws1 := hws.list1 (by repeat (first | exact rS | refine rN (by assumption) ?_))
  clear HS hws
  go_upto_region 1 with (fail)
  refine wp_seq_text [] (StR.no HS1) ?_
  iterate 2 (refine Seq.pure rfl rfl (by intro w; go_simp; try rfl) ?_; simp only [Act.put, nA, nB, nC])
  refine Seq.loadAtF rfl rfl rfl rfl HG.out (n := 3) (cs' := RC x) (Nat.le_of_ble_eq_true rfl) (by kernel_rfl) rfl ?_
  simp only [Act.put, nA, nB, nC]
  refine Seq.call rfl rfl rfl rfl (by kernel_rfl) (sof_q (k := (1 * k + 0)) HT.out (Z_x.out.more (by omega))  rfl rfl (by omega)) ?_
  simp only [Act.put, nA, nB, nC]
  refine Seq.alloc rfl rfl rfl (z := .agg #[.bool false, .string ⟨#[]⟩, .string ⟨#[]⟩, .bool false, .string ⟨#[]⟩, .string ⟨#[]⟩]) (by kernel_rfl) rfl ?_
  intro bk3 _ _ hbk3_r
  simp only [Act.put, nA, nB, nC]
  refine Seq.store rfl rfl rfl rfl rfl (by repeat (first | exact rS | refine rN (by assumption) ?_)) (n := 6) rfl rfl (by kernel_rfl) (VC_one _ _) ?_
  simp only [Act.put, nA, nB, nC]
  refine Seq.done fun ws2 hws => ?_
  have HS2 : St w [(bk3, 34, VC x x), (bk2, 34, #[.bool false, .string ⟨#[]⟩, .string ⟨#[]⟩, .bool false, .string ⟨#[]⟩, .string ⟨#[]⟩])] ws2 := hws.list1 (by repeat (first | exact rS | refine rN (by assumption) ?_))
  clear HS1 hws
  go_upto_region 2 with (fail)
  refine wp_seq_text [] (StR.no HS2) ?_
  refine Seq.pure rfl rfl (by intro w; go_simp; try rfl) ?_
  simp only [Act.put, nA, nB, nC]
  refine Seq.pure (v := .slice (some ⟨g, 3, none⟩) 1 1) rfl rfl (by intro w; go_simp; try rfl) ?_
  simp only [Act.put, nA, nB, nC]
  refine Seq.pure (v := .int .i64 1) rfl rfl (by intro w; go_simp; try rfl) ?_
  simp only [Act.put, nA, nB, nC]
  refine Seq.pure rfl rfl (by intro w; go_simp; try rfl) ?_
  simp only [Act.put, nA, nB, nC]
  refine Seq.done fun ws3 hws => ?_
  have HS3 := hws.st
  clear HS2 hws
  go_wp2_with fail
  refine wp_loop_rounds 2 ?_
  rw [rounds_succ]
  go_upto_region 3 with (fail)
  refine wp_seq_text [] (StR.no HS3) ?_
  refine Seq.pure rfl rfl (by intro w; go_simp; try rfl) ?_
  simp only [Act.put, nA, nB, nC]
  refine Seq.done fun ws4 hws => ?_
  have HS4 := hws.st
  clear HS3 hws
  go_upto_region 4 with (fail)
  refine wp_seq_text [] (StR.no HS4) ?_
  refine Seq.pure rfl rfl (by intro w; go_simp; try rfl) ?_
  simp only [Act.put, nA, nB, nC]
  refine Seq.loadAtF rfl rfl rfl rfl HG.out (n := 3) (cs' := RC y) (Nat.le_of_ble_eq_true rfl) (by kernel_rfl) rfl ?_
  simp only [Act.put, nA, nB, nC]
  refine Seq.alloc rfl rfl rfl (z := .agg #[.bool false, .string ⟨#[]⟩, .string ⟨#[]⟩]) (by kernel_rfl) rfl ?_
  intro bk5 _ _ hbk5_r
  simp only [Act.put, nA, nB, nC]
  refine Seq.store rfl rfl rfl rfl rfl (by repeat (first | exact rS | refine rN (by assumption) ?_)) (n := 3) rfl rfl (by kernel_rfl) (RC_one _) ?_
  simp only [Act.put, nA, nB, nC]
  refine Seq.done fun ws5 hws => ?_
  have HS5 : St w [(bk5, 32, RC y), (bk3, 34, VC x x), (bk2, 34, #[.bool false, .string ⟨#[]⟩, .string ⟨#[]⟩, .bool false, .string ⟨#[]⟩, .string ⟨#[]⟩])] ws5 := hws.list1 (by repeat (first | exact rS | refine rN (by assumption) ?_))
  clear HS4 hws
  go_upto_region 5 with (fail)
  have HPbk3 : St w [(bk3, 34, VC x x), (bk5, 32, RC y), (bk2, 34, #[.bool false, .string ⟨#[]⟩, .string ⟨#[]⟩, .bool false, .string ⟨#[]⟩, .string ⟨#[]⟩])] _ := St.perm HS5 (List.perm_middle (l₁ := ([(bk5, 32, RC y)] : List Own)))
  refine wp_seq [2, 10] (by kernel_rfl) (by kernel_rfl) (Reg.fin.put Reg.fin_no _ _) (StR.move (StR.no HPbk3)) ?_
  refine Seq.pure rfl rfl (by intro w; go_simp; try rfl) ?_
  simp only [Act.put, nA, nB, nC]
  refine Seq.getAt rfl rfl rfl rfl (by repeat (first | exact rS | refine rN (by assumption) ?_)) (n := 3) (cs' := RC x) (Nat.le_of_ble_eq_true rfl) (by kernel_rfl) rfl ?_
  simp only [Act.put, nA, nB, nC]
  refine Seq.load rfl rfl rfl rfl (by repeat (first | exact mC | apply mT)) (n := 3) rfl (by kernel_rfl) ?_
  simp only [Act.put, nA, nB, nC]
  refine Seq.call rfl rfl rfl rfl (by kernel_rfl) (min_q (k := (1 * k + 0)) HT.out (Z_x.out.more (by omega)) (Z_y.out.more (by omega)) rfl (by omega)) ?_
  simp only [Act.put, nA, nB, nC]
  refine Seq.pure rfl rfl (by intro w; go_simp; try rfl) ?_
  simp only [Act.put, nA, nB, nC]
  refine Seq.getAt rfl rfl rfl rfl (by repeat (first | exact rS | refine rN (by assumption) ?_)) (n := 3) (cs' := RC x) (Nat.le_of_ble_eq_true rfl) (by kernel_rfl) rfl ?_
  simp only [Act.put, nA, nB, nC]
  refine Seq.load rfl rfl rfl rfl (by repeat (first | exact mC | apply mT)) (n := 3) rfl (by kernel_rfl) ?_
  simp only [Act.put, nA, nB, nC]
  refine Seq.call rfl rfl rfl rfl (by kernel_rfl) (max_q (k := (1 * k + 0)) HT.out (Z_x.out.more (by omega)) (Z_y.out.more (by omega)) rfl (by omega)) ?_
  simp only [Act.put, nA, nB, nC]
  refine Seq.pure rfl rfl (by intro w; go_simp; try rfl) ?_
  simp only [Act.put, nA, nB, nC]
  refine Seq.storeAt (v := .agg (RC (minQ x y))) rfl rfl rfl rfl rfl (by repeat (first | exact rS | refine rN (by assumption) ?_)) (Nat.le_of_ble_eq_true rfl) (by show _ = some 3; kernel_rfl) (RC_one _) (cs' := VC (minQ x y) x) rfl ?_
  simp only [Act.put, nA, nB, nC]
  refine Seq.pure rfl rfl (by intro w; go_simp; try rfl) ?_
  simp only [Act.put, nA, nB, nC]
  refine Seq.storeAt (v := .agg (RC (maxQ x y))) rfl rfl rfl rfl rfl (by repeat (first | exact rS | refine rN (by assumption) ?_)) (Nat.le_of_ble_eq_true rfl) (by show _ = some 3; kernel_rfl) (RC_one _) (cs' := VC (minQ x y) (maxQ x y)) rfl ?_
  simp only [Act.put, nA, nB, nC]
  refine Seq.done fun ws6 hws => ?_
  have HS6 : St w [(bk3, 34, VC (minQ x y) (maxQ x y)), (bk5, 32, RC y), (bk2, 34, #[.bool false, .string ⟨#[]⟩, .string ⟨#[]⟩, .bool false, .string ⟨#[]⟩, .string ⟨#[]⟩])] ws6 := hws.list1 (by repeat (first | exact rS | refine rN (by assumption) ?_))
  clear HS5 hws HPbk3
  go_upto_region 6 with (fail)
  refine wp_seq_text [] (StR.no HS6) ?_
  refine Seq.pure (v := .int .i64 1) rfl rfl (by intro w; go_simp; try rfl) ?_
  simp only [Act.put, nA, nB, nC]
  refine Seq.pure rfl rfl (by intro w; go_simp; try rfl) ?_
  simp only [Act.put, nA, nB, nC]
  refine Seq.done fun ws7 hws => ?_
  have HS7 := hws.st
  clear HS6 hws
  go_wp2_with fail
  rw [rounds_succ]
  go_upto_region 3 with (fail)
  refine wp_seq_text [] (StR.no HS7) ?_
  refine Seq.pure rfl rfl (by intro w; go_simp; try rfl) ?_
  simp only [Act.put, nA, nB, nC]
  refine Seq.done fun ws8 hws => ?_
  have HS8 := hws.st
  clear HS7 hws
  go_upto_region 7 with (fail)
  have HPbk2 : St w [(bk2, 34, #[.bool false, .string ⟨#[]⟩, .string ⟨#[]⟩, .bool false, .string ⟨#[]⟩, .string ⟨#[]⟩]), (bk3, 34, VC (minQ x y) (maxQ x y)), (bk5, 32, RC y)] _ := St.perm HS8 (List.perm_middle (l₁ := ([(bk3, 34, VC (minQ x y) (maxQ x y)), (bk5, 32, RC y)] : List Own)))
  refine wp_seq_text [] (StR.move (StR.no HPbk2)) ?_
  refine Seq.load rfl rfl rfl rfl (by repeat (first | exact mC | apply mT)) (n := 6) rfl (by kernel_rfl) ?_
  simp only [Act.put, nA, nB, nC]
  refine Seq.store rfl rfl rfl rfl rfl (by repeat (first | exact rS | refine rN (by assumption) ?_)) (n := 6) rfl rfl (by kernel_rfl) (VC_one _ _) ?_
  simp only [Act.put, nA, nB, nC]
  refine Seq.done fun ws9 hws => ?_
  have HS9 : St w [(bk2, 34, VC (minQ x y) (maxQ x y)), (bk3, 34, VC (minQ x y) (maxQ x y)), (bk5, 32, RC y)] ws9 := hws.list1 (by repeat (first | exact rS | refine rN (by assumption) ?_))
  clear HS8 hws HPbk2
  go_wp2_with fail
  exact ret_own rfl rfl rfl HS9 (by repeat (first | exact mC | apply mT)) (n := 6) rfl (by kernel_rfl) ⟨rfl, HS9.below⟩
set_option maxHeartbeats 2000000 in
set_option maxRecDepth 20000 in
theorem around_4 {k : Nat} {x y z u : Rat} {z0 z1 : Rat} {W : World} {l : List Own} (hT : Tab W) (Zx : Rz k x) (Zy : Rz k y) (Zz : Rz k z) (Zu : Rz k u) (hz0 : minQ (minQ (minQ x y) z) u = z0) (hz1 : maxQ (maxQ (maxQ x y) z) u = z1) (hk : k ≤ 1000000000000) (g : Nat) (w : World) (h : St W l w) (hg : Blk w g 32 (SL4 x y z u)) :
    Calls Tryd.prog 149 #[.slice (some ⟨g, 0, none⟩) 4 4] w fun e w' => e = .returned (.agg (VC z0 z1)) ∧ Below w.heap.size w w' := by
  subst hz0
  subst hz1
  have HT := Lib.hid (tabS hT h); clear hT h
  have HG := Lib.hid hg; clear hg
  have Z_x := Lib.hid Zx; clear Zx
  have Z_y := Lib.hid Zy; clear Zy
  have Z_z := Lib.hid Zz; clear Zz
  have Z_u := Lib.hid Zu; clear Zu
  go_enter Tryd.func149, Tryd.ntmps149
  have HS : St w [] w := St.start
  go_upto_region 0 with (fail)
  refine wp_seq_text [] (StR.no HS) ?_
  refine Seq.alloc rfl rfl rfl (z := .agg #[.bool false, .string ⟨#[]⟩, .string ⟨#[]⟩, .bool false, .string ⟨#[]⟩, .string ⟨#[]⟩]) (by kernel_rfl) rfl ?_
  intro bk2 _ _ hbk2_r
  simp only [Act.put, nA, nB, nC]
  refine Seq.done fun ws1 hws => ?_
  have HS1 : St w [(bk2, 34, #[.bool false, .string ⟨#[]⟩, .string ⟨#[]⟩, .bool false, .string ⟨#[]⟩, .string ⟨#[]⟩])] ws1 := hws.list1 (by repeat (first | exact rS | refine rN (by assumption) ?_))
  clear HS hws
  go_upto_region 1 with (fail)
  refine wp_seq_text [] (StR.no HS1) ?_
  iterate 2 (refine Seq.pure rfl rfl (by intro w; go_simp; try rfl) ?_; simp only [Act.put, nA, nB, nC])
  refine Seq.loadAtF rfl rfl rfl rfl HG.out (n := 3) (cs' := RC x) (Nat.le_of_ble_eq_true rfl) (by kernel_rfl) rfl ?_
  simp only [Act.put, nA, nB, nC]
  refine Seq.call rfl rfl rfl rfl (by kernel_rfl) (sof_q (k := (1 * k + 0)) HT.out (Z_x.out.more (by omega))  rfl rfl (by omega)) ?_
  simp only [Act.put, nA, nB, nC]
  refine Seq.alloc rfl rfl rfl (z := .agg #[.bool false, .string ⟨#[]⟩, .string ⟨#[]⟩, .bool false, .string ⟨#[]⟩, .string ⟨#[]⟩]) (by kernel_rfl) rfl ?_
  intro bk3 _ _ hbk3_r
  simp only [Act.put, nA, nB, nC]
  refine Seq.store rfl rfl rfl rfl rfl (by repeat (first | exact rS | refine rN (by assumption) ?_)) (n := 6) rfl rfl (by kernel_rfl) (VC_one _ _) ?_
  simp only [Act.put, nA, nB, nC]
  refine Seq.done fun ws2 hws => ?_
  have HS2 : St w [(bk3, 34, VC x x), (bk2, 34, #[.bool false, .string ⟨#[]⟩, .string ⟨#[]⟩, .bool false, .string ⟨#[]⟩, .string ⟨#[]⟩])] ws2 := hws.list1 (by repeat (first | exact rS | refine rN (by assumption) ?_))
  clear HS1 hws
  go_upto_region 2 with (fail)
  refine wp_seq_text [] (StR.no HS2) ?_
  refine Seq.pure rfl rfl (by intro w; go_simp; try rfl) ?_
  simp only [Act.put, nA, nB, nC]
  refine Seq.pure (v := .slice (some ⟨g, 3, none⟩) 3 3) rfl rfl (by intro w; go_simp; try rfl) ?_
  simp only [Act.put, nA, nB, nC]
  refine Seq.pure (v := .int .i64 3) rfl rfl (by intro w; go_simp; try rfl) ?_
  simp only [Act.put, nA, nB, nC]
  refine Seq.pure rfl rfl (by intro w; go_simp; try rfl) ?_
  simp only [Act.put, nA, nB, nC]
  refine Seq.done fun ws3 hws => ?_
  have HS3 := hws.st
  clear HS2 hws
  go_wp2_with fail
  refine wp_loop_rounds 4 ?_
  rw [rounds_succ]
  go_upto_region 3 with (fail)
  refine wp_seq_text [] (StR.no HS3) ?_
  refine Seq.pure rfl rfl (by intro w; go_simp; try rfl) ?_
  simp only [Act.put, nA, nB, nC]
  refine Seq.done fun ws4 hws => ?_
  have HS4 := hws.st
  clear HS3 hws
  go_upto_region 4 with (fail)
  refine wp_seq_text [] (StR.no HS4) ?_
  refine Seq.pure rfl rfl (by intro w; go_simp; try rfl) ?_
  simp only [Act.put, nA, nB, nC]
  refine Seq.loadAtF rfl rfl rfl rfl HG.out (n := 3) (cs' := RC y) (Nat.le_of_ble_eq_true rfl) (by kernel_rfl) rfl ?_
  simp only [Act.put, nA, nB, nC]
  refine Seq.alloc rfl rfl rfl (z := .agg #[.bool false, .string ⟨#[]⟩, .string ⟨#[]⟩]) (by kernel_rfl) rfl ?_
  intro bk5 _ _ hbk5_r
  simp only [Act.put, nA, nB, nC]
  refine Seq.store rfl rfl rfl rfl rfl (by repeat (first | exact rS | refine rN (by assumption) ?_)) (n := 3) rfl rfl (by kernel_rfl) (RC_one _) ?_
  simp only [Act.put, nA, nB, nC]
  refine Seq.done fun ws5 hws => ?_
  have HS5 : St w [(bk5, 32, RC y), (bk3, 34, VC x x), (bk2, 34, #[.bool false, .string ⟨#[]⟩, .string ⟨#[]⟩, .bool false, .string ⟨#[]⟩, .string ⟨#[]⟩])] ws5 := hws.list1 (by repeat (first | exact rS | refine rN (by assumption) ?_))
  clear HS4 hws
  go_upto_region 5 with (fail)
  have HPbk3 : St w [(bk3, 34, VC x x), (bk5, 32, RC y), (bk2, 34, #[.bool false, .string ⟨#[]⟩, .string ⟨#[]⟩, .bool false, .string ⟨#[]⟩, .string ⟨#[]⟩])] _ := St.perm HS5 (List.perm_middle (l₁ := ([(bk5, 32, RC y)] : List Own)))
  refine wp_seq [2, 10] (by kernel_rfl) (by kernel_rfl) (Reg.fin.put Reg.fin_no _ _) (StR.move (StR.no HPbk3)) ?_
  refine Seq.pure rfl rfl (by intro w; go_simp; try rfl) ?_
  simp only [Act.put, nA, nB, nC]
  refine Seq.getAt rfl rfl rfl rfl (by repeat (first | exact rS | refine rN (by assumption) ?_)) (n := 3) (cs' := RC x) (Nat.le_of_ble_eq_true rfl) (by kernel_rfl) rfl ?_
  simp only [Act.put, nA, nB, nC]
  refine Seq.load rfl rfl rfl rfl (by repeat (first | exact mC | apply mT)) (n := 3) rfl (by kernel_rfl) ?_
  simp only [Act.put, nA, nB, nC]
  refine Seq.call rfl rfl rfl rfl (by kernel_rfl) (min_q (k := (1 * k + 0)) HT.out (Z_x.out.more (by omega)) (Z_y.out.more (by omega)) rfl (by omega)) ?_
  simp only [Act.put, nA, nB, nC]
  refine Seq.pure rfl rfl (by intro w; go_simp; try rfl) ?_
  simp only [Act.put, nA, nB, nC]
  refine Seq.getAt rfl rfl rfl rfl (by repeat (first | exact rS | refine rN (by assumption) ?_)) (n := 3) (cs' := RC x) (Nat.le_of_ble_eq_true rfl) (by kernel_rfl) rfl ?_
  simp only [Act.put, nA, nB, nC]
  refine Seq.load rfl rfl rfl rfl (by repeat (first | exact mC | apply mT)) (n := 3) rfl (by kernel_rfl) ?_
  simp only [Act.put, nA, nB, nC]
  refine Seq.call rfl rfl rfl rfl (by kernel_rfl) (max_q (k := (1 * k + 0)) HT.out (Z_x.out.more (by omega)) (Z_y.out.more (by omega)) rfl (by omega)) ?_
  simp only [Act.put, nA, nB, nC]
  refine Seq.pure rfl rfl (by intro w; go_simp; try rfl) ?_
  simp only [Act.put, nA, nB, nC]
  refine Seq.storeAt (v := .agg (RC (minQ x y))) rfl rfl rfl rfl rfl (by repeat (first | exact rS | refine rN (by assumption) ?_)) (Nat.le_of_ble_eq_true rfl) (by show _ = some 3; kernel_rfl) (RC_one _) (cs' := VC (minQ x y) x) rfl ?_
  simp only [Act.put, nA, nB, nC]
  refine Seq.pure rfl rfl (by intro w; go_simp; try rfl) ?_
  simp only [Act.put, nA, nB, nC]
  refine Seq.storeAt (v := .agg (RC (maxQ x y))) rfl rfl rfl rfl rfl (by repeat (first | exact rS | refine rN (by assumption) ?_)) (Nat.le_of_ble_eq_true rfl) (by show _ = some 3; kernel_rfl) (RC_one _) (cs' := VC (minQ x y) (maxQ x y)) rfl ?_
  simp only [Act.put, nA, nB, nC]
  refine Seq.done fun ws6 hws => ?_
  have HS6 : St w [(bk3, 34, VC (minQ x y) (maxQ x y)), (bk5, 32, RC y), (bk2, 34, #[.bool false, .string ⟨#[]⟩, .string ⟨#[]⟩, .bool false, .string ⟨#[]⟩, .string ⟨#[]⟩])] ws6 := hws.list1 (by repeat (first | exact rS | refine rN (by assumption) ?_))
  clear HS5 hws HPbk3
  go_upto_region 6 with (fail)
  refine wp_seq_text [] (StR.no HS6) ?_
  refine Seq.pure (v := .int .i64 1) rfl rfl (by intro w; go_simp; try rfl) ?_
  simp only [Act.put, nA, nB, nC]
  refine Seq.pure rfl rfl (by intro w; go_simp; try rfl) ?_
  simp only [Act.put, nA, nB, nC]
  refine Seq.done fun ws7 hws => ?_
  have HS7 := hws.st
  clear HS6 hws
  go_wp2_with fail
  rw [rounds_succ]
  go_upto_region 3 with (fail)
  refine wp_seq_text [] (StR.no HS7) ?_
  refine Seq.pure rfl rfl (by intro w; go_simp; try rfl) ?_
  simp only [Act.put, nA, nB, nC]
  refine Seq.done fun ws8 hws => ?_
  have HS8 := hws.st
  clear HS7 hws
  go_upto_region 4 with (fail)
  refine wp_seq_text [] (StR.no HS8) ?_
  refine Seq.pure rfl rfl (by intro w; go_simp; try rfl) ?_
  simp only [Act.put, nA, nB, nC]
  refine Seq.loadAtF rfl rfl rfl rfl HG.out (n := 3) (cs' := RC z) (Nat.le_of_ble_eq_true rfl) (by kernel_rfl) rfl ?_
  simp only [Act.put, nA, nB, nC]
  refine Seq.alloc rfl rfl rfl (z := .agg #[.bool false, .string ⟨#[]⟩, .string ⟨#[]⟩]) (by kernel_rfl) rfl ?_
  intro bk5_1 _ _ hbk5_1_r
  simp only [Act.put, nA, nB, nC]
  refine Seq.store rfl rfl rfl rfl rfl (by repeat (first | exact rS | refine rN (by assumption) ?_)) (n := 3) rfl rfl (by kernel_rfl) (RC_one _) ?_
  simp only [Act.put, nA, nB, nC]
  refine Seq.done fun ws9 hws => ?_
  have HS9 : St w [(bk5_1, 32, RC z), (bk3, 34, VC (minQ x y) (maxQ x y)), (bk5, 32, RC y), (bk2, 34, #[.bool false, .string ⟨#[]⟩, .string ⟨#[]⟩, .bool false, .string ⟨#[]⟩, .string ⟨#[]⟩])] ws9 := hws.list1 (by repeat (first | exact rS | refine rN (by assumption) ?_))
  clear HS8 hws
  go_upto_region 5 with (fail)
  have HPbk3 : St w [(bk3, 34, VC (minQ x y) (maxQ x y)), (bk5_1, 32, RC z), (bk5, 32, RC y), (bk2, 34, #[.bool false, .string ⟨#[]⟩, .string ⟨#[]⟩, .bool false, .string ⟨#[]⟩, .string ⟨#[]⟩])] _ := St.perm HS9 (List.perm_middle (l₁ := ([(bk5_1, 32, RC z)] : List Own)))
  refine wp_seq [2, 10] (by kernel_rfl) (by kernel_rfl) (Reg.fin.put Reg.fin_no _ _) (StR.move (StR.no HPbk3)) ?_
  refine Seq.pure rfl rfl (by intro w; go_simp; try rfl) ?_
  simp only [Act.put, nA, nB, nC]
  refine Seq.getAt rfl rfl rfl rfl (by repeat (first | exact rS | refine rN (by assumption) ?_)) (n := 3) (cs' := RC (minQ x y)) (Nat.le_of_ble_eq_true rfl) (by kernel_rfl) rfl ?_
  simp only [Act.put, nA, nB, nC]
  refine Seq.load rfl rfl rfl rfl (by repeat (first | exact mC | apply mT)) (n := 3) rfl (by kernel_rfl) ?_
  simp only [Act.put, nA, nB, nC]
  refine Seq.call rfl rfl rfl rfl (by kernel_rfl) (min_q (k := (1 * k + 0)) HT.out ((Rz.min (k := (1 * k + 0)) (Z_x.out.more (by omega)) (Z_y.out.more (by omega))).more (by omega)) (Z_z.out.more (by omega)) rfl (by omega)) ?_
  simp only [Act.put, nA, nB, nC]
  refine Seq.pure rfl rfl (by intro w; go_simp; try rfl) ?_
  simp only [Act.put, nA, nB, nC]
  refine Seq.getAt rfl rfl rfl rfl (by repeat (first | exact rS | refine rN (by assumption) ?_)) (n := 3) (cs' := RC (maxQ x y)) (Nat.le_of_ble_eq_true rfl) (by kernel_rfl) rfl ?_
  simp only [Act.put, nA, nB, nC]
  refine Seq.load rfl rfl rfl rfl (by repeat (first | exact mC | apply mT)) (n := 3) rfl (by kernel_rfl) ?_
  simp only [Act.put, nA, nB, nC]
  refine Seq.call rfl rfl rfl rfl (by kernel_rfl) (max_q (k := (1 * k + 0)) HT.out ((Rz.max (k := (1 * k + 0)) (Z_x.out.more (by omega)) (Z_y.out.more (by omega))).more (by omega)) (Z_z.out.more (by omega)) rfl (by omega)) ?_
  simp only [Act.put, nA, nB, nC]
  refine Seq.pure rfl rfl (by intro w; go_simp; try rfl) ?_
  simp only [Act.put, nA, nB, nC]
  refine Seq.storeAt (v := .agg (RC (minQ (minQ x y) z))) rfl rfl rfl rfl rfl (by repeat (first | exact rS | refine rN (by assumption) ?_)) (Nat.le_of_ble_eq_true rfl) (by show _ = some 3; kernel_rfl) (RC_one _) (cs' := VC (minQ (minQ x y) z) (maxQ x y)) rfl ?_
  simp only [Act.put, nA, nB, nC]
  refine Seq.pure rfl rfl (by intro w; go_simp; try rfl) ?_
  simp only [Act.put, nA, nB, nC]
  refine Seq.storeAt (v := .agg (RC (maxQ (maxQ x y) z))) rfl rfl rfl rfl rfl (by repeat (first | exact rS | refine rN (by assumption) ?_)) (Nat.le_of_ble_eq_true rfl) (by show _ = some 3; kernel_rfl) (RC_one _) (cs' := VC (minQ (minQ x y) z) (maxQ (maxQ x y) z)) rfl ?_
  simp only [Act.put, nA, nB, nC]
  refine Seq.done fun ws10 hws => ?_
  have HS10 : St w [(bk3, 34, VC (minQ (minQ x y) z) (maxQ (maxQ x y) z)), (bk5_1, 32, RC z), (bk5, 32, RC y), (bk2, 34, #[.bool false, .string ⟨#[]⟩, .string ⟨#[]⟩, .bool false, .string ⟨#[]⟩, .string ⟨#[]⟩])] ws10 := hws.list1 (by repeat (first | exact rS | refine rN (by assumption) ?_))
  clear HS9 hws HPbk3
  go_upto_region 6 with (fail)
  refine wp_seq_text [] (StR.no HS10) ?_
  refine Seq.pure (v := .int .i64 2) rfl rfl (by intro w; go_simp; try rfl) ?_
  simp only [Act.put, nA, nB, nC]
  refine Seq.pure rfl rfl (by intro w; go_simp; try rfl) ?_
  simp only [Act.put, nA, nB, nC]
  refine Seq.done fun ws11 hws => ?_
  have HS11 := hws.st
  clear HS10 hws
  go_wp2_with fail
  rw [rounds_succ]
  go_upto_region 3 with (fail)
  refine wp_seq_text [] (StR.no HS11) ?_
  refine Seq.pure rfl rfl (by intro w; go_simp; try rfl) ?_
  simp only [Act.put, nA, nB, nC]
  refine Seq.done fun ws12 hws => ?_
  have HS12 := hws.st
  clear HS11 hws
  go_upto_region 4 with (fail)
  refine wp_seq_text [] (StR.no HS12) ?_
  refine Seq.pure rfl rfl (by intro w; go_simp; try rfl) ?_
  simp only [Act.put, nA, nB, nC]
  refine Seq.loadAtF rfl rfl rfl rfl HG.out (n := 3) (cs' := RC u) (Nat.le_of_ble_eq_true rfl) (by kernel_rfl) rfl ?_
  simp only [Act.put, nA, nB, nC]
  refine Seq.alloc rfl rfl rfl (z := .agg #[.bool false, .string ⟨#[]⟩, .string ⟨#[]⟩]) (by kernel_rfl) rfl ?_
  intro bk5_2 _ _ hbk5_2_r
  simp only [Act.put, nA, nB, nC]
  refine Seq.store rfl rfl rfl rfl rfl (by repeat (first | exact rS | refine rN (by assumption) ?_)) (n := 3) rfl rfl (by kernel_rfl) (RC_one _) ?_
  simp only [Act.put, nA, nB, nC]
  refine Seq.done fun ws13 hws => ?_
  have HS13 : St w [(bk5_2, 32, RC u), (bk3, 34, VC (minQ (minQ x y) z) (maxQ (maxQ x y) z)), (bk5_1, 32, RC z), (bk5, 32, RC y), (bk2, 34, #[.bool false, .string ⟨#[]⟩, .string ⟨#[]⟩, .bool false, .string ⟨#[]⟩, .string ⟨#[]⟩])] ws13 := hws.list1 (by repeat (first | exact rS | refine rN (by assumption) ?_))
  clear HS12 hws
  go_upto_region 5 with (fail)
  have HPbk3 : St w [(bk3, 34, VC (minQ (minQ x y) z) (maxQ (maxQ x y) z)), (bk5_2, 32, RC u), (bk5_1, 32, RC z), (bk5, 32, RC y), (bk2, 34, #[.bool false, .string ⟨#[]⟩, .string ⟨#[]⟩, .bool false, .string ⟨#[]⟩, .string ⟨#[]⟩])] _ := St.perm HS13 (List.perm_middle (l₁ := ([(bk5_2, 32, RC u)] : List Own)))
  refine wp_seq [2, 10] (by kernel_rfl) (by kernel_rfl) (Reg.fin.put Reg.fin_no _ _) (StR.move (StR.no HPbk3)) ?_
  refine Seq.pure rfl rfl (by intro w; go_simp; try rfl) ?_
  simp only [Act.put, nA, nB, nC]
  refine Seq.getAt rfl rfl rfl rfl (by repeat (first | exact rS | refine rN (by assumption) ?_)) (n := 3) (cs' := RC (minQ (minQ x y) z)) (Nat.le_of_ble_eq_true rfl) (by kernel_rfl) rfl ?_
  simp only [Act.put, nA, nB, nC]
  refine Seq.load rfl rfl rfl rfl (by repeat (first | exact mC | apply mT)) (n := 3) rfl (by kernel_rfl) ?_
  simp only [Act.put, nA, nB, nC]
  refine Seq.call rfl rfl rfl rfl (by kernel_rfl) (min_q (k := (1 * k + 0)) HT.out ((Rz.min (k := (1 * k + 0)) ((Rz.min (k := (1 * k + 0)) (Z_x.out.more (by omega)) (Z_y.out.more (by omega))).more (by omega)) (Z_z.out.more (by omega))).more (by omega)) (Z_u.out.more (by omega)) rfl (by omega)) ?_
  simp only [Act.put, nA, nB, nC]
  refine Seq.pure rfl rfl (by intro w; go_simp; try rfl) ?_
  simp only [Act.put, nA, nB, nC]
  refine Seq.getAt rfl rfl rfl rfl (by repeat (first | exact rS | refine rN (by assumption) ?_)) (n := 3) (cs' := RC (maxQ (maxQ x y) z)) (Nat.le_of_ble_eq_true rfl) (by kernel_rfl) rfl ?_
  simp only [Act.put, nA, nB, nC]
  refine Seq.load rfl rfl rfl rfl (by repeat (first | exact mC | apply mT)) (n := 3) rfl (by kernel_rfl) ?_
  simp only [Act.put, nA, nB, nC]
  refine Seq.call rfl rfl rfl rfl (by kernel_rfl) (max_q (k := (1 * k + 0)) HT.out ((Rz.max (k := (1 * k + 0)) ((Rz.max (k := (1 * k + 0)) (Z_x.out.more (by omega)) (Z_y.out.more (by omega))).more (by omega)) (Z_z.out.more (by omega))).more (by omega)) (Z_u.out.more (by omega)) rfl (by omega)) ?_
  simp only [Act.put, nA, nB, nC]
  refine Seq.pure rfl rfl (by intro w; go_simp; try rfl) ?_
  simp only [Act.put, nA, nB, nC]
  refine Seq.storeAt (v := .agg (RC (minQ (minQ (minQ x y) z) u))) rfl rfl rfl rfl rfl (by repeat (first | exact rS | refine rN (by assumption) ?_)) (Nat.le_of_ble_eq_true rfl) (by show _ = some 3; kernel_rfl) (RC_one _) (cs' := VC (minQ (minQ (minQ x y) z) u) (maxQ (maxQ x y) z)) rfl ?_
  simp only [Act.put, nA, nB, nC]
  refine Seq.pure rfl rfl (by intro w; go_simp; try rfl) ?_
  simp only [Act.put, nA, nB, nC]
  refine Seq.storeAt (v := .agg (RC (maxQ (maxQ (maxQ x y) z) u))) rfl rfl rfl rfl rfl (by repeat (first | exact rS | refine rN (by assumption) ?_)) (Nat.le_of_ble_eq_true rfl) (by show _ = some 3; kernel_rfl) (RC_one _) (cs' := VC (minQ (minQ (minQ x y) z) u) (maxQ (maxQ (maxQ x y) z) u)) rfl ?_
  simp only [Act.put, nA, nB, nC]
  refine Seq.done fun ws14 hws => ?_
  have HS14 : St w [(bk3, 34, VC (minQ (minQ (minQ x y) z) u) (maxQ (maxQ (maxQ x y) z) u)), (bk5_2, 32, RC u), (bk5_1, 32, RC z), (bk5, 32, RC y), (bk2, 34, #[.bool false, .string ⟨#[]⟩, .string ⟨#[]⟩, .bool false, .string ⟨#[]⟩, .string ⟨#[]⟩])] ws14 := hws.list1 (by repeat (first | exact rS | refine rN (by assumption) ?_))
  clear HS13 hws HPbk3
  go_upto_region 6 with (fail)
  refine wp_seq_text [] (StR.no HS14) ?_
  refine Seq.pure (v := .int .i64 3) rfl rfl (by intro w; go_simp; try rfl) ?_
  simp only [Act.put, nA, nB, nC]
  refine Seq.pure rfl rfl (by intro w; go_simp; try rfl) ?_
  simp only [Act.put, nA, nB, nC]
  refine Seq.done fun ws15 hws => ?_
  have HS15 := hws.st
  clear HS14 hws
  go_wp2_with fail
  rw [rounds_succ]
  go_upto_region 3 with (fail)
  refine wp_seq_text [] (StR.no HS15) ?_
  refine Seq.pure rfl rfl (by intro w; go_simp; try rfl) ?_
  simp only [Act.put, nA, nB, nC]
  refine Seq.done fun ws16 hws => ?_
  have HS16 := hws.st
  clear HS15 hws
  go_upto_region 7 with (fail)
  have HPbk2 : St w [(bk2, 34, #[.bool false, .string ⟨#[]⟩, .string ⟨#[]⟩, .bool false, .string ⟨#[]⟩, .string ⟨#[]⟩]), (bk3, 34, VC (minQ (minQ (minQ x y) z) u) (maxQ (maxQ (maxQ x y) z) u)), (bk5_2, 32, RC u), (bk5_1, 32, RC z), (bk5, 32, RC y)] _ := St.perm HS16 (List.perm_middle (l₁ := ([(bk3, 34, VC (minQ (minQ (minQ x y) z) u) (maxQ (maxQ (maxQ x y) z) u)), (bk5_2, 32, RC u), (bk5_1, 32, RC z), (bk5, 32, RC y)] : List Own)))
  refine wp_seq_text [] (StR.move (StR.no HPbk2)) ?_
  refine Seq.load rfl rfl rfl rfl (by repeat (first | exact mC | apply mT)) (n := 6) rfl (by kernel_rfl) ?_
  simp only [Act.put, nA, nB, nC]
  refine Seq.store rfl rfl rfl rfl rfl (by repeat (first | exact rS | refine rN (by assumption) ?_)) (n := 6) rfl rfl (by kernel_rfl) (VC_one _ _) ?_
  simp only [Act.put, nA, nB, nC]
  refine Seq.done fun ws17 hws => ?_
  have HS17 : St w [(bk2, 34, VC (minQ (minQ (minQ x y) z) u) (maxQ (maxQ (maxQ x y) z) u)), (bk3, 34, VC (minQ (minQ (minQ x y) z) u) (maxQ (maxQ (maxQ x y) z) u)), (bk5_2, 32, RC u), (bk5_1, 32, RC z), (bk5, 32, RC y)] ws17 := hws.list1 (by repeat (first | exact rS | refine rN (by assumption) ?_))
  clear HS16 hws HPbk2
  go_wp2_with fail
  exact ret_own rfl rfl rfl HS17 (by repeat (first | exact mC | apply mT)) (n := 6) rfl (by kernel_rfl) ⟨rfl, HS17.below⟩
set_option maxHeartbeats 2000000 in
set_option maxRecDepth 20000 in
theorem sgood_q {k : Nat} {al ah : Rat} {W : World} {l : List Own} (hT : Tab W) (Zal : Rz k al) (Zah : Rz k ah) (hlea : al ≤ ah)  (hk : k ≤ 1000000000000) (w : World) (h : St W l w) :
    Calls Tryd.prog 131 #[.agg (VC al ah)] w fun e w' => e = .returned (.bool true) ∧ Below w.heap.size w w' := by
  have HT := Lib.hid (tabS hT h); clear hT h
  have Z_al := Lib.hid Zal; clear Zal
  have Z_ah := Lib.hid Zah; clear Zah
  obtain ⟨vc, hvc, vcr⟩ : ∃ v, cmpQ al ah = v ∧ v ≤ 0 := ⟨_, rfl, cmp_le hlea⟩
  have HVC := Lib.hid hvc; clear hvc
  have HLE := Lib.hid hlea; clear hlea
  go_enter Tryd.func131, Tryd.ntmps131
  have HS : St w [] w := St.start
  go_upto_region 0 with (fail)
  refine wp_seq_text [] (StR.no HS) ?_
  refine Seq.box rfl rfl rfl (v := .agg (VC al ah)) (cs := VC al ah) rfl rfl ?_
  intro bk1 _ _ hbk1_r
  simp only [Act.put, nA, nB, nC]
  refine Seq.pure rfl rfl (by intro w; go_simp; try rfl) ?_
  simp only [Act.put, nA, nB, nC]
  refine Seq.done fun ws1 hws => ?_
  have HS1 : St w [(bk1, 34, VC al ah)] ws1 := hws.list1 (by repeat (first | exact rS | refine rN (by assumption) ?_))
  clear HS hws
  go_upto_region 1 with (fail)
  refine wp_seq_text [] (StR.no HS1) ?_
  refine Seq.pure rfl rfl (by intro w; go_simp; try rfl) ?_
  simp only [Act.put, nA, nB, nC]
  refine Seq.loadAt rfl rfl rfl rfl (by repeat (first | exact mC | apply mT)) (n := 3) (cs' := RC al) (Nat.le_of_ble_eq_true rfl) (by kernel_rfl) rfl ?_
  simp only [Act.put, nA, nB, nC]
  refine Seq.call rfl rfl rfl rfl (by kernel_rfl) (good_q (k := (1 * k + 0)) HT.out (Z_al.out.more (by omega)) (by omega)) ?_
  simp only [Act.put, nA, nB, nC]
  iterate 2 (refine Seq.pure rfl rfl (by intro w; go_simp; try rfl) ?_; simp only [Act.put, nA, nB, nC])
  refine Seq.loadAt rfl rfl rfl rfl (by repeat (first | exact mC | apply mT)) (n := 3) (cs' := RC ah) (Nat.le_of_ble_eq_true rfl) (by kernel_rfl) rfl ?_
  simp only [Act.put, nA, nB, nC]
  refine Seq.call rfl rfl rfl rfl (by kernel_rfl) (good_q (k := (1 * k + 0)) HT.out (Z_ah.out.more (by omega)) (by omega)) ?_
  simp only [Act.put, nA, nB, nC]
  iterate 3 (refine Seq.pure rfl rfl (by intro w; go_simp; try rfl) ?_; simp only [Act.put, nA, nB, nC])
  refine Seq.loadAt rfl rfl rfl rfl (by repeat (first | exact mC | apply mT)) (n := 3) (cs' := RC al) (Nat.le_of_ble_eq_true rfl) (by kernel_rfl) rfl ?_
  simp only [Act.put, nA, nB, nC]
  refine Seq.pure rfl rfl (by intro w; go_simp; try rfl) ?_
  simp only [Act.put, nA, nB, nC]
  refine Seq.loadAt rfl rfl rfl rfl (by repeat (first | exact mC | apply mT)) (n := 3) (cs' := RC ah) (Nat.le_of_ble_eq_true rfl) (by kernel_rfl) rfl ?_
  simp only [Act.put, nA, nB, nC]
  refine Seq.call rfl rfl rfl rfl (by kernel_rfl) (cmp_q (k := (1 * k + 0)) HT.out (Z_al.out.more (by omega)) (Z_ah.out.more (by omega)) HVC.out (by omega)) ?_
  simp only [Act.put, nA, nB, nC]
  iterate 3 (refine Seq.pure rfl rfl (by intro w; go_simp; try rfl) ?_; simp only [Act.put, nA, nB, nC])
  refine Seq.done fun ws2 hws => ?_
  have HS2 := hws.st
  clear HS1 hws
  go_wp2_with fail
  go_ret
  exact ⟨rfl, HS2.below⟩
set_option maxHeartbeats 2000000 in
set_option maxRecDepth 20000 in
theorem sfit_q {k : Nat} {al ah : Rat} {z0 : Rat} {z1 : Rat} {W : World} {l : List Own} (hT : Tab W) (Zal : Rz k al) (Zah : Rz k ah) (hlea : al ≤ ah) (hz0 : al = z0) (hz1 : ah = z1) (hk : k ≤ 1000000000000) (w : World) (h : St W l w) :
    Calls Tryd.prog 132 #[.agg (VC al ah)] w fun e w' => e = .returned (.agg (VC z0 z1)) ∧ Below w.heap.size w w' := by
  subst hz0
  subst hz1
  have HT := Lib.hid (tabS hT h); clear hT h
  have Z_al := Lib.hid Zal; clear Zal
  have Z_ah := Lib.hid Zah; clear Zah
  go_enter Tryd.func132, Tryd.ntmps132
  have HS : St w [] w := St.start
  go_upto_region 0 with (fail)
  refine wp_seq_text [] (StR.no HS) ?_
  refine Seq.box rfl rfl rfl (v := .agg (VC al ah)) (cs := VC al ah) rfl rfl ?_
  intro bk1 _ _ hbk1_r
  simp only [Act.put, nA, nB, nC]
  refine Seq.alloc rfl rfl rfl (z := .agg #[.bool false, .string ⟨#[]⟩, .string ⟨#[]⟩, .bool false, .string ⟨#[]⟩, .string ⟨#[]⟩]) (by kernel_rfl) rfl ?_
  intro bk2 _ _ hbk2_r
  obtain ⟨ne_bk2_bk1, hbk2_r⟩ := Reg.ne_of_put hbk2_r
  have ne_bk1_bk2 := Ne.symm ne_bk2_bk1
  simp only [Act.put, nA, nB, nC]
  refine Seq.done fun ws1 hws => ?_
  have HS1 : St w [(bk1, 34, VC al ah), (bk2, 34, #[.bool false, .string ⟨#[]⟩, .string ⟨#[]⟩, .bool false, .string ⟨#[]⟩, .string ⟨#[]⟩])] ws1 := hws.list2 (by repeat (first | exact rS | refine rN (by assumption) ?_)) (by repeat (first | exact rS | refine rN (by assumption) ?_)) (by assumption)
  clear HS hws
  go_upto_region 1 with (fail)
  refine wp_seq_text [] (StR.no HS1) ?_
  refine Seq.load rfl rfl rfl rfl (by repeat (first | exact mC | apply mT)) (n := 6) rfl (by kernel_rfl) ?_
  simp only [Act.put, nA, nB, nC]
  refine Seq.call rfl rfl rfl rfl (by kernel_rfl) (sgood_q (k := (1 * k + 0)) HT.out (Z_al.out.more (by omega)) (Z_ah.out.more (by omega)) hlea  (by omega)) ?_
  simp only [Act.put, nA, nB, nC]
  refine Seq.pure rfl rfl (by intro w; go_simp; try rfl) ?_
  simp only [Act.put, nA, nB, nC]
  refine Seq.done fun ws2 hws => ?_
  have HS2 := hws.st
  clear HS1 hws
  go_upto_region 3 with (fail)
  have HPbk2 : St w [(bk2, 34, #[.bool false, .string ⟨#[]⟩, .string ⟨#[]⟩, .bool false, .string ⟨#[]⟩, .string ⟨#[]⟩]), (bk1, 34, VC al ah)] _ := St.perm HS2 (List.perm_middle (l₁ := ([(bk1, 34, VC al ah)] : List Own)))
  refine wp_seq_text [] (StR.move (StR.no HPbk2)) ?_
  refine Seq.load rfl rfl rfl rfl (by repeat (first | exact mC | apply mT)) (n := 6) rfl (by kernel_rfl) ?_
  simp only [Act.put, nA, nB, nC]
  refine Seq.store rfl rfl rfl rfl rfl (by repeat (first | exact rS | refine rN (by assumption) ?_)) (n := 6) rfl rfl (by kernel_rfl) (VC_one _ _) ?_
  simp only [Act.put, nA, nB, nC]
  refine Seq.done fun ws3 hws => ?_
  have HS3 : St w [(bk2, 34, VC al ah), (bk1, 34, VC al ah)] ws3 := hws.list1 (by repeat (first | exact rS | refine rN (by assumption) ?_))
  clear HS2 hws HPbk2
  go_wp2_with fail
  exact ret_own rfl rfl rfl HS3 (by repeat (first | exact mC | apply mT)) (n := 6) rfl (by kernel_rfl) ⟨rfl, HS3.below⟩
set_option maxHeartbeats 2000000 in
set_option maxRecDepth 20000 in
theorem sadd_q {k : Nat} {al ah bl bh : Rat} {z0 : Rat} {z1 : Rat} {W : World} {l : List Own} (hT : Tab W) (Zal : Rz k al) (Zah : Rz k ah) (Zbl : Rz k bl) (Zbh : Rz k bh) (hlea : al ≤ ah) (hleb : bl ≤ bh) (hz0 : al + bl = z0) (hz1 : ah + bh = z1) (hk : k ≤ 1000000000000) (w : World) (h : St W l w) :
    Calls Tryd.prog 93 #[.agg (VC al ah), .agg (VC bl bh)] w fun e w' => e = .returned (.agg (VC z0 z1)) ∧ Below w.heap.size w w' := by
  subst hz0
  subst hz1
  have HT := Lib.hid (tabS hT h); clear hT h
  have Z_al := Lib.hid Zal; clear Zal
  have Z_ah := Lib.hid Zah; clear Zah
  have Z_bl := Lib.hid Zbl; clear Zbl
  have Z_bh := Lib.hid Zbh; clear Zbh
  go_enter Tryd.func93, Tryd.ntmps93
  have HS : St w [] w := St.start
  go_upto_region 0 with (fail)
  refine wp_seq_text [] (StR.no HS) ?_
  refine Seq.box rfl rfl rfl (v := .agg (VC al ah)) (cs := VC al ah) rfl rfl ?_
  intro bk2 _ _ hbk2_r
  simp only [Act.put, nA, nB, nC]
  refine Seq.box rfl rfl rfl (v := .agg (VC bl bh)) (cs := VC bl bh) rfl rfl ?_
  intro bk3 _ _ hbk3_r
  obtain ⟨ne_bk3_bk2, hbk3_r⟩ := Reg.ne_of_put hbk3_r
  have ne_bk2_bk3 := Ne.symm ne_bk3_bk2
  simp only [Act.put, nA, nB, nC]
  refine Seq.alloc rfl rfl rfl (z := .agg #[.bool false, .string ⟨#[]⟩, .string ⟨#[]⟩, .bool false, .string ⟨#[]⟩, .string ⟨#[]⟩]) (by kernel_rfl) rfl ?_
  intro bk4 _ _ hbk4_r
  obtain ⟨ne_bk4_bk3, hbk4_r⟩ := Reg.ne_of_put hbk4_r
  have ne_bk3_bk4 := Ne.symm ne_bk4_bk3
  obtain ⟨ne_bk4_bk2, hbk4_r⟩ := Reg.ne_of_put hbk4_r
  have ne_bk2_bk4 := Ne.symm ne_bk4_bk2
  simp only [Act.put, nA, nB, nC]
  refine Seq.done fun ws1 hws => ?_
  have HS1 : St w [(bk2, 34, VC al ah), (bk3, 34, VC bl bh), (bk4, 34, #[.bool false, .string ⟨#[]⟩, .string ⟨#[]⟩, .bool false, .string ⟨#[]⟩, .string ⟨#[]⟩])] ws1 := hws.list3 (by repeat (first | exact rS | refine rN (by assumption) ?_)) (by repeat (first | exact rS | refine rN (by assumption) ?_)) (by repeat (first | exact rS | refine rN (by assumption) ?_)) (by assumption) (by assumption) (by assumption)
  clear HS hws
  go_upto_region 1 with (fail)
  have HPbk3 : St w [(bk3, 34, VC bl bh), (bk2, 34, VC al ah), (bk4, 34, #[.bool false, .string ⟨#[]⟩, .string ⟨#[]⟩, .bool false, .string ⟨#[]⟩, .string ⟨#[]⟩])] _ := St.perm HS1 (List.perm_middle (l₁ := ([(bk2, 34, VC al ah)] : List Own)))
  have HPbk2 : St w [(bk2, 34, VC al ah), (bk3, 34, VC bl bh), (bk4, 34, #[.bool false, .string ⟨#[]⟩, .string ⟨#[]⟩, .bool false, .string ⟨#[]⟩, .string ⟨#[]⟩])] _ := St.perm HPbk3 (List.perm_middle (l₁ := ([(bk3, 34, VC bl bh)] : List Own)))
  refine wp_seq [0, 4] (by kernel_rfl) (by kernel_rfl) (Reg.fin.put (Reg.fin.put Reg.fin_no _ _) _ _) (StR.move (StR.move (StR.no HPbk2))) ?_
  refine Seq.get rfl rfl rfl rfl (by repeat (first | exact rS | refine rN (by assumption) ?_)) (n := 6) rfl (by kernel_rfl) ?_
  simp only [Act.put, nA, nB, nC]
  refine Seq.call rfl rfl rfl rfl (by kernel_rfl) (sfit_q (k := (1 * k + 0)) HT.out (Z_al.out.more (by omega)) (Z_ah.out.more (by omega)) hlea rfl rfl (by omega)) ?_
  simp only [Act.put, nA, nB, nC]
  refine Seq.get rfl rfl rfl rfl (by repeat (first | exact rS | refine rN (by assumption) ?_)) (n := 6) rfl (by kernel_rfl) ?_
  simp only [Act.put, nA, nB, nC]
  refine Seq.call rfl rfl rfl rfl (by kernel_rfl) (sfit_q (k := (1 * k + 0)) HT.out (Z_bl.out.more (by omega)) (Z_bh.out.more (by omega)) hleb rfl rfl (by omega)) ?_
  simp only [Act.put, nA, nB, nC]
  refine Seq.store rfl rfl rfl rfl rfl (by repeat (first | exact rS | refine rN (by assumption) ?_)) (n := 6) rfl rfl (by kernel_rfl) (VC_one _ _) ?_
  simp only [Act.put, nA, nB, nC]
  refine Seq.store rfl rfl rfl rfl rfl (by repeat (first | exact rS | refine rN (by assumption) ?_)) (n := 6) rfl rfl (by kernel_rfl) (VC_one _ _) ?_
  simp only [Act.put, nA, nB, nC]
  refine Seq.done fun ws2 hws => ?_
  have HS2 : St w [(bk2, 34, VC al ah), (bk3, 34, VC bl bh), (bk4, 34, #[.bool false, .string ⟨#[]⟩, .string ⟨#[]⟩, .bool false, .string ⟨#[]⟩, .string ⟨#[]⟩])] ws2 := hws.list2 (by repeat (first | exact rS | refine rN (by assumption) ?_)) (by repeat (first | exact rS | refine rN (by assumption) ?_)) (by assumption)
  clear HS1 hws HPbk3 HPbk2
  go_upto_region 2 with (fail)
  have HPbk4 : St w [(bk4, 34, #[.bool false, .string ⟨#[]⟩, .string ⟨#[]⟩, .bool false, .string ⟨#[]⟩, .string ⟨#[]⟩]), (bk2, 34, VC al ah), (bk3, 34, VC bl bh)] _ := St.perm HS2 (List.perm_middle (l₁ := ([(bk2, 34, VC al ah), (bk3, 34, VC bl bh)] : List Own)))
  refine wp_seq [] (by kernel_rfl) (by kernel_rfl) (Reg.fin.put Reg.fin_no _ _) (StR.move (StR.no HPbk4)) ?_
  refine Seq.pure rfl rfl (by intro w; go_simp; try rfl) ?_
  simp only [Act.put, nA, nB, nC]
  refine Seq.loadAt rfl rfl rfl rfl (by repeat (first | exact mC | apply mT)) (n := 3) (cs' := RC al) (Nat.le_of_ble_eq_true rfl) (by kernel_rfl) rfl ?_
  simp only [Act.put, nA, nB, nC]
  refine Seq.pure rfl rfl (by intro w; go_simp; try rfl) ?_
  simp only [Act.put, nA, nB, nC]
  refine Seq.loadAt rfl rfl rfl rfl (by repeat (first | exact mC | apply mT)) (n := 3) (cs' := RC bl) (Nat.le_of_ble_eq_true rfl) (by kernel_rfl) rfl ?_
  simp only [Act.put, nA, nB, nC]
  refine Seq.call rfl rfl rfl rfl (by kernel_rfl) (add_q (k := (1 * k + 0)) HT.out (Z_al.out.more (by omega)) (Z_bl.out.more (by omega)) rfl (by omega)) ?_
  simp only [Act.put, nA, nB, nC]
  refine Seq.pure rfl rfl (by intro w; go_simp; try rfl) ?_
  simp only [Act.put, nA, nB, nC]
  refine Seq.loadAt rfl rfl rfl rfl (by repeat (first | exact mC | apply mT)) (n := 3) (cs' := RC ah) (Nat.le_of_ble_eq_true rfl) (by kernel_rfl) rfl ?_
  simp only [Act.put, nA, nB, nC]
  refine Seq.pure rfl rfl (by intro w; go_simp; try rfl) ?_
  simp only [Act.put, nA, nB, nC]
  refine Seq.loadAt rfl rfl rfl rfl (by repeat (first | exact mC | apply mT)) (n := 3) (cs' := RC bh) (Nat.le_of_ble_eq_true rfl) (by kernel_rfl) rfl ?_
  simp only [Act.put, nA, nB, nC]
  refine Seq.call rfl rfl rfl rfl (by kernel_rfl) (add_q (k := (1 * k + 0)) HT.out (Z_ah.out.more (by omega)) (Z_bh.out.more (by omega)) rfl (by omega)) ?_
  simp only [Act.put, nA, nB, nC]
  refine Seq.pure (v := .agg (VC (al + bl) (ah + bh))) rfl rfl (fun w => bld_Span rfl rfl rfl w) ?_
  simp only [Act.put, nA, nB, nC]
  refine Seq.store rfl rfl rfl rfl rfl (by repeat (first | exact rS | refine rN (by assumption) ?_)) (n := 6) rfl rfl (by kernel_rfl) (VC_one _ _) ?_
  simp only [Act.put, nA, nB, nC]
  refine Seq.done fun ws3 hws => ?_
  have HS3 : St w [(bk4, 34, VC (al + bl) (ah + bh)), (bk2, 34, VC al ah), (bk3, 34, VC bl bh)] ws3 := hws.list1 (by repeat (first | exact rS | refine rN (by assumption) ?_))
  clear HS2 hws HPbk4
  go_wp2_with fail
  exact ret_own rfl rfl rfl HS3 (by repeat (first | exact mC | apply mT)) (n := 6) rfl (by kernel_rfl) ⟨rfl, HS3.below⟩
set_option maxHeartbeats 2000000 in
set_option maxRecDepth 20000 in
theorem ssub_q {k : Nat} {al ah bl bh : Rat} {z0 : Rat} {z1 : Rat} {W : World} {l : List Own} (hT : Tab W) (Zal : Rz k al) (Zah : Rz k ah) (Zbl : Rz k bl) (Zbh : Rz k bh) (hlea : al ≤ ah) (hleb : bl ≤ bh) (hz0 : al - bh = z0) (hz1 : ah - bl = z1) (hk : k ≤ 1000000000000) (w : World) (h : St W l w) :
    Calls Tryd.prog 94 #[.agg (VC al ah), .agg (VC bl bh)] w fun e w' => e = .returned (.agg (VC z0 z1)) ∧ Below w.heap.size w w' := by
  subst hz0
  subst hz1
  have HT := Lib.hid (tabS hT h); clear hT h
  have Z_al := Lib.hid Zal; clear Zal
  have Z_ah := Lib.hid Zah; clear Zah
  have Z_bl := Lib.hid Zbl; clear Zbl
  have Z_bh := Lib.hid Zbh; clear Zbh
  go_enter Tryd.func94, Tryd.ntmps94
  have HS : St w [] w := St.start
  go_upto_region 0 with (fail)
  refine wp_seq_text [] (StR.no HS) ?_
  refine Seq.box rfl rfl rfl (v := .agg (VC al ah)) (cs := VC al ah) rfl rfl ?_
  intro bk2 _ _ hbk2_r
  simp only [Act.put, nA, nB, nC]
  refine Seq.box rfl rfl rfl (v := .agg (VC bl bh)) (cs := VC bl bh) rfl rfl ?_
  intro bk3 _ _ hbk3_r
  obtain ⟨ne_bk3_bk2, hbk3_r⟩ := Reg.ne_of_put hbk3_r
  have ne_bk2_bk3 := Ne.symm ne_bk3_bk2
  simp only [Act.put, nA, nB, nC]
  refine Seq.alloc rfl rfl rfl (z := .agg #[.bool false, .string ⟨#[]⟩, .string ⟨#[]⟩, .bool false, .string ⟨#[]⟩, .string ⟨#[]⟩]) (by kernel_rfl) rfl ?_
  intro bk4 _ _ hbk4_r
  obtain ⟨ne_bk4_bk3, hbk4_r⟩ := Reg.ne_of_put hbk4_r
  have ne_bk3_bk4 := Ne.symm ne_bk4_bk3
  obtain ⟨ne_bk4_bk2, hbk4_r⟩ := Reg.ne_of_put hbk4_r
  have ne_bk2_bk4 := Ne.symm ne_bk4_bk2
  simp only [Act.put, nA, nB, nC]
  refine Seq.done fun ws1 hws => ?_
  have HS1 : St w [(bk2, 34, VC al ah), (bk3, 34, VC bl bh), (bk4, 34, #[.bool false, .string ⟨#[]⟩, .string ⟨#[]⟩, .bool false, .string ⟨#[]⟩, .string ⟨#[]⟩])] ws1 := hws.list3 (by repeat (first | exact rS | refine rN (by assumption) ?_)) (by repeat (first | exact rS | refine rN (by assumption) ?_)) (by repeat (first | exact rS | refine rN (by assumption) ?_)) (by assumption) (by assumption) (by assumption)
  clear HS hws
  go_upto_region 1 with (fail)
  have HPbk3 : St w [(bk3, 34, VC bl bh), (bk2, 34, VC al ah), (bk4, 34, #[.bool false, .string ⟨#[]⟩, .string ⟨#[]⟩, .bool false, .string ⟨#[]⟩, .string ⟨#[]⟩])] _ := St.perm HS1 (List.perm_middle (l₁ := ([(bk2, 34, VC al ah)] : List Own)))
  have HPbk2 : St w [(bk2, 34, VC al ah), (bk3, 34, VC bl bh), (bk4, 34, #[.bool false, .string ⟨#[]⟩, .string ⟨#[]⟩, .bool false, .string ⟨#[]⟩, .string ⟨#[]⟩])] _ := St.perm HPbk3 (List.perm_middle (l₁ := ([(bk3, 34, VC bl bh)] : List Own)))
  refine wp_seq [0, 4] (by kernel_rfl) (by kernel_rfl) (Reg.fin.put (Reg.fin.put Reg.fin_no _ _) _ _) (StR.move (StR.move (StR.no HPbk2))) ?_
  refine Seq.get rfl rfl rfl rfl (by repeat (first | exact rS | refine rN (by assumption) ?_)) (n := 6) rfl (by kernel_rfl) ?_
  simp only [Act.put, nA, nB, nC]
  refine Seq.call rfl rfl rfl rfl (by kernel_rfl) (sfit_q (k := (1 * k + 0)) HT.out (Z_al.out.more (by omega)) (Z_ah.out.more (by omega)) hlea rfl rfl (by omega)) ?_
  simp only [Act.put, nA, nB, nC]
  refine Seq.get rfl rfl rfl rfl (by repeat (first | exact rS | refine rN (by assumption) ?_)) (n := 6) rfl (by kernel_rfl) ?_
  simp only [Act.put, nA, nB, nC]
  refine Seq.call rfl rfl rfl rfl (by kernel_rfl) (sfit_q (k := (1 * k + 0)) HT.out (Z_bl.out.more (by omega)) (Z_bh.out.more (by omega)) hleb rfl rfl (by omega)) ?_
  simp only [Act.put, nA, nB, nC]
  refine Seq.store rfl rfl rfl rfl rfl (by repeat (first | exact rS | refine rN (by assumption) ?_)) (n := 6) rfl rfl (by kernel_rfl) (VC_one _ _) ?_
  simp only [Act.put, nA, nB, nC]
  refine Seq.store rfl rfl rfl rfl rfl (by repeat (first | exact rS | refine rN (by assumption) ?_)) (n := 6) rfl rfl (by kernel_rfl) (VC_one _ _) ?_
  simp only [Act.put, nA, nB, nC]
  refine Seq.done fun ws2 hws => ?_
  have HS2 : St w [(bk2, 34, VC al ah), (bk3, 34, VC bl bh), (bk4, 34, #[.bool false, .string ⟨#[]⟩, .string ⟨#[]⟩, .bool false, .string ⟨#[]⟩, .string ⟨#[]⟩])] ws2 := hws.list2 (by repeat (first | exact rS | refine rN (by assumption) ?_)) (by repeat (first | exact rS | refine rN (by assumption) ?_)) (by assumption)
  clear HS1 hws HPbk3 HPbk2
  go_upto_region 2 with (fail)
  have HPbk4 : St w [(bk4, 34, #[.bool false, .string ⟨#[]⟩, .string ⟨#[]⟩, .bool false, .string ⟨#[]⟩, .string ⟨#[]⟩]), (bk2, 34, VC al ah), (bk3, 34, VC bl bh)] _ := St.perm HS2 (List.perm_middle (l₁ := ([(bk2, 34, VC al ah), (bk3, 34, VC bl bh)] : List Own)))
  refine wp_seq [] (by kernel_rfl) (by kernel_rfl) (Reg.fin.put Reg.fin_no _ _) (StR.move (StR.no HPbk4)) ?_
  refine Seq.pure rfl rfl (by intro w; go_simp; try rfl) ?_
  simp only [Act.put, nA, nB, nC]
  refine Seq.loadAt rfl rfl rfl rfl (by repeat (first | exact mC | apply mT)) (n := 3) (cs' := RC al) (Nat.le_of_ble_eq_true rfl) (by kernel_rfl) rfl ?_
  simp only [Act.put, nA, nB, nC]
  refine Seq.pure rfl rfl (by intro w; go_simp; try rfl) ?_
  simp only [Act.put, nA, nB, nC]
  refine Seq.loadAt rfl rfl rfl rfl (by repeat (first | exact mC | apply mT)) (n := 3) (cs' := RC bh) (Nat.le_of_ble_eq_true rfl) (by kernel_rfl) rfl ?_
  simp only [Act.put, nA, nB, nC]
  refine Seq.call rfl rfl rfl rfl (by kernel_rfl) (sub_q (k := (1 * k + 0)) HT.out (Z_al.out.more (by omega)) (Z_bh.out.more (by omega)) rfl (by omega)) ?_
  simp only [Act.put, nA, nB, nC]
  refine Seq.pure rfl rfl (by intro w; go_simp; try rfl) ?_
  simp only [Act.put, nA, nB, nC]
  refine Seq.loadAt rfl rfl rfl rfl (by repeat (first | exact mC | apply mT)) (n := 3) (cs' := RC ah) (Nat.le_of_ble_eq_true rfl) (by kernel_rfl) rfl ?_
  simp only [Act.put, nA, nB, nC]
  refine Seq.pure rfl rfl (by intro w; go_simp; try rfl) ?_
  simp only [Act.put, nA, nB, nC]
  refine Seq.loadAt rfl rfl rfl rfl (by repeat (first | exact mC | apply mT)) (n := 3) (cs' := RC bl) (Nat.le_of_ble_eq_true rfl) (by kernel_rfl) rfl ?_
  simp only [Act.put, nA, nB, nC]
  refine Seq.call rfl rfl rfl rfl (by kernel_rfl) (sub_q (k := (1 * k + 0)) HT.out (Z_ah.out.more (by omega)) (Z_bl.out.more (by omega)) rfl (by omega)) ?_
  simp only [Act.put, nA, nB, nC]
  refine Seq.pure (v := .agg (VC (al - bh) (ah - bl))) rfl rfl (fun w => bld_Span rfl rfl rfl w) ?_
  simp only [Act.put, nA, nB, nC]
  refine Seq.store rfl rfl rfl rfl rfl (by repeat (first | exact rS | refine rN (by assumption) ?_)) (n := 6) rfl rfl (by kernel_rfl) (VC_one _ _) ?_
  simp only [Act.put, nA, nB, nC]
  refine Seq.done fun ws3 hws => ?_
  have HS3 : St w [(bk4, 34, VC (al - bh) (ah - bl)), (bk2, 34, VC al ah), (bk3, 34, VC bl bh)] ws3 := hws.list1 (by repeat (first | exact rS | refine rN (by assumption) ?_))
  clear HS2 hws HPbk4
  go_wp2_with fail
  exact ret_own rfl rfl rfl HS3 (by repeat (first | exact mC | apply mT)) (n := 6) rfl (by kernel_rfl) ⟨rfl, HS3.below⟩
set_option maxHeartbeats 2000000 in
set_option maxRecDepth 20000 in
theorem sjoin_q {k : Nat} {al ah bl bh : Rat} {z0 : Rat} {z1 : Rat} {W : World} {l : List Own} (hT : Tab W) (Zal : Rz k al) (Zah : Rz k ah) (Zbl : Rz k bl) (Zbh : Rz k bh) (hlea : al ≤ ah) (hleb : bl ≤ bh) (hz0 : minQ al bl = z0) (hz1 : maxQ ah bh = z1) (hk : k ≤ 1000000000000) (w : World) (h : St W l w) :
    Calls Tryd.prog 146 #[.agg (VC al ah), .agg (VC bl bh)] w fun e w' => e = .returned (.agg (VC z0 z1)) ∧ Below w.heap.size w w' := by
  subst hz0
  subst hz1
  have HT := Lib.hid (tabS hT h); clear hT h
  have Z_al := Lib.hid Zal; clear Zal
  have Z_ah := Lib.hid Zah; clear Zah
  have Z_bl := Lib.hid Zbl; clear Zbl
  have Z_bh := Lib.hid Zbh; clear Zbh
  go_enter Tryd.func146, Tryd.ntmps146
  have HS : St w [] w := St.start
  go_upto_region 0 with (fail)
  refine wp_seq_text [] (StR.no HS) ?_
  refine Seq.box rfl rfl rfl (v := .agg (VC al ah)) (cs := VC al ah) rfl rfl ?_
  intro bk2 _ _ hbk2_r
  simp only [Act.put, nA, nB, nC]
  refine Seq.box rfl rfl rfl (v := .agg (VC bl bh)) (cs := VC bl bh) rfl rfl ?_
  intro bk3 _ _ hbk3_r
  obtain ⟨ne_bk3_bk2, hbk3_r⟩ := Reg.ne_of_put hbk3_r
  have ne_bk2_bk3 := Ne.symm ne_bk3_bk2
  simp only [Act.put, nA, nB, nC]
  refine Seq.alloc rfl rfl rfl (z := .agg #[.bool false, .string ⟨#[]⟩, .string ⟨#[]⟩, .bool false, .string ⟨#[]⟩, .string ⟨#[]⟩]) (by kernel_rfl) rfl ?_
  intro bk4 _ _ hbk4_r
  obtain ⟨ne_bk4_bk3, hbk4_r⟩ := Reg.ne_of_put hbk4_r
  have ne_bk3_bk4 := Ne.symm ne_bk4_bk3
  obtain ⟨ne_bk4_bk2, hbk4_r⟩ := Reg.ne_of_put hbk4_r
  have ne_bk2_bk4 := Ne.symm ne_bk4_bk2
  simp only [Act.put, nA, nB, nC]
  refine Seq.done fun ws1 hws => ?_
  have HS1 : St w [(bk2, 34, VC al ah), (bk3, 34, VC bl bh), (bk4, 34, #[.bool false, .string ⟨#[]⟩, .string ⟨#[]⟩, .bool false, .string ⟨#[]⟩, .string ⟨#[]⟩])] ws1 := hws.list3 (by repeat (first | exact rS | refine rN (by assumption) ?_)) (by repeat (first | exact rS | refine rN (by assumption) ?_)) (by repeat (first | exact rS | refine rN (by assumption) ?_)) (by assumption) (by assumption) (by assumption)
  clear HS hws
  go_upto_region 1 with (fail)
  have HPbk3 : St w [(bk3, 34, VC bl bh), (bk2, 34, VC al ah), (bk4, 34, #[.bool false, .string ⟨#[]⟩, .string ⟨#[]⟩, .bool false, .string ⟨#[]⟩, .string ⟨#[]⟩])] _ := St.perm HS1 (List.perm_middle (l₁ := ([(bk2, 34, VC al ah)] : List Own)))
  have HPbk2 : St w [(bk2, 34, VC al ah), (bk3, 34, VC bl bh), (bk4, 34, #[.bool false, .string ⟨#[]⟩, .string ⟨#[]⟩, .bool false, .string ⟨#[]⟩, .string ⟨#[]⟩])] _ := St.perm HPbk3 (List.perm_middle (l₁ := ([(bk3, 34, VC bl bh)] : List Own)))
  refine wp_seq [0, 4] (by kernel_rfl) (by kernel_rfl) (Reg.fin.put (Reg.fin.put Reg.fin_no _ _) _ _) (StR.move (StR.move (StR.no HPbk2))) ?_
  refine Seq.get rfl rfl rfl rfl (by repeat (first | exact rS | refine rN (by assumption) ?_)) (n := 6) rfl (by kernel_rfl) ?_
  simp only [Act.put, nA, nB, nC]
  refine Seq.call rfl rfl rfl rfl (by kernel_rfl) (sfit_q (k := (1 * k + 0)) HT.out (Z_al.out.more (by omega)) (Z_ah.out.more (by omega)) hlea rfl rfl (by omega)) ?_
  simp only [Act.put, nA, nB, nC]
  refine Seq.get rfl rfl rfl rfl (by repeat (first | exact rS | refine rN (by assumption) ?_)) (n := 6) rfl (by kernel_rfl) ?_
  simp only [Act.put, nA, nB, nC]
  refine Seq.call rfl rfl rfl rfl (by kernel_rfl) (sfit_q (k := (1 * k + 0)) HT.out (Z_bl.out.more (by omega)) (Z_bh.out.more (by omega)) hleb rfl rfl (by omega)) ?_
  simp only [Act.put, nA, nB, nC]
  refine Seq.store rfl rfl rfl rfl rfl (by repeat (first | exact rS | refine rN (by assumption) ?_)) (n := 6) rfl rfl (by kernel_rfl) (VC_one _ _) ?_
  simp only [Act.put, nA, nB, nC]
  refine Seq.store rfl rfl rfl rfl rfl (by repeat (first | exact rS | refine rN (by assumption) ?_)) (n := 6) rfl rfl (by kernel_rfl) (VC_one _ _) ?_
  simp only [Act.put, nA, nB, nC]
  refine Seq.done fun ws2 hws => ?_
  have HS2 : St w [(bk2, 34, VC al ah), (bk3, 34, VC bl bh), (bk4, 34, #[.bool false, .string ⟨#[]⟩, .string ⟨#[]⟩, .bool false, .string ⟨#[]⟩, .string ⟨#[]⟩])] ws2 := hws.list2 (by repeat (first | exact rS | refine rN (by assumption) ?_)) (by repeat (first | exact rS | refine rN (by assumption) ?_)) (by assumption)
  clear HS1 hws HPbk3 HPbk2
  go_upto_region 2 with (fail)
  have HPbk4 : St w [(bk4, 34, #[.bool false, .string ⟨#[]⟩, .string ⟨#[]⟩, .bool false, .string ⟨#[]⟩, .string ⟨#[]⟩]), (bk2, 34, VC al ah), (bk3, 34, VC bl bh)] _ := St.perm HS2 (List.perm_middle (l₁ := ([(bk2, 34, VC al ah), (bk3, 34, VC bl bh)] : List Own)))
  refine wp_seq [] (by kernel_rfl) (by kernel_rfl) (Reg.fin.put Reg.fin_no _ _) (StR.move (StR.no HPbk4)) ?_
  refine Seq.pure rfl rfl (by intro w; go_simp; try rfl) ?_
  simp only [Act.put, nA, nB, nC]
  refine Seq.loadAt rfl rfl rfl rfl (by repeat (first | exact mC | apply mT)) (n := 3) (cs' := RC al) (Nat.le_of_ble_eq_true rfl) (by kernel_rfl) rfl ?_
  simp only [Act.put, nA, nB, nC]
  refine Seq.pure rfl rfl (by intro w; go_simp; try rfl) ?_
  simp only [Act.put, nA, nB, nC]
  refine Seq.loadAt rfl rfl rfl rfl (by repeat (first | exact mC | apply mT)) (n := 3) (cs' := RC bl) (Nat.le_of_ble_eq_true rfl) (by kernel_rfl) rfl ?_
  simp only [Act.put, nA, nB, nC]
  refine Seq.call rfl rfl rfl rfl (by kernel_rfl) (min_q (k := (1 * k + 0)) HT.out (Z_al.out.more (by omega)) (Z_bl.out.more (by omega)) rfl (by omega)) ?_
  simp only [Act.put, nA, nB, nC]
  refine Seq.pure rfl rfl (by intro w; go_simp; try rfl) ?_
  simp only [Act.put, nA, nB, nC]
  refine Seq.loadAt rfl rfl rfl rfl (by repeat (first | exact mC | apply mT)) (n := 3) (cs' := RC ah) (Nat.le_of_ble_eq_true rfl) (by kernel_rfl) rfl ?_
  simp only [Act.put, nA, nB, nC]
  refine Seq.pure rfl rfl (by intro w; go_simp; try rfl) ?_
  simp only [Act.put, nA, nB, nC]
  refine Seq.loadAt rfl rfl rfl rfl (by repeat (first | exact mC | apply mT)) (n := 3) (cs' := RC bh) (Nat.le_of_ble_eq_true rfl) (by kernel_rfl) rfl ?_
  simp only [Act.put, nA, nB, nC]
  refine Seq.call rfl rfl rfl rfl (by kernel_rfl) (max_q (k := (1 * k + 0)) HT.out (Z_ah.out.more (by omega)) (Z_bh.out.more (by omega)) rfl (by omega)) ?_
  simp only [Act.put, nA, nB, nC]
  refine Seq.pure (v := .agg (VC (minQ al bl) (maxQ ah bh))) rfl rfl (fun w => bld_Span rfl rfl rfl w) ?_
  simp only [Act.put, nA, nB, nC]
  refine Seq.store rfl rfl rfl rfl rfl (by repeat (first | exact rS | refine rN (by assumption) ?_)) (n := 6) rfl rfl (by kernel_rfl) (VC_one _ _) ?_
  simp only [Act.put, nA, nB, nC]
  refine Seq.done fun ws3 hws => ?_
  have HS3 : St w [(bk4, 34, VC (minQ al bl) (maxQ ah bh)), (bk2, 34, VC al ah), (bk3, 34, VC bl bh)] ws3 := hws.list1 (by repeat (first | exact rS | refine rN (by assumption) ?_))
  clear HS2 hws HPbk4
  go_wp2_with fail
  exact ret_own rfl rfl rfl HS3 (by repeat (first | exact mC | apply mT)) (n := 6) rfl (by kernel_rfl) ⟨rfl, HS3.below⟩
set_option maxHeartbeats 2000000 in
set_option maxRecDepth 20000 in
theorem smul_q {k : Nat} {al ah bl bh : Rat} {z0 : Rat} {z1 : Rat} {W : World} {l : List Own} (hT : Tab W) (Zal : Rz k al) (Zah : Rz k ah) (Zbl : Rz k bl) (Zbh : Rz k bh) (hlea : al ≤ ah) (hleb : bl ≤ bh) (hz0 : minQ (minQ (minQ (al * bl) (al * bh)) (ah * bl)) (ah * bh) = z0) (hz1 : maxQ (maxQ (maxQ (al * bl) (al * bh)) (ah * bl)) (ah * bh) = z1) (hk : k ≤ 500000000000) (w : World) (h : St W l w) :
    Calls Tryd.prog 95 #[.agg (VC al ah), .agg (VC bl bh)] w fun e w' => e = .returned (.agg (VC z0 z1)) ∧ Below w.heap.size w w' := by
  subst hz0
  subst hz1
  have HT := Lib.hid (tabS hT h); clear hT h
  have Z_al := Lib.hid Zal; clear Zal
  have Z_ah := Lib.hid Zah; clear Zah
  have Z_bl := Lib.hid Zbl; clear Zbl
  have Z_bh := Lib.hid Zbh; clear Zbh
  go_enter Tryd.func95, Tryd.ntmps95
  have HS : St w [] w := St.start
  go_upto_region 0 with (fail)
  refine wp_seq_text [] (StR.no HS) ?_
  refine Seq.box rfl rfl rfl (v := .agg (VC al ah)) (cs := VC al ah) rfl rfl ?_
  intro bk2 _ _ hbk2_r
  simp only [Act.put, nA, nB, nC]
  refine Seq.box rfl rfl rfl (v := .agg (VC bl bh)) (cs := VC bl bh) rfl rfl ?_
  intro bk3 _ _ hbk3_r
  obtain ⟨ne_bk3_bk2, hbk3_r⟩ := Reg.ne_of_put hbk3_r
  have ne_bk2_bk3 := Ne.symm ne_bk3_bk2
  simp only [Act.put, nA, nB, nC]
  refine Seq.alloc rfl rfl rfl (z := .agg #[.bool false, .string ⟨#[]⟩, .string ⟨#[]⟩, .bool false, .string ⟨#[]⟩, .string ⟨#[]⟩]) (by kernel_rfl) rfl ?_
  intro bk4 _ _ hbk4_r
  obtain ⟨ne_bk4_bk3, hbk4_r⟩ := Reg.ne_of_put hbk4_r
  have ne_bk3_bk4 := Ne.symm ne_bk4_bk3
  obtain ⟨ne_bk4_bk2, hbk4_r⟩ := Reg.ne_of_put hbk4_r
  have ne_bk2_bk4 := Ne.symm ne_bk4_bk2
  simp only [Act.put, nA, nB, nC]
  refine Seq.done fun ws1 hws => ?_
  have HS1 : St w [(bk2, 34, VC al ah), (bk3, 34, VC bl bh), (bk4, 34, #[.bool false, .string ⟨#[]⟩, .string ⟨#[]⟩, .bool false, .string ⟨#[]⟩, .string ⟨#[]⟩])] ws1 := hws.list3 (by repeat (first | exact rS | refine rN (by assumption) ?_)) (by repeat (first | exact rS | refine rN (by assumption) ?_)) (by repeat (first | exact rS | refine rN (by assumption) ?_)) (by assumption) (by assumption) (by assumption)
  clear HS hws
  go_upto_region 1 with (fail)
  have HPbk3 : St w [(bk3, 34, VC bl bh), (bk2, 34, VC al ah), (bk4, 34, #[.bool false, .string ⟨#[]⟩, .string ⟨#[]⟩, .bool false, .string ⟨#[]⟩, .string ⟨#[]⟩])] _ := St.perm HS1 (List.perm_middle (l₁ := ([(bk2, 34, VC al ah)] : List Own)))
  have HPbk2 : St w [(bk2, 34, VC al ah), (bk3, 34, VC bl bh), (bk4, 34, #[.bool false, .string ⟨#[]⟩, .string ⟨#[]⟩, .bool false, .string ⟨#[]⟩, .string ⟨#[]⟩])] _ := St.perm HPbk3 (List.perm_middle (l₁ := ([(bk3, 34, VC bl bh)] : List Own)))
  refine wp_seq [0, 4] (by kernel_rfl) (by kernel_rfl) (Reg.fin.put (Reg.fin.put Reg.fin_no _ _) _ _) (StR.move (StR.move (StR.no HPbk2))) ?_
  refine Seq.get rfl rfl rfl rfl (by repeat (first | exact rS | refine rN (by assumption) ?_)) (n := 6) rfl (by kernel_rfl) ?_
  simp only [Act.put, nA, nB, nC]
  refine Seq.call rfl rfl rfl rfl (by kernel_rfl) (sfit_q (k := (1 * k + 0)) HT.out (Z_al.out.more (by omega)) (Z_ah.out.more (by omega)) hlea rfl rfl (by omega)) ?_
  simp only [Act.put, nA, nB, nC]
  refine Seq.get rfl rfl rfl rfl (by repeat (first | exact rS | refine rN (by assumption) ?_)) (n := 6) rfl (by kernel_rfl) ?_
  simp only [Act.put, nA, nB, nC]
  refine Seq.call rfl rfl rfl rfl (by kernel_rfl) (sfit_q (k := (1 * k + 0)) HT.out (Z_bl.out.more (by omega)) (Z_bh.out.more (by omega)) hleb rfl rfl (by omega)) ?_
  simp only [Act.put, nA, nB, nC]
  refine Seq.store rfl rfl rfl rfl rfl (by repeat (first | exact rS | refine rN (by assumption) ?_)) (n := 6) rfl rfl (by kernel_rfl) (VC_one _ _) ?_
  simp only [Act.put, nA, nB, nC]
  refine Seq.store rfl rfl rfl rfl rfl (by repeat (first | exact rS | refine rN (by assumption) ?_)) (n := 6) rfl rfl (by kernel_rfl) (VC_one _ _) ?_
  simp only [Act.put, nA, nB, nC]
  refine Seq.done fun ws2 hws => ?_
  have HS2 : St w [(bk2, 34, VC al ah), (bk3, 34, VC bl bh), (bk4, 34, #[.bool false, .string ⟨#[]⟩, .string ⟨#[]⟩, .bool false, .string ⟨#[]⟩, .string ⟨#[]⟩])] ws2 := hws.list2 (by repeat (first | exact rS | refine rN (by assumption) ?_)) (by repeat (first | exact rS | refine rN (by assumption) ?_)) (by assumption)
  clear HS1 hws HPbk3 HPbk2
  go_upto_region 2 with (fail)
  have HPbk4 : St w [(bk4, 34, #[.bool false, .string ⟨#[]⟩, .string ⟨#[]⟩, .bool false, .string ⟨#[]⟩, .string ⟨#[]⟩]), (bk2, 34, VC al ah), (bk3, 34, VC bl bh)] _ := St.perm HS2 (List.perm_middle (l₁ := ([(bk2, 34, VC al ah), (bk3, 34, VC bl bh)] : List Own)))
  refine wp_seq [43] (by kernel_rfl) (by kernel_rfl) (Reg.fin.put Reg.fin_no _ _) (StR.move (StR.no HPbk4)) ?_
  refine Seq.pure rfl rfl (by intro w; go_simp; try rfl) ?_
  simp only [Act.put, nA, nB, nC]
  refine Seq.loadAt rfl rfl rfl rfl (by repeat (first | exact mC | apply mT)) (n := 3) (cs' := RC al) (Nat.le_of_ble_eq_true rfl) (by kernel_rfl) rfl ?_
  simp only [Act.put, nA, nB, nC]
  refine Seq.pure rfl rfl (by intro w; go_simp; try rfl) ?_
  simp only [Act.put, nA, nB, nC]
  refine Seq.loadAt rfl rfl rfl rfl (by repeat (first | exact mC | apply mT)) (n := 3) (cs' := RC bl) (Nat.le_of_ble_eq_true rfl) (by kernel_rfl) rfl ?_
  simp only [Act.put, nA, nB, nC]
  refine Seq.call rfl rfl rfl rfl (by kernel_rfl) (mul_q (k := (1 * k + 0)) HT.out (Z_al.out.more (by omega)) (Z_bl.out.more (by omega)) rfl (by omega)) ?_
  simp only [Act.put, nA, nB, nC]
  refine Seq.pure rfl rfl (by intro w; go_simp; try rfl) ?_
  simp only [Act.put, nA, nB, nC]
  refine Seq.loadAt rfl rfl rfl rfl (by repeat (first | exact mC | apply mT)) (n := 3) (cs' := RC al) (Nat.le_of_ble_eq_true rfl) (by kernel_rfl) rfl ?_
  simp only [Act.put, nA, nB, nC]
  refine Seq.pure rfl rfl (by intro w; go_simp; try rfl) ?_
  simp only [Act.put, nA, nB, nC]
  refine Seq.loadAt rfl rfl rfl rfl (by repeat (first | exact mC | apply mT)) (n := 3) (cs' := RC bh) (Nat.le_of_ble_eq_true rfl) (by kernel_rfl) rfl ?_
  simp only [Act.put, nA, nB, nC]
  refine Seq.call rfl rfl rfl rfl (by kernel_rfl) (mul_q (k := (1 * k + 0)) HT.out (Z_al.out.more (by omega)) (Z_bh.out.more (by omega)) rfl (by omega)) ?_
  simp only [Act.put, nA, nB, nC]
  refine Seq.pure rfl rfl (by intro w; go_simp; try rfl) ?_
  simp only [Act.put, nA, nB, nC]
  refine Seq.loadAt rfl rfl rfl rfl (by repeat (first | exact mC | apply mT)) (n := 3) (cs' := RC ah) (Nat.le_of_ble_eq_true rfl) (by kernel_rfl) rfl ?_
  simp only [Act.put, nA, nB, nC]
  refine Seq.pure rfl rfl (by intro w; go_simp; try rfl) ?_
  simp only [Act.put, nA, nB, nC]
  refine Seq.loadAt rfl rfl rfl rfl (by repeat (first | exact mC | apply mT)) (n := 3) (cs' := RC bl) (Nat.le_of_ble_eq_true rfl) (by kernel_rfl) rfl ?_
  simp only [Act.put, nA, nB, nC]
  refine Seq.call rfl rfl rfl rfl (by kernel_rfl) (mul_q (k := (1 * k + 0)) HT.out (Z_ah.out.more (by omega)) (Z_bl.out.more (by omega)) rfl (by omega)) ?_
  simp only [Act.put, nA, nB, nC]
  refine Seq.pure rfl rfl (by intro w; go_simp; try rfl) ?_
  simp only [Act.put, nA, nB, nC]
  refine Seq.loadAt rfl rfl rfl rfl (by repeat (first | exact mC | apply mT)) (n := 3) (cs' := RC ah) (Nat.le_of_ble_eq_true rfl) (by kernel_rfl) rfl ?_
  simp only [Act.put, nA, nB, nC]
  refine Seq.pure rfl rfl (by intro w; go_simp; try rfl) ?_
  simp only [Act.put, nA, nB, nC]
  refine Seq.loadAt rfl rfl rfl rfl (by repeat (first | exact mC | apply mT)) (n := 3) (cs' := RC bh) (Nat.le_of_ble_eq_true rfl) (by kernel_rfl) rfl ?_
  simp only [Act.put, nA, nB, nC]
  refine Seq.call rfl rfl rfl rfl (by kernel_rfl) (mul_q (k := (1 * k + 0)) HT.out (Z_ah.out.more (by omega)) (Z_bh.out.more (by omega)) rfl (by omega)) ?_
  simp only [Act.put, nA, nB, nC]
  refine Seq.slice (n := 4) (e := 32) (cs := SL4 (al * bl) (al * bh) (ah * bl) (ah * bh)) rfl rfl (fun w => slc_4 rfl rfl rfl rfl rfl w) ?_
  intro bk29 _ _ hbk29_r
  obtain ⟨ne_bk29_bk4, hbk29_r⟩ := Reg.ne_of_put hbk29_r
  have ne_bk4_bk29 := Ne.symm ne_bk29_bk4
  simp only [Act.put, nA, nB, nC]
  refine Seq.callAny rfl rfl rfl rfl (by kernel_rfl) (fun w h => around_4 (k := (2 * k + 0)) HT.out ((Z_al.out.mul Z_bl.out).more (by omega)) ((Z_al.out.mul Z_bh.out).more (by omega)) ((Z_ah.out.mul Z_bl.out).more (by omega)) ((Z_ah.out.mul Z_bh.out).more (by omega)) rfl rfl (by omega) _ w h.st (h.reg _ _ _ (by repeat (first | exact rS | refine rN (by assumption) ?_))).2.2) ?_
  simp only [Act.put, nA, nB, nC]
  refine Seq.store rfl rfl rfl rfl rfl (by repeat (first | exact rS | refine rN (by assumption) ?_)) (n := 6) rfl rfl (by kernel_rfl) (VC_one _ _) ?_
  simp only [Act.put, nA, nB, nC]
  refine Seq.done fun ws3 hws => ?_
  have HS3 : St w [(bk4, 34, VC (minQ (minQ (minQ (al * bl) (al * bh)) (ah * bl)) (ah * bh)) (maxQ (maxQ (maxQ (al * bl) (al * bh)) (ah * bl)) (ah * bh))), (bk29, 32, SL4 (al * bl) (al * bh) (ah * bl) (ah * bh)), (bk2, 34, VC al ah), (bk3, 34, VC bl bh)] ws3 := hws.list2 (by repeat (first | exact rS | refine rN (by assumption) ?_)) (by repeat (first | exact rS | refine rN (by assumption) ?_)) (by assumption)
  clear HS2 hws HPbk4
  go_wp2_with fail
  exact ret_own rfl rfl rfl HS3 (by repeat (first | exact mC | apply mT)) (n := 6) rfl (by kernel_rfl) ⟨rfl, HS3.below⟩
set_option maxHeartbeats 2000000 in
set_option maxRecDepth 20000 in
theorem has_q_tt {k : Nat} {al ah t : Rat} {W : World} {l : List Own} (hT : Tab W) (Zal : Rz k al) (Zah : Rz k ah) (Zt : Rz k t) (hlea : al ≤ ah) (c1 : al ≤ t) (c2 : t ≤ ah) (hk : k ≤ 1000000000000) (w : World) (h : St W l w) :
    Calls Tryd.prog 72 #[.agg (VC al ah), .agg (RC t)] w fun e w' => e = .returned (.bool true) ∧ Below w.heap.size w w' := by
  have HT := Lib.hid (tabS hT h); clear hT h
  have Z_al := Lib.hid Zal; clear Zal
  have Z_ah := Lib.hid Zah; clear Zah
  have Z_t := Lib.hid Zt; clear Zt
  obtain ⟨v1, hv1, r1⟩ : ∃ v, cmpQ al t = v ∧ decide (v ≤ 0) = true := ⟨_, rfl, decide_eq_true (cmp_le c1)⟩
  have H1 := Lib.hid hv1; clear hv1
  clear c1
  obtain ⟨v2, hv2, r2⟩ : ∃ v, cmpQ t ah = v ∧ decide (v ≤ 0) = true := ⟨_, rfl, decide_eq_true (cmp_le c2)⟩
  have H2 := Lib.hid hv2; clear hv2
  clear c2
  go_enter Tryd.func72, Tryd.ntmps72
  have HS : St w [] w := St.start
  go_upto_region 0 with (fail)
  refine wp_seq_text [] (StR.no HS) ?_
  refine Seq.box rfl rfl rfl (v := .agg (VC al ah)) (cs := VC al ah) rfl rfl ?_
  intro bk2 _ _ hbk2_r
  simp only [Act.put, nA, nB, nC]
  refine Seq.box rfl rfl rfl (v := .agg (RC t)) (cs := RC t) rfl rfl ?_
  intro bk3 _ _ hbk3_r
  obtain ⟨ne_bk3_bk2, hbk3_r⟩ := Reg.ne_of_put hbk3_r
  have ne_bk2_bk3 := Ne.symm ne_bk3_bk2
  simp only [Act.put, nA, nB, nC]
  refine Seq.pure rfl rfl (by intro w; go_simp; try rfl) ?_
  simp only [Act.put, nA, nB, nC]
  refine Seq.done fun ws1 hws => ?_
  have HS1 : St w [(bk2, 34, VC al ah), (bk3, 32, RC t)] ws1 := hws.list2 (by repeat (first | exact rS | refine rN (by assumption) ?_)) (by repeat (first | exact rS | refine rN (by assumption) ?_)) (by assumption)
  clear HS hws
  go_upto_region 1 with (fail)
  refine wp_seq_text [0] (StR.move (StR.no HS1)) ?_
  refine Seq.get rfl rfl rfl rfl (by repeat (first | exact rS | refine rN (by assumption) ?_)) (n := 6) rfl (by kernel_rfl) ?_
  simp only [Act.put, nA, nB, nC]
  refine Seq.call rfl rfl rfl rfl (by kernel_rfl) (sfit_q (k := (1 * k + 0)) HT.out (Z_al.out.more (by omega)) (Z_ah.out.more (by omega)) hlea rfl rfl (by omega)) ?_
  simp only [Act.put, nA, nB, nC]
  refine Seq.store rfl rfl rfl rfl rfl (by repeat (first | exact rS | refine rN (by assumption) ?_)) (n := 6) rfl rfl (by kernel_rfl) (VC_one _ _) ?_
  simp only [Act.put, nA, nB, nC]
  refine Seq.done fun ws2 hws => ?_
  have HS2 : St w [(bk2, 34, VC al ah), (bk3, 32, RC t)] ws2 := hws.list1 (by repeat (first | exact rS | refine rN (by assumption) ?_))
  clear HS1 hws
  go_upto_region 2 with (fail)
  refine wp_seq_text [] (StR.no HS2) ?_
  refine Seq.pure rfl rfl (by intro w; go_simp; try rfl) ?_
  simp only [Act.put, nA, nB, nC]
  refine Seq.loadAt rfl rfl rfl rfl (by repeat (first | exact mC | apply mT)) (n := 3) (cs' := RC al) (Nat.le_of_ble_eq_true rfl) (by kernel_rfl) rfl ?_
  simp only [Act.put, nA, nB, nC]
  refine Seq.load rfl rfl rfl rfl (by repeat (first | exact mC | apply mT)) (n := 3) rfl (by kernel_rfl) ?_
  simp only [Act.put, nA, nB, nC]
  refine Seq.call rfl rfl rfl rfl (by kernel_rfl) (cmp_q (k := (1 * k + 0)) HT.out (Z_al.out.more (by omega)) (Z_t.out.more (by omega)) H1.out (by omega)) ?_
  simp only [Act.put, nA, nB, nC]
  iterate 2 (refine Seq.pure rfl rfl (by intro w; go_simp; try rfl) ?_; simp only [Act.put, nA, nB, nC])
  refine Seq.load rfl rfl rfl rfl (by repeat (first | exact mC | apply mT)) (n := 3) rfl (by kernel_rfl) ?_
  simp only [Act.put, nA, nB, nC]
  refine Seq.pure rfl rfl (by intro w; go_simp; try rfl) ?_
  simp only [Act.put, nA, nB, nC]
  refine Seq.loadAt rfl rfl rfl rfl (by repeat (first | exact mC | apply mT)) (n := 3) (cs' := RC ah) (Nat.le_of_ble_eq_true rfl) (by kernel_rfl) rfl ?_
  simp only [Act.put, nA, nB, nC]
  refine Seq.call rfl rfl rfl rfl (by kernel_rfl) (cmp_q (k := (1 * k + 0)) HT.out (Z_t.out.more (by omega)) (Z_ah.out.more (by omega)) H2.out (by omega)) ?_
  simp only [Act.put, nA, nB, nC]
  iterate 3 (refine Seq.pure rfl rfl (by intro w; go_simp; try rfl) ?_; simp only [Act.put, nA, nB, nC])
  refine Seq.done fun ws3 hws => ?_
  have HS3 := hws.st
  clear HS2 hws
  go_wp2_with fail
  go_ret
  exact ⟨rfl, HS3.below⟩
set_option maxHeartbeats 2000000 in
set_option maxRecDepth 20000 in
theorem has_q_tf {k : Nat} {al ah t : Rat} {W : World} {l : List Own} (hT : Tab W) (Zal : Rz k al) (Zah : Rz k ah) (Zt : Rz k t) (hlea : al ≤ ah) (c1 : al ≤ t) (c2 : t > ah) (hk : k ≤ 1000000000000) (w : World) (h : St W l w) :
    Calls Tryd.prog 72 #[.agg (VC al ah), .agg (RC t)] w fun e w' => e = .returned (.bool false) ∧ Below w.heap.size w w' := by
  have HT := Lib.hid (tabS hT h); clear hT h
  have Z_al := Lib.hid Zal; clear Zal
  have Z_ah := Lib.hid Zah; clear Zah
  have Z_t := Lib.hid Zt; clear Zt
  obtain ⟨v1, hv1, r1⟩ : ∃ v, cmpQ al t = v ∧ decide (v ≤ 0) = true := ⟨_, rfl, decide_eq_true (cmp_le c1)⟩
  have H1 := Lib.hid hv1; clear hv1
  clear c1
  obtain ⟨v2, hv2, r2⟩ : ∃ v, cmpQ t ah = v ∧ decide (v ≤ 0) = false := ⟨_, rfl, decide_eq_false (by have := cmp_gt c2; omega)⟩
  have H2 := Lib.hid hv2; clear hv2
  clear c2
  go_enter Tryd.func72, Tryd.ntmps72
  have HS : St w [] w := St.start
  go_upto_region 0 with (fail)
  refine wp_seq_text [] (StR.no HS) ?_
  refine Seq.box rfl rfl rfl (v := .agg (VC al ah)) (cs := VC al ah) rfl rfl ?_
  intro bk2 _ _ hbk2_r
  simp only [Act.put, nA, nB, nC]
  refine Seq.box rfl rfl rfl (v := .agg (RC t)) (cs := RC t) rfl rfl ?_
  intro bk3 _ _ hbk3_r
  obtain ⟨ne_bk3_bk2, hbk3_r⟩ := Reg.ne_of_put hbk3_r
  have ne_bk2_bk3 := Ne.symm ne_bk3_bk2
  simp only [Act.put, nA, nB, nC]
  refine Seq.pure rfl rfl (by intro w; go_simp; try rfl) ?_
  simp only [Act.put, nA, nB, nC]
  refine Seq.done fun ws1 hws => ?_
  have HS1 : St w [(bk2, 34, VC al ah), (bk3, 32, RC t)] ws1 := hws.list2 (by repeat (first | exact rS | refine rN (by assumption) ?_)) (by repeat (first | exact rS | refine rN (by assumption) ?_)) (by assumption)
  clear HS hws
  go_upto_region 1 with (fail)
  refine wp_seq_text [0] (StR.move (StR.no HS1)) ?_
  refine Seq.get rfl rfl rfl rfl (by repeat (first | exact rS | refine rN (by assumption) ?_)) (n := 6) rfl (by kernel_rfl) ?_
  simp only [Act.put, nA, nB, nC]
  refine Seq.call rfl rfl rfl rfl (by kernel_rfl) (sfit_q (k := (1 * k + 0)) HT.out (Z_al.out.more (by omega)) (Z_ah.out.more (by omega)) hlea rfl rfl (by omega)) ?_
  simp only [Act.put, nA, nB, nC]
  refine Seq.store rfl rfl rfl rfl rfl (by repeat (first | exact rS | refine rN (by assumption) ?_)) (n := 6) rfl rfl (by kernel_rfl) (VC_one _ _) ?_
  simp only [Act.put, nA, nB, nC]
  refine Seq.done fun ws2 hws => ?_
  have HS2 : St w [(bk2, 34, VC al ah), (bk3, 32, RC t)] ws2 := hws.list1 (by repeat (first | exact rS | refine rN (by assumption) ?_))
  clear HS1 hws
  go_upto_region 2 with (fail)
  refine wp_seq_text [] (StR.no HS2) ?_
  refine Seq.pure rfl rfl (by intro w; go_simp; try rfl) ?_
  simp only [Act.put, nA, nB, nC]
  refine Seq.loadAt rfl rfl rfl rfl (by repeat (first | exact mC | apply mT)) (n := 3) (cs' := RC al) (Nat.le_of_ble_eq_true rfl) (by kernel_rfl) rfl ?_
  simp only [Act.put, nA, nB, nC]
  refine Seq.load rfl rfl rfl rfl (by repeat (first | exact mC | apply mT)) (n := 3) rfl (by kernel_rfl) ?_
  simp only [Act.put, nA, nB, nC]
  refine Seq.call rfl rfl rfl rfl (by kernel_rfl) (cmp_q (k := (1 * k + 0)) HT.out (Z_al.out.more (by omega)) (Z_t.out.more (by omega)) H1.out (by omega)) ?_
  simp only [Act.put, nA, nB, nC]
  iterate 2 (refine Seq.pure rfl rfl (by intro w; go_simp; try rfl) ?_; simp only [Act.put, nA, nB, nC])
  refine Seq.load rfl rfl rfl rfl (by repeat (first | exact mC | apply mT)) (n := 3) rfl (by kernel_rfl) ?_
  simp only [Act.put, nA, nB, nC]
  refine Seq.pure rfl rfl (by intro w; go_simp; try rfl) ?_
  simp only [Act.put, nA, nB, nC]
  refine Seq.loadAt rfl rfl rfl rfl (by repeat (first | exact mC | apply mT)) (n := 3) (cs' := RC ah) (Nat.le_of_ble_eq_true rfl) (by kernel_rfl) rfl ?_
  simp only [Act.put, nA, nB, nC]
  refine Seq.call rfl rfl rfl rfl (by kernel_rfl) (cmp_q (k := (1 * k + 0)) HT.out (Z_t.out.more (by omega)) (Z_ah.out.more (by omega)) H2.out (by omega)) ?_
  simp only [Act.put, nA, nB, nC]
  iterate 3 (refine Seq.pure rfl rfl (by intro w; go_simp; try rfl) ?_; simp only [Act.put, nA, nB, nC])
  refine Seq.done fun ws3 hws => ?_
  have HS3 := hws.st
  clear HS2 hws
  go_wp2_with fail
  go_ret
  exact ⟨rfl, HS3.below⟩
set_option maxHeartbeats 2000000 in
set_option maxRecDepth 20000 in
theorem has_q_ff {k : Nat} {al ah t : Rat} {W : World} {l : List Own} (hT : Tab W) (Zal : Rz k al) (Zah : Rz k ah) (Zt : Rz k t) (hlea : al ≤ ah) (c1 : al > t) (hk : k ≤ 1000000000000) (w : World) (h : St W l w) :
    Calls Tryd.prog 72 #[.agg (VC al ah), .agg (RC t)] w fun e w' => e = .returned (.bool false) ∧ Below w.heap.size w w' := by
  have HT := Lib.hid (tabS hT h); clear hT h
  have Z_al := Lib.hid Zal; clear Zal
  have Z_ah := Lib.hid Zah; clear Zah
  have Z_t := Lib.hid Zt; clear Zt
  obtain ⟨v1, hv1, r1⟩ : ∃ v, cmpQ al t = v ∧ decide (v ≤ 0) = false := ⟨_, rfl, decide_eq_false (by have := cmp_gt c1; omega)⟩
  have H1 := Lib.hid hv1; clear hv1
  clear c1
  go_enter Tryd.func72, Tryd.ntmps72
  have HS : St w [] w := St.start
  go_upto_region 0 with (fail)
  refine wp_seq_text [] (StR.no HS) ?_
  refine Seq.box rfl rfl rfl (v := .agg (VC al ah)) (cs := VC al ah) rfl rfl ?_
  intro bk2 _ _ hbk2_r
  simp only [Act.put, nA, nB, nC]
  refine Seq.box rfl rfl rfl (v := .agg (RC t)) (cs := RC t) rfl rfl ?_
  intro bk3 _ _ hbk3_r
  obtain ⟨ne_bk3_bk2, hbk3_r⟩ := Reg.ne_of_put hbk3_r
  have ne_bk2_bk3 := Ne.symm ne_bk3_bk2
  simp only [Act.put, nA, nB, nC]
  refine Seq.pure rfl rfl (by intro w; go_simp; try rfl) ?_
  simp only [Act.put, nA, nB, nC]
  refine Seq.done fun ws1 hws => ?_
  have HS1 : St w [(bk2, 34, VC al ah), (bk3, 32, RC t)] ws1 := hws.list2 (by repeat (first | exact rS | refine rN (by assumption) ?_)) (by repeat (first | exact rS | refine rN (by assumption) ?_)) (by assumption)
  clear HS hws
  go_upto_region 1 with (fail)
  refine wp_seq_text [0] (StR.move (StR.no HS1)) ?_
  refine Seq.get rfl rfl rfl rfl (by repeat (first | exact rS | refine rN (by assumption) ?_)) (n := 6) rfl (by kernel_rfl) ?_
  simp only [Act.put, nA, nB, nC]
  refine Seq.call rfl rfl rfl rfl (by kernel_rfl) (sfit_q (k := (1 * k + 0)) HT.out (Z_al.out.more (by omega)) (Z_ah.out.more (by omega)) hlea rfl rfl (by omega)) ?_
  simp only [Act.put, nA, nB, nC]
  refine Seq.store rfl rfl rfl rfl rfl (by repeat (first | exact rS | refine rN (by assumption) ?_)) (n := 6) rfl rfl (by kernel_rfl) (VC_one _ _) ?_
  simp only [Act.put, nA, nB, nC]
  refine Seq.done fun ws2 hws => ?_
  have HS2 : St w [(bk2, 34, VC al ah), (bk3, 32, RC t)] ws2 := hws.list1 (by repeat (first | exact rS | refine rN (by assumption) ?_))
  clear HS1 hws
  go_upto_region 2 with (fail)
  refine wp_seq_text [] (StR.no HS2) ?_
  refine Seq.pure rfl rfl (by intro w; go_simp; try rfl) ?_
  simp only [Act.put, nA, nB, nC]
  refine Seq.loadAt rfl rfl rfl rfl (by repeat (first | exact mC | apply mT)) (n := 3) (cs' := RC al) (Nat.le_of_ble_eq_true rfl) (by kernel_rfl) rfl ?_
  simp only [Act.put, nA, nB, nC]
  refine Seq.load rfl rfl rfl rfl (by repeat (first | exact mC | apply mT)) (n := 3) rfl (by kernel_rfl) ?_
  simp only [Act.put, nA, nB, nC]
  refine Seq.call rfl rfl rfl rfl (by kernel_rfl) (cmp_q (k := (1 * k + 0)) HT.out (Z_al.out.more (by omega)) (Z_t.out.more (by omega)) H1.out (by omega)) ?_
  simp only [Act.put, nA, nB, nC]
  iterate 2 (refine Seq.pure rfl rfl (by intro w; go_simp; try rfl) ?_; simp only [Act.put, nA, nB, nC])
  iterate 5 (refine Seq.nw rfl ?_; simp only [Act.put, nA, nB, nC])
  iterate 2 (refine Seq.pure rfl rfl (by intro w; go_simp; try rfl) ?_; simp only [Act.put, nA, nB, nC])
  refine Seq.done fun ws3 hws => ?_
  have HS3 := hws.st
  clear HS2 hws
  go_wp2_with fail
  go_ret
  exact ⟨rfl, HS3.below⟩
theorem has_q {k : Nat} {al ah t : Rat} {z0 : Bool} {W : World} {l : List Own} (hT : Tab W) (Zal : Rz k al) (Zah : Rz k ah) (Zt : Rz k t) (hlea : al ≤ ah) (hz0 : decide (al ≤ t ∧ t ≤ ah) = z0) (hk : k ≤ 1000000000000) (w : World) (h : St W l w) :
    Calls Tryd.prog 72 #[.agg (VC al ah), .agg (RC t)] w fun e w' => e = .returned (.bool z0) ∧ Below w.heap.size w w' := by
  subst hz0
  by_cases c1 : al ≤ t
  · by_cases c2 : t ≤ ah
    · rw [decide_eq_true (And.intro c1 c2)]; exact has_q_tt hT Zal Zah Zt hlea c1 c2 hk w h
    · rw [decide_eq_false (fun h => c2 h.2)]; exact has_q_tf hT Zal Zah Zt hlea c1 (by grind) hk w h
  · rw [decide_eq_false (fun h => c1 h.1)]; exact has_q_ff hT Zal Zah Zt hlea (by grind) hk w h
end Go.Proofs.YtdhhbpnnahdofaaDoor
