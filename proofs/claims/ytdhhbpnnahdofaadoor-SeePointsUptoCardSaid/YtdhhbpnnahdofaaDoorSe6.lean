/- small, seen. -/
import Derived.Test.YtdhhbpnnahdofaaDoorSe5
import Derived.LoopN

namespace Go.Proofs.YtdhhbpnnahdofaaDoor
open Go.RowKit
set_option linter.unusedVariables false
set_option linter.unusedSimpArgs false

def UW (h : Bool) (t : RT) : Array Value := #[.bool h, .bool t.s, .string t.a, .string t.d]
theorem bld_Frame0 {o : Oper} {c : Act} {X : Operand} {x y : RT} (ho : o.op = .build 42 #[(0, X)]) (hX : c.eval X = .agg (SW x y)) (w : World) : (execOp c.eval o).run Tryd.prog w = .ok (.value (.agg (FW x y false rz0))) w := by
  unfold SW at hX
  unfold execOp FW rz0
  simp only [ho, List.map_toArray, List.map_cons, List.map_nil, hX]
  go_simp
theorem RawT0 : RawT 2 0 false rz0 := ⟨.inr ⟨rfl, rfl, .inl rfl⟩, Rz.zero2, Nat.zero_le _, Nat.zero_le _⟩
set_option maxHeartbeats 2000000 in
set_option maxRecDepth 20000 in
theorem small_q {W : World} {l : List Own} (hT : Tab W) (w : World) (h : St W l w) :
    Calls Tryd.prog 71 #[] w fun e w' => e = .returned (.bool true) ∧ Below w.heap.size w w' := by
  have HT := Lib.hid (tabS hT h); clear hT h
  go_enter Tryd.func71, Tryd.ntmps71
  have HS : St w [] w := St.start
  go_upto_region 0 with (fail)
  refine wp_seq_text [] (StR.no HS) ?_
  refine Seq.pure rfl rfl (by intro w; go_simp; try rfl) ?_
  simp only [Act.put, nA, nB, nC]
  refine Seq.done fun ws1 hws => ?_
  have HS1 := hws.st
  clear HS hws
  go_upto_region 1 with (fail)
  refine wp_seq_text [] (StR.no HS1) ?_
  refine Seq.call rfl rfl rfl rfl (by kernel_rfl) (of_q HT.out (by omega) (by omega) (show ((3 : Int) : Rat) = (3 : Rat) from rfl)) ?_
  simp only [Act.put, nA, nB, nC]
  refine Seq.call rfl rfl rfl rfl (by kernel_rfl) (sign_q (k := 2) HT.out ((show Rz 2 (3 : Rat) from Rz.lit (z := 3) rfl (by decide)).more (by omega)) (show sgnQ 3 = 1 from by decide +kernel) (by omega)) ?_
  simp only [Act.put, nA, nB, nC]
  iterate 2 (refine Seq.pure rfl rfl (by intro w; go_simp; try rfl) ?_; simp only [Act.put, nA, nB, nC])
  refine Seq.done fun ws2 hws => ?_
  have HS2 := hws.st
  clear HS1 hws
  go_wp2_with fail
  go_ret
  exact ⟨rfl, HS2.below⟩
set_option maxHeartbeats 2000000 in
set_option maxRecDepth 20000 in
theorem seen_q {W : World} {l : List Own} (hT : Tab W) (w : World) (h : St W l w) :
    Calls Tryd.prog 14 #[] w fun e w' => e = .returned (.bool true) ∧ Below w.heap.size w w' := by
  have HT := Lib.hid (tabS hT h); clear hT h
  go_enter Tryd.func14, Tryd.ntmps14
  have HS : St w [] w := St.start
  go_upto_region 0 with (fail)
  refine wp_seq_text [] (StR.no HS) ?_
  refine Seq.pure rfl rfl (by intro w; go_simp; try rfl) ?_
  simp only [Act.put, nA, nB, nC]
  refine Seq.done fun ws1 hws => ?_
  have HS1 := hws.st
  clear HS hws
  go_upto_region 1 with (fail)
  refine wp_seq_text [] (StR.no HS1) ?_
  refine Seq.call rfl rfl rfl rfl (by kernel_rfl) (of_q HT.out (by omega) (by omega) (show ((2 : Int) : Rat) = (2 : Rat) from rfl)) ?_
  simp only [Act.put, nA, nB, nC]
  refine Seq.call rfl rfl rfl rfl (by kernel_rfl) (of_q HT.out (by omega) (by omega) (show ((3 : Int) : Rat) = (3 : Rat) from rfl)) ?_
  simp only [Act.put, nA, nB, nC]
  refine Seq.pure (v := .agg (VC (2 : Rat) (3 : Rat))) rfl rfl (fun w => bld_Vec rfl rfl rfl w) ?_
  simp only [Act.put, nA, nB, nC]
  refine Seq.pure (v := .agg (FW (rt (2 : Rat)) (rt (3 : Rat)) false rz0)) rfl rfl (fun w => bld_Frame0 rfl rfl w) ?_
  simp only [Act.put, nA, nB, nC]
  refine Seq.call rfl rfl rfl rfl (by kernel_rfl) (ofp_no (k := 2) (f1_t := (rt (2 : Rat))) (f2_t := (rt (3 : Rat))) (ft_t := rz0) HT.out (RawT.rc ((show Rz 2 (2 : Rat) from Rz.lit (z := 2) rfl (by decide)).more (by omega))) (RawT.rc ((show Rz 2 (3 : Rat) from Rz.lit (z := 3) rfl (by decide)).more (by omega))) (RawT0.more (by omega))  rfl rfl rfl rfl rfl rfl (by omega) (by omega)) ?_
  simp only [Act.put, nA, nB, nC]
  refine Seq.pure rfl rfl (by intro w; go_simp; try rfl) ?_
  simp only [Act.put, nA, nB, nC]
  refine Seq.pure (v := .agg (PW (rt (2 : Rat)) (rt (2 : Rat)) (rt (3 : Rat)) (rt (3 : Rat)) (rt (0 : Rat)) (rt (0 : Rat)))) rfl rfl (fun w => rfl) ?_
  simp only [Act.put, nA, nB, nC]
  refine Seq.pure (v := .int .i64 0) rfl rfl (fun w => rfl) ?_
  simp only [Act.put, nA, nB, nC]
  refine Seq.alloc rfl rfl rfl (z := .agg (PW rz0 rz0 rz0 rz0 rz0 rz0)) (by kernel_rfl) rfl ?_
  intro bk1 _ _ hbk1_r
  simp only [Act.put, nA, nB, nC]
  refine Seq.store rfl rfl rfl rfl rfl (by repeat (first | exact rS | refine rN (by assumption) ?_)) (n := 18) rfl rfl (by kernel_rfl) (PW_one _ _ _ _ _ _) ?_
  simp only [Act.put, nA, nB, nC]
  refine Seq.pure rfl rfl (by intro w; go_simp; try rfl) ?_
  simp only [Act.put, nA, nB, nC]
  refine Seq.done fun ws2 hws => ?_
  have HS2 := hws.list1 (p := bk1) (by repeat (first | exact rS | refine rN (by assumption) ?_))
  clear HS1 hws
  go_upto_region 2 with (fail)
  refine wp_seq [] (by kernel_rfl) (by kernel_rfl) Reg.fin_no (StR.no HS2) ?_
  refine Seq.call rfl rfl rfl rfl (by kernel_rfl) (small_q HT.out) ?_
  simp only [Act.put, nA, nB, nC]
  iterate 5 (refine Seq.pure rfl rfl (by intro w; go_simp; try rfl) ?_; simp only [Act.put, nA, nB, nC])
  refine Seq.load rfl rfl rfl rfl (by repeat (first | exact mC | apply mT)) (n := 18) rfl (by kernel_rfl) ?_
  simp only [Act.put, nA, nB, nC]
  refine Seq.call rfl rfl rfl rfl (by kernel_rfl) (of_q HT.out (by omega) (by omega) (show ((2 : Int) : Rat) = (2 : Rat) from rfl)) ?_
  simp only [Act.put, nA, nB, nC]
  refine Seq.call rfl rfl rfl rfl (by kernel_rfl) (of_q HT.out (by omega) (by omega) (show ((3 : Int) : Rat) = (3 : Rat) from rfl)) ?_
  simp only [Act.put, nA, nB, nC]
  refine Seq.pure (v := .agg (VC (2 : Rat) (3 : Rat))) rfl rfl (fun w => bld_Vec rfl rfl rfl w) ?_
  simp only [Act.put, nA, nB, nC]
  refine Seq.pure (v := .agg (FW (rt (2 : Rat)) (rt (3 : Rat)) false rz0)) rfl rfl (fun w => bld_Frame0 rfl rfl w) ?_
  simp only [Act.put, nA, nB, nC]
  refine Seq.call rfl rfl rfl rfl (by kernel_rfl) (shas_w (k := 2) (px1 := (rt (2 : Rat))) (px2 := (rt (2 : Rat))) (py1 := (rt (3 : Rat))) (py2 := (rt (3 : Rat))) (pt1 := (rt (0 : Rat))) (pt2 := (rt (0 : Rat))) (f1_t := (rt (2 : Rat))) (f2_t := (rt (3 : Rat))) (ft_t := rz0) HT.out (RawS.of Rat.le_refl ((show Rz 2 (2 : Rat) from Rz.lit (z := 2) rfl (by decide)).more (by omega)) ((show Rz 2 (2 : Rat) from Rz.lit (z := 2) rfl (by decide)).more (by omega))) (RawS.of Rat.le_refl ((show Rz 2 (3 : Rat) from Rz.lit (z := 3) rfl (by decide)).more (by omega)) ((show Rz 2 (3 : Rat) from Rz.lit (z := 3) rfl (by decide)).more (by omega))) (RawS.of Rat.le_refl (RawT0.rz.more (by omega)) (RawT0.rz.more (by omega))) (RawT.rc ((show Rz 2 (2 : Rat) from Rz.lit (z := 2) rfl (by decide)).more (by omega))) (RawT.rc ((show Rz 2 (3 : Rat) from Rz.lit (z := 3) rfl (by decide)).more (by omega))) (RawT0.more (by omega))  (show inQ false 2 2 3 3 0 0 2 3 0 = true from by decide +kernel) (by omega) (by omega)) ?_
  simp only [Act.put, nA, nB, nC]
  iterate 4 (refine Seq.pure rfl rfl (by intro w; go_simp; try rfl) ?_; simp only [Act.put, nA, nB, nC])
  refine Seq.loadAt rfl rfl rfl rfl (by repeat (first | exact mC | apply mT)) (n := 3) (cs' := RC (2 : Rat)) (Nat.le_of_ble_eq_true rfl) (by kernel_rfl) rfl ?_
  simp only [Act.put, nA, nB, nC]
  refine Seq.call rfl rfl rfl rfl (by kernel_rfl) (of_q HT.out (by omega) (by omega) (show ((2 : Int) : Rat) = (2 : Rat) from rfl)) ?_
  simp only [Act.put, nA, nB, nC]
  refine Seq.call rfl rfl rfl rfl (by kernel_rfl) (cmp_q (k := 2) HT.out ((show Rz 2 (2 : Rat) from Rz.lit (z := 2) rfl (by decide)).more (by omega)) ((show Rz 2 (2 : Rat) from Rz.lit (z := 2) rfl (by decide)).more (by omega)) (show cmpQ 2 2 = 0 from by decide +kernel) (by omega)) ?_
  simp only [Act.put, nA, nB, nC]
  iterate 3 (refine Seq.pure rfl rfl (by intro w; go_simp; try rfl) ?_; simp only [Act.put, nA, nB, nC])
  refine Seq.done fun ws3 hws => ?_
  have HS3 := hws.st
  clear HS2 hws
  go_wp2_with fail
  go_ret
  exact ⟨rfl, HS3.below⟩
end Go.Proofs.YtdhhbpnnahdofaaDoor
