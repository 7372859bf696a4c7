/- Narrow, SamePose, Good of a pose, same, Of, Look, Width, Middle. -/
import Derived.Test.YtdhhbpnnahdofaaDoorSe4
import Derived.LoopN

namespace Go.Proofs.YtdhhbpnnahdofaaDoor
open Go.RowKit
set_option linter.unusedVariables false
set_option linter.unusedSimpArgs false

theorem ret_cells {P : Program} {fn : Func} {E : Ending → World → Prop} {a : Act} {w W : World} {l : List Own} {p ty q ty2 : Nat} {g n g2 n2 : Nat} {T T2 : TypeId} {cs cs2 : Array Value}
    (hr : fn.results = #[.cell p ty, .cell q ty2]) (hd : a.defers = []) (hp : a.tmps.getD p undef = .pointer (some ⟨g, 0, none⟩)) (hq : a.tmps.getD q undef = .pointer (some ⟨g2, 0, none⟩)) (hS : St W l w) (hm : (g, T, cs) ∈ l) (hm2 : (g2, T2, cs2) ∈ l) (hn : cs.size = n) (hn2 : cs2.size = n2) (ht : aggOf P ty n = true) (ht2 : aggOf P ty2 n2 = true)
    (h : E (.returned (.tuple #[.agg cs, .agg cs2])) w) : bodyPost P fn E .ret a w := by
  refine bodyPost_ret (v := .tuple #[.agg cs, .agg cs2]) ?_ hd h
  have hp' : a.tmps[p]?.getD undef = .pointer (some ⟨g, 0, none⟩) := by simpa using hp
  have hq' : a.tmps[q]?.getD undef = .pointer (some ⟨g2, 0, none⟩) := by simpa using hq
  simp [results, hr, hp', hq', asAddr, run_load_whole (hS.blk _ hm).2 hn ht, run_load_whole (hS.blk _ hm2).2 hn2 ht2]
set_option maxHeartbeats 2000000 in
set_option maxRecDepth 20000 in
theorem ofp_no {k : Nat} {f1 : Rat} {f1_g : Bool} {f1_t : RT} {f2 : Rat} {f2_g : Bool} {f2_t : RT} {ft : Rat} {ft_g : Bool} {ft_t : RT} {z0 : Rat} {z1 : Rat} {z2 : Rat} {z3 : Rat} {z4 : Rat} {z5 : Rat} {W : World} {l : List Own} (hT : Tab W) (Zf1 : RawT k f1 f1_g f1_t) (Zf2 : RawT k f2 f2_g f2_t) (Zft : RawT k ft ft_g ft_t) (hz0 : f1 = z0) (hz1 : f1 = z1) (hz2 : f2 = z2) (hz3 : f2 = z3) (hz4 : ft = z4) (hz5 : ft = z5) (hk0 : 2 ≤ k) (hk : k ≤ 999999999998) (w : World) (h : St W l w) :
    Calls Tryd.prog 25 #[.agg (FW f1_t f2_t false ft_t)] w fun e w' => e = .returned (.tuple #[.agg (PW (rt z0) (rt z1) (rt z2) (rt z3) (rt z4) (rt z5)), .int .i64 0]) ∧ Below w.heap.size w w' := by
  subst hz0
  subst hz1
  subst hz2
  subst hz3
  subst hz4
  subst hz5
  have HT := Lib.hid (tabS hT h); clear hT h
  have Z_f1 := Lib.hid Zf1; clear Zf1
  have Z_f2 := Lib.hid Zf2; clear Zf2
  have Z_ft := Lib.hid Zft; clear Zft
  go_enter Tryd.func25, Tryd.ntmps25
  have HS : St w [] w := St.start
  go_upto_region 0 with (fail)
  refine wp_seq_text [] (StR.no HS) ?_
  refine Seq.box rfl rfl rfl (v := .agg (FW f1_t f2_t false ft_t)) (cs := FW f1_t f2_t false ft_t) rfl rfl ?_
  intro bk1 _ _ hbk1_r
  simp only [Act.put, nA, nB, nC]
  refine Seq.alloc rfl rfl rfl (z := .agg (PW rz0 rz0 rz0 rz0 rz0 rz0)) (by kernel_rfl) rfl ?_
  intro bk2 _ _ hbk2_r
  obtain ⟨ne_bk2_bk1, hbk2_r⟩ := Reg.ne_of_put hbk2_r
  have ne_bk1_bk2 := Ne.symm ne_bk2_bk1
  simp only [Act.put, nA, nB, nC]
  refine Seq.pure rfl rfl (by intro w; go_simp; try rfl) ?_
  simp only [Act.put, nA, nB, nC]
  refine Seq.done fun ws1 hws => ?_
  have HS1 := hws.list2 (p := bk1) (q := bk2) (by repeat (first | exact rS | refine rN (by assumption) ?_)) (by repeat (first | exact rS | refine rN (by assumption) ?_)) (by assumption)
  clear HS hws
  go_upto_region 1 with (fail)
  refine wp_seq_text [] (StR.no HS1) ?_
  iterate 2 (refine Seq.pure rfl rfl (by intro w; go_simp; try rfl) ?_; simp only [Act.put, nA, nB, nC])
  refine Seq.loadCell rfl rfl rfl rfl (by repeat (first | exact mC | apply mT)) (v := .bool false) rfl (by kernel_rfl) rfl ?_
  simp only [Act.put, nA, nB, nC]
  refine Seq.done fun ws2 hws => ?_
  have HS2 := hws.st
  clear HS1 hws
  go_upto_region 3 with (fail)
  have HPbk2 := HS2.f1
  refine wp_seq [] (by kernel_rfl) (by kernel_rfl) (Reg.fin.put Reg.fin_no _ _) (StR.move (StR.no HPbk2)) ?_
  iterate 2 (refine Seq.pure rfl rfl (by intro w; go_simp; try rfl) ?_; simp only [Act.put, nA, nB, nC])
  refine Seq.loadAt rfl rfl rfl rfl (by repeat (first | exact mC | apply mT)) (n := 3) (cs' := RT.c f1_t) (Nat.le_of_ble_eq_true rfl) (by kernel_rfl) rfl ?_
  simp only [Act.put, nA, nB, nC]
  refine Seq.call rfl rfl rfl rfl (by kernel_rfl) (sof_w (k := (1 * k + 2)) (t_t := f1_t) HT.out (Z_f1.out.more (by omega))  rfl rfl (by omega) (by omega)) ?_
  simp only [Act.put, nA, nB, nC]
  iterate 2 (refine Seq.pure rfl rfl (by intro w; go_simp; try rfl) ?_; simp only [Act.put, nA, nB, nC])
  refine Seq.loadAt rfl rfl rfl rfl (by repeat (first | exact mC | apply mT)) (n := 3) (cs' := RT.c f2_t) (Nat.le_of_ble_eq_true rfl) (by kernel_rfl) rfl ?_
  simp only [Act.put, nA, nB, nC]
  refine Seq.call rfl rfl rfl rfl (by kernel_rfl) (sof_w (k := (1 * k + 2)) (t_t := f2_t) HT.out (Z_f2.out.more (by omega))  rfl rfl (by omega) (by omega)) ?_
  simp only [Act.put, nA, nB, nC]
  iterate 2 (refine Seq.pure rfl rfl (by intro w; go_simp; try rfl) ?_; simp only [Act.put, nA, nB, nC])
  refine Seq.loadAt rfl rfl rfl rfl (by repeat (first | exact mC | apply mT)) (n := 3) (cs' := RT.c ft_t) (Nat.le_of_ble_eq_true rfl) (by kernel_rfl) rfl ?_
  simp only [Act.put, nA, nB, nC]
  refine Seq.call rfl rfl rfl rfl (by kernel_rfl) (sof_w (k := (1 * k + 2)) (t_t := ft_t) HT.out (Z_ft.out.more (by omega))  rfl rfl (by omega) (by omega)) ?_
  simp only [Act.put, nA, nB, nC]
  refine Seq.pure (v := .agg (PW (rt f1) (rt f1) (rt f2) (rt f2) (rt ft) (rt ft))) rfl rfl (fun w => bld_Pose (x := (rt f1)) (y := (rt f1)) (z := (rt f2)) (u := (rt f2)) (v := (rt ft)) (t := (rt ft)) rfl rfl rfl rfl w) ?_
  simp only [Act.put, nA, nB, nC]
  refine Seq.store rfl rfl rfl rfl rfl (by repeat (first | exact rS | refine rN (by assumption) ?_)) (n := 18) rfl rfl (by kernel_rfl) (PW_one _ _ _ _ _ _) ?_
  simp only [Act.put, nA, nB, nC]
  refine Seq.pure rfl rfl (by intro w; go_simp; try rfl) ?_
  simp only [Act.put, nA, nB, nC]
  refine Seq.done fun ws3 hws => ?_
  have HS3 := hws.list1 (p := bk2) (by repeat (first | exact rS | refine rN (by assumption) ?_))
  clear HS2 hws HPbk2
  go_wp2_with fail
  exact ret_own2 rfl rfl rfl rfl HS3 (by repeat (first | exact mC | apply mT)) (n := 18) rfl (by kernel_rfl) ⟨rfl, HS3.below⟩
end Go.Proofs.YtdhhbpnnahdofaaDoor
