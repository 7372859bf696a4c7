/- Narrow, SamePose, Good of a pose, same, Of, Look, Width, Middle. -/
import Derived.Test.YtdhhbpnnahdofaaDoorSe4
import Derived.LoopN

namespace Go.Proofs.YtdhhbpnnahdofaaDoor
open Go.RowKit
set_option linter.unusedVariables false
set_option linter.unusedSimpArgs false

/-- what Narrow returns -/
def naQ (p1 p2 p3 p4 p5 p6 q1 q2 q3 q4 q5 q6 : Rat) : Value := if okQ p1 p2 p3 p4 p5 p6 q1 q2 q3 q4 q5 q6 = true then .tuple #[.agg (meQ p1 p2 p3 p4 p5 p6 q1 q2 q3 q4 q5 q6), .int .i64 0] else .tuple #[.agg z18, .int .i64 4]
theorem okQ_of (p1 p2 p3 p4 p5 p6 q1 q2 q3 q4 q5 q6 : Rat) : okQ p1 p2 p3 p4 p5 p6 q1 q2 q3 q4 q5 q6 = (decide (maxQ p1 q1 ≤ minQ p2 q2) && decide (maxQ p3 q3 ≤ minQ p4 q4) && decide (maxQ p5 q5 ≤ minQ p6 q6)) := by
  unfold okQ; simp [Bool.and_assoc]
def sameQ (p1 p2 p3 p4 p5 p6 q1 q2 q3 q4 q5 q6 : Rat) : Bool := decide (p1 = q1 ∧ p2 = q2 ∧ p3 = q3 ∧ p4 = q4 ∧ p5 = q5 ∧ p6 = q6)
theorem Rz.two2 : Rz 2 (2 : Rat) := Rz.lit (z := 2) rfl (by decide)
theorem ret_cells {P : Program} {fn : Func} {E : Ending → World → Prop} {a : Act} {w W : World} {l : List Own} {p ty q ty2 : Nat} {g n g2 n2 : Nat} {T T2 : TypeId} {cs cs2 : Array Value}
    (hr : fn.results = #[.cell p ty, .cell q ty2]) (hd : a.defers = []) (hp : a.tmps.getD p undef = .pointer (some ⟨g, 0, none⟩)) (hq : a.tmps.getD q undef = .pointer (some ⟨g2, 0, none⟩)) (hS : St W l w) (hm : (g, T, cs) ∈ l) (hm2 : (g2, T2, cs2) ∈ l) (hn : cs.size = n) (hn2 : cs2.size = n2) (ht : aggOf P ty n = true) (ht2 : aggOf P ty2 n2 = true)
    (h : E (.returned (.tuple #[.agg cs, .agg cs2])) w) : bodyPost P fn E .ret a w := by
  refine bodyPost_ret (v := .tuple #[.agg cs, .agg cs2]) ?_ hd h
  have hp' : a.tmps[p]?.getD undef = .pointer (some ⟨g, 0, none⟩) := by simpa using hp
  have hq' : a.tmps[q]?.getD undef = .pointer (some ⟨g2, 0, none⟩) := by simpa using hq
  simp [results, hr, hp', hq', asAddr, run_load_whole (hS.blk _ hm).2 hn ht, run_load_whole (hS.blk _ hm2).2 hn2 ht2]
set_option maxHeartbeats 2000000 in
set_option maxRecDepth 20000 in
theorem narrow_w {k : Nat} {pxl pxh : Rat} {pxg : Bool} {px1 px2 : RT} {pyl pyh : Rat} {pyg : Bool} {py1 py2 : RT} {ptl pth : Rat} {ptg : Bool} {pt1 pt2 : RT} {qxl qxh : Rat} {qxg : Bool} {qx1 qx2 : RT} {qyl qyh : Rat} {qyg : Bool} {qy1 qy2 : RT} {qtl qth : Rat} {qtg : Bool} {qt1 qt2 : RT} {W : World} {l : List Own} (hT : Tab W) (Zpx : RawS k pxl pxh pxg px1 px2) (Zpy : RawS k pyl pyh pyg py1 py2) (Zpt : RawS k ptl pth ptg pt1 pt2) (Zqx : RawS k qxl qxh qxg qx1 qx2) (Zqy : RawS k qyl qyh qyg qy1 qy2) (Zqt : RawS k qtl qth qtg qt1 qt2) (hk0 : 2 ≤ k) (hk : k ≤ 999999999994) (w : World) (h : St W l w) :
    Calls Tryd.prog 21 #[.agg (PW px1 px2 py1 py2 pt1 pt2), .agg (PW qx1 qx2 qy1 qy2 qt1 qt2)] w fun e w' => e = .returned (naQ pxl pxh pyl pyh ptl pth qxl qxh qyl qyh qtl qth) ∧ Below w.heap.size w w' := by
  have HT := Lib.hid (tabS hT h); clear hT h
  have Z_px := Lib.hid Zpx; clear Zpx
  have Z_py := Lib.hid Zpy; clear Zpy
  have Z_pt := Lib.hid Zpt; clear Zpt
  have Z_qx := Lib.hid Zqx; clear Zqx
  have Z_qy := Lib.hid Zqy; clear Zqy
  have Z_qt := Lib.hid Zqt; clear Zqt
  obtain ⟨c1, hb1⟩ : ∃ b, decide (maxQ pxl qxl ≤ minQ pxh qxh) = b := ⟨_, rfl⟩
  obtain ⟨c2, hb2⟩ : ∃ b, decide (maxQ pyl qyl ≤ minQ pyh qyh) = b := ⟨_, rfl⟩
  obtain ⟨c3, hb3⟩ : ∃ b, decide (maxQ ptl qtl ≤ minQ pth qth) = b := ⟨_, rfl⟩
  have hsp : c1 = false ∨ (c1 = true ∧ c2 = false) ∨ (c1 = true ∧ c2 = true ∧ c3 = false) ∨ (c1 = true ∧ c2 = true ∧ c3 = true) := by cases c1 <;> cases c2 <;> cases c3 <;> simp
  rcases hsp with rfl | ⟨rfl, rfl⟩ | ⟨rfl, rfl, rfl⟩ | ⟨rfl, rfl, rfl⟩
  · have HR := Lib.hid (show Value.tuple #[.agg z18, .int .i64 4] = naQ pxl pxh pyl pyh ptl pth qxl qxh qyl qyh qtl qth from by unfold naQ; rw [okQ_of, hb1, hb2, hb3]; rfl)
    have B1 := Lib.hid hb1; clear hb1
    have B2 := Lib.hid hb2; clear hb2
    have B3 := Lib.hid hb3; clear hb3
    go_enter Tryd.func21, Tryd.ntmps21
    have HS : St w [] w := St.start
    go_upto_region 0 with (fail)
    refine wp_seq_text [] (StR.no HS) ?_
    refine Seq.box rfl rfl rfl (v := .agg (PW px1 px2 py1 py2 pt1 pt2)) (cs := PW px1 px2 py1 py2 pt1 pt2) rfl rfl ?_
    intro bk2 _ _ hbk2_r
    simp only [Act.put, nA, nB, nC]
    refine Seq.box rfl rfl rfl (v := .agg (PW qx1 qx2 qy1 qy2 qt1 qt2)) (cs := PW qx1 qx2 qy1 qy2 qt1 qt2) rfl rfl ?_
    intro bk3 _ _ hbk3_r
    obtain ⟨ne_bk3_bk2, hbk3_r⟩ := Reg.ne_of_put hbk3_r
    have ne_bk2_bk3 := Ne.symm ne_bk3_bk2
    simp only [Act.put, nA, nB, nC]
    refine Seq.alloc rfl rfl rfl (z := .agg (PW rz0 rz0 rz0 rz0 rz0 rz0)) (by kernel_rfl) rfl ?_
    intro bk4 _ _ hbk4_r
    obtain ⟨ne_bk4_bk3, hbk4_r⟩ := Reg.ne_of_put hbk4_r
    have ne_bk3_bk4 := Ne.symm ne_bk4_bk3
    obtain ⟨ne_bk4_bk2, hbk4_r⟩ := Reg.ne_of_put hbk4_r
    have ne_bk2_bk4 := Ne.symm ne_bk4_bk2
    simp only [Act.put, nA, nB, nC]
    refine Seq.pure rfl rfl (by intro w; go_simp; try rfl) ?_
    simp only [Act.put, nA, nB, nC]
    refine Seq.done fun ws1 hws => ?_
    have HS1 := hws.list3 (p := bk2) (q := bk3) (r := bk4) (by repeat (first | exact rS | refine rN (by assumption) ?_)) (by repeat (first | exact rS | refine rN (by assumption) ?_)) (by repeat (first | exact rS | refine rN (by assumption) ?_)) (by assumption) (by assumption) (by assumption)
    clear HS hws
    go_upto_region 1 with (fail)
    refine wp_seq_text [] (StR.no HS1) ?_
    refine Seq.pure rfl rfl (by intro w; go_simp; try rfl) ?_
    simp only [Act.put, nA, nB, nC]
    refine Seq.loadAt rfl rfl rfl rfl (by repeat (first | exact mC | apply mT)) (n := 6) (cs' := SW px1 px2) (Nat.le_of_ble_eq_true rfl) (by kernel_rfl) rfl ?_
    simp only [Act.put, nA, nB, nC]
    refine Seq.pure rfl rfl (by intro w; go_simp; try rfl) ?_
    simp only [Act.put, nA, nB, nC]
    refine Seq.loadAt rfl rfl rfl rfl (by repeat (first | exact mC | apply mT)) (n := 6) (cs' := SW qx1 qx2) (Nat.le_of_ble_eq_true rfl) (by kernel_rfl) rfl ?_
    simp only [Act.put, nA, nB, nC]
    refine Seq.call rfl rfl rfl rfl (by kernel_rfl) (meet_w (k := (1 * k + 2)) (a1 := px1) (a2 := px2) (b1 := qx1) (b2 := qx2) HT.out (Z_px.out.more (by omega)) (Z_qx.out.more (by omega))  rfl rfl B1.out (by omega) (by omega)) ?_
    simp only [Act.put, nA, nB, nC]
    refine Seq.pure rfl rfl (by intro w; go_simp; try rfl) ?_
    simp only [Act.put, nA, nB, nC]
    refine Seq.pure (v := .agg (VC (maxQ pxl qxl) (minQ pxh qxh))) rfl rfl (fun w => rfl) ?_
    simp only [Act.put, nA, nB, nC]
    refine Seq.pure (v := .bool false) rfl rfl (fun w => rfl) ?_
    simp only [Act.put, nA, nB, nC]
    refine Seq.alloc rfl rfl rfl (z := .agg (SW rz0 rz0)) (by kernel_rfl) rfl ?_
    intro bk6 _ _ hbk6_r
    simp only [Act.put, nA, nB, nC]
    refine Seq.store rfl rfl rfl rfl rfl (by repeat (first | exact rS | refine rN (by assumption) ?_)) (n := 6) rfl rfl (by kernel_rfl) (VC_one _ _) ?_
    simp only [Act.put, nA, nB, nC]
    refine Seq.pure rfl rfl (by intro w; go_simp; try rfl) ?_
    simp only [Act.put, nA, nB, nC]
    refine Seq.done fun ws2 hws => ?_
    have HS2 := hws.list1 (p := bk6) (by repeat (first | exact rS | refine rN (by assumption) ?_))
    clear HS1 hws
    go_upto_region 2 with (fail)
    refine wp_seq_text [] (StR.no HS2) ?_
    refine Seq.pure rfl rfl (by intro w; go_simp; try rfl) ?_
    simp only [Act.put, nA, nB, nC]
    refine Seq.loadAt rfl rfl rfl rfl (by repeat (first | exact mC | apply mT)) (n := 6) (cs' := SW py1 py2) (Nat.le_of_ble_eq_true rfl) (by kernel_rfl) rfl ?_
    simp only [Act.put, nA, nB, nC]
    refine Seq.pure rfl rfl (by intro w; go_simp; try rfl) ?_
    simp only [Act.put, nA, nB, nC]
    refine Seq.loadAt rfl rfl rfl rfl (by repeat (first | exact mC | apply mT)) (n := 6) (cs' := SW qy1 qy2) (Nat.le_of_ble_eq_true rfl) (by kernel_rfl) rfl ?_
    simp only [Act.put, nA, nB, nC]
    refine Seq.call rfl rfl rfl rfl (by kernel_rfl) (meet_w (k := (1 * k + 2)) (a1 := py1) (a2 := py2) (b1 := qy1) (b2 := qy2) HT.out (Z_py.out.more (by omega)) (Z_qy.out.more (by omega))  rfl rfl B2.out (by omega) (by omega)) ?_
    simp only [Act.put, nA, nB, nC]
    refine Seq.pure rfl rfl (by intro w; go_simp; try rfl) ?_
    simp only [Act.put, nA, nB, nC]
    refine Seq.pure (v := .agg (VC (maxQ pyl qyl) (minQ pyh qyh))) rfl rfl (fun w => rfl) ?_
    simp only [Act.put, nA, nB, nC]
    refine Seq.pure (v := .bool c2) rfl rfl (fun w => rfl) ?_
    simp only [Act.put, nA, nB, nC]
    refine Seq.alloc rfl rfl rfl (z := .agg (SW rz0 rz0)) (by kernel_rfl) rfl ?_
    intro bk8 _ _ hbk8_r
    simp only [Act.put, nA, nB, nC]
    refine Seq.store rfl rfl rfl rfl rfl (by repeat (first | exact rS | refine rN (by assumption) ?_)) (n := 6) rfl rfl (by kernel_rfl) (VC_one _ _) ?_
    simp only [Act.put, nA, nB, nC]
    refine Seq.pure rfl rfl (by intro w; go_simp; try rfl) ?_
    simp only [Act.put, nA, nB, nC]
    refine Seq.done fun ws3 hws => ?_
    have HS3 := hws.list1 (p := bk8) (by repeat (first | exact rS | refine rN (by assumption) ?_))
    clear HS2 hws
    go_upto_region 3 with (fail)
    refine wp_seq_text [] (StR.no HS3) ?_
    refine Seq.pure rfl rfl (by intro w; go_simp; try rfl) ?_
    simp only [Act.put, nA, nB, nC]
    refine Seq.loadAt rfl rfl rfl rfl (by repeat (first | exact mC | apply mT)) (n := 6) (cs' := SW pt1 pt2) (Nat.le_of_ble_eq_true rfl) (by kernel_rfl) rfl ?_
    simp only [Act.put, nA, nB, nC]
    refine Seq.pure rfl rfl (by intro w; go_simp; try rfl) ?_
    simp only [Act.put, nA, nB, nC]
    refine Seq.loadAt rfl rfl rfl rfl (by repeat (first | exact mC | apply mT)) (n := 6) (cs' := SW qt1 qt2) (Nat.le_of_ble_eq_true rfl) (by kernel_rfl) rfl ?_
    simp only [Act.put, nA, nB, nC]
    refine Seq.call rfl rfl rfl rfl (by kernel_rfl) (meet_w (k := (1 * k + 2)) (a1 := pt1) (a2 := pt2) (b1 := qt1) (b2 := qt2) HT.out (Z_pt.out.more (by omega)) (Z_qt.out.more (by omega))  rfl rfl B3.out (by omega) (by omega)) ?_
    simp only [Act.put, nA, nB, nC]
    refine Seq.pure rfl rfl (by intro w; go_simp; try rfl) ?_
    simp only [Act.put, nA, nB, nC]
    refine Seq.pure (v := .agg (VC (maxQ ptl qtl) (minQ pth qth))) rfl rfl (fun w => rfl) ?_
    simp only [Act.put, nA, nB, nC]
    refine Seq.pure (v := .bool c3) rfl rfl (fun w => rfl) ?_
    simp only [Act.put, nA, nB, nC]
    refine Seq.alloc rfl rfl rfl (z := .agg (SW rz0 rz0)) (by kernel_rfl) rfl ?_
    intro bk10 _ _ hbk10_r
    simp only [Act.put, nA, nB, nC]
    refine Seq.store rfl rfl rfl rfl rfl (by repeat (first | exact rS | refine rN (by assumption) ?_)) (n := 6) rfl rfl (by kernel_rfl) (VC_one _ _) ?_
    simp only [Act.put, nA, nB, nC]
    refine Seq.pure rfl rfl (by intro w; go_simp; try rfl) ?_
    simp only [Act.put, nA, nB, nC]
    refine Seq.done fun ws4 hws => ?_
    have HS4 := hws.list1 (p := bk10) (by repeat (first | exact rS | refine rN (by assumption) ?_))
    clear HS3 hws
    go_upto_region 4 with (fail)
    refine wp_seq_text [] (StR.no HS4) ?_
    iterate 3 (refine Seq.pure rfl rfl (by intro w; go_simp; try rfl) ?_; simp only [Act.put, nA, nB, nC])
    iterate 2 (refine Seq.nw rfl ?_; simp only [Act.put, nA, nB, nC])
    iterate 2 (refine Seq.pure rfl rfl (by intro w; go_simp; try rfl) ?_; simp only [Act.put, nA, nB, nC])
    iterate 2 (refine Seq.nw rfl ?_; simp only [Act.put, nA, nB, nC])
    refine Seq.pure rfl rfl (by intro w; go_simp; try rfl) ?_
    simp only [Act.put, nA, nB, nC]
    refine Seq.done fun ws5 hws => ?_
    have HS5 := hws.st
    clear HS4 hws
    go_upto_region 5 with (fail)
    have HPbk4 := HS5.f5
    refine wp_seq_text [] (StR.move (StR.no HPbk4)) ?_
    refine Seq.pure (v := .agg (PW rz0 rz0 rz0 rz0 rz0 rz0)) rfl rfl (by intro w; go_simp; try rfl) ?_
    simp only [Act.put, nA, nB, nC]
    refine Seq.store rfl rfl rfl rfl rfl (by repeat (first | exact rS | refine rN (by assumption) ?_)) (n := 18) rfl rfl (by kernel_rfl) (PW_one _ _ _ _ _ _) ?_
    simp only [Act.put, nA, nB, nC]
    refine Seq.pure rfl rfl (by intro w; go_simp; try rfl) ?_
    simp only [Act.put, nA, nB, nC]
    refine Seq.done fun ws6 hws => ?_
    have HS6 := hws.list1 (p := bk4) (by repeat (first | exact rS | refine rN (by assumption) ?_))
    clear HS5 hws HPbk4
    go_wp2_with fail
    exact ret_own2 rfl rfl rfl rfl HS6 (by repeat (first | exact mC | apply mT)) (n := 18) rfl (by kernel_rfl) ⟨congrArg Ending.returned HR.out, HS6.below⟩
  · have HR := Lib.hid (show Value.tuple #[.agg z18, .int .i64 4] = naQ pxl pxh pyl pyh ptl pth qxl qxh qyl qyh qtl qth from by unfold naQ; rw [okQ_of, hb1, hb2, hb3]; rfl)
    have B1 := Lib.hid hb1; clear hb1
    have B2 := Lib.hid hb2; clear hb2
    have B3 := Lib.hid hb3; clear hb3
    go_enter Tryd.func21, Tryd.ntmps21
    have HS : St w [] w := St.start
    go_upto_region 0 with (fail)
    refine wp_seq_text [] (StR.no HS) ?_
    refine Seq.box rfl rfl rfl (v := .agg (PW px1 px2 py1 py2 pt1 pt2)) (cs := PW px1 px2 py1 py2 pt1 pt2) rfl rfl ?_
    intro bk2 _ _ hbk2_r
    simp only [Act.put, nA, nB, nC]
    refine Seq.box rfl rfl rfl (v := .agg (PW qx1 qx2 qy1 qy2 qt1 qt2)) (cs := PW qx1 qx2 qy1 qy2 qt1 qt2) rfl rfl ?_
    intro bk3 _ _ hbk3_r
    obtain ⟨ne_bk3_bk2, hbk3_r⟩ := Reg.ne_of_put hbk3_r
    have ne_bk2_bk3 := Ne.symm ne_bk3_bk2
    simp only [Act.put, nA, nB, nC]
    refine Seq.alloc rfl rfl rfl (z := .agg (PW rz0 rz0 rz0 rz0 rz0 rz0)) (by kernel_rfl) rfl ?_
    intro bk4 _ _ hbk4_r
    obtain ⟨ne_bk4_bk3, hbk4_r⟩ := Reg.ne_of_put hbk4_r
    have ne_bk3_bk4 := Ne.symm ne_bk4_bk3
    obtain ⟨ne_bk4_bk2, hbk4_r⟩ := Reg.ne_of_put hbk4_r
    have ne_bk2_bk4 := Ne.symm ne_bk4_bk2
    simp only [Act.put, nA, nB, nC]
    refine Seq.pure rfl rfl (by intro w; go_simp; try rfl) ?_
    simp only [Act.put, nA, nB, nC]
    refine Seq.done fun ws1 hws => ?_
    have HS1 := hws.list3 (p := bk2) (q := bk3) (r := bk4) (by repeat (first | exact rS | refine rN (by assumption) ?_)) (by repeat (first | exact rS | refine rN (by assumption) ?_)) (by repeat (first | exact rS | refine rN (by assumption) ?_)) (by assumption) (by assumption) (by assumption)
    clear HS hws
    go_upto_region 1 with (fail)
    refine wp_seq_text [] (StR.no HS1) ?_
    refine Seq.pure rfl rfl (by intro w; go_simp; try rfl) ?_
    simp only [Act.put, nA, nB, nC]
    refine Seq.loadAt rfl rfl rfl rfl (by repeat (first | exact mC | apply mT)) (n := 6) (cs' := SW px1 px2) (Nat.le_of_ble_eq_true rfl) (by kernel_rfl) rfl ?_
    simp only [Act.put, nA, nB, nC]
    refine Seq.pure rfl rfl (by intro w; go_simp; try rfl) ?_
    simp only [Act.put, nA, nB, nC]
    refine Seq.loadAt rfl rfl rfl rfl (by repeat (first | exact mC | apply mT)) (n := 6) (cs' := SW qx1 qx2) (Nat.le_of_ble_eq_true rfl) (by kernel_rfl) rfl ?_
    simp only [Act.put, nA, nB, nC]
    refine Seq.call rfl rfl rfl rfl (by kernel_rfl) (meet_w (k := (1 * k + 2)) (a1 := px1) (a2 := px2) (b1 := qx1) (b2 := qx2) HT.out (Z_px.out.more (by omega)) (Z_qx.out.more (by omega))  rfl rfl B1.out (by omega) (by omega)) ?_
    simp only [Act.put, nA, nB, nC]
    refine Seq.pure rfl rfl (by intro w; go_simp; try rfl) ?_
    simp only [Act.put, nA, nB, nC]
    refine Seq.pure (v := .agg (VC (maxQ pxl qxl) (minQ pxh qxh))) rfl rfl (fun w => rfl) ?_
    simp only [Act.put, nA, nB, nC]
    refine Seq.pure (v := .bool true) rfl rfl (fun w => rfl) ?_
    simp only [Act.put, nA, nB, nC]
    refine Seq.alloc rfl rfl rfl (z := .agg (SW rz0 rz0)) (by kernel_rfl) rfl ?_
    intro bk6 _ _ hbk6_r
    simp only [Act.put, nA, nB, nC]
    refine Seq.store rfl rfl rfl rfl rfl (by repeat (first | exact rS | refine rN (by assumption) ?_)) (n := 6) rfl rfl (by kernel_rfl) (VC_one _ _) ?_
    simp only [Act.put, nA, nB, nC]
    refine Seq.pure rfl rfl (by intro w; go_simp; try rfl) ?_
    simp only [Act.put, nA, nB, nC]
    refine Seq.done fun ws2 hws => ?_
    have HS2 := hws.list1 (p := bk6) (by repeat (first | exact rS | refine rN (by assumption) ?_))
    clear HS1 hws
    go_upto_region 2 with (fail)
    refine wp_seq_text [] (StR.no HS2) ?_
    refine Seq.pure rfl rfl (by intro w; go_simp; try rfl) ?_
    simp only [Act.put, nA, nB, nC]
    refine Seq.loadAt rfl rfl rfl rfl (by repeat (first | exact mC | apply mT)) (n := 6) (cs' := SW py1 py2) (Nat.le_of_ble_eq_true rfl) (by kernel_rfl) rfl ?_
    simp only [Act.put, nA, nB, nC]
    refine Seq.pure rfl rfl (by intro w; go_simp; try rfl) ?_
    simp only [Act.put, nA, nB, nC]
    refine Seq.loadAt rfl rfl rfl rfl (by repeat (first | exact mC | apply mT)) (n := 6) (cs' := SW qy1 qy2) (Nat.le_of_ble_eq_true rfl) (by kernel_rfl) rfl ?_
    simp only [Act.put, nA, nB, nC]
    refine Seq.call rfl rfl rfl rfl (by kernel_rfl) (meet_w (k := (1 * k + 2)) (a1 := py1) (a2 := py2) (b1 := qy1) (b2 := qy2) HT.out (Z_py.out.more (by omega)) (Z_qy.out.more (by omega))  rfl rfl B2.out (by omega) (by omega)) ?_
    simp only [Act.put, nA, nB, nC]
    refine Seq.pure rfl rfl (by intro w; go_simp; try rfl) ?_
    simp only [Act.put, nA, nB, nC]
    refine Seq.pure (v := .agg (VC (maxQ pyl qyl) (minQ pyh qyh))) rfl rfl (fun w => rfl) ?_
    simp only [Act.put, nA, nB, nC]
    refine Seq.pure (v := .bool false) rfl rfl (fun w => rfl) ?_
    simp only [Act.put, nA, nB, nC]
    refine Seq.alloc rfl rfl rfl (z := .agg (SW rz0 rz0)) (by kernel_rfl) rfl ?_
    intro bk8 _ _ hbk8_r
    simp only [Act.put, nA, nB, nC]
    refine Seq.store rfl rfl rfl rfl rfl (by repeat (first | exact rS | refine rN (by assumption) ?_)) (n := 6) rfl rfl (by kernel_rfl) (VC_one _ _) ?_
    simp only [Act.put, nA, nB, nC]
    refine Seq.pure rfl rfl (by intro w; go_simp; try rfl) ?_
    simp only [Act.put, nA, nB, nC]
    refine Seq.done fun ws3 hws => ?_
    have HS3 := hws.list1 (p := bk8) (by repeat (first | exact rS | refine rN (by assumption) ?_))
    clear HS2 hws
    go_upto_region 3 with (fail)
    refine wp_seq_text [] (StR.no HS3) ?_
    refine Seq.pure rfl rfl (by intro w; go_simp; try rfl) ?_
    simp only [Act.put, nA, nB, nC]
    refine Seq.loadAt rfl rfl rfl rfl (by repeat (first | exact mC | apply mT)) (n := 6) (cs' := SW pt1 pt2) (Nat.le_of_ble_eq_true rfl) (by kernel_rfl) rfl ?_
    simp only [Act.put, nA, nB, nC]
    refine Seq.pure rfl rfl (by intro w; go_simp; try rfl) ?_
    simp only [Act.put, nA, nB, nC]
    refine Seq.loadAt rfl rfl rfl rfl (by repeat (first | exact mC | apply mT)) (n := 6) (cs' := SW qt1 qt2) (Nat.le_of_ble_eq_true rfl) (by kernel_rfl) rfl ?_
    simp only [Act.put, nA, nB, nC]
    refine Seq.call rfl rfl rfl rfl (by kernel_rfl) (meet_w (k := (1 * k + 2)) (a1 := pt1) (a2 := pt2) (b1 := qt1) (b2 := qt2) HT.out (Z_pt.out.more (by omega)) (Z_qt.out.more (by omega))  rfl rfl B3.out (by omega) (by omega)) ?_
    simp only [Act.put, nA, nB, nC]
    refine Seq.pure rfl rfl (by intro w; go_simp; try rfl) ?_
    simp only [Act.put, nA, nB, nC]
    refine Seq.pure (v := .agg (VC (maxQ ptl qtl) (minQ pth qth))) rfl rfl (fun w => rfl) ?_
    simp only [Act.put, nA, nB, nC]
    refine Seq.pure (v := .bool c3) rfl rfl (fun w => rfl) ?_
    simp only [Act.put, nA, nB, nC]
    refine Seq.alloc rfl rfl rfl (z := .agg (SW rz0 rz0)) (by kernel_rfl) rfl ?_
    intro bk10 _ _ hbk10_r
    simp only [Act.put, nA, nB, nC]
    refine Seq.store rfl rfl rfl rfl rfl (by repeat (first | exact rS | refine rN (by assumption) ?_)) (n := 6) rfl rfl (by kernel_rfl) (VC_one _ _) ?_
    simp only [Act.put, nA, nB, nC]
    refine Seq.pure rfl rfl (by intro w; go_simp; try rfl) ?_
    simp only [Act.put, nA, nB, nC]
    refine Seq.done fun ws4 hws => ?_
    have HS4 := hws.list1 (p := bk10) (by repeat (first | exact rS | refine rN (by assumption) ?_))
    clear HS3 hws
    go_upto_region 4 with (fail)
    refine wp_seq_text [] (StR.no HS4) ?_
    iterate 7 (refine Seq.pure rfl rfl (by intro w; go_simp; try rfl) ?_; simp only [Act.put, nA, nB, nC])
    iterate 2 (refine Seq.nw rfl ?_; simp only [Act.put, nA, nB, nC])
    refine Seq.pure rfl rfl (by intro w; go_simp; try rfl) ?_
    simp only [Act.put, nA, nB, nC]
    refine Seq.done fun ws5 hws => ?_
    have HS5 := hws.st
    clear HS4 hws
    go_upto_region 5 with (fail)
    have HPbk4 := HS5.f5
    refine wp_seq_text [] (StR.move (StR.no HPbk4)) ?_
    refine Seq.pure (v := .agg (PW rz0 rz0 rz0 rz0 rz0 rz0)) rfl rfl (by intro w; go_simp; try rfl) ?_
    simp only [Act.put, nA, nB, nC]
    refine Seq.store rfl rfl rfl rfl rfl (by repeat (first | exact rS | refine rN (by assumption) ?_)) (n := 18) rfl rfl (by kernel_rfl) (PW_one _ _ _ _ _ _) ?_
    simp only [Act.put, nA, nB, nC]
    refine Seq.pure rfl rfl (by intro w; go_simp; try rfl) ?_
    simp only [Act.put, nA, nB, nC]
    refine Seq.done fun ws6 hws => ?_
    have HS6 := hws.list1 (p := bk4) (by repeat (first | exact rS | refine rN (by assumption) ?_))
    clear HS5 hws HPbk4
    go_wp2_with fail
    exact ret_own2 rfl rfl rfl rfl HS6 (by repeat (first | exact mC | apply mT)) (n := 18) rfl (by kernel_rfl) ⟨congrArg Ending.returned HR.out, HS6.below⟩
  · have HR := Lib.hid (show Value.tuple #[.agg z18, .int .i64 4] = naQ pxl pxh pyl pyh ptl pth qxl qxh qyl qyh qtl qth from by unfold naQ; rw [okQ_of, hb1, hb2, hb3]; rfl)
    have B1 := Lib.hid hb1; clear hb1
    have B2 := Lib.hid hb2; clear hb2
    have B3 := Lib.hid hb3; clear hb3
    go_enter Tryd.func21, Tryd.ntmps21
    have HS : St w [] w := St.start
    go_upto_region 0 with (fail)
    refine wp_seq_text [] (StR.no HS) ?_
    refine Seq.box rfl rfl rfl (v := .agg (PW px1 px2 py1 py2 pt1 pt2)) (cs := PW px1 px2 py1 py2 pt1 pt2) rfl rfl ?_
    intro bk2 _ _ hbk2_r
    simp only [Act.put, nA, nB, nC]
    refine Seq.box rfl rfl rfl (v := .agg (PW qx1 qx2 qy1 qy2 qt1 qt2)) (cs := PW qx1 qx2 qy1 qy2 qt1 qt2) rfl rfl ?_
    intro bk3 _ _ hbk3_r
    obtain ⟨ne_bk3_bk2, hbk3_r⟩ := Reg.ne_of_put hbk3_r
    have ne_bk2_bk3 := Ne.symm ne_bk3_bk2
    simp only [Act.put, nA, nB, nC]
    refine Seq.alloc rfl rfl rfl (z := .agg (PW rz0 rz0 rz0 rz0 rz0 rz0)) (by kernel_rfl) rfl ?_
    intro bk4 _ _ hbk4_r
    obtain ⟨ne_bk4_bk3, hbk4_r⟩ := Reg.ne_of_put hbk4_r
    have ne_bk3_bk4 := Ne.symm ne_bk4_bk3
    obtain ⟨ne_bk4_bk2, hbk4_r⟩ := Reg.ne_of_put hbk4_r
    have ne_bk2_bk4 := Ne.symm ne_bk4_bk2
    simp only [Act.put, nA, nB, nC]
    refine Seq.pure rfl rfl (by intro w; go_simp; try rfl) ?_
    simp only [Act.put, nA, nB, nC]
    refine Seq.done fun ws1 hws => ?_
    have HS1 := hws.list3 (p := bk2) (q := bk3) (r := bk4) (by repeat (first | exact rS | refine rN (by assumption) ?_)) (by repeat (first | exact rS | refine rN (by assumption) ?_)) (by repeat (first | exact rS | refine rN (by assumption) ?_)) (by assumption) (by assumption) (by assumption)
    clear HS hws
    go_upto_region 1 with (fail)
    refine wp_seq_text [] (StR.no HS1) ?_
    refine Seq.pure rfl rfl (by intro w; go_simp; try rfl) ?_
    simp only [Act.put, nA, nB, nC]
    refine Seq.loadAt rfl rfl rfl rfl (by repeat (first | exact mC | apply mT)) (n := 6) (cs' := SW px1 px2) (Nat.le_of_ble_eq_true rfl) (by kernel_rfl) rfl ?_
    simp only [Act.put, nA, nB, nC]
    refine Seq.pure rfl rfl (by intro w; go_simp; try rfl) ?_
    simp only [Act.put, nA, nB, nC]
    refine Seq.loadAt rfl rfl rfl rfl (by repeat (first | exact mC | apply mT)) (n := 6) (cs' := SW qx1 qx2) (Nat.le_of_ble_eq_true rfl) (by kernel_rfl) rfl ?_
    simp only [Act.put, nA, nB, nC]
    refine Seq.call rfl rfl rfl rfl (by kernel_rfl) (meet_w (k := (1 * k + 2)) (a1 := px1) (a2 := px2) (b1 := qx1) (b2 := qx2) HT.out (Z_px.out.more (by omega)) (Z_qx.out.more (by omega))  rfl rfl B1.out (by omega) (by omega)) ?_
    simp only [Act.put, nA, nB, nC]
    refine Seq.pure rfl rfl (by intro w; go_simp; try rfl) ?_
    simp only [Act.put, nA, nB, nC]
    refine Seq.pure (v := .agg (VC (maxQ pxl qxl) (minQ pxh qxh))) rfl rfl (fun w => rfl) ?_
    simp only [Act.put, nA, nB, nC]
    refine Seq.pure (v := .bool true) rfl rfl (fun w => rfl) ?_
    simp only [Act.put, nA, nB, nC]
    refine Seq.alloc rfl rfl rfl (z := .agg (SW rz0 rz0)) (by kernel_rfl) rfl ?_
    intro bk6 _ _ hbk6_r
    simp only [Act.put, nA, nB, nC]
    refine Seq.store rfl rfl rfl rfl rfl (by repeat (first | exact rS | refine rN (by assumption) ?_)) (n := 6) rfl rfl (by kernel_rfl) (VC_one _ _) ?_
    simp only [Act.put, nA, nB, nC]
    refine Seq.pure rfl rfl (by intro w; go_simp; try rfl) ?_
    simp only [Act.put, nA, nB, nC]
    refine Seq.done fun ws2 hws => ?_
    have HS2 := hws.list1 (p := bk6) (by repeat (first | exact rS | refine rN (by assumption) ?_))
    clear HS1 hws
    go_upto_region 2 with (fail)
    refine wp_seq_text [] (StR.no HS2) ?_
    refine Seq.pure rfl rfl (by intro w; go_simp; try rfl) ?_
    simp only [Act.put, nA, nB, nC]
    refine Seq.loadAt rfl rfl rfl rfl (by repeat (first | exact mC | apply mT)) (n := 6) (cs' := SW py1 py2) (Nat.le_of_ble_eq_true rfl) (by kernel_rfl) rfl ?_
    simp only [Act.put, nA, nB, nC]
    refine Seq.pure rfl rfl (by intro w; go_simp; try rfl) ?_
    simp only [Act.put, nA, nB, nC]
    refine Seq.loadAt rfl rfl rfl rfl (by repeat (first | exact mC | apply mT)) (n := 6) (cs' := SW qy1 qy2) (Nat.le_of_ble_eq_true rfl) (by kernel_rfl) rfl ?_
    simp only [Act.put, nA, nB, nC]
    refine Seq.call rfl rfl rfl rfl (by kernel_rfl) (meet_w (k := (1 * k + 2)) (a1 := py1) (a2 := py2) (b1 := qy1) (b2 := qy2) HT.out (Z_py.out.more (by omega)) (Z_qy.out.more (by omega))  rfl rfl B2.out (by omega) (by omega)) ?_
    simp only [Act.put, nA, nB, nC]
    refine Seq.pure rfl rfl (by intro w; go_simp; try rfl) ?_
    simp only [Act.put, nA, nB, nC]
    refine Seq.pure (v := .agg (VC (maxQ pyl qyl) (minQ pyh qyh))) rfl rfl (fun w => rfl) ?_
    simp only [Act.put, nA, nB, nC]
    refine Seq.pure (v := .bool true) rfl rfl (fun w => rfl) ?_
    simp only [Act.put, nA, nB, nC]
    refine Seq.alloc rfl rfl rfl (z := .agg (SW rz0 rz0)) (by kernel_rfl) rfl ?_
    intro bk8 _ _ hbk8_r
    simp only [Act.put, nA, nB, nC]
    refine Seq.store rfl rfl rfl rfl rfl (by repeat (first | exact rS | refine rN (by assumption) ?_)) (n := 6) rfl rfl (by kernel_rfl) (VC_one _ _) ?_
    simp only [Act.put, nA, nB, nC]
    refine Seq.pure rfl rfl (by intro w; go_simp; try rfl) ?_
    simp only [Act.put, nA, nB, nC]
    refine Seq.done fun ws3 hws => ?_
    have HS3 := hws.list1 (p := bk8) (by repeat (first | exact rS | refine rN (by assumption) ?_))
    clear HS2 hws
    go_upto_region 3 with (fail)
    refine wp_seq_text [] (StR.no HS3) ?_
    refine Seq.pure rfl rfl (by intro w; go_simp; try rfl) ?_
    simp only [Act.put, nA, nB, nC]
    refine Seq.loadAt rfl rfl rfl rfl (by repeat (first | exact mC | apply mT)) (n := 6) (cs' := SW pt1 pt2) (Nat.le_of_ble_eq_true rfl) (by kernel_rfl) rfl ?_
    simp only [Act.put, nA, nB, nC]
    refine Seq.pure rfl rfl (by intro w; go_simp; try rfl) ?_
    simp only [Act.put, nA, nB, nC]
    refine Seq.loadAt rfl rfl rfl rfl (by repeat (first | exact mC | apply mT)) (n := 6) (cs' := SW qt1 qt2) (Nat.le_of_ble_eq_true rfl) (by kernel_rfl) rfl ?_
    simp only [Act.put, nA, nB, nC]
    refine Seq.call rfl rfl rfl rfl (by kernel_rfl) (meet_w (k := (1 * k + 2)) (a1 := pt1) (a2 := pt2) (b1 := qt1) (b2 := qt2) HT.out (Z_pt.out.more (by omega)) (Z_qt.out.more (by omega))  rfl rfl B3.out (by omega) (by omega)) ?_
    simp only [Act.put, nA, nB, nC]
    refine Seq.pure rfl rfl (by intro w; go_simp; try rfl) ?_
    simp only [Act.put, nA, nB, nC]
    refine Seq.pure (v := .agg (VC (maxQ ptl qtl) (minQ pth qth))) rfl rfl (fun w => rfl) ?_
    simp only [Act.put, nA, nB, nC]
    refine Seq.pure (v := .bool false) rfl rfl (fun w => rfl) ?_
    simp only [Act.put, nA, nB, nC]
    refine Seq.alloc rfl rfl rfl (z := .agg (SW rz0 rz0)) (by kernel_rfl) rfl ?_
    intro bk10 _ _ hbk10_r
    simp only [Act.put, nA, nB, nC]
    refine Seq.store rfl rfl rfl rfl rfl (by repeat (first | exact rS | refine rN (by assumption) ?_)) (n := 6) rfl rfl (by kernel_rfl) (VC_one _ _) ?_
    simp only [Act.put, nA, nB, nC]
    refine Seq.pure rfl rfl (by intro w; go_simp; try rfl) ?_
    simp only [Act.put, nA, nB, nC]
    refine Seq.done fun ws4 hws => ?_
    have HS4 := hws.list1 (p := bk10) (by repeat (first | exact rS | refine rN (by assumption) ?_))
    clear HS3 hws
    go_upto_region 4 with (fail)
    refine wp_seq_text [] (StR.no HS4) ?_
    iterate 10 (refine Seq.pure rfl rfl (by intro w; go_simp; try rfl) ?_; simp only [Act.put, nA, nB, nC])
    refine Seq.done fun ws5 hws => ?_
    have HS5 := hws.st
    clear HS4 hws
    go_upto_region 5 with (fail)
    have HPbk4 := HS5.f5
    refine wp_seq_text [] (StR.move (StR.no HPbk4)) ?_
    refine Seq.pure (v := .agg (PW rz0 rz0 rz0 rz0 rz0 rz0)) rfl rfl (by intro w; go_simp; try rfl) ?_
    simp only [Act.put, nA, nB, nC]
    refine Seq.store rfl rfl rfl rfl rfl (by repeat (first | exact rS | refine rN (by assumption) ?_)) (n := 18) rfl rfl (by kernel_rfl) (PW_one _ _ _ _ _ _) ?_
    simp only [Act.put, nA, nB, nC]
    refine Seq.pure rfl rfl (by intro w; go_simp; try rfl) ?_
    simp only [Act.put, nA, nB, nC]
    refine Seq.done fun ws6 hws => ?_
    have HS6 := hws.list1 (p := bk4) (by repeat (first | exact rS | refine rN (by assumption) ?_))
    clear HS5 hws HPbk4
    go_wp2_with fail
    exact ret_own2 rfl rfl rfl rfl HS6 (by repeat (first | exact mC | apply mT)) (n := 18) rfl (by kernel_rfl) ⟨congrArg Ending.returned HR.out, HS6.below⟩
  · have HR := Lib.hid (show Value.tuple #[.agg (meQ pxl pxh pyl pyh ptl pth qxl qxh qyl qyh qtl qth), .int .i64 0] = naQ pxl pxh pyl pyh ptl pth qxl qxh qyl qyh qtl qth from by unfold naQ; rw [okQ_of, hb1, hb2, hb3]; rfl)
    have B1 := Lib.hid hb1; clear hb1
    have B2 := Lib.hid hb2; clear hb2
    have B3 := Lib.hid hb3; clear hb3
    go_enter Tryd.func21, Tryd.ntmps21
    have HS : St w [] w := St.start
    go_upto_region 0 with (fail)
    refine wp_seq_text [] (StR.no HS) ?_
    refine Seq.box rfl rfl rfl (v := .agg (PW px1 px2 py1 py2 pt1 pt2)) (cs := PW px1 px2 py1 py2 pt1 pt2) rfl rfl ?_
    intro bk2 _ _ hbk2_r
    simp only [Act.put, nA, nB, nC]
    refine Seq.box rfl rfl rfl (v := .agg (PW qx1 qx2 qy1 qy2 qt1 qt2)) (cs := PW qx1 qx2 qy1 qy2 qt1 qt2) rfl rfl ?_
    intro bk3 _ _ hbk3_r
    obtain ⟨ne_bk3_bk2, hbk3_r⟩ := Reg.ne_of_put hbk3_r
    have ne_bk2_bk3 := Ne.symm ne_bk3_bk2
    simp only [Act.put, nA, nB, nC]
    refine Seq.alloc rfl rfl rfl (z := .agg (PW rz0 rz0 rz0 rz0 rz0 rz0)) (by kernel_rfl) rfl ?_
    intro bk4 _ _ hbk4_r
    obtain ⟨ne_bk4_bk3, hbk4_r⟩ := Reg.ne_of_put hbk4_r
    have ne_bk3_bk4 := Ne.symm ne_bk4_bk3
    obtain ⟨ne_bk4_bk2, hbk4_r⟩ := Reg.ne_of_put hbk4_r
    have ne_bk2_bk4 := Ne.symm ne_bk4_bk2
    simp only [Act.put, nA, nB, nC]
    refine Seq.pure rfl rfl (by intro w; go_simp; try rfl) ?_
    simp only [Act.put, nA, nB, nC]
    refine Seq.done fun ws1 hws => ?_
    have HS1 := hws.list3 (p := bk2) (q := bk3) (r := bk4) (by repeat (first | exact rS | refine rN (by assumption) ?_)) (by repeat (first | exact rS | refine rN (by assumption) ?_)) (by repeat (first | exact rS | refine rN (by assumption) ?_)) (by assumption) (by assumption) (by assumption)
    clear HS hws
    go_upto_region 1 with (fail)
    refine wp_seq_text [] (StR.no HS1) ?_
    refine Seq.pure rfl rfl (by intro w; go_simp; try rfl) ?_
    simp only [Act.put, nA, nB, nC]
    refine Seq.loadAt rfl rfl rfl rfl (by repeat (first | exact mC | apply mT)) (n := 6) (cs' := SW px1 px2) (Nat.le_of_ble_eq_true rfl) (by kernel_rfl) rfl ?_
    simp only [Act.put, nA, nB, nC]
    refine Seq.pure rfl rfl (by intro w; go_simp; try rfl) ?_
    simp only [Act.put, nA, nB, nC]
    refine Seq.loadAt rfl rfl rfl rfl (by repeat (first | exact mC | apply mT)) (n := 6) (cs' := SW qx1 qx2) (Nat.le_of_ble_eq_true rfl) (by kernel_rfl) rfl ?_
    simp only [Act.put, nA, nB, nC]
    refine Seq.call rfl rfl rfl rfl (by kernel_rfl) (meet_w (k := (1 * k + 2)) (a1 := px1) (a2 := px2) (b1 := qx1) (b2 := qx2) HT.out (Z_px.out.more (by omega)) (Z_qx.out.more (by omega))  rfl rfl B1.out (by omega) (by omega)) ?_
    simp only [Act.put, nA, nB, nC]
    refine Seq.pure rfl rfl (by intro w; go_simp; try rfl) ?_
    simp only [Act.put, nA, nB, nC]
    refine Seq.pure (v := .agg (VC (maxQ pxl qxl) (minQ pxh qxh))) rfl rfl (fun w => rfl) ?_
    simp only [Act.put, nA, nB, nC]
    refine Seq.pure (v := .bool true) rfl rfl (fun w => rfl) ?_
    simp only [Act.put, nA, nB, nC]
    refine Seq.alloc rfl rfl rfl (z := .agg (SW rz0 rz0)) (by kernel_rfl) rfl ?_
    intro bk6 _ _ hbk6_r
    simp only [Act.put, nA, nB, nC]
    refine Seq.store rfl rfl rfl rfl rfl (by repeat (first | exact rS | refine rN (by assumption) ?_)) (n := 6) rfl rfl (by kernel_rfl) (VC_one _ _) ?_
    simp only [Act.put, nA, nB, nC]
    refine Seq.pure rfl rfl (by intro w; go_simp; try rfl) ?_
    simp only [Act.put, nA, nB, nC]
    refine Seq.done fun ws2 hws => ?_
    have HS2 := hws.list1 (p := bk6) (by repeat (first | exact rS | refine rN (by assumption) ?_))
    clear HS1 hws
    go_upto_region 2 with (fail)
    refine wp_seq_text [] (StR.no HS2) ?_
    refine Seq.pure rfl rfl (by intro w; go_simp; try rfl) ?_
    simp only [Act.put, nA, nB, nC]
    refine Seq.loadAt rfl rfl rfl rfl (by repeat (first | exact mC | apply mT)) (n := 6) (cs' := SW py1 py2) (Nat.le_of_ble_eq_true rfl) (by kernel_rfl) rfl ?_
    simp only [Act.put, nA, nB, nC]
    refine Seq.pure rfl rfl (by intro w; go_simp; try rfl) ?_
    simp only [Act.put, nA, nB, nC]
    refine Seq.loadAt rfl rfl rfl rfl (by repeat (first | exact mC | apply mT)) (n := 6) (cs' := SW qy1 qy2) (Nat.le_of_ble_eq_true rfl) (by kernel_rfl) rfl ?_
    simp only [Act.put, nA, nB, nC]
    refine Seq.call rfl rfl rfl rfl (by kernel_rfl) (meet_w (k := (1 * k + 2)) (a1 := py1) (a2 := py2) (b1 := qy1) (b2 := qy2) HT.out (Z_py.out.more (by omega)) (Z_qy.out.more (by omega))  rfl rfl B2.out (by omega) (by omega)) ?_
    simp only [Act.put, nA, nB, nC]
    refine Seq.pure rfl rfl (by intro w; go_simp; try rfl) ?_
    simp only [Act.put, nA, nB, nC]
    refine Seq.pure (v := .agg (VC (maxQ pyl qyl) (minQ pyh qyh))) rfl rfl (fun w => rfl) ?_
    simp only [Act.put, nA, nB, nC]
    refine Seq.pure (v := .bool true) rfl rfl (fun w => rfl) ?_
    simp only [Act.put, nA, nB, nC]
    refine Seq.alloc rfl rfl rfl (z := .agg (SW rz0 rz0)) (by kernel_rfl) rfl ?_
    intro bk8 _ _ hbk8_r
    simp only [Act.put, nA, nB, nC]
    refine Seq.store rfl rfl rfl rfl rfl (by repeat (first | exact rS | refine rN (by assumption) ?_)) (n := 6) rfl rfl (by kernel_rfl) (VC_one _ _) ?_
    simp only [Act.put, nA, nB, nC]
    refine Seq.pure rfl rfl (by intro w; go_simp; try rfl) ?_
    simp only [Act.put, nA, nB, nC]
    refine Seq.done fun ws3 hws => ?_
    have HS3 := hws.list1 (p := bk8) (by repeat (first | exact rS | refine rN (by assumption) ?_))
    clear HS2 hws
    go_upto_region 3 with (fail)
    refine wp_seq_text [] (StR.no HS3) ?_
    refine Seq.pure rfl rfl (by intro w; go_simp; try rfl) ?_
    simp only [Act.put, nA, nB, nC]
    refine Seq.loadAt rfl rfl rfl rfl (by repeat (first | exact mC | apply mT)) (n := 6) (cs' := SW pt1 pt2) (Nat.le_of_ble_eq_true rfl) (by kernel_rfl) rfl ?_
    simp only [Act.put, nA, nB, nC]
    refine Seq.pure rfl rfl (by intro w; go_simp; try rfl) ?_
    simp only [Act.put, nA, nB, nC]
    refine Seq.loadAt rfl rfl rfl rfl (by repeat (first | exact mC | apply mT)) (n := 6) (cs' := SW qt1 qt2) (Nat.le_of_ble_eq_true rfl) (by kernel_rfl) rfl ?_
    simp only [Act.put, nA, nB, nC]
    refine Seq.call rfl rfl rfl rfl (by kernel_rfl) (meet_w (k := (1 * k + 2)) (a1 := pt1) (a2 := pt2) (b1 := qt1) (b2 := qt2) HT.out (Z_pt.out.more (by omega)) (Z_qt.out.more (by omega))  rfl rfl B3.out (by omega) (by omega)) ?_
    simp only [Act.put, nA, nB, nC]
    refine Seq.pure rfl rfl (by intro w; go_simp; try rfl) ?_
    simp only [Act.put, nA, nB, nC]
    refine Seq.pure (v := .agg (VC (maxQ ptl qtl) (minQ pth qth))) rfl rfl (fun w => rfl) ?_
    simp only [Act.put, nA, nB, nC]
    refine Seq.pure (v := .bool true) rfl rfl (fun w => rfl) ?_
    simp only [Act.put, nA, nB, nC]
    refine Seq.alloc rfl rfl rfl (z := .agg (SW rz0 rz0)) (by kernel_rfl) rfl ?_
    intro bk10 _ _ hbk10_r
    simp only [Act.put, nA, nB, nC]
    refine Seq.store rfl rfl rfl rfl rfl (by repeat (first | exact rS | refine rN (by assumption) ?_)) (n := 6) rfl rfl (by kernel_rfl) (VC_one _ _) ?_
    simp only [Act.put, nA, nB, nC]
    refine Seq.pure rfl rfl (by intro w; go_simp; try rfl) ?_
    simp only [Act.put, nA, nB, nC]
    refine Seq.done fun ws4 hws => ?_
    have HS4 := hws.list1 (p := bk10) (by repeat (first | exact rS | refine rN (by assumption) ?_))
    clear HS3 hws
    go_upto_region 4 with (fail)
    refine wp_seq_text [] (StR.no HS4) ?_
    iterate 10 (refine Seq.pure rfl rfl (by intro w; go_simp; try rfl) ?_; simp only [Act.put, nA, nB, nC])
    refine Seq.done fun ws5 hws => ?_
    have HS5 := hws.st
    clear HS4 hws
    go_upto_region 6 with (fail)
    have HPbk4 := HS5.f5
    refine wp_seq_text [] (StR.move (StR.no HPbk4)) ?_
    refine Seq.load rfl rfl rfl rfl (by repeat (first | exact mC | apply mT)) (n := 6) rfl (by kernel_rfl) ?_
    simp only [Act.put, nA, nB, nC]
    refine Seq.load rfl rfl rfl rfl (by repeat (first | exact mC | apply mT)) (n := 6) rfl (by kernel_rfl) ?_
    simp only [Act.put, nA, nB, nC]
    refine Seq.load rfl rfl rfl rfl (by repeat (first | exact mC | apply mT)) (n := 6) rfl (by kernel_rfl) ?_
    simp only [Act.put, nA, nB, nC]
    refine Seq.pure (v := .agg (PW (rt (maxQ pxl qxl)) (rt (minQ pxh qxh)) (rt (maxQ pyl qyl)) (rt (minQ pyh qyh)) (rt (maxQ ptl qtl)) (rt (minQ pth qth)))) rfl rfl (fun w => bld_Pose (x := (rt (maxQ pxl qxl))) (y := (rt (minQ pxh qxh))) (z := (rt (maxQ pyl qyl))) (u := (rt (minQ pyh qyh))) (v := (rt (maxQ ptl qtl))) (t := (rt (minQ pth qth))) rfl rfl rfl rfl w) ?_
    simp only [Act.put, nA, nB, nC]
    refine Seq.store rfl rfl rfl rfl rfl (by repeat (first | exact rS | refine rN (by assumption) ?_)) (n := 18) rfl rfl (by kernel_rfl) (PW_one _ _ _ _ _ _) ?_
    simp only [Act.put, nA, nB, nC]
    refine Seq.pure rfl rfl (by intro w; go_simp; try rfl) ?_
    simp only [Act.put, nA, nB, nC]
    refine Seq.done fun ws6 hws => ?_
    have HS6 := hws.list1 (p := bk4) (by repeat (first | exact rS | refine rN (by assumption) ?_))
    clear HS5 hws HPbk4
    go_wp2_with fail
    exact ret_own2 rfl rfl rfl rfl HS6 (by repeat (first | exact mC | apply mT)) (n := 18) rfl (by kernel_rfl) ⟨congrArg Ending.returned HR.out, HS6.below⟩
set_option maxHeartbeats 2000000 in
set_option maxRecDepth 20000 in
theorem samePose_q {k : Nat} {p1 : Rat} {p2 : Rat} {p3 : Rat} {p4 : Rat} {p5 : Rat} {p6 : Rat} {q1 : Rat} {q2 : Rat} {q3 : Rat} {q4 : Rat} {q5 : Rat} {q6 : Rat} {z0 : Bool} {W : World} {l : List Own} (hT : Tab W) (Zp1 : Rz k p1) (Zp2 : Rz k p2) (Zp3 : Rz k p3) (Zp4 : Rz k p4) (Zp5 : Rz k p5) (Zp6 : Rz k p6) (Zq1 : Rz k q1) (Zq2 : Rz k q2) (Zq3 : Rz k q3) (Zq4 : Rz k q4) (Zq5 : Rz k q5) (Zq6 : Rz k q6) (hz0 : sameQ p1 p2 p3 p4 p5 p6 q1 q2 q3 q4 q5 q6 = z0) (hk0 : 2 ≤ k) (hk : k ≤ 1000000000000) (w : World) (h : St W l w) :
    Calls Tryd.prog 22 #[.agg (PW (rt p1) (rt p2) (rt p3) (rt p4) (rt p5) (rt p6)), .agg (PW (rt q1) (rt q2) (rt q3) (rt q4) (rt q5) (rt q6))] w fun e w' => e = .returned (.bool z0) ∧ Below w.heap.size w w' := by
  subst hz0
  have HT := Lib.hid (tabS hT h); clear hT h
  have Z_p1 := Lib.hid Zp1; clear Zp1
  have Z_p2 := Lib.hid Zp2; clear Zp2
  have Z_p3 := Lib.hid Zp3; clear Zp3
  have Z_p4 := Lib.hid Zp4; clear Zp4
  have Z_p5 := Lib.hid Zp5; clear Zp5
  have Z_p6 := Lib.hid Zp6; clear Zp6
  have Z_q1 := Lib.hid Zq1; clear Zq1
  have Z_q2 := Lib.hid Zq2; clear Zq2
  have Z_q3 := Lib.hid Zq3; clear Zq3
  have Z_q4 := Lib.hid Zq4; clear Zq4
  have Z_q5 := Lib.hid Zq5; clear Zq5
  have Z_q6 := Lib.hid Zq6; clear Zq6
  have hsp : (¬ p1 = q1) ∨ (p1 = q1 ∧ ¬ p2 = q2) ∨ (p1 = q1 ∧ p2 = q2 ∧ ¬ p3 = q3) ∨ (p1 = q1 ∧ p2 = q2 ∧ p3 = q3 ∧ ¬ p4 = q4) ∨ (p1 = q1 ∧ p2 = q2 ∧ p3 = q3 ∧ p4 = q4 ∧ ¬ p5 = q5) ∨ (p1 = q1 ∧ p2 = q2 ∧ p3 = q3 ∧ p4 = q4 ∧ p5 = q5 ∧ ¬ p6 = q6) ∨ (p1 = q1 ∧ p2 = q2 ∧ p3 = q3 ∧ p4 = q4 ∧ p5 = q5 ∧ p6 = q6) := by grind
  rcases hsp with hb1 | ⟨hb1, hb2⟩ | ⟨hb1, hb2, hb3⟩ | ⟨hb1, hb2, hb3, hb4⟩ | ⟨hb1, hb2, hb3, hb4, hb5⟩ | ⟨hb1, hb2, hb3, hb4, hb5, hb6⟩ | ⟨hb1, hb2, hb3, hb4, hb5, hb6⟩
  · have HB := Lib.hid (show false = sameQ p1 p2 p3 p4 p5 p6 q1 q2 q3 q4 q5 q6 from by unfold sameQ; symm; simp; grind)
    obtain ⟨v0, hv0, r0⟩ : ∃ v, cmpQ p1 q1 = v ∧ (v == 0) = false := ⟨_, rfl, by rw [beq_eq_false_iff_ne, ne_eq, cmpQ_zero]; grind⟩
    have C0 := Lib.hid hv0; clear hv0
    clear hb1
    go_enter Tryd.func22, Tryd.ntmps22
    have HS : St w [] w := St.start
    go_upto_region 0 with (fail)
    refine wp_seq_text [] (StR.no HS) ?_
    refine Seq.box rfl rfl rfl (v := .agg (PW (rt p1) (rt p2) (rt p3) (rt p4) (rt p5) (rt p6))) (cs := PW (rt p1) (rt p2) (rt p3) (rt p4) (rt p5) (rt p6)) rfl rfl ?_
    intro bk2 _ _ hbk2_r
    simp only [Act.put, nA, nB, nC]
    refine Seq.box rfl rfl rfl (v := .agg (PW (rt q1) (rt q2) (rt q3) (rt q4) (rt q5) (rt q6))) (cs := PW (rt q1) (rt q2) (rt q3) (rt q4) (rt q5) (rt q6)) rfl rfl ?_
    intro bk3 _ _ hbk3_r
    obtain ⟨ne_bk3_bk2, hbk3_r⟩ := Reg.ne_of_put hbk3_r
    have ne_bk2_bk3 := Ne.symm ne_bk3_bk2
    simp only [Act.put, nA, nB, nC]
    refine Seq.pure rfl rfl (by intro w; go_simp; try rfl) ?_
    simp only [Act.put, nA, nB, nC]
    refine Seq.done fun ws1 hws => ?_
    have HS1 := hws.list2 (p := bk2) (q := bk3) (by repeat (first | exact rS | refine rN (by assumption) ?_)) (by repeat (first | exact rS | refine rN (by assumption) ?_)) (by assumption)
    clear HS hws
    go_upto_region 1 with (fail)
    refine wp_seq_text [] (StR.no HS1) ?_
    refine Seq.pure rfl rfl (by intro w; go_simp; try rfl) ?_
    simp only [Act.put, nA, nB, nC]
    refine Seq.done fun ws2 hws => ?_
    have HS2 := hws.st
    clear HS1 hws
    go_wp2_with fail
    refine wp_loop_rounds 4 ?_
    rw [rounds_succ]
    go_upto_region 2 with (fail)
    refine wp_seq_text [] (StR.no HS2) ?_
    refine Seq.pure rfl rfl (by intro w; go_simp; try rfl) ?_
    simp only [Act.put, nA, nB, nC]
    refine Seq.done fun ws3 hws => ?_
    have HS3 := hws.st
    clear HS2 hws
    go_upto_region 3 with (fail)
    refine wp_seq_text [] (StR.no HS3) ?_
    iterate 2 (refine Seq.pure rfl rfl (by intro w; go_simp; try rfl) ?_; simp only [Act.put, nA, nB, nC])
    refine Seq.done fun ws4 hws => ?_
    have HS4 := hws.st
    clear HS3 hws
    go_upto_region 4 with (fail)
    refine wp_seq_text [] (StR.no HS4) ?_
    refine Seq.pure rfl rfl (by intro w; go_simp; try rfl) ?_
    simp only [Act.put, nA, nB, nC]
    refine Seq.done fun ws5 hws => ?_
    have HS5 := hws.st
    clear HS4 hws
    go_wp2_with fail
    refine wp_loop_rounds 3 ?_
    rw [rounds_succ]
    go_upto_region 5 with (fail)
    refine wp_seq_text [] (StR.no HS5) ?_
    refine Seq.pure rfl rfl (by intro w; go_simp; try rfl) ?_
    simp only [Act.put, nA, nB, nC]
    refine Seq.done fun ws6 hws => ?_
    have HS6 := hws.st
    clear HS5 hws
    go_upto_region 6 with (fail)
    refine wp_seq_text [] (StR.no HS6) ?_
    iterate 2 (refine Seq.pure rfl rfl (by intro w; go_simp; try rfl) ?_; simp only [Act.put, nA, nB, nC])
    refine Seq.done fun ws7 hws => ?_
    have HS7 := hws.st
    clear HS6 hws
    go_upto_region 7 with (fail)
    refine wp_seq [] (by kernel_rfl) (by kernel_rfl) Reg.fin_no (StR.no HS7) ?_
    iterate 4 (refine Seq.pure rfl rfl (by intro w; go_simp; try rfl) ?_; simp only [Act.put, nA, nB, nC])
    refine Seq.loadAt rfl rfl rfl rfl (by repeat (first | exact mC | apply mT)) (n := 3) (cs' := RC p1) (Nat.le_of_ble_eq_true rfl) (by kernel_rfl) rfl ?_
    simp only [Act.put, nA, nB, nC]
    iterate 4 (refine Seq.pure rfl rfl (by intro w; go_simp; try rfl) ?_; simp only [Act.put, nA, nB, nC])
    refine Seq.loadAt rfl rfl rfl rfl (by repeat (first | exact mC | apply mT)) (n := 3) (cs' := RC q1) (Nat.le_of_ble_eq_true rfl) (by kernel_rfl) rfl ?_
    simp only [Act.put, nA, nB, nC]
    refine Seq.call rfl rfl rfl rfl (by kernel_rfl) (cmp_q (k := (1 * k + 0)) HT.out (Z_p1.out.more (by omega)) (Z_q1.out.more (by omega)) C0.out (by omega)) ?_
    simp only [Act.put, nA, nB, nC]
    refine Seq.pure rfl rfl (by intro w; go_simp; try rfl) ?_
    simp only [Act.put, nA, nB, nC]
    refine Seq.done fun ws8 hws => ?_
    have HS8 := hws.st
    clear HS7 hws
    go_upto_region 8 with (fail)
    refine wp_seq_text [] (StR.no HS8) ?_
    refine Seq.pure rfl rfl (by intro w; go_simp; try rfl) ?_
    simp only [Act.put, nA, nB, nC]
    refine Seq.done fun ws9 hws => ?_
    have HS9 := hws.st
    clear HS8 hws
    go_wp2_with fail
    go_ret
    exact ⟨congrArg (fun b => Ending.returned (.bool b)) HB.out, HS9.below⟩
  · have HB := Lib.hid (show false = sameQ p1 p2 p3 p4 p5 p6 q1 q2 q3 q4 q5 q6 from by unfold sameQ; symm; simp; grind)
    obtain ⟨v0, hv0, r0⟩ : ∃ v, cmpQ p1 q1 = v ∧ (v == 0) = true := ⟨_, rfl, by rw [beq_iff_eq, cmpQ_zero]; grind⟩
    have C0 := Lib.hid hv0; clear hv0
    obtain ⟨v1, hv1, r1⟩ : ∃ v, cmpQ p2 q2 = v ∧ (v == 0) = false := ⟨_, rfl, by rw [beq_eq_false_iff_ne, ne_eq, cmpQ_zero]; grind⟩
    have C1 := Lib.hid hv1; clear hv1
    clear hb1 hb2
    go_enter Tryd.func22, Tryd.ntmps22
    have HS : St w [] w := St.start
    go_upto_region 0 with (fail)
    refine wp_seq_text [] (StR.no HS) ?_
    refine Seq.box rfl rfl rfl (v := .agg (PW (rt p1) (rt p2) (rt p3) (rt p4) (rt p5) (rt p6))) (cs := PW (rt p1) (rt p2) (rt p3) (rt p4) (rt p5) (rt p6)) rfl rfl ?_
    intro bk2 _ _ hbk2_r
    simp only [Act.put, nA, nB, nC]
    refine Seq.box rfl rfl rfl (v := .agg (PW (rt q1) (rt q2) (rt q3) (rt q4) (rt q5) (rt q6))) (cs := PW (rt q1) (rt q2) (rt q3) (rt q4) (rt q5) (rt q6)) rfl rfl ?_
    intro bk3 _ _ hbk3_r
    obtain ⟨ne_bk3_bk2, hbk3_r⟩ := Reg.ne_of_put hbk3_r
    have ne_bk2_bk3 := Ne.symm ne_bk3_bk2
    simp only [Act.put, nA, nB, nC]
    refine Seq.pure rfl rfl (by intro w; go_simp; try rfl) ?_
    simp only [Act.put, nA, nB, nC]
    refine Seq.done fun ws1 hws => ?_
    have HS1 := hws.list2 (p := bk2) (q := bk3) (by repeat (first | exact rS | refine rN (by assumption) ?_)) (by repeat (first | exact rS | refine rN (by assumption) ?_)) (by assumption)
    clear HS hws
    go_upto_region 1 with (fail)
    refine wp_seq_text [] (StR.no HS1) ?_
    refine Seq.pure rfl rfl (by intro w; go_simp; try rfl) ?_
    simp only [Act.put, nA, nB, nC]
    refine Seq.done fun ws2 hws => ?_
    have HS2 := hws.st
    clear HS1 hws
    go_wp2_with fail
    refine wp_loop_rounds 4 ?_
    rw [rounds_succ]
    go_upto_region 2 with (fail)
    refine wp_seq_text [] (StR.no HS2) ?_
    refine Seq.pure rfl rfl (by intro w; go_simp; try rfl) ?_
    simp only [Act.put, nA, nB, nC]
    refine Seq.done fun ws3 hws => ?_
    have HS3 := hws.st
    clear HS2 hws
    go_upto_region 3 with (fail)
    refine wp_seq_text [] (StR.no HS3) ?_
    iterate 2 (refine Seq.pure rfl rfl (by intro w; go_simp; try rfl) ?_; simp only [Act.put, nA, nB, nC])
    refine Seq.done fun ws4 hws => ?_
    have HS4 := hws.st
    clear HS3 hws
    go_upto_region 4 with (fail)
    refine wp_seq_text [] (StR.no HS4) ?_
    refine Seq.pure rfl rfl (by intro w; go_simp; try rfl) ?_
    simp only [Act.put, nA, nB, nC]
    refine Seq.done fun ws5 hws => ?_
    have HS5 := hws.st
    clear HS4 hws
    go_wp2_with fail
    refine wp_loop_rounds 3 ?_
    rw [rounds_succ]
    go_upto_region 5 with (fail)
    refine wp_seq_text [] (StR.no HS5) ?_
    refine Seq.pure rfl rfl (by intro w; go_simp; try rfl) ?_
    simp only [Act.put, nA, nB, nC]
    refine Seq.done fun ws6 hws => ?_
    have HS6 := hws.st
    clear HS5 hws
    go_upto_region 6 with (fail)
    refine wp_seq_text [] (StR.no HS6) ?_
    iterate 2 (refine Seq.pure rfl rfl (by intro w; go_simp; try rfl) ?_; simp only [Act.put, nA, nB, nC])
    refine Seq.done fun ws7 hws => ?_
    have HS7 := hws.st
    clear HS6 hws
    go_upto_region 7 with (fail)
    refine wp_seq [] (by kernel_rfl) (by kernel_rfl) Reg.fin_no (StR.no HS7) ?_
    iterate 4 (refine Seq.pure rfl rfl (by intro w; go_simp; try rfl) ?_; simp only [Act.put, nA, nB, nC])
    refine Seq.loadAt rfl rfl rfl rfl (by repeat (first | exact mC | apply mT)) (n := 3) (cs' := RC p1) (Nat.le_of_ble_eq_true rfl) (by kernel_rfl) rfl ?_
    simp only [Act.put, nA, nB, nC]
    iterate 4 (refine Seq.pure rfl rfl (by intro w; go_simp; try rfl) ?_; simp only [Act.put, nA, nB, nC])
    refine Seq.loadAt rfl rfl rfl rfl (by repeat (first | exact mC | apply mT)) (n := 3) (cs' := RC q1) (Nat.le_of_ble_eq_true rfl) (by kernel_rfl) rfl ?_
    simp only [Act.put, nA, nB, nC]
    refine Seq.call rfl rfl rfl rfl (by kernel_rfl) (cmp_q (k := (1 * k + 0)) HT.out (Z_p1.out.more (by omega)) (Z_q1.out.more (by omega)) C0.out (by omega)) ?_
    simp only [Act.put, nA, nB, nC]
    refine Seq.pure rfl rfl (by intro w; go_simp; try rfl) ?_
    simp only [Act.put, nA, nB, nC]
    refine Seq.done fun ws8 hws => ?_
    have HS8 := hws.st
    clear HS7 hws
    go_upto_region 9 with (fail)
    refine wp_seq_text [] (StR.no HS8) ?_
    refine Seq.pure (v := .int .i64 1) rfl rfl (by intro w; go_simp; try rfl) ?_
    simp only [Act.put, nA, nB, nC]
    refine Seq.pure rfl rfl (by intro w; go_simp; try rfl) ?_
    simp only [Act.put, nA, nB, nC]
    refine Seq.done fun ws9 hws => ?_
    have HS9 := hws.st
    clear HS8 hws
    go_wp2_with fail
    rw [rounds_succ]
    go_upto_region 5 with (fail)
    refine wp_seq_text [] (StR.no HS9) ?_
    refine Seq.pure rfl rfl (by intro w; go_simp; try rfl) ?_
    simp only [Act.put, nA, nB, nC]
    refine Seq.done fun ws10 hws => ?_
    have HS10 := hws.st
    clear HS9 hws
    go_upto_region 6 with (fail)
    refine wp_seq_text [] (StR.no HS10) ?_
    iterate 2 (refine Seq.pure rfl rfl (by intro w; go_simp; try rfl) ?_; simp only [Act.put, nA, nB, nC])
    refine Seq.done fun ws11 hws => ?_
    have HS11 := hws.st
    clear HS10 hws
    go_upto_region 7 with (fail)
    refine wp_seq [] (by kernel_rfl) (by kernel_rfl) Reg.fin_no (StR.no HS11) ?_
    iterate 4 (refine Seq.pure rfl rfl (by intro w; go_simp; try rfl) ?_; simp only [Act.put, nA, nB, nC])
    refine Seq.loadAt rfl rfl rfl rfl (by repeat (first | exact mC | apply mT)) (n := 3) (cs' := RC p2) (Nat.le_of_ble_eq_true rfl) (by kernel_rfl) rfl ?_
    simp only [Act.put, nA, nB, nC]
    iterate 4 (refine Seq.pure rfl rfl (by intro w; go_simp; try rfl) ?_; simp only [Act.put, nA, nB, nC])
    refine Seq.loadAt rfl rfl rfl rfl (by repeat (first | exact mC | apply mT)) (n := 3) (cs' := RC q2) (Nat.le_of_ble_eq_true rfl) (by kernel_rfl) rfl ?_
    simp only [Act.put, nA, nB, nC]
    refine Seq.call rfl rfl rfl rfl (by kernel_rfl) (cmp_q (k := (1 * k + 0)) HT.out (Z_p2.out.more (by omega)) (Z_q2.out.more (by omega)) C1.out (by omega)) ?_
    simp only [Act.put, nA, nB, nC]
    refine Seq.pure rfl rfl (by intro w; go_simp; try rfl) ?_
    simp only [Act.put, nA, nB, nC]
    refine Seq.done fun ws12 hws => ?_
    have HS12 := hws.st
    clear HS11 hws
    go_upto_region 8 with (fail)
    refine wp_seq_text [] (StR.no HS12) ?_
    refine Seq.pure rfl rfl (by intro w; go_simp; try rfl) ?_
    simp only [Act.put, nA, nB, nC]
    refine Seq.done fun ws13 hws => ?_
    have HS13 := hws.st
    clear HS12 hws
    go_wp2_with fail
    go_ret
    exact ⟨congrArg (fun b => Ending.returned (.bool b)) HB.out, HS13.below⟩
  · have HB := Lib.hid (show false = sameQ p1 p2 p3 p4 p5 p6 q1 q2 q3 q4 q5 q6 from by unfold sameQ; symm; simp; grind)
    obtain ⟨v0, hv0, r0⟩ : ∃ v, cmpQ p1 q1 = v ∧ (v == 0) = true := ⟨_, rfl, by rw [beq_iff_eq, cmpQ_zero]; grind⟩
    have C0 := Lib.hid hv0; clear hv0
    obtain ⟨v1, hv1, r1⟩ : ∃ v, cmpQ p2 q2 = v ∧ (v == 0) = true := ⟨_, rfl, by rw [beq_iff_eq, cmpQ_zero]; grind⟩
    have C1 := Lib.hid hv1; clear hv1
    obtain ⟨v2, hv2, r2⟩ : ∃ v, cmpQ p3 q3 = v ∧ (v == 0) = false := ⟨_, rfl, by rw [beq_eq_false_iff_ne, ne_eq, cmpQ_zero]; grind⟩
    have C2 := Lib.hid hv2; clear hv2
    clear hb1 hb2 hb3
    go_enter Tryd.func22, Tryd.ntmps22
    have HS : St w [] w := St.start
    go_upto_region 0 with (fail)
    refine wp_seq_text [] (StR.no HS) ?_
    refine Seq.box rfl rfl rfl (v := .agg (PW (rt p1) (rt p2) (rt p3) (rt p4) (rt p5) (rt p6))) (cs := PW (rt p1) (rt p2) (rt p3) (rt p4) (rt p5) (rt p6)) rfl rfl ?_
    intro bk2 _ _ hbk2_r
    simp only [Act.put, nA, nB, nC]
    refine Seq.box rfl rfl rfl (v := .agg (PW (rt q1) (rt q2) (rt q3) (rt q4) (rt q5) (rt q6))) (cs := PW (rt q1) (rt q2) (rt q3) (rt q4) (rt q5) (rt q6)) rfl rfl ?_
    intro bk3 _ _ hbk3_r
    obtain ⟨ne_bk3_bk2, hbk3_r⟩ := Reg.ne_of_put hbk3_r
    have ne_bk2_bk3 := Ne.symm ne_bk3_bk2
    simp only [Act.put, nA, nB, nC]
    refine Seq.pure rfl rfl (by intro w; go_simp; try rfl) ?_
    simp only [Act.put, nA, nB, nC]
    refine Seq.done fun ws1 hws => ?_
    have HS1 := hws.list2 (p := bk2) (q := bk3) (by repeat (first | exact rS | refine rN (by assumption) ?_)) (by repeat (first | exact rS | refine rN (by assumption) ?_)) (by assumption)
    clear HS hws
    go_upto_region 1 with (fail)
    refine wp_seq_text [] (StR.no HS1) ?_
    refine Seq.pure rfl rfl (by intro w; go_simp; try rfl) ?_
    simp only [Act.put, nA, nB, nC]
    refine Seq.done fun ws2 hws => ?_
    have HS2 := hws.st
    clear HS1 hws
    go_wp2_with fail
    refine wp_loop_rounds 4 ?_
    rw [rounds_succ]
    go_upto_region 2 with (fail)
    refine wp_seq_text [] (StR.no HS2) ?_
    refine Seq.pure rfl rfl (by intro w; go_simp; try rfl) ?_
    simp only [Act.put, nA, nB, nC]
    refine Seq.done fun ws3 hws => ?_
    have HS3 := hws.st
    clear HS2 hws
    go_upto_region 3 with (fail)
    refine wp_seq_text [] (StR.no HS3) ?_
    iterate 2 (refine Seq.pure rfl rfl (by intro w; go_simp; try rfl) ?_; simp only [Act.put, nA, nB, nC])
    refine Seq.done fun ws4 hws => ?_
    have HS4 := hws.st
    clear HS3 hws
    go_upto_region 4 with (fail)
    refine wp_seq_text [] (StR.no HS4) ?_
    refine Seq.pure rfl rfl (by intro w; go_simp; try rfl) ?_
    simp only [Act.put, nA, nB, nC]
    refine Seq.done fun ws5 hws => ?_
    have HS5 := hws.st
    clear HS4 hws
    go_wp2_with fail
    refine wp_loop_rounds 3 ?_
    rw [rounds_succ]
    go_upto_region 5 with (fail)
    refine wp_seq_text [] (StR.no HS5) ?_
    refine Seq.pure rfl rfl (by intro w; go_simp; try rfl) ?_
    simp only [Act.put, nA, nB, nC]
    refine Seq.done fun ws6 hws => ?_
    have HS6 := hws.st
    clear HS5 hws
    go_upto_region 6 with (fail)
    refine wp_seq_text [] (StR.no HS6) ?_
    iterate 2 (refine Seq.pure rfl rfl (by intro w; go_simp; try rfl) ?_; simp only [Act.put, nA, nB, nC])
    refine Seq.done fun ws7 hws => ?_
    have HS7 := hws.st
    clear HS6 hws
    go_upto_region 7 with (fail)
    refine wp_seq [] (by kernel_rfl) (by kernel_rfl) Reg.fin_no (StR.no HS7) ?_
    iterate 4 (refine Seq.pure rfl rfl (by intro w; go_simp; try rfl) ?_; simp only [Act.put, nA, nB, nC])
    refine Seq.loadAt rfl rfl rfl rfl (by repeat (first | exact mC | apply mT)) (n := 3) (cs' := RC p1) (Nat.le_of_ble_eq_true rfl) (by kernel_rfl) rfl ?_
    simp only [Act.put, nA, nB, nC]
    iterate 4 (refine Seq.pure rfl rfl (by intro w; go_simp; try rfl) ?_; simp only [Act.put, nA, nB, nC])
    refine Seq.loadAt rfl rfl rfl rfl (by repeat (first | exact mC | apply mT)) (n := 3) (cs' := RC q1) (Nat.le_of_ble_eq_true rfl) (by kernel_rfl) rfl ?_
    simp only [Act.put, nA, nB, nC]
    refine Seq.call rfl rfl rfl rfl (by kernel_rfl) (cmp_q (k := (1 * k + 0)) HT.out (Z_p1.out.more (by omega)) (Z_q1.out.more (by omega)) C0.out (by omega)) ?_
    simp only [Act.put, nA, nB, nC]
    refine Seq.pure rfl rfl (by intro w; go_simp; try rfl) ?_
    simp only [Act.put, nA, nB, nC]
    refine Seq.done fun ws8 hws => ?_
    have HS8 := hws.st
    clear HS7 hws
    go_upto_region 9 with (fail)
    refine wp_seq_text [] (StR.no HS8) ?_
    refine Seq.pure (v := .int .i64 1) rfl rfl (by intro w; go_simp; try rfl) ?_
    simp only [Act.put, nA, nB, nC]
    refine Seq.pure rfl rfl (by intro w; go_simp; try rfl) ?_
    simp only [Act.put, nA, nB, nC]
    refine Seq.done fun ws9 hws => ?_
    have HS9 := hws.st
    clear HS8 hws
    go_wp2_with fail
    rw [rounds_succ]
    go_upto_region 5 with (fail)
    refine wp_seq_text [] (StR.no HS9) ?_
    refine Seq.pure rfl rfl (by intro w; go_simp; try rfl) ?_
    simp only [Act.put, nA, nB, nC]
    refine Seq.done fun ws10 hws => ?_
    have HS10 := hws.st
    clear HS9 hws
    go_upto_region 6 with (fail)
    refine wp_seq_text [] (StR.no HS10) ?_
    iterate 2 (refine Seq.pure rfl rfl (by intro w; go_simp; try rfl) ?_; simp only [Act.put, nA, nB, nC])
    refine Seq.done fun ws11 hws => ?_
    have HS11 := hws.st
    clear HS10 hws
    go_upto_region 7 with (fail)
    refine wp_seq [] (by kernel_rfl) (by kernel_rfl) Reg.fin_no (StR.no HS11) ?_
    iterate 4 (refine Seq.pure rfl rfl (by intro w; go_simp; try rfl) ?_; simp only [Act.put, nA, nB, nC])
    refine Seq.loadAt rfl rfl rfl rfl (by repeat (first | exact mC | apply mT)) (n := 3) (cs' := RC p2) (Nat.le_of_ble_eq_true rfl) (by kernel_rfl) rfl ?_
    simp only [Act.put, nA, nB, nC]
    iterate 4 (refine Seq.pure rfl rfl (by intro w; go_simp; try rfl) ?_; simp only [Act.put, nA, nB, nC])
    refine Seq.loadAt rfl rfl rfl rfl (by repeat (first | exact mC | apply mT)) (n := 3) (cs' := RC q2) (Nat.le_of_ble_eq_true rfl) (by kernel_rfl) rfl ?_
    simp only [Act.put, nA, nB, nC]
    refine Seq.call rfl rfl rfl rfl (by kernel_rfl) (cmp_q (k := (1 * k + 0)) HT.out (Z_p2.out.more (by omega)) (Z_q2.out.more (by omega)) C1.out (by omega)) ?_
    simp only [Act.put, nA, nB, nC]
    refine Seq.pure rfl rfl (by intro w; go_simp; try rfl) ?_
    simp only [Act.put, nA, nB, nC]
    refine Seq.done fun ws12 hws => ?_
    have HS12 := hws.st
    clear HS11 hws
    go_upto_region 9 with (fail)
    refine wp_seq_text [] (StR.no HS12) ?_
    refine Seq.pure (v := .int .i64 2) rfl rfl (by intro w; go_simp; try rfl) ?_
    simp only [Act.put, nA, nB, nC]
    refine Seq.pure rfl rfl (by intro w; go_simp; try rfl) ?_
    simp only [Act.put, nA, nB, nC]
    refine Seq.done fun ws13 hws => ?_
    have HS13 := hws.st
    clear HS12 hws
    go_wp2_with fail
    rw [rounds_succ]
    go_upto_region 5 with (fail)
    refine wp_seq_text [] (StR.no HS13) ?_
    refine Seq.pure rfl rfl (by intro w; go_simp; try rfl) ?_
    simp only [Act.put, nA, nB, nC]
    refine Seq.done fun ws14 hws => ?_
    have HS14 := hws.st
    clear HS13 hws
    go_upto_region 10 with (fail)
    refine wp_seq_text [] (StR.no HS14) ?_
    refine Seq.pure (v := .int .i64 1) rfl rfl (by intro w; go_simp; try rfl) ?_
    simp only [Act.put, nA, nB, nC]
    refine Seq.pure rfl rfl (by intro w; go_simp; try rfl) ?_
    simp only [Act.put, nA, nB, nC]
    refine Seq.done fun ws15 hws => ?_
    have HS15 := hws.st
    clear HS14 hws
    go_wp2_with fail
    rw [rounds_succ]
    go_upto_region 2 with (fail)
    refine wp_seq_text [] (StR.no HS15) ?_
    refine Seq.pure rfl rfl (by intro w; go_simp; try rfl) ?_
    simp only [Act.put, nA, nB, nC]
    refine Seq.done fun ws16 hws => ?_
    have HS16 := hws.st
    clear HS15 hws
    go_upto_region 3 with (fail)
    refine wp_seq_text [] (StR.no HS16) ?_
    iterate 2 (refine Seq.pure rfl rfl (by intro w; go_simp; try rfl) ?_; simp only [Act.put, nA, nB, nC])
    refine Seq.done fun ws17 hws => ?_
    have HS17 := hws.st
    clear HS16 hws
    go_upto_region 4 with (fail)
    refine wp_seq_text [] (StR.no HS17) ?_
    refine Seq.pure rfl rfl (by intro w; go_simp; try rfl) ?_
    simp only [Act.put, nA, nB, nC]
    refine Seq.done fun ws18 hws => ?_
    have HS18 := hws.st
    clear HS17 hws
    go_wp2_with fail
    refine wp_loop_rounds 3 ?_
    rw [rounds_succ]
    go_upto_region 5 with (fail)
    refine wp_seq_text [] (StR.no HS18) ?_
    refine Seq.pure rfl rfl (by intro w; go_simp; try rfl) ?_
    simp only [Act.put, nA, nB, nC]
    refine Seq.done fun ws19 hws => ?_
    have HS19 := hws.st
    clear HS18 hws
    go_upto_region 6 with (fail)
    refine wp_seq_text [] (StR.no HS19) ?_
    iterate 2 (refine Seq.pure rfl rfl (by intro w; go_simp; try rfl) ?_; simp only [Act.put, nA, nB, nC])
    refine Seq.done fun ws20 hws => ?_
    have HS20 := hws.st
    clear HS19 hws
    go_upto_region 7 with (fail)
    refine wp_seq [] (by kernel_rfl) (by kernel_rfl) Reg.fin_no (StR.no HS20) ?_
    iterate 4 (refine Seq.pure rfl rfl (by intro w; go_simp; try rfl) ?_; simp only [Act.put, nA, nB, nC])
    refine Seq.loadAt rfl rfl rfl rfl (by repeat (first | exact mC | apply mT)) (n := 3) (cs' := RC p3) (Nat.le_of_ble_eq_true rfl) (by kernel_rfl) rfl ?_
    simp only [Act.put, nA, nB, nC]
    iterate 4 (refine Seq.pure rfl rfl (by intro w; go_simp; try rfl) ?_; simp only [Act.put, nA, nB, nC])
    refine Seq.loadAt rfl rfl rfl rfl (by repeat (first | exact mC | apply mT)) (n := 3) (cs' := RC q3) (Nat.le_of_ble_eq_true rfl) (by kernel_rfl) rfl ?_
    simp only [Act.put, nA, nB, nC]
    refine Seq.call rfl rfl rfl rfl (by kernel_rfl) (cmp_q (k := (1 * k + 0)) HT.out (Z_p3.out.more (by omega)) (Z_q3.out.more (by omega)) C2.out (by omega)) ?_
    simp only [Act.put, nA, nB, nC]
    refine Seq.pure rfl rfl (by intro w; go_simp; try rfl) ?_
    simp only [Act.put, nA, nB, nC]
    refine Seq.done fun ws21 hws => ?_
    have HS21 := hws.st
    clear HS20 hws
    go_upto_region 8 with (fail)
    refine wp_seq_text [] (StR.no HS21) ?_
    refine Seq.pure rfl rfl (by intro w; go_simp; try rfl) ?_
    simp only [Act.put, nA, nB, nC]
    refine Seq.done fun ws22 hws => ?_
    have HS22 := hws.st
    clear HS21 hws
    go_wp2_with fail
    go_ret
    exact ⟨congrArg (fun b => Ending.returned (.bool b)) HB.out, HS22.below⟩
  · have HB := Lib.hid (show false = sameQ p1 p2 p3 p4 p5 p6 q1 q2 q3 q4 q5 q6 from by unfold sameQ; symm; simp; grind)
    obtain ⟨v0, hv0, r0⟩ : ∃ v, cmpQ p1 q1 = v ∧ (v == 0) = true := ⟨_, rfl, by rw [beq_iff_eq, cmpQ_zero]; grind⟩
    have C0 := Lib.hid hv0; clear hv0
    obtain ⟨v1, hv1, r1⟩ : ∃ v, cmpQ p2 q2 = v ∧ (v == 0) = true := ⟨_, rfl, by rw [beq_iff_eq, cmpQ_zero]; grind⟩
    have C1 := Lib.hid hv1; clear hv1
    obtain ⟨v2, hv2, r2⟩ : ∃ v, cmpQ p3 q3 = v ∧ (v == 0) = true := ⟨_, rfl, by rw [beq_iff_eq, cmpQ_zero]; grind⟩
    have C2 := Lib.hid hv2; clear hv2
    obtain ⟨v3, hv3, r3⟩ : ∃ v, cmpQ p4 q4 = v ∧ (v == 0) = false := ⟨_, rfl, by rw [beq_eq_false_iff_ne, ne_eq, cmpQ_zero]; grind⟩
    have C3 := Lib.hid hv3; clear hv3
    clear hb1 hb2 hb3 hb4
    go_enter Tryd.func22, Tryd.ntmps22
    have HS : St w [] w := St.start
    go_upto_region 0 with (fail)
    refine wp_seq_text [] (StR.no HS) ?_
    refine Seq.box rfl rfl rfl (v := .agg (PW (rt p1) (rt p2) (rt p3) (rt p4) (rt p5) (rt p6))) (cs := PW (rt p1) (rt p2) (rt p3) (rt p4) (rt p5) (rt p6)) rfl rfl ?_
    intro bk2 _ _ hbk2_r
    simp only [Act.put, nA, nB, nC]
    refine Seq.box rfl rfl rfl (v := .agg (PW (rt q1) (rt q2) (rt q3) (rt q4) (rt q5) (rt q6))) (cs := PW (rt q1) (rt q2) (rt q3) (rt q4) (rt q5) (rt q6)) rfl rfl ?_
    intro bk3 _ _ hbk3_r
    obtain ⟨ne_bk3_bk2, hbk3_r⟩ := Reg.ne_of_put hbk3_r
    have ne_bk2_bk3 := Ne.symm ne_bk3_bk2
    simp only [Act.put, nA, nB, nC]
    refine Seq.pure rfl rfl (by intro w; go_simp; try rfl) ?_
    simp only [Act.put, nA, nB, nC]
    refine Seq.done fun ws1 hws => ?_
    have HS1 := hws.list2 (p := bk2) (q := bk3) (by repeat (first | exact rS | refine rN (by assumption) ?_)) (by repeat (first | exact rS | refine rN (by assumption) ?_)) (by assumption)
    clear HS hws
    go_upto_region 1 with (fail)
    refine wp_seq_text [] (StR.no HS1) ?_
    refine Seq.pure rfl rfl (by intro w; go_simp; try rfl) ?_
    simp only [Act.put, nA, nB, nC]
    refine Seq.done fun ws2 hws => ?_
    have HS2 := hws.st
    clear HS1 hws
    go_wp2_with fail
    refine wp_loop_rounds 4 ?_
    rw [rounds_succ]
    go_upto_region 2 with (fail)
    refine wp_seq_text [] (StR.no HS2) ?_
    refine Seq.pure rfl rfl (by intro w; go_simp; try rfl) ?_
    simp only [Act.put, nA, nB, nC]
    refine Seq.done fun ws3 hws => ?_
    have HS3 := hws.st
    clear HS2 hws
    go_upto_region 3 with (fail)
    refine wp_seq_text [] (StR.no HS3) ?_
    iterate 2 (refine Seq.pure rfl rfl (by intro w; go_simp; try rfl) ?_; simp only [Act.put, nA, nB, nC])
    refine Seq.done fun ws4 hws => ?_
    have HS4 := hws.st
    clear HS3 hws
    go_upto_region 4 with (fail)
    refine wp_seq_text [] (StR.no HS4) ?_
    refine Seq.pure rfl rfl (by intro w; go_simp; try rfl) ?_
    simp only [Act.put, nA, nB, nC]
    refine Seq.done fun ws5 hws => ?_
    have HS5 := hws.st
    clear HS4 hws
    go_wp2_with fail
    refine wp_loop_rounds 3 ?_
    rw [rounds_succ]
    go_upto_region 5 with (fail)
    refine wp_seq_text [] (StR.no HS5) ?_
    refine Seq.pure rfl rfl (by intro w; go_simp; try rfl) ?_
    simp only [Act.put, nA, nB, nC]
    refine Seq.done fun ws6 hws => ?_
    have HS6 := hws.st
    clear HS5 hws
    go_upto_region 6 with (fail)
    refine wp_seq_text [] (StR.no HS6) ?_
    iterate 2 (refine Seq.pure rfl rfl (by intro w; go_simp; try rfl) ?_; simp only [Act.put, nA, nB, nC])
    refine Seq.done fun ws7 hws => ?_
    have HS7 := hws.st
    clear HS6 hws
    go_upto_region 7 with (fail)
    refine wp_seq [] (by kernel_rfl) (by kernel_rfl) Reg.fin_no (StR.no HS7) ?_
    iterate 4 (refine Seq.pure rfl rfl (by intro w; go_simp; try rfl) ?_; simp only [Act.put, nA, nB, nC])
    refine Seq.loadAt rfl rfl rfl rfl (by repeat (first | exact mC | apply mT)) (n := 3) (cs' := RC p1) (Nat.le_of_ble_eq_true rfl) (by kernel_rfl) rfl ?_
    simp only [Act.put, nA, nB, nC]
    iterate 4 (refine Seq.pure rfl rfl (by intro w; go_simp; try rfl) ?_; simp only [Act.put, nA, nB, nC])
    refine Seq.loadAt rfl rfl rfl rfl (by repeat (first | exact mC | apply mT)) (n := 3) (cs' := RC q1) (Nat.le_of_ble_eq_true rfl) (by kernel_rfl) rfl ?_
    simp only [Act.put, nA, nB, nC]
    refine Seq.call rfl rfl rfl rfl (by kernel_rfl) (cmp_q (k := (1 * k + 0)) HT.out (Z_p1.out.more (by omega)) (Z_q1.out.more (by omega)) C0.out (by omega)) ?_
    simp only [Act.put, nA, nB, nC]
    refine Seq.pure rfl rfl (by intro w; go_simp; try rfl) ?_
    simp only [Act.put, nA, nB, nC]
    refine Seq.done fun ws8 hws => ?_
    have HS8 := hws.st
    clear HS7 hws
    go_upto_region 9 with (fail)
    refine wp_seq_text [] (StR.no HS8) ?_
    refine Seq.pure (v := .int .i64 1) rfl rfl (by intro w; go_simp; try rfl) ?_
    simp only [Act.put, nA, nB, nC]
    refine Seq.pure rfl rfl (by intro w; go_simp; try rfl) ?_
    simp only [Act.put, nA, nB, nC]
    refine Seq.done fun ws9 hws => ?_
    have HS9 := hws.st
    clear HS8 hws
    go_wp2_with fail
    rw [rounds_succ]
    go_upto_region 5 with (fail)
    refine wp_seq_text [] (StR.no HS9) ?_
    refine Seq.pure rfl rfl (by intro w; go_simp; try rfl) ?_
    simp only [Act.put, nA, nB, nC]
    refine Seq.done fun ws10 hws => ?_
    have HS10 := hws.st
    clear HS9 hws
    go_upto_region 6 with (fail)
    refine wp_seq_text [] (StR.no HS10) ?_
    iterate 2 (refine Seq.pure rfl rfl (by intro w; go_simp; try rfl) ?_; simp only [Act.put, nA, nB, nC])
    refine Seq.done fun ws11 hws => ?_
    have HS11 := hws.st
    clear HS10 hws
    go_upto_region 7 with (fail)
    refine wp_seq [] (by kernel_rfl) (by kernel_rfl) Reg.fin_no (StR.no HS11) ?_
    iterate 4 (refine Seq.pure rfl rfl (by intro w; go_simp; try rfl) ?_; simp only [Act.put, nA, nB, nC])
    refine Seq.loadAt rfl rfl rfl rfl (by repeat (first | exact mC | apply mT)) (n := 3) (cs' := RC p2) (Nat.le_of_ble_eq_true rfl) (by kernel_rfl) rfl ?_
    simp only [Act.put, nA, nB, nC]
    iterate 4 (refine Seq.pure rfl rfl (by intro w; go_simp; try rfl) ?_; simp only [Act.put, nA, nB, nC])
    refine Seq.loadAt rfl rfl rfl rfl (by repeat (first | exact mC | apply mT)) (n := 3) (cs' := RC q2) (Nat.le_of_ble_eq_true rfl) (by kernel_rfl) rfl ?_
    simp only [Act.put, nA, nB, nC]
    refine Seq.call rfl rfl rfl rfl (by kernel_rfl) (cmp_q (k := (1 * k + 0)) HT.out (Z_p2.out.more (by omega)) (Z_q2.out.more (by omega)) C1.out (by omega)) ?_
    simp only [Act.put, nA, nB, nC]
    refine Seq.pure rfl rfl (by intro w; go_simp; try rfl) ?_
    simp only [Act.put, nA, nB, nC]
    refine Seq.done fun ws12 hws => ?_
    have HS12 := hws.st
    clear HS11 hws
    go_upto_region 9 with (fail)
    refine wp_seq_text [] (StR.no HS12) ?_
    refine Seq.pure (v := .int .i64 2) rfl rfl (by intro w; go_simp; try rfl) ?_
    simp only [Act.put, nA, nB, nC]
    refine Seq.pure rfl rfl (by intro w; go_simp; try rfl) ?_
    simp only [Act.put, nA, nB, nC]
    refine Seq.done fun ws13 hws => ?_
    have HS13 := hws.st
    clear HS12 hws
    go_wp2_with fail
    rw [rounds_succ]
    go_upto_region 5 with (fail)
    refine wp_seq_text [] (StR.no HS13) ?_
    refine Seq.pure rfl rfl (by intro w; go_simp; try rfl) ?_
    simp only [Act.put, nA, nB, nC]
    refine Seq.done fun ws14 hws => ?_
    have HS14 := hws.st
    clear HS13 hws
    go_upto_region 10 with (fail)
    refine wp_seq_text [] (StR.no HS14) ?_
    refine Seq.pure (v := .int .i64 1) rfl rfl (by intro w; go_simp; try rfl) ?_
    simp only [Act.put, nA, nB, nC]
    refine Seq.pure rfl rfl (by intro w; go_simp; try rfl) ?_
    simp only [Act.put, nA, nB, nC]
    refine Seq.done fun ws15 hws => ?_
    have HS15 := hws.st
    clear HS14 hws
    go_wp2_with fail
    rw [rounds_succ]
    go_upto_region 2 with (fail)
    refine wp_seq_text [] (StR.no HS15) ?_
    refine Seq.pure rfl rfl (by intro w; go_simp; try rfl) ?_
    simp only [Act.put, nA, nB, nC]
    refine Seq.done fun ws16 hws => ?_
    have HS16 := hws.st
    clear HS15 hws
    go_upto_region 3 with (fail)
    refine wp_seq_text [] (StR.no HS16) ?_
    iterate 2 (refine Seq.pure rfl rfl (by intro w; go_simp; try rfl) ?_; simp only [Act.put, nA, nB, nC])
    refine Seq.done fun ws17 hws => ?_
    have HS17 := hws.st
    clear HS16 hws
    go_upto_region 4 with (fail)
    refine wp_seq_text [] (StR.no HS17) ?_
    refine Seq.pure rfl rfl (by intro w; go_simp; try rfl) ?_
    simp only [Act.put, nA, nB, nC]
    refine Seq.done fun ws18 hws => ?_
    have HS18 := hws.st
    clear HS17 hws
    go_wp2_with fail
    refine wp_loop_rounds 3 ?_
    rw [rounds_succ]
    go_upto_region 5 with (fail)
    refine wp_seq_text [] (StR.no HS18) ?_
    refine Seq.pure rfl rfl (by intro w; go_simp; try rfl) ?_
    simp only [Act.put, nA, nB, nC]
    refine Seq.done fun ws19 hws => ?_
    have HS19 := hws.st
    clear HS18 hws
    go_upto_region 6 with (fail)
    refine wp_seq_text [] (StR.no HS19) ?_
    iterate 2 (refine Seq.pure rfl rfl (by intro w; go_simp; try rfl) ?_; simp only [Act.put, nA, nB, nC])
    refine Seq.done fun ws20 hws => ?_
    have HS20 := hws.st
    clear HS19 hws
    go_upto_region 7 with (fail)
    refine wp_seq [] (by kernel_rfl) (by kernel_rfl) Reg.fin_no (StR.no HS20) ?_
    iterate 4 (refine Seq.pure rfl rfl (by intro w; go_simp; try rfl) ?_; simp only [Act.put, nA, nB, nC])
    refine Seq.loadAt rfl rfl rfl rfl (by repeat (first | exact mC | apply mT)) (n := 3) (cs' := RC p3) (Nat.le_of_ble_eq_true rfl) (by kernel_rfl) rfl ?_
    simp only [Act.put, nA, nB, nC]
    iterate 4 (refine Seq.pure rfl rfl (by intro w; go_simp; try rfl) ?_; simp only [Act.put, nA, nB, nC])
    refine Seq.loadAt rfl rfl rfl rfl (by repeat (first | exact mC | apply mT)) (n := 3) (cs' := RC q3) (Nat.le_of_ble_eq_true rfl) (by kernel_rfl) rfl ?_
    simp only [Act.put, nA, nB, nC]
    refine Seq.call rfl rfl rfl rfl (by kernel_rfl) (cmp_q (k := (1 * k + 0)) HT.out (Z_p3.out.more (by omega)) (Z_q3.out.more (by omega)) C2.out (by omega)) ?_
    simp only [Act.put, nA, nB, nC]
    refine Seq.pure rfl rfl (by intro w; go_simp; try rfl) ?_
    simp only [Act.put, nA, nB, nC]
    refine Seq.done fun ws21 hws => ?_
    have HS21 := hws.st
    clear HS20 hws
    go_upto_region 9 with (fail)
    refine wp_seq_text [] (StR.no HS21) ?_
    refine Seq.pure (v := .int .i64 1) rfl rfl (by intro w; go_simp; try rfl) ?_
    simp only [Act.put, nA, nB, nC]
    refine Seq.pure rfl rfl (by intro w; go_simp; try rfl) ?_
    simp only [Act.put, nA, nB, nC]
    refine Seq.done fun ws22 hws => ?_
    have HS22 := hws.st
    clear HS21 hws
    go_wp2_with fail
    rw [rounds_succ]
    go_upto_region 5 with (fail)
    refine wp_seq_text [] (StR.no HS22) ?_
    refine Seq.pure rfl rfl (by intro w; go_simp; try rfl) ?_
    simp only [Act.put, nA, nB, nC]
    refine Seq.done fun ws23 hws => ?_
    have HS23 := hws.st
    clear HS22 hws
    go_upto_region 6 with (fail)
    refine wp_seq_text [] (StR.no HS23) ?_
    iterate 2 (refine Seq.pure rfl rfl (by intro w; go_simp; try rfl) ?_; simp only [Act.put, nA, nB, nC])
    refine Seq.done fun ws24 hws => ?_
    have HS24 := hws.st
    clear HS23 hws
    go_upto_region 7 with (fail)
    refine wp_seq [] (by kernel_rfl) (by kernel_rfl) Reg.fin_no (StR.no HS24) ?_
    iterate 4 (refine Seq.pure rfl rfl (by intro w; go_simp; try rfl) ?_; simp only [Act.put, nA, nB, nC])
    refine Seq.loadAt rfl rfl rfl rfl (by repeat (first | exact mC | apply mT)) (n := 3) (cs' := RC p4) (Nat.le_of_ble_eq_true rfl) (by kernel_rfl) rfl ?_
    simp only [Act.put, nA, nB, nC]
    iterate 4 (refine Seq.pure rfl rfl (by intro w; go_simp; try rfl) ?_; simp only [Act.put, nA, nB, nC])
    refine Seq.loadAt rfl rfl rfl rfl (by repeat (first | exact mC | apply mT)) (n := 3) (cs' := RC q4) (Nat.le_of_ble_eq_true rfl) (by kernel_rfl) rfl ?_
    simp only [Act.put, nA, nB, nC]
    refine Seq.call rfl rfl rfl rfl (by kernel_rfl) (cmp_q (k := (1 * k + 0)) HT.out (Z_p4.out.more (by omega)) (Z_q4.out.more (by omega)) C3.out (by omega)) ?_
    simp only [Act.put, nA, nB, nC]
    refine Seq.pure rfl rfl (by intro w; go_simp; try rfl) ?_
    simp only [Act.put, nA, nB, nC]
    refine Seq.done fun ws25 hws => ?_
    have HS25 := hws.st
    clear HS24 hws
    go_upto_region 8 with (fail)
    refine wp_seq_text [] (StR.no HS25) ?_
    refine Seq.pure rfl rfl (by intro w; go_simp; try rfl) ?_
    simp only [Act.put, nA, nB, nC]
    refine Seq.done fun ws26 hws => ?_
    have HS26 := hws.st
    clear HS25 hws
    go_wp2_with fail
    go_ret
    exact ⟨congrArg (fun b => Ending.returned (.bool b)) HB.out, HS26.below⟩
  · have HB := Lib.hid (show false = sameQ p1 p2 p3 p4 p5 p6 q1 q2 q3 q4 q5 q6 from by unfold sameQ; symm; simp; grind)
    obtain ⟨v0, hv0, r0⟩ : ∃ v, cmpQ p1 q1 = v ∧ (v == 0) = true := ⟨_, rfl, by rw [beq_iff_eq, cmpQ_zero]; grind⟩
    have C0 := Lib.hid hv0; clear hv0
    obtain ⟨v1, hv1, r1⟩ : ∃ v, cmpQ p2 q2 = v ∧ (v == 0) = true := ⟨_, rfl, by rw [beq_iff_eq, cmpQ_zero]; grind⟩
    have C1 := Lib.hid hv1; clear hv1
    obtain ⟨v2, hv2, r2⟩ : ∃ v, cmpQ p3 q3 = v ∧ (v == 0) = true := ⟨_, rfl, by rw [beq_iff_eq, cmpQ_zero]; grind⟩
    have C2 := Lib.hid hv2; clear hv2
    obtain ⟨v3, hv3, r3⟩ : ∃ v, cmpQ p4 q4 = v ∧ (v == 0) = true := ⟨_, rfl, by rw [beq_iff_eq, cmpQ_zero]; grind⟩
    have C3 := Lib.hid hv3; clear hv3
    obtain ⟨v4, hv4, r4⟩ : ∃ v, cmpQ p5 q5 = v ∧ (v == 0) = false := ⟨_, rfl, by rw [beq_eq_false_iff_ne, ne_eq, cmpQ_zero]; grind⟩
    have C4 := Lib.hid hv4; clear hv4
    clear hb1 hb2 hb3 hb4 hb5
    go_enter Tryd.func22, Tryd.ntmps22
    have HS : St w [] w := St.start
    go_upto_region 0 with (fail)
    refine wp_seq_text [] (StR.no HS) ?_
    refine Seq.box rfl rfl rfl (v := .agg (PW (rt p1) (rt p2) (rt p3) (rt p4) (rt p5) (rt p6))) (cs := PW (rt p1) (rt p2) (rt p3) (rt p4) (rt p5) (rt p6)) rfl rfl ?_
    intro bk2 _ _ hbk2_r
    simp only [Act.put, nA, nB, nC]
    refine Seq.box rfl rfl rfl (v := .agg (PW (rt q1) (rt q2) (rt q3) (rt q4) (rt q5) (rt q6))) (cs := PW (rt q1) (rt q2) (rt q3) (rt q4) (rt q5) (rt q6)) rfl rfl ?_
    intro bk3 _ _ hbk3_r
    obtain ⟨ne_bk3_bk2, hbk3_r⟩ := Reg.ne_of_put hbk3_r
    have ne_bk2_bk3 := Ne.symm ne_bk3_bk2
    simp only [Act.put, nA, nB, nC]
    refine Seq.pure rfl rfl (by intro w; go_simp; try rfl) ?_
    simp only [Act.put, nA, nB, nC]
    refine Seq.done fun ws1 hws => ?_
    have HS1 := hws.list2 (p := bk2) (q := bk3) (by repeat (first | exact rS | refine rN (by assumption) ?_)) (by repeat (first | exact rS | refine rN (by assumption) ?_)) (by assumption)
    clear HS hws
    go_upto_region 1 with (fail)
    refine wp_seq_text [] (StR.no HS1) ?_
    refine Seq.pure rfl rfl (by intro w; go_simp; try rfl) ?_
    simp only [Act.put, nA, nB, nC]
    refine Seq.done fun ws2 hws => ?_
    have HS2 := hws.st
    clear HS1 hws
    go_wp2_with fail
    refine wp_loop_rounds 4 ?_
    rw [rounds_succ]
    go_upto_region 2 with (fail)
    refine wp_seq_text [] (StR.no HS2) ?_
    refine Seq.pure rfl rfl (by intro w; go_simp; try rfl) ?_
    simp only [Act.put, nA, nB, nC]
    refine Seq.done fun ws3 hws => ?_
    have HS3 := hws.st
    clear HS2 hws
    go_upto_region 3 with (fail)
    refine wp_seq_text [] (StR.no HS3) ?_
    iterate 2 (refine Seq.pure rfl rfl (by intro w; go_simp; try rfl) ?_; simp only [Act.put, nA, nB, nC])
    refine Seq.done fun ws4 hws => ?_
    have HS4 := hws.st
    clear HS3 hws
    go_upto_region 4 with (fail)
    refine wp_seq_text [] (StR.no HS4) ?_
    refine Seq.pure rfl rfl (by intro w; go_simp; try rfl) ?_
    simp only [Act.put, nA, nB, nC]
    refine Seq.done fun ws5 hws => ?_
    have HS5 := hws.st
    clear HS4 hws
    go_wp2_with fail
    refine wp_loop_rounds 3 ?_
    rw [rounds_succ]
    go_upto_region 5 with (fail)
    refine wp_seq_text [] (StR.no HS5) ?_
    refine Seq.pure rfl rfl (by intro w; go_simp; try rfl) ?_
    simp only [Act.put, nA, nB, nC]
    refine Seq.done fun ws6 hws => ?_
    have HS6 := hws.st
    clear HS5 hws
    go_upto_region 6 with (fail)
    refine wp_seq_text [] (StR.no HS6) ?_
    iterate 2 (refine Seq.pure rfl rfl (by intro w; go_simp; try rfl) ?_; simp only [Act.put, nA, nB, nC])
    refine Seq.done fun ws7 hws => ?_
    have HS7 := hws.st
    clear HS6 hws
    go_upto_region 7 with (fail)
    refine wp_seq [] (by kernel_rfl) (by kernel_rfl) Reg.fin_no (StR.no HS7) ?_
    iterate 4 (refine Seq.pure rfl rfl (by intro w; go_simp; try rfl) ?_; simp only [Act.put, nA, nB, nC])
    refine Seq.loadAt rfl rfl rfl rfl (by repeat (first | exact mC | apply mT)) (n := 3) (cs' := RC p1) (Nat.le_of_ble_eq_true rfl) (by kernel_rfl) rfl ?_
    simp only [Act.put, nA, nB, nC]
    iterate 4 (refine Seq.pure rfl rfl (by intro w; go_simp; try rfl) ?_; simp only [Act.put, nA, nB, nC])
    refine Seq.loadAt rfl rfl rfl rfl (by repeat (first | exact mC | apply mT)) (n := 3) (cs' := RC q1) (Nat.le_of_ble_eq_true rfl) (by kernel_rfl) rfl ?_
    simp only [Act.put, nA, nB, nC]
    refine Seq.call rfl rfl rfl rfl (by kernel_rfl) (cmp_q (k := (1 * k + 0)) HT.out (Z_p1.out.more (by omega)) (Z_q1.out.more (by omega)) C0.out (by omega)) ?_
    simp only [Act.put, nA, nB, nC]
    refine Seq.pure rfl rfl (by intro w; go_simp; try rfl) ?_
    simp only [Act.put, nA, nB, nC]
    refine Seq.done fun ws8 hws => ?_
    have HS8 := hws.st
    clear HS7 hws
    go_upto_region 9 with (fail)
    refine wp_seq_text [] (StR.no HS8) ?_
    refine Seq.pure (v := .int .i64 1) rfl rfl (by intro w; go_simp; try rfl) ?_
    simp only [Act.put, nA, nB, nC]
    refine Seq.pure rfl rfl (by intro w; go_simp; try rfl) ?_
    simp only [Act.put, nA, nB, nC]
    refine Seq.done fun ws9 hws => ?_
    have HS9 := hws.st
    clear HS8 hws
    go_wp2_with fail
    rw [rounds_succ]
    go_upto_region 5 with (fail)
    refine wp_seq_text [] (StR.no HS9) ?_
    refine Seq.pure rfl rfl (by intro w; go_simp; try rfl) ?_
    simp only [Act.put, nA, nB, nC]
    refine Seq.done fun ws10 hws => ?_
    have HS10 := hws.st
    clear HS9 hws
    go_upto_region 6 with (fail)
    refine wp_seq_text [] (StR.no HS10) ?_
    iterate 2 (refine Seq.pure rfl rfl (by intro w; go_simp; try rfl) ?_; simp only [Act.put, nA, nB, nC])
    refine Seq.done fun ws11 hws => ?_
    have HS11 := hws.st
    clear HS10 hws
    go_upto_region 7 with (fail)
    refine wp_seq [] (by kernel_rfl) (by kernel_rfl) Reg.fin_no (StR.no HS11) ?_
    iterate 4 (refine Seq.pure rfl rfl (by intro w; go_simp; try rfl) ?_; simp only [Act.put, nA, nB, nC])
    refine Seq.loadAt rfl rfl rfl rfl (by repeat (first | exact mC | apply mT)) (n := 3) (cs' := RC p2) (Nat.le_of_ble_eq_true rfl) (by kernel_rfl) rfl ?_
    simp only [Act.put, nA, nB, nC]
    iterate 4 (refine Seq.pure rfl rfl (by intro w; go_simp; try rfl) ?_; simp only [Act.put, nA, nB, nC])
    refine Seq.loadAt rfl rfl rfl rfl (by repeat (first | exact mC | apply mT)) (n := 3) (cs' := RC q2) (Nat.le_of_ble_eq_true rfl) (by kernel_rfl) rfl ?_
    simp only [Act.put, nA, nB, nC]
    refine Seq.call rfl rfl rfl rfl (by kernel_rfl) (cmp_q (k := (1 * k + 0)) HT.out (Z_p2.out.more (by omega)) (Z_q2.out.more (by omega)) C1.out (by omega)) ?_
    simp only [Act.put, nA, nB, nC]
    refine Seq.pure rfl rfl (by intro w; go_simp; try rfl) ?_
    simp only [Act.put, nA, nB, nC]
    refine Seq.done fun ws12 hws => ?_
    have HS12 := hws.st
    clear HS11 hws
    go_upto_region 9 with (fail)
    refine wp_seq_text [] (StR.no HS12) ?_
    refine Seq.pure (v := .int .i64 2) rfl rfl (by intro w; go_simp; try rfl) ?_
    simp only [Act.put, nA, nB, nC]
    refine Seq.pure rfl rfl (by intro w; go_simp; try rfl) ?_
    simp only [Act.put, nA, nB, nC]
    refine Seq.done fun ws13 hws => ?_
    have HS13 := hws.st
    clear HS12 hws
    go_wp2_with fail
    rw [rounds_succ]
    go_upto_region 5 with (fail)
    refine wp_seq_text [] (StR.no HS13) ?_
    refine Seq.pure rfl rfl (by intro w; go_simp; try rfl) ?_
    simp only [Act.put, nA, nB, nC]
    refine Seq.done fun ws14 hws => ?_
    have HS14 := hws.st
    clear HS13 hws
    go_upto_region 10 with (fail)
    refine wp_seq_text [] (StR.no HS14) ?_
    refine Seq.pure (v := .int .i64 1) rfl rfl (by intro w; go_simp; try rfl) ?_
    simp only [Act.put, nA, nB, nC]
    refine Seq.pure rfl rfl (by intro w; go_simp; try rfl) ?_
    simp only [Act.put, nA, nB, nC]
    refine Seq.done fun ws15 hws => ?_
    have HS15 := hws.st
    clear HS14 hws
    go_wp2_with fail
    rw [rounds_succ]
    go_upto_region 2 with (fail)
    refine wp_seq_text [] (StR.no HS15) ?_
    refine Seq.pure rfl rfl (by intro w; go_simp; try rfl) ?_
    simp only [Act.put, nA, nB, nC]
    refine Seq.done fun ws16 hws => ?_
    have HS16 := hws.st
    clear HS15 hws
    go_upto_region 3 with (fail)
    refine wp_seq_text [] (StR.no HS16) ?_
    iterate 2 (refine Seq.pure rfl rfl (by intro w; go_simp; try rfl) ?_; simp only [Act.put, nA, nB, nC])
    refine Seq.done fun ws17 hws => ?_
    have HS17 := hws.st
    clear HS16 hws
    go_upto_region 4 with (fail)
    refine wp_seq_text [] (StR.no HS17) ?_
    refine Seq.pure rfl rfl (by intro w; go_simp; try rfl) ?_
    simp only [Act.put, nA, nB, nC]
    refine Seq.done fun ws18 hws => ?_
    have HS18 := hws.st
    clear HS17 hws
    go_wp2_with fail
    refine wp_loop_rounds 3 ?_
    rw [rounds_succ]
    go_upto_region 5 with (fail)
    refine wp_seq_text [] (StR.no HS18) ?_
    refine Seq.pure rfl rfl (by intro w; go_simp; try rfl) ?_
    simp only [Act.put, nA, nB, nC]
    refine Seq.done fun ws19 hws => ?_
    have HS19 := hws.st
    clear HS18 hws
    go_upto_region 6 with (fail)
    refine wp_seq_text [] (StR.no HS19) ?_
    iterate 2 (refine Seq.pure rfl rfl (by intro w; go_simp; try rfl) ?_; simp only [Act.put, nA, nB, nC])
    refine Seq.done fun ws20 hws => ?_
    have HS20 := hws.st
    clear HS19 hws
    go_upto_region 7 with (fail)
    refine wp_seq [] (by kernel_rfl) (by kernel_rfl) Reg.fin_no (StR.no HS20) ?_
    iterate 4 (refine Seq.pure rfl rfl (by intro w; go_simp; try rfl) ?_; simp only [Act.put, nA, nB, nC])
    refine Seq.loadAt rfl rfl rfl rfl (by repeat (first | exact mC | apply mT)) (n := 3) (cs' := RC p3) (Nat.le_of_ble_eq_true rfl) (by kernel_rfl) rfl ?_
    simp only [Act.put, nA, nB, nC]
    iterate 4 (refine Seq.pure rfl rfl (by intro w; go_simp; try rfl) ?_; simp only [Act.put, nA, nB, nC])
    refine Seq.loadAt rfl rfl rfl rfl (by repeat (first | exact mC | apply mT)) (n := 3) (cs' := RC q3) (Nat.le_of_ble_eq_true rfl) (by kernel_rfl) rfl ?_
    simp only [Act.put, nA, nB, nC]
    refine Seq.call rfl rfl rfl rfl (by kernel_rfl) (cmp_q (k := (1 * k + 0)) HT.out (Z_p3.out.more (by omega)) (Z_q3.out.more (by omega)) C2.out (by omega)) ?_
    simp only [Act.put, nA, nB, nC]
    refine Seq.pure rfl rfl (by intro w; go_simp; try rfl) ?_
    simp only [Act.put, nA, nB, nC]
    refine Seq.done fun ws21 hws => ?_
    have HS21 := hws.st
    clear HS20 hws
    go_upto_region 9 with (fail)
    refine wp_seq_text [] (StR.no HS21) ?_
    refine Seq.pure (v := .int .i64 1) rfl rfl (by intro w; go_simp; try rfl) ?_
    simp only [Act.put, nA, nB, nC]
    refine Seq.pure rfl rfl (by intro w; go_simp; try rfl) ?_
    simp only [Act.put, nA, nB, nC]
    refine Seq.done fun ws22 hws => ?_
    have HS22 := hws.st
    clear HS21 hws
    go_wp2_with fail
    rw [rounds_succ]
    go_upto_region 5 with (fail)
    refine wp_seq_text [] (StR.no HS22) ?_
    refine Seq.pure rfl rfl (by intro w; go_simp; try rfl) ?_
    simp only [Act.put, nA, nB, nC]
    refine Seq.done fun ws23 hws => ?_
    have HS23 := hws.st
    clear HS22 hws
    go_upto_region 6 with (fail)
    refine wp_seq_text [] (StR.no HS23) ?_
    iterate 2 (refine Seq.pure rfl rfl (by intro w; go_simp; try rfl) ?_; simp only [Act.put, nA, nB, nC])
    refine Seq.done fun ws24 hws => ?_
    have HS24 := hws.st
    clear HS23 hws
    go_upto_region 7 with (fail)
    refine wp_seq [] (by kernel_rfl) (by kernel_rfl) Reg.fin_no (StR.no HS24) ?_
    iterate 4 (refine Seq.pure rfl rfl (by intro w; go_simp; try rfl) ?_; simp only [Act.put, nA, nB, nC])
    refine Seq.loadAt rfl rfl rfl rfl (by repeat (first | exact mC | apply mT)) (n := 3) (cs' := RC p4) (Nat.le_of_ble_eq_true rfl) (by kernel_rfl) rfl ?_
    simp only [Act.put, nA, nB, nC]
    iterate 4 (refine Seq.pure rfl rfl (by intro w; go_simp; try rfl) ?_; simp only [Act.put, nA, nB, nC])
    refine Seq.loadAt rfl rfl rfl rfl (by repeat (first | exact mC | apply mT)) (n := 3) (cs' := RC q4) (Nat.le_of_ble_eq_true rfl) (by kernel_rfl) rfl ?_
    simp only [Act.put, nA, nB, nC]
    refine Seq.call rfl rfl rfl rfl (by kernel_rfl) (cmp_q (k := (1 * k + 0)) HT.out (Z_p4.out.more (by omega)) (Z_q4.out.more (by omega)) C3.out (by omega)) ?_
    simp only [Act.put, nA, nB, nC]
    refine Seq.pure rfl rfl (by intro w; go_simp; try rfl) ?_
    simp only [Act.put, nA, nB, nC]
    refine Seq.done fun ws25 hws => ?_
    have HS25 := hws.st
    clear HS24 hws
    go_upto_region 9 with (fail)
    refine wp_seq_text [] (StR.no HS25) ?_
    refine Seq.pure (v := .int .i64 2) rfl rfl (by intro w; go_simp; try rfl) ?_
    simp only [Act.put, nA, nB, nC]
    refine Seq.pure rfl rfl (by intro w; go_simp; try rfl) ?_
    simp only [Act.put, nA, nB, nC]
    refine Seq.done fun ws26 hws => ?_
    have HS26 := hws.st
    clear HS25 hws
    go_wp2_with fail
    rw [rounds_succ]
    go_upto_region 5 with (fail)
    refine wp_seq_text [] (StR.no HS26) ?_
    refine Seq.pure rfl rfl (by intro w; go_simp; try rfl) ?_
    simp only [Act.put, nA, nB, nC]
    refine Seq.done fun ws27 hws => ?_
    have HS27 := hws.st
    clear HS26 hws
    go_upto_region 10 with (fail)
    refine wp_seq_text [] (StR.no HS27) ?_
    refine Seq.pure (v := .int .i64 2) rfl rfl (by intro w; go_simp; try rfl) ?_
    simp only [Act.put, nA, nB, nC]
    refine Seq.pure rfl rfl (by intro w; go_simp; try rfl) ?_
    simp only [Act.put, nA, nB, nC]
    refine Seq.done fun ws28 hws => ?_
    have HS28 := hws.st
    clear HS27 hws
    go_wp2_with fail
    rw [rounds_succ]
    go_upto_region 2 with (fail)
    refine wp_seq_text [] (StR.no HS28) ?_
    refine Seq.pure rfl rfl (by intro w; go_simp; try rfl) ?_
    simp only [Act.put, nA, nB, nC]
    refine Seq.done fun ws29 hws => ?_
    have HS29 := hws.st
    clear HS28 hws
    go_upto_region 3 with (fail)
    refine wp_seq_text [] (StR.no HS29) ?_
    iterate 2 (refine Seq.pure rfl rfl (by intro w; go_simp; try rfl) ?_; simp only [Act.put, nA, nB, nC])
    refine Seq.done fun ws30 hws => ?_
    have HS30 := hws.st
    clear HS29 hws
    go_upto_region 4 with (fail)
    refine wp_seq_text [] (StR.no HS30) ?_
    refine Seq.pure rfl rfl (by intro w; go_simp; try rfl) ?_
    simp only [Act.put, nA, nB, nC]
    refine Seq.done fun ws31 hws => ?_
    have HS31 := hws.st
    clear HS30 hws
    go_wp2_with fail
    refine wp_loop_rounds 3 ?_
    rw [rounds_succ]
    go_upto_region 5 with (fail)
    refine wp_seq_text [] (StR.no HS31) ?_
    refine Seq.pure rfl rfl (by intro w; go_simp; try rfl) ?_
    simp only [Act.put, nA, nB, nC]
    refine Seq.done fun ws32 hws => ?_
    have HS32 := hws.st
    clear HS31 hws
    go_upto_region 6 with (fail)
    refine wp_seq_text [] (StR.no HS32) ?_
    iterate 2 (refine Seq.pure rfl rfl (by intro w; go_simp; try rfl) ?_; simp only [Act.put, nA, nB, nC])
    refine Seq.done fun ws33 hws => ?_
    have HS33 := hws.st
    clear HS32 hws
    go_upto_region 7 with (fail)
    refine wp_seq [] (by kernel_rfl) (by kernel_rfl) Reg.fin_no (StR.no HS33) ?_
    iterate 4 (refine Seq.pure rfl rfl (by intro w; go_simp; try rfl) ?_; simp only [Act.put, nA, nB, nC])
    refine Seq.loadAt rfl rfl rfl rfl (by repeat (first | exact mC | apply mT)) (n := 3) (cs' := RC p5) (Nat.le_of_ble_eq_true rfl) (by kernel_rfl) rfl ?_
    simp only [Act.put, nA, nB, nC]
    iterate 4 (refine Seq.pure rfl rfl (by intro w; go_simp; try rfl) ?_; simp only [Act.put, nA, nB, nC])
    refine Seq.loadAt rfl rfl rfl rfl (by repeat (first | exact mC | apply mT)) (n := 3) (cs' := RC q5) (Nat.le_of_ble_eq_true rfl) (by kernel_rfl) rfl ?_
    simp only [Act.put, nA, nB, nC]
    refine Seq.call rfl rfl rfl rfl (by kernel_rfl) (cmp_q (k := (1 * k + 0)) HT.out (Z_p5.out.more (by omega)) (Z_q5.out.more (by omega)) C4.out (by omega)) ?_
    simp only [Act.put, nA, nB, nC]
    refine Seq.pure rfl rfl (by intro w; go_simp; try rfl) ?_
    simp only [Act.put, nA, nB, nC]
    refine Seq.done fun ws34 hws => ?_
    have HS34 := hws.st
    clear HS33 hws
    go_upto_region 8 with (fail)
    refine wp_seq_text [] (StR.no HS34) ?_
    refine Seq.pure rfl rfl (by intro w; go_simp; try rfl) ?_
    simp only [Act.put, nA, nB, nC]
    refine Seq.done fun ws35 hws => ?_
    have HS35 := hws.st
    clear HS34 hws
    go_wp2_with fail
    go_ret
    exact ⟨congrArg (fun b => Ending.returned (.bool b)) HB.out, HS35.below⟩
  · have HB := Lib.hid (show false = sameQ p1 p2 p3 p4 p5 p6 q1 q2 q3 q4 q5 q6 from by unfold sameQ; symm; simp; grind)
    obtain ⟨v0, hv0, r0⟩ : ∃ v, cmpQ p1 q1 = v ∧ (v == 0) = true := ⟨_, rfl, by rw [beq_iff_eq, cmpQ_zero]; grind⟩
    have C0 := Lib.hid hv0; clear hv0
    obtain ⟨v1, hv1, r1⟩ : ∃ v, cmpQ p2 q2 = v ∧ (v == 0) = true := ⟨_, rfl, by rw [beq_iff_eq, cmpQ_zero]; grind⟩
    have C1 := Lib.hid hv1; clear hv1
    obtain ⟨v2, hv2, r2⟩ : ∃ v, cmpQ p3 q3 = v ∧ (v == 0) = true := ⟨_, rfl, by rw [beq_iff_eq, cmpQ_zero]; grind⟩
    have C2 := Lib.hid hv2; clear hv2
    obtain ⟨v3, hv3, r3⟩ : ∃ v, cmpQ p4 q4 = v ∧ (v == 0) = true := ⟨_, rfl, by rw [beq_iff_eq, cmpQ_zero]; grind⟩
    have C3 := Lib.hid hv3; clear hv3
    obtain ⟨v4, hv4, r4⟩ : ∃ v, cmpQ p5 q5 = v ∧ (v == 0) = true := ⟨_, rfl, by rw [beq_iff_eq, cmpQ_zero]; grind⟩
    have C4 := Lib.hid hv4; clear hv4
    obtain ⟨v5, hv5, r5⟩ : ∃ v, cmpQ p6 q6 = v ∧ (v == 0) = false := ⟨_, rfl, by rw [beq_eq_false_iff_ne, ne_eq, cmpQ_zero]; grind⟩
    have C5 := Lib.hid hv5; clear hv5
    clear hb1 hb2 hb3 hb4 hb5 hb6
    go_enter Tryd.func22, Tryd.ntmps22
    have HS : St w [] w := St.start
    go_upto_region 0 with (fail)
    refine wp_seq_text [] (StR.no HS) ?_
    refine Seq.box rfl rfl rfl (v := .agg (PW (rt p1) (rt p2) (rt p3) (rt p4) (rt p5) (rt p6))) (cs := PW (rt p1) (rt p2) (rt p3) (rt p4) (rt p5) (rt p6)) rfl rfl ?_
    intro bk2 _ _ hbk2_r
    simp only [Act.put, nA, nB, nC]
    refine Seq.box rfl rfl rfl (v := .agg (PW (rt q1) (rt q2) (rt q3) (rt q4) (rt q5) (rt q6))) (cs := PW (rt q1) (rt q2) (rt q3) (rt q4) (rt q5) (rt q6)) rfl rfl ?_
    intro bk3 _ _ hbk3_r
    obtain ⟨ne_bk3_bk2, hbk3_r⟩ := Reg.ne_of_put hbk3_r
    have ne_bk2_bk3 := Ne.symm ne_bk3_bk2
    simp only [Act.put, nA, nB, nC]
    refine Seq.pure rfl rfl (by intro w; go_simp; try rfl) ?_
    simp only [Act.put, nA, nB, nC]
    refine Seq.done fun ws1 hws => ?_
    have HS1 := hws.list2 (p := bk2) (q := bk3) (by repeat (first | exact rS | refine rN (by assumption) ?_)) (by repeat (first | exact rS | refine rN (by assumption) ?_)) (by assumption)
    clear HS hws
    go_upto_region 1 with (fail)
    refine wp_seq_text [] (StR.no HS1) ?_
    refine Seq.pure rfl rfl (by intro w; go_simp; try rfl) ?_
    simp only [Act.put, nA, nB, nC]
    refine Seq.done fun ws2 hws => ?_
    have HS2 := hws.st
    clear HS1 hws
    go_wp2_with fail
    refine wp_loop_rounds 4 ?_
    rw [rounds_succ]
    go_upto_region 2 with (fail)
    refine wp_seq_text [] (StR.no HS2) ?_
    refine Seq.pure rfl rfl (by intro w; go_simp; try rfl) ?_
    simp only [Act.put, nA, nB, nC]
    refine Seq.done fun ws3 hws => ?_
    have HS3 := hws.st
    clear HS2 hws
    go_upto_region 3 with (fail)
    refine wp_seq_text [] (StR.no HS3) ?_
    iterate 2 (refine Seq.pure rfl rfl (by intro w; go_simp; try rfl) ?_; simp only [Act.put, nA, nB, nC])
    refine Seq.done fun ws4 hws => ?_
    have HS4 := hws.st
    clear HS3 hws
    go_upto_region 4 with (fail)
    refine wp_seq_text [] (StR.no HS4) ?_
    refine Seq.pure rfl rfl (by intro w; go_simp; try rfl) ?_
    simp only [Act.put, nA, nB, nC]
    refine Seq.done fun ws5 hws => ?_
    have HS5 := hws.st
    clear HS4 hws
    go_wp2_with fail
    refine wp_loop_rounds 3 ?_
    rw [rounds_succ]
    go_upto_region 5 with (fail)
    refine wp_seq_text [] (StR.no HS5) ?_
    refine Seq.pure rfl rfl (by intro w; go_simp; try rfl) ?_
    simp only [Act.put, nA, nB, nC]
    refine Seq.done fun ws6 hws => ?_
    have HS6 := hws.st
    clear HS5 hws
    go_upto_region 6 with (fail)
    refine wp_seq_text [] (StR.no HS6) ?_
    iterate 2 (refine Seq.pure rfl rfl (by intro w; go_simp; try rfl) ?_; simp only [Act.put, nA, nB, nC])
    refine Seq.done fun ws7 hws => ?_
    have HS7 := hws.st
    clear HS6 hws
    go_upto_region 7 with (fail)
    refine wp_seq [] (by kernel_rfl) (by kernel_rfl) Reg.fin_no (StR.no HS7) ?_
    iterate 4 (refine Seq.pure rfl rfl (by intro w; go_simp; try rfl) ?_; simp only [Act.put, nA, nB, nC])
    refine Seq.loadAt rfl rfl rfl rfl (by repeat (first | exact mC | apply mT)) (n := 3) (cs' := RC p1) (Nat.le_of_ble_eq_true rfl) (by kernel_rfl) rfl ?_
    simp only [Act.put, nA, nB, nC]
    iterate 4 (refine Seq.pure rfl rfl (by intro w; go_simp; try rfl) ?_; simp only [Act.put, nA, nB, nC])
    refine Seq.loadAt rfl rfl rfl rfl (by repeat (first | exact mC | apply mT)) (n := 3) (cs' := RC q1) (Nat.le_of_ble_eq_true rfl) (by kernel_rfl) rfl ?_
    simp only [Act.put, nA, nB, nC]
    refine Seq.call rfl rfl rfl rfl (by kernel_rfl) (cmp_q (k := (1 * k + 0)) HT.out (Z_p1.out.more (by omega)) (Z_q1.out.more (by omega)) C0.out (by omega)) ?_
    simp only [Act.put, nA, nB, nC]
    refine Seq.pure rfl rfl (by intro w; go_simp; try rfl) ?_
    simp only [Act.put, nA, nB, nC]
    refine Seq.done fun ws8 hws => ?_
    have HS8 := hws.st
    clear HS7 hws
    go_upto_region 9 with (fail)
    refine wp_seq_text [] (StR.no HS8) ?_
    refine Seq.pure (v := .int .i64 1) rfl rfl (by intro w; go_simp; try rfl) ?_
    simp only [Act.put, nA, nB, nC]
    refine Seq.pure rfl rfl (by intro w; go_simp; try rfl) ?_
    simp only [Act.put, nA, nB, nC]
    refine Seq.done fun ws9 hws => ?_
    have HS9 := hws.st
    clear HS8 hws
    go_wp2_with fail
    rw [rounds_succ]
    go_upto_region 5 with (fail)
    refine wp_seq_text [] (StR.no HS9) ?_
    refine Seq.pure rfl rfl (by intro w; go_simp; try rfl) ?_
    simp only [Act.put, nA, nB, nC]
    refine Seq.done fun ws10 hws => ?_
    have HS10 := hws.st
    clear HS9 hws
    go_upto_region 6 with (fail)
    refine wp_seq_text [] (StR.no HS10) ?_
    iterate 2 (refine Seq.pure rfl rfl (by intro w; go_simp; try rfl) ?_; simp only [Act.put, nA, nB, nC])
    refine Seq.done fun ws11 hws => ?_
    have HS11 := hws.st
    clear HS10 hws
    go_upto_region 7 with (fail)
    refine wp_seq [] (by kernel_rfl) (by kernel_rfl) Reg.fin_no (StR.no HS11) ?_
    iterate 4 (refine Seq.pure rfl rfl (by intro w; go_simp; try rfl) ?_; simp only [Act.put, nA, nB, nC])
    refine Seq.loadAt rfl rfl rfl rfl (by repeat (first | exact mC | apply mT)) (n := 3) (cs' := RC p2) (Nat.le_of_ble_eq_true rfl) (by kernel_rfl) rfl ?_
    simp only [Act.put, nA, nB, nC]
    iterate 4 (refine Seq.pure rfl rfl (by intro w; go_simp; try rfl) ?_; simp only [Act.put, nA, nB, nC])
    refine Seq.loadAt rfl rfl rfl rfl (by repeat (first | exact mC | apply mT)) (n := 3) (cs' := RC q2) (Nat.le_of_ble_eq_true rfl) (by kernel_rfl) rfl ?_
    simp only [Act.put, nA, nB, nC]
    refine Seq.call rfl rfl rfl rfl (by kernel_rfl) (cmp_q (k := (1 * k + 0)) HT.out (Z_p2.out.more (by omega)) (Z_q2.out.more (by omega)) C1.out (by omega)) ?_
    simp only [Act.put, nA, nB, nC]
    refine Seq.pure rfl rfl (by intro w; go_simp; try rfl) ?_
    simp only [Act.put, nA, nB, nC]
    refine Seq.done fun ws12 hws => ?_
    have HS12 := hws.st
    clear HS11 hws
    go_upto_region 9 with (fail)
    refine wp_seq_text [] (StR.no HS12) ?_
    refine Seq.pure (v := .int .i64 2) rfl rfl (by intro w; go_simp; try rfl) ?_
    simp only [Act.put, nA, nB, nC]
    refine Seq.pure rfl rfl (by intro w; go_simp; try rfl) ?_
    simp only [Act.put, nA, nB, nC]
    refine Seq.done fun ws13 hws => ?_
    have HS13 := hws.st
    clear HS12 hws
    go_wp2_with fail
    rw [rounds_succ]
    go_upto_region 5 with (fail)
    refine wp_seq_text [] (StR.no HS13) ?_
    refine Seq.pure rfl rfl (by intro w; go_simp; try rfl) ?_
    simp only [Act.put, nA, nB, nC]
    refine Seq.done fun ws14 hws => ?_
    have HS14 := hws.st
    clear HS13 hws
    go_upto_region 10 with (fail)
    refine wp_seq_text [] (StR.no HS14) ?_
    refine Seq.pure (v := .int .i64 1) rfl rfl (by intro w; go_simp; try rfl) ?_
    simp only [Act.put, nA, nB, nC]
    refine Seq.pure rfl rfl (by intro w; go_simp; try rfl) ?_
    simp only [Act.put, nA, nB, nC]
    refine Seq.done fun ws15 hws => ?_
    have HS15 := hws.st
    clear HS14 hws
    go_wp2_with fail
    rw [rounds_succ]
    go_upto_region 2 with (fail)
    refine wp_seq_text [] (StR.no HS15) ?_
    refine Seq.pure rfl rfl (by intro w; go_simp; try rfl) ?_
    simp only [Act.put, nA, nB, nC]
    refine Seq.done fun ws16 hws => ?_
    have HS16 := hws.st
    clear HS15 hws
    go_upto_region 3 with (fail)
    refine wp_seq_text [] (StR.no HS16) ?_
    iterate 2 (refine Seq.pure rfl rfl (by intro w; go_simp; try rfl) ?_; simp only [Act.put, nA, nB, nC])
    refine Seq.done fun ws17 hws => ?_
    have HS17 := hws.st
    clear HS16 hws
    go_upto_region 4 with (fail)
    refine wp_seq_text [] (StR.no HS17) ?_
    refine Seq.pure rfl rfl (by intro w; go_simp; try rfl) ?_
    simp only [Act.put, nA, nB, nC]
    refine Seq.done fun ws18 hws => ?_
    have HS18 := hws.st
    clear HS17 hws
    go_wp2_with fail
    refine wp_loop_rounds 3 ?_
    rw [rounds_succ]
    go_upto_region 5 with (fail)
    refine wp_seq_text [] (StR.no HS18) ?_
    refine Seq.pure rfl rfl (by intro w; go_simp; try rfl) ?_
    simp only [Act.put, nA, nB, nC]
    refine Seq.done fun ws19 hws => ?_
    have HS19 := hws.st
    clear HS18 hws
    go_upto_region 6 with (fail)
    refine wp_seq_text [] (StR.no HS19) ?_
    iterate 2 (refine Seq.pure rfl rfl (by intro w; go_simp; try rfl) ?_; simp only [Act.put, nA, nB, nC])
    refine Seq.done fun ws20 hws => ?_
    have HS20 := hws.st
    clear HS19 hws
    go_upto_region 7 with (fail)
    refine wp_seq [] (by kernel_rfl) (by kernel_rfl) Reg.fin_no (StR.no HS20) ?_
    iterate 4 (refine Seq.pure rfl rfl (by intro w; go_simp; try rfl) ?_; simp only [Act.put, nA, nB, nC])
    refine Seq.loadAt rfl rfl rfl rfl (by repeat (first | exact mC | apply mT)) (n := 3) (cs' := RC p3) (Nat.le_of_ble_eq_true rfl) (by kernel_rfl) rfl ?_
    simp only [Act.put, nA, nB, nC]
    iterate 4 (refine Seq.pure rfl rfl (by intro w; go_simp; try rfl) ?_; simp only [Act.put, nA, nB, nC])
    refine Seq.loadAt rfl rfl rfl rfl (by repeat (first | exact mC | apply mT)) (n := 3) (cs' := RC q3) (Nat.le_of_ble_eq_true rfl) (by kernel_rfl) rfl ?_
    simp only [Act.put, nA, nB, nC]
    refine Seq.call rfl rfl rfl rfl (by kernel_rfl) (cmp_q (k := (1 * k + 0)) HT.out (Z_p3.out.more (by omega)) (Z_q3.out.more (by omega)) C2.out (by omega)) ?_
    simp only [Act.put, nA, nB, nC]
    refine Seq.pure rfl rfl (by intro w; go_simp; try rfl) ?_
    simp only [Act.put, nA, nB, nC]
    refine Seq.done fun ws21 hws => ?_
    have HS21 := hws.st
    clear HS20 hws
    go_upto_region 9 with (fail)
    refine wp_seq_text [] (StR.no HS21) ?_
    refine Seq.pure (v := .int .i64 1) rfl rfl (by intro w; go_simp; try rfl) ?_
    simp only [Act.put, nA, nB, nC]
    refine Seq.pure rfl rfl (by intro w; go_simp; try rfl) ?_
    simp only [Act.put, nA, nB, nC]
    refine Seq.done fun ws22 hws => ?_
    have HS22 := hws.st
    clear HS21 hws
    go_wp2_with fail
    rw [rounds_succ]
    go_upto_region 5 with (fail)
    refine wp_seq_text [] (StR.no HS22) ?_
    refine Seq.pure rfl rfl (by intro w; go_simp; try rfl) ?_
    simp only [Act.put, nA, nB, nC]
    refine Seq.done fun ws23 hws => ?_
    have HS23 := hws.st
    clear HS22 hws
    go_upto_region 6 with (fail)
    refine wp_seq_text [] (StR.no HS23) ?_
    iterate 2 (refine Seq.pure rfl rfl (by intro w; go_simp; try rfl) ?_; simp only [Act.put, nA, nB, nC])
    refine Seq.done fun ws24 hws => ?_
    have HS24 := hws.st
    clear HS23 hws
    go_upto_region 7 with (fail)
    refine wp_seq [] (by kernel_rfl) (by kernel_rfl) Reg.fin_no (StR.no HS24) ?_
    iterate 4 (refine Seq.pure rfl rfl (by intro w; go_simp; try rfl) ?_; simp only [Act.put, nA, nB, nC])
    refine Seq.loadAt rfl rfl rfl rfl (by repeat (first | exact mC | apply mT)) (n := 3) (cs' := RC p4) (Nat.le_of_ble_eq_true rfl) (by kernel_rfl) rfl ?_
    simp only [Act.put, nA, nB, nC]
    iterate 4 (refine Seq.pure rfl rfl (by intro w; go_simp; try rfl) ?_; simp only [Act.put, nA, nB, nC])
    refine Seq.loadAt rfl rfl rfl rfl (by repeat (first | exact mC | apply mT)) (n := 3) (cs' := RC q4) (Nat.le_of_ble_eq_true rfl) (by kernel_rfl) rfl ?_
    simp only [Act.put, nA, nB, nC]
    refine Seq.call rfl rfl rfl rfl (by kernel_rfl) (cmp_q (k := (1 * k + 0)) HT.out (Z_p4.out.more (by omega)) (Z_q4.out.more (by omega)) C3.out (by omega)) ?_
    simp only [Act.put, nA, nB, nC]
    refine Seq.pure rfl rfl (by intro w; go_simp; try rfl) ?_
    simp only [Act.put, nA, nB, nC]
    refine Seq.done fun ws25 hws => ?_
    have HS25 := hws.st
    clear HS24 hws
    go_upto_region 9 with (fail)
    refine wp_seq_text [] (StR.no HS25) ?_
    refine Seq.pure (v := .int .i64 2) rfl rfl (by intro w; go_simp; try rfl) ?_
    simp only [Act.put, nA, nB, nC]
    refine Seq.pure rfl rfl (by intro w; go_simp; try rfl) ?_
    simp only [Act.put, nA, nB, nC]
    refine Seq.done fun ws26 hws => ?_
    have HS26 := hws.st
    clear HS25 hws
    go_wp2_with fail
    rw [rounds_succ]
    go_upto_region 5 with (fail)
    refine wp_seq_text [] (StR.no HS26) ?_
    refine Seq.pure rfl rfl (by intro w; go_simp; try rfl) ?_
    simp only [Act.put, nA, nB, nC]
    refine Seq.done fun ws27 hws => ?_
    have HS27 := hws.st
    clear HS26 hws
    go_upto_region 10 with (fail)
    refine wp_seq_text [] (StR.no HS27) ?_
    refine Seq.pure (v := .int .i64 2) rfl rfl (by intro w; go_simp; try rfl) ?_
    simp only [Act.put, nA, nB, nC]
    refine Seq.pure rfl rfl (by intro w; go_simp; try rfl) ?_
    simp only [Act.put, nA, nB, nC]
    refine Seq.done fun ws28 hws => ?_
    have HS28 := hws.st
    clear HS27 hws
    go_wp2_with fail
    rw [rounds_succ]
    go_upto_region 2 with (fail)
    refine wp_seq_text [] (StR.no HS28) ?_
    refine Seq.pure rfl rfl (by intro w; go_simp; try rfl) ?_
    simp only [Act.put, nA, nB, nC]
    refine Seq.done fun ws29 hws => ?_
    have HS29 := hws.st
    clear HS28 hws
    go_upto_region 3 with (fail)
    refine wp_seq_text [] (StR.no HS29) ?_
    iterate 2 (refine Seq.pure rfl rfl (by intro w; go_simp; try rfl) ?_; simp only [Act.put, nA, nB, nC])
    refine Seq.done fun ws30 hws => ?_
    have HS30 := hws.st
    clear HS29 hws
    go_upto_region 4 with (fail)
    refine wp_seq_text [] (StR.no HS30) ?_
    refine Seq.pure rfl rfl (by intro w; go_simp; try rfl) ?_
    simp only [Act.put, nA, nB, nC]
    refine Seq.done fun ws31 hws => ?_
    have HS31 := hws.st
    clear HS30 hws
    go_wp2_with fail
    refine wp_loop_rounds 3 ?_
    rw [rounds_succ]
    go_upto_region 5 with (fail)
    refine wp_seq_text [] (StR.no HS31) ?_
    refine Seq.pure rfl rfl (by intro w; go_simp; try rfl) ?_
    simp only [Act.put, nA, nB, nC]
    refine Seq.done fun ws32 hws => ?_
    have HS32 := hws.st
    clear HS31 hws
    go_upto_region 6 with (fail)
    refine wp_seq_text [] (StR.no HS32) ?_
    iterate 2 (refine Seq.pure rfl rfl (by intro w; go_simp; try rfl) ?_; simp only [Act.put, nA, nB, nC])
    refine Seq.done fun ws33 hws => ?_
    have HS33 := hws.st
    clear HS32 hws
    go_upto_region 7 with (fail)
    refine wp_seq [] (by kernel_rfl) (by kernel_rfl) Reg.fin_no (StR.no HS33) ?_
    iterate 4 (refine Seq.pure rfl rfl (by intro w; go_simp; try rfl) ?_; simp only [Act.put, nA, nB, nC])
    refine Seq.loadAt rfl rfl rfl rfl (by repeat (first | exact mC | apply mT)) (n := 3) (cs' := RC p5) (Nat.le_of_ble_eq_true rfl) (by kernel_rfl) rfl ?_
    simp only [Act.put, nA, nB, nC]
    iterate 4 (refine Seq.pure rfl rfl (by intro w; go_simp; try rfl) ?_; simp only [Act.put, nA, nB, nC])
    refine Seq.loadAt rfl rfl rfl rfl (by repeat (first | exact mC | apply mT)) (n := 3) (cs' := RC q5) (Nat.le_of_ble_eq_true rfl) (by kernel_rfl) rfl ?_
    simp only [Act.put, nA, nB, nC]
    refine Seq.call rfl rfl rfl rfl (by kernel_rfl) (cmp_q (k := (1 * k + 0)) HT.out (Z_p5.out.more (by omega)) (Z_q5.out.more (by omega)) C4.out (by omega)) ?_
    simp only [Act.put, nA, nB, nC]
    refine Seq.pure rfl rfl (by intro w; go_simp; try rfl) ?_
    simp only [Act.put, nA, nB, nC]
    refine Seq.done fun ws34 hws => ?_
    have HS34 := hws.st
    clear HS33 hws
    go_upto_region 9 with (fail)
    refine wp_seq_text [] (StR.no HS34) ?_
    refine Seq.pure (v := .int .i64 1) rfl rfl (by intro w; go_simp; try rfl) ?_
    simp only [Act.put, nA, nB, nC]
    refine Seq.pure rfl rfl (by intro w; go_simp; try rfl) ?_
    simp only [Act.put, nA, nB, nC]
    refine Seq.done fun ws35 hws => ?_
    have HS35 := hws.st
    clear HS34 hws
    go_wp2_with fail
    rw [rounds_succ]
    go_upto_region 5 with (fail)
    refine wp_seq_text [] (StR.no HS35) ?_
    refine Seq.pure rfl rfl (by intro w; go_simp; try rfl) ?_
    simp only [Act.put, nA, nB, nC]
    refine Seq.done fun ws36 hws => ?_
    have HS36 := hws.st
    clear HS35 hws
    go_upto_region 6 with (fail)
    refine wp_seq_text [] (StR.no HS36) ?_
    iterate 2 (refine Seq.pure rfl rfl (by intro w; go_simp; try rfl) ?_; simp only [Act.put, nA, nB, nC])
    refine Seq.done fun ws37 hws => ?_
    have HS37 := hws.st
    clear HS36 hws
    go_upto_region 7 with (fail)
    refine wp_seq [] (by kernel_rfl) (by kernel_rfl) Reg.fin_no (StR.no HS37) ?_
    iterate 4 (refine Seq.pure rfl rfl (by intro w; go_simp; try rfl) ?_; simp only [Act.put, nA, nB, nC])
    refine Seq.loadAt rfl rfl rfl rfl (by repeat (first | exact mC | apply mT)) (n := 3) (cs' := RC p6) (Nat.le_of_ble_eq_true rfl) (by kernel_rfl) rfl ?_
    simp only [Act.put, nA, nB, nC]
    iterate 4 (refine Seq.pure rfl rfl (by intro w; go_simp; try rfl) ?_; simp only [Act.put, nA, nB, nC])
    refine Seq.loadAt rfl rfl rfl rfl (by repeat (first | exact mC | apply mT)) (n := 3) (cs' := RC q6) (Nat.le_of_ble_eq_true rfl) (by kernel_rfl) rfl ?_
    simp only [Act.put, nA, nB, nC]
    refine Seq.call rfl rfl rfl rfl (by kernel_rfl) (cmp_q (k := (1 * k + 0)) HT.out (Z_p6.out.more (by omega)) (Z_q6.out.more (by omega)) C5.out (by omega)) ?_
    simp only [Act.put, nA, nB, nC]
    refine Seq.pure rfl rfl (by intro w; go_simp; try rfl) ?_
    simp only [Act.put, nA, nB, nC]
    refine Seq.done fun ws38 hws => ?_
    have HS38 := hws.st
    clear HS37 hws
    go_upto_region 8 with (fail)
    refine wp_seq_text [] (StR.no HS38) ?_
    refine Seq.pure rfl rfl (by intro w; go_simp; try rfl) ?_
    simp only [Act.put, nA, nB, nC]
    refine Seq.done fun ws39 hws => ?_
    have HS39 := hws.st
    clear HS38 hws
    go_wp2_with fail
    go_ret
    exact ⟨congrArg (fun b => Ending.returned (.bool b)) HB.out, HS39.below⟩
  · have HB := Lib.hid (show true = sameQ p1 p2 p3 p4 p5 p6 q1 q2 q3 q4 q5 q6 from by unfold sameQ; symm; simp; grind)
    obtain ⟨v0, hv0, r0⟩ : ∃ v, cmpQ p1 q1 = v ∧ (v == 0) = true := ⟨_, rfl, by rw [beq_iff_eq, cmpQ_zero]; grind⟩
    have C0 := Lib.hid hv0; clear hv0
    obtain ⟨v1, hv1, r1⟩ : ∃ v, cmpQ p2 q2 = v ∧ (v == 0) = true := ⟨_, rfl, by rw [beq_iff_eq, cmpQ_zero]; grind⟩
    have C1 := Lib.hid hv1; clear hv1
    obtain ⟨v2, hv2, r2⟩ : ∃ v, cmpQ p3 q3 = v ∧ (v == 0) = true := ⟨_, rfl, by rw [beq_iff_eq, cmpQ_zero]; grind⟩
    have C2 := Lib.hid hv2; clear hv2
    obtain ⟨v3, hv3, r3⟩ : ∃ v, cmpQ p4 q4 = v ∧ (v == 0) = true := ⟨_, rfl, by rw [beq_iff_eq, cmpQ_zero]; grind⟩
    have C3 := Lib.hid hv3; clear hv3
    obtain ⟨v4, hv4, r4⟩ : ∃ v, cmpQ p5 q5 = v ∧ (v == 0) = true := ⟨_, rfl, by rw [beq_iff_eq, cmpQ_zero]; grind⟩
    have C4 := Lib.hid hv4; clear hv4
    obtain ⟨v5, hv5, r5⟩ : ∃ v, cmpQ p6 q6 = v ∧ (v == 0) = true := ⟨_, rfl, by rw [beq_iff_eq, cmpQ_zero]; grind⟩
    have C5 := Lib.hid hv5; clear hv5
    clear hb1 hb2 hb3 hb4 hb5 hb6
    go_enter Tryd.func22, Tryd.ntmps22
    have HS : St w [] w := St.start
    go_upto_region 0 with (fail)
    refine wp_seq_text [] (StR.no HS) ?_
    refine Seq.box rfl rfl rfl (v := .agg (PW (rt p1) (rt p2) (rt p3) (rt p4) (rt p5) (rt p6))) (cs := PW (rt p1) (rt p2) (rt p3) (rt p4) (rt p5) (rt p6)) rfl rfl ?_
    intro bk2 _ _ hbk2_r
    simp only [Act.put, nA, nB, nC]
    refine Seq.box rfl rfl rfl (v := .agg (PW (rt q1) (rt q2) (rt q3) (rt q4) (rt q5) (rt q6))) (cs := PW (rt q1) (rt q2) (rt q3) (rt q4) (rt q5) (rt q6)) rfl rfl ?_
    intro bk3 _ _ hbk3_r
    obtain ⟨ne_bk3_bk2, hbk3_r⟩ := Reg.ne_of_put hbk3_r
    have ne_bk2_bk3 := Ne.symm ne_bk3_bk2
    simp only [Act.put, nA, nB, nC]
    refine Seq.pure rfl rfl (by intro w; go_simp; try rfl) ?_
    simp only [Act.put, nA, nB, nC]
    refine Seq.done fun ws1 hws => ?_
    have HS1 := hws.list2 (p := bk2) (q := bk3) (by repeat (first | exact rS | refine rN (by assumption) ?_)) (by repeat (first | exact rS | refine rN (by assumption) ?_)) (by assumption)
    clear HS hws
    go_upto_region 1 with (fail)
    refine wp_seq_text [] (StR.no HS1) ?_
    refine Seq.pure rfl rfl (by intro w; go_simp; try rfl) ?_
    simp only [Act.put, nA, nB, nC]
    refine Seq.done fun ws2 hws => ?_
    have HS2 := hws.st
    clear HS1 hws
    go_wp2_with fail
    refine wp_loop_rounds 4 ?_
    rw [rounds_succ]
    go_upto_region 2 with (fail)
    refine wp_seq_text [] (StR.no HS2) ?_
    refine Seq.pure rfl rfl (by intro w; go_simp; try rfl) ?_
    simp only [Act.put, nA, nB, nC]
    refine Seq.done fun ws3 hws => ?_
    have HS3 := hws.st
    clear HS2 hws
    go_upto_region 3 with (fail)
    refine wp_seq_text [] (StR.no HS3) ?_
    iterate 2 (refine Seq.pure rfl rfl (by intro w; go_simp; try rfl) ?_; simp only [Act.put, nA, nB, nC])
    refine Seq.done fun ws4 hws => ?_
    have HS4 := hws.st
    clear HS3 hws
    go_upto_region 4 with (fail)
    refine wp_seq_text [] (StR.no HS4) ?_
    refine Seq.pure rfl rfl (by intro w; go_simp; try rfl) ?_
    simp only [Act.put, nA, nB, nC]
    refine Seq.done fun ws5 hws => ?_
    have HS5 := hws.st
    clear HS4 hws
    go_wp2_with fail
    refine wp_loop_rounds 3 ?_
    rw [rounds_succ]
    go_upto_region 5 with (fail)
    refine wp_seq_text [] (StR.no HS5) ?_
    refine Seq.pure rfl rfl (by intro w; go_simp; try rfl) ?_
    simp only [Act.put, nA, nB, nC]
    refine Seq.done fun ws6 hws => ?_
    have HS6 := hws.st
    clear HS5 hws
    go_upto_region 6 with (fail)
    refine wp_seq_text [] (StR.no HS6) ?_
    iterate 2 (refine Seq.pure rfl rfl (by intro w; go_simp; try rfl) ?_; simp only [Act.put, nA, nB, nC])
    refine Seq.done fun ws7 hws => ?_
    have HS7 := hws.st
    clear HS6 hws
    go_upto_region 7 with (fail)
    refine wp_seq [] (by kernel_rfl) (by kernel_rfl) Reg.fin_no (StR.no HS7) ?_
    iterate 4 (refine Seq.pure rfl rfl (by intro w; go_simp; try rfl) ?_; simp only [Act.put, nA, nB, nC])
    refine Seq.loadAt rfl rfl rfl rfl (by repeat (first | exact mC | apply mT)) (n := 3) (cs' := RC p1) (Nat.le_of_ble_eq_true rfl) (by kernel_rfl) rfl ?_
    simp only [Act.put, nA, nB, nC]
    iterate 4 (refine Seq.pure rfl rfl (by intro w; go_simp; try rfl) ?_; simp only [Act.put, nA, nB, nC])
    refine Seq.loadAt rfl rfl rfl rfl (by repeat (first | exact mC | apply mT)) (n := 3) (cs' := RC q1) (Nat.le_of_ble_eq_true rfl) (by kernel_rfl) rfl ?_
    simp only [Act.put, nA, nB, nC]
    refine Seq.call rfl rfl rfl rfl (by kernel_rfl) (cmp_q (k := (1 * k + 0)) HT.out (Z_p1.out.more (by omega)) (Z_q1.out.more (by omega)) C0.out (by omega)) ?_
    simp only [Act.put, nA, nB, nC]
    refine Seq.pure rfl rfl (by intro w; go_simp; try rfl) ?_
    simp only [Act.put, nA, nB, nC]
    refine Seq.done fun ws8 hws => ?_
    have HS8 := hws.st
    clear HS7 hws
    go_upto_region 9 with (fail)
    refine wp_seq_text [] (StR.no HS8) ?_
    refine Seq.pure (v := .int .i64 1) rfl rfl (by intro w; go_simp; try rfl) ?_
    simp only [Act.put, nA, nB, nC]
    refine Seq.pure rfl rfl (by intro w; go_simp; try rfl) ?_
    simp only [Act.put, nA, nB, nC]
    refine Seq.done fun ws9 hws => ?_
    have HS9 := hws.st
    clear HS8 hws
    go_wp2_with fail
    rw [rounds_succ]
    go_upto_region 5 with (fail)
    refine wp_seq_text [] (StR.no HS9) ?_
    refine Seq.pure rfl rfl (by intro w; go_simp; try rfl) ?_
    simp only [Act.put, nA, nB, nC]
    refine Seq.done fun ws10 hws => ?_
    have HS10 := hws.st
    clear HS9 hws
    go_upto_region 6 with (fail)
    refine wp_seq_text [] (StR.no HS10) ?_
    iterate 2 (refine Seq.pure rfl rfl (by intro w; go_simp; try rfl) ?_; simp only [Act.put, nA, nB, nC])
    refine Seq.done fun ws11 hws => ?_
    have HS11 := hws.st
    clear HS10 hws
    go_upto_region 7 with (fail)
    refine wp_seq [] (by kernel_rfl) (by kernel_rfl) Reg.fin_no (StR.no HS11) ?_
    iterate 4 (refine Seq.pure rfl rfl (by intro w; go_simp; try rfl) ?_; simp only [Act.put, nA, nB, nC])
    refine Seq.loadAt rfl rfl rfl rfl (by repeat (first | exact mC | apply mT)) (n := 3) (cs' := RC p2) (Nat.le_of_ble_eq_true rfl) (by kernel_rfl) rfl ?_
    simp only [Act.put, nA, nB, nC]
    iterate 4 (refine Seq.pure rfl rfl (by intro w; go_simp; try rfl) ?_; simp only [Act.put, nA, nB, nC])
    refine Seq.loadAt rfl rfl rfl rfl (by repeat (first | exact mC | apply mT)) (n := 3) (cs' := RC q2) (Nat.le_of_ble_eq_true rfl) (by kernel_rfl) rfl ?_
    simp only [Act.put, nA, nB, nC]
    refine Seq.call rfl rfl rfl rfl (by kernel_rfl) (cmp_q (k := (1 * k + 0)) HT.out (Z_p2.out.more (by omega)) (Z_q2.out.more (by omega)) C1.out (by omega)) ?_
    simp only [Act.put, nA, nB, nC]
    refine Seq.pure rfl rfl (by intro w; go_simp; try rfl) ?_
    simp only [Act.put, nA, nB, nC]
    refine Seq.done fun ws12 hws => ?_
    have HS12 := hws.st
    clear HS11 hws
    go_upto_region 9 with (fail)
    refine wp_seq_text [] (StR.no HS12) ?_
    refine Seq.pure (v := .int .i64 2) rfl rfl (by intro w; go_simp; try rfl) ?_
    simp only [Act.put, nA, nB, nC]
    refine Seq.pure rfl rfl (by intro w; go_simp; try rfl) ?_
    simp only [Act.put, nA, nB, nC]
    refine Seq.done fun ws13 hws => ?_
    have HS13 := hws.st
    clear HS12 hws
    go_wp2_with fail
    rw [rounds_succ]
    go_upto_region 5 with (fail)
    refine wp_seq_text [] (StR.no HS13) ?_
    refine Seq.pure rfl rfl (by intro w; go_simp; try rfl) ?_
    simp only [Act.put, nA, nB, nC]
    refine Seq.done fun ws14 hws => ?_
    have HS14 := hws.st
    clear HS13 hws
    go_upto_region 10 with (fail)
    refine wp_seq_text [] (StR.no HS14) ?_
    refine Seq.pure (v := .int .i64 1) rfl rfl (by intro w; go_simp; try rfl) ?_
    simp only [Act.put, nA, nB, nC]
    refine Seq.pure rfl rfl (by intro w; go_simp; try rfl) ?_
    simp only [Act.put, nA, nB, nC]
    refine Seq.done fun ws15 hws => ?_
    have HS15 := hws.st
    clear HS14 hws
    go_wp2_with fail
    rw [rounds_succ]
    go_upto_region 2 with (fail)
    refine wp_seq_text [] (StR.no HS15) ?_
    refine Seq.pure rfl rfl (by intro w; go_simp; try rfl) ?_
    simp only [Act.put, nA, nB, nC]
    refine Seq.done fun ws16 hws => ?_
    have HS16 := hws.st
    clear HS15 hws
    go_upto_region 3 with (fail)
    refine wp_seq_text [] (StR.no HS16) ?_
    iterate 2 (refine Seq.pure rfl rfl (by intro w; go_simp; try rfl) ?_; simp only [Act.put, nA, nB, nC])
    refine Seq.done fun ws17 hws => ?_
    have HS17 := hws.st
    clear HS16 hws
    go_upto_region 4 with (fail)
    refine wp_seq_text [] (StR.no HS17) ?_
    refine Seq.pure rfl rfl (by intro w; go_simp; try rfl) ?_
    simp only [Act.put, nA, nB, nC]
    refine Seq.done fun ws18 hws => ?_
    have HS18 := hws.st
    clear HS17 hws
    go_wp2_with fail
    refine wp_loop_rounds 3 ?_
    rw [rounds_succ]
    go_upto_region 5 with (fail)
    refine wp_seq_text [] (StR.no HS18) ?_
    refine Seq.pure rfl rfl (by intro w; go_simp; try rfl) ?_
    simp only [Act.put, nA, nB, nC]
    refine Seq.done fun ws19 hws => ?_
    have HS19 := hws.st
    clear HS18 hws
    go_upto_region 6 with (fail)
    refine wp_seq_text [] (StR.no HS19) ?_
    iterate 2 (refine Seq.pure rfl rfl (by intro w; go_simp; try rfl) ?_; simp only [Act.put, nA, nB, nC])
    refine Seq.done fun ws20 hws => ?_
    have HS20 := hws.st
    clear HS19 hws
    go_upto_region 7 with (fail)
    refine wp_seq [] (by kernel_rfl) (by kernel_rfl) Reg.fin_no (StR.no HS20) ?_
    iterate 4 (refine Seq.pure rfl rfl (by intro w; go_simp; try rfl) ?_; simp only [Act.put, nA, nB, nC])
    refine Seq.loadAt rfl rfl rfl rfl (by repeat (first | exact mC | apply mT)) (n := 3) (cs' := RC p3) (Nat.le_of_ble_eq_true rfl) (by kernel_rfl) rfl ?_
    simp only [Act.put, nA, nB, nC]
    iterate 4 (refine Seq.pure rfl rfl (by intro w; go_simp; try rfl) ?_; simp only [Act.put, nA, nB, nC])
    refine Seq.loadAt rfl rfl rfl rfl (by repeat (first | exact mC | apply mT)) (n := 3) (cs' := RC q3) (Nat.le_of_ble_eq_true rfl) (by kernel_rfl) rfl ?_
    simp only [Act.put, nA, nB, nC]
    refine Seq.call rfl rfl rfl rfl (by kernel_rfl) (cmp_q (k := (1 * k + 0)) HT.out (Z_p3.out.more (by omega)) (Z_q3.out.more (by omega)) C2.out (by omega)) ?_
    simp only [Act.put, nA, nB, nC]
    refine Seq.pure rfl rfl (by intro w; go_simp; try rfl) ?_
    simp only [Act.put, nA, nB, nC]
    refine Seq.done fun ws21 hws => ?_
    have HS21 := hws.st
    clear HS20 hws
    go_upto_region 9 with (fail)
    refine wp_seq_text [] (StR.no HS21) ?_
    refine Seq.pure (v := .int .i64 1) rfl rfl (by intro w; go_simp; try rfl) ?_
    simp only [Act.put, nA, nB, nC]
    refine Seq.pure rfl rfl (by intro w; go_simp; try rfl) ?_
    simp only [Act.put, nA, nB, nC]
    refine Seq.done fun ws22 hws => ?_
    have HS22 := hws.st
    clear HS21 hws
    go_wp2_with fail
    rw [rounds_succ]
    go_upto_region 5 with (fail)
    refine wp_seq_text [] (StR.no HS22) ?_
    refine Seq.pure rfl rfl (by intro w; go_simp; try rfl) ?_
    simp only [Act.put, nA, nB, nC]
    refine Seq.done fun ws23 hws => ?_
    have HS23 := hws.st
    clear HS22 hws
    go_upto_region 6 with (fail)
    refine wp_seq_text [] (StR.no HS23) ?_
    iterate 2 (refine Seq.pure rfl rfl (by intro w; go_simp; try rfl) ?_; simp only [Act.put, nA, nB, nC])
    refine Seq.done fun ws24 hws => ?_
    have HS24 := hws.st
    clear HS23 hws
    go_upto_region 7 with (fail)
    refine wp_seq [] (by kernel_rfl) (by kernel_rfl) Reg.fin_no (StR.no HS24) ?_
    iterate 4 (refine Seq.pure rfl rfl (by intro w; go_simp; try rfl) ?_; simp only [Act.put, nA, nB, nC])
    refine Seq.loadAt rfl rfl rfl rfl (by repeat (first | exact mC | apply mT)) (n := 3) (cs' := RC p4) (Nat.le_of_ble_eq_true rfl) (by kernel_rfl) rfl ?_
    simp only [Act.put, nA, nB, nC]
    iterate 4 (refine Seq.pure rfl rfl (by intro w; go_simp; try rfl) ?_; simp only [Act.put, nA, nB, nC])
    refine Seq.loadAt rfl rfl rfl rfl (by repeat (first | exact mC | apply mT)) (n := 3) (cs' := RC q4) (Nat.le_of_ble_eq_true rfl) (by kernel_rfl) rfl ?_
    simp only [Act.put, nA, nB, nC]
    refine Seq.call rfl rfl rfl rfl (by kernel_rfl) (cmp_q (k := (1 * k + 0)) HT.out (Z_p4.out.more (by omega)) (Z_q4.out.more (by omega)) C3.out (by omega)) ?_
    simp only [Act.put, nA, nB, nC]
    refine Seq.pure rfl rfl (by intro w; go_simp; try rfl) ?_
    simp only [Act.put, nA, nB, nC]
    refine Seq.done fun ws25 hws => ?_
    have HS25 := hws.st
    clear HS24 hws
    go_upto_region 9 with (fail)
    refine wp_seq_text [] (StR.no HS25) ?_
    refine Seq.pure (v := .int .i64 2) rfl rfl (by intro w; go_simp; try rfl) ?_
    simp only [Act.put, nA, nB, nC]
    refine Seq.pure rfl rfl (by intro w; go_simp; try rfl) ?_
    simp only [Act.put, nA, nB, nC]
    refine Seq.done fun ws26 hws => ?_
    have HS26 := hws.st
    clear HS25 hws
    go_wp2_with fail
    rw [rounds_succ]
    go_upto_region 5 with (fail)
    refine wp_seq_text [] (StR.no HS26) ?_
    refine Seq.pure rfl rfl (by intro w; go_simp; try rfl) ?_
    simp only [Act.put, nA, nB, nC]
    refine Seq.done fun ws27 hws => ?_
    have HS27 := hws.st
    clear HS26 hws
    go_upto_region 10 with (fail)
    refine wp_seq_text [] (StR.no HS27) ?_
    refine Seq.pure (v := .int .i64 2) rfl rfl (by intro w; go_simp; try rfl) ?_
    simp only [Act.put, nA, nB, nC]
    refine Seq.pure rfl rfl (by intro w; go_simp; try rfl) ?_
    simp only [Act.put, nA, nB, nC]
    refine Seq.done fun ws28 hws => ?_
    have HS28 := hws.st
    clear HS27 hws
    go_wp2_with fail
    rw [rounds_succ]
    go_upto_region 2 with (fail)
    refine wp_seq_text [] (StR.no HS28) ?_
    refine Seq.pure rfl rfl (by intro w; go_simp; try rfl) ?_
    simp only [Act.put, nA, nB, nC]
    refine Seq.done fun ws29 hws => ?_
    have HS29 := hws.st
    clear HS28 hws
    go_upto_region 3 with (fail)
    refine wp_seq_text [] (StR.no HS29) ?_
    iterate 2 (refine Seq.pure rfl rfl (by intro w; go_simp; try rfl) ?_; simp only [Act.put, nA, nB, nC])
    refine Seq.done fun ws30 hws => ?_
    have HS30 := hws.st
    clear HS29 hws
    go_upto_region 4 with (fail)
    refine wp_seq_text [] (StR.no HS30) ?_
    refine Seq.pure rfl rfl (by intro w; go_simp; try rfl) ?_
    simp only [Act.put, nA, nB, nC]
    refine Seq.done fun ws31 hws => ?_
    have HS31 := hws.st
    clear HS30 hws
    go_wp2_with fail
    refine wp_loop_rounds 3 ?_
    rw [rounds_succ]
    go_upto_region 5 with (fail)
    refine wp_seq_text [] (StR.no HS31) ?_
    refine Seq.pure rfl rfl (by intro w; go_simp; try rfl) ?_
    simp only [Act.put, nA, nB, nC]
    refine Seq.done fun ws32 hws => ?_
    have HS32 := hws.st
    clear HS31 hws
    go_upto_region 6 with (fail)
    refine wp_seq_text [] (StR.no HS32) ?_
    iterate 2 (refine Seq.pure rfl rfl (by intro w; go_simp; try rfl) ?_; simp only [Act.put, nA, nB, nC])
    refine Seq.done fun ws33 hws => ?_
    have HS33 := hws.st
    clear HS32 hws
    go_upto_region 7 with (fail)
    refine wp_seq [] (by kernel_rfl) (by kernel_rfl) Reg.fin_no (StR.no HS33) ?_
    iterate 4 (refine Seq.pure rfl rfl (by intro w; go_simp; try rfl) ?_; simp only [Act.put, nA, nB, nC])
    refine Seq.loadAt rfl rfl rfl rfl (by repeat (first | exact mC | apply mT)) (n := 3) (cs' := RC p5) (Nat.le_of_ble_eq_true rfl) (by kernel_rfl) rfl ?_
    simp only [Act.put, nA, nB, nC]
    iterate 4 (refine Seq.pure rfl rfl (by intro w; go_simp; try rfl) ?_; simp only [Act.put, nA, nB, nC])
    refine Seq.loadAt rfl rfl rfl rfl (by repeat (first | exact mC | apply mT)) (n := 3) (cs' := RC q5) (Nat.le_of_ble_eq_true rfl) (by kernel_rfl) rfl ?_
    simp only [Act.put, nA, nB, nC]
    refine Seq.call rfl rfl rfl rfl (by kernel_rfl) (cmp_q (k := (1 * k + 0)) HT.out (Z_p5.out.more (by omega)) (Z_q5.out.more (by omega)) C4.out (by omega)) ?_
    simp only [Act.put, nA, nB, nC]
    refine Seq.pure rfl rfl (by intro w; go_simp; try rfl) ?_
    simp only [Act.put, nA, nB, nC]
    refine Seq.done fun ws34 hws => ?_
    have HS34 := hws.st
    clear HS33 hws
    go_upto_region 9 with (fail)
    refine wp_seq_text [] (StR.no HS34) ?_
    refine Seq.pure (v := .int .i64 1) rfl rfl (by intro w; go_simp; try rfl) ?_
    simp only [Act.put, nA, nB, nC]
    refine Seq.pure rfl rfl (by intro w; go_simp; try rfl) ?_
    simp only [Act.put, nA, nB, nC]
    refine Seq.done fun ws35 hws => ?_
    have HS35 := hws.st
    clear HS34 hws
    go_wp2_with fail
    rw [rounds_succ]
    go_upto_region 5 with (fail)
    refine wp_seq_text [] (StR.no HS35) ?_
    refine Seq.pure rfl rfl (by intro w; go_simp; try rfl) ?_
    simp only [Act.put, nA, nB, nC]
    refine Seq.done fun ws36 hws => ?_
    have HS36 := hws.st
    clear HS35 hws
    go_upto_region 6 with (fail)
    refine wp_seq_text [] (StR.no HS36) ?_
    iterate 2 (refine Seq.pure rfl rfl (by intro w; go_simp; try rfl) ?_; simp only [Act.put, nA, nB, nC])
    refine Seq.done fun ws37 hws => ?_
    have HS37 := hws.st
    clear HS36 hws
    go_upto_region 7 with (fail)
    refine wp_seq [] (by kernel_rfl) (by kernel_rfl) Reg.fin_no (StR.no HS37) ?_
    iterate 4 (refine Seq.pure rfl rfl (by intro w; go_simp; try rfl) ?_; simp only [Act.put, nA, nB, nC])
    refine Seq.loadAt rfl rfl rfl rfl (by repeat (first | exact mC | apply mT)) (n := 3) (cs' := RC p6) (Nat.le_of_ble_eq_true rfl) (by kernel_rfl) rfl ?_
    simp only [Act.put, nA, nB, nC]
    iterate 4 (refine Seq.pure rfl rfl (by intro w; go_simp; try rfl) ?_; simp only [Act.put, nA, nB, nC])
    refine Seq.loadAt rfl rfl rfl rfl (by repeat (first | exact mC | apply mT)) (n := 3) (cs' := RC q6) (Nat.le_of_ble_eq_true rfl) (by kernel_rfl) rfl ?_
    simp only [Act.put, nA, nB, nC]
    refine Seq.call rfl rfl rfl rfl (by kernel_rfl) (cmp_q (k := (1 * k + 0)) HT.out (Z_p6.out.more (by omega)) (Z_q6.out.more (by omega)) C5.out (by omega)) ?_
    simp only [Act.put, nA, nB, nC]
    refine Seq.pure rfl rfl (by intro w; go_simp; try rfl) ?_
    simp only [Act.put, nA, nB, nC]
    refine Seq.done fun ws38 hws => ?_
    have HS38 := hws.st
    clear HS37 hws
    go_upto_region 9 with (fail)
    refine wp_seq_text [] (StR.no HS38) ?_
    refine Seq.pure (v := .int .i64 2) rfl rfl (by intro w; go_simp; try rfl) ?_
    simp only [Act.put, nA, nB, nC]
    refine Seq.pure rfl rfl (by intro w; go_simp; try rfl) ?_
    simp only [Act.put, nA, nB, nC]
    refine Seq.done fun ws39 hws => ?_
    have HS39 := hws.st
    clear HS38 hws
    go_wp2_with fail
    rw [rounds_succ]
    go_upto_region 5 with (fail)
    refine wp_seq_text [] (StR.no HS39) ?_
    refine Seq.pure rfl rfl (by intro w; go_simp; try rfl) ?_
    simp only [Act.put, nA, nB, nC]
    refine Seq.done fun ws40 hws => ?_
    have HS40 := hws.st
    clear HS39 hws
    go_upto_region 10 with (fail)
    refine wp_seq_text [] (StR.no HS40) ?_
    refine Seq.pure (v := .int .i64 3) rfl rfl (by intro w; go_simp; try rfl) ?_
    simp only [Act.put, nA, nB, nC]
    refine Seq.pure rfl rfl (by intro w; go_simp; try rfl) ?_
    simp only [Act.put, nA, nB, nC]
    refine Seq.done fun ws41 hws => ?_
    have HS41 := hws.st
    clear HS40 hws
    go_wp2_with fail
    rw [rounds_succ]
    go_upto_region 2 with (fail)
    refine wp_seq_text [] (StR.no HS41) ?_
    refine Seq.pure rfl rfl (by intro w; go_simp; try rfl) ?_
    simp only [Act.put, nA, nB, nC]
    refine Seq.done fun ws42 hws => ?_
    have HS42 := hws.st
    clear HS41 hws
    go_upto_region 11 with (fail)
    refine wp_seq_text [] (StR.no HS42) ?_
    refine Seq.pure rfl rfl (by intro w; go_simp; try rfl) ?_
    simp only [Act.put, nA, nB, nC]
    refine Seq.done fun ws43 hws => ?_
    have HS43 := hws.st
    clear HS42 hws
    go_wp2_with fail
    go_ret
    exact ⟨congrArg (fun b => Ending.returned (.bool b)) HB.out, HS43.below⟩
set_option maxHeartbeats 2000000 in
set_option maxRecDepth 20000 in
theorem pgood_w {k : Nat} {pxl pxh : Rat} {pxg : Bool} {px1 px2 : RT} {pyl pyh : Rat} {pyg : Bool} {py1 py2 : RT} {ptl pth : Rat} {ptg : Bool} {pt1 pt2 : RT} {z0 : Bool} {W : World} {l : List Own} (hT : Tab W) (Zpx : RawS k pxl pxh pxg px1 px2) (Zpy : RawS k pyl pyh pyg py1 py2) (Zpt : RawS k ptl pth ptg pt1 pt2) (hz0 : (pxg && pyg && ptg) = z0) (hk0 : 2 ≤ k) (hk : k ≤ 999999999998) (w : World) (h : St W l w) :
    Calls Tryd.prog 73 #[.agg (PW px1 px2 py1 py2 pt1 pt2)] w fun e w' => e = .returned (.bool z0) ∧ Below w.heap.size w w' := by
  subst hz0
  have HT := Lib.hid (tabS hT h); clear hT h
  have Z_px := Lib.hid Zpx; clear Zpx
  have Z_py := Lib.hid Zpy; clear Zpy
  have Z_pt := Lib.hid Zpt; clear Zpt
  obtain ⟨c1, hb1⟩ : ∃ b, pxg = b := ⟨_, rfl⟩
  obtain ⟨c2, hb2⟩ : ∃ b, pyg = b := ⟨_, rfl⟩
  obtain ⟨c3, hb3⟩ : ∃ b, ptg = b := ⟨_, rfl⟩
  rw [hb1, hb2, hb3]
  have hsp : c1 = false ∨ (c1 = true ∧ c2 = false) ∨ (c1 = true ∧ c2 = true ∧ c3 = false) ∨ (c1 = true ∧ c2 = true ∧ c3 = true) := by cases c1 <;> cases c2 <;> cases c3 <;> simp
  rcases hsp with rfl | ⟨rfl, rfl⟩ | ⟨rfl, rfl, rfl⟩ | ⟨rfl, rfl, rfl⟩
  · have B1 := Lib.hid hb1; clear hb1
    go_enter Tryd.func73, Tryd.ntmps73
    have HS : St w [] w := St.start
    go_upto_region 0 with (fail)
    refine wp_seq_text [] (StR.no HS) ?_
    refine Seq.box rfl rfl rfl (v := .agg (PW px1 px2 py1 py2 pt1 pt2)) (cs := PW px1 px2 py1 py2 pt1 pt2) rfl rfl ?_
    intro bk1 _ _ hbk1_r
    simp only [Act.put, nA, nB, nC]
    refine Seq.pure rfl rfl (by intro w; go_simp; try rfl) ?_
    simp only [Act.put, nA, nB, nC]
    refine Seq.done fun ws1 hws => ?_
    have HS1 := hws.list1 (p := bk1) (by repeat (first | exact rS | refine rN (by assumption) ?_))
    clear HS hws
    go_upto_region 1 with (fail)
    refine wp_seq_text [] (StR.no HS1) ?_
    refine Seq.pure rfl rfl (by intro w; go_simp; try rfl) ?_
    simp only [Act.put, nA, nB, nC]
    refine Seq.loadAt rfl rfl rfl rfl (by repeat (first | exact mC | apply mT)) (n := 6) (cs' := SW px1 px2) (Nat.le_of_ble_eq_true rfl) (by kernel_rfl) rfl ?_
    simp only [Act.put, nA, nB, nC]
    refine Seq.call rfl rfl rfl rfl (by kernel_rfl) (sgood_w (k := (1 * k + 2)) (a1 := px1) (a2 := px2) HT.out (Z_px.out.more (by omega))  B1.out (by omega) (by omega)) ?_
    simp only [Act.put, nA, nB, nC]
    refine Seq.pure rfl rfl (by intro w; go_simp; try rfl) ?_
    simp only [Act.put, nA, nB, nC]
    iterate 3 (refine Seq.nw rfl ?_; simp only [Act.put, nA, nB, nC])
    iterate 2 (refine Seq.pure rfl rfl (by intro w; go_simp; try rfl) ?_; simp only [Act.put, nA, nB, nC])
    iterate 3 (refine Seq.nw rfl ?_; simp only [Act.put, nA, nB, nC])
    iterate 2 (refine Seq.pure rfl rfl (by intro w; go_simp; try rfl) ?_; simp only [Act.put, nA, nB, nC])
    refine Seq.done fun ws2 hws => ?_
    have HS2 := hws.st
    clear HS1 hws
    go_wp2_with fail
    go_ret
    exact ⟨rfl, HS2.below⟩
  · have B1 := Lib.hid hb1; clear hb1
    have B2 := Lib.hid hb2; clear hb2
    go_enter Tryd.func73, Tryd.ntmps73
    have HS : St w [] w := St.start
    go_upto_region 0 with (fail)
    refine wp_seq_text [] (StR.no HS) ?_
    refine Seq.box rfl rfl rfl (v := .agg (PW px1 px2 py1 py2 pt1 pt2)) (cs := PW px1 px2 py1 py2 pt1 pt2) rfl rfl ?_
    intro bk1 _ _ hbk1_r
    simp only [Act.put, nA, nB, nC]
    refine Seq.pure rfl rfl (by intro w; go_simp; try rfl) ?_
    simp only [Act.put, nA, nB, nC]
    refine Seq.done fun ws1 hws => ?_
    have HS1 := hws.list1 (p := bk1) (by repeat (first | exact rS | refine rN (by assumption) ?_))
    clear HS hws
    go_upto_region 1 with (fail)
    refine wp_seq_text [] (StR.no HS1) ?_
    refine Seq.pure rfl rfl (by intro w; go_simp; try rfl) ?_
    simp only [Act.put, nA, nB, nC]
    refine Seq.loadAt rfl rfl rfl rfl (by repeat (first | exact mC | apply mT)) (n := 6) (cs' := SW px1 px2) (Nat.le_of_ble_eq_true rfl) (by kernel_rfl) rfl ?_
    simp only [Act.put, nA, nB, nC]
    refine Seq.call rfl rfl rfl rfl (by kernel_rfl) (sgood_w (k := (1 * k + 2)) (a1 := px1) (a2 := px2) HT.out (Z_px.out.more (by omega))  B1.out (by omega) (by omega)) ?_
    simp only [Act.put, nA, nB, nC]
    iterate 2 (refine Seq.pure rfl rfl (by intro w; go_simp; try rfl) ?_; simp only [Act.put, nA, nB, nC])
    refine Seq.loadAt rfl rfl rfl rfl (by repeat (first | exact mC | apply mT)) (n := 6) (cs' := SW py1 py2) (Nat.le_of_ble_eq_true rfl) (by kernel_rfl) rfl ?_
    simp only [Act.put, nA, nB, nC]
    refine Seq.call rfl rfl rfl rfl (by kernel_rfl) (sgood_w (k := (1 * k + 2)) (a1 := py1) (a2 := py2) HT.out (Z_py.out.more (by omega))  B2.out (by omega) (by omega)) ?_
    simp only [Act.put, nA, nB, nC]
    iterate 2 (refine Seq.pure rfl rfl (by intro w; go_simp; try rfl) ?_; simp only [Act.put, nA, nB, nC])
    iterate 3 (refine Seq.nw rfl ?_; simp only [Act.put, nA, nB, nC])
    iterate 2 (refine Seq.pure rfl rfl (by intro w; go_simp; try rfl) ?_; simp only [Act.put, nA, nB, nC])
    refine Seq.done fun ws2 hws => ?_
    have HS2 := hws.st
    clear HS1 hws
    go_wp2_with fail
    go_ret
    exact ⟨rfl, HS2.below⟩
  · have B1 := Lib.hid hb1; clear hb1
    have B2 := Lib.hid hb2; clear hb2
    have B3 := Lib.hid hb3; clear hb3
    go_enter Tryd.func73, Tryd.ntmps73
    have HS : St w [] w := St.start
    go_upto_region 0 with (fail)
    refine wp_seq_text [] (StR.no HS) ?_
    refine Seq.box rfl rfl rfl (v := .agg (PW px1 px2 py1 py2 pt1 pt2)) (cs := PW px1 px2 py1 py2 pt1 pt2) rfl rfl ?_
    intro bk1 _ _ hbk1_r
    simp only [Act.put, nA, nB, nC]
    refine Seq.pure rfl rfl (by intro w; go_simp; try rfl) ?_
    simp only [Act.put, nA, nB, nC]
    refine Seq.done fun ws1 hws => ?_
    have HS1 := hws.list1 (p := bk1) (by repeat (first | exact rS | refine rN (by assumption) ?_))
    clear HS hws
    go_upto_region 1 with (fail)
    refine wp_seq_text [] (StR.no HS1) ?_
    refine Seq.pure rfl rfl (by intro w; go_simp; try rfl) ?_
    simp only [Act.put, nA, nB, nC]
    refine Seq.loadAt rfl rfl rfl rfl (by repeat (first | exact mC | apply mT)) (n := 6) (cs' := SW px1 px2) (Nat.le_of_ble_eq_true rfl) (by kernel_rfl) rfl ?_
    simp only [Act.put, nA, nB, nC]
    refine Seq.call rfl rfl rfl rfl (by kernel_rfl) (sgood_w (k := (1 * k + 2)) (a1 := px1) (a2 := px2) HT.out (Z_px.out.more (by omega))  B1.out (by omega) (by omega)) ?_
    simp only [Act.put, nA, nB, nC]
    iterate 2 (refine Seq.pure rfl rfl (by intro w; go_simp; try rfl) ?_; simp only [Act.put, nA, nB, nC])
    refine Seq.loadAt rfl rfl rfl rfl (by repeat (first | exact mC | apply mT)) (n := 6) (cs' := SW py1 py2) (Nat.le_of_ble_eq_true rfl) (by kernel_rfl) rfl ?_
    simp only [Act.put, nA, nB, nC]
    refine Seq.call rfl rfl rfl rfl (by kernel_rfl) (sgood_w (k := (1 * k + 2)) (a1 := py1) (a2 := py2) HT.out (Z_py.out.more (by omega))  B2.out (by omega) (by omega)) ?_
    simp only [Act.put, nA, nB, nC]
    iterate 3 (refine Seq.pure rfl rfl (by intro w; go_simp; try rfl) ?_; simp only [Act.put, nA, nB, nC])
    refine Seq.loadAt rfl rfl rfl rfl (by repeat (first | exact mC | apply mT)) (n := 6) (cs' := SW pt1 pt2) (Nat.le_of_ble_eq_true rfl) (by kernel_rfl) rfl ?_
    simp only [Act.put, nA, nB, nC]
    refine Seq.call rfl rfl rfl rfl (by kernel_rfl) (sgood_w (k := (1 * k + 2)) (a1 := pt1) (a2 := pt2) HT.out (Z_pt.out.more (by omega))  B3.out (by omega) (by omega)) ?_
    simp only [Act.put, nA, nB, nC]
    iterate 2 (refine Seq.pure rfl rfl (by intro w; go_simp; try rfl) ?_; simp only [Act.put, nA, nB, nC])
    refine Seq.done fun ws2 hws => ?_
    have HS2 := hws.st
    clear HS1 hws
    go_wp2_with fail
    go_ret
    exact ⟨rfl, HS2.below⟩
  · have B1 := Lib.hid hb1; clear hb1
    have B2 := Lib.hid hb2; clear hb2
    have B3 := Lib.hid hb3; clear hb3
    go_enter Tryd.func73, Tryd.ntmps73
    have HS : St w [] w := St.start
    go_upto_region 0 with (fail)
    refine wp_seq_text [] (StR.no HS) ?_
    refine Seq.box rfl rfl rfl (v := .agg (PW px1 px2 py1 py2 pt1 pt2)) (cs := PW px1 px2 py1 py2 pt1 pt2) rfl rfl ?_
    intro bk1 _ _ hbk1_r
    simp only [Act.put, nA, nB, nC]
    refine Seq.pure rfl rfl (by intro w; go_simp; try rfl) ?_
    simp only [Act.put, nA, nB, nC]
    refine Seq.done fun ws1 hws => ?_
    have HS1 := hws.list1 (p := bk1) (by repeat (first | exact rS | refine rN (by assumption) ?_))
    clear HS hws
    go_upto_region 1 with (fail)
    refine wp_seq_text [] (StR.no HS1) ?_
    refine Seq.pure rfl rfl (by intro w; go_simp; try rfl) ?_
    simp only [Act.put, nA, nB, nC]
    refine Seq.loadAt rfl rfl rfl rfl (by repeat (first | exact mC | apply mT)) (n := 6) (cs' := SW px1 px2) (Nat.le_of_ble_eq_true rfl) (by kernel_rfl) rfl ?_
    simp only [Act.put, nA, nB, nC]
    refine Seq.call rfl rfl rfl rfl (by kernel_rfl) (sgood_w (k := (1 * k + 2)) (a1 := px1) (a2 := px2) HT.out (Z_px.out.more (by omega))  B1.out (by omega) (by omega)) ?_
    simp only [Act.put, nA, nB, nC]
    iterate 2 (refine Seq.pure rfl rfl (by intro w; go_simp; try rfl) ?_; simp only [Act.put, nA, nB, nC])
    refine Seq.loadAt rfl rfl rfl rfl (by repeat (first | exact mC | apply mT)) (n := 6) (cs' := SW py1 py2) (Nat.le_of_ble_eq_true rfl) (by kernel_rfl) rfl ?_
    simp only [Act.put, nA, nB, nC]
    refine Seq.call rfl rfl rfl rfl (by kernel_rfl) (sgood_w (k := (1 * k + 2)) (a1 := py1) (a2 := py2) HT.out (Z_py.out.more (by omega))  B2.out (by omega) (by omega)) ?_
    simp only [Act.put, nA, nB, nC]
    iterate 3 (refine Seq.pure rfl rfl (by intro w; go_simp; try rfl) ?_; simp only [Act.put, nA, nB, nC])
    refine Seq.loadAt rfl rfl rfl rfl (by repeat (first | exact mC | apply mT)) (n := 6) (cs' := SW pt1 pt2) (Nat.le_of_ble_eq_true rfl) (by kernel_rfl) rfl ?_
    simp only [Act.put, nA, nB, nC]
    refine Seq.call rfl rfl rfl rfl (by kernel_rfl) (sgood_w (k := (1 * k + 2)) (a1 := pt1) (a2 := pt2) HT.out (Z_pt.out.more (by omega))  B3.out (by omega) (by omega)) ?_
    simp only [Act.put, nA, nB, nC]
    iterate 2 (refine Seq.pure rfl rfl (by intro w; go_simp; try rfl) ?_; simp only [Act.put, nA, nB, nC])
    refine Seq.done fun ws2 hws => ?_
    have HS2 := hws.st
    clear HS1 hws
    go_wp2_with fail
    go_ret
    exact ⟨rfl, HS2.below⟩
set_option maxHeartbeats 2000000 in
set_option maxRecDepth 20000 in
theorem same_q {k : Nat} {p1 : Rat} {p2 : Rat} {p3 : Rat} {p4 : Rat} {p5 : Rat} {p6 : Rat} {q1 : Rat} {q2 : Rat} {q3 : Rat} {q4 : Rat} {q5 : Rat} {q6 : Rat} {W : World} {l : List Own} (hT : Tab W) (Zp1 : Rz k p1) (Zp2 : Rz k p2) (Zp3 : Rz k p3) (Zp4 : Rz k p4) (Zp5 : Rz k p5) (Zp6 : Rz k p6) (Zq1 : Rz k q1) (Zq2 : Rz k q2) (Zq3 : Rz k q3) (Zq4 : Rz k q4) (Zq5 : Rz k q5) (Zq6 : Rz k q6) (hle1 : p1 ≤ p2) (hle2 : p3 ≤ p4) (hle3 : p5 ≤ p6) (he : p1 = q1 ∧ p2 = q2 ∧ p3 = q3 ∧ p4 = q4 ∧ p5 = q5 ∧ p6 = q6) (hk0 : 2 ≤ k) (hk : k ≤ 999999999994) (w : World) (h : St W l w) :
    Calls Tryd.prog 17 #[.agg (PW (rt p1) (rt p2) (rt p3) (rt p4) (rt p5) (rt p6)), .agg (PW (rt q1) (rt q2) (rt q3) (rt q4) (rt q5) (rt q6))] w fun e w' => e = .returned (.bool true) ∧ Below w.heap.size w w' := by
  have HT := Lib.hid (tabS hT h); clear hT h
  have Z_p1 := Lib.hid Zp1; clear Zp1
  have Z_p2 := Lib.hid Zp2; clear Zp2
  have Z_p3 := Lib.hid Zp3; clear Zp3
  have Z_p4 := Lib.hid Zp4; clear Zp4
  have Z_p5 := Lib.hid Zp5; clear Zp5
  have Z_p6 := Lib.hid Zp6; clear Zp6
  have Z_q1 := Lib.hid Zq1; clear Zq1
  have Z_q2 := Lib.hid Zq2; clear Zq2
  have Z_q3 := Lib.hid Zq3; clear Zq3
  have Z_q4 := Lib.hid Zq4; clear Zq4
  have Z_q5 := Lib.hid Zq5; clear Zq5
  have Z_q6 := Lib.hid Zq6; clear Zq6
  have HE := Lib.hid (show sameQ p1 p2 p3 p4 p5 p6 q1 q2 q3 q4 q5 q6 = true from by unfold sameQ; exact decide_eq_true he); clear he
  have HLE1 := Lib.hid hle1; clear hle1
  have HLE2 := Lib.hid hle2; clear hle2
  have HLE3 := Lib.hid hle3; clear hle3
  go_enter Tryd.func17, Tryd.ntmps17
  have HS : St w [] w := St.start
  go_upto_region 0 with (fail)
  refine wp_seq_text [] (StR.no HS) ?_
  refine Seq.box rfl rfl rfl (v := .agg (PW (rt p1) (rt p2) (rt p3) (rt p4) (rt p5) (rt p6))) (cs := PW (rt p1) (rt p2) (rt p3) (rt p4) (rt p5) (rt p6)) rfl rfl ?_
  intro bk2 _ _ hbk2_r
  simp only [Act.put, nA, nB, nC]
  refine Seq.box rfl rfl rfl (v := .agg (PW (rt q1) (rt q2) (rt q3) (rt q4) (rt q5) (rt q6))) (cs := PW (rt q1) (rt q2) (rt q3) (rt q4) (rt q5) (rt q6)) rfl rfl ?_
  intro bk3 _ _ hbk3_r
  obtain ⟨ne_bk3_bk2, hbk3_r⟩ := Reg.ne_of_put hbk3_r
  have ne_bk2_bk3 := Ne.symm ne_bk3_bk2
  simp only [Act.put, nA, nB, nC]
  refine Seq.pure rfl rfl (by intro w; go_simp; try rfl) ?_
  simp only [Act.put, nA, nB, nC]
  refine Seq.done fun ws1 hws => ?_
  have HS1 := hws.list2 (p := bk2) (q := bk3) (by repeat (first | exact rS | refine rN (by assumption) ?_)) (by repeat (first | exact rS | refine rN (by assumption) ?_)) (by assumption)
  clear HS hws
  go_upto_region 1 with (fail)
  refine wp_seq [] (by kernel_rfl) (by kernel_rfl) Reg.fin_no (StR.no HS1) ?_
  refine Seq.load rfl rfl rfl rfl (by repeat (first | exact mC | apply mT)) (n := 18) rfl (by kernel_rfl) ?_
  simp only [Act.put, nA, nB, nC]
  refine Seq.call rfl rfl rfl rfl (by kernel_rfl) (pgood_w (k := (1 * k + 2)) (px1 := (rt p1)) (px2 := (rt p2)) (py1 := (rt p3)) (py2 := (rt p4)) (pt1 := (rt p5)) (pt2 := (rt p6)) HT.out (RawS.of HLE1.out (Z_p1.out.more (by omega)) (Z_p2.out.more (by omega))) (RawS.of HLE2.out (Z_p3.out.more (by omega)) (Z_p4.out.more (by omega))) (RawS.of HLE3.out (Z_p5.out.more (by omega)) (Z_p6.out.more (by omega)))  rfl (by omega) (by omega)) ?_
  simp only [Act.put, nA, nB, nC]
  refine Seq.pure rfl rfl (by intro w; go_simp; try rfl) ?_
  simp only [Act.put, nA, nB, nC]
  refine Seq.load rfl rfl rfl rfl (by repeat (first | exact mC | apply mT)) (n := 18) rfl (by kernel_rfl) ?_
  simp only [Act.put, nA, nB, nC]
  refine Seq.call rfl rfl rfl rfl (by kernel_rfl) (poseOf_w (k := (1 * k + 2)) (px1 := (rt p1)) (px2 := (rt p2)) (py1 := (rt p3)) (py2 := (rt p4)) (pt1 := (rt p5)) (pt2 := (rt p6)) HT.out (RawS.of HLE1.out (Z_p1.out.more (by omega)) (Z_p2.out.more (by omega))) (RawS.of HLE2.out (Z_p3.out.more (by omega)) (Z_p4.out.more (by omega))) (RawS.of HLE3.out (Z_p5.out.more (by omega)) (Z_p6.out.more (by omega)))  rfl rfl rfl rfl rfl rfl (by omega) (by omega)) ?_
  simp only [Act.put, nA, nB, nC]
  refine Seq.load rfl rfl rfl rfl (by repeat (first | exact mC | apply mT)) (n := 18) rfl (by kernel_rfl) ?_
  simp only [Act.put, nA, nB, nC]
  refine Seq.call rfl rfl rfl rfl (by kernel_rfl) (samePose_q (k := (1 * k + 2)) HT.out (Z_p1.out.more (by omega)) (Z_p2.out.more (by omega)) (Z_p3.out.more (by omega)) (Z_p4.out.more (by omega)) (Z_p5.out.more (by omega)) (Z_p6.out.more (by omega)) (Z_q1.out.more (by omega)) (Z_q2.out.more (by omega)) (Z_q3.out.more (by omega)) (Z_q4.out.more (by omega)) (Z_q5.out.more (by omega)) (Z_q6.out.more (by omega))  HE.out (by omega) (by omega)) ?_
  simp only [Act.put, nA, nB, nC]
  iterate 2 (refine Seq.pure rfl rfl (by intro w; go_simp; try rfl) ?_; simp only [Act.put, nA, nB, nC])
  refine Seq.done fun ws2 hws => ?_
  have HS2 := hws.st
  clear HS1 hws
  go_wp2_with fail
  go_ret
  exact ⟨rfl, HS2.below⟩
set_option maxHeartbeats 2000000 in
set_option maxRecDepth 20000 in
theorem ofp_half {k : Nat} {f1 : Rat} {f1_g : Bool} {f1_t : RT} {f2 : Rat} {f2_g : Bool} {f2_t : RT} {ft : Rat} {ft_g : Bool} {ft_t : RT} {W : World} {l : List Own} (hT : Tab W) (Zf1 : RawT k f1 f1_g f1_t) (Zf2 : RawT k f2 f2_g f2_t) (Zft : RawT k ft ft_g ft_t) (hk0 : 2 ≤ k) (hk : k ≤ 1000000000000) (w : World) (h : St W l w) :
    Calls Tryd.prog 25 #[.agg (FW f1_t f2_t true ft_t)] w fun e w' => e = .returned (.tuple #[.agg (PW rz0 rz0 rz0 rz0 rz0 rz0), .int .i64 3]) ∧ Below w.heap.size w w' := by
  have HT := Lib.hid (tabS hT h); clear hT h
  have Z_f1 := Lib.hid Zf1; clear Zf1
  have Z_f2 := Lib.hid Zf2; clear Zf2
  have Z_ft := Lib.hid Zft; clear Zft
  go_enter Tryd.func25, Tryd.ntmps25
  have HS : St w [] w := St.start
  go_upto_region 0 with (fail)
  refine wp_seq_text [] (StR.no HS) ?_
  refine Seq.box rfl rfl rfl (v := .agg (FW f1_t f2_t true ft_t)) (cs := FW f1_t f2_t true ft_t) rfl rfl ?_
  intro bk1 _ _ hbk1_r
  simp only [Act.put, nA, nB, nC]
  refine Seq.alloc rfl rfl rfl (z := .agg (PW rz0 rz0 rz0 rz0 rz0 rz0)) (by kernel_rfl) rfl ?_
  intro bk2 _ _ hbk2_r
  obtain ⟨ne_bk2_bk1, hbk2_r⟩ := Reg.ne_of_put hbk2_r
  have ne_bk1_bk2 := Ne.symm ne_bk2_bk1
  simp only [Act.put, nA, nB, nC]
  refine Seq.pure rfl rfl (by intro w; go_simp; try rfl) ?_
  simp only [Act.put, nA, nB, nC]
  refine Seq.done fun ws1 hws => ?_
  have HS1 := hws.list2 (p := bk1) (q := bk2) (by repeat (first | exact rS | refine rN (by assumption) ?_)) (by repeat (first | exact rS | refine rN (by assumption) ?_)) (by assumption)
  clear HS hws
  go_upto_region 1 with (fail)
  refine wp_seq_text [] (StR.no HS1) ?_
  iterate 2 (refine Seq.pure rfl rfl (by intro w; go_simp; try rfl) ?_; simp only [Act.put, nA, nB, nC])
  refine Seq.loadCell rfl rfl rfl rfl (by repeat (first | exact mC | apply mT)) (v := .bool true) rfl (by kernel_rfl) rfl ?_
  simp only [Act.put, nA, nB, nC]
  refine Seq.done fun ws2 hws => ?_
  have HS2 := hws.st
  clear HS1 hws
  go_upto_region 2 with (fail)
  have HPbk2 := HS2.f1
  refine wp_seq_text [] (StR.move (StR.no HPbk2)) ?_
  refine Seq.pure (v := .agg (PW rz0 rz0 rz0 rz0 rz0 rz0)) rfl rfl (by intro w; go_simp; try rfl) ?_
  simp only [Act.put, nA, nB, nC]
  refine Seq.store rfl rfl rfl rfl rfl (by repeat (first | exact rS | refine rN (by assumption) ?_)) (n := 18) rfl rfl (by kernel_rfl) (PW_one _ _ _ _ _ _) ?_
  simp only [Act.put, nA, nB, nC]
  refine Seq.pure rfl rfl (by intro w; go_simp; try rfl) ?_
  simp only [Act.put, nA, nB, nC]
  refine Seq.done fun ws3 hws => ?_
  have HS3 := hws.list1 (p := bk2) (by repeat (first | exact rS | refine rN (by assumption) ?_))
  clear HS2 hws HPbk2
  go_wp2_with fail
  exact ret_own2 rfl rfl rfl rfl HS3 (by repeat (first | exact mC | apply mT)) (n := 18) rfl (by kernel_rfl) ⟨rfl, HS3.below⟩
set_option maxHeartbeats 2000000 in
set_option maxRecDepth 20000 in
theorem ofp_no {k : Nat} {f1 : Rat} {f1_g : Bool} {f1_t : RT} {f2 : Rat} {f2_g : Bool} {f2_t : RT} {ft : Rat} {ft_g : Bool} {ft_t : RT} {z0 : Rat} {z1 : Rat} {z2 : Rat} {z3 : Rat} {z4 : Rat} {z5 : Rat} {W : World} {l : List Own} (hT : Tab W) (Zf1 : RawT k f1 f1_g f1_t) (Zf2 : RawT k f2 f2_g f2_t) (Zft : RawT k ft ft_g ft_t) (hz0 : f1 = z0) (hz1 : f1 = z1) (hz2 : f2 = z2) (hz3 : f2 = z3) (hz4 : ft = z4) (hz5 : ft = z5) (hk0 : 2 ≤ k) (hk : k ≤ 999999999998) (w : World) (h : St W l w) :
    Calls Tryd.prog 25 #[.agg (FW f1_t f2_t false ft_t)] w fun e w' => e = .returned (.tuple #[.agg (PW (rt z0) (rt z1) (rt z2) (rt z3) (rt z4) (rt z5)), .int .i64 0]) ∧ Below w.heap.size w w' := by
  subst hz0
  subst hz1
  subst hz2
  subst hz3
  subst hz4
  subst hz5
  have HT := Lib.hid (tabS hT h); clear hT h
  have Z_f1 := Lib.hid Zf1; clear Zf1
  have Z_f2 := Lib.hid Zf2; clear Zf2
  have Z_ft := Lib.hid Zft; clear Zft
  go_enter Tryd.func25, Tryd.ntmps25
  have HS : St w [] w := St.start
  go_upto_region 0 with (fail)
  refine wp_seq_text [] (StR.no HS) ?_
  refine Seq.box rfl rfl rfl (v := .agg (FW f1_t f2_t false ft_t)) (cs := FW f1_t f2_t false ft_t) rfl rfl ?_
  intro bk1 _ _ hbk1_r
  simp only [Act.put, nA, nB, nC]
  refine Seq.alloc rfl rfl rfl (z := .agg (PW rz0 rz0 rz0 rz0 rz0 rz0)) (by kernel_rfl) rfl ?_
  intro bk2 _ _ hbk2_r
  obtain ⟨ne_bk2_bk1, hbk2_r⟩ := Reg.ne_of_put hbk2_r
  have ne_bk1_bk2 := Ne.symm ne_bk2_bk1
  simp only [Act.put, nA, nB, nC]
  refine Seq.pure rfl rfl (by intro w; go_simp; try rfl) ?_
  simp only [Act.put, nA, nB, nC]
  refine Seq.done fun ws1 hws => ?_
  have HS1 := hws.list2 (p := bk1) (q := bk2) (by repeat (first | exact rS | refine rN (by assumption) ?_)) (by repeat (first | exact rS | refine rN (by assumption) ?_)) (by assumption)
  clear HS hws
  go_upto_region 1 with (fail)
  refine wp_seq_text [] (StR.no HS1) ?_
  iterate 2 (refine Seq.pure rfl rfl (by intro w; go_simp; try rfl) ?_; simp only [Act.put, nA, nB, nC])
  refine Seq.loadCell rfl rfl rfl rfl (by repeat (first | exact mC | apply mT)) (v := .bool false) rfl (by kernel_rfl) rfl ?_
  simp only [Act.put, nA, nB, nC]
  refine Seq.done fun ws2 hws => ?_
  have HS2 := hws.st
  clear HS1 hws
  go_upto_region 3 with (fail)
  have HPbk2 := HS2.f1
  refine wp_seq [] (by kernel_rfl) (by kernel_rfl) (Reg.fin.put Reg.fin_no _ _) (StR.move (StR.no HPbk2)) ?_
  iterate 2 (refine Seq.pure rfl rfl (by intro w; go_simp; try rfl) ?_; simp only [Act.put, nA, nB, nC])
  refine Seq.loadAt rfl rfl rfl rfl (by repeat (first | exact mC | apply mT)) (n := 3) (cs' := RT.c f1_t) (Nat.le_of_ble_eq_true rfl) (by kernel_rfl) rfl ?_
  simp only [Act.put, nA, nB, nC]
  refine Seq.call rfl rfl rfl rfl (by kernel_rfl) (sof_w (k := (1 * k + 2)) (t_t := f1_t) HT.out (Z_f1.out.more (by omega))  rfl rfl (by omega) (by omega)) ?_
  simp only [Act.put, nA, nB, nC]
  iterate 2 (refine Seq.pure rfl rfl (by intro w; go_simp; try rfl) ?_; simp only [Act.put, nA, nB, nC])
  refine Seq.loadAt rfl rfl rfl rfl (by repeat (first | exact mC | apply mT)) (n := 3) (cs' := RT.c f2_t) (Nat.le_of_ble_eq_true rfl) (by kernel_rfl) rfl ?_
  simp only [Act.put, nA, nB, nC]
  refine Seq.call rfl rfl rfl rfl (by kernel_rfl) (sof_w (k := (1 * k + 2)) (t_t := f2_t) HT.out (Z_f2.out.more (by omega))  rfl rfl (by omega) (by omega)) ?_
  simp only [Act.put, nA, nB, nC]
  iterate 2 (refine Seq.pure rfl rfl (by intro w; go_simp; try rfl) ?_; simp only [Act.put, nA, nB, nC])
  refine Seq.loadAt rfl rfl rfl rfl (by repeat (first | exact mC | apply mT)) (n := 3) (cs' := RT.c ft_t) (Nat.le_of_ble_eq_true rfl) (by kernel_rfl) rfl ?_
  simp only [Act.put, nA, nB, nC]
  refine Seq.call rfl rfl rfl rfl (by kernel_rfl) (sof_w (k := (1 * k + 2)) (t_t := ft_t) HT.out (Z_ft.out.more (by omega))  rfl rfl (by omega) (by omega)) ?_
  simp only [Act.put, nA, nB, nC]
  refine Seq.pure (v := .agg (PW (rt f1) (rt f1) (rt f2) (rt f2) (rt ft) (rt ft))) rfl rfl (fun w => bld_Pose (x := (rt f1)) (y := (rt f1)) (z := (rt f2)) (u := (rt f2)) (v := (rt ft)) (t := (rt ft)) rfl rfl rfl rfl w) ?_
  simp only [Act.put, nA, nB, nC]
  refine Seq.store rfl rfl rfl rfl rfl (by repeat (first | exact rS | refine rN (by assumption) ?_)) (n := 18) rfl rfl (by kernel_rfl) (PW_one _ _ _ _ _ _) ?_
  simp only [Act.put, nA, nB, nC]
  refine Seq.pure rfl rfl (by intro w; go_simp; try rfl) ?_
  simp only [Act.put, nA, nB, nC]
  refine Seq.done fun ws3 hws => ?_
  have HS3 := hws.list1 (p := bk2) (by repeat (first | exact rS | refine rN (by assumption) ?_))
  clear HS2 hws HPbk2
  go_wp2_with fail
  exact ret_own2 rfl rfl rfl rfl HS3 (by repeat (first | exact mC | apply mT)) (n := 18) rfl (by kernel_rfl) ⟨rfl, HS3.below⟩
set_option maxHeartbeats 2000000 in
set_option maxRecDepth 20000 in
theorem look_half {k : Nat} {pxl pxh : Rat} {pxg : Bool} {px1 px2 : RT} {pyl pyh : Rat} {pyg : Bool} {py1 py2 : RT} {ptl pth : Rat} {ptg : Bool} {pt1 pt2 : RT} {f1 : Rat} {f1_g : Bool} {f1_t : RT} {f2 : Rat} {f2_g : Bool} {f2_t : RT} {ft : Rat} {ft_g : Bool} {ft_t : RT} {b : Rat} {b_g : Bool} {b_t : RT} {u : Rat} {u_g : Bool} {u_t : RT} {W : World} {l : List Own} (hT : Tab W) (Zpx : RawS k pxl pxh pxg px1 px2) (Zpy : RawS k pyl pyh pyg py1 py2) (Zpt : RawS k ptl pth ptg pt1 pt2) (Zf1 : RawT k f1 f1_g f1_t) (Zf2 : RawT k f2 f2_g f2_t) (Zft : RawT k ft ft_g ft_t) (Zb : RawT k b b_g b_t) (Zu : RawT k u u_g u_t) (hk0 : 2 ≤ k) (hk : k ≤ 999999999998) (w : World) (h : St W l w) :
    Calls Tryd.prog 26 #[.agg (PW px1 px2 py1 py2 pt1 pt2), .agg (FW f1_t f2_t true ft_t), .agg (RT.c b_t), .agg (RT.c u_t)] w fun e w' => e = .returned (.tuple #[.agg (PW rz0 rz0 rz0 rz0 rz0 rz0), .int .i64 3]) ∧ Below w.heap.size w w' := by
  have HT := Lib.hid (tabS hT h); clear hT h
  have Z_px := Lib.hid Zpx; clear Zpx
  have Z_py := Lib.hid Zpy; clear Zpy
  have Z_pt := Lib.hid Zpt; clear Zpt
  have Z_f1 := Lib.hid Zf1; clear Zf1
  have Z_f2 := Lib.hid Zf2; clear Zf2
  have Z_ft := Lib.hid Zft; clear Zft
  have Z_b := Lib.hid Zb; clear Zb
  have Z_u := Lib.hid Zu; clear Zu
  go_enter Tryd.func26, Tryd.ntmps26
  have HS : St w [] w := St.start
  go_upto_region 0 with (fail)
  refine wp_seq_text [] (StR.no HS) ?_
  refine Seq.box rfl rfl rfl (v := .agg (PW px1 px2 py1 py2 pt1 pt2)) (cs := PW px1 px2 py1 py2 pt1 pt2) rfl rfl ?_
  intro bk4 _ _ hbk4_r
  simp only [Act.put, nA, nB, nC]
  refine Seq.box rfl rfl rfl (v := .agg (FW f1_t f2_t true ft_t)) (cs := FW f1_t f2_t true ft_t) rfl rfl ?_
  intro bk5 _ _ hbk5_r
  obtain ⟨ne_bk5_bk4, hbk5_r⟩ := Reg.ne_of_put hbk5_r
  have ne_bk4_bk5 := Ne.symm ne_bk5_bk4
  simp only [Act.put, nA, nB, nC]
  refine Seq.box rfl rfl rfl (v := .agg (RT.c b_t)) (cs := RT.c b_t) rfl rfl ?_
  intro bk6 _ _ hbk6_r
  obtain ⟨ne_bk6_bk5, hbk6_r⟩ := Reg.ne_of_put hbk6_r
  have ne_bk5_bk6 := Ne.symm ne_bk6_bk5
  obtain ⟨ne_bk6_bk4, hbk6_r⟩ := Reg.ne_of_put hbk6_r
  have ne_bk4_bk6 := Ne.symm ne_bk6_bk4
  simp only [Act.put, nA, nB, nC]
  refine Seq.box rfl rfl rfl (v := .agg (RT.c u_t)) (cs := RT.c u_t) rfl rfl ?_
  intro bk7 _ _ hbk7_r
  obtain ⟨ne_bk7_bk6, hbk7_r⟩ := Reg.ne_of_put hbk7_r
  have ne_bk6_bk7 := Ne.symm ne_bk7_bk6
  obtain ⟨ne_bk7_bk5, hbk7_r⟩ := Reg.ne_of_put hbk7_r
  have ne_bk5_bk7 := Ne.symm ne_bk7_bk5
  obtain ⟨ne_bk7_bk4, hbk7_r⟩ := Reg.ne_of_put hbk7_r
  have ne_bk4_bk7 := Ne.symm ne_bk7_bk4
  simp only [Act.put, nA, nB, nC]
  refine Seq.alloc rfl rfl rfl (z := .agg (PW rz0 rz0 rz0 rz0 rz0 rz0)) (by kernel_rfl) rfl ?_
  intro bk8 _ _ hbk8_r
  obtain ⟨ne_bk8_bk7, hbk8_r⟩ := Reg.ne_of_put hbk8_r
  have ne_bk7_bk8 := Ne.symm ne_bk8_bk7
  obtain ⟨ne_bk8_bk6, hbk8_r⟩ := Reg.ne_of_put hbk8_r
  have ne_bk6_bk8 := Ne.symm ne_bk8_bk6
  obtain ⟨ne_bk8_bk5, hbk8_r⟩ := Reg.ne_of_put hbk8_r
  have ne_bk5_bk8 := Ne.symm ne_bk8_bk5
  obtain ⟨ne_bk8_bk4, hbk8_r⟩ := Reg.ne_of_put hbk8_r
  have ne_bk4_bk8 := Ne.symm ne_bk8_bk4
  simp only [Act.put, nA, nB, nC]
  refine Seq.pure rfl rfl (by intro w; go_simp; try rfl) ?_
  simp only [Act.put, nA, nB, nC]
  refine Seq.done fun ws1 hws => ?_
  have HS1 : St w [(bk4, 36, PW px1 px2 py1 py2 pt1 pt2), (bk5, 42, FW f1_t f2_t true ft_t), (bk6, 32, RT.c b_t), (bk7, 32, RT.c u_t), (bk8, 36, PW rz0 rz0 rz0 rz0 rz0 rz0)] ws1 := hws.listN [(bk4, 36, PW px1 px2 py1 py2 pt1 pt2), (bk5, 42, FW f1_t f2_t true ft_t), (bk6, 32, RT.c b_t), (bk7, 32, RT.c u_t), (bk8, 36, PW rz0 rz0 rz0 rz0 rz0 rz0)] (by simp [*]) (by intro e he; simp only [List.mem_cons, List.not_mem_nil, or_false] at he; rcases he with rfl | rfl | rfl | rfl | rfl <;> first | exact Reg.put_same _ _ _ | simp [Reg.put, *])
  clear HS hws
  go_upto_region 1 with (fail)
  refine wp_seq_text [] (StR.no HS1) ?_
  refine Seq.load rfl rfl rfl rfl (by repeat (first | exact mC | apply mT)) (n := 10) rfl (by kernel_rfl) ?_
  simp only [Act.put, nA, nB, nC]
  refine Seq.call rfl rfl rfl rfl (by kernel_rfl) (ofp_half (k := (1 * k + 2)) (f1_t := f1_t) (f2_t := f2_t) (ft_t := ft_t) HT.out (Z_f1.out.more (by omega)) (Z_f2.out.more (by omega)) (Z_ft.out.more (by omega))   (by omega) (by omega)) ?_
  simp only [Act.put, nA, nB, nC]
  refine Seq.pure rfl rfl (by intro w; go_simp; try rfl) ?_
  simp only [Act.put, nA, nB, nC]
  refine Seq.pure (v := .agg (PW rz0 rz0 rz0 rz0 rz0 rz0)) rfl rfl (fun w => rfl) ?_
  simp only [Act.put, nA, nB, nC]
  refine Seq.pure (v := .int .i64 3) rfl rfl (fun w => rfl) ?_
  simp only [Act.put, nA, nB, nC]
  refine Seq.alloc rfl rfl rfl (z := .agg (PW rz0 rz0 rz0 rz0 rz0 rz0)) (by kernel_rfl) rfl ?_
  intro bk10 _ _ hbk10_r
  simp only [Act.put, nA, nB, nC]
  refine Seq.store rfl rfl rfl rfl rfl (by repeat (first | exact rS | refine rN (by assumption) ?_)) (n := 18) rfl rfl (by kernel_rfl) (PW_one _ _ _ _ _ _) ?_
  simp only [Act.put, nA, nB, nC]
  refine Seq.pure rfl rfl (by intro w; go_simp; try rfl) ?_
  simp only [Act.put, nA, nB, nC]
  refine Seq.done fun ws2 hws => ?_
  have HS2 := hws.list1 (p := bk10) (by repeat (first | exact rS | refine rN (by assumption) ?_))
  clear HS1 hws
  go_upto_region 2 with (fail)
  refine wp_seq_text [] (StR.no HS2) ?_
  iterate 2 (refine Seq.pure rfl rfl (by intro w; go_simp; try rfl) ?_; simp only [Act.put, nA, nB, nC])
  refine Seq.done fun ws3 hws => ?_
  have HS3 := hws.st
  clear HS2 hws
  go_upto_region 3 with (fail)
  have HPbk8 := HS3.f5
  refine wp_seq_text [] (StR.move (StR.no HPbk8)) ?_
  refine Seq.pure (v := .agg (PW rz0 rz0 rz0 rz0 rz0 rz0)) rfl rfl (by intro w; go_simp; try rfl) ?_
  simp only [Act.put, nA, nB, nC]
  refine Seq.pure rfl rfl (by intro w; go_simp; try rfl) ?_
  simp only [Act.put, nA, nB, nC]
  refine Seq.store rfl rfl rfl rfl rfl (by repeat (first | exact rS | refine rN (by assumption) ?_)) (n := 18) rfl rfl (by kernel_rfl) (PW_one _ _ _ _ _ _) ?_
  simp only [Act.put, nA, nB, nC]
  refine Seq.pure rfl rfl (by intro w; go_simp; try rfl) ?_
  simp only [Act.put, nA, nB, nC]
  refine Seq.done fun ws4 hws => ?_
  have HS4 := hws.list1 (p := bk8) (by repeat (first | exact rS | refine rN (by assumption) ?_))
  clear HS3 hws HPbk8
  go_wp2_with fail
  exact ret_own2 rfl rfl rfl rfl HS4 (by repeat (first | exact mC | apply mT)) (n := 18) rfl (by kernel_rfl) ⟨rfl, HS4.below⟩
set_option maxHeartbeats 2000000 in
set_option maxRecDepth 20000 in
theorem look_no {k : Nat} {pxl pxh : Rat} {pxg : Bool} {px1 px2 : RT} {pyl pyh : Rat} {pyg : Bool} {py1 py2 : RT} {ptl pth : Rat} {ptg : Bool} {pt1 pt2 : RT} {f1 : Rat} {f1_g : Bool} {f1_t : RT} {f2 : Rat} {f2_g : Bool} {f2_t : RT} {ft : Rat} {ft_g : Bool} {ft_t : RT} {b : Rat} {b_g : Bool} {b_t : RT} {u : Rat} {u_g : Bool} {u_t : RT} {W : World} {l : List Own} (hT : Tab W) (Zpx : RawS k pxl pxh pxg px1 px2) (Zpy : RawS k pyl pyh pyg py1 py2) (Zpt : RawS k ptl pth ptg pt1 pt2) (Zf1 : RawT k f1 f1_g f1_t) (Zf2 : RawT k f2 f2_g f2_t) (Zft : RawT k ft ft_g ft_t) (Zb : RawT k b b_g b_t) (Zu : RawT k u u_g u_t) (hk0 : 2 ≤ k) (hk : k ≤ 224999999998) (w : World) (h : St W l w) :
    Calls Tryd.prog 26 #[.agg (PW px1 px2 py1 py2 pt1 pt2), .agg (FW f1_t f2_t false ft_t), .agg (RT.c b_t), .agg (RT.c u_t)] w fun e w' => e = .returned (naQ pxl pxh pyl pyh ptl pth (f1 - maxQ b 0) (f1 + maxQ b 0) (f2 - maxQ b 0) (f2 + maxQ b 0) (ft - maxQ u 0) (ft + maxQ u 0)) ∧ Below w.heap.size w w' := by
  have HT := Lib.hid (tabS hT h); clear hT h
  have Z_px := Lib.hid Zpx; clear Zpx
  have Z_py := Lib.hid Zpy; clear Zpy
  have Z_pt := Lib.hid Zpt; clear Zpt
  have Z_f1 := Lib.hid Zf1; clear Zf1
  have Z_f2 := Lib.hid Zf2; clear Zf2
  have Z_ft := Lib.hid Zft; clear Zft
  have Z_b := Lib.hid Zb; clear Zb
  have Z_u := Lib.hid Zu; clear Zu
  have hsp : okQ pxl pxh pyl pyh ptl pth (f1 - maxQ b 0) (f1 + maxQ b 0) (f2 - maxQ b 0) (f2 + maxQ b 0) (ft - maxQ u 0) (ft + maxQ u 0) = true ∨ okQ pxl pxh pyl pyh ptl pth (f1 - maxQ b 0) (f1 + maxQ b 0) (f2 - maxQ b 0) (f2 + maxQ b 0) (ft - maxQ u 0) (ft + maxQ u 0) = false := by cases okQ pxl pxh pyl pyh ptl pth (f1 - maxQ b 0) (f1 + maxQ b 0) (f2 - maxQ b 0) (f2 + maxQ b 0) (ft - maxQ u 0) (ft + maxQ u 0) <;> simp
  rcases hsp with hok | hok
  · have HR := Lib.hid (show Value.tuple #[.agg (meQ pxl pxh pyl pyh ptl pth (f1 - maxQ b 0) (f1 + maxQ b 0) (f2 - maxQ b 0) (f2 + maxQ b 0) (ft - maxQ u 0) (ft + maxQ u 0)), .int .i64 0] = naQ pxl pxh pyl pyh ptl pth (f1 - maxQ b 0) (f1 + maxQ b 0) (f2 - maxQ b 0) (f2 + maxQ b 0) (ft - maxQ u 0) (ft + maxQ u 0) from by unfold naQ; rw [hok]; rfl)
    have HN := Lib.hid (show Ending.returned (naQ pxl pxh pyl pyh ptl pth (f1 - maxQ b 0) (f1 + maxQ b 0) (f2 - maxQ b 0) (f2 + maxQ b 0) (ft - maxQ u 0) (ft + maxQ u 0)) = Ending.returned (Value.tuple #[.agg (meQ pxl pxh pyl pyh ptl pth (f1 - maxQ b 0) (f1 + maxQ b 0) (f2 - maxQ b 0) (f2 + maxQ b 0) (ft - maxQ u 0) (ft + maxQ u 0)), .int .i64 0]) from by unfold naQ; rw [hok]; rfl)
    clear hok
    go_enter Tryd.func26, Tryd.ntmps26
    have HS : St w [] w := St.start
    go_upto_region 0 with (fail)
    refine wp_seq_text [] (StR.no HS) ?_
    refine Seq.box rfl rfl rfl (v := .agg (PW px1 px2 py1 py2 pt1 pt2)) (cs := PW px1 px2 py1 py2 pt1 pt2) rfl rfl ?_
    intro bk4 _ _ hbk4_r
    simp only [Act.put, nA, nB, nC]
    refine Seq.box rfl rfl rfl (v := .agg (FW f1_t f2_t false ft_t)) (cs := FW f1_t f2_t false ft_t) rfl rfl ?_
    intro bk5 _ _ hbk5_r
    obtain ⟨ne_bk5_bk4, hbk5_r⟩ := Reg.ne_of_put hbk5_r
    have ne_bk4_bk5 := Ne.symm ne_bk5_bk4
    simp only [Act.put, nA, nB, nC]
    refine Seq.box rfl rfl rfl (v := .agg (RT.c b_t)) (cs := RT.c b_t) rfl rfl ?_
    intro bk6 _ _ hbk6_r
    obtain ⟨ne_bk6_bk5, hbk6_r⟩ := Reg.ne_of_put hbk6_r
    have ne_bk5_bk6 := Ne.symm ne_bk6_bk5
    obtain ⟨ne_bk6_bk4, hbk6_r⟩ := Reg.ne_of_put hbk6_r
    have ne_bk4_bk6 := Ne.symm ne_bk6_bk4
    simp only [Act.put, nA, nB, nC]
    refine Seq.box rfl rfl rfl (v := .agg (RT.c u_t)) (cs := RT.c u_t) rfl rfl ?_
    intro bk7 _ _ hbk7_r
    obtain ⟨ne_bk7_bk6, hbk7_r⟩ := Reg.ne_of_put hbk7_r
    have ne_bk6_bk7 := Ne.symm ne_bk7_bk6
    obtain ⟨ne_bk7_bk5, hbk7_r⟩ := Reg.ne_of_put hbk7_r
    have ne_bk5_bk7 := Ne.symm ne_bk7_bk5
    obtain ⟨ne_bk7_bk4, hbk7_r⟩ := Reg.ne_of_put hbk7_r
    have ne_bk4_bk7 := Ne.symm ne_bk7_bk4
    simp only [Act.put, nA, nB, nC]
    refine Seq.alloc rfl rfl rfl (z := .agg (PW rz0 rz0 rz0 rz0 rz0 rz0)) (by kernel_rfl) rfl ?_
    intro bk8 _ _ hbk8_r
    obtain ⟨ne_bk8_bk7, hbk8_r⟩ := Reg.ne_of_put hbk8_r
    have ne_bk7_bk8 := Ne.symm ne_bk8_bk7
    obtain ⟨ne_bk8_bk6, hbk8_r⟩ := Reg.ne_of_put hbk8_r
    have ne_bk6_bk8 := Ne.symm ne_bk8_bk6
    obtain ⟨ne_bk8_bk5, hbk8_r⟩ := Reg.ne_of_put hbk8_r
    have ne_bk5_bk8 := Ne.symm ne_bk8_bk5
    obtain ⟨ne_bk8_bk4, hbk8_r⟩ := Reg.ne_of_put hbk8_r
    have ne_bk4_bk8 := Ne.symm ne_bk8_bk4
    simp only [Act.put, nA, nB, nC]
    refine Seq.pure rfl rfl (by intro w; go_simp; try rfl) ?_
    simp only [Act.put, nA, nB, nC]
    refine Seq.done fun ws1 hws => ?_
    have HS1 : St w [(bk4, 36, PW px1 px2 py1 py2 pt1 pt2), (bk5, 42, FW f1_t f2_t false ft_t), (bk6, 32, RT.c b_t), (bk7, 32, RT.c u_t), (bk8, 36, PW rz0 rz0 rz0 rz0 rz0 rz0)] ws1 := hws.listN [(bk4, 36, PW px1 px2 py1 py2 pt1 pt2), (bk5, 42, FW f1_t f2_t false ft_t), (bk6, 32, RT.c b_t), (bk7, 32, RT.c u_t), (bk8, 36, PW rz0 rz0 rz0 rz0 rz0 rz0)] (by simp [*]) (by intro e he; simp only [List.mem_cons, List.not_mem_nil, or_false] at he; rcases he with rfl | rfl | rfl | rfl | rfl <;> first | exact Reg.put_same _ _ _ | simp [Reg.put, *])
    clear HS hws
    go_upto_region 1 with (fail)
    refine wp_seq_text [] (StR.no HS1) ?_
    refine Seq.load rfl rfl rfl rfl (by repeat (first | exact mC | apply mT)) (n := 10) rfl (by kernel_rfl) ?_
    simp only [Act.put, nA, nB, nC]
    refine Seq.call rfl rfl rfl rfl (by kernel_rfl) (ofp_no (k := (1 * k + 2)) (f1_t := f1_t) (f2_t := f2_t) (ft_t := ft_t) HT.out (Z_f1.out.more (by omega)) (Z_f2.out.more (by omega)) (Z_ft.out.more (by omega))  rfl rfl rfl rfl rfl rfl (by omega) (by omega)) ?_
    simp only [Act.put, nA, nB, nC]
    refine Seq.pure rfl rfl (by intro w; go_simp; try rfl) ?_
    simp only [Act.put, nA, nB, nC]
    refine Seq.pure (v := .agg (PW (rt f1) (rt f1) (rt f2) (rt f2) (rt ft) (rt ft))) rfl rfl (fun w => rfl) ?_
    simp only [Act.put, nA, nB, nC]
    refine Seq.pure (v := .int .i64 0) rfl rfl (fun w => rfl) ?_
    simp only [Act.put, nA, nB, nC]
    refine Seq.alloc rfl rfl rfl (z := .agg (PW rz0 rz0 rz0 rz0 rz0 rz0)) (by kernel_rfl) rfl ?_
    intro bk10 _ _ hbk10_r
    simp only [Act.put, nA, nB, nC]
    refine Seq.store rfl rfl rfl rfl rfl (by repeat (first | exact rS | refine rN (by assumption) ?_)) (n := 18) rfl rfl (by kernel_rfl) (PW_one _ _ _ _ _ _) ?_
    simp only [Act.put, nA, nB, nC]
    refine Seq.pure rfl rfl (by intro w; go_simp; try rfl) ?_
    simp only [Act.put, nA, nB, nC]
    refine Seq.done fun ws2 hws => ?_
    have HS2 := hws.list1 (p := bk10) (by repeat (first | exact rS | refine rN (by assumption) ?_))
    clear HS1 hws
    go_upto_region 2 with (fail)
    refine wp_seq_text [] (StR.no HS2) ?_
    iterate 2 (refine Seq.pure rfl rfl (by intro w; go_simp; try rfl) ?_; simp only [Act.put, nA, nB, nC])
    refine Seq.done fun ws3 hws => ?_
    have HS3 := hws.st
    clear HS2 hws
    go_upto_region 4 with (fail)
    have HPbk8 := HS3.f5
    refine wp_seq [] (by kernel_rfl) (by kernel_rfl) (Reg.fin.put Reg.fin_no _ _) (StR.move (StR.no HPbk8)) ?_
    refine Seq.load rfl rfl rfl rfl (by repeat (first | exact mC | apply mT)) (n := 18) rfl (by kernel_rfl) ?_
    simp only [Act.put, nA, nB, nC]
    refine Seq.load rfl rfl rfl rfl (by repeat (first | exact mC | apply mT)) (n := 18) rfl (by kernel_rfl) ?_
    simp only [Act.put, nA, nB, nC]
    refine Seq.load rfl rfl rfl rfl (by repeat (first | exact mC | apply mT)) (n := 3) rfl (by kernel_rfl) ?_
    simp only [Act.put, nA, nB, nC]
    refine Seq.load rfl rfl rfl rfl (by repeat (first | exact mC | apply mT)) (n := 3) rfl (by kernel_rfl) ?_
    simp only [Act.put, nA, nB, nC]
    refine Seq.call rfl rfl rfl rfl (by kernel_rfl) (widen_w (k := (1 * k + 2)) (px1 := (rt f1)) (px2 := (rt f1)) (py1 := (rt f2)) (py2 := (rt f2)) (pt1 := (rt ft)) (pt2 := (rt ft)) (b_t := b_t) (u_t := u_t) HT.out (RawS.of Rat.le_refl (Z_f1.out.rz.more (by omega)) (Z_f1.out.rz.more (by omega))) (RawS.of Rat.le_refl (Z_f2.out.rz.more (by omega)) (Z_f2.out.rz.more (by omega))) (RawS.of Rat.le_refl (Z_ft.out.rz.more (by omega)) (Z_ft.out.rz.more (by omega))) (Z_b.out.more (by omega)) (Z_u.out.more (by omega))  rfl rfl rfl rfl rfl rfl (by omega) (by omega)) ?_
    simp only [Act.put, nA, nB, nC]
    refine Seq.call rfl rfl rfl rfl (by kernel_rfl) (fun w h => (narrow_w (k := (4 * k + 5)) (px1 := px1) (px2 := px2) (py1 := py1) (py2 := py2) (pt1 := pt1) (pt2 := pt2) (qx1 := (rt (f1 - (maxQ b 0)))) (qx2 := (rt (f1 + (maxQ b 0)))) (qy1 := (rt (f2 - (maxQ b 0)))) (qy2 := (rt (f2 + (maxQ b 0)))) (qt1 := (rt (ft - (maxQ u 0)))) (qt2 := (rt (ft + (maxQ u 0)))) HT.out (Z_px.out.more (by omega)) (Z_py.out.more (by omega)) (Z_pt.out.more (by omega)) (RawS.of (wide_le Rat.le_refl) ((Z_f1.out.rz.sub (Rz.max (k := (1 * k + 2)) (Rz.more Z_b.out.rz (by omega)) (Rz.zero2.more (by omega)))).more (by omega)) ((Z_f1.out.rz.add (Rz.max (k := (1 * k + 2)) (Rz.more Z_b.out.rz (by omega)) (Rz.zero2.more (by omega)))).more (by omega))) (RawS.of (wide_le Rat.le_refl) ((Z_f2.out.rz.sub (Rz.max (k := (1 * k + 2)) (Rz.more Z_b.out.rz (by omega)) (Rz.zero2.more (by omega)))).more (by omega)) ((Z_f2.out.rz.add (Rz.max (k := (1 * k + 2)) (Rz.more Z_b.out.rz (by omega)) (Rz.zero2.more (by omega)))).more (by omega))) (RawS.of (wide_le Rat.le_refl) ((Z_ft.out.rz.sub (Rz.max (k := (1 * k + 2)) (Rz.more Z_u.out.rz (by omega)) (Rz.zero2.more (by omega)))).more (by omega)) ((Z_ft.out.rz.add (Rz.max (k := (1 * k + 2)) (Rz.more Z_u.out.rz (by omega)) (Rz.zero2.more (by omega)))).more (by omega))) (by omega) (by omega) w h).mono (fun e w2 hh => ⟨hh.1.trans HN.out, hh.2⟩)) ?_
    simp only [Act.put, nA, nB, nC]
    refine Seq.pure (v := .agg (meQ pxl pxh pyl pyh ptl pth (f1 - maxQ b 0) (f1 + maxQ b 0) (f2 - maxQ b 0) (f2 + maxQ b 0) (ft - maxQ u 0) (ft + maxQ u 0))) rfl rfl (fun w => rfl) ?_
    simp only [Act.put, nA, nB, nC]
    refine Seq.pure (v := .int .i64 0) rfl rfl (fun w => rfl) ?_
    simp only [Act.put, nA, nB, nC]
    refine Seq.store rfl rfl rfl rfl rfl (by repeat (first | exact rS | refine rN (by assumption) ?_)) (n := 18) rfl rfl (by kernel_rfl) (PW_one _ _ _ _ _ _) ?_
    simp only [Act.put, nA, nB, nC]
    refine Seq.pure rfl rfl (by intro w; go_simp; try rfl) ?_
    simp only [Act.put, nA, nB, nC]
    refine Seq.done fun ws4 hws => ?_
    have HS4 := hws.list1 (p := bk8) (by repeat (first | exact rS | refine rN (by assumption) ?_))
    clear HS3 hws HPbk8
    go_wp2_with fail
    exact ret_own2 rfl rfl rfl rfl HS4 (by repeat (first | exact mC | apply mT)) (n := 18) rfl (by kernel_rfl) ⟨congrArg Ending.returned HR.out, HS4.below⟩
  · have HR := Lib.hid (show Value.tuple #[.agg z18, .int .i64 4] = naQ pxl pxh pyl pyh ptl pth (f1 - maxQ b 0) (f1 + maxQ b 0) (f2 - maxQ b 0) (f2 + maxQ b 0) (ft - maxQ u 0) (ft + maxQ u 0) from by unfold naQ; rw [hok]; rfl)
    have HN := Lib.hid (show Ending.returned (naQ pxl pxh pyl pyh ptl pth (f1 - maxQ b 0) (f1 + maxQ b 0) (f2 - maxQ b 0) (f2 + maxQ b 0) (ft - maxQ u 0) (ft + maxQ u 0)) = Ending.returned (Value.tuple #[.agg z18, .int .i64 4]) from by unfold naQ; rw [hok]; rfl)
    clear hok
    go_enter Tryd.func26, Tryd.ntmps26
    have HS : St w [] w := St.start
    go_upto_region 0 with (fail)
    refine wp_seq_text [] (StR.no HS) ?_
    refine Seq.box rfl rfl rfl (v := .agg (PW px1 px2 py1 py2 pt1 pt2)) (cs := PW px1 px2 py1 py2 pt1 pt2) rfl rfl ?_
    intro bk4 _ _ hbk4_r
    simp only [Act.put, nA, nB, nC]
    refine Seq.box rfl rfl rfl (v := .agg (FW f1_t f2_t false ft_t)) (cs := FW f1_t f2_t false ft_t) rfl rfl ?_
    intro bk5 _ _ hbk5_r
    obtain ⟨ne_bk5_bk4, hbk5_r⟩ := Reg.ne_of_put hbk5_r
    have ne_bk4_bk5 := Ne.symm ne_bk5_bk4
    simp only [Act.put, nA, nB, nC]
    refine Seq.box rfl rfl rfl (v := .agg (RT.c b_t)) (cs := RT.c b_t) rfl rfl ?_
    intro bk6 _ _ hbk6_r
    obtain ⟨ne_bk6_bk5, hbk6_r⟩ := Reg.ne_of_put hbk6_r
    have ne_bk5_bk6 := Ne.symm ne_bk6_bk5
    obtain ⟨ne_bk6_bk4, hbk6_r⟩ := Reg.ne_of_put hbk6_r
    have ne_bk4_bk6 := Ne.symm ne_bk6_bk4
    simp only [Act.put, nA, nB, nC]
    refine Seq.box rfl rfl rfl (v := .agg (RT.c u_t)) (cs := RT.c u_t) rfl rfl ?_
    intro bk7 _ _ hbk7_r
    obtain ⟨ne_bk7_bk6, hbk7_r⟩ := Reg.ne_of_put hbk7_r
    have ne_bk6_bk7 := Ne.symm ne_bk7_bk6
    obtain ⟨ne_bk7_bk5, hbk7_r⟩ := Reg.ne_of_put hbk7_r
    have ne_bk5_bk7 := Ne.symm ne_bk7_bk5
    obtain ⟨ne_bk7_bk4, hbk7_r⟩ := Reg.ne_of_put hbk7_r
    have ne_bk4_bk7 := Ne.symm ne_bk7_bk4
    simp only [Act.put, nA, nB, nC]
    refine Seq.alloc rfl rfl rfl (z := .agg (PW rz0 rz0 rz0 rz0 rz0 rz0)) (by kernel_rfl) rfl ?_
    intro bk8 _ _ hbk8_r
    obtain ⟨ne_bk8_bk7, hbk8_r⟩ := Reg.ne_of_put hbk8_r
    have ne_bk7_bk8 := Ne.symm ne_bk8_bk7
    obtain ⟨ne_bk8_bk6, hbk8_r⟩ := Reg.ne_of_put hbk8_r
    have ne_bk6_bk8 := Ne.symm ne_bk8_bk6
    obtain ⟨ne_bk8_bk5, hbk8_r⟩ := Reg.ne_of_put hbk8_r
    have ne_bk5_bk8 := Ne.symm ne_bk8_bk5
    obtain ⟨ne_bk8_bk4, hbk8_r⟩ := Reg.ne_of_put hbk8_r
    have ne_bk4_bk8 := Ne.symm ne_bk8_bk4
    simp only [Act.put, nA, nB, nC]
    refine Seq.pure rfl rfl (by intro w; go_simp; try rfl) ?_
    simp only [Act.put, nA, nB, nC]
    refine Seq.done fun ws1 hws => ?_
    have HS1 : St w [(bk4, 36, PW px1 px2 py1 py2 pt1 pt2), (bk5, 42, FW f1_t f2_t false ft_t), (bk6, 32, RT.c b_t), (bk7, 32, RT.c u_t), (bk8, 36, PW rz0 rz0 rz0 rz0 rz0 rz0)] ws1 := hws.listN [(bk4, 36, PW px1 px2 py1 py2 pt1 pt2), (bk5, 42, FW f1_t f2_t false ft_t), (bk6, 32, RT.c b_t), (bk7, 32, RT.c u_t), (bk8, 36, PW rz0 rz0 rz0 rz0 rz0 rz0)] (by simp [*]) (by intro e he; simp only [List.mem_cons, List.not_mem_nil, or_false] at he; rcases he with rfl | rfl | rfl | rfl | rfl <;> first | exact Reg.put_same _ _ _ | simp [Reg.put, *])
    clear HS hws
    go_upto_region 1 with (fail)
    refine wp_seq_text [] (StR.no HS1) ?_
    refine Seq.load rfl rfl rfl rfl (by repeat (first | exact mC | apply mT)) (n := 10) rfl (by kernel_rfl) ?_
    simp only [Act.put, nA, nB, nC]
    refine Seq.call rfl rfl rfl rfl (by kernel_rfl) (ofp_no (k := (1 * k + 2)) (f1_t := f1_t) (f2_t := f2_t) (ft_t := ft_t) HT.out (Z_f1.out.more (by omega)) (Z_f2.out.more (by omega)) (Z_ft.out.more (by omega))  rfl rfl rfl rfl rfl rfl (by omega) (by omega)) ?_
    simp only [Act.put, nA, nB, nC]
    refine Seq.pure rfl rfl (by intro w; go_simp; try rfl) ?_
    simp only [Act.put, nA, nB, nC]
    refine Seq.pure (v := .agg (PW (rt f1) (rt f1) (rt f2) (rt f2) (rt ft) (rt ft))) rfl rfl (fun w => rfl) ?_
    simp only [Act.put, nA, nB, nC]
    refine Seq.pure (v := .int .i64 0) rfl rfl (fun w => rfl) ?_
    simp only [Act.put, nA, nB, nC]
    refine Seq.alloc rfl rfl rfl (z := .agg (PW rz0 rz0 rz0 rz0 rz0 rz0)) (by kernel_rfl) rfl ?_
    intro bk10 _ _ hbk10_r
    simp only [Act.put, nA, nB, nC]
    refine Seq.store rfl rfl rfl rfl rfl (by repeat (first | exact rS | refine rN (by assumption) ?_)) (n := 18) rfl rfl (by kernel_rfl) (PW_one _ _ _ _ _ _) ?_
    simp only [Act.put, nA, nB, nC]
    refine Seq.pure rfl rfl (by intro w; go_simp; try rfl) ?_
    simp only [Act.put, nA, nB, nC]
    refine Seq.done fun ws2 hws => ?_
    have HS2 := hws.list1 (p := bk10) (by repeat (first | exact rS | refine rN (by assumption) ?_))
    clear HS1 hws
    go_upto_region 2 with (fail)
    refine wp_seq_text [] (StR.no HS2) ?_
    iterate 2 (refine Seq.pure rfl rfl (by intro w; go_simp; try rfl) ?_; simp only [Act.put, nA, nB, nC])
    refine Seq.done fun ws3 hws => ?_
    have HS3 := hws.st
    clear HS2 hws
    go_upto_region 4 with (fail)
    have HPbk8 := HS3.f5
    refine wp_seq [] (by kernel_rfl) (by kernel_rfl) (Reg.fin.put Reg.fin_no _ _) (StR.move (StR.no HPbk8)) ?_
    refine Seq.load rfl rfl rfl rfl (by repeat (first | exact mC | apply mT)) (n := 18) rfl (by kernel_rfl) ?_
    simp only [Act.put, nA, nB, nC]
    refine Seq.load rfl rfl rfl rfl (by repeat (first | exact mC | apply mT)) (n := 18) rfl (by kernel_rfl) ?_
    simp only [Act.put, nA, nB, nC]
    refine Seq.load rfl rfl rfl rfl (by repeat (first | exact mC | apply mT)) (n := 3) rfl (by kernel_rfl) ?_
    simp only [Act.put, nA, nB, nC]
    refine Seq.load rfl rfl rfl rfl (by repeat (first | exact mC | apply mT)) (n := 3) rfl (by kernel_rfl) ?_
    simp only [Act.put, nA, nB, nC]
    refine Seq.call rfl rfl rfl rfl (by kernel_rfl) (widen_w (k := (1 * k + 2)) (px1 := (rt f1)) (px2 := (rt f1)) (py1 := (rt f2)) (py2 := (rt f2)) (pt1 := (rt ft)) (pt2 := (rt ft)) (b_t := b_t) (u_t := u_t) HT.out (RawS.of Rat.le_refl (Z_f1.out.rz.more (by omega)) (Z_f1.out.rz.more (by omega))) (RawS.of Rat.le_refl (Z_f2.out.rz.more (by omega)) (Z_f2.out.rz.more (by omega))) (RawS.of Rat.le_refl (Z_ft.out.rz.more (by omega)) (Z_ft.out.rz.more (by omega))) (Z_b.out.more (by omega)) (Z_u.out.more (by omega))  rfl rfl rfl rfl rfl rfl (by omega) (by omega)) ?_
    simp only [Act.put, nA, nB, nC]
    refine Seq.call rfl rfl rfl rfl (by kernel_rfl) (fun w h => (narrow_w (k := (4 * k + 5)) (px1 := px1) (px2 := px2) (py1 := py1) (py2 := py2) (pt1 := pt1) (pt2 := pt2) (qx1 := (rt (f1 - (maxQ b 0)))) (qx2 := (rt (f1 + (maxQ b 0)))) (qy1 := (rt (f2 - (maxQ b 0)))) (qy2 := (rt (f2 + (maxQ b 0)))) (qt1 := (rt (ft - (maxQ u 0)))) (qt2 := (rt (ft + (maxQ u 0)))) HT.out (Z_px.out.more (by omega)) (Z_py.out.more (by omega)) (Z_pt.out.more (by omega)) (RawS.of (wide_le Rat.le_refl) ((Z_f1.out.rz.sub (Rz.max (k := (1 * k + 2)) (Rz.more Z_b.out.rz (by omega)) (Rz.zero2.more (by omega)))).more (by omega)) ((Z_f1.out.rz.add (Rz.max (k := (1 * k + 2)) (Rz.more Z_b.out.rz (by omega)) (Rz.zero2.more (by omega)))).more (by omega))) (RawS.of (wide_le Rat.le_refl) ((Z_f2.out.rz.sub (Rz.max (k := (1 * k + 2)) (Rz.more Z_b.out.rz (by omega)) (Rz.zero2.more (by omega)))).more (by omega)) ((Z_f2.out.rz.add (Rz.max (k := (1 * k + 2)) (Rz.more Z_b.out.rz (by omega)) (Rz.zero2.more (by omega)))).more (by omega))) (RawS.of (wide_le Rat.le_refl) ((Z_ft.out.rz.sub (Rz.max (k := (1 * k + 2)) (Rz.more Z_u.out.rz (by omega)) (Rz.zero2.more (by omega)))).more (by omega)) ((Z_ft.out.rz.add (Rz.max (k := (1 * k + 2)) (Rz.more Z_u.out.rz (by omega)) (Rz.zero2.more (by omega)))).more (by omega))) (by omega) (by omega) w h).mono (fun e w2 hh => ⟨hh.1.trans HN.out, hh.2⟩)) ?_
    simp only [Act.put, nA, nB, nC]
    refine Seq.pure (v := .agg (PW rz0 rz0 rz0 rz0 rz0 rz0)) rfl rfl (fun w => rfl) ?_
    simp only [Act.put, nA, nB, nC]
    refine Seq.pure (v := .int .i64 4) rfl rfl (fun w => rfl) ?_
    simp only [Act.put, nA, nB, nC]
    refine Seq.store rfl rfl rfl rfl rfl (by repeat (first | exact rS | refine rN (by assumption) ?_)) (n := 18) rfl rfl (by kernel_rfl) (PW_one _ _ _ _ _ _) ?_
    simp only [Act.put, nA, nB, nC]
    refine Seq.pure rfl rfl (by intro w; go_simp; try rfl) ?_
    simp only [Act.put, nA, nB, nC]
    refine Seq.done fun ws4 hws => ?_
    have HS4 := hws.list1 (p := bk8) (by repeat (first | exact rS | refine rN (by assumption) ?_))
    clear HS3 hws HPbk8
    go_wp2_with fail
    exact ret_own2 rfl rfl rfl rfl HS4 (by repeat (first | exact mC | apply mT)) (n := 18) rfl (by kernel_rfl) ⟨congrArg Ending.returned HR.out, HS4.below⟩
set_option maxHeartbeats 2000000 in
set_option maxRecDepth 20000 in
theorem long_w {k : Nat} {al ah : Rat} {ag : Bool} {a1 a2 : RT} {z0 : Rat} {W : World} {l : List Own} (hT : Tab W) (Za : RawS k al ah ag a1 a2) (hz0 : ah - al = z0) (hk0 : 2 ≤ k) (hk : k ≤ 999999999996) (w : World) (h : St W l w) :
    Calls Tryd.prog 80 #[.agg (SW a1 a2)] w fun e w' => e = .returned (.agg (RC z0)) ∧ Below w.heap.size w w' := by
  subst hz0
  have HT := Lib.hid (tabS hT h); clear hT h
  have Z_a := Lib.hid Za; clear Za
  go_enter Tryd.func80, Tryd.ntmps80
  have HS : St w [] w := St.start
  go_upto_region 0 with (fail)
  refine wp_seq_text [] (StR.no HS) ?_
  refine Seq.box rfl rfl rfl (v := .agg (SW a1 a2)) (cs := SW a1 a2) rfl rfl ?_
  intro bk1 _ _ hbk1_r
  simp only [Act.put, nA, nB, nC]
  refine Seq.alloc rfl rfl rfl (z := .agg (RT.c rz0)) (by kernel_rfl) rfl ?_
  intro bk2 _ _ hbk2_r
  obtain ⟨ne_bk2_bk1, hbk2_r⟩ := Reg.ne_of_put hbk2_r
  have ne_bk1_bk2 := Ne.symm ne_bk2_bk1
  simp only [Act.put, nA, nB, nC]
  refine Seq.done fun ws1 hws => ?_
  have HS1 := hws.list2 (p := bk1) (q := bk2) (by repeat (first | exact rS | refine rN (by assumption) ?_)) (by repeat (first | exact rS | refine rN (by assumption) ?_)) (by assumption)
  clear HS hws
  go_upto_region 1 with (fail)
  refine wp_seq_text [0] (StR.move (StR.no HS1)) ?_
  refine Seq.get rfl rfl rfl rfl (by repeat (first | exact rS | refine rN (by assumption) ?_)) (n := 6) rfl (by kernel_rfl) ?_
  simp only [Act.put, nA, nB, nC]
  refine Seq.call rfl rfl rfl rfl (by kernel_rfl) (norm_w (k := (1 * k + 2)) (a1 := a1) (a2 := a2) HT.out (Z_a.out.more (by omega))  rfl rfl (by omega) (by omega)) ?_
  simp only [Act.put, nA, nB, nC]
  refine Seq.store rfl rfl rfl rfl rfl (by repeat (first | exact rS | refine rN (by assumption) ?_)) (n := 6) rfl rfl (by kernel_rfl) (VC_one _ _) ?_
  simp only [Act.put, nA, nB, nC]
  refine Seq.done fun ws2 hws => ?_
  have HS2 := hws.list1 (p := bk1) (by repeat (first | exact rS | refine rN (by assumption) ?_))
  clear HS1 hws
  go_upto_region 2 with (fail)
  have HPbk2 := HS2.f1
  refine wp_seq_text [] (StR.move (StR.no HPbk2)) ?_
  refine Seq.pure rfl rfl (by intro w; go_simp; try rfl) ?_
  simp only [Act.put, nA, nB, nC]
  refine Seq.loadAt rfl rfl rfl rfl (by repeat (first | exact mC | apply mT)) (n := 3) (cs' := RC ah) (Nat.le_of_ble_eq_true rfl) (by kernel_rfl) rfl ?_
  simp only [Act.put, nA, nB, nC]
  refine Seq.pure rfl rfl (by intro w; go_simp; try rfl) ?_
  simp only [Act.put, nA, nB, nC]
  refine Seq.loadAt rfl rfl rfl rfl (by repeat (first | exact mC | apply mT)) (n := 3) (cs' := RC al) (Nat.le_of_ble_eq_true rfl) (by kernel_rfl) rfl ?_
  simp only [Act.put, nA, nB, nC]
  refine Seq.call rfl rfl rfl rfl (by kernel_rfl) (sub_q (k := (1 * k + 0)) HT.out ((Z_a.out.rz (by omega)).2.more (by omega)) ((Z_a.out.rz (by omega)).1.more (by omega)) rfl (by omega)) ?_
  simp only [Act.put, nA, nB, nC]
  refine Seq.store rfl rfl rfl rfl rfl (by repeat (first | exact rS | refine rN (by assumption) ?_)) (n := 3) rfl rfl (by kernel_rfl) (RC_one _) ?_
  simp only [Act.put, nA, nB, nC]
  refine Seq.done fun ws3 hws => ?_
  have HS3 := hws.list1 (p := bk2) (by repeat (first | exact rS | refine rN (by assumption) ?_))
  clear HS2 hws HPbk2
  go_wp2_with fail
  exact ret_own rfl rfl rfl HS3 (by repeat (first | exact mC | apply mT)) (n := 3) rfl (by kernel_rfl) ⟨rfl, HS3.below⟩
set_option maxHeartbeats 2000000 in
set_option maxRecDepth 20000 in
theorem width_w {k : Nat} {pxl pxh : Rat} {pxg : Bool} {px1 px2 : RT} {pyl pyh : Rat} {pyg : Bool} {py1 py2 : RT} {ptl pth : Rat} {ptg : Bool} {pt1 pt2 : RT} {z0 : Rat} {z1 : Rat} {W : World} {l : List Own} (hT : Tab W) (Zpx : RawS k pxl pxh pxg px1 px2) (Zpy : RawS k pyl pyh pyg py1 py2) (Zpt : RawS k ptl pth ptg pt1 pt2) (hz0 : maxQ (pxh - pxl) (pyh - pyl) = z0) (hz1 : pth - ptl = z1) (hk0 : 2 ≤ k) (hk : k ≤ 999999999994) (w : World) (h : St W l w) :
    Calls Tryd.prog 29 #[.agg (PW px1 px2 py1 py2 pt1 pt2)] w fun e w' => e = .returned (.tuple #[.agg (RC z0), .agg (RC z1)]) ∧ Below w.heap.size w w' := by
  subst hz0
  subst hz1
  have HT := Lib.hid (tabS hT h); clear hT h
  have Z_px := Lib.hid Zpx; clear Zpx
  have Z_py := Lib.hid Zpy; clear Zpy
  have Z_pt := Lib.hid Zpt; clear Zpt
  go_enter Tryd.func29, Tryd.ntmps29
  have HS : St w [] w := St.start
  go_upto_region 0 with (fail)
  refine wp_seq_text [] (StR.no HS) ?_
  refine Seq.box rfl rfl rfl (v := .agg (PW px1 px2 py1 py2 pt1 pt2)) (cs := PW px1 px2 py1 py2 pt1 pt2) rfl rfl ?_
  intro bk1 _ _ hbk1_r
  simp only [Act.put, nA, nB, nC]
  refine Seq.alloc rfl rfl rfl (z := .agg (RT.c rz0)) (by kernel_rfl) rfl ?_
  intro bk2 _ _ hbk2_r
  obtain ⟨ne_bk2_bk1, hbk2_r⟩ := Reg.ne_of_put hbk2_r
  have ne_bk1_bk2 := Ne.symm ne_bk2_bk1
  simp only [Act.put, nA, nB, nC]
  refine Seq.alloc rfl rfl rfl (z := .agg (RT.c rz0)) (by kernel_rfl) rfl ?_
  intro bk3 _ _ hbk3_r
  obtain ⟨ne_bk3_bk2, hbk3_r⟩ := Reg.ne_of_put hbk3_r
  have ne_bk2_bk3 := Ne.symm ne_bk3_bk2
  obtain ⟨ne_bk3_bk1, hbk3_r⟩ := Reg.ne_of_put hbk3_r
  have ne_bk1_bk3 := Ne.symm ne_bk3_bk1
  simp only [Act.put, nA, nB, nC]
  refine Seq.done fun ws1 hws => ?_
  have HS1 := hws.list3 (p := bk1) (q := bk2) (r := bk3) (by repeat (first | exact rS | refine rN (by assumption) ?_)) (by repeat (first | exact rS | refine rN (by assumption) ?_)) (by repeat (first | exact rS | refine rN (by assumption) ?_)) (by assumption) (by assumption) (by assumption)
  clear HS hws
  go_upto_region 1 with (fail)
  have HPbk3 := HS1.f2
  have HPbk2 := HPbk3.f2
  refine wp_seq [] (by kernel_rfl) (by kernel_rfl) (Reg.fin.put (Reg.fin.put Reg.fin_no _ _) _ _) (StR.move (StR.move (StR.no HPbk2))) ?_
  refine Seq.pure rfl rfl (by intro w; go_simp; try rfl) ?_
  simp only [Act.put, nA, nB, nC]
  refine Seq.loadAt rfl rfl rfl rfl (by repeat (first | exact mC | apply mT)) (n := 6) (cs' := SW px1 px2) (Nat.le_of_ble_eq_true rfl) (by kernel_rfl) rfl ?_
  simp only [Act.put, nA, nB, nC]
  refine Seq.call rfl rfl rfl rfl (by kernel_rfl) (long_w (k := (1 * k + 2)) (a1 := px1) (a2 := px2) HT.out (Z_px.out.more (by omega))  rfl (by omega) (by omega)) ?_
  simp only [Act.put, nA, nB, nC]
  refine Seq.pure rfl rfl (by intro w; go_simp; try rfl) ?_
  simp only [Act.put, nA, nB, nC]
  refine Seq.loadAt rfl rfl rfl rfl (by repeat (first | exact mC | apply mT)) (n := 6) (cs' := SW py1 py2) (Nat.le_of_ble_eq_true rfl) (by kernel_rfl) rfl ?_
  simp only [Act.put, nA, nB, nC]
  refine Seq.call rfl rfl rfl rfl (by kernel_rfl) (long_w (k := (1 * k + 2)) (a1 := py1) (a2 := py2) HT.out (Z_py.out.more (by omega))  rfl (by omega) (by omega)) ?_
  simp only [Act.put, nA, nB, nC]
  refine Seq.call rfl rfl rfl rfl (by kernel_rfl) (max_q (k := (4 * k + 1)) HT.out (((Z_px.out.rz (by omega)).2.sub (Z_px.out.rz (by omega)).1).more (by omega)) (((Z_py.out.rz (by omega)).2.sub (Z_py.out.rz (by omega)).1).more (by omega)) rfl (by omega)) ?_
  simp only [Act.put, nA, nB, nC]
  refine Seq.pure rfl rfl (by intro w; go_simp; try rfl) ?_
  simp only [Act.put, nA, nB, nC]
  refine Seq.loadAt rfl rfl rfl rfl (by repeat (first | exact mC | apply mT)) (n := 6) (cs' := SW pt1 pt2) (Nat.le_of_ble_eq_true rfl) (by kernel_rfl) rfl ?_
  simp only [Act.put, nA, nB, nC]
  refine Seq.call rfl rfl rfl rfl (by kernel_rfl) (long_w (k := (1 * k + 2)) (a1 := pt1) (a2 := pt2) HT.out (Z_pt.out.more (by omega))  rfl (by omega) (by omega)) ?_
  simp only [Act.put, nA, nB, nC]
  refine Seq.store rfl rfl rfl rfl rfl (by repeat (first | exact rS | refine rN (by assumption) ?_)) (n := 3) rfl rfl (by kernel_rfl) (RC_one _) ?_
  simp only [Act.put, nA, nB, nC]
  refine Seq.store rfl rfl rfl rfl rfl (by repeat (first | exact rS | refine rN (by assumption) ?_)) (n := 3) rfl rfl (by kernel_rfl) (RC_one _) ?_
  simp only [Act.put, nA, nB, nC]
  refine Seq.done fun ws2 hws => ?_
  have HS2 := hws.list2 (p := bk2) (q := bk3) (by repeat (first | exact rS | refine rN (by assumption) ?_)) (by repeat (first | exact rS | refine rN (by assumption) ?_)) (by assumption)
  clear HS1 hws HPbk3 HPbk2
  go_wp2_with fail
  exact ret_cells rfl rfl rfl rfl HS2 (by repeat (first | exact mC | apply mT)) (by repeat (first | exact mC | apply mT)) (n := 3) (n2 := 3) rfl rfl (by kernel_rfl) (by kernel_rfl) ⟨rfl, HS2.below⟩
set_option maxHeartbeats 2000000 in
set_option maxRecDepth 20000 in
theorem mid1_w {k : Nat} {al ah : Rat} {ag : Bool} {a1 a2 : RT} {z0 : Rat} {W : World} {l : List Own} (hT : Tab W) (Za : RawS k al ah ag a1 a2) (hz0 : (al + ah) / 2 = z0) (hk0 : 2 ≤ k) (hk : k ≤ 999999999996) (w : World) (h : St W l w) :
    Calls Tryd.prog 82 #[.agg (SW a1 a2)] w fun e w' => e = .returned (.agg (RC z0)) ∧ Below w.heap.size w w' := by
  subst hz0
  have HT := Lib.hid (tabS hT h); clear hT h
  have Z_a := Lib.hid Za; clear Za
  go_enter Tryd.func82, Tryd.ntmps82
  have HS : St w [] w := St.start
  go_upto_region 0 with (fail)
  refine wp_seq_text [] (StR.no HS) ?_
  refine Seq.box rfl rfl rfl (v := .agg (SW a1 a2)) (cs := SW a1 a2) rfl rfl ?_
  intro bk1 _ _ hbk1_r
  simp only [Act.put, nA, nB, nC]
  refine Seq.alloc rfl rfl rfl (z := .agg (RT.c rz0)) (by kernel_rfl) rfl ?_
  intro bk2 _ _ hbk2_r
  obtain ⟨ne_bk2_bk1, hbk2_r⟩ := Reg.ne_of_put hbk2_r
  have ne_bk1_bk2 := Ne.symm ne_bk2_bk1
  simp only [Act.put, nA, nB, nC]
  refine Seq.done fun ws1 hws => ?_
  have HS1 := hws.list2 (p := bk1) (q := bk2) (by repeat (first | exact rS | refine rN (by assumption) ?_)) (by repeat (first | exact rS | refine rN (by assumption) ?_)) (by assumption)
  clear HS hws
  go_upto_region 1 with (fail)
  refine wp_seq_text [0] (StR.move (StR.no HS1)) ?_
  refine Seq.get rfl rfl rfl rfl (by repeat (first | exact rS | refine rN (by assumption) ?_)) (n := 6) rfl (by kernel_rfl) ?_
  simp only [Act.put, nA, nB, nC]
  refine Seq.call rfl rfl rfl rfl (by kernel_rfl) (norm_w (k := (1 * k + 2)) (a1 := a1) (a2 := a2) HT.out (Z_a.out.more (by omega))  rfl rfl (by omega) (by omega)) ?_
  simp only [Act.put, nA, nB, nC]
  refine Seq.store rfl rfl rfl rfl rfl (by repeat (first | exact rS | refine rN (by assumption) ?_)) (n := 6) rfl rfl (by kernel_rfl) (VC_one _ _) ?_
  simp only [Act.put, nA, nB, nC]
  refine Seq.done fun ws2 hws => ?_
  have HS2 := hws.list1 (p := bk1) (by repeat (first | exact rS | refine rN (by assumption) ?_))
  clear HS1 hws
  go_upto_region 2 with (fail)
  refine wp_seq_text [] (StR.no HS2) ?_
  refine Seq.pure rfl rfl (by intro w; go_simp; try rfl) ?_
  simp only [Act.put, nA, nB, nC]
  refine Seq.loadAt rfl rfl rfl rfl (by repeat (first | exact mC | apply mT)) (n := 3) (cs' := RC al) (Nat.le_of_ble_eq_true rfl) (by kernel_rfl) rfl ?_
  simp only [Act.put, nA, nB, nC]
  refine Seq.pure rfl rfl (by intro w; go_simp; try rfl) ?_
  simp only [Act.put, nA, nB, nC]
  refine Seq.loadAt rfl rfl rfl rfl (by repeat (first | exact mC | apply mT)) (n := 3) (cs' := RC ah) (Nat.le_of_ble_eq_true rfl) (by kernel_rfl) rfl ?_
  simp only [Act.put, nA, nB, nC]
  refine Seq.call rfl rfl rfl rfl (by kernel_rfl) (add_q (k := (1 * k + 0)) HT.out ((Z_a.out.rz (by omega)).1.more (by omega)) ((Z_a.out.rz (by omega)).2.more (by omega)) rfl (by omega)) ?_
  simp only [Act.put, nA, nB, nC]
  refine Seq.call rfl rfl rfl rfl (by kernel_rfl) (of_q HT.out (by omega) (by omega) (show ((2 : Int) : Rat) = (2 : Rat) from rfl)) ?_
  simp only [Act.put, nA, nB, nC]
  refine Seq.call rfl rfl rfl rfl (by kernel_rfl) (div_q (k := (4 * k + 2)) HT.out (((Z_a.out.rz (by omega)).1.add (Z_a.out.rz (by omega)).2).more (by omega)) ((show Rz 2 (2 : Rat) from Rz.lit (z := 2) rfl (by decide)).more (by omega)) (show (2 : Rat) ≠ 0 from by decide) rfl (by omega)) ?_
  simp only [Act.put, nA, nB, nC]
  refine Seq.pure rfl rfl (by intro w; go_simp; try rfl) ?_
  simp only [Act.put, nA, nB, nC]
  refine Seq.pure (v := .agg (RC ((al + ah) / (2 : Rat)))) rfl rfl (fun w => rfl) ?_
  simp only [Act.put, nA, nB, nC]
  refine Seq.pure (v := .int .i64 0) rfl rfl (fun w => rfl) ?_
  simp only [Act.put, nA, nB, nC]
  refine Seq.alloc rfl rfl rfl (z := .agg (RT.c rz0)) (by kernel_rfl) rfl ?_
  intro bk3 _ _ hbk3_r
  simp only [Act.put, nA, nB, nC]
  refine Seq.store rfl rfl rfl rfl rfl (by repeat (first | exact rS | refine rN (by assumption) ?_)) (n := 3) rfl rfl (by kernel_rfl) (RC_one _) ?_
  simp only [Act.put, nA, nB, nC]
  refine Seq.pure rfl rfl (by intro w; go_simp; try rfl) ?_
  simp only [Act.put, nA, nB, nC]
  refine Seq.done fun ws3 hws => ?_
  have HS3 := hws.list1 (p := bk3) (by repeat (first | exact rS | refine rN (by assumption) ?_))
  clear HS2 hws
  go_upto_region 3 with (fail)
  have HPbk2 := HS3.f2
  refine wp_seq_text [] (StR.move (StR.no HPbk2)) ?_
  refine Seq.load rfl rfl rfl rfl (by repeat (first | exact mC | apply mT)) (n := 3) rfl (by kernel_rfl) ?_
  simp only [Act.put, nA, nB, nC]
  refine Seq.store rfl rfl rfl rfl rfl (by repeat (first | exact rS | refine rN (by assumption) ?_)) (n := 3) rfl rfl (by kernel_rfl) (RC_one _) ?_
  simp only [Act.put, nA, nB, nC]
  refine Seq.done fun ws4 hws => ?_
  have HS4 := hws.list1 (p := bk2) (by repeat (first | exact rS | refine rN (by assumption) ?_))
  clear HS3 hws HPbk2
  go_wp2_with fail
  exact ret_own rfl rfl rfl HS4 (by repeat (first | exact mC | apply mT)) (n := 3) rfl (by kernel_rfl) ⟨rfl, HS4.below⟩
set_option maxHeartbeats 2000000 in
set_option maxRecDepth 20000 in
theorem middle_w {k : Nat} {pxl pxh : Rat} {pxg : Bool} {px1 px2 : RT} {pyl pyh : Rat} {pyg : Bool} {py1 py2 : RT} {ptl pth : Rat} {ptg : Bool} {pt1 pt2 : RT} {z0 : Rat} {z1 : Rat} {z2 : Rat} {W : World} {l : List Own} (hT : Tab W) (Zpx : RawS k pxl pxh pxg px1 px2) (Zpy : RawS k pyl pyh pyg py1 py2) (Zpt : RawS k ptl pth ptg pt1 pt2) (hz0 : (pxl + pxh) / 2 = z0) (hz1 : (pyl + pyh) / 2 = z1) (hz2 : (ptl + pth) / 2 = z2) (hk0 : 2 ≤ k) (hk : k ≤ 999999999994) (w : World) (h : St W l w) :
    Calls Tryd.prog 31 #[.agg (PW px1 px2 py1 py2 pt1 pt2)] w fun e w' => e = .returned (.agg (FC z0 z1 false z2)) ∧ Below w.heap.size w w' := by
  subst hz0
  subst hz1
  subst hz2
  have HT := Lib.hid (tabS hT h); clear hT h
  have Z_px := Lib.hid Zpx; clear Zpx
  have Z_py := Lib.hid Zpy; clear Zpy
  have Z_pt := Lib.hid Zpt; clear Zpt
  go_enter Tryd.func31, Tryd.ntmps31
  have HS : St w [] w := St.start
  go_upto_region 0 with (fail)
  refine wp_seq_text [] (StR.no HS) ?_
  refine Seq.box rfl rfl rfl (v := .agg (PW px1 px2 py1 py2 pt1 pt2)) (cs := PW px1 px2 py1 py2 pt1 pt2) rfl rfl ?_
  intro bk1 _ _ hbk1_r
  simp only [Act.put, nA, nB, nC]
  refine Seq.alloc rfl rfl rfl (z := .agg (#[.bool false, .string ⟨#[]⟩, .string ⟨#[]⟩, .bool false, .string ⟨#[]⟩, .string ⟨#[]⟩, .bool false, .bool false, .string ⟨#[]⟩, .string ⟨#[]⟩])) (by kernel_rfl) rfl ?_
  intro bk2 _ _ hbk2_r
  obtain ⟨ne_bk2_bk1, hbk2_r⟩ := Reg.ne_of_put hbk2_r
  have ne_bk1_bk2 := Ne.symm ne_bk2_bk1
  simp only [Act.put, nA, nB, nC]
  refine Seq.done fun ws1 hws => ?_
  have HS1 := hws.list2 (p := bk1) (q := bk2) (by repeat (first | exact rS | refine rN (by assumption) ?_)) (by repeat (first | exact rS | refine rN (by assumption) ?_)) (by assumption)
  clear HS hws
  go_upto_region 1 with (fail)
  refine wp_seq_text [] (StR.no HS1) ?_
  refine Seq.pure rfl rfl (by intro w; go_simp; try rfl) ?_
  simp only [Act.put, nA, nB, nC]
  refine Seq.done fun ws2 hws => ?_
  have HS2 := hws.st
  clear HS1 hws
  go_upto_region 2 with (fail)
  have HPbk2 := HS2.f1
  refine wp_seq [] (by kernel_rfl) (by kernel_rfl) (Reg.fin.put Reg.fin_no _ _) (StR.move (StR.no HPbk2)) ?_
  iterate 2 (refine Seq.pure rfl rfl (by intro w; go_simp; try rfl) ?_; simp only [Act.put, nA, nB, nC])
  refine Seq.loadAt rfl rfl rfl rfl (by repeat (first | exact mC | apply mT)) (n := 6) (cs' := SW px1 px2) (Nat.le_of_ble_eq_true rfl) (by kernel_rfl) rfl ?_
  simp only [Act.put, nA, nB, nC]
  refine Seq.callV rfl rfl rfl rfl rfl (by kernel_rfl) (mid1_w (k := (1 * k + 2)) (a1 := px1) (a2 := px2) HT.out (Z_px.out.more (by omega))  rfl (by omega) (by omega)) ?_
  simp only [Act.put, nA, nB, nC]
  iterate 2 (refine Seq.pure rfl rfl (by intro w; go_simp; try rfl) ?_; simp only [Act.put, nA, nB, nC])
  refine Seq.loadAt rfl rfl rfl rfl (by repeat (first | exact mC | apply mT)) (n := 6) (cs' := SW py1 py2) (Nat.le_of_ble_eq_true rfl) (by kernel_rfl) rfl ?_
  simp only [Act.put, nA, nB, nC]
  refine Seq.callV rfl rfl rfl rfl rfl (by kernel_rfl) (mid1_w (k := (1 * k + 2)) (a1 := py1) (a2 := py2) HT.out (Z_py.out.more (by omega))  rfl (by omega) (by omega)) ?_
  simp only [Act.put, nA, nB, nC]
  refine Seq.pure (v := .agg (VC ((pxl + pxh) / 2) ((pyl + pyh) / 2))) rfl rfl (fun w => bld_Vec rfl rfl rfl w) ?_
  simp only [Act.put, nA, nB, nC]
  iterate 2 (refine Seq.pure rfl rfl (by intro w; go_simp; try rfl) ?_; simp only [Act.put, nA, nB, nC])
  refine Seq.loadAt rfl rfl rfl rfl (by repeat (first | exact mC | apply mT)) (n := 6) (cs' := SW pt1 pt2) (Nat.le_of_ble_eq_true rfl) (by kernel_rfl) rfl ?_
  simp only [Act.put, nA, nB, nC]
  refine Seq.callV rfl rfl rfl rfl rfl (by kernel_rfl) (mid1_w (k := (1 * k + 2)) (a1 := pt1) (a2 := pt2) HT.out (Z_pt.out.more (by omega))  rfl (by omega) (by omega)) ?_
  simp only [Act.put, nA, nB, nC]
  refine Seq.pure (v := .agg (TC false ((ptl + pth) / 2))) rfl rfl (fun w => bld_Turn1 rfl rfl w) ?_
  simp only [Act.put, nA, nB, nC]
  refine Seq.pure (v := .agg (FC ((pxl + pxh) / 2) ((pyl + pyh) / 2) false ((ptl + pth) / 2))) rfl rfl (fun w => bld_Frame rfl rfl rfl w) ?_
  simp only [Act.put, nA, nB, nC]
  refine Seq.store rfl rfl rfl rfl rfl (by repeat (first | exact rS | refine rN (by assumption) ?_)) (n := 10) rfl rfl (by kernel_rfl) (FC_one _ _ _ _) ?_
  simp only [Act.put, nA, nB, nC]
  refine Seq.done fun ws3 hws => ?_
  have HS3 := hws.list1 (p := bk2) (by repeat (first | exact rS | refine rN (by assumption) ?_))
  clear HS2 hws HPbk2
  go_wp2_with fail
  exact ret_own rfl rfl rfl HS3 (by repeat (first | exact mC | apply mT)) (n := 10) rfl (by kernel_rfl) ⟨rfl, HS3.below⟩
end Go.Proofs.YtdhhbpnnahdofaaDoor
