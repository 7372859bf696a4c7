/- gantref4.cosines, PointOf. -/
import Derived.Test.YtdhhbpnnahdofaaDoorSp9
import Derived.LoopN
import Derived.Deep.LoopGhost

namespace Go.Proofs.YtdhhbpnnahdofaaDoor
open Go.RowKit
set_option linter.unusedVariables false
set_option linter.unusedSimpArgs false

def xsC (th : Rat) (j : Nat) : Rat := match j with | 0 => th | 1 => 0 | 2 => -1 | _ => 1
theorem Rz.neg1' : Rz 2 (-1 : Rat) := Rz.lit (z := -1) rfl (by decide)
theorem Rz.xsC {k : Nat} {th : Rat} (h : Rz (k + 2) th) (j : Nat) : Rz (1 * k + 2) (xsC th j) := by
  unfold Go.Proofs.YtdhhbpnnahdofaaDoor.xsC
  split
  · exact h.more (by omega)
  · exact Rz.zero2.more (by omega)
  · exact Rz.neg1'.more (by omega)
  · exact Rz.one2.more (by omega)
theorem Rz.cos_x {k : Nat} {th x : Rat} {j : Nat} (hx : Go.Proofs.YtdhhbpnnahdofaaDoor.xsC th j = x) (h : Rz k th) : Rz (8 * k + 10) (Go.Proofs.YtdhhbpnnahdofaaDoor.cosT false x) := by
  subst hx; unfold Go.Proofs.YtdhhbpnnahdofaaDoor.xsC
  split
  · exact Rz.cosT _ h
  · rw [show Go.Proofs.YtdhhbpnnahdofaaDoor.cosT false 0 = 1 from by decide +kernel]; exact Rz.one2.more (by omega)
  · rw [show Go.Proofs.YtdhhbpnnahdofaaDoor.cosT false (-1) = 0 from by decide +kernel]; exact Rz.zero2.more (by omega)
  · rw [show Go.Proofs.YtdhhbpnnahdofaaDoor.cosT false 1 = 0 from by decide +kernel]; exact Rz.zero2.more (by omega)
theorem Rz.sin_x {k : Nat} {th x : Rat} {j : Nat} (hx : Go.Proofs.YtdhhbpnnahdofaaDoor.xsC th j = x) (h : Rz k th) : Rz (8 * k + 10) (Go.Proofs.YtdhhbpnnahdofaaDoor.sinT x) := by
  subst hx; unfold Go.Proofs.YtdhhbpnnahdofaaDoor.xsC
  split
  · exact Rz.sinT h
  · rw [show Go.Proofs.YtdhhbpnnahdofaaDoor.sinT 0 = 0 from by decide +kernel]; exact Rz.zero2.more (by omega)
  · rw [sin_neg1]; exact Rz.neg1'.more (by omega)
  · rw [sin_pos1]; exact Rz.one2.more (by omega)
theorem SL4_room {a b c d : Rat} {j : Nat} (h : j < 4) : 0 + j * 3 + 3 ≤ (BC a b c d).size := by
  show 0 + j * 3 + 3 ≤ 12
  omega
theorem SL4_at {th x : Rat} {j : Nat} (hx : xsC th j = x) (h : j < 4) : (BC th 0 (-1) 1).extract (0 + j * 3) (0 + j * 3 + 3) = RC x := by
  subst hx
  match j, h with
  | 0, _ => rfl
  | 1, _ => rfl
  | 2, _ => rfl
  | 3, _ => rfl
/-- the least and the greatest cosine and sine after j of the four places -/
def cst (tl th : Rat) : Nat → Rat × Rat × Rat × Rat
  | 0 => (cosT false tl, cosT false tl, sinT tl, sinT tl)
  | j + 1 => if inI tl th (xsC th j) = true then (minQ (cst tl th j).1 (cosT false (xsC th j)), maxQ (cst tl th j).2.1 (cosT false (xsC th j)), minQ (cst tl th j).2.2.1 (sinT (xsC th j)), maxQ (cst tl th j).2.2.2 (sinT (xsC th j))) else cst tl th j
theorem cst_no {tl th : Rat} {j : Nat} (h : inI tl th (xsC th j) = false) : cst tl th (j + 1) = cst tl th j := by
  simp only [cst]; rw [if_neg (by rw [h]; decide)]
theorem cst_yes {tl th : Rat} {j : Nat} (h : inI tl th (xsC th j) = true) : cst tl th (j + 1) = (minQ (cst tl th j).1 (cosT false (xsC th j)), maxQ (cst tl th j).2.1 (cosT false (xsC th j)), minQ (cst tl th j).2.2.1 (sinT (xsC th j)), maxQ (cst tl th j).2.2.2 (sinT (xsC th j))) := by
  simp only [cst]; rw [if_pos h]
def cLo (l h : Rat) : Rat := fC (maxQ (l * l) (h * h))
def cHi (l h : Rat) : Rat := fC (sqLo l h)
theorem cst_end {tl th : Rat} (hle : tl ≤ th) : cst tl th 4 = (cLo tl th, cHi tl th, sLo tl th, sHi tl th) := by
  have h0 : cst tl th 1 = (minQ (cosT false tl) (cosT false th), maxQ (cosT false tl) (cosT false th), minQ (sinT tl) (sinT th), maxQ (sinT tl) (sinT th)) := cst_yes (j := 0) (decide_eq_true ⟨hle, Rat.le_refl⟩)
  have a := refC_min hle
  have b := refC_max hle
  have c := refS_min hle
  have d := refS_max hle
  unfold cLo cHi
  rw [← a, ← b, ← c, ← d]
  unfold mn5 mx5
  have e1 : inI tl th (xsC th 1) = inI tl th 0 := rfl
  have e2 : inI tl th (xsC th 2) = inI tl th (-1) := rfl
  have e3 : inI tl th (xsC th 3) = inI tl th 1 := rfl
  have s1 : cst tl th 2 = _ := rfl
  show (if inI tl th (xsC th 3) = true then _ else cst tl th 3) = _
  have k3 : cst tl th 3 = (if inI tl th (-1) = true then (minQ (cst tl th 2).1 (cosT false (-1)), maxQ (cst tl th 2).2.1 (cosT false (-1)), minQ (cst tl th 2).2.2.1 (sinT (-1)), maxQ (cst tl th 2).2.2.2 (sinT (-1))) else cst tl th 2) := rfl
  have k2 : cst tl th 2 = (if inI tl th 0 = true then (minQ (cst tl th 1).1 (cosT false 0), maxQ (cst tl th 1).2.1 (cosT false 0), minQ (cst tl th 1).2.2.1 (sinT 0), maxQ (cst tl th 1).2.2.2 (sinT 0)) else cst tl th 1) := rfl
  rw [e3]
  generalize inI tl th 0 = b0 at *
  generalize inI tl th (-1) = b1 at *
  generalize inI tl th 1 = b2 at *
  clear a b c d e1 e2 e3 s1
  cases b0 <;> cases b1 <;> cases b2 <;> simp [h0, k2, k3, xsC]
theorem Rz.cLo {k : Nat} {l h : Rat} (hl : Rz k l) (hh : Rz k h) : Rz (8 * k + 10) (Go.Proofs.YtdhhbpnnahdofaaDoor.cLo l h) := by
  unfold Go.Proofs.YtdhhbpnnahdofaaDoor.cLo
  rcases cos_at (l := l) (h := h) with e | e <;> rw [e]
  · exact Rz.cosT _ hl
  · exact Rz.cosT _ hh
theorem Rz.cHi {k : Nat} {l h : Rat} (hl : Rz k l) (hh : Rz k h) : Rz (8 * k + 10) (Go.Proofs.YtdhhbpnnahdofaaDoor.cHi l h) := by
  unfold Go.Proofs.YtdhhbpnnahdofaaDoor.cHi Go.Proofs.YtdhhbpnnahdofaaDoor.sqLo
  split
  · rw [show Go.Proofs.YtdhhbpnnahdofaaDoor.fC 0 = 1 from by decide +kernel]; exact Rz.one2.more (by omega)
  · rw [minQ_eq]
    split
    · rw [fC_cos]; exact Rz.cosT _ hl
    · rw [fC_cos]; exact Rz.cosT _ hh
theorem sLo_rz {k : Nat} {l h : Rat} (hl : Rz k l) (hh : Rz k h) : Rz (8 * k + 10) (sLo l h) := by
  unfold sLo; split
  · exact Rz.neg1'.more (by omega)
  · exact (Rz.sinT hl).min (Rz.sinT hh)
theorem sHi_rz {k : Nat} {l h : Rat} (hl : Rz k l) (hh : Rz k h) : Rz (8 * k + 10) (sHi l h) := by
  unfold sHi; split
  · exact Rz.one2.more (by omega)
  · exact (Rz.sinT hl).max (Rz.sinT hh)
theorem csLe {l h : Rat} (hle : l ≤ h) : cLo l h ≤ cHi l h ∧ sLo l h ≤ sHi l h := by
  have a := cos_in (p := l) Rat.le_refl hle
  have b := sin_in (p := l) Rat.le_refl hle
  unfold cLo cHi
  grind
/-- the box of a point: its least X and Y, its greatest X and Y -/
def bX0 (x tl th vx vy : Rat) : Rat := x + (minQ (cLo tl th * vx) (cHi tl th * vx) - maxQ (sLo tl th * vy) (sHi tl th * vy))
def bX1 (x tl th vx vy : Rat) : Rat := x + (maxQ (cLo tl th * vx) (cHi tl th * vx) - minQ (sLo tl th * vy) (sHi tl th * vy))
def bY0 (y tl th vx vy : Rat) : Rat := y + (minQ (sLo tl th * vx) (sHi tl th * vx) + minQ (cLo tl th * vy) (cHi tl th * vy))
def bY1 (y tl th vx vy : Rat) : Rat := y + (maxQ (sLo tl th * vx) (sHi tl th * vx) + maxQ (cLo tl th * vy) (cHi tl th * vy))
theorem mul_neg_min (a b v : Rat) : minQ (a * -v) (b * -v) = -(maxQ (a * v) (b * v)) := by rw [Rat.mul_neg, Rat.mul_neg, min_negQ]
theorem mul_neg_max (a b v : Rat) : maxQ (a * -v) (b * -v) = -(minQ (a * v) (b * v)) := by rw [Rat.mul_neg, Rat.mul_neg, max_negQ]
theorem minmax_le (a b : Rat) : minQ a b ≤ maxQ a b := by rw [minQ_eq, maxQ_eq]; grind
theorem sub_le2 {a b c d : Rat} (h1 : a ≤ b) (h2 : c ≤ d) : a - d ≤ b - c := by grind
theorem add_le2 {a b c d : Rat} (h1 : a ≤ b) (h2 : c ≤ d) : a + c ≤ b + d := by grind
section
variable {k : Nat} {x tl th u v : Rat}
theorem b_rz (hx : Rz k x) (hl : Rz k tl) (hh : Rz k th) (hu : Rz k u) (hv : Rz k v) : Rz (74 * k + 100) (bX0 x tl th u v) ∧ Rz (74 * k + 100) (bX1 x tl th u v) ∧ Rz (74 * k + 100) (bY0 x tl th u v) ∧ Rz (74 * k + 100) (bY1 x tl th u v) := by
  have c0 := Rz.cLo hl hh
  have c1 := Rz.cHi hl hh
  have s0 := sLo_rz hl hh
  have s1 := sHi_rz hl hh
  refine ⟨?_, ?_, ?_, ?_⟩
  · exact (hx.add (((c0.mul hu).min (c1.mul hu)).sub ((s0.mul hv).max (s1.mul hv)))).more (by omega)
  · exact (hx.add (((c0.mul hu).max (c1.mul hu)).sub ((s0.mul hv).min (s1.mul hv)))).more (by omega)
  · exact (hx.add (((s0.mul hu).min (s1.mul hu)).add ((c0.mul hv).min (c1.mul hv)))).more (by omega)
  · exact (hx.add (((s0.mul hu).max (s1.mul hu)).add ((c0.mul hv).max (c1.mul hv)))).more (by omega)
end
set_option maxHeartbeats 4000000 in
set_option maxRecDepth 20000 in
theorem cosines_q {k : Nat} {tl th : Rat} {W : World} {l : List Own} (hT : Tab W) (Ztl : Rz k tl) (Zth : Rz k th) (hle : tl ≤ th) (hk0 : 2 ≤ k) (hk : k ≤ 549755813886) (w : World) (h : St W l w) :
    Calls Tryd.prog 96 #[.agg (VC tl th)] w fun e w' => e = .returned (.tuple #[.agg (VC (cLo tl th) (cHi tl th)), .agg (VC (sLo tl th) (sHi tl th))]) ∧ Below w.heap.size w w' := by
  have HT := Lib.hid (tabS hT h); clear hT h
  have HLE := Lib.hid hle; clear hle
  have Z_tl := Lib.hid Ztl; clear Ztl
  have Z_th := Lib.hid Zth; clear Zth
  go_enter Tryd.func96, Tryd.ntmps96
  have HS : St w [] w := St.start
  go_upto_region 0 with (fail)
  refine wp_seq_text [] (StR.no HS) ?_
  refine Seq.box rfl rfl rfl (v := .agg (VC tl th)) (cs := VC tl th) rfl rfl ?_
  intro bk1 _ _ hbk1_r
  simp only [Act.put, nA, nB, nC]
  refine Seq.alloc rfl rfl rfl (z := .agg (SW rz0 rz0)) (by kernel_rfl) rfl ?_
  intro bk2 _ _ hbk2_r
  obtain ⟨ne_bk2_bk1, hbk2_r⟩ := Reg.ne_of_put hbk2_r
  have ne_bk1_bk2 := Ne.symm ne_bk2_bk1
  simp only [Act.put, nA, nB, nC]
  refine Seq.alloc rfl rfl rfl (z := .agg (SW rz0 rz0)) (by kernel_rfl) rfl ?_
  intro bk3 _ _ hbk3_r
  obtain ⟨ne_bk3_bk2, hbk3_r⟩ := Reg.ne_of_put hbk3_r
  have ne_bk2_bk3 := Ne.symm ne_bk3_bk2
  obtain ⟨ne_bk3_bk1, hbk3_r⟩ := Reg.ne_of_put hbk3_r
  have ne_bk1_bk3 := Ne.symm ne_bk3_bk1
  simp only [Act.put, nA, nB, nC]
  refine Seq.done fun ws1 hws => ?_
  have HS1 := hws.list3 (p := bk1) (q := bk2) (r := bk3) (by repeat (first | exact rS | refine rN (by assumption) ?_)) (by repeat (first | exact rS | refine rN (by assumption) ?_)) (by repeat (first | exact rS | refine rN (by assumption) ?_)) (by assumption) (by assumption) (by assumption)
  clear HS hws
  go_upto_region 1 with (fail)
  refine wp_seq_text [] (StR.no HS1) ?_
  refine Seq.pure rfl rfl (by intro w; go_simp; try rfl) ?_
  simp only [Act.put, nA, nB, nC]
  refine Seq.loadAt rfl rfl rfl rfl (by repeat (first | exact mC | apply mT)) (n := 3) (cs' := RC tl) (Nat.le_of_ble_eq_true rfl) (by kernel_rfl) rfl ?_
  simp only [Act.put, nA, nB, nC]
  refine Seq.pure (v := .agg (TC false tl)) rfl rfl (fun w => bld_Turn1 rfl rfl w) ?_
  simp only [Act.put, nA, nB, nC]
  refine Seq.call rfl rfl rfl rfl (by kernel_rfl) (cosine_w (k := (1 * k + 2)) (t_t := (rt tl)) HT.out (RawT.rc (Z_tl.out.more (by omega)))  rfl rfl (by omega) (by omega)) ?_
  simp only [Act.put, nA, nB, nC]
  refine Seq.pure rfl rfl (by intro w; go_simp; try rfl) ?_
  simp only [Act.put, nA, nB, nC]
  refine Seq.pure (v := .agg (RC (cosT false tl))) rfl rfl (fun w => rfl) ?_
  simp only [Act.put, nA, nB, nC]
  refine Seq.pure (v := .agg (RC (sinT tl))) rfl rfl (fun w => rfl) ?_
  simp only [Act.put, nA, nB, nC]
  refine Seq.alloc rfl rfl rfl (z := .agg (RT.c rz0)) (by kernel_rfl) rfl ?_
  intro bk4 _ _ hbk4_r
  simp only [Act.put, nA, nB, nC]
  refine Seq.alloc rfl rfl rfl (z := .agg (RT.c rz0)) (by kernel_rfl) rfl ?_
  intro bk5 _ _ hbk5_r
  obtain ⟨ne_bk5_bk4, hbk5_r⟩ := Reg.ne_of_put hbk5_r
  have ne_bk4_bk5 := Ne.symm ne_bk5_bk4
  simp only [Act.put, nA, nB, nC]
  refine Seq.store rfl rfl rfl rfl rfl (by repeat (first | exact rS | refine rN (by assumption) ?_)) (n := 3) rfl rfl (by kernel_rfl) (RC_one _) ?_
  simp only [Act.put, nA, nB, nC]
  refine Seq.store rfl rfl rfl rfl rfl (by repeat (first | exact rS | refine rN (by assumption) ?_)) (n := 3) rfl rfl (by kernel_rfl) (RC_one _) ?_
  simp only [Act.put, nA, nB, nC]
  refine Seq.done fun ws2 hws => ?_
  have HS2 := hws.list2 (p := bk4) (q := bk5) (by repeat (first | exact rS | refine rN (by assumption) ?_)) (by repeat (first | exact rS | refine rN (by assumption) ?_)) (by assumption)
  clear HS1 hws
  go_upto_region 2 with (fail)
  refine wp_seq [] (by kernel_rfl) (by kernel_rfl) Reg.fin_no (StR.no HS2) ?_
  refine Seq.load rfl rfl rfl rfl (by repeat (first | exact mC | apply mT)) (n := 3) rfl (by kernel_rfl) ?_
  simp only [Act.put, nA, nB, nC]
  refine Seq.load rfl rfl rfl rfl (by repeat (first | exact mC | apply mT)) (n := 3) rfl (by kernel_rfl) ?_
  simp only [Act.put, nA, nB, nC]
  refine Seq.pure (v := .agg (VC (cosT false tl) (cosT false tl))) rfl rfl (fun w => bld_RSpan (x := (rt (cosT false tl))) (y := (rt (cosT false tl))) rfl rfl rfl w) ?_
  simp only [Act.put, nA, nB, nC]
  refine Seq.load rfl rfl rfl rfl (by repeat (first | exact mC | apply mT)) (n := 3) rfl (by kernel_rfl) ?_
  simp only [Act.put, nA, nB, nC]
  refine Seq.load rfl rfl rfl rfl (by repeat (first | exact mC | apply mT)) (n := 3) rfl (by kernel_rfl) ?_
  simp only [Act.put, nA, nB, nC]
  refine Seq.pure (v := .agg (VC (sinT tl) (sinT tl))) rfl rfl (fun w => bld_RSpan (x := (rt (sinT tl))) (y := (rt (sinT tl))) rfl rfl rfl w) ?_
  simp only [Act.put, nA, nB, nC]
  refine Seq.alloc rfl rfl rfl (z := .agg (SW rz0 rz0)) (by kernel_rfl) rfl ?_
  intro bk6 _ _ hbk6_r
  simp only [Act.put, nA, nB, nC]
  refine Seq.alloc rfl rfl rfl (z := .agg (SW rz0 rz0)) (by kernel_rfl) rfl ?_
  intro bk7 _ _ hbk7_r
  obtain ⟨ne_bk7_bk6, hbk7_r⟩ := Reg.ne_of_put hbk7_r
  have ne_bk6_bk7 := Ne.symm ne_bk7_bk6
  simp only [Act.put, nA, nB, nC]
  refine Seq.store rfl rfl rfl rfl rfl (by repeat (first | exact rS | refine rN (by assumption) ?_)) (n := 6) rfl rfl (by kernel_rfl) (VC_one _ _) ?_
  simp only [Act.put, nA, nB, nC]
  refine Seq.store rfl rfl rfl rfl rfl (by repeat (first | exact rS | refine rN (by assumption) ?_)) (n := 6) rfl rfl (by kernel_rfl) (VC_one _ _) ?_
  simp only [Act.put, nA, nB, nC]
  refine Seq.done fun ws3 hws => ?_
  have HS3 := hws.list2 (p := bk6) (q := bk7) (by repeat (first | exact rS | refine rN (by assumption) ?_)) (by repeat (first | exact rS | refine rN (by assumption) ?_)) (by assumption)
  clear HS2 hws
  go_upto_region 3 with (fail)
  refine wp_seq [] (by kernel_rfl) (by kernel_rfl) Reg.fin_no (StR.no HS3) ?_
  refine Seq.pure rfl rfl (by intro w; go_simp; try rfl) ?_
  simp only [Act.put, nA, nB, nC]
  refine Seq.loadAt rfl rfl rfl rfl (by repeat (first | exact mC | apply mT)) (n := 3) (cs' := RC th) (Nat.le_of_ble_eq_true rfl) (by kernel_rfl) rfl ?_
  simp only [Act.put, nA, nB, nC]
  refine Seq.call rfl rfl rfl rfl (by kernel_rfl) (of_q HT.out (by omega) (by omega) (show ((0 : Int) : Rat) = (0 : Rat) from rfl)) ?_
  simp only [Act.put, nA, nB, nC]
  refine Seq.call rfl rfl rfl rfl (by kernel_rfl) (of_q HT.out (by omega) (by omega) (show ((-1 : Int) : Rat) = (-1 : Rat) from rfl)) ?_
  simp only [Act.put, nA, nB, nC]
  refine Seq.call rfl rfl rfl rfl (by kernel_rfl) (of_q HT.out (by omega) (by omega) (show ((1 : Int) : Rat) = (1 : Rat) from rfl)) ?_
  simp only [Act.put, nA, nB, nC]
  refine Seq.slice (n := 4) (e := 32) (cs := SL4 th (0 : Rat) (-1 : Rat) (1 : Rat)) rfl rfl (fun w => slc_4 rfl rfl rfl rfl rfl w) ?_
  intro bk30 _ _ hbk30_r
  simp only [Act.put, nA, nB, nC]
  iterate 2 (refine Seq.pure rfl rfl (by intro w; go_simp; try rfl) ?_; simp only [Act.put, nA, nB, nC])
  refine Seq.done fun ws4 hws => ?_
  have HS4 := hws.list1 (p := bk30) (by repeat (first | exact rS | refine rN (by assumption) ?_))
  clear HS3 hws
  go_wp2_with fail
  go_loopg [32] 4 (fun kx i wr => ∃ j : Nat, kx = 4 - j ∧ i = .int .i64 (j : Int) ∧ j ≤ 4 ∧ ∃ m M n N : Rat, Hid (cst tl th j = (m, M, n, N)) ∧ Hid (Rz (8 * k + 10) m ∧ Rz (8 * k + 10) M ∧ Rz (8 * k + 10) n ∧ Rz (8 * k + 10) N) ∧ Hid (St w [(bk30, 32, BC th (0 : Rat) (-1 : Rat) (1 : Rat)), (bk6, 43, VC m M), (bk7, 43, VC n N), (bk4, 32, RC (cosT false tl)), (bk5, 32, RC (sinT tl)), (bk1, 43, VC tl th), (bk2, 43, SW rz0 rz0), (bk3, 43, SW rz0 rz0)] wr))
  case atStart => exact ⟨0, rfl, rfl, by omega, cosT false tl, cosT false tl, sinT tl, sinT tl, Lib.hid rfl, Lib.hid ⟨Rz.cosT _ Z_tl.out, Rz.cosT _ Z_tl.out, Rz.sinT Z_tl.out, Rz.sinT Z_tl.out⟩, Lib.hid HS4⟩
  case round =>
    obtain ⟨j, hgk, rfl, hj4, m, M, n, N, hc, hz, hS⟩ := hrel
    have HS0 := hS.out
    clear hS
    have Z_m := Lib.hid hz.out.1
    have Z_M := Lib.hid hz.out.2.1
    have Z_n := Lib.hid hz.out.2.2.1
    have Z_N := Lib.hid hz.out.2.2.2
    have HGK := Lib.hid hgk; clear hgk
    by_cases hj : j < 4
    · obtain ⟨x, hx⟩ : ∃ x, xsC th j = x := ⟨_, rfl⟩
      have HX := Lib.hid hx; clear hx
      have Z_x := Lib.hid (show Rz (1 * k + 2) x from HX.out ▸ Rz.xsC (Z_th.out.more (by omega)) j)
      have HJ := Lib.hid (show j < 4 ∧ (j : Int) < 4 ∧ 4 - (j + 1) < 4 - j ∧ j + 1 ≤ 4 ∧ IntKind.i64.wrap ((j : Int) + 1) = ((j + 1 : Nat) : Int) from ⟨hj, by omega, by omega, by omega, by rw [IntWalk.i64_in _ (by omega)]; omega⟩)
      have HJ2 := HJ.out.2.1
      go_upto_region 4 with (fail)
      refine wp_seq_text [] (StR.no HS0) ?_
      refine Seq.pure rfl rfl (by intro w; go_simp; try rfl) ?_
      simp only [Act.put, nA, nB, nC]
      refine Seq.done fun ws51 hws => ?_
      have HS51 := hws.st
      clear HS0 hws
      go_upto_region 5 with (fail)
      refine wp_seq_text [] (StR.no HS51) ?_
      refine Seq.indexI rfl rfl rfl rfl rfl (run_index' (m := 3) (by kernel_rfl) HJ.out.1) ?_
      simp only [Act.put, nA, nB, nC]
      refine Seq.loadAt rfl rfl rfl rfl (by repeat (first | exact mC | apply mT)) (n := 3) (cs' := RC x) (SL4_room HJ.out.1) (by kernel_rfl) (SL4_at HX.out HJ.out.1) ?_
      simp only [Act.put, nA, nB, nC]
      refine Seq.alloc rfl rfl rfl (z := .agg (RT.c rz0)) (by kernel_rfl) rfl ?_
      intro bk9 _ _ hbk9_r
      simp only [Act.put, nA, nB, nC]
      refine Seq.store rfl rfl rfl rfl rfl (by repeat (first | exact rS | refine rN (by assumption) ?_)) (n := 3) rfl rfl (by kernel_rfl) (RC_one _) ?_
      simp only [Act.put, nA, nB, nC]
      refine Seq.done fun ws52 hws => ?_
      have HS52 := hws.list1 (p := bk9) (by repeat (first | exact rS | refine rN (by assumption) ?_))
      clear HS51 hws
      by_cases h1 : x < tl
      · obtain ⟨va, hva, ra⟩ : ∃ v, cmpQ x tl = v ∧ decide (v < 0) = true := ⟨_, rfl, decide_eq_true ((cmpQ_lt _ _).2 (by grind))⟩
        have Ca := Lib.hid hva; clear hva
        have HE := Lib.hid (show cst tl th (j + 1) = (m, M, n, N) from by rw [cst_no (by rw [HX.out]; unfold inI; exact decide_eq_false (by grind))]; exact hc.out)
        go_upto_region 6 with (fail)
        refine wp_seq_text [] (StR.no HS52) ?_
        refine Seq.load rfl rfl rfl rfl (by repeat (first | exact mC | apply mT)) (n := 3) rfl (by kernel_rfl) ?_
        simp only [Act.put, nA, nB, nC]
        refine Seq.pure rfl rfl (by intro w; go_simp; try rfl) ?_
        simp only [Act.put, nA, nB, nC]
        refine Seq.loadAt rfl rfl rfl rfl (by repeat (first | exact mC | apply mT)) (n := 3) (cs' := RC tl) (Nat.le_of_ble_eq_true rfl) (by kernel_rfl) rfl ?_
        simp only [Act.put, nA, nB, nC]
        refine Seq.call rfl rfl rfl rfl (by kernel_rfl) (cmp_q (k := (1 * k + 2)) HT.out (Z_x.out.more (by omega)) (Z_tl.out.more (by omega)) Ca.out (by omega)) ?_
        simp only [Act.put, nA, nB, nC]
        iterate 2 (refine Seq.pure rfl rfl (by intro w; go_simp; try rfl) ?_; simp only [Act.put, nA, nB, nC])
        iterate 5 (refine Seq.nw rfl ?_; simp only [Act.put, nA, nB, nC])
        refine Seq.pure rfl rfl (by intro w; go_simp; try rfl) ?_
        simp only [Act.put, nA, nB, nC]
        refine Seq.done fun ws53 hws => ?_
        have HS53 := hws.st
        clear HS52 hws
        go_upto_region 10 with (fail)
        refine wp_seq_text [] (StR.no HS53) ?_
        refine Seq.pure (v := .int .i64 ((j + 1 : Nat) : Int)) rfl rfl (by intro w; go_simp <;> (first | (rw [HJ.out.2.2.2.2]; done) | exact HJ.out.2.2.2.2 | (simp [HJ.out.2.2.2.2]; done) | (trace_state; done))) ?_
        simp only [Act.put, nA, nB, nC]
        refine Seq.pure rfl rfl (by intro w; go_simp; try rfl) ?_
        simp only [Act.put, nA, nB, nC]
        refine Seq.done fun ws54 hws => ?_
        have HS54 := hws.st
        clear HS53 hws
        go_wp2_with fail
        go_roundg (4 - (j + 1))
        case measure => rw [HGK.out]; exact HJ.out.2.2.1
        case rel => exact ⟨j + 1, rfl, rfl, HJ.out.2.2.2.1, _, _, _, _, Lib.hid HE.out, Lib.hid hz.out, Lib.hid HS54.drop⟩
      · by_cases h2 : th < x
        · obtain ⟨va, hva, ra⟩ : ∃ v, cmpQ x tl = v ∧ decide (v < 0) = false := ⟨_, rfl, decide_eq_false (fun h => absurd ((cmpQ_lt _ _).1 h) (by grind))⟩
          have Ca := Lib.hid hva; clear hva
          obtain ⟨vb, hvb, rb, rb'⟩ : ∃ v, cmpQ x th = v ∧ decide (v > 0) = true ∧ decide (0 < v) = true := ⟨_, rfl, decide_eq_true ((cmpQ_gt _ _).2 (by grind)), decide_eq_true ((cmpQ_gt _ _).2 (by grind))⟩
          have Cb := Lib.hid hvb; clear hvb
          have HE := Lib.hid (show cst tl th (j + 1) = (m, M, n, N) from by rw [cst_no (by rw [HX.out]; unfold inI; exact decide_eq_false (by grind))]; exact hc.out)
          go_upto_region 6 with (fail)
          refine wp_seq_text [] (StR.no HS52) ?_
          refine Seq.load rfl rfl rfl rfl (by repeat (first | exact mC | apply mT)) (n := 3) rfl (by kernel_rfl) ?_
          simp only [Act.put, nA, nB, nC]
          refine Seq.pure rfl rfl (by intro w; go_simp; try rfl) ?_
          simp only [Act.put, nA, nB, nC]
          refine Seq.loadAt rfl rfl rfl rfl (by repeat (first | exact mC | apply mT)) (n := 3) (cs' := RC tl) (Nat.le_of_ble_eq_true rfl) (by kernel_rfl) rfl ?_
          simp only [Act.put, nA, nB, nC]
          refine Seq.call rfl rfl rfl rfl (by kernel_rfl) (cmp_q (k := (1 * k + 2)) HT.out (Z_x.out.more (by omega)) (Z_tl.out.more (by omega)) Ca.out (by omega)) ?_
          simp only [Act.put, nA, nB, nC]
          iterate 2 (refine Seq.pure rfl rfl (by intro w; go_simp; try rfl) ?_; simp only [Act.put, nA, nB, nC])
          refine Seq.load rfl rfl rfl rfl (by repeat (first | exact mC | apply mT)) (n := 3) rfl (by kernel_rfl) ?_
          simp only [Act.put, nA, nB, nC]
          refine Seq.pure rfl rfl (by intro w; go_simp; try rfl) ?_
          simp only [Act.put, nA, nB, nC]
          refine Seq.loadAt rfl rfl rfl rfl (by repeat (first | exact mC | apply mT)) (n := 3) (cs' := RC th) (Nat.le_of_ble_eq_true rfl) (by kernel_rfl) rfl ?_
          simp only [Act.put, nA, nB, nC]
          refine Seq.call rfl rfl rfl rfl (by kernel_rfl) (cmp_q (k := (1 * k + 2)) HT.out (Z_x.out.more (by omega)) (Z_th.out.more (by omega)) Cb.out (by omega)) ?_
          simp only [Act.put, nA, nB, nC]
          iterate 2 (refine Seq.pure rfl rfl (by intro w; go_simp; try rfl) ?_; simp only [Act.put, nA, nB, nC])
          refine Seq.done fun ws53 hws => ?_
          have HS53 := hws.st
          clear HS52 hws
          go_upto_region 10 with (fail)
          refine wp_seq_text [] (StR.no HS53) ?_
          refine Seq.pure (v := .int .i64 ((j + 1 : Nat) : Int)) rfl rfl (by intro w; go_simp <;> (first | (rw [HJ.out.2.2.2.2]; done) | exact HJ.out.2.2.2.2 | (simp [HJ.out.2.2.2.2]; done) | (trace_state; done))) ?_
          simp only [Act.put, nA, nB, nC]
          refine Seq.pure rfl rfl (by intro w; go_simp; try rfl) ?_
          simp only [Act.put, nA, nB, nC]
          refine Seq.done fun ws54 hws => ?_
          have HS54 := hws.st
          clear HS53 hws
          go_wp2_with fail
          go_roundg (4 - (j + 1))
          case measure => rw [HGK.out]; exact HJ.out.2.2.1
          case rel => exact ⟨j + 1, rfl, rfl, HJ.out.2.2.2.1, _, _, _, _, Lib.hid HE.out, Lib.hid hz.out, Lib.hid HS54.drop⟩
        · obtain ⟨va, hva, ra⟩ : ∃ v, cmpQ x tl = v ∧ decide (v < 0) = false := ⟨_, rfl, decide_eq_false (fun h => absurd ((cmpQ_lt _ _).1 h) (by grind))⟩
          have Ca := Lib.hid hva; clear hva
          obtain ⟨vb, hvb, rb, rb'⟩ : ∃ v, cmpQ x th = v ∧ decide (v > 0) = false ∧ decide (0 < v) = false := ⟨_, rfl, decide_eq_false (fun h => absurd ((cmpQ_gt _ _).1 h) (by grind)), decide_eq_false (fun h => absurd ((cmpQ_gt _ _).1 h) (by grind))⟩
          have Cb := Lib.hid hvb; clear hvb
          have HE := Lib.hid (show cst tl th (j + 1) = (minQ m (cosT false x), maxQ M (cosT false x), minQ n (sinT x), maxQ N (sinT x)) from by rw [cst_yes (by rw [HX.out]; unfold inI; exact decide_eq_true (by grind)), HX.out, hc.out])
          obtain ⟨c, hcx⟩ : ∃ c, cosT false x = c := ⟨_, rfl⟩
          obtain ⟨s, hsx⟩ : ∃ s, sinT x = s := ⟨_, rfl⟩
          have HCX := Lib.hid hcx
          have HSX := Lib.hid hsx
          rw [hcx, hsx] at HE
          have Z_c := Lib.hid (show Rz (8 * k + 10) c from hcx ▸ (Rz.cos_x HX.out Z_th.out))
          have Z_s := Lib.hid (show Rz (8 * k + 10) s from hsx ▸ (Rz.sin_x HX.out Z_th.out))
          clear hcx hsx
          go_upto_region 6 with (fail)
          refine wp_seq_text [] (StR.no HS52) ?_
          refine Seq.load rfl rfl rfl rfl (by repeat (first | exact mC | apply mT)) (n := 3) rfl (by kernel_rfl) ?_
          simp only [Act.put, nA, nB, nC]
          refine Seq.pure rfl rfl (by intro w; go_simp; try rfl) ?_
          simp only [Act.put, nA, nB, nC]
          refine Seq.loadAt rfl rfl rfl rfl (by repeat (first | exact mC | apply mT)) (n := 3) (cs' := RC tl) (Nat.le_of_ble_eq_true rfl) (by kernel_rfl) rfl ?_
          simp only [Act.put, nA, nB, nC]
          refine Seq.call rfl rfl rfl rfl (by kernel_rfl) (cmp_q (k := (1 * k + 2)) HT.out (Z_x.out.more (by omega)) (Z_tl.out.more (by omega)) Ca.out (by omega)) ?_
          simp only [Act.put, nA, nB, nC]
          iterate 2 (refine Seq.pure rfl rfl (by intro w; go_simp; try rfl) ?_; simp only [Act.put, nA, nB, nC])
          refine Seq.load rfl rfl rfl rfl (by repeat (first | exact mC | apply mT)) (n := 3) rfl (by kernel_rfl) ?_
          simp only [Act.put, nA, nB, nC]
          refine Seq.pure rfl rfl (by intro w; go_simp; try rfl) ?_
          simp only [Act.put, nA, nB, nC]
          refine Seq.loadAt rfl rfl rfl rfl (by repeat (first | exact mC | apply mT)) (n := 3) (cs' := RC th) (Nat.le_of_ble_eq_true rfl) (by kernel_rfl) rfl ?_
          simp only [Act.put, nA, nB, nC]
          refine Seq.call rfl rfl rfl rfl (by kernel_rfl) (cmp_q (k := (1 * k + 2)) HT.out (Z_x.out.more (by omega)) (Z_th.out.more (by omega)) Cb.out (by omega)) ?_
          simp only [Act.put, nA, nB, nC]
          iterate 2 (refine Seq.pure rfl rfl (by intro w; go_simp; try rfl) ?_; simp only [Act.put, nA, nB, nC])
          refine Seq.done fun ws53 hws => ?_
          have HS53 := hws.st
          clear HS52 hws
          go_upto_region 7 with (fail)
          refine wp_seq_text [] (StR.no HS53) ?_
          refine Seq.load rfl rfl rfl rfl (by repeat (first | exact mC | apply mT)) (n := 3) rfl (by kernel_rfl) ?_
          simp only [Act.put, nA, nB, nC]
          refine Seq.pure (v := .agg (TC false x)) rfl rfl (fun w => bld_Turn1 rfl rfl w) ?_
          simp only [Act.put, nA, nB, nC]
          refine Seq.call rfl rfl rfl rfl (by kernel_rfl) (cosine_w (k := (1 * k + 2)) (t_t := (rt x)) HT.out (RawT.rc (Z_x.out.more (by omega)))  HCX.out HSX.out (by omega) (by omega)) ?_
          simp only [Act.put, nA, nB, nC]
          refine Seq.pure rfl rfl (by intro w; go_simp; try rfl) ?_
          simp only [Act.put, nA, nB, nC]
          refine Seq.pure (v := .agg (RC c)) rfl rfl (fun w => rfl) ?_
          simp only [Act.put, nA, nB, nC]
          refine Seq.pure (v := .agg (RC s)) rfl rfl (fun w => rfl) ?_
          simp only [Act.put, nA, nB, nC]
          refine Seq.alloc rfl rfl rfl (z := .agg (RT.c rz0)) (by kernel_rfl) rfl ?_
          intro bk10 _ _ hbk10_r
          simp only [Act.put, nA, nB, nC]
          refine Seq.alloc rfl rfl rfl (z := .agg (RT.c rz0)) (by kernel_rfl) rfl ?_
          intro bk11 _ _ hbk11_r
          obtain ⟨ne_bk11_bk10, hbk11_r⟩ := Reg.ne_of_put hbk11_r
          have ne_bk10_bk11 := Ne.symm ne_bk11_bk10
          simp only [Act.put, nA, nB, nC]
          refine Seq.store rfl rfl rfl rfl rfl (by repeat (first | exact rS | refine rN (by assumption) ?_)) (n := 3) rfl rfl (by kernel_rfl) (RC_one _) ?_
          simp only [Act.put, nA, nB, nC]
          refine Seq.store rfl rfl rfl rfl rfl (by repeat (first | exact rS | refine rN (by assumption) ?_)) (n := 3) rfl rfl (by kernel_rfl) (RC_one _) ?_
          simp only [Act.put, nA, nB, nC]
          refine Seq.done fun ws54 hws => ?_
          have HS54 := hws.list2 (p := bk10) (q := bk11) (by repeat (first | exact rS | refine rN (by assumption) ?_)) (by repeat (first | exact rS | refine rN (by assumption) ?_)) (by assumption)
          clear HS53 hws
          go_upto_region 8 with (fail)
          have HPbk6 := HS54.f4
          refine wp_seq [2, 10] (by kernel_rfl) (by kernel_rfl) (Reg.fin.put Reg.fin_no _ _) (StR.move (StR.no HPbk6)) ?_
          refine Seq.pure rfl rfl (by intro w; go_simp; try rfl) ?_
          simp only [Act.put, nA, nB, nC]
          refine Seq.getAt rfl rfl rfl rfl (by repeat (first | exact rS | refine rN (by assumption) ?_)) (n := 3) (cs' := RC m) (Nat.le_of_ble_eq_true rfl) (by kernel_rfl) rfl ?_
          simp only [Act.put, nA, nB, nC]
          refine Seq.load rfl rfl rfl rfl (by repeat (first | exact mC | apply mT)) (n := 3) rfl (by kernel_rfl) ?_
          simp only [Act.put, nA, nB, nC]
          refine Seq.call rfl rfl rfl rfl (by kernel_rfl) (min_q (k := (8 * k + 10)) HT.out (Z_m.out.more (by omega)) (Z_c.out.more (by omega)) rfl (by omega)) ?_
          simp only [Act.put, nA, nB, nC]
          refine Seq.pure rfl rfl (by intro w; go_simp; try rfl) ?_
          simp only [Act.put, nA, nB, nC]
          refine Seq.getAt rfl rfl rfl rfl (by repeat (first | exact rS | refine rN (by assumption) ?_)) (n := 3) (cs' := RC M) (Nat.le_of_ble_eq_true rfl) (by kernel_rfl) rfl ?_
          simp only [Act.put, nA, nB, nC]
          refine Seq.load rfl rfl rfl rfl (by repeat (first | exact mC | apply mT)) (n := 3) rfl (by kernel_rfl) ?_
          simp only [Act.put, nA, nB, nC]
          refine Seq.call rfl rfl rfl rfl (by kernel_rfl) (max_q (k := (8 * k + 10)) HT.out (Z_M.out.more (by omega)) (Z_c.out.more (by omega)) rfl (by omega)) ?_
          simp only [Act.put, nA, nB, nC]
          refine Seq.pure (v := .agg (VC (minQ m c) (maxQ M c))) rfl rfl (fun w => bld_RSpan (x := (rt (minQ m c))) (y := (rt (maxQ M c))) rfl rfl rfl w) ?_
          simp only [Act.put, nA, nB, nC]
          refine Seq.store rfl rfl rfl rfl rfl (by repeat (first | exact rS | refine rN (by assumption) ?_)) (n := 6) rfl rfl (by kernel_rfl) (VC_one _ _) ?_
          simp only [Act.put, nA, nB, nC]
          refine Seq.done fun ws55 hws => ?_
          have HS55 := hws.list1 (p := bk6) (by repeat (first | exact rS | refine rN (by assumption) ?_))
          clear HS54 hws HPbk6
          go_upto_region 9 with (fail)
          have HPbk7 := HS55.f5
          refine wp_seq [2, 10] (by kernel_rfl) (by kernel_rfl) (Reg.fin.put Reg.fin_no _ _) (StR.move (StR.no HPbk7)) ?_
          refine Seq.pure rfl rfl (by intro w; go_simp; try rfl) ?_
          simp only [Act.put, nA, nB, nC]
          refine Seq.getAt rfl rfl rfl rfl (by repeat (first | exact rS | refine rN (by assumption) ?_)) (n := 3) (cs' := RC n) (Nat.le_of_ble_eq_true rfl) (by kernel_rfl) rfl ?_
          simp only [Act.put, nA, nB, nC]
          refine Seq.load rfl rfl rfl rfl (by repeat (first | exact mC | apply mT)) (n := 3) rfl (by kernel_rfl) ?_
          simp only [Act.put, nA, nB, nC]
          refine Seq.call rfl rfl rfl rfl (by kernel_rfl) (min_q (k := (8 * k + 10)) HT.out (Z_n.out.more (by omega)) (Z_s.out.more (by omega)) rfl (by omega)) ?_
          simp only [Act.put, nA, nB, nC]
          refine Seq.pure rfl rfl (by intro w; go_simp; try rfl) ?_
          simp only [Act.put, nA, nB, nC]
          refine Seq.getAt rfl rfl rfl rfl (by repeat (first | exact rS | refine rN (by assumption) ?_)) (n := 3) (cs' := RC N) (Nat.le_of_ble_eq_true rfl) (by kernel_rfl) rfl ?_
          simp only [Act.put, nA, nB, nC]
          refine Seq.load rfl rfl rfl rfl (by repeat (first | exact mC | apply mT)) (n := 3) rfl (by kernel_rfl) ?_
          simp only [Act.put, nA, nB, nC]
          refine Seq.call rfl rfl rfl rfl (by kernel_rfl) (max_q (k := (8 * k + 10)) HT.out (Z_N.out.more (by omega)) (Z_s.out.more (by omega)) rfl (by omega)) ?_
          simp only [Act.put, nA, nB, nC]
          refine Seq.pure (v := .agg (VC (minQ n s) (maxQ N s))) rfl rfl (fun w => bld_RSpan (x := (rt (minQ n s))) (y := (rt (maxQ N s))) rfl rfl rfl w) ?_
          simp only [Act.put, nA, nB, nC]
          refine Seq.store rfl rfl rfl rfl rfl (by repeat (first | exact rS | refine rN (by assumption) ?_)) (n := 6) rfl rfl (by kernel_rfl) (VC_one _ _) ?_
          simp only [Act.put, nA, nB, nC]
          refine Seq.done fun ws56 hws => ?_
          have HS56 := hws.list1 (p := bk7) (by repeat (first | exact rS | refine rN (by assumption) ?_))
          clear HS55 hws HPbk7
          go_upto_region 10 with (fail)
          refine wp_seq_text [] (StR.no HS56) ?_
          refine Seq.pure (v := .int .i64 ((j + 1 : Nat) : Int)) rfl rfl (by intro w; go_simp <;> (first | (rw [HJ.out.2.2.2.2]; done) | exact HJ.out.2.2.2.2 | (simp [HJ.out.2.2.2.2]; done) | (trace_state; done))) ?_
          simp only [Act.put, nA, nB, nC]
          refine Seq.pure rfl rfl (by intro w; go_simp; try rfl) ?_
          simp only [Act.put, nA, nB, nC]
          refine Seq.done fun ws57 hws => ?_
          have HS57 := hws.st
          clear HS56 hws
          go_wp2_with fail
          go_roundg (4 - (j + 1))
          case measure => rw [HGK.out]; exact HJ.out.2.2.1
          case rel => exact ⟨j + 1, rfl, rfl, HJ.out.2.2.2.1, _, _, _, _, Lib.hid HE.out, Lib.hid ⟨hz.out.1.min Z_c.out, hz.out.2.1.max Z_c.out, hz.out.2.2.1.min Z_s.out, hz.out.2.2.2.max Z_s.out⟩, Lib.hid HS57.f2.drop.f2.drop.f2.drop.f1.f2⟩
    · obtain rfl : j = 4 := by omega
      have HR := Lib.hid (show Ending.returned (.tuple #[.agg (VC m M), .agg (VC n N)]) = .returned (.tuple #[.agg (VC (cLo tl th) (cHi tl th)), .agg (VC (sLo tl th) (sHi tl th))]) from by have := (cst_end HLE.out).symm.trans hc.out; simp only [Prod.mk.injEq] at this; rw [this.1, this.2.1, this.2.2.1, this.2.2.2])
      go_upto_region 4 with (fail)
      refine wp_seq_text [] (StR.no HS0) ?_
      refine Seq.pure rfl rfl (by intro w; go_simp; try rfl) ?_
      simp only [Act.put, nA, nB, nC]
      refine Seq.done fun ws61 hws => ?_
      have HS61 := hws.st
      clear HS0 hws
      go_upto_region 11 with (fail)
      have HPbk3 := HS61.f7
      have HPbk2 := HPbk3.f7
      refine wp_seq [] (by kernel_rfl) (by kernel_rfl) (Reg.fin.put (Reg.fin.put Reg.fin_no _ _) _ _) (StR.move (StR.move (StR.no HPbk2))) ?_
      refine Seq.load rfl rfl rfl rfl (by repeat (first | exact mC | apply mT)) (n := 6) rfl (by kernel_rfl) ?_
      simp only [Act.put, nA, nB, nC]
      refine Seq.load rfl rfl rfl rfl (by repeat (first | exact mC | apply mT)) (n := 6) rfl (by kernel_rfl) ?_
      simp only [Act.put, nA, nB, nC]
      refine Seq.store rfl rfl rfl rfl rfl (by repeat (first | exact rS | refine rN (by assumption) ?_)) (n := 6) rfl rfl (by kernel_rfl) (VC_one _ _) ?_
      simp only [Act.put, nA, nB, nC]
      refine Seq.store rfl rfl rfl rfl rfl (by repeat (first | exact rS | refine rN (by assumption) ?_)) (n := 6) rfl rfl (by kernel_rfl) (VC_one _ _) ?_
      simp only [Act.put, nA, nB, nC]
      refine Seq.done fun ws62 hws => ?_
      have HS62 := hws.list2 (p := bk2) (q := bk3) (by repeat (first | exact rS | refine rN (by assumption) ?_)) (by repeat (first | exact rS | refine rN (by assumption) ?_)) (by assumption)
      clear HS61 hws HPbk3 HPbk2
      go_wp2_with fail
      exact ret_cells rfl rfl rfl rfl HS62 (by repeat (first | exact mC | apply mT)) (by repeat (first | exact mC | apply mT)) (n := 6) (n2 := 6) rfl rfl (by kernel_rfl) (by kernel_rfl) ⟨HR.out, HS62.below⟩
set_option maxHeartbeats 2000000 in
set_option maxRecDepth 20000 in
theorem pointOf_w {k : Nat} {p1 : Rat} {p2 : Rat} {p3 : Rat} {p4 : Rat} {p5 : Rat} {p6 : Rat} {v1 : Rat} {v1_g : Bool} {v1_t : RT} {v2 : Rat} {v2_g : Bool} {v2_t : RT} {z0 : Rat} {z1 : Rat} {z2 : Rat} {z3 : Rat} {W : World} {l : List Own} (hT : Tab W) (Zp1 : Rz k p1) (Zp2 : Rz k p2) (Zp3 : Rz k p3) (Zp4 : Rz k p4) (Zp5 : Rz k p5) (Zp6 : Rz k p6) (Zv1 : RawT k v1 v1_g v1_t) (Zv2 : RawT k v2 v2_g v2_t) (hle : p5 ≤ p6) (hz0 : bX0 p1 p5 p6 v1 v2 = z0) (hz1 : bX1 p2 p5 p6 v1 v2 = z1) (hz2 : bY0 p3 p5 p6 v1 v2 = z2) (hz3 : bY1 p4 p5 p6 v1 v2 = z3) (hk0 : 2 ≤ k) (hk : k ≤ 27777777776) (w : World) (h : St W l w) :
    Calls Tryd.prog 40 #[.agg (PW (rt p1) (rt p2) (rt p3) (rt p4) (rt p5) (rt p6)), .agg (SW v1_t v2_t)] w fun e w' => e = .returned (.agg (BC z0 z1 z2 z3)) ∧ Below w.heap.size w w' := by
  subst hz0
  subst hz1
  subst hz2
  subst hz3
  have HT := Lib.hid (tabS hT h); clear hT h
  have Z_p1 := Lib.hid Zp1; clear Zp1
  have Z_p2 := Lib.hid Zp2; clear Zp2
  have Z_p3 := Lib.hid Zp3; clear Zp3
  have Z_p4 := Lib.hid Zp4; clear Zp4
  have Z_p5 := Lib.hid Zp5; clear Zp5
  have Z_p6 := Lib.hid Zp6; clear Zp6
  have Z_v1 := Lib.hid Zv1; clear Zv1
  have Z_v2 := Lib.hid Zv2; clear Zv2
  obtain ⟨c0, hc0⟩ : ∃ c, cLo p5 p6 = c := ⟨_, rfl⟩
  obtain ⟨c1, hc1⟩ : ∃ c, cHi p5 p6 = c := ⟨_, rfl⟩
  obtain ⟨s0, hs0⟩ : ∃ c, sLo p5 p6 = c := ⟨_, rfl⟩
  obtain ⟨s1, hs1⟩ : ∃ c, sHi p5 p6 = c := ⟨_, rfl⟩
  have HCS := Lib.hid (show Ending.returned (.tuple #[.agg (VC (cLo p5 p6) (cHi p5 p6)), .agg (VC (sLo p5 p6) (sHi p5 p6))]) = .returned (.tuple #[.agg (VC c0 c1), .agg (VC s0 s1)]) from by rw [hc0, hc1, hs0, hs1])
  have HR := Lib.hid (show Ending.returned (.agg (BC (p1 + ((minQ (c0 * v1) (c1 * v1)) + (minQ (s0 * (-v2)) (s1 * (-v2))))) (p2 + ((maxQ (c0 * v1) (c1 * v1)) + (maxQ (s0 * (-v2)) (s1 * (-v2))))) (p3 + ((minQ (s0 * v1) (s1 * v1)) + (minQ (c0 * v2) (c1 * v2)))) (p4 + ((maxQ (s0 * v1) (s1 * v1)) + (maxQ (c0 * v2) (c1 * v2)))))) = .returned (.agg (BC (bX0 p1 p5 p6 v1 v2) (bX1 p2 p5 p6 v1 v2) (bY0 p3 p5 p6 v1 v2) (bY1 p4 p5 p6 v1 v2))) from by
    unfold bX0 bX1 bY0 bY1
    rw [hc0, hc1, hs0, hs1, mul_neg_min, mul_neg_max, ← Rat.sub_eq_add_neg, ← Rat.sub_eq_add_neg])
  have Z_c0 := Lib.hid (show Rz (8 * k + 10) c0 from hc0 ▸ Rz.cLo Z_p5.out Z_p6.out)
  have Z_c1 := Lib.hid (show Rz (8 * k + 10) c1 from hc1 ▸ Rz.cHi Z_p5.out Z_p6.out)
  have Z_s0 := Lib.hid (show Rz (8 * k + 10) s0 from hs0 ▸ sLo_rz Z_p5.out Z_p6.out)
  have Z_s1 := Lib.hid (show Rz (8 * k + 10) s1 from hs1 ▸ sHi_rz Z_p5.out Z_p6.out)
  clear hc0 hc1 hs0 hs1
  have HLE := Lib.hid hle; clear hle
  go_enter Tryd.func40, Tryd.ntmps40
  have HS : St w [] w := St.start
  go_upto_region 0 with (fail)
  refine wp_seq_text [] (StR.no HS) ?_
  refine Seq.box rfl rfl rfl (v := .agg (PW (rt p1) (rt p2) (rt p3) (rt p4) (rt p5) (rt p6))) (cs := PW (rt p1) (rt p2) (rt p3) (rt p4) (rt p5) (rt p6)) rfl rfl ?_
  intro bk2 _ _ hbk2_r
  simp only [Act.put, nA, nB, nC]
  refine Seq.box rfl rfl rfl (v := .agg (SW v1_t v2_t)) (cs := SW v1_t v2_t) rfl rfl ?_
  intro bk3 _ _ hbk3_r
  obtain ⟨ne_bk3_bk2, hbk3_r⟩ := Reg.ne_of_put hbk3_r
  have ne_bk2_bk3 := Ne.symm ne_bk3_bk2
  simp only [Act.put, nA, nB, nC]
  refine Seq.alloc rfl rfl rfl (z := .agg (BW rz0 rz0 rz0 rz0)) (by kernel_rfl) rfl ?_
  intro bk4 _ _ hbk4_r
  obtain ⟨ne_bk4_bk3, hbk4_r⟩ := Reg.ne_of_put hbk4_r
  have ne_bk3_bk4 := Ne.symm ne_bk4_bk3
  obtain ⟨ne_bk4_bk2, hbk4_r⟩ := Reg.ne_of_put hbk4_r
  have ne_bk2_bk4 := Ne.symm ne_bk4_bk2
  simp only [Act.put, nA, nB, nC]
  refine Seq.done fun ws1 hws => ?_
  have HS1 := hws.list3 (p := bk2) (q := bk3) (r := bk4) (by repeat (first | exact rS | refine rN (by assumption) ?_)) (by repeat (first | exact rS | refine rN (by assumption) ?_)) (by repeat (first | exact rS | refine rN (by assumption) ?_)) (by assumption) (by assumption) (by assumption)
  clear HS hws
  go_upto_region 1 with (fail)
  refine wp_seq_text [] (StR.no HS1) ?_
  refine Seq.pure rfl rfl (by intro w; go_simp; try rfl) ?_
  simp only [Act.put, nA, nB, nC]
  refine Seq.loadAt rfl rfl rfl rfl (by repeat (first | exact mC | apply mT)) (n := 6) (cs' := VC p5 p6) (Nat.le_of_ble_eq_true rfl) (by kernel_rfl) rfl ?_
  simp only [Act.put, nA, nB, nC]
  refine Seq.call rfl rfl rfl rfl (by kernel_rfl) (fun w h => (cosines_q (k := (1 * k + 2)) HT.out (Z_p5.out.more (by omega)) (Z_p6.out.more (by omega)) HLE.out (by omega) (by omega) w h).mono (fun e w2 hh => ⟨hh.1.trans HCS.out, hh.2⟩)) ?_
  simp only [Act.put, nA, nB, nC]
  refine Seq.pure rfl rfl (by intro w; go_simp; try rfl) ?_
  simp only [Act.put, nA, nB, nC]
  refine Seq.pure (v := .agg (VC c0 c1)) rfl rfl (fun w => rfl) ?_
  simp only [Act.put, nA, nB, nC]
  refine Seq.pure (v := .agg (VC s0 s1)) rfl rfl (fun w => rfl) ?_
  simp only [Act.put, nA, nB, nC]
  refine Seq.alloc rfl rfl rfl (z := .agg (SW rz0 rz0)) (by kernel_rfl) rfl ?_
  intro bk5 _ _ hbk5_r
  simp only [Act.put, nA, nB, nC]
  refine Seq.alloc rfl rfl rfl (z := .agg (SW rz0 rz0)) (by kernel_rfl) rfl ?_
  intro bk6 _ _ hbk6_r
  obtain ⟨ne_bk6_bk5, hbk6_r⟩ := Reg.ne_of_put hbk6_r
  have ne_bk5_bk6 := Ne.symm ne_bk6_bk5
  simp only [Act.put, nA, nB, nC]
  refine Seq.store rfl rfl rfl rfl rfl (by repeat (first | exact rS | refine rN (by assumption) ?_)) (n := 6) rfl rfl (by kernel_rfl) (VC_one _ _) ?_
  simp only [Act.put, nA, nB, nC]
  refine Seq.store rfl rfl rfl rfl rfl (by repeat (first | exact rS | refine rN (by assumption) ?_)) (n := 6) rfl rfl (by kernel_rfl) (VC_one _ _) ?_
  simp only [Act.put, nA, nB, nC]
  refine Seq.done fun ws2 hws => ?_
  have HS2 := hws.list2 (p := bk5) (q := bk6) (by repeat (first | exact rS | refine rN (by assumption) ?_)) (by repeat (first | exact rS | refine rN (by assumption) ?_)) (by assumption)
  clear HS1 hws
  go_upto_region 2 with (fail)
  have HPbk4 := HS2.f4
  refine wp_seq [] (by kernel_rfl) (by kernel_rfl) (Reg.fin.put Reg.fin_no _ _) (StR.move (StR.no HPbk4)) ?_
  refine Seq.pure rfl rfl (by intro w; go_simp; try rfl) ?_
  simp only [Act.put, nA, nB, nC]
  refine Seq.loadAt rfl rfl rfl rfl (by repeat (first | exact mC | apply mT)) (n := 6) (cs' := VC p1 p2) (Nat.le_of_ble_eq_true rfl) (by kernel_rfl) rfl ?_
  simp only [Act.put, nA, nB, nC]
  refine Seq.load rfl rfl rfl rfl (by repeat (first | exact mC | apply mT)) (n := 6) rfl (by kernel_rfl) ?_
  simp only [Act.put, nA, nB, nC]
  refine Seq.pure rfl rfl (by intro w; go_simp; try rfl) ?_
  simp only [Act.put, nA, nB, nC]
  refine Seq.loadAt rfl rfl rfl rfl (by repeat (first | exact mC | apply mT)) (n := 3) (cs' := RT.c v1_t) (Nat.le_of_ble_eq_true rfl) (by kernel_rfl) rfl ?_
  simp only [Act.put, nA, nB, nC]
  refine Seq.call rfl rfl rfl rfl (by kernel_rfl) (product_w (k := (8 * k + 10)) (t_t := v1_t) HT.out (Z_c0.out.more (by omega)) (Z_c1.out.more (by omega)) (Z_v1.out.more (by omega))  rfl rfl (by omega) (by omega)) ?_
  simp only [Act.put, nA, nB, nC]
  refine Seq.load rfl rfl rfl rfl (by repeat (first | exact mC | apply mT)) (n := 6) rfl (by kernel_rfl) ?_
  simp only [Act.put, nA, nB, nC]
  refine Seq.pure rfl rfl (by intro w; go_simp; try rfl) ?_
  simp only [Act.put, nA, nB, nC]
  refine Seq.loadAt rfl rfl rfl rfl (by repeat (first | exact mC | apply mT)) (n := 3) (cs' := RT.c v2_t) (Nat.le_of_ble_eq_true rfl) (by kernel_rfl) rfl ?_
  simp only [Act.put, nA, nB, nC]
  refine Seq.call rfl rfl rfl rfl (by kernel_rfl) (neg_w (k := (1 * k + 2)) HT.out (Z_v2.out.more (by omega)) rfl (by omega)) ?_
  simp only [Act.put, nA, nB, nC]
  refine Seq.call rfl rfl rfl rfl (by kernel_rfl) (product_w (k := (8 * k + 10)) (t_t := (rt (-v2))) HT.out (Z_s0.out.more (by omega)) (Z_s1.out.more (by omega)) (RawT.rc (Z_v2.out.rz.neg.more (by omega)))  rfl rfl (by omega) (by omega)) ?_
  simp only [Act.put, nA, nB, nC]
  refine Seq.call rfl rfl rfl rfl (by kernel_rfl) (plus_q (k := (9 * k + 10)) HT.out ((Rz.min (k := (9 * k + 10)) ((Z_c0.out.mul Z_v1.out.rz).more (by omega)) ((Z_c1.out.mul Z_v1.out.rz).more (by omega))).more (by omega)) ((Rz.max (k := (9 * k + 10)) ((Z_c0.out.mul Z_v1.out.rz).more (by omega)) ((Z_c1.out.mul Z_v1.out.rz).more (by omega))).more (by omega)) ((Rz.min (k := (9 * k + 10)) ((Z_s0.out.mul Z_v2.out.rz.neg).more (by omega)) ((Z_s1.out.mul Z_v2.out.rz.neg).more (by omega))).more (by omega)) ((Rz.max (k := (9 * k + 10)) ((Z_s0.out.mul Z_v2.out.rz.neg).more (by omega)) ((Z_s1.out.mul Z_v2.out.rz.neg).more (by omega))).more (by omega))  rfl rfl (by omega) (by omega)) ?_
  simp only [Act.put, nA, nB, nC]
  refine Seq.call rfl rfl rfl rfl (by kernel_rfl) (plus_q (k := (36 * k + 41)) HT.out (Z_p1.out.more (by omega)) (Z_p2.out.more (by omega)) (((Rz.min (k := (9 * k + 10)) ((Z_c0.out.mul Z_v1.out.rz).more (by omega)) ((Z_c1.out.mul Z_v1.out.rz).more (by omega))).add (Rz.min (k := (9 * k + 10)) ((Z_s0.out.mul Z_v2.out.rz.neg).more (by omega)) ((Z_s1.out.mul Z_v2.out.rz.neg).more (by omega)))).more (by omega)) (((Rz.max (k := (9 * k + 10)) ((Z_c0.out.mul Z_v1.out.rz).more (by omega)) ((Z_c1.out.mul Z_v1.out.rz).more (by omega))).add (Rz.max (k := (9 * k + 10)) ((Z_s0.out.mul Z_v2.out.rz.neg).more (by omega)) ((Z_s1.out.mul Z_v2.out.rz.neg).more (by omega)))).more (by omega))  rfl rfl (by omega) (by omega)) ?_
  simp only [Act.put, nA, nB, nC]
  refine Seq.pure rfl rfl (by intro w; go_simp; try rfl) ?_
  simp only [Act.put, nA, nB, nC]
  refine Seq.loadAt rfl rfl rfl rfl (by repeat (first | exact mC | apply mT)) (n := 6) (cs' := VC p3 p4) (Nat.le_of_ble_eq_true rfl) (by kernel_rfl) rfl ?_
  simp only [Act.put, nA, nB, nC]
  refine Seq.load rfl rfl rfl rfl (by repeat (first | exact mC | apply mT)) (n := 6) rfl (by kernel_rfl) ?_
  simp only [Act.put, nA, nB, nC]
  refine Seq.pure rfl rfl (by intro w; go_simp; try rfl) ?_
  simp only [Act.put, nA, nB, nC]
  refine Seq.loadAt rfl rfl rfl rfl (by repeat (first | exact mC | apply mT)) (n := 3) (cs' := RT.c v1_t) (Nat.le_of_ble_eq_true rfl) (by kernel_rfl) rfl ?_
  simp only [Act.put, nA, nB, nC]
  refine Seq.call rfl rfl rfl rfl (by kernel_rfl) (product_w (k := (8 * k + 10)) (t_t := v1_t) HT.out (Z_s0.out.more (by omega)) (Z_s1.out.more (by omega)) (Z_v1.out.more (by omega))  rfl rfl (by omega) (by omega)) ?_
  simp only [Act.put, nA, nB, nC]
  refine Seq.load rfl rfl rfl rfl (by repeat (first | exact mC | apply mT)) (n := 6) rfl (by kernel_rfl) ?_
  simp only [Act.put, nA, nB, nC]
  refine Seq.pure rfl rfl (by intro w; go_simp; try rfl) ?_
  simp only [Act.put, nA, nB, nC]
  refine Seq.loadAt rfl rfl rfl rfl (by repeat (first | exact mC | apply mT)) (n := 3) (cs' := RT.c v2_t) (Nat.le_of_ble_eq_true rfl) (by kernel_rfl) rfl ?_
  simp only [Act.put, nA, nB, nC]
  refine Seq.call rfl rfl rfl rfl (by kernel_rfl) (product_w (k := (8 * k + 10)) (t_t := v2_t) HT.out (Z_c0.out.more (by omega)) (Z_c1.out.more (by omega)) (Z_v2.out.more (by omega))  rfl rfl (by omega) (by omega)) ?_
  simp only [Act.put, nA, nB, nC]
  refine Seq.call rfl rfl rfl rfl (by kernel_rfl) (plus_q (k := (9 * k + 10)) HT.out ((Rz.min (k := (9 * k + 10)) ((Z_s0.out.mul Z_v1.out.rz).more (by omega)) ((Z_s1.out.mul Z_v1.out.rz).more (by omega))).more (by omega)) ((Rz.max (k := (9 * k + 10)) ((Z_s0.out.mul Z_v1.out.rz).more (by omega)) ((Z_s1.out.mul Z_v1.out.rz).more (by omega))).more (by omega)) ((Rz.min (k := (9 * k + 10)) ((Z_c0.out.mul Z_v2.out.rz).more (by omega)) ((Z_c1.out.mul Z_v2.out.rz).more (by omega))).more (by omega)) ((Rz.max (k := (9 * k + 10)) ((Z_c0.out.mul Z_v2.out.rz).more (by omega)) ((Z_c1.out.mul Z_v2.out.rz).more (by omega))).more (by omega))  rfl rfl (by omega) (by omega)) ?_
  simp only [Act.put, nA, nB, nC]
  refine Seq.call rfl rfl rfl rfl (by kernel_rfl) (plus_q (k := (36 * k + 41)) HT.out (Z_p3.out.more (by omega)) (Z_p4.out.more (by omega)) (((Rz.min (k := (9 * k + 10)) ((Z_s0.out.mul Z_v1.out.rz).more (by omega)) ((Z_s1.out.mul Z_v1.out.rz).more (by omega))).add (Rz.min (k := (9 * k + 10)) ((Z_c0.out.mul Z_v2.out.rz).more (by omega)) ((Z_c1.out.mul Z_v2.out.rz).more (by omega)))).more (by omega)) (((Rz.max (k := (9 * k + 10)) ((Z_s0.out.mul Z_v1.out.rz).more (by omega)) ((Z_s1.out.mul Z_v1.out.rz).more (by omega))).add (Rz.max (k := (9 * k + 10)) ((Z_c0.out.mul Z_v2.out.rz).more (by omega)) ((Z_c1.out.mul Z_v2.out.rz).more (by omega)))).more (by omega))  rfl rfl (by omega) (by omega)) ?_
  simp only [Act.put, nA, nB, nC]
  refine Seq.pure (v := .agg (BC (p1 + ((minQ (c0 * v1) (c1 * v1)) + (minQ (s0 * (-v2)) (s1 * (-v2))))) (p2 + ((maxQ (c0 * v1) (c1 * v1)) + (maxQ (s0 * (-v2)) (s1 * (-v2))))) (p3 + ((minQ (s0 * v1) (s1 * v1)) + (minQ (c0 * v2) (c1 * v2)))) (p4 + ((maxQ (s0 * v1) (s1 * v1)) + (maxQ (c0 * v2) (c1 * v2)))))) rfl rfl (fun w => bld_RBox (x := (rt (p1 + ((minQ (c0 * v1) (c1 * v1)) + (minQ (s0 * (-v2)) (s1 * (-v2))))))) (y := (rt (p2 + ((maxQ (c0 * v1) (c1 * v1)) + (maxQ (s0 * (-v2)) (s1 * (-v2))))))) (z := (rt (p3 + ((minQ (s0 * v1) (s1 * v1)) + (minQ (c0 * v2) (c1 * v2)))))) (u := (rt (p4 + ((maxQ (s0 * v1) (s1 * v1)) + (maxQ (c0 * v2) (c1 * v2)))))) rfl rfl rfl w) ?_
  simp only [Act.put, nA, nB, nC]
  refine Seq.store rfl rfl rfl rfl rfl (by repeat (first | exact rS | refine rN (by assumption) ?_)) (n := 12) rfl rfl (by kernel_rfl) (BC_one _ _ _ _) ?_
  simp only [Act.put, nA, nB, nC]
  refine Seq.done fun ws3 hws => ?_
  have HS3 := hws.list1 (p := bk4) (by repeat (first | exact rS | refine rN (by assumption) ?_))
  clear HS2 hws HPbk4
  go_wp2_with fail
  exact ret_own rfl rfl rfl HS3 (by repeat (first | exact mC | apply mT)) (n := 12) rfl (by kernel_rfl) ⟨HR.out, HS3.below⟩
end Go.Proofs.YtdhhbpnnahdofaaDoor
