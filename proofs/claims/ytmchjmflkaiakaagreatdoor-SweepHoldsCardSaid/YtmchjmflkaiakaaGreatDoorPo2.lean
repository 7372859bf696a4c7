/- Joined texts: PoL Po2. -/
import Derived.Test.YtmchjmflkaiakaaGreatDoorPo1
import Derived.Deep.LoopGhost
/- Plain laws of polygons. -/
namespace Go.Proofs.YtmchjmflkaiakaaGreatDoor
open Go.RowKit
set_option linter.unusedVariables false
set_option linter.unusedSimpArgs false

def mvx (c s tx ty x y : Rat) : Rat := tx + (x * c - y * s)
def mvy (c s tx ty x y : Rat) : Rat := ty + (x * s + y * c)
def mvP (c s tx ty : Rat) (ps : Pts) : Pts := ps.map fun p => (mvx c s tx ty p.1 p.2, mvy c s tx ty p.1 p.2)
theorem mvP_len (c s tx ty : Rat) (ps : Pts) : (mvP c s tx ty ps).length = ps.length := by simp [mvP]
theorem px_mv {c s tx ty : Rat} {ps : Pts} {i : Nat} (h : i < ps.length) : px (mvP c s tx ty ps) i = mvx c s tx ty (px ps i) (py ps i) := by
 simp [px, py, mvP, List.getD_eq_getElem?_getD, h]
theorem py_mv {c s tx ty : Rat} {ps : Pts} {i : Nat} (h : i < ps.length) : py (mvP c s tx ty ps) i = mvy c s tx ty (px ps i) (py ps i) := by
 simp [px, py, mvP, List.getD_eq_getElem?_getD, h]
def hasB (ps : Pts) (x y : Rat) : Bool := (List.range ps.length).all fun i => decide (0 ≤ lf (px ps i) (py ps i) (px ps ((i + 1) % ps.length)) (py ps ((i + 1) % ps.length)) x y)
def areaS (ps : Pts) : Nat → Rat
 | 0 => 0
 | i + 1 => areaS ps i + (px ps i * py ps ((i + 1) % ps.length) - py ps i * px ps ((i + 1) % ps.length))
def areaQ (ps : Pts) : Rat := (((1 : Int) : Rat) / ((2 : Int) : Rat)) * areaS ps ps.length
def mnF (f : Nat → Rat) : Nat → Rat
 | 0 => f 0
 | i + 1 => minQ (mnF f i) (f (i + 1))
def mxF (f : Nat → Rat) : Nat → Rat
 | 0 => f 0
 | i + 1 => maxQ (mxF f i) (f (i + 1))
def nxV (xs : List Int) (m : Nat) : Nat := match xs with | [] => 0 | x :: _ => belowN x m
theorem nxV_lt (xs : List Int) {m : Nat} (h : 0 < m) : nxV xs m < m := by
 cases xs with
 | nil => exact h
 | cons x xs => exact belowN_lt x h
def q4 (z : Int) : Rat := mkRat z 4
def shape (w h c x : Nat) : Pts :=
 if c = 0 then [(q4 (-(w : Int)), q4 (-(h : Int))), (q4 w, q4 (-(h : Int))), (q4 w, q4 h), (q4 (-(w : Int)), q4 h)]
 else if c = 1 then [(q4 (-(w : Int)), q4 (-(h : Int))), (q4 w, q4 (-(h : Int))), (q4 ((x : Int) - w), q4 h)]
 else if c = 2 then [(q4 (-(w : Int) - 1), q4 (-(h : Int) - 1)), (q4 w, q4 (-(h : Int) - 1)), (q4 (w + 1), q4 (-(h : Int))), (q4 (w + 1), q4 h), (q4 (-(w : Int) - 1), q4 h)]
 else [(q4 (-(w : Int)), q4 0), (q4 0, q4 (-(h : Int))), (q4 w, q4 0), (q4 0, q4 h)]
def cvxB (ps : Pts) : Bool := (List.range ps.length).all fun i => (List.range ps.length).all fun k => decide (k < 2) || decide (0 < lfp ps i ((i + 1) % ps.length) ((i + k) % ps.length))
theorem cvx_of {ps : Pts} (h : cvxB ps = true) : Cvx ps := by
 unfold cvxB at h
 simp only [List.all_eq_true, List.mem_range, Bool.or_eq_true, decide_eq_true_eq] at h
 intro i hi k h2 hk
 rcases h i hi k hk with h3 | h3
 ·omega
 ·exact h3
def polyQ (xs : List Int) : Pts := shape (1 + nxV xs 6) (1 + nxV xs.tail 6) (nxV xs.tail.tail 4) (nxV xs.tail.tail.tail (2 * (1 + nxV xs 6) + 1))
def shapesOK : Bool := (List.range 6).all fun w => (List.range 6).all fun h => (List.range 13).all fun x => cvxB (shape (1 + w) (1 + h) 0 x) && cvxB (shape (1 + w) (1 + h) 1 x) && cvxB (shape (1 + w) (1 + h) 2 x) && cvxB (shape (1 + w) (1 + h) 3 x)
set_option maxRecDepth 100000 in
theorem shapes_ok : shapesOK = true := by decide +kernel
theorem shape_cvx {w h c x : Nat} (hw : w < 6) (hh : h < 6) (hx : x < 13) : Cvx (shape (1 + w) (1 + h) c x) := by
 have H := shapes_ok
 simp only [shapesOK, List.all_eq_true, List.mem_range, Bool.and_eq_true] at H
 obtain ⟨⟨⟨h0, h1⟩, h2⟩, h3⟩ := H w hw h hh x hx
 by_cases c0 : c = 0
 ·subst c0; exact cvx_of h0
 ·by_cases c1 : c = 1
  ·subst c1; exact cvx_of h1
  ·by_cases c2 : c = 2
   ·subst c2; exact cvx_of h2
   ·have e : shape (1 + w) (1 + h) c x = shape (1 + w) (1 + h) 3 x := by simp [shape, c0, c1, c2]
    rw [e]; exact cvx_of h3
theorem polyQ_cvx (xs : List Int) : Cvx (polyQ xs) := by
 have h1 := nxV_lt xs (show 0 < 6 by omega)
 have h2 := nxV_lt xs.tail (show 0 < 6 by omega)
 have h3 := nxV_lt xs.tail.tail.tail (show 0 < 2 * (1 + nxV xs 6) + 1 by omega)
 exact shape_cvx h1 h2 (by omega)
theorem shape_len (w h c x : Nat) : 3 ≤ (shape w h c x).length ∧ (shape w h c x).length ≤ 5 := by
 unfold shape
 split
 ·simp
 ·split
  ·simp
  ·split <;> simp
set_option maxHeartbeats 2000000 in
set_option maxRecDepth 20000 in
theorem convex_q {k n : Nat} {ps : Pts} {W : World} {l : List Own} (hT : Tab W) (hz : Pz k ps) (hl : ps.length = n) (hcv : 3 ≤ n ∧ n ≤ 64 ∧ Cvx ps) (hk : k ≤ 100000000000) (g : Nat) (w : World) (h : St W l w) (hg : Blk w g 29 (PC ps)) :
  Calls Tryz.prog 55 #[.slice (some ⟨g, 0, none⟩) n n] w fun e w' => e = .returned (.int .i64 0) ∧ Below w.heap.size w w' := by
 have HT := Lib.hid (tabS hT h); clear hT h
 have HG := Lib.hid hg; clear hg
 have HL := Lib.hid hl; clear hl
 have HNZ := Lib.hid (show ¬ n = 0 by have := hcv.1; omega)
 have HZP := Lib.hid (show Pz (1 * k + 0) ps by rw [Nat.one_mul]; exact hz); clear hz
 have HCV := Lib.hid hcv; clear hcv
 go_enter Tryz.func55, Tryz.ntmps55
 have HS : St w [] w := St.start
 go_upto_region 0 with (fail)
 refine rgT [] HS ?_
 refine pU ?_
 refine Seq.done fun ws1 hws => ?_
 have HS1 := hws.st
 clear HS hws
 go_upto_region 1 with (fail)
 refine rgT [] HS1 ?_
 refine pU ?_
 refine cX rfl rfl (fun w h => check_q (k := 1 * k + 0) (most := 64) HT.out HZP.out HL.out HCV.out.1 (by have := HCV.out.2.1; omega) (by omega) HCV.out.2.2 (by omega) _ w h (h.came HG.out)) ?_
 refine pU ?_
 refine Seq.done fun ws2 hws => ?_
 have HS2 := hws.st
 clear HS1 hws
 go_wp2_with fail
 go_ret
 exact ⟨rfl, HS2.below⟩
def hasAt (ps : Pts) (x y : Rat) (i : Nat) : Bool := decide (0 ≤ lf (px ps i) (py ps i) (px ps ((i + 1) % ps.length)) (py ps ((i + 1) % ps.length)) x y)
theorem hasB_at {ps : Pts} {x y : Rat} : hasB ps x y = true ↔ ∀ i, i < ps.length → hasAt ps x y i = true := by
 unfold hasB
 rw [List.all_eq_true]
 exact ⟨fun h i hi => h i (List.mem_range.2 hi), fun h i hi => h i (List.mem_range.1 hi)⟩
def fz (k : Nat) : Nat → Nat
 | 0 => 2
 | i + 1 => 2 * fz k i + 16 * k + 100
theorem fz_mono (k : Nat) {i j : Nat} (h : i ≤ j) : fz k i ≤ fz k j := by
 induction h with
 | refl => exact Nat.le_refl _
 | step h ih => simp only [fz]; omega
theorem fz_le {k i : Nat} (hk : k ≤ 100000) (hi : i ≤ 16) : fz k i ≤ 1000000000000 := by
 have h := fz_mono k hi
 have e : fz k 16 ≤ 1000000000000 := by simp only [fz]; omega
 omega
set_option maxHeartbeats 4000000 in
set_option maxRecDepth 20000 in
theorem area_q {k n : Nat} {ps : Pts} {W : World} {l : List Own} (hT : Tab W) (hz : Pz k ps) (hl : ps.length = n) (hcv : 3 ≤ n ∧ n ≤ 16 ∧ Cvx ps) (hk : k ≤ 100000) (g : Nat) (w : World) (h : St W l w) (hg : Blk w g 29 (PC ps)) :
  Calls Tryz.prog 57 #[.slice (some ⟨g, 0, none⟩) n n] w fun e w' => e = .returned (.agg (RC (areaQ ps))) ∧ Below w.heap.size w w' := by
 have HT := Lib.hid (tabS hT h); clear hT h
 have HG := Lib.hid hg; clear hg
 have HL := Lib.hid hl; clear hl
 have HNZ := Lib.hid (show ¬ n = 0 by have := hcv.1; omega)
 have HZP := Lib.hid (show Pz (1 * k + 0) ps by rw [Nat.one_mul]; exact hz); clear hz
 have HKN := Lib.hid (show k ≤ 100000 ∧ n ≤ 16 from ⟨hk, hcv.2.1⟩)
 have hcv : 3 ≤ n ∧ n ≤ 64 ∧ Cvx ps := ⟨hcv.1, by omega, hcv.2.2⟩
 have HCV := Lib.hid hcv; clear hcv hk
 go_enter Tryz.func57, Tryz.ntmps57
 have HS : St w [] w := St.start
 go_upto_region 0 with (fail)
 refine rgT [] HS ?_
 refine aL3 ?_
 intro bk2 _ _ hbk2_r
 refine nZ ?_
 refine Seq.done fun ws1 hws => ?_
 have HS1 := hws.q1 (p := bk2)
 clear HS hws
 go_upto_region 1 with (fail)
 refine rgT [] HS1 ?_
 refine cX rfl rfl (of_q HT.out (by omega) (by omega) (show ((0 : Int) : Rat) = (0 : Rat) from rfl)) ?_
 refine aL3 ?_
 intro bk3 _ _ hbk3_r
 refine nZ ?_
 refine sV (RC_one _) ?_
 refine Seq.done fun ws2 hws => ?_
 have HS2 := hws.q1 (p := bk3)
 clear HS1 hws
 go_upto_region 2 with (fail)
 refine rgT [] HS2 ?_
 refine pU ?_
 refine cX rfl rfl (fun w h => convex_q (k := (1 * k + 0)) HT.out (HZP.out.more (by omega)) HL.out HCV.out (by have := HKN.out.1; omega) _ w h (h.came HG.out)) ?_
 refine pU ?_
 refine Seq.done fun ws3 hws => ?_
 have HS3 := hws.st
 clear HS2 hws
 go_upto_region 4 with (fail)
 refine rgT [] HS3 ?_
 refine pU ?_
 refine pV (.int .i64 (n : Int)) (by intro w; go_simp; try rfl) ?_
 refine pU ?_
 refine Seq.done fun ws4 hws => ?_
 have HS4 := hws.st
 clear HS3 hws
 go_wp2_with fail
 go_loopg [15] n (fun kk s15 wr => ∃ i : Nat, kk = n - i ∧ s15 = .int .i64 (i : Int) ∧ i ≤ n ∧ Hid (Rz (fz k i) (areaS ps i)) ∧ Hid (St w [(bk3, 27, RC (areaS ps i)), (bk2, 27, #[.bool false, .string ⟨#[]⟩, .string ⟨#[]⟩])] wr))
 case atStart => exact ⟨0, rfl, rfl, by omega, Lib.hid Rz.zero2, Lib.hid HS4⟩
 case round =>
  obtain ⟨i, hgk, rfl, hin, hZ, hS⟩ := hrel
  have HGK := Lib.hid hgk; clear hgk
  have HR := hS.out; clear hS
  have HZS := Lib.hid (show Rz (0 * k + 1000000000000) (areaS ps i) from hZ.out.more (by have := fz_le HKN.out.1 (show i ≤ 16 by have := HKN.out.2; omega); omega))
  by_cases hc : i < n
  ·have hc' := hc
   obtain ⟨i1, hi1⟩ : ∃ i1 : Nat, i1 = i + 1 := ⟨_, rfl⟩
   obtain ⟨j, hj⟩ : ∃ j : Nat, j = i1 % n := ⟨_, rfl⟩
   have hn64 : n ≤ 64 := HCV.out.2.1
   have HI1 := Lib.hid (show IntKind.i64.wrap ((i : Int) + 1) = (i1 : Int) ∧ n - i1 < n - i ∧ i1 ≤ n ∧ (i1 : Int).tmod (n : Int) = (j : Int) ∧ j < n from ⟨by rw [i64_s _ (by omega) (by omega)]; omega, by omega, by omega, by rw [hj]; exact Int.tmod_eq_emod_of_nonneg (by omega), by rw [hj]; exact Nat.mod_lt _ (by omega)⟩)
   have HC := Lib.hid hc
   clear hc hn64
   have hS1 : areaS ps i + (px ps i * py ps j - py ps i * px ps j) = areaS ps i1 := by rw [hj, hi1]; simp only [areaS]; rw [HL.out]
   have hx := HZP.out.x (lt_of_pts HL.out HC.out)
   have hy := HZP.out.y (lt_of_pts HL.out HC.out)
   have hx2 := HZP.out.x (lt_of_pts HL.out HI1.out.2.2.2.2)
   have hy2 := HZP.out.y (lt_of_pts HL.out HI1.out.2.2.2.2)
   have hzn : Rz (fz k i1) (areaS ps i1) := by
    rw [← hS1, hi1]
    simp only [fz]
    exact (hZ.out.add ((hx.mul hy2).sub (hy.mul hx2))).more (by omega)
   have HZS1 := Lib.hid (show Rz (0 * k + 1000000000000) (areaS ps i1) from hzn.more (by have := fz_le HKN.out.1 (show i1 ≤ 16 by have := HKN.out.2; omega); omega))
   have HZN := Lib.hid (Lib.hid hzn)
   have HE := Lib.hid hS1
   clear hS1 hx hy hx2 hy2 hzn hi1 hj hin hc' hZ
   go_upto_region 5 with (fail)
   refine rgT [] HR ?_
   refine pV (.bool true) (by intro w; go_simp <;> (first | (rw [HC.out]; done) | exact HC.out | (simp [HC.out]; done) | (trace_state; done))) ?_
   refine Seq.done fun ws5 hws => ?_
   have HS5 := hws.st
   clear HR hws
   go_upto_region 6 with (fail)
   refine rgT [] HS5 ?_
   refine pU ?_
   refine Seq.index (m := 6) i rfl rfl rfl rfl rfl (by kernel_rfl) rfl HC.out (nZ ?_)
   refine Seq.loadAtF rfl rfl rfl rfl HG.out (n := 6) (cs' := VC (px ps i) (py ps i)) (PC_room (lt_of_pts HL.out HC.out)) (by kernel_rfl) (PC_at (lt_of_pts HL.out HC.out)) (nZ ?_)
   refine aL6 ?_
   intro bk5 _ _ hbk5_r
   refine nZ ?_
   refine pU ?_
   refine sV (VC_one _ _) ?_
   refine Seq.done fun ws6 hws => ?_
   have HS6 := hws.q1 (p := bk5)
   clear HS5 hws
   go_upto_region 7 with (fail)
   have HPbk3 := HS6.p1
   refine wS [0] (Reg.fin.put Reg.fin_no _ _) (StR.move (StR.no HPbk3)) ?_
   refine gV ?_
   refine lV ?_
   iterate 2 refine pU ?_
   refine pV (.int .i64 (i1 : Int)) (by intro w; go_simp <;> (first | (rw [HI1.out.1]; done) | exact HI1.out.1 | (simp [HI1.out.1]; done) | (trace_state; done))) ?_
   refine pU ?_
   refine pV (.int .i64 (n : Int)) (by intro w; go_simp; try rfl) ?_
   refine pV (.int .i64 (j : Int)) (by intro w; go_simp <;> (first | (rw [HNZ.out]; done) | (rw [HI1.out.2.2.2.1]; done) | exact HNZ.out | exact HI1.out.2.2.2.1 | (simp [HNZ.out, HI1.out.2.2.2.1]; done) | (trace_state; done))) ?_
   refine Seq.index (m := 6) j rfl rfl rfl rfl rfl (by kernel_rfl) rfl HI1.out.2.2.2.2 (nZ ?_)
   refine Seq.loadAtF rfl rfl rfl rfl HG.out (n := 6) (cs' := VC (px ps j) (py ps j)) (PC_room (lt_of_pts HL.out HI1.out.2.2.2.2)) (by kernel_rfl) (PC_at (lt_of_pts HL.out HI1.out.2.2.2.2)) (nZ ?_)
   refine cX rfl rfl (cross_q (k := (1 * k + 0)) HT.out ((HZP.out.x (lt_of_pts HL.out HC.out)).more (by have := HKN.out.1; omega)) ((HZP.out.y (lt_of_pts HL.out HC.out)).more (by have := HKN.out.1; omega)) ((HZP.out.x (lt_of_pts HL.out HI1.out.2.2.2.2)).more (by have := HKN.out.1; omega)) ((HZP.out.y (lt_of_pts HL.out HI1.out.2.2.2.2)).more (by have := HKN.out.1; omega))  rfl (by have := HKN.out.1; omega)) ?_
   refine cX rfl rfl (add_q (k := (8 * k + 1000000000000)) HT.out (HZS.out.more (by have := HKN.out.1; omega)) ((((HZP.out.x (lt_of_pts HL.out HC.out)).mul (HZP.out.y (lt_of_pts HL.out HI1.out.2.2.2.2))).sub ((HZP.out.y (lt_of_pts HL.out HC.out)).mul (HZP.out.x (lt_of_pts HL.out HI1.out.2.2.2.2)))).more (by have := HKN.out.1; omega)) HE.out (by have := HKN.out.1; omega)) ?_
   refine sV (RC_one _) ?_
   refine Seq.done fun ws7 hws => ?_
   have HS7 := hws.q1 (p := bk3)
   clear HS6 hws HPbk3
   go_upto_region 8 with (fail)
   refine rgT [] HS7 ?_
   refine pV (.int .i64 (i1 : Int)) (by intro w; go_simp <;> (first | (rw [HI1.out.1]; done) | exact HI1.out.1 | (simp [HI1.out.1]; done) | (trace_state; done))) ?_
   refine pU ?_
   refine Seq.done fun ws8 hws => ?_
   have HS8 := hws.st
   clear HS7 hws
   go_wp2_with fail
   go_roundg (n - i1)
   case measure => rw [HGK.out]; exact HI1.out.2.1
   case rel => exact ⟨i1, rfl, rfl, HI1.out.2.2.1, HZN.out, Lib.hid (HS8.sub (.cons_cons _ (.cons _ (.refl _))))⟩
  ·obtain ⟨hf, eh⟩ : ∃ z, ((1 : Int) : Rat) / ((2 : Int) : Rat) = z := ⟨_, rfl⟩
   obtain ⟨ar, ear⟩ : ∃ z, areaQ ps = z := ⟨_, rfl⟩
   have Z_hf := Lib.hid (show Rz 4 hf from eh ▸ num_s 1 2 (by decide) (by decide) (by decide))
   have HE := Lib.hid (show hf * areaS ps i = ar by rw [← ear, ← eh]; unfold areaQ; rw [HL.out, show i = n by omega])
   have HAR := Lib.hid ear
   have EH := Lib.hid eh; clear eh ear
   have HC := Lib.hid (show n ≤ i by omega)
   clear hc hin hZ
   go_upto_region 5 with (fail)
   refine rgT [] HR ?_
   refine pV (.bool false) (by intro w; go_simp <;> (first | (rw [HC.out]; done) | exact HC.out | (simp [HC.out]; done) | (trace_state; done))) ?_
   refine Seq.done fun ws5 hws => ?_
   have HS5 := hws.st
   clear HR hws
   go_upto_region 9 with (fail)
   refine rgT [] HS5 ?_
   refine cX rfl rfl (make_q HT.out (by have := HKN.out.1; omega) (by have := HKN.out.1; omega) (by have := HKN.out.1; omega) (by have := HKN.out.1; omega) (by have := HKN.out.1; omega) EH.out) ?_
   refine pU ?_
   refine pV (.agg (RC hf)) (fun w => rfl) ?_
   refine pV (.int .i64 0) (fun w => rfl) ?_
   refine aL3 ?_
   intro bk6 _ _ hbk6_r
   refine nZ ?_
   refine sV (RC_one _) ?_
   refine pU ?_
   refine Seq.done fun ws6 hws => ?_
   have HS6 := hws.q1 (p := bk6)
   clear HS5 hws
   go_upto_region 10 with (fail)
   have HPbk2 := HS6.p2
   refine wp_seq_text [] (StR.move (StR.no HPbk2)) ?_
   refine lV ?_
   refine lV ?_
   refine cX rfl rfl (mul_q (k := 1000000000000) HT.out (Z_hf.out.more (by have := HKN.out.1; omega)) (HZS.out.more (by have := HKN.out.1; omega)) HE.out (by have := HKN.out.1; omega)) ?_
   refine sV (RC_one _) ?_
   refine Seq.done fun ws7 hws => ?_
   have HS7 := hws.q1 (p := bk2)
   clear HS6 hws HPbk2
   go_wp2_with fail
   exact ret_own rfl rfl rfl HS7 (by repeat first|exact mC|apply mT) (n := 3) rfl (by kernel_rfl) ⟨by rw [HAR.out], HS7.below⟩
end Go.Proofs.YtmchjmflkaiakaaGreatDoor
