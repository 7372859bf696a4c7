/- Joined texts: PoL Po2 Po3. -/
import Derived.Test.YtmchjmflkaiakaaGreatDoorPo1
import Derived.Deep.LoopGhost
/- Plain laws of polygons. -/
namespace Go.Proofs.YtmchjmflkaiakaaGreatDoor
open Go.RowKit
set_option linter.unusedVariables false
set_option linter.unusedSimpArgs false
def areaS (ps : Pts) : Nat → Rat
 | 0 => 0
 | i + 1 => areaS ps i + (px ps i * py ps ((i + 1) % ps.length) - py ps i * px ps ((i + 1) % ps.length))
def areaQ (ps : Pts) : Rat := (((1 : Int) : Rat) / ((2 : Int) : Rat)) * areaS ps ps.length
def mnF (f : Nat → Rat) : Nat → Rat
 | 0 => f 0
 | i + 1 => minQ (mnF f i) (f (i + 1))
def mxF (f : Nat → Rat) : Nat → Rat
 | 0 => f 0
 | i + 1 => maxQ (mxF f i) (f (i + 1))
def q4 (z : Int) : Rat := mkRat z 4
def cvxB (ps : Pts) : Bool := (List.range ps.length).all fun i => (List.range ps.length).all fun k => decide (k < 2) || decide (0 < lfp ps i ((i + 1) % ps.length) ((i + k) % ps.length))
theorem cvx_of {ps : Pts} (h : cvxB ps = true) : Cvx ps := by
 unfold cvxB at h
 simp only [List.all_eq_true, List.mem_range, Bool.or_eq_true, decide_eq_true_eq] at h
 intro i hi k h2 hk
 rcases h i hi k hk with h3 | h3
 ·omega
 ·exact h3
set_option maxHeartbeats 4000000
set_option maxRecDepth 20000
theorem convex_q {k n : Nat} {ps : Pts} {W : World} {l : List Own} (hT : Tab W) (hz : Pz k ps) (hl : ps.length = n) (hcv : 3 ≤ n ∧ n ≤ 64 ∧ Cvx ps) (hk : k ≤ 100000000000) (g : Nat) (w : World) (h : St W l w) (hg : Blk w g 29 (PC ps)) :
  Calls Tryz.prog 55 #[.slice (some ⟨g, 0, none⟩) n n] w fun e w' => e = .returned (.int .i64 0) ∧ Below w.heap.size w w' := by
 have HT := Lib.hid (tabS hT h); clear hT h
 have HG := Lib.hid hg; clear hg
 have HL := Lib.hid hl; clear hl
 have HNZ := Lib.hid (show ¬ n = 0 by have := hcv.1; omega)
 have HZP := Lib.hid (show Pz (1 * k + 0) ps by rw [Nat.one_mul]; exact hz); clear hz
 have HCV := Lib.hid hcv; clear hcv
 go_enter Tryz.func55, Tryz.ntmps55
 have HS : St w [] w := St.start
 go_upto_region 0 with fail
 refine rgT [] HS ?_
 refine pU ?_
 refine dS fun _ HS1=>?_
 clear HS
 go_upto_region 1 with fail
 refine rgT [] HS1 ?_
 refine pU ?_
 refine cX rfl rfl (fun w h => check_q (k := 1 * k + 0) (most := 64) HT.out HZP.out HL.out HCV.out.1 (by have := HCV.out.2.1; omega) (by omega) HCV.out.2.2 (by omega) _ w h (h.came HG.out)) ?_
 refine pU ?_
 refine dS fun _ HS2=>?_
 clear HS1
 go_wp2_with fail
 go_ret
 exact ⟨rfl, HS2.below⟩
def fz (k : Nat) : Nat → Nat
 | 0 => 2
 | i + 1 => 2 * fz k i + 16 * k + 100
theorem fz_mono (k : Nat) {i j : Nat} (h : i ≤ j) : fz k i ≤ fz k j := by
 induction h with
 | refl => exact Nat.le_refl _
 | step h ih => simp only [fz]; omega
theorem fz_le {k i : Nat} (hk : k ≤ 100000) (hi : i ≤ 16) : fz k i ≤ 1000000000000 := by
 have h := fz_mono k hi
 have e : fz k 16 ≤ 1000000000000 := by simp only [fz]; omega
 omega
theorem area_q {k n : Nat} {ps : Pts} {W : World} {l : List Own} (hT : Tab W) (hz : Pz k ps) (hl : ps.length = n) (hcv : 3 ≤ n ∧ n ≤ 16 ∧ Cvx ps) (hk : k ≤ 100000) (g : Nat) (w : World) (h : St W l w) (hg : Blk w g 29 (PC ps)) :
  Calls Tryz.prog 57 #[.slice (some ⟨g, 0, none⟩) n n] w fun e w' => e = .returned (.agg (RC (areaQ ps))) ∧ Below w.heap.size w w' := by
 have HT := Lib.hid (tabS hT h); clear hT h
 have HG := Lib.hid hg; clear hg
 have HL := Lib.hid hl; clear hl
 have HNZ := Lib.hid (show ¬ n = 0 by have := hcv.1; omega)
 have HZP := Lib.hid (show Pz (1 * k + 0) ps by rw [Nat.one_mul]; exact hz); clear hz
 have HKN := Lib.hid (show k ≤ 100000 ∧ n ≤ 16 from ⟨hk, hcv.2.1⟩)
 have hcv : 3 ≤ n ∧ n ≤ 64 ∧ Cvx ps := ⟨hcv.1, by omega, hcv.2.2⟩
 have HCV := Lib.hid hcv; clear hcv hk
 go_enter Tryz.func57, Tryz.ntmps57
 have HS : St w [] w := St.start
 go_upto_region 0 with fail
 refine rgT [] HS ?_
 refine aL3 ?_
 intro bk2 _ _ hbk2_r
 refine nZ ?_
 refine d1 bk2 fun _ HS1=>?_
 clear HS
 go_upto_region 1 with fail
 refine rgT [] HS1 ?_
 refine cX rfl rfl (of_q HT.out (by omega) (by omega) (show ((0 : Int) : Rat) = (0 : Rat) from rfl)) ?_
 refine aL3 ?_
 intro bk3 _ _ hbk3_r
 refine nZ ?_
 refine sV (RC_one _) ?_
 refine d1 bk3 fun _ HS2=>?_
 clear HS1
 go_upto_region 2 with fail
 refine rgT [] HS2 ?_
 refine pU ?_
 refine cX rfl rfl (fun w h => convex_q (k := (1 * k + 0)) HT.out (HZP.out.more (by omega)) HL.out HCV.out (by have := HKN.out.1; omega) _ w h (h.came HG.out)) ?_
 refine pU ?_
 refine dS fun _ HS3=>?_
 clear HS2
 go_upto_region 4 with fail
 refine rgT [] HS3 ?_
 refine pU ?_
 refine pV (.int .i64 (n : Int)) (by intro w; go_simp; try rfl) ?_
 refine pU ?_
 refine dS fun _ HS4=>?_
 clear HS3
 go_wp2_with fail
 go_loopg [15] n (fun kk s15 wr => ∃ i : Nat, kk = n - i ∧ s15 = .int .i64 (i : Int) ∧ i ≤ n ∧ Hid (Rz (fz k i) (areaS ps i)) ∧ Hid (St w [(bk3, 27, RC (areaS ps i)), (bk2, 27, #[.bool false, .string ⟨#[]⟩, .string ⟨#[]⟩])] wr))
 case atStart => exact ⟨0, rfl, rfl, by omega, Lib.hid Rz.zero2, Lib.hid HS4⟩
 case round =>
  obtain ⟨i, hgk, rfl, hin, hZ, hS⟩ := hrel
  have HGK := Lib.hid hgk; clear hgk
  have HR := hS.out; clear hS
  have HZS := Lib.hid (show Rz (0 * k + 1000000000000) (areaS ps i) from hZ.out.more (by have := fz_le HKN.out.1 (show i ≤ 16 by have := HKN.out.2; omega); omega))
  by_cases hc : i < n
  ·have hc' := hc
   obtain ⟨i1, hi1⟩ : ∃ i1 : Nat, i1 = i + 1 := ⟨_, rfl⟩
   obtain ⟨j, hj⟩ : ∃ j : Nat, j = i1 % n := ⟨_, rfl⟩
   have hn64 : n ≤ 64 := HCV.out.2.1
   have HI1 := Lib.hid (show IntKind.i64.wrap ((i : Int) + 1) = (i1 : Int) ∧ n - i1 < n - i ∧ i1 ≤ n ∧ (i1 : Int).tmod (n : Int) = (j : Int) ∧ j < n from ⟨by rw [i64_s _ (by omega) (by omega)]; omega, by omega, by omega, by rw [hj]; exact Int.tmod_eq_emod_of_nonneg (by omega), by rw [hj]; exact Nat.mod_lt _ (by omega)⟩)
   have HC := Lib.hid hc
   clear hc hn64
   have hS1 : areaS ps i + (px ps i * py ps j - py ps i * px ps j) = areaS ps i1 := by rw [hj, hi1]; simp only [areaS]; rw [HL.out]
   have hx := HZP.out.x (lt_of_pts HL.out HC.out)
   have hy := HZP.out.y (lt_of_pts HL.out HC.out)
   have hx2 := HZP.out.x (lt_of_pts HL.out HI1.out.2.2.2.2)
   have hy2 := HZP.out.y (lt_of_pts HL.out HI1.out.2.2.2.2)
   have hzn : Rz (fz k i1) (areaS ps i1) := by
    rw [← hS1, hi1]
    simp only [fz]
    exact (hZ.out.add ((hx.mul hy2).sub (hy.mul hx2))).more (by omega)
   have HZS1 := Lib.hid (show Rz (0 * k + 1000000000000) (areaS ps i1) from hzn.more (by have := fz_le HKN.out.1 (show i1 ≤ 16 by have := HKN.out.2; omega); omega))
   have HZN := Lib.hid (Lib.hid hzn)
   have HE := Lib.hid hS1
   clear hS1 hx hy hx2 hy2 hzn hi1 hj hin hc' hZ
   go_upto_region 5 with fail
   refine rgT [] HR ?_
   refine pV (.bool true) (by intro w; go_simp <;> (first | (rw [HC.out]; done) | exact HC.out | (simp [HC.out]; done) | (trace_state; done))) ?_
   refine dS fun ws5 HS5=>?_
   clear HR
   go_upto_region 6 with fail
   refine rgT [] HS5 ?_
   refine pU ?_
   refine iX 6 i HC.out ?_
   refine lF HG.out (VC (px ps i) (py ps i)) (PC_room (lt_of_pts HL.out HC.out)) (PC_at (lt_of_pts HL.out HC.out)) ?_
   refine aL6 ?_
   intro bk5 _ _ hbk5_r
   refine nZ ?_
   refine pU ?_
   refine sV (VC_one _ _) ?_
   refine d1 bk5 fun ws6 HS6=>?_
   clear HS5
   go_upto_region 7 with fail
   have HPbk3 := HS6.p1
   refine wS [0] (Reg.fin.put Reg.fin_no _ _) (StR.move (StR.no HPbk3)) ?_
   refine gV ?_
   refine lV ?_
   iterate 2 refine pU ?_
   refine pV (.int .i64 (i1 : Int)) (by intro w; go_simp <;> (first | (rw [HI1.out.1]; done) | exact HI1.out.1 | (simp [HI1.out.1]; done) | (trace_state; done))) ?_
   refine pU ?_
   refine pV (.int .i64 (n : Int)) (by intro w; go_simp; try rfl) ?_
   refine pV (.int .i64 (j : Int)) (by intro w; go_simp <;> (first | (rw [HNZ.out]; done) | (rw [HI1.out.2.2.2.1]; done) | exact HNZ.out | exact HI1.out.2.2.2.1 | (simp [HNZ.out, HI1.out.2.2.2.1]; done) | (trace_state; done))) ?_
   refine iX 6 j HI1.out.2.2.2.2 ?_
   refine lF HG.out (VC (px ps j) (py ps j)) (PC_room (lt_of_pts HL.out HI1.out.2.2.2.2)) (PC_at (lt_of_pts HL.out HI1.out.2.2.2.2)) ?_
   refine cX rfl rfl (cross_q (k := (1 * k + 0)) HT.out ((HZP.out.x (lt_of_pts HL.out HC.out)).more (by have := HKN.out.1; omega)) ((HZP.out.y (lt_of_pts HL.out HC.out)).more (by have := HKN.out.1; omega)) ((HZP.out.x (lt_of_pts HL.out HI1.out.2.2.2.2)).more (by have := HKN.out.1; omega)) ((HZP.out.y (lt_of_pts HL.out HI1.out.2.2.2.2)).more (by have := HKN.out.1; omega))  rfl (by have := HKN.out.1; omega)) ?_
   refine cX rfl rfl (add_q (k := (8 * k + 1000000000000)) HT.out (HZS.out.more (by have := HKN.out.1; omega)) ((((HZP.out.x (lt_of_pts HL.out HC.out)).mul (HZP.out.y (lt_of_pts HL.out HI1.out.2.2.2.2))).sub ((HZP.out.y (lt_of_pts HL.out HC.out)).mul (HZP.out.x (lt_of_pts HL.out HI1.out.2.2.2.2)))).more (by have := HKN.out.1; omega)) HE.out (by have := HKN.out.1; omega)) ?_
   refine sV (RC_one _) ?_
   refine d1 bk3 fun ws7 HS7=>?_
   clear HS6 HPbk3
   go_upto_region 8 with fail
   refine rgT [] HS7 ?_
   refine pV (.int .i64 (i1 : Int)) (by intro w; go_simp <;> (first | (rw [HI1.out.1]; done) | exact HI1.out.1 | (simp [HI1.out.1]; done) | (trace_state; done))) ?_
   refine pU ?_
   refine dS fun _ HS8=>?_
   clear HS7
   go_wp2_with fail
   go_roundg (n - i1)
   case measure => rw [HGK.out]; exact HI1.out.2.1
   case rel => exact ⟨i1, rfl, rfl, HI1.out.2.2.1, HZN.out, Lib.hid (HS8.sub (.cons_cons _ (.cons _ (.refl _))))⟩
  ·obtain ⟨hf, eh⟩ : ∃ z, ((1 : Int) : Rat) / ((2 : Int) : Rat) = z := ⟨_, rfl⟩
   obtain ⟨ar, ear⟩ : ∃ z, areaQ ps = z := ⟨_, rfl⟩
   have Z_hf := Lib.hid (show Rz 4 hf from eh ▸ num_s 1 2 (by decide) (by decide) (by decide))
   have HE := Lib.hid (show hf * areaS ps i = ar by rw [← ear, ← eh]; unfold areaQ; rw [HL.out, show i = n by omega])
   have HAR := Lib.hid ear
   have EH := Lib.hid eh; clear eh ear
   have HC := Lib.hid (show n ≤ i by omega)
   clear hc hin hZ
   go_upto_region 5 with fail
   refine rgT [] HR ?_
   refine pV (.bool false) (by intro w; go_simp <;> (first | (rw [HC.out]; done) | exact HC.out | (simp [HC.out]; done) | (trace_state; done))) ?_
   refine dS fun _ HS5=>?_
   clear HR
   go_upto_region 9 with fail
   refine rgT [] HS5 ?_
   refine cX rfl rfl (make_q HT.out (by have := HKN.out.1; omega) (by have := HKN.out.1; omega) (by have := HKN.out.1; omega) (by have := HKN.out.1; omega) (by have := HKN.out.1; omega) EH.out) ?_
   refine pU ?_
   refine pV (.agg (RC hf)) (fun w => rfl) ?_
   refine pV (.int .i64 0) (fun w => rfl) ?_
   refine aL3 ?_
   intro bk6 _ _ hbk6_r
   refine nZ ?_
   refine sV (RC_one _) ?_
   refine pU ?_
   refine d1 bk6 fun _ HS6=>?_
   clear HS5
   go_upto_region 10 with fail
   have HPbk2 := HS6.p2
   refine wp_seq_text [] (StR.move (StR.no HPbk2)) ?_
   iterate 2 refine lV ?_
   refine cX rfl rfl (mul_q (k := 1000000000000) HT.out (Z_hf.out.more (by have := HKN.out.1; omega)) (HZS.out.more (by have := HKN.out.1; omega)) HE.out (by have := HKN.out.1; omega)) ?_
   refine sV (RC_one _) ?_
   refine d1 bk2 fun _ HS7=>?_
   clear HS6 HPbk2
   go_wp2_with fail
   exact ret_own rfl rfl rfl HS7 (by repeat first|exact mC|apply mT) (n := 3) rfl (by kernel_rfl) ⟨by rw [HAR.out], HS7.below⟩
section
variable {P : Program} {ops : Array Oper} {W : World} {l : List Own} {Q : Exit → Act → World → Prop} {gs : List Nat} {k : Nat} {o : Oper} {rest : List Oper} {a : Act} {R : Reg}
end
def slA (A : Option Addr) (n c : Nat) : Option Addr := if n = 0 then A else if c = 1 then A else A.map (·.add 1)
def slL (n : Nat) : Nat := if n = 0 then 0 else n - 1
def slC (n c : Nat) : Nat := if n = 0 then c else c - 1
def intsOf (xs : List Int) : List Value := xs.map fun x => .int .i64 x
def Ints (W : World) (A : Option Addr) (n c : Nat) (xs : List Int) : Prop := Reads W W.heap.size 1 A n (intsOf xs) ∧ n ≤ c ∧ ∀ x ∈ xs, -9223372036854775808 ≤ x ∧ x ≤ 9223372036854775807
theorem Ints.len {W : World} {A : Option Addr} {n c : Nat} {xs : List Int} (h : Ints W A n c xs) : xs.length = n := by
 have := h.1.1; simpa [intsOf] using this
theorem Ints.tail {W : World} {A : Option Addr} {n c : Nat} {xs : List Int} (h : Ints W A n c xs) : Ints W (slA A n c) (slL n) (slC n c) xs.tail := by
 have hl := h.len
 obtain ⟨h1, h2, h3⟩ := h
 unfold slA slL slC
 by_cases h0 : n = 0
 ·subst h0
  rw [if_pos rfl, if_pos rfl, if_pos rfl]
  have : xs = [] := List.eq_nil_of_length_eq_zero hl
  subst this
  exact ⟨h1, by omega, h3⟩
 ·rw [if_neg h0, if_neg h0, if_neg h0]
  have hc := h1.cut (k := 1) (cap := c) (by omega) h2
  rw [Nat.one_mul] at hc
  refine ⟨?_, by omega, fun x hx => h3 x (List.mem_of_mem_tail hx)⟩
  have e : (intsOf xs).drop 1 = intsOf xs.tail := by unfold intsOf; cases xs <;> rfl
  rw [e] at hc
  exact hc
theorem Ints.head {W : World} {A : Option Addr} {n c : Nat} {x : Int} {xs : List Int} (h : Ints W A n c (x :: xs)) : ∃ ad, A = some ad ∧ ad.block < W.heap.size ∧ W.cell? (ad.add 0) = some (.int .i64 x) ∧ 0 < n := by
 have hl := h.len
 have h0 : 0 < n := by rw [← hl]; simp
 obtain ⟨ad, u, h1, h2, h3, h4⟩ := h.1.at_ h0
 refine ⟨ad, h1, h2, ?_, h0⟩
 have : u = .int .i64 x := by simpa [intsOf] using h3.symm
 rw [h4, this]
theorem StR.only {W : World} {l : List Own} {p : Nat} {x : TypeId × Array Value} {w : World} (h : StR W l (Reg.no.put p x) w) : St W ((p, x) :: l) w := (h.take rS).st
theorem slcP_4 {o : Oper} {a : Act} {X0 X1 X2 X3 : Operand} {x0 y0 x1 y1 x2 y2 x3 y3 : Rat} (ho : o.op = .buildSlice 24 4 #[(0, X0), (1, X1), (2, X2), (3, X3)]) (h0 : a.eval X0 = .agg (VC x0 y0)) (h1 : a.eval X1 = .agg (VC x1 y1)) (h2 : a.eval X2 = .agg (VC x2 y2)) (h3 : a.eval X3 = .agg (VC x3 y3)) (w : World) :
  (execOp a.eval o).run Tryz.prog w = .ok (.value (.slice (some ⟨w.heap.size, 0, none⟩) 4 4)) (w.alloc (.cells (PC [(x0, y0), (x1, y1), (x2, y2), (x3, y3)]) 29)) := by
 have e : PC [(x0, y0), (x1, y1), (x2, y2), (x3, y3)] = #[.bool (decide (Rat.num x0 < 0)), .string (S (Rat.num x0).natAbs), .string (S (Rat.den x0)), .bool (decide (Rat.num y0 < 0)), .string (S (Rat.num y0).natAbs), .string (S (Rat.den y0)), .bool (decide (Rat.num x1 < 0)), .string (S (Rat.num x1).natAbs), .string (S (Rat.den x1)), .bool (decide (Rat.num y1 < 0)), .string (S (Rat.num y1).natAbs), .string (S (Rat.den y1)), .bool (decide (Rat.num x2 < 0)), .string (S (Rat.num x2).natAbs), .string (S (Rat.den x2)), .bool (decide (Rat.num y2 < 0)), .string (S (Rat.num y2).natAbs), .string (S (Rat.den y2)), .bool (decide (Rat.num x3 < 0)), .string (S (Rat.num x3).natAbs), .string (S (Rat.den x3)), .bool (decide (Rat.num y3 < 0)), .string (S (Rat.num y3).natAbs), .string (S (Rat.den y3))] := rfl
 rw [e]
 unfold VC at h0 h1 h2 h3
 unfold execOp
 simp only [ho, List.map_toArray, List.map_cons, List.map_nil, h0, h1, h2, h3]
 go_simp
end Go.Proofs.YtmchjmflkaiakaaGreatDoor
