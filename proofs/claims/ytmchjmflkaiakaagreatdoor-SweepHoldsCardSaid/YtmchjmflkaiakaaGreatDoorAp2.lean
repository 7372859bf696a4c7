/- Joined texts. -/
import Derived.Test.YtmchjmflkaiakaaGreatDoorAp1
import Derived.Deep.LoopGhost

/- package apart: beyond, both, Meet (printed by lawvec.py). -/
namespace Go.Proofs.YtmchjmflkaiakaaGreatDoor
open Go.RowKit
set_option linter.unusedVariables false
set_option linter.unusedSimpArgs false

def farF (a b : Pts) (i : Nat) : Nat → Bool
 | 0 => true
 | j + 1 => farF a b i j && decide (0 < dt a b i j)
theorem farF_all (a b : Pts) (i n : Nat) : farF a b i n = (List.range n).all fun j => decide (0 < dt a b i j) := by
 induction n with
 | zero => rfl
 | succ n ih => rw [List.range_succ, List.all_append, ← ih]; simp [farF]
theorem farF_sep (a b : Pts) (i : Nat) : farF a b i b.length = sepB a b i := farF_all _ _ _ _
def bydI (a b : Pts) : Option Nat := (List.range a.length).find? (sepB a b)
def nrx (a : Pts) (i : Nat) : Rat := py a ((i + 1) % a.length) - py a i
def nry (a : Pts) (i : Nat) : Rat := -(px a ((i + 1) % a.length) - px a i)
def bydC (a b : Pts) : Array Value := match bydI a b with | some i => VC (nrx a i) (nry a i) | none => #[.bool false, .string ⟨#[]⟩, .string ⟨#[]⟩, .bool false, .string ⟨#[]⟩, .string ⟨#[]⟩]
theorem bydI_at {a b : Pts} {i : Nat} (hi : i < a.length) (h : sepB a b i = true) (hn : ∀ q, q < i → sepB a b q = false) : bydI a b = some i := by
 unfold bydI
 rw [List.find?_range_eq_some]
 exact ⟨h, List.mem_range.2 hi, fun j hj => by rw [hn j hj]; rfl⟩
theorem bydI_no {a b : Pts} (hn : ∀ q, q < a.length → sepB a b q = false) : bydI a b = none := by
 unfold bydI
 rw [List.find?_range_eq_none]
 exact fun j hj => by rw [hn j hj]; rfl
theorem bydB_at {a b : Pts} {i : Nat} (hi : i < a.length) (h : sepB a b i = true) : bydB a b = true := by
 unfold bydB; rw [List.any_eq_true]; exact ⟨i, List.mem_range.2 hi, h⟩
theorem bydB_no {a b : Pts} (hn : ∀ q, q < a.length → sepB a b q = false) : bydB a b = false := by
 rw [← Bool.not_eq_true]
 intro h
 unfold bydB at h
 rw [List.any_eq_true] at h
 obtain ⟨i, hi, h⟩ := h
 rw [hn i (List.mem_range.1 hi)] at h; cases h
theorem bydC_size (a b : Pts) : (bydC a b).size = 6 := by unfold bydC; split <;> rfl
theorem bydC_one (a b : Pts) : ∀ u ∈ bydC a b, u.oneCell' = true := by
 unfold bydC
 split
 ·exact VC_one _ _
 ·intro u hu
  simp only [List.mem_toArray, List.mem_cons, List.not_mem_nil, or_false] at hu
  rcases hu with rfl | rfl | rfl | rfl | rfl | rfl <;> rfl
theorem sgn_dec {a : Rat} : decide (0 < sgnQ a) = decide (0 < a) := by
 rw [Bool.eq_iff_iff, decide_eq_true_eq, decide_eq_true_eq]
 unfold sgnQ cmpQ
 split
 ·constructor
  ·intro h; omega
  ·intro h; grind
 ·split
  ·constructor
   ·intro h; assumption
   ·intro h; omega
  ·constructor
   ·intro h; omega
   ·intro h; exact absurd h (by assumption)
set_option maxHeartbeats 4000000 in
set_option maxRecDepth 20000 in
theorem beyond_q {k n m : Nat} {ps qs : Pts} {W : World} {l : List Own} (hT : Tab W) (hz : Pz k ps) (hl : ps.length = n) (hcv : 3 ≤ n ∧ n ≤ 64 ∧ Cvx ps) (hz2 : Pz k qs) (hl2 : qs.length = m) (hcv2 : 3 ≤ m ∧ m ≤ 64 ∧ Cvx qs) (hk : k ≤ 1000000) (g g2 : Nat) (w : World) (h : St W l w) (hg : Blk w g 29 (PC ps)) (hg2 : Blk w g2 29 (PC qs)) :
  Calls Tryz.prog 98 #[.slice (some ⟨g, 0, none⟩) n n, .slice (some ⟨g2, 0, none⟩) m m] w fun e w' => e = .returned (.tuple #[.agg (bydC ps qs), .bool (bydB ps qs)]) ∧ Below w.heap.size w w' := by
 have HT := Lib.hid (tabS hT h); clear hT h
 have HG := Lib.hid hg; clear hg
 have HL := Lib.hid hl; clear hl
 have HNZ := Lib.hid (show ¬ n = 0 by have := hcv.1; omega)
 have HZP := Lib.hid (show Pz (1 * k + 0) ps by rw [Nat.one_mul]; exact hz); clear hz
 have HG2 := Lib.hid hg2; clear hg2
 have HLQ := Lib.hid hl2; clear hl2
 have HZQ := Lib.hid (show Pz (1 * k + 0) qs by rw [Nat.one_mul]; exact hz2); clear hz2
 have HCV := Lib.hid hcv; clear hcv
 have HCQ := Lib.hid hcv2; clear hcv2
 go_enter Tryz.func98, Tryz.ntmps98
 have HS : St w [] w := St.start
 go_upto_region 0 with (fail)
 refine rgT [] HS ?_
 refine aL6 ?_
 intro bk4 _ _ hbk4_r
 refine nZ ?_
 refine pU ?_
 refine Seq.done fun ws1 hws => ?_
 have HS1 := hws.q1 (p := bk4)
 clear HS hws
 go_upto_region 1 with (fail)
 refine rgT [] HS1 ?_
 refine pU ?_
 refine pV (.int .i64 (n : Int)) (by intro w; go_simp; try rfl) ?_
 refine pU ?_
 refine Seq.done fun ws2 hws => ?_
 have HS2 := hws.st
 clear HS1 hws
 go_wp2_with fail
 go_loopg [15] n (fun kk s15 wr => ∃ i : Nat, kk = n - i ∧ s15 = .int .i64 (i : Int) ∧ i ≤ n ∧ Hid (∀ q, q < i → sepB ps qs q = false) ∧ Hid (St w [(bk4, 29, #[.bool false, .string ⟨#[]⟩, .string ⟨#[]⟩, .bool false, .string ⟨#[]⟩, .string ⟨#[]⟩])] wr))
 case atStart => exact ⟨0, rfl, rfl, by omega, Lib.hid (fun q hq => absurd hq (by omega)), Lib.hid HS2⟩
 case round =>
  obtain ⟨i, hgk, rfl, hin, hno, hS⟩ := hrel
  have HGK := Lib.hid hgk; clear hgk
  have HR := hS.out; clear hS
  by_cases hc : i < n
  ·have hc' := hc
   obtain ⟨i1, hi1⟩ : ∃ i1 : Nat, i1 = i + 1 := ⟨_, rfl⟩
   obtain ⟨jn, hjn⟩ : ∃ j : Nat, j = i1 % n := ⟨_, rfl⟩
   have hn64 : n ≤ 64 := HCV.out.2.1
   have HI1 := Lib.hid (show IntKind.i64.wrap ((i : Int) + 1) = (i1 : Int) ∧ n - i1 < n - i ∧ i1 ≤ n ∧ (i1 : Int).tmod (n : Int) = (jn : Int) ∧ jn < n from ⟨by rw [i64_s _ (by omega) (by omega)]; omega, by omega, by omega, by rw [hjn]; exact Int.tmod_eq_emod_of_nonneg (by omega), by rw [hjn]; exact Nat.mod_lt _ (by omega)⟩)
   have HC := Lib.hid hc
   have HIJ := Lib.hid (And.intro hi1 hjn)
   have HNO := Lib.hid hno.out
   clear hc hn64 hi1 hjn hin hno
   go_upto_region 2 with (fail)
   refine rgT [] HR ?_
   refine pV (.bool true) (by intro w; go_simp <;> (first | (rw [HC.out]; done) | exact HC.out | (simp [HC.out]; done) | (trace_state; done))) ?_
   refine Seq.done fun ws3 hws => ?_
   have HS3 := hws.st
   clear HR hws
   go_upto_region 3 with (fail)
   refine rgT [] HS3 ?_
   refine pU ?_
   refine Seq.index (m := 6) i rfl rfl rfl rfl rfl (by kernel_rfl) rfl HC.out (nZ ?_)
   refine Seq.loadAtF rfl rfl rfl rfl HG.out (n := 6) (cs' := VC (px ps i) (py ps i)) (PC_room (lt_of_pts HL.out HC.out)) (by kernel_rfl) (PC_at (lt_of_pts HL.out HC.out)) (nZ ?_)
   refine aL6 ?_
   intro bk7 _ _ hbk7_r
   refine nZ ?_
   refine pU ?_
   refine sV (VC_one _ _) ?_
   refine Seq.done fun ws4 hws => ?_
   have HS4 := hws.q1 (p := bk7)
   clear HS3 hws
   go_upto_region 4 with (fail)
   refine rgW [] HS4 ?_
   iterate 2 refine pU ?_
   refine pV (.int .i64 (i1 : Int)) (by intro w; go_simp <;> (first | (rw [HI1.out.1]; done) | exact HI1.out.1 | (simp [HI1.out.1]; done) | (trace_state; done))) ?_
   refine pU ?_
   refine pV (.int .i64 (n : Int)) (by intro w; go_simp; try rfl) ?_
   refine pV (.int .i64 (jn : Int)) (by intro w; go_simp <;> (first | (rw [HNZ.out]; done) | (rw [HI1.out.2.2.2.1]; done) | exact HNZ.out | exact HI1.out.2.2.2.1 | (simp [HNZ.out, HI1.out.2.2.2.1]; done) | (trace_state; done))) ?_
   refine Seq.index (m := 6) jn rfl rfl rfl rfl rfl (by kernel_rfl) rfl HI1.out.2.2.2.2 (nZ ?_)
   refine Seq.loadAtF rfl rfl rfl rfl HG.out (n := 6) (cs' := VC (px ps jn) (py ps jn)) (PC_room (lt_of_pts HL.out HI1.out.2.2.2.2)) (by kernel_rfl) (PC_at (lt_of_pts HL.out HI1.out.2.2.2.2)) (nZ ?_)
   refine lV ?_
   refine cX rfl rfl (vsub_q (k := (1 * k + 0)) HT.out ((HZP.out.x (lt_of_pts HL.out HI1.out.2.2.2.2)).more (by omega)) ((HZP.out.y (lt_of_pts HL.out HI1.out.2.2.2.2)).more (by omega)) ((HZP.out.x (lt_of_pts HL.out HC.out)).more (by omega)) ((HZP.out.y (lt_of_pts HL.out HC.out)).more (by omega))  rfl rfl (by omega)) ?_
   refine aL6 ?_
   intro bk8 _ _ hbk8_r
   refine nZ ?_
   refine sV (VC_one _ _) ?_
   refine Seq.done fun ws5 hws => ?_
   have HS5 := hws.q1 (p := bk8)
   clear HS4 hws
   go_upto_region 5 with (fail)
   refine rgW [] HS5 ?_
   refine pU ?_
   refine lA (RC ((py ps jn) - (py ps i))) ?_
   refine pU ?_
   refine lA (RC ((px ps jn) - (px ps i))) ?_
   refine cX rfl rfl (neg_q (k := (4 * k + 1)) HT.out (((HZP.out.x (lt_of_pts HL.out HI1.out.2.2.2.2)).sub (HZP.out.x (lt_of_pts HL.out HC.out))).more (by omega)) rfl (by omega)) ?_
   refine pV (.agg (VC ((py ps jn) - (py ps i)) (-((px ps jn) - (px ps i))))) (fun w => bld_Vec rfl rfl rfl w) ?_
   refine aL6 ?_
   intro bk9 _ _ hbk9_r
   refine nZ ?_
   refine sV (VC_one _ _) ?_
   refine Seq.done fun ws6 hws => ?_
   have HS6 := hws.q1 (p := bk9)
   clear HS5 hws
   go_upto_region 6 with (fail)
   refine rgT [] HS6 ?_
   refine pU ?_
   refine Seq.done fun ws7 hws => ?_
   have HS7 := hws.st
   clear HS6 hws
   go_upto_region 7 with (fail)
   refine rgT [] HS7 ?_
   refine pU ?_
   refine pV (.int .i64 (m : Int)) (by intro w; go_simp; try rfl) ?_
   refine pU ?_
   refine Seq.done fun ws8 hws => ?_
   have HS8 := hws.st
   clear HS7 hws
   go_wp2_with fail
   go_loopg [10, 38] m (fun kk s10 s38 wr => ∃ q : Nat, ∃ f : Bool, kk = m - q ∧ s10 = .bool f ∧ s38 = .int .i64 (q : Int) ∧ q ≤ m ∧ Hid (f = farF ps qs i q) ∧ Hid (St w [(bk9, 29, VC ((py ps jn) - (py ps i)) (-((px ps jn) - (px ps i)))), (bk8, 29, VC ((px ps jn) - (px ps i)) ((py ps jn) - (py ps i))), (bk7, 29, VC (px ps i) (py ps i)), (bk4, 29, #[.bool false, .string ⟨#[]⟩, .string ⟨#[]⟩, .bool false, .string ⟨#[]⟩, .string ⟨#[]⟩])] wr))
   case atStart => exact ⟨0, true, rfl, rfl, rfl, by omega, Lib.hid rfl, Lib.hid HS8⟩
   case round =>
    obtain ⟨q, f, hgk2, rfl, rfl, hqm, hf, hS2⟩ := hrel
    have HGK2 := Lib.hid hgk2; clear hgk2
    have HR2 := hS2.out; clear hS2
    have hf := hf.out
    by_cases hc2 : q < m
    ·obtain ⟨q1, hq1⟩ : ∃ q1 : Nat, q1 = q + 1 := ⟨_, rfl⟩
     have HQ1 := Lib.hid (show IntKind.i64.wrap ((q : Int) + 1) = (q1 : Int) ∧ m - q1 < m - q ∧ q1 ≤ m from ⟨by have := HCQ.out.2.1; rw [i64_s _ (by omega) (by omega)]; omega, by omega, by omega⟩)
     have HC2 := Lib.hid hc2
     cases f with
     | true =>
       obtain ⟨sv, hsv⟩ : ∃ v, sgnQ ((py ps jn - py ps i) * (px qs q - px ps i) + (-(px ps jn - px ps i)) * (py qs q - py ps i)) = v := ⟨_, rfl⟩
       have HE := Lib.hid (show decide (0 < sv) = farF ps qs i q1 by
        rw [hq1]; simp only [farF]; rw [← hf, Bool.true_and, ← hsv, sgn_dec]
        unfold dt; rw [HL.out, ← HIJ.out.1, ← HIJ.out.2])
       have HSV := Lib.hid hsv; clear hsv
       clear hc2 hqm hq1 hf
       go_upto_region 8 with (fail)
       refine rgT [] HR2 ?_
       refine pV (.bool true) (by intro w; go_simp <;> (first | (rw [HC2.out]; done) | exact HC2.out | (simp [HC2.out]; done) | (trace_state; done))) ?_
       refine Seq.done fun ws9 hws => ?_
       have HS9 := hws.st
       clear HR2 hws
       go_upto_region 9 with (fail)
       refine rgT [] HS9 ?_
       refine Seq.index (m := 6) q rfl rfl rfl rfl rfl (by kernel_rfl) rfl HC2.out (nZ ?_)
       refine Seq.loadAtF rfl rfl rfl rfl HG2.out (n := 6) (cs' := VC (px qs q) (py qs q)) (PC_room (lt_of_pts HLQ.out HC2.out)) (by kernel_rfl) (PC_at (lt_of_pts HLQ.out HC2.out)) (nZ ?_)
       refine aL6 ?_
       intro bk12 _ _ hbk12_r
       refine nZ ?_
       refine sV (VC_one _ _) ?_
       refine Seq.done fun ws10 hws => ?_
       have HS10 := hws.q1 (p := bk12)
       clear HS9 hws
       go_upto_region 10 with (fail)
       refine rgW [] HS10 ?_
       iterate 2 refine pU ?_
       refine lV ?_
       refine lV ?_
       refine lV ?_
       refine cX rfl rfl (vsub_q (k := (1 * k + 0)) HT.out ((HZQ.out.x (lt_of_pts HLQ.out HC2.out)).more (by omega)) ((HZQ.out.y (lt_of_pts HLQ.out HC2.out)).more (by omega)) ((HZP.out.x (lt_of_pts HL.out HC.out)).more (by omega)) ((HZP.out.y (lt_of_pts HL.out HC.out)).more (by omega))  rfl rfl (by omega)) ?_
       refine cX rfl rfl (dot_q (k := (4 * k + 1)) HT.out (((HZP.out.y (lt_of_pts HL.out HI1.out.2.2.2.2)).sub (HZP.out.y (lt_of_pts HL.out HC.out))).more (by omega)) (((HZP.out.x (lt_of_pts HL.out HI1.out.2.2.2.2)).sub (HZP.out.x (lt_of_pts HL.out HC.out))).neg.more (by omega)) (((HZQ.out.x (lt_of_pts HLQ.out HC2.out)).sub (HZP.out.x (lt_of_pts HL.out HC.out))).more (by omega)) (((HZQ.out.y (lt_of_pts HLQ.out HC2.out)).sub (HZP.out.y (lt_of_pts HL.out HC.out))).more (by omega))  rfl (by omega)) ?_
       refine cX rfl rfl (sign_q (k := (32 * k + 9)) HT.out (((((HZP.out.y (lt_of_pts HL.out HI1.out.2.2.2.2)).sub (HZP.out.y (lt_of_pts HL.out HC.out))).mul ((HZQ.out.x (lt_of_pts HLQ.out HC2.out)).sub (HZP.out.x (lt_of_pts HL.out HC.out)))).add (((HZP.out.x (lt_of_pts HL.out HI1.out.2.2.2.2)).sub (HZP.out.x (lt_of_pts HL.out HC.out))).neg.mul ((HZQ.out.y (lt_of_pts HLQ.out HC2.out)).sub (HZP.out.y (lt_of_pts HL.out HC.out))))).more (by omega)) HSV.out (by omega)) ?_
       iterate 3 refine pU ?_
       refine Seq.done fun ws11 hws => ?_
       have HS11 := hws.st
       clear HS10 hws
       go_upto_region 11 with (fail)
       refine rgT [] HS11 ?_
       refine pV (.int .i64 (q1 : Int)) (by intro w; go_simp <;> (first | (rw [HQ1.out.1]; done) | exact HQ1.out.1 | (simp [HQ1.out.1]; done) | (trace_state; done))) ?_
       refine pU ?_
       refine Seq.done fun ws12 hws => ?_
       have HS12 := hws.st
       clear HS11 hws
       go_wp2_with fail
       go_roundg (m - q1)
       case measure => rw [HGK2.out]; exact HQ1.out.2.1
       case rel => exact ⟨q1, _, rfl, rfl, rfl, HQ1.out.2.2, Lib.hid (Lib.hid HE.out).out, Lib.hid HS12.drop⟩
     | false =>
       have HE := Lib.hid (show false = farF ps qs i q1 by rw [hq1]; simp only [farF]; rw [← hf, Bool.false_and])
       clear hc2 hqm hq1 hf
       go_upto_region 8 with (fail)
       refine rgT [] HR2 ?_
       refine pV (.bool true) (by intro w; go_simp <;> (first | (rw [HC2.out]; done) | exact HC2.out | (simp [HC2.out]; done) | (trace_state; done))) ?_
       refine Seq.done fun ws9 hws => ?_
       have HS9 := hws.st
       clear HR2 hws
       go_upto_region 9 with (fail)
       refine rgT [] HS9 ?_
       refine Seq.index (m := 6) q rfl rfl rfl rfl rfl (by kernel_rfl) rfl HC2.out (nZ ?_)
       refine Seq.loadAtF rfl rfl rfl rfl HG2.out (n := 6) (cs' := VC (px qs q) (py qs q)) (PC_room (lt_of_pts HLQ.out HC2.out)) (by kernel_rfl) (PC_at (lt_of_pts HLQ.out HC2.out)) (nZ ?_)
       refine aL6 ?_
       intro bk12 _ _ hbk12_r
       refine nZ ?_
       refine sV (VC_one _ _) ?_
       refine Seq.done fun ws10 hws => ?_
       have HS10 := hws.q1 (p := bk12)
       clear HS9 hws
       go_upto_region 10 with (fail)
       refine rgW [] HS10 ?_
       iterate 2 refine pU ?_
       iterate 7 refine nW ?_
       iterate 2 refine pU ?_
       refine Seq.done fun ws11 hws => ?_
       have HS11 := hws.st
       clear HS10 hws
       go_upto_region 11 with (fail)
       refine rgT [] HS11 ?_
       refine pV (.int .i64 (q1 : Int)) (by intro w; go_simp <;> (first | (rw [HQ1.out.1]; done) | exact HQ1.out.1 | (simp [HQ1.out.1]; done) | (trace_state; done))) ?_
       refine pU ?_
       refine Seq.done fun ws12 hws => ?_
       have HS12 := hws.st
       clear HS11 hws
       go_wp2_with fail
       go_roundg (m - q1)
       case measure => rw [HGK2.out]; exact HQ1.out.2.1
       case rel => exact ⟨q1, _, rfl, rfl, rfl, HQ1.out.2.2, Lib.hid (Lib.hid HE.out).out, Lib.hid HS12.drop⟩
    ·have HC2 := Lib.hid (show m ≤ q by omega)
     have hfs : f = sepB ps qs i := by rw [hf, ← farF_sep, HLQ.out, show q = m by omega]
     have hil : i < ps.length := by rw [HL.out]; exact HC.out
     cases f with
     | true =>
       have HE := Lib.hid (show bydB ps qs = true ∧ bydC ps qs = VC (py ps jn - py ps i) (-(px ps jn - px ps i)) ∧ True from ⟨bydB_at hil hfs.symm, by
        unfold bydC; rw [bydI_at hil hfs.symm HNO.out]; simp only [nrx, nry]; rw [HL.out, ← HIJ.out.1, ← HIJ.out.2], trivial⟩)
       clear hc2 hqm hf hfs hil
       go_upto_region 8 with (fail)
       refine rgT [] HR2 ?_
       refine pV (.bool false) (by intro w; go_simp <;> (first | (rw [HC2.out]; done) | exact HC2.out | (simp [HC2.out]; done) | (trace_state; done))) ?_
       refine Seq.done fun ws9 hws => ?_
       have HS9 := hws.st
       clear HR2 hws
       go_upto_region 12 with (fail)
       refine rgT [] HS9 ?_
       refine pU ?_
       refine Seq.done fun ws10 hws => ?_
       have HS10 := hws.st
       clear HS9 hws
       go_upto_region 13 with (fail)
       have HPbk4 := HS10.p3
       refine wp_seq_text [] (StR.move (StR.no HPbk4)) ?_
       refine lV ?_
       refine sV (VC_one _ _) ?_
       refine pU ?_
       refine Seq.done fun ws11 hws => ?_
       have HS11 := hws.q1 (p := bk4)
       clear HS10 hws HPbk4
       go_wp2_with fail
       exact ret_own2 rfl rfl rfl rfl HS11 (by repeat first|exact mC|apply mT) (n := 6) rfl (by kernel_rfl) ⟨by rw [HE.out.1, HE.out.2.1]; rfl, HS11.below⟩
     | false =>
       have HE := Lib.hid (Lib.hid (show ∀ q, q < i1 → sepB ps qs q = false from fun z hz => by
        rcases Nat.lt_or_ge z i with h | h
        ·exact HNO.out z h
        ·have : z = i := by have := HIJ.out.1; omega
         rw [this]; exact hfs.symm))
       clear hc2 hqm hf hfs hil
       go_upto_region 8 with (fail)
       refine rgT [] HR2 ?_
       refine pV (.bool false) (by intro w; go_simp <;> (first | (rw [HC2.out]; done) | exact HC2.out | (simp [HC2.out]; done) | (trace_state; done))) ?_
       refine Seq.done fun ws9 hws => ?_
       have HS9 := hws.st
       clear HR2 hws
       go_upto_region 12 with (fail)
       refine rgT [] HS9 ?_
       refine pU ?_
       refine Seq.done fun ws10 hws => ?_
       have HS10 := hws.st
       clear HS9 hws
       go_upto_region 14 with (fail)
       refine rgT [] HS10 ?_
       refine pV (.int .i64 (i1 : Int)) (by intro w; go_simp <;> (first | (rw [HI1.out.1]; done) | exact HI1.out.1 | (simp [HI1.out.1]; done) | (trace_state; done))) ?_
       refine pU ?_
       refine Seq.done fun ws11 hws => ?_
       have HS11 := hws.st
       clear HS10 hws
       go_wp2_with fail
       go_roundg (n - i1)
       case measure => rw [HGK.out]; exact HI1.out.2.1
       case rel => exact ⟨i1, rfl, rfl, HI1.out.2.2.1, HE.out, Lib.hid (HS11.sub (.cons _ (.cons _ (.cons _ (.refl _)))))⟩
  ·have hno' := hno.out
   have HE := Lib.hid (show bydB ps qs = false ∧ bydC ps qs = #[.bool false, .string ⟨#[]⟩, .string ⟨#[]⟩, .bool false, .string ⟨#[]⟩, .string ⟨#[]⟩] from ⟨bydB_no (fun q hq => hno' q (by rw [HL.out] at hq; omega)), by unfold bydC; rw [bydI_no (fun q hq => hno' q (by rw [HL.out] at hq; omega))]⟩)
   have HC := Lib.hid (show n ≤ i by omega)
   clear hc hin hno hno'
   go_upto_region 2 with (fail)
   refine rgT [] HR ?_
   refine pV (.bool false) (by intro w; go_simp <;> (first | (rw [HC.out]; done) | exact HC.out | (simp [HC.out]; done) | (trace_state; done))) ?_
   refine Seq.done fun ws3 hws => ?_
   have HS3 := hws.st
   clear HR hws
   go_upto_region 15 with (fail)
   refine wp_seq_text [] (StR.move (StR.no HS3)) ?_
   refine pV (.agg (#[.bool false, .string ⟨#[]⟩, .string ⟨#[]⟩, .bool false, .string ⟨#[]⟩, .string ⟨#[]⟩])) (by intro w; go_simp; try rfl) ?_
   refine Seq.store rfl rfl rfl rfl rfl (by repeat first|exact rS|refine rN ‹_› ?_) (n := 6) rfl rfl (by kernel_rfl) (by intro u hu; simp at hu; rcases hu with rfl | rfl | rfl | rfl | rfl | rfl <;> rfl) (nZ ?_)
   refine pU ?_
   refine Seq.done fun ws4 hws => ?_
   have HS4 := hws.q1 (p := bk4)
   clear HS3 hws
   go_wp2_with fail
   exact ret_own2 rfl rfl rfl rfl HS4 (by repeat first|exact mC|apply mT) (n := 6) rfl (by kernel_rfl) ⟨by rw [HE.out.1, HE.out.2]; rfl, HS4.below⟩
set_option maxHeartbeats 4000000 in
set_option maxRecDepth 20000 in
theorem both_q {k n m : Nat} {ps qs : Pts} {W : World} {l : List Own} (hT : Tab W) (hz : Pz k ps) (hl : ps.length = n) (hcv : 3 ≤ n ∧ n ≤ 64 ∧ Cvx ps) (hz2 : Pz k qs) (hl2 : qs.length = m) (hcv2 : 3 ≤ m ∧ m ≤ 64 ∧ Cvx qs) (hk : k ≤ 1000000) (g g2 : Nat) (w : World) (h : St W l w) (hg : Blk w g 29 (PC ps)) (hg2 : Blk w g2 29 (PC qs)) :
  Calls Tryz.prog 97 #[.slice (some ⟨g, 0, none⟩) n n, .slice (some ⟨g2, 0, none⟩) m m] w fun e w' => e = .returned (.int .i64 0) ∧ Below w.heap.size w w' := by
 have HT := Lib.hid (tabS hT h); clear hT h
 have HG := Lib.hid hg; clear hg
 have HL := Lib.hid hl; clear hl
 have HNZ := Lib.hid (show ¬ n = 0 by have := hcv.1; omega)
 have HZP := Lib.hid (show Pz (1 * k + 0) ps by rw [Nat.one_mul]; exact hz); clear hz
 have HG2 := Lib.hid hg2; clear hg2
 have HLQ := Lib.hid hl2; clear hl2
 have HZQ := Lib.hid (show Pz (1 * k + 0) qs by rw [Nat.one_mul]; exact hz2); clear hz2
 have HCV := Lib.hid hcv; clear hcv
 have HCQ := Lib.hid hcv2; clear hcv2
 go_enter Tryz.func97, Tryz.ntmps97
 have HS : St w [] w := St.start
 go_upto_region 0 with (fail)
 refine rgT [] HS ?_
 refine pU ?_
 refine Seq.done fun ws1 hws => ?_
 have HS1 := hws.st
 clear HS hws
 go_upto_region 1 with (fail)
 refine rgT [] HS1 ?_
 refine pU ?_
 refine cX rfl rfl (fun w h => convex_q (k := 1 * k + 0) HT.out HZP.out HL.out HCV.out (by omega) _ w h (h.came HG.out)) ?_
 refine pU ?_
 refine Seq.done fun ws2 hws => ?_
 have HS2 := hws.st
 clear HS1 hws
 go_upto_region 2 with (fail)
 refine rgT [] HS2 ?_
 iterate 2 refine pU ?_
 refine Seq.done fun ws3 hws => ?_
 have HS3 := hws.st
 clear HS2 hws
 go_upto_region 4 with (fail)
 refine rgT [] HS3 ?_
 refine pU ?_
 refine cX rfl rfl (fun w h => convex_q (k := 1 * k + 0) HT.out HZQ.out HLQ.out HCQ.out (by omega) _ w h (h.came HG2.out)) ?_
 refine pU ?_
 refine Seq.done fun ws4 hws => ?_
 have HS4 := hws.st
 clear HS3 hws
 go_wp2_with fail
 go_ret
 exact ⟨rfl, HS4.below⟩
theorem beyond_G {k n m : Nat} {ps qs : Pts} {W : World} {l : List Own} (hT : Tab W) (hz : Pz k ps) (hl : ps.length = n) (hcv : 3 ≤ n ∧ n ≤ 64 ∧ Cvx ps) (hz2 : Pz k qs) (hl2 : qs.length = m) (hcv2 : 3 ≤ m ∧ m ≤ 64 ∧ Cvx qs) {z0 : Bool} {z1 : Array Value} (hz0 : bydB ps qs = z0) (hz1 : bydC ps qs = z1) (hk : k ≤ 1000000) (g g2 : Nat) (w : World) (h : St W l w) (hg : Blk w g 29 (PC ps)) (hg2 : Blk w g2 29 (PC qs)) :
  Calls Tryz.prog 98 #[.slice (some ⟨g, 0, none⟩) n n, .slice (some ⟨g2, 0, none⟩) m m] w fun e w' => e = .returned (.tuple #[.agg z1, .bool z0]) ∧ Below w.heap.size w w' := by
 rw [← hz0, ← hz1]; exact beyond_q hT hz hl hcv hz2 hl2 hcv2 hk g g2 w h hg hg2
set_option maxHeartbeats 4000000 in
set_option maxRecDepth 20000 in
theorem meet_f {k n m : Nat} {ps qs : Pts} {W : World} {l : List Own} (hT : Tab W) (hz : Pz k ps) (hl : ps.length = n) (hcv : 3 ≤ n ∧ n ≤ 64 ∧ Cvx ps) (hz2 : Pz k qs) (hl2 : qs.length = m) (hcv2 : 3 ≤ m ∧ m ≤ 64 ∧ Cvx qs) (hx : bydB ps qs = false) (hk : k ≤ 1000000) (g g2 : Nat) (w : World) (h : St W l w) (hg : Blk w g 29 (PC ps)) (hg2 : Blk w g2 29 (PC qs)) :
  Calls Tryz.prog 54 #[.slice (some ⟨g, 0, none⟩) n n, .slice (some ⟨g2, 0, none⟩) m m] w fun e w' => e = .returned (.tuple #[.bool (meetB ps qs), .int .i64 0]) ∧ Below w.heap.size w w' := by
 obtain ⟨yb, hyb⟩ : ∃ z, bydB qs ps = z := ⟨_, rfl⟩
 obtain ⟨c1, hc1⟩ : ∃ z, bydC ps qs = z := ⟨_, rfl⟩
 obtain ⟨c2, hc2⟩ : ∃ z, bydC qs ps = z := ⟨_, rfl⟩
 have HM := Lib.hid (show meetB ps qs = !yb by unfold meetB; rw [hx, hyb]; rfl)
 have HSZ := Lib.hid (show c1.size = 6 ∧ (∀ u ∈ c1, u.oneCell' = true) ∧ c2.size = 6 ∧ (∀ u ∈ c2, u.oneCell' = true) from ⟨hc1 ▸ bydC_size _ _, hc1 ▸ bydC_one _ _, hc2 ▸ bydC_size _ _, hc2 ▸ bydC_one _ _⟩)
 have HX := Lib.hid (And.intro hx (And.intro hc1 (And.intro hyb hc2))); clear hx hc1 hyb hc2
 have HT := Lib.hid (tabS hT h); clear hT h
 have HG := Lib.hid hg; clear hg
 have HL := Lib.hid hl; clear hl
 have HNZ := Lib.hid (show ¬ n = 0 by have := hcv.1; omega)
 have HZP := Lib.hid (show Pz (1 * k + 0) ps by rw [Nat.one_mul]; exact hz); clear hz
 have HG2 := Lib.hid hg2; clear hg2
 have HLQ := Lib.hid hl2; clear hl2
 have HZQ := Lib.hid (show Pz (1 * k + 0) qs by rw [Nat.one_mul]; exact hz2); clear hz2
 have HCV := Lib.hid hcv; clear hcv
 have HCQ := Lib.hid hcv2; clear hcv2
 go_enter Tryz.func54, Tryz.ntmps54
 have HS : St w [] w := St.start
 go_upto_region 0 with (fail)
 refine rgT [] HS ?_
 iterate 2 refine pU ?_
 refine Seq.done fun ws1 hws => ?_
 have HS1 := hws.st
 clear HS hws
 go_upto_region 1 with (fail)
 refine rgT [] HS1 ?_
 iterate 2 refine pU ?_
 refine cX rfl rfl (fun w h => both_q (k := 1 * k + 0) HT.out HZP.out HL.out HCV.out HZQ.out HLQ.out HCQ.out  (by omega) _ _ w h (h.came HG.out) (h.came HG2.out)) ?_
 refine pU ?_
 refine Seq.done fun ws2 hws => ?_
 have HS2 := hws.st
 clear HS1 hws
 go_upto_region 2 with (fail)
 refine rgT [] HS2 ?_
 iterate 2 refine pU ?_
 refine Seq.done fun ws3 hws => ?_
 have HS3 := hws.st
 clear HS2 hws
 go_upto_region 4 with (fail)
 refine rgT [] HS3 ?_
 iterate 2 refine pU ?_
 refine cX rfl rfl (fun w h => beyond_G (k := 1 * k + 0) HT.out HZP.out HL.out HCV.out HZQ.out HLQ.out HCQ.out HX.out.1 HX.out.2.1 (by omega) _ _ w h (h.came HG.out) (h.came HG2.out)) ?_
 refine pU ?_
 refine pV (.agg (c1)) (fun w => rfl) ?_
 refine pV (.bool false) (fun w => rfl) ?_
 refine aL6 ?_
 intro bk7 _ _ hbk7_r
 refine nZ ?_
 refine Seq.store rfl rfl rfl rfl rfl (by repeat first|exact rS|refine rN ‹_› ?_) (n := 6) rfl HSZ.out.1 (by kernel_rfl) HSZ.out.2.1 (nZ ?_)
 refine pU ?_
 refine Seq.done fun ws4 hws => ?_
 have HS4 := hws.q1 (p := bk7)
 clear HS3 hws
 go_upto_region 5 with (fail)
 refine rgT [] HS4 ?_
 iterate 2 refine pU ?_
 refine cX rfl rfl (fun w h => beyond_G (k := 1 * k + 0) HT.out HZQ.out HLQ.out HCQ.out HZP.out HL.out HCV.out HX.out.2.2.1 HX.out.2.2.2 (by omega) _ _ w h (h.came HG2.out) (h.came HG.out)) ?_
 refine pU ?_
 refine pV (.agg (c2)) (fun w => rfl) ?_
 refine pV (.bool yb) (fun w => rfl) ?_
 refine aL6 ?_
 intro bk9 _ _ hbk9_r
 refine nZ ?_
 refine Seq.store rfl rfl rfl rfl rfl (by repeat first|exact rS|refine rN ‹_› ?_) (n := 6) rfl HSZ.out.2.2.1 (by kernel_rfl) HSZ.out.2.2.2 (nZ ?_)
 refine pU ?_
 refine Seq.done fun ws5 hws => ?_
 have HS5 := hws.q1 (p := bk9)
 clear HS4 hws
 go_upto_region 6 with (fail)
 refine rgT [] HS5 ?_
 iterate 8 refine pU ?_
 refine Seq.done fun ws6 hws => ?_
 have HS6 := hws.st
 clear HS5 hws
 go_wp2_with fail
 go_ret2
 exact ⟨by rw [HM.out]; rfl, HS6.below⟩
set_option maxHeartbeats 4000000 in
set_option maxRecDepth 20000 in
theorem meet_t {k n m : Nat} {ps qs : Pts} {W : World} {l : List Own} (hT : Tab W) (hz : Pz k ps) (hl : ps.length = n) (hcv : 3 ≤ n ∧ n ≤ 64 ∧ Cvx ps) (hz2 : Pz k qs) (hl2 : qs.length = m) (hcv2 : 3 ≤ m ∧ m ≤ 64 ∧ Cvx qs) (hx : bydB ps qs = true) (hk : k ≤ 1000000) (g g2 : Nat) (w : World) (h : St W l w) (hg : Blk w g 29 (PC ps)) (hg2 : Blk w g2 29 (PC qs)) :
  Calls Tryz.prog 54 #[.slice (some ⟨g, 0, none⟩) n n, .slice (some ⟨g2, 0, none⟩) m m] w fun e w' => e = .returned (.tuple #[.bool (meetB ps qs), .int .i64 0]) ∧ Below w.heap.size w w' := by
 obtain ⟨yb, hyb⟩ : ∃ z, bydB qs ps = z := ⟨_, rfl⟩
 obtain ⟨c1, hc1⟩ : ∃ z, bydC ps qs = z := ⟨_, rfl⟩
 obtain ⟨c2, hc2⟩ : ∃ z, bydC qs ps = z := ⟨_, rfl⟩
 have HM := Lib.hid (show meetB ps qs = false by unfold meetB; rw [hx, hyb]; rfl)
 have HSZ := Lib.hid (show c1.size = 6 ∧ (∀ u ∈ c1, u.oneCell' = true) ∧ c2.size = 6 ∧ (∀ u ∈ c2, u.oneCell' = true) from ⟨hc1 ▸ bydC_size _ _, hc1 ▸ bydC_one _ _, hc2 ▸ bydC_size _ _, hc2 ▸ bydC_one _ _⟩)
 have HX := Lib.hid (And.intro hx (And.intro hc1 (And.intro hyb hc2))); clear hx hc1 hyb hc2
 have HT := Lib.hid (tabS hT h); clear hT h
 have HG := Lib.hid hg; clear hg
 have HL := Lib.hid hl; clear hl
 have HNZ := Lib.hid (show ¬ n = 0 by have := hcv.1; omega)
 have HZP := Lib.hid (show Pz (1 * k + 0) ps by rw [Nat.one_mul]; exact hz); clear hz
 have HG2 := Lib.hid hg2; clear hg2
 have HLQ := Lib.hid hl2; clear hl2
 have HZQ := Lib.hid (show Pz (1 * k + 0) qs by rw [Nat.one_mul]; exact hz2); clear hz2
 have HCV := Lib.hid hcv; clear hcv
 have HCQ := Lib.hid hcv2; clear hcv2
 go_enter Tryz.func54, Tryz.ntmps54
 have HS : St w [] w := St.start
 go_upto_region 0 with (fail)
 refine rgT [] HS ?_
 iterate 2 refine pU ?_
 refine Seq.done fun ws1 hws => ?_
 have HS1 := hws.st
 clear HS hws
 go_upto_region 1 with (fail)
 refine rgT [] HS1 ?_
 iterate 2 refine pU ?_
 refine cX rfl rfl (fun w h => both_q (k := 1 * k + 0) HT.out HZP.out HL.out HCV.out HZQ.out HLQ.out HCQ.out  (by omega) _ _ w h (h.came HG.out) (h.came HG2.out)) ?_
 refine pU ?_
 refine Seq.done fun ws2 hws => ?_
 have HS2 := hws.st
 clear HS1 hws
 go_upto_region 2 with (fail)
 refine rgT [] HS2 ?_
 iterate 2 refine pU ?_
 refine Seq.done fun ws3 hws => ?_
 have HS3 := hws.st
 clear HS2 hws
 go_upto_region 4 with (fail)
 refine rgT [] HS3 ?_
 iterate 2 refine pU ?_
 refine cX rfl rfl (fun w h => beyond_G (k := 1 * k + 0) HT.out HZP.out HL.out HCV.out HZQ.out HLQ.out HCQ.out HX.out.1 HX.out.2.1 (by omega) _ _ w h (h.came HG.out) (h.came HG2.out)) ?_
 refine pU ?_
 refine pV (.agg (c1)) (fun w => rfl) ?_
 refine pV (.bool true) (fun w => rfl) ?_
 refine aL6 ?_
 intro bk7 _ _ hbk7_r
 refine nZ ?_
 refine Seq.store rfl rfl rfl rfl rfl (by repeat first|exact rS|refine rN ‹_› ?_) (n := 6) rfl HSZ.out.1 (by kernel_rfl) HSZ.out.2.1 (nZ ?_)
 refine pU ?_
 refine Seq.done fun ws4 hws => ?_
 have HS4 := hws.q1 (p := bk7)
 clear HS3 hws
 go_upto_region 5 with (fail)
 refine rgT [] HS4 ?_
 iterate 2 refine pU ?_
 refine cX rfl rfl (fun w h => beyond_G (k := 1 * k + 0) HT.out HZQ.out HLQ.out HCQ.out HZP.out HL.out HCV.out HX.out.2.2.1 HX.out.2.2.2 (by omega) _ _ w h (h.came HG2.out) (h.came HG.out)) ?_
 refine pU ?_
 refine pV (.agg (c2)) (fun w => rfl) ?_
 refine pV (.bool yb) (fun w => rfl) ?_
 refine aL6 ?_
 intro bk9 _ _ hbk9_r
 refine nZ ?_
 refine Seq.store rfl rfl rfl rfl rfl (by repeat first|exact rS|refine rN ‹_› ?_) (n := 6) rfl HSZ.out.2.2.1 (by kernel_rfl) HSZ.out.2.2.2 (nZ ?_)
 refine pU ?_
 refine Seq.done fun ws5 hws => ?_
 have HS5 := hws.q1 (p := bk9)
 clear HS4 hws
 go_upto_region 6 with (fail)
 refine rgT [] HS5 ?_
 iterate 3 refine pU ?_
 iterate 2 refine nW ?_
 iterate 3 refine pU ?_
 refine Seq.done fun ws6 hws => ?_
 have HS6 := hws.st
 clear HS5 hws
 go_wp2_with fail
 go_ret2
 exact ⟨by rw [HM.out]; rfl, HS6.below⟩
theorem meet_q2 {k n m : Nat} {ps qs : Pts} {W : World} {l : List Own} (hT : Tab W) (hz : Pz k ps) (hl : ps.length = n) (hcv : 3 ≤ n ∧ n ≤ 64 ∧ Cvx ps) (hz2 : Pz k qs) (hl2 : qs.length = m) (hcv2 : 3 ≤ m ∧ m ≤ 64 ∧ Cvx qs) {z0 : Bool} (hz0 : meetB ps qs = z0) (hk : k ≤ 1000000) (g g2 : Nat) (w : World) (h : St W l w) (hg : Blk w g 29 (PC ps)) (hg2 : Blk w g2 29 (PC qs)) :
  Calls Tryz.prog 54 #[.slice (some ⟨g, 0, none⟩) n n, .slice (some ⟨g2, 0, none⟩) m m] w fun e w' => e = .returned (.tuple #[.bool z0, .int .i64 0]) ∧ Below w.heap.size w w' := by
 rw [← hz0]
 cases hx : bydB ps qs with
 | true => exact meet_t hT hz hl hcv hz2 hl2 hcv2 hx hk g g2 w h hg hg2
 | false => exact meet_f hT hz hl hcv hz2 hl2 hcv2 hx hk g g2 w h hg hg2
end Go.Proofs.YtmchjmflkaiakaaGreatDoor
