/- Joined texts: PoA Ap1. -/
import Derived.Test.YtmchjmflkaiakaaGreatDoorPo2
import Derived.Test.YtmchjmflkaiakaaGreatDoorPo4
import Derived.Deep.LoopGhost
/- Plain laws of polygons that are apart. -/
namespace Go.Proofs.YtmchjmflkaiakaaGreatDoor
open Go.RowKit
set_option linter.unusedVariables false
set_option linter.unusedSimpArgs false

theorem sgn_le {a : Rat} : sgnQ a ≤ 0 ↔ a ≤ 0 := by unfold sgnQ cmpQ; split <;> (try split) <;> grind
theorem cmp_le_iff {a b : Rat} : 0 ≤ cmpQ a b ↔ b ≤ a := by unfold cmpQ; split <;> (try split) <;> grind
def dt (a b : Pts) (i j : Nat) : Rat := (py a ((i + 1) % a.length) - py a i) * (px b j - px a i) + (-(px a ((i + 1) % a.length) - px a i)) * (py b j - py a i)
def sepB (a b : Pts) (i : Nat) : Bool := (List.range b.length).all fun j => decide (0 < dt a b i j)
def bydB (a b : Pts) : Bool := (List.range a.length).any fun i => sepB a b i
def meetB (a b : Pts) : Bool := !bydB a b && !bydB b a
def teQ (x y ax ay bx by_ : Rat) : Rat :=
 if (x - ax) * (bx - ax) + (y - ay) * (by_ - ay) ≤ 0 then (x - ax) * (x - ax) + (y - ay) * (y - ay)
 else if (bx - ax) * (bx - ax) + (by_ - ay) * (by_ - ay) ≤ (x - ax) * (bx - ax) + (y - ay) * (by_ - ay) then (x - bx) * (x - bx) + (y - by_) * (y - by_)
 else (((bx - ax) * (y - ay) - (by_ - ay) * (x - ax)) * ((bx - ax) * (y - ay) - (by_ - ay) * (x - ax))) / ((bx - ax) * (bx - ax) + (by_ - ay) * (by_ - ay))
def nearF (x y : Rat) (b : Pts) : Nat → Rat
 | 0 => teQ x y (px b 0) (py b 0) (px b 1) (py b 1)
 | j + 1 => minQ (nearF x y b j) (teQ x y (px b j) (py b j) (px b ((j + 1) % b.length)) (py b ((j + 1) % b.length)))
def nearQ (x y : Rat) (b : Pts) : Rat := nearF x y b b.length
def sqA (a b : Pts) : Nat → Rat
 | 0 => nearQ (px a 0) (py a 0) b
 | i + 1 => minQ (sqA a b i) (nearQ (px a i) (py a i) b)
def sqB (a b : Pts) (v : Rat) : Nat → Rat
 | 0 => v
 | j + 1 => minQ (sqB a b v j) (nearQ (px b j) (py b j) a)
def sqQ (a b : Pts) : Rat := if meetB a b = true then 0 else sqB a b (sqA a b a.length) b.length
theorem sq_zero {a b : Pts} (hm : meetB a b = true) : sqQ a b = 0 := if_pos hm
section
variable {c s tx ty : Rat} (h : c * c + s * s = 1)
include h
end
set_option maxHeartbeats 2000000 in
set_option maxRecDepth 20000 in
theorem te_0 {k : Nat} {p1 p2 a1 a2 b1 b2 : Rat} {W : World} {l : List Own} (hT : Tab W) (Zp1 : Rz k p1) (Zp2 : Rz k p2) (Za1 : Rz k a1) (Za2 : Rz k a2) (Zb1 : Rz k b1) (Zb2 : Rz k b2) (h1 : (p1 - a1) * (b1 - a1) + (p2 - a2) * (b2 - a2) ≤ 0) (hk : k ≤ 1000000000) (w : World) (h : St W l w) :
  Calls Tryz.prog 140 #[.agg (VC p1 p2), .agg (VC a1 a2), .agg (VC b1 b2)] w fun e w' => e = .returned (.agg (RC ((p1 - a1) * (p1 - a1) + (p2 - a2) * (p2 - a2)))) ∧ Below w.heap.size w w' := by
 have HT := Lib.hid (tabS hT h); clear hT h
 have Z_p1 := Lib.hid Zp1; clear Zp1
 have Z_p2 := Lib.hid Zp2; clear Zp2
 have Z_a1 := Lib.hid Za1; clear Za1
 have Z_a2 := Lib.hid Za2; clear Za2
 have Z_b1 := Lib.hid Zb1; clear Zb1
 have Z_b2 := Lib.hid Zb2; clear Zb2
 obtain ⟨sv, hsv, hs0⟩ : ∃ v, sgnQ ((p1 - a1) * (b1 - a1) + (p2 - a2) * (b2 - a2)) = v ∧ decide (v ≤ 0) = true := ⟨_, rfl, decide_eq_true (sgn_le.2 h1)⟩
 have HSV := Lib.hid hsv; clear hsv
 clear h1
 go_enter Tryz.func140, Tryz.ntmps140
 have HS : St w [] w := St.start
 go_upto_region 0 with (fail)
 refine rgT [] HS ?_
 refine bX (VC p1 p2) ?_
 intro bk3 _ _ hbk3_r
 refine nZ ?_
 refine bX (VC a1 a2) ?_
 intro bk4 _ _ hbk4_r
 obtain ⟨_, _, hbk4_r⟩ := Reg.ne2 hbk4_r
 refine nZ ?_
 refine bX (VC b1 b2) ?_
 intro bk5 _ _ hbk5_r
 obtain ⟨_, _, hbk5_r⟩ := Reg.ne2 hbk5_r
 obtain ⟨_, _, hbk5_r⟩ := Reg.ne2 hbk5_r
 refine nZ ?_
 refine aL3 ?_
 intro bk6 _ _ hbk6_r
 obtain ⟨_, _, hbk6_r⟩ := Reg.ne2 hbk6_r
 obtain ⟨_, _, hbk6_r⟩ := Reg.ne2 hbk6_r
 obtain ⟨_, _, hbk6_r⟩ := Reg.ne2 hbk6_r
 refine nZ ?_
 refine Seq.done fun ws1 hws => ?_
 have HS1 : St w [(bk3, 29, VC p1 p2), (bk4, 29, VC a1 a2), (bk5, 29, VC b1 b2), (bk6, 27, #[.bool false, .string ⟨#[]⟩, .string ⟨#[]⟩])] ws1 := hws.listN [(bk3, 29, VC p1 p2), (bk4, 29, VC a1 a2), (bk5, 29, VC b1 b2), (bk6, 27, #[.bool false, .string ⟨#[]⟩, .string ⟨#[]⟩])] (by simp [*]) (by intro e he; simp only [List.mem_cons, List.not_mem_nil, or_false] at he; rcases he with rfl | rfl | rfl | rfl <;> first | exact Reg.put_same _ _ _ | simp [Reg.put, *])
 clear HS hws
 go_upto_region 1 with (fail)
 refine rgW [] HS1 ?_
 refine lV ?_
 refine lV ?_
 refine cX rfl rfl (vsub_q (k := (1 * k + 0)) HT.out (Z_b1.out.more (by omega)) (Z_b2.out.more (by omega)) (Z_a1.out.more (by omega)) (Z_a2.out.more (by omega))  rfl rfl (by omega)) ?_
 refine lV ?_
 refine lV ?_
 refine cX rfl rfl (vsub_q (k := (1 * k + 0)) HT.out (Z_p1.out.more (by omega)) (Z_p2.out.more (by omega)) (Z_a1.out.more (by omega)) (Z_a2.out.more (by omega))  rfl rfl (by omega)) ?_
 refine aL6 ?_
 intro bk7 _ _ hbk7_r
 refine nZ ?_
 refine aL6 ?_
 intro bk8 _ _ hbk8_r
 obtain ⟨_, _, hbk8_r⟩ := Reg.ne2 hbk8_r
 refine nZ ?_
 refine sV (VC_one _ _) ?_
 refine sV (VC_one _ _) ?_
 refine Seq.done fun ws2 hws => ?_
 have HS2 := hws.q2 (p := bk7) (q := bk8)
 clear HS1 hws
 go_upto_region 2 with (fail)
 refine rgT [] HS2 ?_
 refine lV ?_
 refine lV ?_
 refine cX rfl rfl (dot_q (k := (4 * k + 1)) HT.out ((Z_p1.out.sub Z_a1.out).more (by omega)) ((Z_p2.out.sub Z_a2.out).more (by omega)) ((Z_b1.out.sub Z_a1.out).more (by omega)) ((Z_b2.out.sub Z_a2.out).more (by omega))  rfl (by omega)) ?_
 refine aL3 ?_
 intro bk9 _ _ hbk9_r
 refine nZ ?_
 refine sV (RC_one _) ?_
 refine Seq.done fun ws3 hws => ?_
 have HS3 := hws.q1 (p := bk9)
 clear HS2 hws
 go_upto_region 3 with (fail)
 refine rgT [] HS3 ?_
 refine lV ?_
 refine lV ?_
 refine cX rfl rfl (dot_q (k := (4 * k + 1)) HT.out ((Z_b1.out.sub Z_a1.out).more (by omega)) ((Z_b2.out.sub Z_a2.out).more (by omega)) ((Z_b1.out.sub Z_a1.out).more (by omega)) ((Z_b2.out.sub Z_a2.out).more (by omega))  rfl (by omega)) ?_
 refine aL3 ?_
 intro bk10 _ _ hbk10_r
 refine nZ ?_
 refine sV (RC_one _) ?_
 refine Seq.done fun ws4 hws => ?_
 have HS4 := hws.q1 (p := bk10)
 clear HS3 hws
 go_upto_region 4 with (fail)
 refine rgT [] HS4 ?_
 refine lV ?_
 refine cX rfl rfl (sign_q (k := (32 * k + 9)) HT.out ((((Z_p1.out.sub Z_a1.out).mul (Z_b1.out.sub Z_a1.out)).add ((Z_p2.out.sub Z_a2.out).mul (Z_b2.out.sub Z_a2.out))).more (by omega)) HSV.out (by omega)) ?_
 iterate 2 refine pU ?_
 refine Seq.done fun ws5 hws => ?_
 have HS5 := hws.st
 clear HS4 hws
 go_upto_region 5 with (fail)
 have HPbk6 := HS5.p7
 refine wp_seq_text [] (StR.move (StR.no HPbk6)) ?_
 refine lV ?_
 refine lV ?_
 refine cX rfl rfl (dot_q (k := (4 * k + 1)) HT.out ((Z_p1.out.sub Z_a1.out).more (by omega)) ((Z_p2.out.sub Z_a2.out).more (by omega)) ((Z_p1.out.sub Z_a1.out).more (by omega)) ((Z_p2.out.sub Z_a2.out).more (by omega))  rfl (by omega)) ?_
 refine sV (RC_one _) ?_
 refine Seq.done fun ws6 hws => ?_
 have HS6 := hws.q1 (p := bk6)
 clear HS5 hws HPbk6
 go_wp2_with fail
 exact rO HS6 ⟨rfl, HS6.below⟩
set_option maxHeartbeats 2000000 in
set_option maxRecDepth 20000 in
theorem te_1 {k : Nat} {p1 p2 a1 a2 b1 b2 : Rat} {W : World} {l : List Own} (hT : Tab W) (Zp1 : Rz k p1) (Zp2 : Rz k p2) (Za1 : Rz k a1) (Za2 : Rz k a2) (Zb1 : Rz k b1) (Zb2 : Rz k b2) (h1 : ¬ (p1 - a1) * (b1 - a1) + (p2 - a2) * (b2 - a2) ≤ 0) (h2 : (b1 - a1) * (b1 - a1) + (b2 - a2) * (b2 - a2) ≤ (p1 - a1) * (b1 - a1) + (p2 - a2) * (b2 - a2)) (hk : k ≤ 1000000000) (w : World) (h : St W l w) :
  Calls Tryz.prog 140 #[.agg (VC p1 p2), .agg (VC a1 a2), .agg (VC b1 b2)] w fun e w' => e = .returned (.agg (RC ((p1 - b1) * (p1 - b1) + (p2 - b2) * (p2 - b2)))) ∧ Below w.heap.size w w' := by
 have HT := Lib.hid (tabS hT h); clear hT h
 have Z_p1 := Lib.hid Zp1; clear Zp1
 have Z_p2 := Lib.hid Zp2; clear Zp2
 have Z_a1 := Lib.hid Za1; clear Za1
 have Z_a2 := Lib.hid Za2; clear Za2
 have Z_b1 := Lib.hid Zb1; clear Zb1
 have Z_b2 := Lib.hid Zb2; clear Zb2
 obtain ⟨sv, hsv, hs0⟩ : ∃ v, sgnQ ((p1 - a1) * (b1 - a1) + (p2 - a2) * (b2 - a2)) = v ∧ decide (v ≤ 0) = false := ⟨_, rfl, decide_eq_false (fun c => h1 (sgn_le.1 c))⟩
 have HSV := Lib.hid hsv; clear hsv
 obtain ⟨cv, hcv, hc0⟩ : ∃ v, cmpQ ((p1 - a1) * (b1 - a1) + (p2 - a2) * (b2 - a2)) ((b1 - a1) * (b1 - a1) + (b2 - a2) * (b2 - a2)) = v ∧ decide (0 ≤ v) = true := ⟨_, rfl, decide_eq_true (cmp_le_iff.2 h2)⟩
 have HCV := Lib.hid hcv; clear hcv
 clear h1 h2
 go_enter Tryz.func140, Tryz.ntmps140
 have HS : St w [] w := St.start
 go_upto_region 0 with (fail)
 refine rgT [] HS ?_
 refine bX (VC p1 p2) ?_
 intro bk3 _ _ hbk3_r
 refine nZ ?_
 refine bX (VC a1 a2) ?_
 intro bk4 _ _ hbk4_r
 obtain ⟨_, _, hbk4_r⟩ := Reg.ne2 hbk4_r
 refine nZ ?_
 refine bX (VC b1 b2) ?_
 intro bk5 _ _ hbk5_r
 obtain ⟨_, _, hbk5_r⟩ := Reg.ne2 hbk5_r
 obtain ⟨_, _, hbk5_r⟩ := Reg.ne2 hbk5_r
 refine nZ ?_
 refine aL3 ?_
 intro bk6 _ _ hbk6_r
 obtain ⟨_, _, hbk6_r⟩ := Reg.ne2 hbk6_r
 obtain ⟨_, _, hbk6_r⟩ := Reg.ne2 hbk6_r
 obtain ⟨_, _, hbk6_r⟩ := Reg.ne2 hbk6_r
 refine nZ ?_
 refine Seq.done fun ws1 hws => ?_
 have HS1 : St w [(bk3, 29, VC p1 p2), (bk4, 29, VC a1 a2), (bk5, 29, VC b1 b2), (bk6, 27, #[.bool false, .string ⟨#[]⟩, .string ⟨#[]⟩])] ws1 := hws.listN [(bk3, 29, VC p1 p2), (bk4, 29, VC a1 a2), (bk5, 29, VC b1 b2), (bk6, 27, #[.bool false, .string ⟨#[]⟩, .string ⟨#[]⟩])] (by simp [*]) (by intro e he; simp only [List.mem_cons, List.not_mem_nil, or_false] at he; rcases he with rfl | rfl | rfl | rfl <;> first | exact Reg.put_same _ _ _ | simp [Reg.put, *])
 clear HS hws
 go_upto_region 1 with (fail)
 refine rgW [] HS1 ?_
 refine lV ?_
 refine lV ?_
 refine cX rfl rfl (vsub_q (k := (1 * k + 0)) HT.out (Z_b1.out.more (by omega)) (Z_b2.out.more (by omega)) (Z_a1.out.more (by omega)) (Z_a2.out.more (by omega))  rfl rfl (by omega)) ?_
 refine lV ?_
 refine lV ?_
 refine cX rfl rfl (vsub_q (k := (1 * k + 0)) HT.out (Z_p1.out.more (by omega)) (Z_p2.out.more (by omega)) (Z_a1.out.more (by omega)) (Z_a2.out.more (by omega))  rfl rfl (by omega)) ?_
 refine aL6 ?_
 intro bk7 _ _ hbk7_r
 refine nZ ?_
 refine aL6 ?_
 intro bk8 _ _ hbk8_r
 obtain ⟨_, _, hbk8_r⟩ := Reg.ne2 hbk8_r
 refine nZ ?_
 refine sV (VC_one _ _) ?_
 refine sV (VC_one _ _) ?_
 refine Seq.done fun ws2 hws => ?_
 have HS2 := hws.q2 (p := bk7) (q := bk8)
 clear HS1 hws
 go_upto_region 2 with (fail)
 refine rgT [] HS2 ?_
 refine lV ?_
 refine lV ?_
 refine cX rfl rfl (dot_q (k := (4 * k + 1)) HT.out ((Z_p1.out.sub Z_a1.out).more (by omega)) ((Z_p2.out.sub Z_a2.out).more (by omega)) ((Z_b1.out.sub Z_a1.out).more (by omega)) ((Z_b2.out.sub Z_a2.out).more (by omega))  rfl (by omega)) ?_
 refine aL3 ?_
 intro bk9 _ _ hbk9_r
 refine nZ ?_
 refine sV (RC_one _) ?_
 refine Seq.done fun ws3 hws => ?_
 have HS3 := hws.q1 (p := bk9)
 clear HS2 hws
 go_upto_region 3 with (fail)
 refine rgT [] HS3 ?_
 refine lV ?_
 refine lV ?_
 refine cX rfl rfl (dot_q (k := (4 * k + 1)) HT.out ((Z_b1.out.sub Z_a1.out).more (by omega)) ((Z_b2.out.sub Z_a2.out).more (by omega)) ((Z_b1.out.sub Z_a1.out).more (by omega)) ((Z_b2.out.sub Z_a2.out).more (by omega))  rfl (by omega)) ?_
 refine aL3 ?_
 intro bk10 _ _ hbk10_r
 refine nZ ?_
 refine sV (RC_one _) ?_
 refine Seq.done fun ws4 hws => ?_
 have HS4 := hws.q1 (p := bk10)
 clear HS3 hws
 go_upto_region 4 with (fail)
 refine rgT [] HS4 ?_
 refine lV ?_
 refine cX rfl rfl (sign_q (k := (32 * k + 9)) HT.out ((((Z_p1.out.sub Z_a1.out).mul (Z_b1.out.sub Z_a1.out)).add ((Z_p2.out.sub Z_a2.out).mul (Z_b2.out.sub Z_a2.out))).more (by omega)) HSV.out (by omega)) ?_
 iterate 2 refine pU ?_
 refine Seq.done fun ws5 hws => ?_
 have HS5 := hws.st
 clear HS4 hws
 go_upto_region 6 with (fail)
 refine rgT [] HS5 ?_
 refine lV ?_
 refine lV ?_
 refine cX rfl rfl (cmp_q (k := (32 * k + 9)) HT.out ((((Z_p1.out.sub Z_a1.out).mul (Z_b1.out.sub Z_a1.out)).add ((Z_p2.out.sub Z_a2.out).mul (Z_b2.out.sub Z_a2.out))).more (by omega)) ((((Z_b1.out.sub Z_a1.out).mul (Z_b1.out.sub Z_a1.out)).add ((Z_b2.out.sub Z_a2.out).mul (Z_b2.out.sub Z_a2.out))).more (by omega)) HCV.out (by omega)) ?_
 iterate 2 refine pU ?_
 refine Seq.done fun ws6 hws => ?_
 have HS6 := hws.st
 clear HS5 hws
 go_upto_region 7 with (fail)
 refine rgT [] HS6 ?_
 refine lV ?_
 refine lV ?_
 refine cX rfl rfl (vsub_q (k := (1 * k + 0)) HT.out (Z_p1.out.more (by omega)) (Z_p2.out.more (by omega)) (Z_b1.out.more (by omega)) (Z_b2.out.more (by omega))  rfl rfl (by omega)) ?_
 refine aL6 ?_
 intro bk11 _ _ hbk11_r
 refine nZ ?_
 refine sV (VC_one _ _) ?_
 refine Seq.done fun ws7 hws => ?_
 have HS7 := hws.q1 (p := bk11)
 clear HS6 hws
 go_upto_region 8 with (fail)
 have HPbk6 := HS7.p8
 refine wp_seq_text [] (StR.move (StR.no HPbk6)) ?_
 refine lV ?_
 refine lV ?_
 refine cX rfl rfl (dot_q (k := (4 * k + 1)) HT.out ((Z_p1.out.sub Z_b1.out).more (by omega)) ((Z_p2.out.sub Z_b2.out).more (by omega)) ((Z_p1.out.sub Z_b1.out).more (by omega)) ((Z_p2.out.sub Z_b2.out).more (by omega))  rfl (by omega)) ?_
 refine sV (RC_one _) ?_
 refine Seq.done fun ws8 hws => ?_
 have HS8 := hws.q1 (p := bk6)
 clear HS7 hws HPbk6
 go_wp2_with fail
 exact rO HS8 ⟨rfl, HS8.below⟩
set_option maxHeartbeats 2000000 in
set_option maxRecDepth 20000 in
theorem te_2 {k : Nat} {p1 p2 a1 a2 b1 b2 : Rat} {W : World} {l : List Own} (hT : Tab W) (Zp1 : Rz k p1) (Zp2 : Rz k p2) (Za1 : Rz k a1) (Za2 : Rz k a2) (Zb1 : Rz k b1) (Zb2 : Rz k b2) (h1 : ¬ (p1 - a1) * (b1 - a1) + (p2 - a2) * (b2 - a2) ≤ 0) (h2 : ¬ (b1 - a1) * (b1 - a1) + (b2 - a2) * (b2 - a2) ≤ (p1 - a1) * (b1 - a1) + (p2 - a2) * (b2 - a2)) (hk : k ≤ 1000000000) (w : World) (h : St W l w) :
  Calls Tryz.prog 140 #[.agg (VC p1 p2), .agg (VC a1 a2), .agg (VC b1 b2)] w fun e w' => e = .returned (.agg (RC ((((b1 - a1) * (p2 - a2) - (b2 - a2) * (p1 - a1)) * ((b1 - a1) * (p2 - a2) - (b2 - a2) * (p1 - a1))) / ((b1 - a1) * (b1 - a1) + (b2 - a2) * (b2 - a2))))) ∧ Below w.heap.size w w' := by
 have HT := Lib.hid (tabS hT h); clear hT h
 have Z_p1 := Lib.hid Zp1; clear Zp1
 have Z_p2 := Lib.hid Zp2; clear Zp2
 have Z_a1 := Lib.hid Za1; clear Za1
 have Z_a2 := Lib.hid Za2; clear Za2
 have Z_b1 := Lib.hid Zb1; clear Zb1
 have Z_b2 := Lib.hid Zb2; clear Zb2
 obtain ⟨sv, hsv, hs0⟩ : ∃ v, sgnQ ((p1 - a1) * (b1 - a1) + (p2 - a2) * (b2 - a2)) = v ∧ decide (v ≤ 0) = false := ⟨_, rfl, decide_eq_false (fun c => h1 (sgn_le.1 c))⟩
 have HSV := Lib.hid hsv; clear hsv
 obtain ⟨cv, hcv, hc0⟩ : ∃ v, cmpQ ((p1 - a1) * (b1 - a1) + (p2 - a2) * (b2 - a2)) ((b1 - a1) * (b1 - a1) + (b2 - a2) * (b2 - a2)) = v ∧ decide (0 ≤ v) = false := ⟨_, rfl, decide_eq_false (fun c => h2 (cmp_le_iff.1 c))⟩
 have HCV := Lib.hid hcv; clear hcv
 have HNE := Lib.hid (show (b1 - a1) * (b1 - a1) + (b2 - a2) * (b2 - a2) ≠ 0 from fun c => h2 (by rw [c]; grind))
 clear h1 h2
 go_enter Tryz.func140, Tryz.ntmps140
 have HS : St w [] w := St.start
 go_upto_region 0 with (fail)
 refine rgT [] HS ?_
 refine bX (VC p1 p2) ?_
 intro bk3 _ _ hbk3_r
 refine nZ ?_
 refine bX (VC a1 a2) ?_
 intro bk4 _ _ hbk4_r
 obtain ⟨_, _, hbk4_r⟩ := Reg.ne2 hbk4_r
 refine nZ ?_
 refine bX (VC b1 b2) ?_
 intro bk5 _ _ hbk5_r
 obtain ⟨_, _, hbk5_r⟩ := Reg.ne2 hbk5_r
 obtain ⟨_, _, hbk5_r⟩ := Reg.ne2 hbk5_r
 refine nZ ?_
 refine aL3 ?_
 intro bk6 _ _ hbk6_r
 obtain ⟨_, _, hbk6_r⟩ := Reg.ne2 hbk6_r
 obtain ⟨_, _, hbk6_r⟩ := Reg.ne2 hbk6_r
 obtain ⟨_, _, hbk6_r⟩ := Reg.ne2 hbk6_r
 refine nZ ?_
 refine Seq.done fun ws1 hws => ?_
 have HS1 : St w [(bk3, 29, VC p1 p2), (bk4, 29, VC a1 a2), (bk5, 29, VC b1 b2), (bk6, 27, #[.bool false, .string ⟨#[]⟩, .string ⟨#[]⟩])] ws1 := hws.listN [(bk3, 29, VC p1 p2), (bk4, 29, VC a1 a2), (bk5, 29, VC b1 b2), (bk6, 27, #[.bool false, .string ⟨#[]⟩, .string ⟨#[]⟩])] (by simp [*]) (by intro e he; simp only [List.mem_cons, List.not_mem_nil, or_false] at he; rcases he with rfl | rfl | rfl | rfl <;> first | exact Reg.put_same _ _ _ | simp [Reg.put, *])
 clear HS hws
 go_upto_region 1 with (fail)
 refine rgW [] HS1 ?_
 refine lV ?_
 refine lV ?_
 refine cX rfl rfl (vsub_q (k := (1 * k + 0)) HT.out (Z_b1.out.more (by omega)) (Z_b2.out.more (by omega)) (Z_a1.out.more (by omega)) (Z_a2.out.more (by omega))  rfl rfl (by omega)) ?_
 refine lV ?_
 refine lV ?_
 refine cX rfl rfl (vsub_q (k := (1 * k + 0)) HT.out (Z_p1.out.more (by omega)) (Z_p2.out.more (by omega)) (Z_a1.out.more (by omega)) (Z_a2.out.more (by omega))  rfl rfl (by omega)) ?_
 refine aL6 ?_
 intro bk7 _ _ hbk7_r
 refine nZ ?_
 refine aL6 ?_
 intro bk8 _ _ hbk8_r
 obtain ⟨_, _, hbk8_r⟩ := Reg.ne2 hbk8_r
 refine nZ ?_
 refine sV (VC_one _ _) ?_
 refine sV (VC_one _ _) ?_
 refine Seq.done fun ws2 hws => ?_
 have HS2 := hws.q2 (p := bk7) (q := bk8)
 clear HS1 hws
 go_upto_region 2 with (fail)
 refine rgT [] HS2 ?_
 refine lV ?_
 refine lV ?_
 refine cX rfl rfl (dot_q (k := (4 * k + 1)) HT.out ((Z_p1.out.sub Z_a1.out).more (by omega)) ((Z_p2.out.sub Z_a2.out).more (by omega)) ((Z_b1.out.sub Z_a1.out).more (by omega)) ((Z_b2.out.sub Z_a2.out).more (by omega))  rfl (by omega)) ?_
 refine aL3 ?_
 intro bk9 _ _ hbk9_r
 refine nZ ?_
 refine sV (RC_one _) ?_
 refine Seq.done fun ws3 hws => ?_
 have HS3 := hws.q1 (p := bk9)
 clear HS2 hws
 go_upto_region 3 with (fail)
 refine rgT [] HS3 ?_
 refine lV ?_
 refine lV ?_
 refine cX rfl rfl (dot_q (k := (4 * k + 1)) HT.out ((Z_b1.out.sub Z_a1.out).more (by omega)) ((Z_b2.out.sub Z_a2.out).more (by omega)) ((Z_b1.out.sub Z_a1.out).more (by omega)) ((Z_b2.out.sub Z_a2.out).more (by omega))  rfl (by omega)) ?_
 refine aL3 ?_
 intro bk10 _ _ hbk10_r
 refine nZ ?_
 refine sV (RC_one _) ?_
 refine Seq.done fun ws4 hws => ?_
 have HS4 := hws.q1 (p := bk10)
 clear HS3 hws
 go_upto_region 4 with (fail)
 refine rgT [] HS4 ?_
 refine lV ?_
 refine cX rfl rfl (sign_q (k := (32 * k + 9)) HT.out ((((Z_p1.out.sub Z_a1.out).mul (Z_b1.out.sub Z_a1.out)).add ((Z_p2.out.sub Z_a2.out).mul (Z_b2.out.sub Z_a2.out))).more (by omega)) HSV.out (by omega)) ?_
 iterate 2 refine pU ?_
 refine Seq.done fun ws5 hws => ?_
 have HS5 := hws.st
 clear HS4 hws
 go_upto_region 6 with (fail)
 refine rgT [] HS5 ?_
 refine lV ?_
 refine lV ?_
 refine cX rfl rfl (cmp_q (k := (32 * k + 9)) HT.out ((((Z_p1.out.sub Z_a1.out).mul (Z_b1.out.sub Z_a1.out)).add ((Z_p2.out.sub Z_a2.out).mul (Z_b2.out.sub Z_a2.out))).more (by omega)) ((((Z_b1.out.sub Z_a1.out).mul (Z_b1.out.sub Z_a1.out)).add ((Z_b2.out.sub Z_a2.out).mul (Z_b2.out.sub Z_a2.out))).more (by omega)) HCV.out (by omega)) ?_
 iterate 2 refine pU ?_
 refine Seq.done fun ws6 hws => ?_
 have HS6 := hws.st
 clear HS5 hws
 go_upto_region 9 with (fail)
 refine rgT [] HS6 ?_
 refine lV ?_
 refine lV ?_
 refine cX rfl rfl (cross_q (k := (4 * k + 1)) HT.out ((Z_b1.out.sub Z_a1.out).more (by omega)) ((Z_b2.out.sub Z_a2.out).more (by omega)) ((Z_p1.out.sub Z_a1.out).more (by omega)) ((Z_p2.out.sub Z_a2.out).more (by omega))  rfl (by omega)) ?_
 refine aL3 ?_
 intro bk12 _ _ hbk12_r
 refine nZ ?_
 refine sV (RC_one _) ?_
 refine Seq.done fun ws7 hws => ?_
 have HS7 := hws.q1 (p := bk12)
 clear HS6 hws
 go_upto_region 10 with (fail)
 refine rgW [] HS7 ?_
 refine lV ?_
 refine lV ?_
 refine cX rfl rfl (mul_q (k := (32 * k + 9)) HT.out ((((Z_b1.out.sub Z_a1.out).mul (Z_p2.out.sub Z_a2.out)).sub ((Z_b2.out.sub Z_a2.out).mul (Z_p1.out.sub Z_a1.out))).more (by omega)) ((((Z_b1.out.sub Z_a1.out).mul (Z_p2.out.sub Z_a2.out)).sub ((Z_b2.out.sub Z_a2.out).mul (Z_p1.out.sub Z_a1.out))).more (by omega)) rfl (by omega)) ?_
 refine lV ?_
 refine cX rfl rfl (div_q (k := (64 * k + 18)) HT.out (((((Z_b1.out.sub Z_a1.out).mul (Z_p2.out.sub Z_a2.out)).sub ((Z_b2.out.sub Z_a2.out).mul (Z_p1.out.sub Z_a1.out))).mul (((Z_b1.out.sub Z_a1.out).mul (Z_p2.out.sub Z_a2.out)).sub ((Z_b2.out.sub Z_a2.out).mul (Z_p1.out.sub Z_a1.out)))).more (by omega)) ((((Z_b1.out.sub Z_a1.out).mul (Z_b1.out.sub Z_a1.out)).add ((Z_b2.out.sub Z_a2.out).mul (Z_b2.out.sub Z_a2.out))).more (by omega)) HNE.out rfl (by omega)) ?_
 refine pU ?_
 refine pV (.agg (RC (((((b1 - a1) * (p2 - a2)) - ((b2 - a2) * (p1 - a1))) * (((b1 - a1) * (p2 - a2)) - ((b2 - a2) * (p1 - a1)))) / (((b1 - a1) * (b1 - a1)) + ((b2 - a2) * (b2 - a2)))))) (fun w => rfl) ?_
 refine pV (.int .i64 0) (fun w => rfl) ?_
 refine aL3 ?_
 intro bk13 _ _ hbk13_r
 refine nZ ?_
 refine sV (RC_one _) ?_
 refine pU ?_
 refine Seq.done fun ws8 hws => ?_
 have HS8 := hws.q1 (p := bk13)
 clear HS7 hws
 go_upto_region 11 with (fail)
 have HPbk6 : St w [(bk6, 27, #[.bool false, .string ⟨#[]⟩, .string ⟨#[]⟩]), (bk13, 27, RC (((((b1 - a1) * (p2 - a2)) - ((b2 - a2) * (p1 - a1))) * (((b1 - a1) * (p2 - a2)) - ((b2 - a2) * (p1 - a1)))) / (((b1 - a1) * (b1 - a1)) + ((b2 - a2) * (b2 - a2))))), (bk12, 27, RC (((b1 - a1) * (p2 - a2)) - ((b2 - a2) * (p1 - a1)))), (bk10, 27, RC (((b1 - a1) * (b1 - a1)) + ((b2 - a2) * (b2 - a2)))), (bk9, 27, RC (((p1 - a1) * (b1 - a1)) + ((p2 - a2) * (b2 - a2)))), (bk7, 29, VC (b1 - a1) (b2 - a2)), (bk8, 29, VC (p1 - a1) (p2 - a2)), (bk3, 29, VC p1 p2), (bk4, 29, VC a1 a2), (bk5, 29, VC b1 b2)] _ := St.perm HS8 (List.perm_middle (l₁ := ([(bk13, 27, RC (((((b1 - a1) * (p2 - a2)) - ((b2 - a2) * (p1 - a1))) * (((b1 - a1) * (p2 - a2)) - ((b2 - a2) * (p1 - a1)))) / (((b1 - a1) * (b1 - a1)) + ((b2 - a2) * (b2 - a2))))), (bk12, 27, RC (((b1 - a1) * (p2 - a2)) - ((b2 - a2) * (p1 - a1)))), (bk10, 27, RC (((b1 - a1) * (b1 - a1)) + ((b2 - a2) * (b2 - a2)))), (bk9, 27, RC (((p1 - a1) * (b1 - a1)) + ((p2 - a2) * (b2 - a2)))), (bk7, 29, VC (b1 - a1) (b2 - a2)), (bk8, 29, VC (p1 - a1) (p2 - a2)), (bk3, 29, VC p1 p2), (bk4, 29, VC a1 a2), (bk5, 29, VC b1 b2)] : List Own)))
 refine wp_seq_text [] (StR.move (StR.no HPbk6)) ?_
 refine lV ?_
 refine sV (RC_one _) ?_
 refine Seq.done fun ws9 hws => ?_
 have HS9 := hws.q1 (p := bk6)
 clear HS8 hws HPbk6
 go_wp2_with fail
 exact rO HS9 ⟨rfl, HS9.below⟩
theorem te_q {k : Nat} {p1 p2 a1 a2 b1 b2 z0 : Rat} {W : World} {l : List Own} (hT : Tab W) (Zp1 : Rz k p1) (Zp2 : Rz k p2) (Za1 : Rz k a1) (Za2 : Rz k a2) (Zb1 : Rz k b1) (Zb2 : Rz k b2) (hz0 : teQ p1 p2 a1 a2 b1 b2 = z0) (hk : k ≤ 1000000000) (w : World) (h : St W l w) :
  Calls Tryz.prog 140 #[.agg (VC p1 p2), .agg (VC a1 a2), .agg (VC b1 b2)] w fun e w' => e = .returned (.agg (RC z0)) ∧ Below w.heap.size w w' := by
 subst hz0
 unfold teQ
 split
 ·rename_i h1; exact te_0 hT Zp1 Zp2 Za1 Za2 Zb1 Zb2 h1 hk w h
 ·rename_i h1
  split
  ·rename_i h2; exact te_1 hT Zp1 Zp2 Za1 Za2 Zb1 Zb2 h1 h2 hk w h
  ·rename_i h2; exact te_2 hT Zp1 Zp2 Za1 Za2 Zb1 Zb2 h1 h2 hk w h
theorem te_rz {k : Nat} {p1 p2 a1 a2 b1 b2 : Rat} (Zp1 : Rz k p1) (Zp2 : Rz k p2) (Za1 : Rz k a1) (Za2 : Rz k a2) (Zb1 : Rz k b1) (Zb2 : Rz k b2) : Rz (96 * k + 27) (teQ p1 p2 a1 a2 b1 b2) := by
 have sb : ∀ {x y : Rat}, Rz k x → Rz k y → Rz (4 * k + 1) (x - y) := fun hx hy => (hx.sub hy).more (by omega)
 have dt : ∀ {x y z u : Rat}, Rz (4 * k + 1) x → Rz (4 * k + 1) y → Rz (4 * k + 1) z → Rz (4 * k + 1) u → Rz (32 * k + 9) (x * y + z * u) := fun hx hy hz hu => ((hx.mul hy).add (hz.mul hu)).more (by omega)
 have ct : ∀ {x y z u : Rat}, Rz (4 * k + 1) x → Rz (4 * k + 1) y → Rz (4 * k + 1) z → Rz (4 * k + 1) u → Rz (32 * k + 9) (x * y - z * u) := fun hx hy hz hu => ((hx.mul hy).sub (hz.mul hu)).more (by omega)
 unfold teQ
 split
 ·exact (dt (sb Zp1 Za1) (sb Zp1 Za1) (sb Zp2 Za2) (sb Zp2 Za2)).more (by omega)
 ·split
  ·exact (dt (sb Zp1 Zb1) (sb Zp1 Zb1) (sb Zp2 Zb2) (sb Zp2 Zb2)).more (by omega)
  ·rename_i h1 h2
   have c := ct (sb Zb1 Za1) (sb Zp2 Za2) (sb Zb2 Za2) (sb Zp1 Za1)
   exact ((c.mul c).div (dt (sb Zb1 Za1) (sb Zb1 Za1) (sb Zb2 Za2) (sb Zb2 Za2)) (fun e => h2 (by rw [e]; grind))).more (by omega)
theorem near_rz {k : Nat} {x y : Rat} {ps : Pts} (hz : Pz k ps) (hx : Rz k x) (hy : Rz k y) (h2 : 2 ≤ ps.length) : ∀ i, i ≤ ps.length → Rz (96 * k + 27) (nearF x y ps i) := by
 intro i
 induction i with
 | zero => intro _; exact te_rz hx hy (hz.x (show 0 < ps.length by omega)) (hz.y (show 0 < ps.length by omega)) (hz.x (show 1 < ps.length by omega)) (hz.y (show 1 < ps.length by omega))
 | succ i ih =>
   intro hi
   have hj : (i + 1) % ps.length < ps.length := Nat.mod_lt _ (by omega)
   simp only [nearF]
   exact (ih (by omega)).min (te_rz hx hy (hz.x (show i < ps.length by omega)) (hz.y (show i < ps.length by omega)) (hz.x hj) (hz.y hj))
theorem nearQ_rz {k : Nat} {x y : Rat} {ps : Pts} (hz : Pz k ps) (hx : Rz k x) (hy : Rz k y) (h2 : 2 ≤ ps.length) : Rz (96 * k + 27) (nearQ x y ps) := near_rz hz hx hy h2 _ (Nat.le_refl _)
theorem sqA_rz {k : Nat} {a b : Pts} (ha : Pz k a) (hb : Pz k b) (h1 : 2 ≤ a.length) (h2 : 2 ≤ b.length) : ∀ i, i ≤ a.length → Rz (96 * k + 27) (sqA a b i) := by
 intro i
 induction i with
 | zero => intro _; exact nearQ_rz hb (ha.x (show 0 < a.length by omega)) (ha.y (show 0 < a.length by omega)) h2
 | succ i ih => intro hi; exact (ih (by omega)).min (nearQ_rz hb (ha.x (show i < a.length by omega)) (ha.y (show i < a.length by omega)) h2)
theorem sqB_rz {k : Nat} {a b : Pts} {v : Rat} (ha : Pz k a) (hb : Pz k b) (h1 : 2 ≤ a.length) (h2 : 2 ≤ b.length) (hv : Rz (96 * k + 27) v) : ∀ j, j ≤ b.length → Rz (96 * k + 27) (sqB a b v j) := by
 intro j
 induction j with
 | zero => intro _; exact hv
 | succ j ih => intro hj; exact (ih (by omega)).min (nearQ_rz ha (hb.x (show j < b.length by omega)) (hb.y (show j < b.length by omega)) h1)
set_option maxHeartbeats 4000000 in
set_option maxRecDepth 20000 in
theorem near_q {k n : Nat} {ps : Pts} {v1 v2 : Rat} {W : World} {l : List Own} (hT : Tab W) (hz : Pz k ps) (hl : ps.length = n) (hcv : 3 ≤ n ∧ n ≤ 64 ∧ Cvx ps) (Zv1 : Rz k v1) (Zv2 : Rz k v2) (hk : k ≤ 1000000000) (g : Nat) (w : World) (h : St W l w) (hg : Blk w g 29 (PC ps)) :
  Calls Tryz.prog 96 #[.agg (VC v1 v2), .slice (some ⟨g, 0, none⟩) n n] w fun e w' => e = .returned (.agg (RC (nearQ v1 v2 ps))) ∧ Below w.heap.size w w' := by
 have HT := Lib.hid (tabS hT h); clear hT h
 have HG := Lib.hid hg; clear hg
 have HL := Lib.hid hl; clear hl
 have HNZ := Lib.hid (show ¬ n = 0 by have := hcv.1; omega)
 have HZP := Lib.hid (show Pz (1 * k + 0) ps by rw [Nat.one_mul]; exact hz); clear hz
 have HCV := Lib.hid (show 3 ≤ n ∧ n ≤ 64 ∧ True from ⟨hcv.1, hcv.2.1, trivial⟩)
 have HPOS := Lib.hid (show 0 < n ∧ 1 < n from ⟨by have := hcv.1; omega, by have := hcv.1; omega⟩)
 have Z_v1 := Lib.hid Zv1; clear Zv1
 have Z_v2 := Lib.hid Zv2; clear Zv2
 have HZN := Lib.hid (show Rz (96 * k + 27) (nearF v1 v2 ps 0) from near_rz (show Pz k ps by have := HZP.out; rwa [Nat.one_mul] at this) Z_v1.out Z_v2.out (by rw [HL.out]; omega) 0 (by omega))
 clear hcv
 go_enter Tryz.func96, Tryz.ntmps96
 have HS : St w [] w := St.start
 go_upto_region 0 with (fail)
 refine rgT [] HS ?_
 refine bX (VC v1 v2) ?_
 intro bk2 _ _ hbk2_r
 refine nZ ?_
 refine aL3 ?_
 intro bk4 _ _ hbk4_r
 obtain ⟨_, _, hbk4_r⟩ := Reg.ne2 hbk4_r
 refine nZ ?_
 refine Seq.done fun ws1 hws => ?_
 have HS1 := hws.q2 (p := bk2) (q := bk4)
 clear HS hws
 go_upto_region 1 with (fail)
 refine rgW [] HS1 ?_
 refine lV ?_
 refine pU ?_
 refine Seq.index (m := 6) 0 rfl rfl rfl rfl rfl (by kernel_rfl) rfl HPOS.out.1 (nZ ?_)
 refine Seq.loadAtF rfl rfl rfl rfl HG.out (n := 6) (cs' := VC (px ps 0) (py ps 0)) (PC_room (lt_of_pts HL.out HPOS.out.1)) (by kernel_rfl) (PC_at (lt_of_pts HL.out HPOS.out.1)) (nZ ?_)
 refine pU ?_
 refine Seq.index (m := 6) 1 rfl rfl rfl rfl rfl (by kernel_rfl) rfl HPOS.out.2 (nZ ?_)
 refine Seq.loadAtF rfl rfl rfl rfl HG.out (n := 6) (cs' := VC (px ps 1) (py ps 1)) (PC_room (lt_of_pts HL.out HPOS.out.2)) (by kernel_rfl) (PC_at (lt_of_pts HL.out HPOS.out.2)) (nZ ?_)
 refine cX rfl rfl (te_q (k := (1 * k + 0)) HT.out (Z_v1.out.more (by omega)) (Z_v2.out.more (by omega)) ((HZP.out.x (lt_of_pts HL.out HPOS.out.1)).more (by omega)) ((HZP.out.y (lt_of_pts HL.out HPOS.out.1)).more (by omega)) ((HZP.out.x (lt_of_pts HL.out HPOS.out.2)).more (by omega)) ((HZP.out.y (lt_of_pts HL.out HPOS.out.2)).more (by omega)) rfl (by omega)) ?_
 refine aL3 ?_
 intro bk5 _ _ hbk5_r
 refine nZ ?_
 refine sV (RC_one _) ?_
 refine Seq.done fun ws2 hws => ?_
 have HS2 := hws.q1 (p := bk5)
 clear HS1 hws
 go_upto_region 2 with (fail)
 refine rgT [] HS2 ?_
 refine pU ?_
 refine pV (.int .i64 (n : Int)) (by intro w; go_simp; try rfl) ?_
 refine pU ?_
 refine Seq.done fun ws3 hws => ?_
 have HS3 := hws.st
 clear HS2 hws
 go_wp2_with fail
 go_loopg [18] n (fun kk s18 wr => ∃ i : Nat, kk = n - i ∧ s18 = .int .i64 (i : Int) ∧ i ≤ n ∧ Hid (St w [(bk5, 27, RC (nearF v1 v2 ps i)), (bk2, 29, VC v1 v2), (bk4, 27, #[.bool false, .string ⟨#[]⟩, .string ⟨#[]⟩])] wr))
 case atStart => exact ⟨0, rfl, rfl, by omega, Lib.hid HS3⟩
 case round =>
  obtain ⟨i, hgk, rfl, hin, hS⟩ := hrel
  have HGK := Lib.hid hgk; clear hgk
  have HR := hS.out; clear hS
  have HZN := Lib.hid (show Rz (96 * k + 27) (nearF v1 v2 ps i) from near_rz (show Pz k ps by have := HZP.out; rwa [Nat.one_mul] at this) (by have := Z_v1.out; exact this) Z_v2.out (by rw [HL.out]; have := HCV.out.1; omega) i (by rw [HL.out]; exact hin))
  by_cases hc : i < n
  ·have hc' := hc
   obtain ⟨i1, hi1⟩ : ∃ i1 : Nat, i1 = i + 1 := ⟨_, rfl⟩
   obtain ⟨j, hj⟩ : ∃ j : Nat, j = i1 % n := ⟨_, rfl⟩
   have hn64 : n ≤ 64 := HCV.out.2.1
   have HI1 := Lib.hid (show IntKind.i64.wrap ((i : Int) + 1) = (i1 : Int) ∧ n - i1 < n - i ∧ i1 ≤ n ∧ (i1 : Int).tmod (n : Int) = (j : Int) ∧ j < n from ⟨by rw [i64_s _ (by omega) (by omega)]; omega, by omega, by omega, by rw [hj]; exact Int.tmod_eq_emod_of_nonneg (by omega), by rw [hj]; exact Nat.mod_lt _ (by omega)⟩)
   have HC := Lib.hid hc
   clear hc hn64
   have HE := Lib.hid (show minQ (nearF v1 v2 ps i) (teQ v1 v2 (px ps i) (py ps i) (px ps j) (py ps j)) = nearF v1 v2 ps i1 by rw [hj, hi1]; simp only [nearF]; rw [HL.out])
   have HZN1 := Lib.hid (show Rz (96 * k + 27) (nearF v1 v2 ps i1) from near_rz (show Pz k ps by have := HZP.out; rwa [Nat.one_mul] at this) Z_v1.out Z_v2.out (by rw [HL.out]; have := HCV.out.1; omega) i1 (by rw [HL.out]; omega))
   clear hi1 hj hin hc'
   go_upto_region 3 with (fail)
   refine rgT [] HR ?_
   refine pV (.bool true) (by intro w; go_simp <;> (first | (rw [HC.out]; done) | exact HC.out | (simp [HC.out]; done) | (trace_state; done))) ?_
   refine Seq.done fun ws4 hws => ?_
   have HS4 := hws.st
   clear HR hws
   go_upto_region 4 with (fail)
   refine rgT [] HS4 ?_
   refine pU ?_
   refine Seq.index (m := 6) i rfl rfl rfl rfl rfl (by kernel_rfl) rfl HC.out (nZ ?_)
   refine Seq.loadAtF rfl rfl rfl rfl HG.out (n := 6) (cs' := VC (px ps i) (py ps i)) (PC_room (lt_of_pts HL.out HC.out)) (by kernel_rfl) (PC_at (lt_of_pts HL.out HC.out)) (nZ ?_)
   refine aL6 ?_
   intro bk7 _ _ hbk7_r
   refine nZ ?_
   refine pU ?_
   refine sV (VC_one _ _) ?_
   refine Seq.done fun ws5 hws => ?_
   have HS5 := hws.q1 (p := bk7)
   clear HS4 hws
   go_upto_region 5 with (fail)
   have HPbk5 := HS5.p1
   refine wS [0] (Reg.fin.put Reg.fin_no _ _) (StR.move (StR.no HPbk5)) ?_
   refine gV ?_
   refine lV ?_
   refine lV ?_
   iterate 2 refine pU ?_
   refine pV (.int .i64 (i1 : Int)) (by intro w; go_simp <;> (first | (rw [HI1.out.1]; done) | exact HI1.out.1 | (simp [HI1.out.1]; done) | (trace_state; done))) ?_
   refine pU ?_
   refine pV (.int .i64 (n : Int)) (by intro w; go_simp; try rfl) ?_
   refine pV (.int .i64 (j : Int)) (by intro w; go_simp <;> (first | (rw [HNZ.out]; done) | (rw [HI1.out.2.2.2.1]; done) | exact HNZ.out | exact HI1.out.2.2.2.1 | (simp [HNZ.out, HI1.out.2.2.2.1]; done) | (trace_state; done))) ?_
   refine Seq.index (m := 6) j rfl rfl rfl rfl rfl (by kernel_rfl) rfl HI1.out.2.2.2.2 (nZ ?_)
   refine Seq.loadAtF rfl rfl rfl rfl HG.out (n := 6) (cs' := VC (px ps j) (py ps j)) (PC_room (lt_of_pts HL.out HI1.out.2.2.2.2)) (by kernel_rfl) (PC_at (lt_of_pts HL.out HI1.out.2.2.2.2)) (nZ ?_)
   refine cX rfl rfl (te_q (k := (1 * k + 0)) HT.out (Z_v1.out.more (by omega)) (Z_v2.out.more (by omega)) ((HZP.out.x (lt_of_pts HL.out HC.out)).more (by omega)) ((HZP.out.y (lt_of_pts HL.out HC.out)).more (by omega)) ((HZP.out.x (lt_of_pts HL.out HI1.out.2.2.2.2)).more (by omega)) ((HZP.out.y (lt_of_pts HL.out HI1.out.2.2.2.2)).more (by omega)) rfl (by omega)) ?_
   refine cX rfl rfl (min_q (k := (96 * k + 27)) HT.out (HZN.out.more (by omega)) ((te_rz (k := (1 * k + 0)) (Z_v1.out.more (by omega)) (Z_v2.out.more (by omega)) ((HZP.out.x (lt_of_pts HL.out HC.out)).more (by omega)) ((HZP.out.y (lt_of_pts HL.out HC.out)).more (by omega)) ((HZP.out.x (lt_of_pts HL.out HI1.out.2.2.2.2)).more (by omega)) ((HZP.out.y (lt_of_pts HL.out HI1.out.2.2.2.2)).more (by omega))).more (by omega)) HE.out (by omega)) ?_
   refine sV (RC_one _) ?_
   refine Seq.done fun ws6 hws => ?_
   have HS6 := hws.q1 (p := bk5)
   clear HS5 hws HPbk5
   go_upto_region 6 with (fail)
   refine rgT [] HS6 ?_
   refine pV (.int .i64 (i1 : Int)) (by intro w; go_simp <;> (first | (rw [HI1.out.1]; done) | exact HI1.out.1 | (simp [HI1.out.1]; done) | (trace_state; done))) ?_
   refine pU ?_
   refine Seq.done fun ws7 hws => ?_
   have HS7 := hws.st
   clear HS6 hws
   go_wp2_with fail
   go_roundg (n - i1)
   case measure => rw [HGK.out]; exact HI1.out.2.1
   case rel => exact ⟨i1, rfl, rfl, HI1.out.2.2.1, Lib.hid (HS7.sub (.cons_cons _ (.cons _ (.refl _))))⟩
  ·have HE := Lib.hid (show nearQ v1 v2 ps = nearF v1 v2 ps i by unfold nearQ; rw [HL.out, show i = n by omega])
   have HC := Lib.hid (show n ≤ i by omega)
   clear hc hin
   go_upto_region 3 with (fail)
   refine rgT [] HR ?_
   refine pV (.bool false) (by intro w; go_simp <;> (first | (rw [HC.out]; done) | exact HC.out | (simp [HC.out]; done) | (trace_state; done))) ?_
   refine Seq.done fun ws4 hws => ?_
   have HS4 := hws.st
   clear HR hws
   go_upto_region 7 with (fail)
   have HPbk4 := HS4.p2
   refine wp_seq_text [] (StR.move (StR.no HPbk4)) ?_
   refine lV ?_
   refine sV (RC_one _) ?_
   refine Seq.done fun ws5 hws => ?_
   have HS5 := hws.q1 (p := bk4)
   clear HS4 hws HPbk4
   go_wp2_with fail
   exact ret_own rfl rfl rfl HS5 (by repeat first|exact mC|apply mT) (n := 3) rfl (by kernel_rfl) ⟨by rw [HE.out], HS5.below⟩
theorem near_G {k n : Nat} {ps : Pts} {v1 v2 z0 : Rat} {W : World} {l : List Own} (hT : Tab W) (hz : Pz k ps) (hl : ps.length = n) (hcv : 3 ≤ n ∧ n ≤ 64 ∧ Cvx ps) (Zv1 : Rz k v1) (Zv2 : Rz k v2) (hz0 : nearQ v1 v2 ps = z0) (hk : k ≤ 1000000000) (g : Nat) (w : World) (h : St W l w) (hg : Blk w g 29 (PC ps)) :
  Calls Tryz.prog 96 #[.agg (VC v1 v2), .slice (some ⟨g, 0, none⟩) n n] w fun e w' => e = .returned (.agg (RC z0)) ∧ Below w.heap.size w w' := by
 rw [← hz0]; exact near_q hT hz hl hcv Zv1 Zv2 hk g w h hg
end Go.Proofs.YtmchjmflkaiakaaGreatDoor
