/- Joined texts. -/
import Derived.Test.YtlfddhiimcophaaDoorRatQ

/- The walk of RatOrder (printed by ratorder.py). -/
namespace Go.Proofs.YtlfddhiimcophaaDoor
open Go.RowKit
set_option linter.unusedVariables false
set_option linter.unusedSimpArgs false

set_option maxHeartbeats 4000000 in
set_option maxRecDepth 20000 in
theorem ratOrder_int (x y z : Int) (w : World) (hx0 : -9223372036854775808 ≤ x) (hx1 : x ≤ 9223372036854775807) (hy0 : -9223372036854775808 ≤ y) (hy1 : y ≤ 9223372036854775807) (hz0 : -9223372036854775808 ≤ z) (hz1 : z ≤ 9223372036854775807) (hT : Tab w) :
    Calls Tryd.prog 7 #[.int .i64 x, .int .i64 y, .int .i64 z] w fun e w' => e = .returned (.bool true) ∧ Below w.heap.size w w' := by
  have HIx := Lib.hid (And.intro hx0 hx1); clear hx0 hx1
  have HIy := Lib.hid (And.intro hy0 hy1); clear hy0 hy1
  have HIz := Lib.hid (And.intro hz0 hz1); clear hz0 hz1
  have HT := Lib.hid hT; clear hT
  go_enter Tryd.func7, Tryd.ntmps7
  go_wp2_with fail
  refine (ratBegun_any _ HT.out).mono ?_
  rintro e w0 ⟨rfl, hw0⟩
  have HB0 := Lib.hid hw0; clear hw0
  go_wp2_with fail
  refine (ratM_O x _ HIx.out.1 HIx.out.2).mono ?_
  rintro e w1 ⟨⟨a, s_a, a_a, d_a, rfl, hr, hs⟩, hb⟩
  have Ha := Lib.hid (And.intro hr (And.intro (hs.rz.more (show 1 ≤ 100 by omega)) hs)); clear hr hs
  have HB1 := Lib.hid (below_next HB0.out hb); clear hb
  go_wp2_with fail
  refine (ratM_O y _ HIy.out.1 HIy.out.2).mono ?_
  rintro e w2 ⟨⟨b, s_b, a_b, d_b, rfl, hr, hs⟩, hb⟩
  have Hb := Lib.hid (And.intro hr (And.intro (hs.rz.more (show 1 ≤ 100 by omega)) hs)); clear hr hs
  have HB2 := Lib.hid (below_next HB1.out hb); clear hb
  go_wp2_with fail
  refine (ratM_O z _ HIz.out.1 HIz.out.2).mono ?_
  rintro e w3 ⟨⟨c, s_c, a_c, d_c, rfl, hr, hs⟩, hb⟩
  have Hc := Lib.hid (And.intro hr (And.intro (hs.rz.more (show 1 ≤ 100 by omega)) hs)); clear hr hs
  have HB3 := Lib.hid (below_next HB2.out hb); clear hb
  go_upto_region 4 with (fail)
  obtain ⟨W0, hW0⟩ : ∃ W0, W0 = (((w3.alloc (.cells #[.bool s_a, .string a_a, .string d_a] 35)).alloc (.cells #[.bool s_b, .string a_b, .string d_b] 35)).alloc (.cells #[.bool s_c, .string a_c, .string d_c] 35)) := ⟨_, rfl⟩
  rw [← hW0]
  have HS : St w [(w3.heap.size + 1 + 1, 35, RC c), (w3.heap.size + 1, 35, RC b), (w3.heap.size, 35, RC a)] W0 := by
    rw [hW0, Ha.out.1.rc, Hb.out.1.rc, Hc.out.1.rc]
    have h := ((((St.begin HB3.out).box 35 (RC a)).box 35 (RC b)).box 35 (RC c))
    simpa using h
  clear hW0
  obtain ⟨p0, hp0⟩ : ∃ p, w3.heap.size = p := ⟨_, rfl⟩
  obtain ⟨p1, hp1⟩ : ∃ p, w3.heap.size + 1 = p := ⟨_, rfl⟩
  obtain ⟨p2, hp2⟩ : ∃ p, w3.heap.size + 1 + 1 = p := ⟨_, rfl⟩
  rw [hp2, hp1, hp0] at HS
  rw [hp2, hp1, hp0]
  clear hp2 hp1 hp0
  have Z_ab := Lib.hid (show Rz 100 (a + b) from Rz.more (Ha.out.2.2.rz.add Hb.out.2.2.rz) (by omega))
  have Z_amb := Lib.hid (show Rz 100 (a - b) from Rz.more (Ha.out.2.2.rz.sub Hb.out.2.2.rz) (by omega))
  have Z_ac := Lib.hid (show Rz 100 (a + c) from Rz.more (Ha.out.2.2.rz.add Hc.out.2.2.rz) (by omega))
  have Z_bc := Lib.hid (show Rz 100 (b + c) from Rz.more (Hb.out.2.2.rz.add Hc.out.2.2.rz) (by omega))
  have Z_mac := Lib.hid (show Rz 100 (a * c) from Rz.more (Ha.out.2.2.rz.mul Hc.out.2.2.rz) (by omega))
  have Z_mbc := Lib.hid (show Rz 100 (b * c) from Rz.more (Hb.out.2.2.rz.mul Hc.out.2.2.rz) (by omega))
  have Z_mab := Lib.hid (show Rz 100 (a * b) from Rz.more (Ha.out.2.2.rz.mul Hb.out.2.2.rz) (by omega))
  have Z_va := Lib.hid (show Rz 100 (absQ a) from Rz.more (Ha.out.2.2.rz.abs) (by omega))
  have Z_vb := Lib.hid (show Rz 100 (absQ b) from Rz.more (Hb.out.2.2.rz.abs) (by omega))
  have Z_lo := Lib.hid (show Rz 100 (minQ a b) from Rz.more (Ha.out.2.2.rz.min Hb.out.2.2.rz) (by omega))
  have Z_hi := Lib.hid (show Rz 100 (maxQ a b) from Rz.more (Ha.out.2.2.rz.max Hb.out.2.2.rz) (by omega))
  obtain ⟨v, hv⟩ : ∃ v, cmpQ a b = v := ⟨_, rfl⟩
  have HV := Lib.hid hv; clear hv
  have hwr : IntKind.i64.wrap (-v) = -v := by
    have h1 : -1 ≤ v ∧ v ≤ 1 := by
      rw [← HV.out]; unfold cmpQ; split <;> (try split) <;> omega
    exact IntWalk.i64_in _ (by omega)
  refine wp_seq_text [] (StR.no HS) ?_
  refine Seq.load rfl rfl rfl rfl (by repeat (first | exact List.mem_cons_self | apply List.mem_cons_of_mem)) (RC_size _) (by kernel_rfl) ?_
  simp only [Act.put, List.setIfInBounds_toArray, List.set_cons_zero, List.set_cons_succ]
  refine Seq.load rfl rfl rfl rfl (by repeat (first | exact List.mem_cons_self | apply List.mem_cons_of_mem)) (RC_size _) (by kernel_rfl) ?_
  simp only [Act.put, List.setIfInBounds_toArray, List.set_cons_zero, List.set_cons_succ]
  refine Seq.call rfl rfl rfl rfl (by kernel_rfl) (cmp_q HT.out Ha.out.2.1 Hb.out.2.1 HV.out (by omega)) ?_
  simp only [Act.put, List.setIfInBounds_toArray, List.set_cons_zero, List.set_cons_succ]
  refine Seq.pure rfl rfl (by intro w; go_simp; try with_reducible rfl) ?_
  simp only [Act.put, List.setIfInBounds_toArray, List.set_cons_zero, List.set_cons_succ]
  refine Seq.done fun ws1 hws => ?_
  have HS1 := hws.st
  clear HS hws
  obtain ⟨z0, hz0⟩ : ∃ z : Bool, (v == 0) = z := ⟨_, rfl⟩
  have hdz : decide (a = b) = z0 := by
    rw [← hz0, ← HV.out]
    by_cases hab : a = b
    · rw [decide_eq_true hab, (cmpQ_zero a b).2 hab]; rfl
    · rw [decide_eq_false hab]; symm; rw [beq_eq_false_iff_ne]; exact fun h => hab ((cmpQ_zero a b).1 h)
  have HDZ := Lib.hid hdz; clear hdz
  go_upto_region 5 with (fail)
  refine wp_seq_text [] (StR.no HS1) ?_
  refine Seq.pure rfl rfl (by intro w; go_simp; try with_reducible rfl) ?_
  simp only [Act.put, List.setIfInBounds_toArray, List.set_cons_zero, List.set_cons_succ]
  refine Seq.load rfl rfl rfl rfl (by repeat (first | exact List.mem_cons_self | apply List.mem_cons_of_mem)) (RC_size _) (by kernel_rfl) ?_
  simp only [Act.put, List.setIfInBounds_toArray, List.set_cons_zero, List.set_cons_succ]
  refine Seq.load rfl rfl rfl rfl (by repeat (first | exact List.mem_cons_self | apply List.mem_cons_of_mem)) (RC_size _) (by kernel_rfl) ?_
  simp only [Act.put, List.setIfInBounds_toArray, List.set_cons_zero, List.set_cons_succ]
  refine Seq.call rfl rfl rfl rfl (by kernel_rfl) (sub_q HT.out Ha.out.2.1 Hb.out.2.1 rfl (by omega)) ?_
  simp only [Act.put, List.setIfInBounds_toArray, List.set_cons_zero, List.set_cons_succ]
  refine Seq.call rfl rfl rfl rfl (by kernel_rfl) (sign_q HT.out Z_amb.out ((cmpQ_sub a b).symm.trans HV.out) (by omega)) ?_
  simp only [Act.put, List.setIfInBounds_toArray, List.set_cons_zero, List.set_cons_succ]
  refine Seq.pure rfl rfl (by intro w; go_simp; try with_reducible rfl) ?_
  simp only [Act.put, List.setIfInBounds_toArray, List.set_cons_zero, List.set_cons_succ]
  refine Seq.pure rfl rfl (by intro w; go_simp; try with_reducible rfl) ?_
  simp only [Act.put, List.setIfInBounds_toArray, List.set_cons_zero, List.set_cons_succ]
  refine Seq.load rfl rfl rfl rfl (by repeat (first | exact List.mem_cons_self | apply List.mem_cons_of_mem)) (RC_size _) (by kernel_rfl) ?_
  simp only [Act.put, List.setIfInBounds_toArray, List.set_cons_zero, List.set_cons_succ]
  refine Seq.load rfl rfl rfl rfl (by repeat (first | exact List.mem_cons_self | apply List.mem_cons_of_mem)) (RC_size _) (by kernel_rfl) ?_
  simp only [Act.put, List.setIfInBounds_toArray, List.set_cons_zero, List.set_cons_succ]
  refine Seq.call rfl rfl rfl rfl (by kernel_rfl) (cmp_q HT.out Hb.out.2.1 Ha.out.2.1 (by rw [cmpQ_swap, HV.out]) (by omega)) ?_
  simp only [Act.put, List.setIfInBounds_toArray, List.set_cons_zero, List.set_cons_succ]
  refine Seq.pure rfl rfl (by intro w; go_simp; try with_reducible rfl) ?_
  simp only [Act.put, List.setIfInBounds_toArray, List.set_cons_zero, List.set_cons_succ]
  refine Seq.pure rfl rfl (by intro w; go_simp; try with_reducible rfl) ?_
  simp only [Act.put, List.setIfInBounds_toArray, List.set_cons_zero, List.set_cons_succ]
  refine Seq.pure rfl rfl (by intro w; go_simp; try with_reducible rfl) ?_
  simp only [Act.put, List.setIfInBounds_toArray, List.set_cons_zero, List.set_cons_succ]
  refine Seq.pure rfl rfl (by intro w; go_simp; try with_reducible rfl) ?_
  simp only [Act.put, List.setIfInBounds_toArray, List.set_cons_zero, List.set_cons_succ]
  refine Seq.pure rfl rfl (by intro w; go_simp; try with_reducible rfl) ?_
  simp only [Act.put, List.setIfInBounds_toArray, List.set_cons_zero, List.set_cons_succ]
  refine Seq.pure rfl rfl (by intro w; go_simp; try with_reducible rfl) ?_
  simp only [Act.put, List.setIfInBounds_toArray, List.set_cons_zero, List.set_cons_succ]
  refine Seq.pure rfl rfl (by intro w; go_simp; try with_reducible rfl) ?_
  simp only [Act.put, List.setIfInBounds_toArray, List.set_cons_zero, List.set_cons_succ]
  refine Seq.load rfl rfl rfl rfl (by repeat (first | exact List.mem_cons_self | apply List.mem_cons_of_mem)) (RC_size _) (by kernel_rfl) ?_
  simp only [Act.put, List.setIfInBounds_toArray, List.set_cons_zero, List.set_cons_succ]
  refine Seq.load rfl rfl rfl rfl (by repeat (first | exact List.mem_cons_self | apply List.mem_cons_of_mem)) (RC_size _) (by kernel_rfl) ?_
  simp only [Act.put, List.setIfInBounds_toArray, List.set_cons_zero, List.set_cons_succ]
  refine Seq.eqR rfl rfl rfl rfl rfl (b := z0) (HDZ.out) ?_
  simp only [Act.put, List.setIfInBounds_toArray, List.set_cons_zero, List.set_cons_succ]
  refine Seq.pure rfl rfl (by intro w; go_simp; try with_reducible rfl) ?_
  simp only [Act.put, List.setIfInBounds_toArray, List.set_cons_zero, List.set_cons_succ]
  refine Seq.pure rfl rfl (by intro w; go_simp; try with_reducible rfl) ?_
  simp only [Act.put, List.setIfInBounds_toArray, List.set_cons_zero, List.set_cons_succ]
  refine Seq.done fun ws2 hws => ?_
  have HS2 := hws.st
  clear HS1 hws
  go_upto_region 7 with (fail)
  refine wp_seq [] (by kernel_rfl) (by kernel_rfl) Reg.fin_no (StR.no HS2) ?_
  refine Seq.load rfl rfl rfl rfl (by repeat (first | exact List.mem_cons_self | apply List.mem_cons_of_mem)) (RC_size _) (by kernel_rfl) ?_
  simp only [Act.put, List.setIfInBounds_toArray, List.set_cons_zero, List.set_cons_succ]
  refine Seq.load rfl rfl rfl rfl (by repeat (first | exact List.mem_cons_self | apply List.mem_cons_of_mem)) (RC_size _) (by kernel_rfl) ?_
  simp only [Act.put, List.setIfInBounds_toArray, List.set_cons_zero, List.set_cons_succ]
  refine Seq.call rfl rfl rfl rfl (by kernel_rfl) (min_q HT.out Ha.out.2.1 Hb.out.2.1 rfl (by omega)) ?_
  simp only [Act.put, List.setIfInBounds_toArray, List.set_cons_zero, List.set_cons_succ]
  refine Seq.load rfl rfl rfl rfl (by repeat (first | exact List.mem_cons_self | apply List.mem_cons_of_mem)) (RC_size _) (by kernel_rfl) ?_
  simp only [Act.put, List.setIfInBounds_toArray, List.set_cons_zero, List.set_cons_succ]
  refine Seq.load rfl rfl rfl rfl (by repeat (first | exact List.mem_cons_self | apply List.mem_cons_of_mem)) (RC_size _) (by kernel_rfl) ?_
  simp only [Act.put, List.setIfInBounds_toArray, List.set_cons_zero, List.set_cons_succ]
  refine Seq.call rfl rfl rfl rfl (by kernel_rfl) (max_q HT.out Ha.out.2.1 Hb.out.2.1 rfl (by omega)) ?_
  simp only [Act.put, List.setIfInBounds_toArray, List.set_cons_zero, List.set_cons_succ]
  refine Seq.alloc rfl rfl rfl (z := .agg #[.bool false, .string ⟨#[]⟩, .string ⟨#[]⟩]) (by kernel_rfl) rfl ?_
  intro B7_11 hB7_11_w hB7_11_l hB7_11_r
  simp only [Act.put, List.setIfInBounds_toArray, List.set_cons_zero, List.set_cons_succ]
  refine Seq.alloc rfl rfl rfl (z := .agg #[.bool false, .string ⟨#[]⟩, .string ⟨#[]⟩]) (by kernel_rfl) rfl ?_
  intro B7_12 hB7_12_w hB7_12_l hB7_12_r
  obtain ⟨ne_B7_12_B7_11, hB7_12_r⟩ := Reg.ne_of_put hB7_12_r
  have ne_B7_11_B7_12 := Ne.symm ne_B7_12_B7_11
  simp only [Act.put, List.setIfInBounds_toArray, List.set_cons_zero, List.set_cons_succ]
  refine Seq.store rfl rfl rfl rfl rfl (by first | exact Reg.put_same _ _ _ | exact (Reg.put_ne _ _ (by assumption)).trans (Reg.put_same _ _ _) | exact (Reg.put_ne _ _ (by assumption)).trans ((Reg.put_ne _ _ (by assumption)).trans (Reg.put_same _ _ _))) (n := 3) rfl (by first | rfl | exact (RC_size _)) (by kernel_rfl) (RC_one _) ?_
  simp only [Act.put, List.setIfInBounds_toArray, List.set_cons_zero, List.set_cons_succ]
  refine Seq.store rfl rfl rfl rfl rfl (by first | exact Reg.put_same _ _ _ | exact (Reg.put_ne _ _ (by assumption)).trans (Reg.put_same _ _ _) | exact (Reg.put_ne _ _ (by assumption)).trans ((Reg.put_ne _ _ (by assumption)).trans (Reg.put_same _ _ _))) (n := 3) rfl (by first | rfl | exact (RC_size _)) (by kernel_rfl) (RC_one _) ?_
  simp only [Act.put, List.setIfInBounds_toArray, List.set_cons_zero, List.set_cons_succ]
  refine Seq.done fun ws3 hws => ?_
  have HS3 : St w [(B7_11, 35, RC (minQ a b)), (B7_12, 35, RC (maxQ a b)), (p2, 35, RC c), (p1, 35, RC b), (p0, 35, RC a)] ws3 := hws.list2 (by first | exact Reg.put_same _ _ _ | exact (Reg.put_ne _ _ (by assumption)).trans (Reg.put_same _ _ _) | exact (Reg.put_ne _ _ (by assumption)).trans ((Reg.put_ne _ _ (by assumption)).trans (Reg.put_same _ _ _))) (by first | exact Reg.put_same _ _ _ | exact (Reg.put_ne _ _ (by assumption)).trans (Reg.put_same _ _ _) | exact (Reg.put_ne _ _ (by assumption)).trans ((Reg.put_ne _ _ (by assumption)).trans (Reg.put_same _ _ _))) (by assumption)
  clear HS2 hws
  obtain ⟨u, hu, hu1⟩ : ∃ u, cmpQ (minQ a b) (maxQ a b) = u ∧ u ≤ 0 := ⟨_, rfl, by rcases minmax_cmp a b with h | h <;> omega⟩
  have HU := Lib.hid hu; clear hu
  obtain ⟨vc, hvc⟩ : ∃ vc, sgnQ c = vc := ⟨_, rfl⟩
  have HVC := Lib.hid hvc; clear hvc
  have hwm : IntKind.i64.wrap (v * vc) = v * vc := by
    have h1 : v = -1 ∨ v = 0 ∨ v = 1 := by
      rw [← HV.out]; unfold cmpQ; split <;> (try split) <;> omega
    have h2 : vc = -1 ∨ vc = 0 ∨ vc = 1 := by
      rw [← HVC.out]; unfold sgnQ; unfold cmpQ; split <;> (try split) <;> omega
    rcases h1 with rfl | rfl | rfl <;> rcases h2 with rfl | rfl | rfl <;> rfl
  go_upto_region 8 with (fail)
  refine wp_seq [] (by kernel_rfl) (by kernel_rfl) Reg.fin_no (StR.no HS3) ?_
  refine Seq.load rfl rfl rfl rfl (by repeat (first | exact List.mem_cons_self | apply List.mem_cons_of_mem)) (RC_size _) (by kernel_rfl) ?_
  simp only [Act.put, List.setIfInBounds_toArray, List.set_cons_zero, List.set_cons_succ]
  refine Seq.load rfl rfl rfl rfl (by repeat (first | exact List.mem_cons_self | apply List.mem_cons_of_mem)) (RC_size _) (by kernel_rfl) ?_
  simp only [Act.put, List.setIfInBounds_toArray, List.set_cons_zero, List.set_cons_succ]
  refine Seq.call rfl rfl rfl rfl (by kernel_rfl) (cmp_q HT.out Z_lo.out Z_hi.out HU.out (by omega)) ?_
  simp only [Act.put, List.setIfInBounds_toArray, List.set_cons_zero, List.set_cons_succ]
  refine Seq.pure rfl rfl (by intro w; go_simp; try with_reducible rfl) ?_
  simp only [Act.put, List.setIfInBounds_toArray, List.set_cons_zero, List.set_cons_succ]
  refine Seq.pure rfl rfl (by intro w; go_simp; try with_reducible rfl) ?_
  simp only [Act.put, List.setIfInBounds_toArray, List.set_cons_zero, List.set_cons_succ]
  refine Seq.load rfl rfl rfl rfl (by repeat (first | exact List.mem_cons_self | apply List.mem_cons_of_mem)) (RC_size _) (by kernel_rfl) ?_
  simp only [Act.put, List.setIfInBounds_toArray, List.set_cons_zero, List.set_cons_succ]
  refine Seq.load rfl rfl rfl rfl (by repeat (first | exact List.mem_cons_self | apply List.mem_cons_of_mem)) (RC_size _) (by kernel_rfl) ?_
  simp only [Act.put, List.setIfInBounds_toArray, List.set_cons_zero, List.set_cons_succ]
  refine Seq.call rfl rfl rfl rfl (by kernel_rfl) (add_q HT.out Z_lo.out Z_hi.out (minmax_add a b) (by omega)) ?_
  simp only [Act.put, List.setIfInBounds_toArray, List.set_cons_zero, List.set_cons_succ]
  refine Seq.load rfl rfl rfl rfl (by repeat (first | exact List.mem_cons_self | apply List.mem_cons_of_mem)) (RC_size _) (by kernel_rfl) ?_
  simp only [Act.put, List.setIfInBounds_toArray, List.set_cons_zero, List.set_cons_succ]
  refine Seq.load rfl rfl rfl rfl (by repeat (first | exact List.mem_cons_self | apply List.mem_cons_of_mem)) (RC_size _) (by kernel_rfl) ?_
  simp only [Act.put, List.setIfInBounds_toArray, List.set_cons_zero, List.set_cons_succ]
  refine Seq.call rfl rfl rfl rfl (by kernel_rfl) (add_q HT.out Ha.out.2.1 Hb.out.2.1 rfl (by omega)) ?_
  simp only [Act.put, List.setIfInBounds_toArray, List.set_cons_zero, List.set_cons_succ]
  refine Seq.eqR rfl rfl rfl rfl rfl (b := true) ((decide_eq_true rfl)) ?_
  simp only [Act.put, List.setIfInBounds_toArray, List.set_cons_zero, List.set_cons_succ]
  refine Seq.pure rfl rfl (by intro w; go_simp; try with_reducible rfl) ?_
  simp only [Act.put, List.setIfInBounds_toArray, List.set_cons_zero, List.set_cons_succ]
  refine Seq.pure rfl rfl (by intro w; go_simp; try with_reducible rfl) ?_
  simp only [Act.put, List.setIfInBounds_toArray, List.set_cons_zero, List.set_cons_succ]
  refine Seq.load rfl rfl rfl rfl (by repeat (first | exact List.mem_cons_self | apply List.mem_cons_of_mem)) (RC_size _) (by kernel_rfl) ?_
  simp only [Act.put, List.setIfInBounds_toArray, List.set_cons_zero, List.set_cons_succ]
  refine Seq.load rfl rfl rfl rfl (by repeat (first | exact List.mem_cons_self | apply List.mem_cons_of_mem)) (RC_size _) (by kernel_rfl) ?_
  simp only [Act.put, List.setIfInBounds_toArray, List.set_cons_zero, List.set_cons_succ]
  refine Seq.call rfl rfl rfl rfl (by kernel_rfl) (add_q HT.out Ha.out.2.1 Hc.out.2.1 rfl (by omega)) ?_
  simp only [Act.put, List.setIfInBounds_toArray, List.set_cons_zero, List.set_cons_succ]
  refine Seq.load rfl rfl rfl rfl (by repeat (first | exact List.mem_cons_self | apply List.mem_cons_of_mem)) (RC_size _) (by kernel_rfl) ?_
  simp only [Act.put, List.setIfInBounds_toArray, List.set_cons_zero, List.set_cons_succ]
  refine Seq.load rfl rfl rfl rfl (by repeat (first | exact List.mem_cons_self | apply List.mem_cons_of_mem)) (RC_size _) (by kernel_rfl) ?_
  simp only [Act.put, List.setIfInBounds_toArray, List.set_cons_zero, List.set_cons_succ]
  refine Seq.call rfl rfl rfl rfl (by kernel_rfl) (add_q HT.out Hb.out.2.1 Hc.out.2.1 rfl (by omega)) ?_
  simp only [Act.put, List.setIfInBounds_toArray, List.set_cons_zero, List.set_cons_succ]
  refine Seq.call rfl rfl rfl rfl (by kernel_rfl) (cmp_q HT.out Z_ac.out Z_bc.out ((cmpQ_add a b c).trans HV.out) (by omega)) ?_
  simp only [Act.put, List.setIfInBounds_toArray, List.set_cons_zero, List.set_cons_succ]
  refine Seq.pure rfl rfl (by intro w; go_simp; try with_reducible rfl) ?_
  simp only [Act.put, List.setIfInBounds_toArray, List.set_cons_zero, List.set_cons_succ]
  refine Seq.pure rfl rfl (by intro w; go_simp; try with_reducible rfl) ?_
  simp only [Act.put, List.setIfInBounds_toArray, List.set_cons_zero, List.set_cons_succ]
  refine Seq.pure rfl rfl (by intro w; go_simp; try with_reducible rfl) ?_
  simp only [Act.put, List.setIfInBounds_toArray, List.set_cons_zero, List.set_cons_succ]
  refine Seq.pure rfl rfl (by intro w; go_simp; try with_reducible rfl) ?_
  simp only [Act.put, List.setIfInBounds_toArray, List.set_cons_zero, List.set_cons_succ]
  refine Seq.load rfl rfl rfl rfl (by repeat (first | exact List.mem_cons_self | apply List.mem_cons_of_mem)) (RC_size _) (by kernel_rfl) ?_
  simp only [Act.put, List.setIfInBounds_toArray, List.set_cons_zero, List.set_cons_succ]
  refine Seq.load rfl rfl rfl rfl (by repeat (first | exact List.mem_cons_self | apply List.mem_cons_of_mem)) (RC_size _) (by kernel_rfl) ?_
  simp only [Act.put, List.setIfInBounds_toArray, List.set_cons_zero, List.set_cons_succ]
  refine Seq.call rfl rfl rfl rfl (by kernel_rfl) (mul_q HT.out Ha.out.2.1 Hc.out.2.1 rfl (by omega)) ?_
  simp only [Act.put, List.setIfInBounds_toArray, List.set_cons_zero, List.set_cons_succ]
  refine Seq.load rfl rfl rfl rfl (by repeat (first | exact List.mem_cons_self | apply List.mem_cons_of_mem)) (RC_size _) (by kernel_rfl) ?_
  simp only [Act.put, List.setIfInBounds_toArray, List.set_cons_zero, List.set_cons_succ]
  refine Seq.load rfl rfl rfl rfl (by repeat (first | exact List.mem_cons_self | apply List.mem_cons_of_mem)) (RC_size _) (by kernel_rfl) ?_
  simp only [Act.put, List.setIfInBounds_toArray, List.set_cons_zero, List.set_cons_succ]
  refine Seq.call rfl rfl rfl rfl (by kernel_rfl) (mul_q HT.out Hb.out.2.1 Hc.out.2.1 rfl (by omega)) ?_
  simp only [Act.put, List.setIfInBounds_toArray, List.set_cons_zero, List.set_cons_succ]
  refine Seq.call rfl rfl rfl rfl (by kernel_rfl) (cmp_q HT.out Z_mac.out Z_mbc.out ((cmpQ_mul a b c).trans (by rw [HV.out, HVC.out])) (by omega)) ?_
  simp only [Act.put, List.setIfInBounds_toArray, List.set_cons_zero, List.set_cons_succ]
  refine Seq.pure rfl rfl (by intro w; go_simp; try with_reducible rfl) ?_
  simp only [Act.put, List.setIfInBounds_toArray, List.set_cons_zero, List.set_cons_succ]
  refine Seq.load rfl rfl rfl rfl (by repeat (first | exact List.mem_cons_self | apply List.mem_cons_of_mem)) (RC_size _) (by kernel_rfl) ?_
  simp only [Act.put, List.setIfInBounds_toArray, List.set_cons_zero, List.set_cons_succ]
  refine Seq.call rfl rfl rfl rfl (by kernel_rfl) (sign_q HT.out Hc.out.2.1 HVC.out (by omega)) ?_
  simp only [Act.put, List.setIfInBounds_toArray, List.set_cons_zero, List.set_cons_succ]
  refine Seq.pure rfl rfl (by intro w; go_simp; try with_reducible rfl) ?_
  simp only [Act.put, List.setIfInBounds_toArray, List.set_cons_zero, List.set_cons_succ]
  refine Seq.pure rfl rfl (by intro w; go_simp; try with_reducible rfl) ?_
  simp only [Act.put, List.setIfInBounds_toArray, List.set_cons_zero, List.set_cons_succ]
  refine Seq.pure rfl rfl (by intro w; go_simp; try with_reducible rfl) ?_
  simp only [Act.put, List.setIfInBounds_toArray, List.set_cons_zero, List.set_cons_succ]
  refine Seq.pure rfl rfl (by intro w; go_simp; try with_reducible rfl) ?_
  simp only [Act.put, List.setIfInBounds_toArray, List.set_cons_zero, List.set_cons_succ]
  refine Seq.load rfl rfl rfl rfl (by repeat (first | exact List.mem_cons_self | apply List.mem_cons_of_mem)) (RC_size _) (by kernel_rfl) ?_
  simp only [Act.put, List.setIfInBounds_toArray, List.set_cons_zero, List.set_cons_succ]
  refine Seq.call rfl rfl rfl rfl (by kernel_rfl) (abs_q HT.out Ha.out.2.1 rfl (by omega)) ?_
  simp only [Act.put, List.setIfInBounds_toArray, List.set_cons_zero, List.set_cons_succ]
  refine Seq.load rfl rfl rfl rfl (by repeat (first | exact List.mem_cons_self | apply List.mem_cons_of_mem)) (RC_size _) (by kernel_rfl) ?_
  simp only [Act.put, List.setIfInBounds_toArray, List.set_cons_zero, List.set_cons_succ]
  refine Seq.call rfl rfl rfl rfl (by kernel_rfl) (abs_q HT.out Hb.out.2.1 rfl (by omega)) ?_
  simp only [Act.put, List.setIfInBounds_toArray, List.set_cons_zero, List.set_cons_succ]
  refine Seq.call rfl rfl rfl rfl (by kernel_rfl) (mul_q HT.out Z_va.out Z_vb.out (absQ_mul a b) (by omega)) ?_
  simp only [Act.put, List.setIfInBounds_toArray, List.set_cons_zero, List.set_cons_succ]
  refine Seq.load rfl rfl rfl rfl (by repeat (first | exact List.mem_cons_self | apply List.mem_cons_of_mem)) (RC_size _) (by kernel_rfl) ?_
  simp only [Act.put, List.setIfInBounds_toArray, List.set_cons_zero, List.set_cons_succ]
  refine Seq.load rfl rfl rfl rfl (by repeat (first | exact List.mem_cons_self | apply List.mem_cons_of_mem)) (RC_size _) (by kernel_rfl) ?_
  simp only [Act.put, List.setIfInBounds_toArray, List.set_cons_zero, List.set_cons_succ]
  refine Seq.call rfl rfl rfl rfl (by kernel_rfl) (mul_q HT.out Ha.out.2.1 Hb.out.2.1 rfl (by omega)) ?_
  simp only [Act.put, List.setIfInBounds_toArray, List.set_cons_zero, List.set_cons_succ]
  refine Seq.call rfl rfl rfl rfl (by kernel_rfl) (abs_q HT.out Z_mab.out rfl (by omega)) ?_
  simp only [Act.put, List.setIfInBounds_toArray, List.set_cons_zero, List.set_cons_succ]
  refine Seq.eqR rfl rfl rfl rfl rfl (b := true) ((decide_eq_true rfl)) ?_
  simp only [Act.put, List.setIfInBounds_toArray, List.set_cons_zero, List.set_cons_succ]
  refine Seq.pure rfl rfl (by intro w; go_simp; try with_reducible rfl) ?_
  simp only [Act.put, List.setIfInBounds_toArray, List.set_cons_zero, List.set_cons_succ]
  refine Seq.pure rfl rfl (by intro w; go_simp; try with_reducible rfl) ?_
  simp only [Act.put, List.setIfInBounds_toArray, List.set_cons_zero, List.set_cons_succ]
  refine Seq.done fun ws4 hws => ?_
  have HS4 := hws.st
  clear HS3 hws
  go_wp2_with fail
  go_ret
  exact ⟨rfl, HS4.below⟩
end Go.Proofs.YtlfddhiimcophaaDoor
