/- Joined texts. -/
import Derived.Test.YtahmajbgfjinbaaDoorPo6
import Derived.Deep.LoopGhost

/- The walk of PolyEnds (printed by lawvec.py). -/
namespace Go.Proofs.YtahmajbgfjinbaaDoor
open Go.RowKit
set_option linter.unusedVariables false
set_option linter.unusedSimpArgs false

set_option maxHeartbeats 4000000 in
set_option maxRecDepth 20000 in
theorem polyEnds_int {A : Option Addr} {n c : Nat} {xs : List Int} (x y i_ k_ : Int) (w : World) (hi : Ints w A n c xs) (hx0 : -9223372036854775808 ≤ x) (hx1 : x ≤ 9223372036854775807) (hy0 : -9223372036854775808 ≤ y) (hy1 : y ≤ 9223372036854775807) (hi_0 : -9223372036854775808 ≤ i_) (hi_1 : i_ ≤ 9223372036854775807) (hk_0 : -9223372036854775808 ≤ k_) (hk_1 : k_ ≤ 9223372036854775807) (hT : Tab w) :
    Calls Tryd.prog 14 #[.slice A n c, .int .i64 x, .int .i64 y, .int .i64 i_, .int .i64 k_] w fun e w' => e = .returned (.bool true) ∧ Below w.heap.size w w' := by
  have Ix := Lib.hid (And.intro hx0 hx1); clear hx0 hx1
  have Iy := Lib.hid (And.intro hy0 hy1); clear hy0 hy1
  have Ii_ := Lib.hid (And.intro hi_0 hi_1); clear hi_0 hi_1
  have Ik_ := Lib.hid (And.intro hk_0 hk_1); clear hk_0 hk_1
  have HT := Lib.hid hT; clear hT
  have HIX := Lib.hid hi; clear hi
  obtain ⟨dx, edx⟩ : ∃ r_, ratMq x = r_ := ⟨_, rfl⟩
  have Z_dx := Lib.hid (show Rz 2 dx from edx ▸ (ratMq_small x).rz.more (by omega))
  have Edx := Lib.hid edx; clear edx
  obtain ⟨dy, edy⟩ : ∃ r_, ratMq y = r_ := ⟨_, rfl⟩
  have Z_dy := Lib.hid (show Rz 2 dy from edy ▸ (ratMq_small y).rz.more (by omega))
  have Edy := Lib.hid edy; clear edy
  obtain ⟨ps, hps⟩ : ∃ z, polyQ xs = z := ⟨_, rfl⟩
  obtain ⟨m, hm⟩ : ∃ z, ps.length = z := ⟨_, rfl⟩
  have hlen := polyQ_len xs
  rw [hps, hm] at hlen
  have hcv := polyQ_cvx xs
  rw [hps] at hcv
  have hzp := polyQ_z xs
  rw [hps] at hzp
  obtain ⟨b, hb⟩ : ∃ z, supF ps dx dy m = z := ⟨_, rfl⟩
  have hbm : b < m := hb ▸ sup_lt m (by omega)
  obtain ⟨j1, hj1⟩ : ∃ z, belowN i_ m = z := ⟨_, rfl⟩
  obtain ⟨j2, hj2⟩ : ∃ z, belowN k_ m = z := ⟨_, rfl⟩
  have hj1m : j1 < m := hj1 ▸ belowN_lt i_ (by omega)
  have hj2m : j2 < m := hj2 ▸ belowN_lt k_ (by omega)
  obtain ⟨hf, eh⟩ : ∃ z, ((1 : Int) : Rat) / ((2 : Int) : Rat) = z := ⟨_, rfl⟩
  have hh : hf = 1 / 2 := by rw [← eh]; decide +kernel
  have hmid := has_mid hcv (show j1 < ps.length by omega) (show j2 < ps.length by omega) hh
  obtain ⟨mx, hmx⟩ : ∃ z, (px ps j1 + px ps j2) * hf = z := ⟨_, rfl⟩
  obtain ⟨my, hmy⟩ : ∃ z, (py ps j1 + py ps j2) * hf = z := ⟨_, rfl⟩
  rw [hmx, hmy] at hmid
  have zhf : Rz 4 hf := eh ▸ num_s 1 2 (by decide) (by decide) (by decide)
  have zmx : Rz 100 mx := hmx ▸ (((hzp.x (show j1 < ps.length by omega)).add (hzp.x (show j2 < ps.length by omega))).mul zhf).more (by omega)
  have zmy : Rz 100 my := hmy ▸ (((hzp.y (show j1 < ps.length by omega)).add (hzp.y (show j2 < ps.length by omega))).mul zhf).more (by omega)
  obtain ⟨bx0, hbx0⟩ : ∃ z, mnF (px ps) (m - 1) = z := ⟨_, rfl⟩
  have Z_bx0 := Lib.hid (show Rz 2 bx0 from hbx0 ▸ mnF_rz (n := m) (fun q hq => hzp.x (show q < ps.length by omega)) _ (by omega))
  obtain ⟨by0, hby0⟩ : ∃ z, mnF (py ps) (m - 1) = z := ⟨_, rfl⟩
  have Z_by0 := Lib.hid (show Rz 2 by0 from hby0 ▸ mnF_rz (n := m) (fun q hq => hzp.y (show q < ps.length by omega)) _ (by omega))
  obtain ⟨bx1, hbx1⟩ : ∃ z, mxF (px ps) (m - 1) = z := ⟨_, rfl⟩
  have Z_bx1 := Lib.hid (show Rz 2 bx1 from hbx1 ▸ mxF_rz (n := m) (fun q hq => hzp.x (show q < ps.length by omega)) _ (by omega))
  obtain ⟨by1, hby1⟩ : ∃ z, mxF (py ps) (m - 1) = z := ⟨_, rfl⟩
  have Z_by1 := Lib.hid (show Rz 2 by1 from hby1 ▸ mxF_rz (n := m) (fun q hq => hzp.y (show q < ps.length by omega)) _ (by omega))
  have l1 := mn_le (f := px ps) (m - 1) j1 (by omega)
  have l2 := mn_le (f := px ps) (m - 1) j2 (by omega)
  have l3 := mx_ge (f := px ps) (m - 1) j1 (by omega)
  have l4 := mx_ge (f := px ps) (m - 1) j2 (by omega)
  have l5 := mn_le (f := py ps) (m - 1) j1 (by omega)
  have l6 := mn_le (f := py ps) (m - 1) j2 (by omega)
  have l7 := mx_ge (f := py ps) (m - 1) j1 (by omega)
  have l8 := mx_ge (f := py ps) (m - 1) j2 (by omega)
  rw [hbx0] at l1 l2; rw [hbx1] at l3 l4; rw [hby0] at l5 l6; rw [hby1] at l7 l8
  have HIN := Lib.hid (show bx0 ≤ mx ∧ mx ≤ bx1 ∧ by0 ≤ my ∧ my ≤ by1 from ⟨by rw [← hmx, hh]; grind, by rw [← hmx, hh]; grind, by rw [← hmy, hh]; grind, by rw [← hmy, hh]; grind⟩)
  clear l1 l2 l3 l4 l5 l6 l7 l8
  have HBX := Lib.hid (And.intro hbx0 (And.intro hby0 (And.intro hbx1 hby1))); clear hbx0 hby0 hbx1 hby1
  have Z_hf := Lib.hid zhf
  have Z_mx := Lib.hid zmx
  have Z_my := Lib.hid zmy
  have EH := Lib.hid eh
  have HHB := Lib.hid hmid
  have HM := Lib.hid (And.intro hmx hmy)
  have HJ := Lib.hid (And.intro hj1m (And.intro hj2m (And.intro hj1 hj2)))
  have HPM := Lib.hid (show 0 < m ∧ m ≤ 1048576 from ⟨by omega, by omega⟩)
  have HSB := Lib.hid (show supF ps dx dy m = b ∧ b < m ∧ 0 ≤ (b : Int) from ⟨hb, hbm, by omega⟩)
  have HCP := Lib.hid (show 3 ≤ m ∧ m ≤ 8 ∧ Cvx ps from ⟨by omega, by omega, hcv⟩)
  have HZP := Lib.hid hzp
  have HL := Lib.hid hm
  have HPS := Lib.hid hps
  clear hcv hzp hm hps hlen hb hbm hj1 hj2 hj1m hj2m eh hh hmid hmx hmy zhf zmx zmy
  go_enter Tryd.func14, Tryd.ntmps14
  have HS : St w [] w := St.start
  go_upto_region 0 with (fail)
  refine wp_seq_text [] (StR.no HS) ?_
  refine Seq.pure rfl rfl (by intro w; go_simp; try first | with_reducible rfl | rfl) ?_
  simp only [Act.put, List.setIfInBounds_toArray, List.set_cons_zero, List.set_cons_succ]
  refine Seq.done fun ws1 hws => ?_
  have HS1 := hws.st
  clear HS hws
  go_upto_region 1 with (fail)
  refine wp_seq_text [] (StR.no HS1) ?_
  refine Seq.call rfl rfl rfl rfl (by kernel_rfl) (pbegun_q HT.out) ?_
  simp only [Act.put, List.setIfInBounds_toArray, List.set_cons_zero, List.set_cons_succ]
  refine Seq.pure rfl rfl (by intro w; go_simp; try first | with_reducible rfl | rfl) ?_
  simp only [Act.put, List.setIfInBounds_toArray, List.set_cons_zero, List.set_cons_succ]
  refine Seq.done fun ws2 hws => ?_
  have HS2 := hws.st
  clear HS1 hws
  go_upto_region 3 with (fail)
  refine wp_seq_text [1000001] (StR.no HS2) ?_
  refine Seq.pure rfl rfl (by intro w; go_simp; try first | with_reducible rfl | rfl) ?_
  simp only [Act.put, List.setIfInBounds_toArray, List.set_cons_zero, List.set_cons_succ]
  refine Seq.callFresh (n := some m) (x := (26, PC ps)) rfl rfl rfl rfl (by kernel_rfl) (fun w h => poly_G HIX.out HPS.out HL.out w h.st) ?_
  intro bk22 _ _ hbk22_r
  simp only [mk]
  simp only [Act.put, List.setIfInBounds_toArray, List.set_cons_zero, List.set_cons_succ]
  refine Seq.pure rfl rfl (by intro w; go_simp; try first | with_reducible rfl | rfl) ?_
  simp only [Act.put, List.setIfInBounds_toArray, List.set_cons_zero, List.set_cons_succ]
  refine Seq.pure rfl rfl (by intro w; go_simp; try first | with_reducible rfl | rfl) ?_
  simp only [Act.put, List.setIfInBounds_toArray, List.set_cons_zero, List.set_cons_succ]
  refine Seq.call rfl rfl rfl rfl (by kernel_rfl) (vector_q HT.out Ix.out Iy.out Edx.out Edy.out) ?_
  simp only [Act.put, List.setIfInBounds_toArray, List.set_cons_zero, List.set_cons_succ]
  refine Seq.alloc rfl rfl rfl (z := .agg #[.bool false, .string ⟨#[]⟩, .string ⟨#[]⟩, .bool false, .string ⟨#[]⟩, .string ⟨#[]⟩]) (by kernel_rfl) rfl ?_
  intro bk12 _ _ hbk12_r
  obtain ⟨ne_bk12_bk22, hbk12_r⟩ := Reg.ne_of_put hbk12_r
  have ne_bk22_bk12 := Ne.symm ne_bk12_bk22
  simp only [Act.put, List.setIfInBounds_toArray, List.set_cons_zero, List.set_cons_succ]
  refine Seq.pure rfl rfl (by intro w; go_simp; try first | with_reducible rfl | rfl) ?_
  simp only [Act.put, List.setIfInBounds_toArray, List.set_cons_zero, List.set_cons_succ]
  refine Seq.store rfl rfl rfl rfl rfl (by first | exact rS | exact rN (by assumption) (rS) | exact rN (by assumption) (rN (by assumption) (rS)) | exact rN (by assumption) (rN (by assumption) (rN (by assumption) (rS))) | exact rN (by assumption) (rN (by assumption) (rN (by assumption) (rN (by assumption) (rS))))) (n := 6) rfl rfl (by kernel_rfl) (VC_one _ _) ?_
  simp only [Act.put, List.setIfInBounds_toArray, List.set_cons_zero, List.set_cons_succ]
  refine Seq.done fun ws3 hws => ?_
  have HS3 : St w [(bk22, 26, PC ps), (bk12, 26, VC dx dy)] ws3 := hws.list2 (by first | exact rS | exact rN (by assumption) (rS) | exact rN (by assumption) (rN (by assumption) (rS)) | exact rN (by assumption) (rN (by assumption) (rN (by assumption) (rS))) | exact rN (by assumption) (rN (by assumption) (rN (by assumption) (rN (by assumption) (rS))))) (by first | exact rS | exact rN (by assumption) (rS) | exact rN (by assumption) (rN (by assumption) (rS)) | exact rN (by assumption) (rN (by assumption) (rN (by assumption) (rS))) | exact rN (by assumption) (rN (by assumption) (rN (by assumption) (rN (by assumption) (rS))))) (by assumption)
  clear HS2 hws
  go_upto_region 4 with (fail)
  refine wp_seq_text [] (StR.no HS3) ?_
  refine Seq.pure rfl rfl (by intro w; go_simp; try first | with_reducible rfl | rfl) ?_
  simp only [Act.put, List.setIfInBounds_toArray, List.set_cons_zero, List.set_cons_succ]
  refine Seq.load rfl rfl rfl rfl (by repeat (first | exact mC | apply mT)) (n := 6) rfl (by kernel_rfl) ?_
  simp only [Act.put, List.setIfInBounds_toArray, List.set_cons_zero, List.set_cons_succ]
  refine Seq.call rfl rfl rfl rfl (by kernel_rfl) (fun w h => support_G (k := 2) HT.out HZP.out HL.out ⟨HCP.out.1, by have := HCP.out.2.1; omega, HCP.out.2.2⟩ Z_dx.out Z_dy.out HSB.out.1 (by omega) _ w h (h.blk (bk22, _, _) (by repeat (first | exact mC | apply mT))).2) ?_
  simp only [Act.put, List.setIfInBounds_toArray, List.set_cons_zero, List.set_cons_succ]
  refine Seq.pure rfl rfl (by intro w; go_simp; try first | with_reducible rfl | rfl) ?_
  simp only [Act.put, List.setIfInBounds_toArray, List.set_cons_zero, List.set_cons_succ]
  refine Seq.call rfl rfl rfl rfl (by kernel_rfl) (fun w h => box_G (k := 2) HT.out HZP.out HL.out ⟨HCP.out.1, by have := HCP.out.2.1; omega, HCP.out.2.2⟩ HBX.out (by omega) _ w h (h.blk (bk22, _, _) (by repeat (first | exact mC | apply mT))).2) ?_
  simp only [Act.put, List.setIfInBounds_toArray, List.set_cons_zero, List.set_cons_succ]
  refine Seq.alloc rfl rfl rfl (z := .agg #[.bool false, .string ⟨#[]⟩, .string ⟨#[]⟩, .bool false, .string ⟨#[]⟩, .string ⟨#[]⟩, .bool false, .string ⟨#[]⟩, .string ⟨#[]⟩, .bool false, .string ⟨#[]⟩, .string ⟨#[]⟩]) (by kernel_rfl) rfl ?_
  intro bk14 _ _ hbk14_r
  simp only [Act.put, List.setIfInBounds_toArray, List.set_cons_zero, List.set_cons_succ]
  refine Seq.pure rfl rfl (by intro w; go_simp; try first | with_reducible rfl | rfl) ?_
  simp only [Act.put, List.setIfInBounds_toArray, List.set_cons_zero, List.set_cons_succ]
  refine Seq.store rfl rfl rfl rfl rfl (by first | exact rS | exact rN (by assumption) (rS) | exact rN (by assumption) (rN (by assumption) (rS)) | exact rN (by assumption) (rN (by assumption) (rN (by assumption) (rS))) | exact rN (by assumption) (rN (by assumption) (rN (by assumption) (rN (by assumption) (rS))))) (n := 12) rfl rfl (by kernel_rfl) (BC_one _ _ _ _) ?_
  simp only [Act.put, List.setIfInBounds_toArray, List.set_cons_zero, List.set_cons_succ]
  refine Seq.done fun ws4 hws => ?_
  have HS4 : St w [(bk14, 94, BC bx0 by0 bx1 by1), (bk22, 26, PC ps), (bk12, 26, VC dx dy)] ws4 := hws.list1 (by first | exact rS | exact rN (by assumption) (rS) | exact rN (by assumption) (rN (by assumption) (rS)) | exact rN (by assumption) (rN (by assumption) (rN (by assumption) (rS))) | exact rN (by assumption) (rN (by assumption) (rN (by assumption) (rN (by assumption) (rS)))))
  clear HS3 hws
  go_upto_region 5 with (fail)
  refine wp_seq_text [] (StR.no HS4) ?_
  refine Seq.pure rfl rfl (by intro w; go_simp; try first | with_reducible rfl | rfl) ?_
  simp only [Act.put, List.setIfInBounds_toArray, List.set_cons_zero, List.set_cons_succ]
  refine Seq.pure (v := .bool false) rfl rfl (by intro w; go_simp <;> (first | (rw [HSB.out.2.2]; done) | exact HSB.out.2.2 | (simp [HSB.out.2.2]; done) | (trace_state; done))) ?_
  simp only [Act.put, List.setIfInBounds_toArray, List.set_cons_zero, List.set_cons_succ]
  refine Seq.pure rfl rfl (by intro w; go_simp; try first | with_reducible rfl | rfl) ?_
  simp only [Act.put, List.setIfInBounds_toArray, List.set_cons_zero, List.set_cons_succ]
  refine Seq.pure rfl rfl (by intro w; go_simp; try first | with_reducible rfl | rfl) ?_
  simp only [Act.put, List.setIfInBounds_toArray, List.set_cons_zero, List.set_cons_succ]
  refine Seq.pure rfl rfl (by intro w; go_simp; try first | with_reducible rfl | rfl) ?_
  simp only [Act.put, List.setIfInBounds_toArray, List.set_cons_zero, List.set_cons_succ]
  refine Seq.pure (v := .int .i64 (m : Int)) rfl rfl (by intro w; go_simp; try first | with_reducible rfl | rfl) ?_
  simp only [Act.put, List.setIfInBounds_toArray, List.set_cons_zero, List.set_cons_succ]
  refine Seq.pure (v := .bool false) rfl rfl (by intro w; go_simp <;> (first | (rw [HSB.out.2.1]; done) | exact HSB.out.2.1 | (simp [HSB.out.2.1]; done) | (trace_state; done))) ?_
  simp only [Act.put, List.setIfInBounds_toArray, List.set_cons_zero, List.set_cons_succ]
  refine Seq.pure rfl rfl (by intro w; go_simp; try first | with_reducible rfl | rfl) ?_
  simp only [Act.put, List.setIfInBounds_toArray, List.set_cons_zero, List.set_cons_succ]
  refine Seq.done fun ws5 hws => ?_
  have HS5 := hws.st
  clear HS4 hws
  go_upto_region 7 with (fail)
  refine wp_seq_text [] (StR.no HS5) ?_
  refine Seq.pure rfl rfl (by intro w; go_simp; try first | with_reducible rfl | rfl) ?_
  simp only [Act.put, List.setIfInBounds_toArray, List.set_cons_zero, List.set_cons_succ]
  refine Seq.pure (v := .int .i64 (m : Int)) rfl rfl (by intro w; go_simp; try first | with_reducible rfl | rfl) ?_
  simp only [Act.put, List.setIfInBounds_toArray, List.set_cons_zero, List.set_cons_succ]
  refine Seq.pure rfl rfl (by intro w; go_simp; try first | with_reducible rfl | rfl) ?_
  simp only [Act.put, List.setIfInBounds_toArray, List.set_cons_zero, List.set_cons_succ]
  refine Seq.done fun ws6 hws => ?_
  have HS6 := hws.st
  clear HS5 hws
  go_wp2_with fail
  go_loopg [41] m (fun kk s41 wr => ∃ i : Nat, kk = m - i ∧ s41 = .int .i64 (i : Int) ∧ i ≤ m ∧ Hid (St w [(bk14, 94, BC bx0 by0 bx1 by1), (bk22, 26, PC ps), (bk12, 26, VC dx dy)] wr))
  case atStart => exact ⟨0, rfl, rfl, by omega, Lib.hid HS6⟩
  case round =>
    obtain ⟨i, hgk, rfl, hin, hS⟩ := hrel
    have HGK := Lib.hid hgk; clear hgk
    have HR := hS.out; clear hS
    by_cases hc : i < m
    · obtain ⟨i1, hi1⟩ : ∃ i1 : Nat, i1 = i + 1 := ⟨_, rfl⟩
      have HI1 := Lib.hid (show IntKind.i64.wrap ((i : Int) + 1) = (i1 : Int) ∧ m - i1 < m - i ∧ i1 ≤ m from ⟨by have := HCP.out.2.1; rw [i64_s _ (by omega) (by omega)]; omega, by omega, by omega⟩)
      obtain ⟨v, hv, hv0⟩ : ∃ v, cmpQ (px ps i * dx + py ps i * dy) (px ps b * dx + py ps b * dy) = v ∧ decide (0 < v) = false := ⟨_, rfl, decide_eq_false (by
        have := sup_le (ps := ps) (x := dx) (y := dy) m i hc
        rw [HSB.out.1] at this
        unfold cmpQ; grind)⟩
      have HV := Lib.hid hv; clear hv
      have HC := Lib.hid hc
      clear hc hin hi1
      go_upto_region 8 with (fail)
      refine wp_seq_text [] (StR.no HR) ?_
      refine Seq.pure (v := .bool true) rfl rfl (by intro w; go_simp <;> (first | (rw [HC.out]; done) | exact HC.out | (simp [HC.out]; done) | (trace_state; done))) ?_
      simp only [Act.put, List.setIfInBounds_toArray, List.set_cons_zero, List.set_cons_succ]
      refine Seq.done fun ws7 hws => ?_
      have HS7 := hws.st
      clear HR hws
      go_upto_region 9 with (fail)
      refine wp_seq_text [] (StR.no HS7) ?_
      refine Seq.index (m := 6) i rfl rfl rfl rfl rfl (by kernel_rfl) rfl HC.out ?_
      simp only [Act.put, List.setIfInBounds_toArray, List.set_cons_zero, List.set_cons_succ]
      refine Seq.loadAt rfl rfl rfl rfl (by repeat (first | exact mC | apply mT)) (n := 6) (cs' := VC (px ps i) (py ps i)) (PC_room (lt_of_pts HL.out HC.out)) (by kernel_rfl) (PC_at (lt_of_pts HL.out HC.out)) ?_
      simp only [Act.put, List.setIfInBounds_toArray, List.set_cons_zero, List.set_cons_succ]
      refine Seq.alloc rfl rfl rfl (z := .agg #[.bool false, .string ⟨#[]⟩, .string ⟨#[]⟩, .bool false, .string ⟨#[]⟩, .string ⟨#[]⟩]) (by kernel_rfl) rfl ?_
      intro bk16 _ _ hbk16_r
      simp only [Act.put, List.setIfInBounds_toArray, List.set_cons_zero, List.set_cons_succ]
      refine Seq.store rfl rfl rfl rfl rfl (by first | exact rS | exact rN (by assumption) (rS) | exact rN (by assumption) (rN (by assumption) (rS)) | exact rN (by assumption) (rN (by assumption) (rN (by assumption) (rS))) | exact rN (by assumption) (rN (by assumption) (rN (by assumption) (rN (by assumption) (rS))))) (n := 6) rfl rfl (by kernel_rfl) (VC_one _ _) ?_
      simp only [Act.put, List.setIfInBounds_toArray, List.set_cons_zero, List.set_cons_succ]
      refine Seq.done fun ws8 hws => ?_
      have HS8 : St w [(bk16, 26, VC (px ps i) (py ps i)), (bk14, 94, BC bx0 by0 bx1 by1), (bk22, 26, PC ps), (bk12, 26, VC dx dy)] ws8 := hws.list1 (by first | exact rS | exact rN (by assumption) (rS) | exact rN (by assumption) (rN (by assumption) (rS)) | exact rN (by assumption) (rN (by assumption) (rN (by assumption) (rS))) | exact rN (by assumption) (rN (by assumption) (rN (by assumption) (rN (by assumption) (rS)))))
      clear HS7 hws
      go_upto_region 10 with (fail)
      refine wp_seq [] (by kernel_rfl) (by kernel_rfl) Reg.fin_no (StR.no HS8) ?_
      refine Seq.load rfl rfl rfl rfl (by repeat (first | exact mC | apply mT)) (n := 6) rfl (by kernel_rfl) ?_
      simp only [Act.put, List.setIfInBounds_toArray, List.set_cons_zero, List.set_cons_succ]
      refine Seq.load rfl rfl rfl rfl (by repeat (first | exact mC | apply mT)) (n := 6) rfl (by kernel_rfl) ?_
      simp only [Act.put, List.setIfInBounds_toArray, List.set_cons_zero, List.set_cons_succ]
      refine Seq.call rfl rfl rfl rfl (by kernel_rfl) (dot_q (k := 2) HT.out ((HZP.out.x (lt_of_pts HL.out HC.out)).more (by omega)) ((HZP.out.y (lt_of_pts HL.out HC.out)).more (by omega)) (Z_dx.out.more (by omega)) (Z_dy.out.more (by omega))  rfl (by omega)) ?_
      simp only [Act.put, List.setIfInBounds_toArray, List.set_cons_zero, List.set_cons_succ]
      refine Seq.pure rfl rfl (by intro w; go_simp; try first | with_reducible rfl | rfl) ?_
      simp only [Act.put, List.setIfInBounds_toArray, List.set_cons_zero, List.set_cons_succ]
      refine Seq.pure rfl rfl (by intro w; go_simp; try first | with_reducible rfl | rfl) ?_
      simp only [Act.put, List.setIfInBounds_toArray, List.set_cons_zero, List.set_cons_succ]
      refine Seq.index (m := 6) b rfl rfl rfl rfl rfl (by kernel_rfl) rfl HSB.out.2.1 ?_
      simp only [Act.put, List.setIfInBounds_toArray, List.set_cons_zero, List.set_cons_succ]
      refine Seq.loadAt rfl rfl rfl rfl (by repeat (first | exact mC | apply mT)) (n := 6) (cs' := VC (px ps b) (py ps b)) (PC_room (lt_of_pts HL.out HSB.out.2.1)) (by kernel_rfl) (PC_at (lt_of_pts HL.out HSB.out.2.1)) ?_
      simp only [Act.put, List.setIfInBounds_toArray, List.set_cons_zero, List.set_cons_succ]
      refine Seq.load rfl rfl rfl rfl (by repeat (first | exact mC | apply mT)) (n := 6) rfl (by kernel_rfl) ?_
      simp only [Act.put, List.setIfInBounds_toArray, List.set_cons_zero, List.set_cons_succ]
      refine Seq.call rfl rfl rfl rfl (by kernel_rfl) (dot_q (k := 2) HT.out ((HZP.out.x (lt_of_pts HL.out HSB.out.2.1)).more (by omega)) ((HZP.out.y (lt_of_pts HL.out HSB.out.2.1)).more (by omega)) (Z_dx.out.more (by omega)) (Z_dy.out.more (by omega))  rfl (by omega)) ?_
      simp only [Act.put, List.setIfInBounds_toArray, List.set_cons_zero, List.set_cons_succ]
      refine Seq.call rfl rfl rfl rfl (by kernel_rfl) (cmp_q (k := 17) HT.out ((((HZP.out.x (lt_of_pts HL.out HC.out)).mul Z_dx.out).add ((HZP.out.y (lt_of_pts HL.out HC.out)).mul Z_dy.out)).more (by omega)) ((((HZP.out.x (lt_of_pts HL.out HSB.out.2.1)).mul Z_dx.out).add ((HZP.out.y (lt_of_pts HL.out HSB.out.2.1)).mul Z_dy.out)).more (by omega)) HV.out (by omega)) ?_
      simp only [Act.put, List.setIfInBounds_toArray, List.set_cons_zero, List.set_cons_succ]
      refine Seq.pure rfl rfl (by intro w; go_simp; try first | with_reducible rfl | rfl) ?_
      simp only [Act.put, List.setIfInBounds_toArray, List.set_cons_zero, List.set_cons_succ]
      refine Seq.done fun ws9 hws => ?_
      have HS9 := hws.st
      clear HS8 hws
      go_upto_region 12 with (fail)
      refine wp_seq_text [] (StR.no HS9) ?_
      refine Seq.pure (v := .int .i64 (i1 : Int)) rfl rfl (by intro w; go_simp <;> (first | (rw [HI1.out.1]; done) | exact HI1.out.1 | (simp [HI1.out.1]; done) | (trace_state; done))) ?_
      simp only [Act.put, List.setIfInBounds_toArray, List.set_cons_zero, List.set_cons_succ]
      refine Seq.pure rfl rfl (by intro w; go_simp; try first | with_reducible rfl | rfl) ?_
      simp only [Act.put, List.setIfInBounds_toArray, List.set_cons_zero, List.set_cons_succ]
      refine Seq.done fun ws10 hws => ?_
      have HS10 := hws.st
      clear HS9 hws
      go_wp2_with fail
      go_roundg (m - i1)
      case measure => rw [HGK.out]; exact HI1.out.2.1
      case rel => exact ⟨i1, rfl, rfl, HI1.out.2.2, Lib.hid HS10.drop⟩
    · have HC := Lib.hid (show m ≤ i by omega)
      clear hc hin
      go_upto_region 8 with (fail)
      refine wp_seq_text [] (StR.no HR) ?_
      refine Seq.pure (v := .bool false) rfl rfl (by intro w; go_simp <;> (first | (rw [HC.out]; done) | exact HC.out | (simp [HC.out]; done) | (trace_state; done))) ?_
      simp only [Act.put, List.setIfInBounds_toArray, List.set_cons_zero, List.set_cons_succ]
      refine Seq.done fun ws7 hws => ?_
      have HS7 := hws.st
      clear HR hws
      go_upto_region 13 with (fail)
      refine wp_seq [] (by kernel_rfl) (by kernel_rfl) Reg.fin_no (StR.no HS7) ?_
      refine Seq.pure rfl rfl (by intro w; go_simp; try first | with_reducible rfl | rfl) ?_
      simp only [Act.put, List.setIfInBounds_toArray, List.set_cons_zero, List.set_cons_succ]
      refine Seq.pure rfl rfl (by intro w; go_simp; try first | with_reducible rfl | rfl) ?_
      simp only [Act.put, List.setIfInBounds_toArray, List.set_cons_zero, List.set_cons_succ]
      refine Seq.pure rfl rfl (by intro w; go_simp; try first | with_reducible rfl | rfl) ?_
      simp only [Act.put, List.setIfInBounds_toArray, List.set_cons_zero, List.set_cons_succ]
      refine Seq.pure (v := .int .i64 (m : Int)) rfl rfl (by intro w; go_simp; try first | with_reducible rfl | rfl) ?_
      simp only [Act.put, List.setIfInBounds_toArray, List.set_cons_zero, List.set_cons_succ]
      refine Seq.call rfl rfl rfl rfl (by kernel_rfl) (below_G Ii_.out HPM.out HJ.out.2.2.1) ?_
      simp only [Act.put, List.setIfInBounds_toArray, List.set_cons_zero, List.set_cons_succ]
      refine Seq.index (m := 6) j1 rfl rfl rfl rfl rfl (by kernel_rfl) rfl HJ.out.1 ?_
      simp only [Act.put, List.setIfInBounds_toArray, List.set_cons_zero, List.set_cons_succ]
      refine Seq.loadAt rfl rfl rfl rfl (by repeat (first | exact mC | apply mT)) (n := 6) (cs' := VC (px ps j1) (py ps j1)) (PC_room (lt_of_pts HL.out HJ.out.1)) (by kernel_rfl) (PC_at (lt_of_pts HL.out HJ.out.1)) ?_
      simp only [Act.put, List.setIfInBounds_toArray, List.set_cons_zero, List.set_cons_succ]
      refine Seq.pure rfl rfl (by intro w; go_simp; try first | with_reducible rfl | rfl) ?_
      simp only [Act.put, List.setIfInBounds_toArray, List.set_cons_zero, List.set_cons_succ]
      refine Seq.pure rfl rfl (by intro w; go_simp; try first | with_reducible rfl | rfl) ?_
      simp only [Act.put, List.setIfInBounds_toArray, List.set_cons_zero, List.set_cons_succ]
      refine Seq.pure rfl rfl (by intro w; go_simp; try first | with_reducible rfl | rfl) ?_
      simp only [Act.put, List.setIfInBounds_toArray, List.set_cons_zero, List.set_cons_succ]
      refine Seq.pure (v := .int .i64 (m : Int)) rfl rfl (by intro w; go_simp; try first | with_reducible rfl | rfl) ?_
      simp only [Act.put, List.setIfInBounds_toArray, List.set_cons_zero, List.set_cons_succ]
      refine Seq.call rfl rfl rfl rfl (by kernel_rfl) (below_G Ik_.out HPM.out HJ.out.2.2.2) ?_
      simp only [Act.put, List.setIfInBounds_toArray, List.set_cons_zero, List.set_cons_succ]
      refine Seq.index (m := 6) j2 rfl rfl rfl rfl rfl (by kernel_rfl) rfl HJ.out.2.1 ?_
      simp only [Act.put, List.setIfInBounds_toArray, List.set_cons_zero, List.set_cons_succ]
      refine Seq.loadAt rfl rfl rfl rfl (by repeat (first | exact mC | apply mT)) (n := 6) (cs' := VC (px ps j2) (py ps j2)) (PC_room (lt_of_pts HL.out HJ.out.2.1)) (by kernel_rfl) (PC_at (lt_of_pts HL.out HJ.out.2.1)) ?_
      simp only [Act.put, List.setIfInBounds_toArray, List.set_cons_zero, List.set_cons_succ]
      refine Seq.call rfl rfl rfl rfl (by kernel_rfl) (vadd_q (k := 2) HT.out ((HZP.out.x (lt_of_pts HL.out HJ.out.1)).more (by omega)) ((HZP.out.y (lt_of_pts HL.out HJ.out.1)).more (by omega)) ((HZP.out.x (lt_of_pts HL.out HJ.out.2.1)).more (by omega)) ((HZP.out.y (lt_of_pts HL.out HJ.out.2.1)).more (by omega))  rfl rfl (by omega)) ?_
      simp only [Act.put, List.setIfInBounds_toArray, List.set_cons_zero, List.set_cons_succ]
      refine Seq.call rfl rfl rfl rfl (by kernel_rfl) (num_q (m := 1) (n := 2) HT.out (by decide) (by decide) (by decide) EH.out) ?_
      simp only [Act.put, List.setIfInBounds_toArray, List.set_cons_zero, List.set_cons_succ]
      refine Seq.call rfl rfl rfl rfl (by kernel_rfl) (scale_q (k := 9) HT.out (((HZP.out.x (lt_of_pts HL.out HJ.out.1)).add (HZP.out.x (lt_of_pts HL.out HJ.out.2.1))).more (by omega)) (((HZP.out.y (lt_of_pts HL.out HJ.out.1)).add (HZP.out.y (lt_of_pts HL.out HJ.out.2.1))).more (by omega)) (Z_hf.out.more (by omega))  HM.out.1 HM.out.2 (by omega)) ?_
      simp only [Act.put, List.setIfInBounds_toArray, List.set_cons_zero, List.set_cons_succ]
      refine Seq.alloc rfl rfl rfl (z := .agg #[.bool false, .string ⟨#[]⟩, .string ⟨#[]⟩, .bool false, .string ⟨#[]⟩, .string ⟨#[]⟩]) (by kernel_rfl) rfl ?_
      intro bk17 _ _ hbk17_r
      simp only [Act.put, List.setIfInBounds_toArray, List.set_cons_zero, List.set_cons_succ]
      refine Seq.store rfl rfl rfl rfl rfl (by first | exact rS | exact rN (by assumption) (rS) | exact rN (by assumption) (rN (by assumption) (rS)) | exact rN (by assumption) (rN (by assumption) (rN (by assumption) (rS))) | exact rN (by assumption) (rN (by assumption) (rN (by assumption) (rN (by assumption) (rS))))) (n := 6) rfl rfl (by kernel_rfl) (VC_one _ _) ?_
      simp only [Act.put, List.setIfInBounds_toArray, List.set_cons_zero, List.set_cons_succ]
      refine Seq.done fun ws8 hws => ?_
      have HS8 : St w [(bk17, 26, VC mx my), (bk14, 94, BC bx0 by0 bx1 by1), (bk22, 26, PC ps), (bk12, 26, VC dx dy)] ws8 := hws.list1 (by first | exact rS | exact rN (by assumption) (rS) | exact rN (by assumption) (rN (by assumption) (rS)) | exact rN (by assumption) (rN (by assumption) (rN (by assumption) (rS))) | exact rN (by assumption) (rN (by assumption) (rN (by assumption) (rN (by assumption) (rS)))))
      clear HS7 hws
      go_upto_region 14 with (fail)
      refine wp_seq_text [] (StR.no HS8) ?_
      refine Seq.pure rfl rfl (by intro w; go_simp; try first | with_reducible rfl | rfl) ?_
      simp only [Act.put, List.setIfInBounds_toArray, List.set_cons_zero, List.set_cons_succ]
      refine Seq.done fun ws9 hws => ?_
      have HS9 := hws.st
      clear HS8 hws
      go_upto_region 15 with (fail)
      refine wp_seq_text [] (StR.no HS9) ?_
      refine Seq.pure rfl rfl (by intro w; go_simp; try first | with_reducible rfl | rfl) ?_
      simp only [Act.put, List.setIfInBounds_toArray, List.set_cons_zero, List.set_cons_succ]
      refine Seq.load rfl rfl rfl rfl (by repeat (first | exact mC | apply mT)) (n := 6) rfl (by kernel_rfl) ?_
      simp only [Act.put, List.setIfInBounds_toArray, List.set_cons_zero, List.set_cons_succ]
      refine Seq.call rfl rfl rfl rfl (by kernel_rfl) (fun w h => phas_q (k := 100) HT.out (HZP.out.more (by omega)) HL.out ⟨HCP.out.1, by have := HCP.out.2.1; omega, HCP.out.2.2⟩ (Z_mx.out.more (by omega)) (Z_my.out.more (by omega)) HHB.out (by omega) _ w h (h.blk (bk22, _, _) (by repeat (first | exact mC | apply mT))).2) ?_
      simp only [Act.put, List.setIfInBounds_toArray, List.set_cons_zero, List.set_cons_succ]
      refine Seq.pure rfl rfl (by intro w; go_simp; try first | with_reducible rfl | rfl) ?_
      simp only [Act.put, List.setIfInBounds_toArray, List.set_cons_zero, List.set_cons_succ]
      refine Seq.pure rfl rfl (by intro w; go_simp; try first | with_reducible rfl | rfl) ?_
      simp only [Act.put, List.setIfInBounds_toArray, List.set_cons_zero, List.set_cons_succ]
      refine Seq.pure (v := .pointer (some ⟨bk14, 0, none⟩)) rfl rfl (by intro w; go_simp; try first | with_reducible rfl | rfl) ?_
      simp only [Act.put, List.setIfInBounds_toArray, List.set_cons_zero, List.set_cons_succ]
      refine Seq.pure (v := .pointer (some ⟨bk14, 0, none⟩)) rfl rfl (by intro w; go_simp; try first | with_reducible rfl | rfl) ?_
      simp only [Act.put, List.setIfInBounds_toArray, List.set_cons_zero, List.set_cons_succ]
      refine Seq.loadAt rfl rfl rfl rfl (by repeat (first | exact mC | apply mT)) (n := 3) (cs' := RC bx0) (by first | decide | exact Nat.le_refl _ | (simp [VC, TC, FC, BC, RC]; done)) (by kernel_rfl) (by first | rfl | (simp [VC, TC, FC, BC, RC]; done)) ?_
      simp only [Act.put, List.setIfInBounds_toArray, List.set_cons_zero, List.set_cons_succ]
      refine Seq.pure (v := .pointer (some ⟨bk17, 0, none⟩)) rfl rfl (by intro w; go_simp; try first | with_reducible rfl | rfl) ?_
      simp only [Act.put, List.setIfInBounds_toArray, List.set_cons_zero, List.set_cons_succ]
      refine Seq.loadAt rfl rfl rfl rfl (by repeat (first | exact mC | apply mT)) (n := 3) (cs' := RC mx) (by first | decide | exact Nat.le_refl _ | (simp [VC, TC, FC, BC, RC]; done)) (by kernel_rfl) (by first | rfl | (simp [VC, TC, FC, BC, RC]; done)) ?_
      simp only [Act.put, List.setIfInBounds_toArray, List.set_cons_zero, List.set_cons_succ]
      refine Seq.pure (v := .pointer (some ⟨bk14, 6, none⟩)) rfl rfl (by intro w; go_simp; try first | with_reducible rfl | rfl) ?_
      simp only [Act.put, List.setIfInBounds_toArray, List.set_cons_zero, List.set_cons_succ]
      refine Seq.pure (v := .pointer (some ⟨bk14, 6, none⟩)) rfl rfl (by intro w; go_simp; try first | with_reducible rfl | rfl) ?_
      simp only [Act.put, List.setIfInBounds_toArray, List.set_cons_zero, List.set_cons_succ]
      refine Seq.loadAt rfl rfl rfl rfl (by repeat (first | exact mC | apply mT)) (n := 3) (cs' := RC bx1) (by first | decide | exact Nat.le_refl _ | (simp [VC, TC, FC, BC, RC]; done)) (by kernel_rfl) (by first | rfl | (simp [VC, TC, FC, BC, RC]; done)) ?_
      simp only [Act.put, List.setIfInBounds_toArray, List.set_cons_zero, List.set_cons_succ]
      refine Seq.callV rfl rfl rfl rfl rfl (by kernel_rfl) (in_tt (k := 100) HT.out (Z_bx0.out.more (by omega)) (Z_mx.out.more (by omega)) (Z_bx1.out.more (by omega)) HIN.out.1 HIN.out.2.1 (by omega)) ?_
      simp only [Act.put, List.setIfInBounds_toArray, List.set_cons_zero, List.set_cons_succ]
      refine Seq.pure rfl rfl (by intro w; go_simp; try first | with_reducible rfl | rfl) ?_
      simp only [Act.put, List.setIfInBounds_toArray, List.set_cons_zero, List.set_cons_succ]
      refine Seq.pure rfl rfl (by intro w; go_simp; try first | with_reducible rfl | rfl) ?_
      simp only [Act.put, List.setIfInBounds_toArray, List.set_cons_zero, List.set_cons_succ]
      refine Seq.pure rfl rfl (by intro w; go_simp; try first | with_reducible rfl | rfl) ?_
      simp only [Act.put, List.setIfInBounds_toArray, List.set_cons_zero, List.set_cons_succ]
      refine Seq.pure (v := .pointer (some ⟨bk14, 0, none⟩)) rfl rfl (by intro w; go_simp; try first | with_reducible rfl | rfl) ?_
      simp only [Act.put, List.setIfInBounds_toArray, List.set_cons_zero, List.set_cons_succ]
      refine Seq.pure (v := .pointer (some ⟨bk14, 3, none⟩)) rfl rfl (by intro w; go_simp; try first | with_reducible rfl | rfl) ?_
      simp only [Act.put, List.setIfInBounds_toArray, List.set_cons_zero, List.set_cons_succ]
      refine Seq.loadAt rfl rfl rfl rfl (by repeat (first | exact mC | apply mT)) (n := 3) (cs' := RC by0) (by first | decide | exact Nat.le_refl _ | (simp [VC, TC, FC, BC, RC]; done)) (by kernel_rfl) (by first | rfl | (simp [VC, TC, FC, BC, RC]; done)) ?_
      simp only [Act.put, List.setIfInBounds_toArray, List.set_cons_zero, List.set_cons_succ]
      refine Seq.pure (v := .pointer (some ⟨bk17, 3, none⟩)) rfl rfl (by intro w; go_simp; try first | with_reducible rfl | rfl) ?_
      simp only [Act.put, List.setIfInBounds_toArray, List.set_cons_zero, List.set_cons_succ]
      refine Seq.loadAt rfl rfl rfl rfl (by repeat (first | exact mC | apply mT)) (n := 3) (cs' := RC my) (by first | decide | exact Nat.le_refl _ | (simp [VC, TC, FC, BC, RC]; done)) (by kernel_rfl) (by first | rfl | (simp [VC, TC, FC, BC, RC]; done)) ?_
      simp only [Act.put, List.setIfInBounds_toArray, List.set_cons_zero, List.set_cons_succ]
      refine Seq.pure (v := .pointer (some ⟨bk14, 6, none⟩)) rfl rfl (by intro w; go_simp; try first | with_reducible rfl | rfl) ?_
      simp only [Act.put, List.setIfInBounds_toArray, List.set_cons_zero, List.set_cons_succ]
      refine Seq.pure (v := .pointer (some ⟨bk14, 9, none⟩)) rfl rfl (by intro w; go_simp; try first | with_reducible rfl | rfl) ?_
      simp only [Act.put, List.setIfInBounds_toArray, List.set_cons_zero, List.set_cons_succ]
      refine Seq.loadAt rfl rfl rfl rfl (by repeat (first | exact mC | apply mT)) (n := 3) (cs' := RC by1) (by first | decide | exact Nat.le_refl _ | (simp [VC, TC, FC, BC, RC]; done)) (by kernel_rfl) (by first | rfl | (simp [VC, TC, FC, BC, RC]; done)) ?_
      simp only [Act.put, List.setIfInBounds_toArray, List.set_cons_zero, List.set_cons_succ]
      refine Seq.callV rfl rfl rfl rfl rfl (by kernel_rfl) (in_tt (k := 100) HT.out (Z_by0.out.more (by omega)) (Z_my.out.more (by omega)) (Z_by1.out.more (by omega)) HIN.out.2.2.1 HIN.out.2.2.2 (by omega)) ?_
      simp only [Act.put, List.setIfInBounds_toArray, List.set_cons_zero, List.set_cons_succ]
      refine Seq.pure rfl rfl (by intro w; go_simp; try first | with_reducible rfl | rfl) ?_
      simp only [Act.put, List.setIfInBounds_toArray, List.set_cons_zero, List.set_cons_succ]
      refine Seq.pure rfl rfl (by intro w; go_simp; try first | with_reducible rfl | rfl) ?_
      simp only [Act.put, List.setIfInBounds_toArray, List.set_cons_zero, List.set_cons_succ]
      refine Seq.done fun ws10 hws => ?_
      have HS10 := hws.st
      clear HS9 hws
      go_wp2_with fail
      go_ret
      exact ⟨rfl, HS10.below⟩
end Go.Proofs.YtahmajbgfjinbaaDoor
