/- Joined texts: GcC GridCoversW. -/
import Derived.Test.YtoejojfjiikogaaGreatDoorGcA
import Derived.Test.YtoejojfjiikogaaGreatDoorGrF
import Derived.Test.YtoejojfjiikogaaGreatDoorGrY
import Derived.Test.YtoejojfjiikogaaGreatDoorGrQ
import Derived.Test.YtoejojfjiikogaaGreatDoorGrC
import Derived.Test.YtoejojfjiikogaaGreatDoorAp4
import Derived.Test.YtoejojfjiikogaaGreatDoorSp6
namespace Go.Proofs.YtoejojfjiikogaaGreatDoor
open Go.RowKit
set_option linter.unusedVariables false
set_option linter.unusedSimpArgs false

theorem six_ps (j : Nat) : 0 < six j := by
  unfold six
  match j with
  | 0 => decide
  | 1 => decide
  | 2 => decide
  | 3 => decide
  | 4 => decide
  | 5 => decide
  | n + 6 => simp
theorem bd_lo {q d n a : Rat} (hd : 0 < d) (h : q * d = n) (h1 : a * d ≤ n) : a ≤ q := by
  by_cases h2 : a ≤ q
  · exact h2
  · exfalso
    have := Rat.mul_pos hd (show 0 < a - q by grind)
    grind
theorem bd_hi {q d n a : Rat} (hd : 0 < d) (h : q * d = n) (h1 : n ≤ a * d) : q ≤ a := by
  by_cases h2 : q ≤ a
  · exact h2
  · exfalso
    have := Rat.mul_pos hd (show 0 < q - a by grind)
    grind
theorem ratM_bd (x : Int) : ((-8 : Int) : Rat) ≤ ratMq x ∧ ratMq x ≤ ((8 : Int) : Rat) := by
  unfold ratMq
  have h1 := six_ps (belowN x 6)
  have h2 := belowN_lt (x.tdiv 6) (show 0 < 16 * six (belowN x 6) + 1 by omega)
  generalize belowN (x.tdiv 6) (16 * six (belowN x 6) + 1) = b at *
  generalize six (belowN x 6) = d at *
  have hd : (0 : Rat) < ((d : Int) : Rat) := by exact_mod_cast h1
  have hq : mkRat ((b : Int) - 8 * (d : Int)) d * ((d : Int) : Rat) = (((b : Int) - 8 * (d : Int) : Int) : Rat) := by
    have e : ((d : Int) : Rat) = ((d : Nat) : Rat) := rfl
    rw [Rat.mkRat_eq_div, e]
    exact Rat.div_mul_cancel (by rw [e] at hd; grind)
  constructor
  · refine bd_lo hd hq ?_
    rw [← Rat.intCast_mul]
    exact Rat.intCast_le_intCast.2 (by omega)
  · refine bd_hi hd hq ?_
    rw [← Rat.intCast_mul]
    exact Rat.intCast_le_intCast.2 (by omega)
theorem rows_box {q0 q1 q2 q3 : Rat} (h02 : q0 ≤ q2) (h13 : q1 ≤ q3) (c : Ft) : c ∈ rowsL (loC q0) (loC q1) (nX q0 q2) (nX q1 q3) ↔ ((c.x : Int) : Rat) ≤ q2 ∧ q0 ≤ ((c.x + 1 : Int) : Rat) ∧ ((c.y : Int) : Rat) ≤ q3 ∧ q1 ≤ ((c.y + 1 : Int) : Rat) := by
  rw [rowsL_mem, nX_eq h02, nX_eq h13, ← le_fl, ← le_loC, ← le_fl, ← le_loC]
  omega
theorem rows_fst {x0 y0 : Int} {n m : Nat} (hn : 0 < n) (hm : 0 < m) : (rowsL x0 y0 n m)[0]? = some ⟨x0, y0⟩ := by
  obtain ⟨n, rfl⟩ : ∃ k, n = k + 1 := ⟨n - 1, by omega⟩
  obtain ⟨m, rfl⟩ : ∃ k, m = k + 1 := ⟨m - 1, by omega⟩
  unfold rowsL
  rw [List.range_succ_eq_map (n := m), List.flatMap_cons, List.range_succ_eq_map (n := n), List.map_cons]
  simp
theorem cellR (c : Int) (h1 : -200 ≤ c) (h2 : c ≤ 200) : Rz 4 ((c : Int) : Rat) := Rz.intQ (k := 4) (bstr_length_le.2 (by omega)) (by omega)
theorem cell_le (c : Int) : ((c : Int) : Rat) ≤ ((c + 1 : Int) : Rat) := Rat.intCast_le_intCast.2 (by omega)
end Go.Proofs.YtoejojfjiikogaaGreatDoor
namespace Go.Proofs.YtoejojfjiikogaaGreatDoor
open Go.RowKit
set_option linter.unusedVariables false
set_option linter.unusedSimpArgs false

set_option maxHeartbeats 8000000 in
set_option maxRecDepth 20000 in
theorem gridCovers_int (x y u v i m : Int) (w : World) (hx0 : -9223372036854775808 ≤ x) (hx1 : x ≤ 9223372036854775807) (hy0 : -9223372036854775808 ≤ y) (hy1 : y ≤ 9223372036854775807) (hu0 : -9223372036854775808 ≤ u) (hu1 : u ≤ 9223372036854775807) (hv0 : -9223372036854775808 ≤ v) (hv1 : v ≤ 9223372036854775807) (hi0 : -9223372036854775808 ≤ i) (hi1 : i ≤ 9223372036854775807) (hm0 : -9223372036854775808 ≤ m) (hm1 : m ≤ 9223372036854775807) (hT : Tab w) :
    Calls Tryz.prog 3 #[.int .i64 x, .int .i64 y, .int .i64 u, .int .i64 v, .int .i64 i, .int .i64 m] w fun e w' => e = .returned (.bool true) ∧ Below w.heap.size w w' := by
  have HIx := Lib.hid (And.intro hx0 hx1); clear hx0 hx1
  have HIy := Lib.hid (And.intro hy0 hy1); clear hy0 hy1
  have HIu := Lib.hid (And.intro hu0 hu1); clear hu0 hu1
  have HIv := Lib.hid (And.intro hv0 hv1); clear hv0 hv1
  have HIi := Lib.hid (And.intro hi0 hi1); clear hi0 hi1
  have HIm := Lib.hid (And.intro hm0 hm1); clear hm0 hm1
  have HT := Lib.hid hT; clear hT
  obtain ⟨q0, e0⟩ : ∃ z, minQ (ratMq x) (ratMq y) = z := ⟨_, rfl⟩
  obtain ⟨q1, e1⟩ : ∃ z, minQ (ratMq u) (ratMq v) = z := ⟨_, rfl⟩
  obtain ⟨q2, e2⟩ : ∃ z, maxQ (ratMq x) (ratMq y) = z := ⟨_, rfl⟩
  obtain ⟨q3, e3⟩ : ∃ z, maxQ (ratMq u) (ratMq v) = z := ⟨_, rfl⟩
  have Z_q0 := Lib.hid (show Rz 2 q0 from e0 ▸ Rz.min (k := 2) ((ratMq_small x).rz.more (by omega)) ((ratMq_small y).rz.more (by omega)))
  have Z_q1 := Lib.hid (show Rz 2 q1 from e1 ▸ Rz.min (k := 2) ((ratMq_small u).rz.more (by omega)) ((ratMq_small v).rz.more (by omega)))
  have Z_q2 := Lib.hid (show Rz 2 q2 from e2 ▸ Rz.max (k := 2) ((ratMq_small x).rz.more (by omega)) ((ratMq_small y).rz.more (by omega)))
  have Z_q3 := Lib.hid (show Rz 2 q3 from e3 ▸ Rz.max (k := 2) ((ratMq_small u).rz.more (by omega)) ((ratMq_small v).rz.more (by omega)))
  have HQ : Hid ((q0 ≤ q2 ∧ ((-8 : Int) : Rat) ≤ q0 ∧ q2 ≤ ((8 : Int) : Rat)) ∧ (q1 ≤ q3 ∧ ((-8 : Int) : Rat) ≤ q1 ∧ q3 ≤ ((8 : Int) : Rat))) := Lib.hid (by
    have a1 := ratM_bd x; have a2 := ratM_bd y; have a3 := ratM_bd u; have a4 := ratM_bd v
    subst e0 e1 e2 e3
    exact ⟨⟨min_le_max _ _, le_min a1.1 a2.1, max_le a1.2 a2.2⟩, ⟨min_le_max _ _, le_min a3.1 a4.1, max_le a3.2 a4.2⟩⟩)
  have E0 := Lib.hid e0; have E1 := Lib.hid e1; have E2 := Lib.hid e2; have E3 := Lib.hid e3
  clear e0 e1 e2 e3
  go_enter Tryz.func3, Tryz.ntmps3
  have HS : St w [] w := St.start
  go_upto_region 0 with (fail)
  refine wp_seq_text [] (StR.no HS) ?_
  refine Seq.pure rfl rfl (by intro w; go_simp; try rfl) ?_
  simp only [Act.put, nA, nB, nC]
  refine Seq.done fun ws1 hws => ?_
  have HS1 := hws.st
  clear HS hws
  go_upto_region 1 with (fail)
  refine wp_seq_text [] (StR.no HS1) ?_
  refine Seq.call rfl rfl rfl rfl (by kernel_rfl) (fun w h => gbegun_any w (tabS HT.out h)) ?_
  simp only [Act.put, nA, nB, nC]
  iterate 2 (refine Seq.pure rfl rfl (by intro w; go_simp; try rfl) ?_; simp only [Act.put, nA, nB, nC])
  refine Seq.call rfl rfl rfl rfl (by kernel_rfl) (abegun_q HT.out) ?_
  simp only [Act.put, nA, nB, nC]
  iterate 2 (refine Seq.pure rfl rfl (by intro w; go_simp; try rfl) ?_; simp only [Act.put, nA, nB, nC])
  refine Seq.done fun ws2 hws => ?_
  have HS2 := hws.st
  clear HS1 hws
  go_upto_region 3 with (fail)
  refine wp_seq_text [] (StR.no HS2) ?_
  iterate 4 (refine Seq.pure rfl rfl (by intro w; go_simp; try rfl) ?_; simp only [Act.put, nA, nB, nC])
  refine Seq.call rfl rfl rfl rfl (by kernel_rfl) (boxed_q HT.out HIx.out HIy.out HIu.out HIv.out E0.out E1.out E2.out E3.out) ?_
  simp only [Act.put, nA, nB, nC]
  refine Seq.alloc rfl rfl rfl (z := .agg (#[.bool false, .string ⟨#[]⟩, .string ⟨#[]⟩, .bool false, .string ⟨#[]⟩, .string ⟨#[]⟩, .bool false, .string ⟨#[]⟩, .string ⟨#[]⟩, .bool false, .string ⟨#[]⟩, .string ⟨#[]⟩])) (by kernel_rfl) rfl ?_
  intro p13 _ _ hp13_r
  simp only [Act.put, nA, nB, nC]
  refine Seq.store rfl rfl rfl rfl rfl (by repeat (first | exact rS | refine rN (by assumption) ?_)) (n := 12) rfl rfl (by kernel_rfl) (BC_one _ _ _ _) ?_
  simp only [Act.put, nA, nB, nC]
  refine Seq.done fun ws3 hws => ?_
  have HS3 := hws.list1 (p := p13) (by repeat (first | exact rS | refine rN (by assumption) ?_))
  clear HS2 hws
  have HB13 := Lib.hid (HS3.blk _ List.mem_cons_self).2
  have HBEL := Lib.hid HS3.below
  have HT3 := Lib.hid (tabS HT.out HS3)
  clear HS3
  generalize hwA : ws3 = wA at *
  clear hwA
  have bx0 := flQ_bd (show ((-8 : Int) : Rat) ≤ q2 from by have := HQ.out.1; grind) HQ.out.1.2.2
  have bx1 := loC_bd HQ.out.1.2.1 (show q0 ≤ ((8 : Int) : Rat) from by have := HQ.out.1; grind)
  have by0 := flQ_bd (show ((-8 : Int) : Rat) ≤ q3 from by have := HQ.out.2; grind) HQ.out.2.2.2
  have by1 := loC_bd HQ.out.2.2.1 (show q1 ≤ ((8 : Int) : Rat) from by have := HQ.out.2; grind)
  have nx1 := nX_le HQ.out.1.1 HQ.out.1.2.1 HQ.out.1.2.2
  have ny1 := nX_le HQ.out.2.1 HQ.out.2.2.1 HQ.out.2.2.2
  have nx0 := nX_eq HQ.out.1.1
  have ny0 := nX_eq HQ.out.2.1
  have lx0 := loC_le HQ.out.1.1
  have ly0 := loC_le HQ.out.2.1
  have hmm : nX q0 q2 * nX q1 q3 ≤ 400 := Nat.le_trans (Nat.mul_le_mul (show nX q0 q2 ≤ 18 by omega) (show nX q1 q3 ≤ 18 by omega)) (by omega)
  have HO := Lib.hid (of_w (k := 2) wA HT3.out (RawT.rc Z_q0.out) (RawT.rc Z_q1.out) (RawT.rc Z_q2.out) (RawT.rc Z_q3.out) HQ.out.1.1 HQ.out.2.1 rfl rfl (show loC q0 = -flQ (-q0) - 1 from rfl) (by omega) (by omega) (by omega) (by omega) rfl rfl (show loC q1 = -flQ (-q1) - 1 from rfl) (by omega) (by omega) (by omega) (by omega) (by omega) (by omega) hmm (by omega) (by omega))
  rw [← BC_QW] at HO
  have hlen : (rowsL (loC q0) (loC q1) (nX q0 q2) (nX q1 q3)).length = nX q1 q3 * nX q0 q2 := rowsL_len _ _ _ _
  have hpos : 0 < nX q1 q3 * nX q0 q2 := Nat.mul_pos (by omega) (by omega)
  have hcomm : nX q1 q3 * nX q0 q2 ≤ 400 := by rw [Nat.mul_comm]; exact hmm
  have HMEM := Lib.hid (rows_box HQ.out.1.1 HQ.out.2.1)
  have HASC := Lib.hid (rowsL_asc (loC q0) (loC q1) (nX q0 q2) (nX q1 q3))
  have HON : Hid (∀ c ∈ rowsL (loC q0) (loC q1) (nX q0 q2) (nX q1 q3), -10 ≤ c.x ∧ c.x ≤ 10 ∧ -10 ≤ c.y ∧ c.y ≤ 10) := Lib.hid (fun c hc => by have := rowsL_mem.1 hc; omega)
  have HFST : Hid ((rowsL (loC q0) (loC q1) (nX q0 q2) (nX q1 q3))[0]? = some ⟨loC q0, loC q1⟩) := Lib.hid (rows_fst (by omega) (by omega))
  have HXY : Hid (-9 ≤ loC q0 ∧ loC q0 ≤ 8 ∧ -9 ≤ loC q1 ∧ loC q1 ≤ 8) := Lib.hid (by omega)
  generalize rowsL (loC q0) (loC q1) (nX q0 q2) (nX q1 q3) = L at *
  generalize loC q0 = x0 at *
  generalize loC q1 = y0 at *
  have hL4 : L.length ≤ 400 := by omega
  have hL0 : 0 < L.length := by omega
  clear bx0 bx1 by0 by1 nx1 ny1 nx0 ny0 lx0 ly0 hmm hlen hpos hcomm
  obtain ⟨s0, s1, s2, s3, a0, d0, a1, d1, a2, d2, a3, d3, hBC⟩ := BC_open q0 q1 q2 q3
  have HBC := Lib.hid hBC
  rw [hBC] at HO HB13
  clear hBC
  obtain ⟨k0, k1, k2, k3, k4, k5, k6, k7, k8, k9, k10, k11⟩ := HB13.out.c12
  go_wp2_with fail
  refine HO.out.mono ?_
  rintro e w4 ⟨vl, rfl, hr⟩
  obtain ⟨A, c, rfl, hlc, hmc, hF⟩ := hr.facts
  have HB4 := Lib.hid hr.bel
  have HF4 := Lib.hid hF
  have HCK := Lib.hid (check_ok L HASC.out (fun c hc => by have := HON.out c hc; exact ⟨by omega, by omega, by omega, by omega⟩) A L.length c w4 rfl hL4 hF)
  clear hr hF hlc hmc HO k0 k1 k2 k3 k4 k5 k6 k7 k8 k9 k10 k11
  generalize hn : L.length = n at *
  have HN := Lib.hid hn.symm
  clear hn
  have hn0 : ((n : Int) == 0) = false := by simp; omega
  go_wp2_with fail
  refine HCK.out.mono ?_
  rintro e wq ⟨rfl, hb5⟩
  have HF := Lib.hid (HF4.out.next hb5)
  have HBX := Lib.hid (HB13.out.belowB (HB4.out.trans (hb5.mono HB4.out.size)))
  rw [← HBC.out] at HBX
  have HBW := Lib.hid (HB4.out.trans (hb5.mono HB4.out.size))
  have HT := Lib.hid (tabS HT3.out (St.begin HBW.out))
  clear hb5 HF4 HB4 HCK HT3 HB13
  go_wp2_with fail
  clear hn0
  go_loopg [55] n (fun kx s55 wr => ∃ j : Nat, kx = n - j ∧ j ≤ n ∧ s55 = .int .i64 j ∧ Hid (Below wq.heap.size wq wr))
  case atStart => exact ⟨0, by omega, Nat.zero_le _, rfl, Lib.hid (Below.refl _ _)⟩
  case round =>
    obtain ⟨j, hgk, hj, rfl, hbel⟩ := hrel
    have HGK := Lib.hid hgk; clear hgk
    by_cases hlt : j < n
    · obtain ⟨⟨fx, fy⟩, hf⟩ := get_of_lt HN.out hlt
      obtain ⟨b, off, rfl, hb, h0, h1⟩ := HF.out.two hf
      dsimp only at h0 h1
      have hmem := List.mem_of_getElem? hf
      have hon := HON.out _ hmem
      dsimp only at hon
      have hbx := (HMEM.out ⟨fx, fy⟩).1 hmem
      dsimp only at hbx
      have g0 := (hbel.out.cell (p := ⟨b, off + j*2, none⟩) hb).trans h0
      have g1 := (hbel.out.cell (p := ⟨b, off + j*2+1, none⟩) hb).trans h1
      clear h0 h1 hf
      have HBO := Lib.hid (fun w h => boxes_b (k := 4) (l := [(wr.heap.size, 36, CLC fx fy)]) (W := wq) (r := true) HT.out (cellR fx (by omega) (by omega)) (cellR fy (by omega) (by omega)) (cellR (fx + 1) (by omega) (by omega)) (cellR (fy + 1) (by omega) (by omega)) (Z_q0.out.more (by omega)) (Z_q1.out.more (by omega)) (Z_q2.out.more (by omega)) (Z_q3.out.more (by omega)) ⟨cell_le fx, cell_le fy⟩ ⟨HQ.out.1.1, HQ.out.2.1⟩ (decide_eq_true hbx) (by omega) w h)
      have HF := Lib.hid (show True ∧ -100 ≤ fx ∧ fx ≤ 100 ∧ -100 ≤ fy ∧ fy ≤ 100 from ⟨trivial, by omega, by omega, by omega, by omega⟩)
      clear hon hbx hmem
      have i1 : (0 : Int) ≤ (j : Int) := by omega
      have i2 : (j : Int) < (n : Int) := by omega
      go_upto_region 10 with (fail)
      clear g0 g1
      have HS0 : St wq [(wr.heap.size, 36, CLC fx fy)] (wr.alloc (.cells #[.int .i64 fx, .int .i64 fy] 36)) := (St.begin hbel.out).box _ _
      generalize wr.heap.size = p17 at *
      generalize World.alloc wr _ = w1 at *
      go_upto_region 10 with (fail)
      refine wp_seq [] (by kernel_rfl) (by kernel_rfl) Reg.fin_no (StR.no HS0) ?_
      refine Seq.load rfl rfl rfl rfl (by repeat (first | exact mC | apply mT)) (n := 2) rfl (by kernel_rfl) ?_
      simp only [Act.put, nA, nB, nC]
      refine Seq.call rfl rfl rfl rfl (by kernel_rfl) (square_q HT.out HF.out.2.1 HF.out.2.2.1 HF.out.2.2.2.1 HF.out.2.2.2.2) ?_
      simp only [Act.put, nA, nB, nC]
      refine Seq.loadAtF rfl rfl rfl rfl HBX.out (n := 12) (cs' := BC q0 q1 q2 q3) (Nat.le_of_ble_eq_true rfl) (by kernel_rfl) rfl ?_
      simp only [Act.put, nA, nB, nC]
      refine Seq.call rfl rfl rfl rfl (by kernel_rfl) (HBO.out) ?_
      simp only [Act.put, nA, nB, nC]
      refine Seq.pure rfl rfl (by intro w; go_simp; try rfl) ?_
      simp only [Act.put, nA, nB, nC]
      refine Seq.done fun ws1 hws => ?_
      have HS1 := hws.st
      clear HS0 hws
      have HBZ := Lib.hid HS1.below
      clear HS1
      go_wp2_with fail
      go_roundg (n - (j + 1))
      case measure => rw [HGK.out]; omega
      case rel => exact ⟨j + 1, rfl, hlt, by go_num, HBZ⟩
    · obtain rfl : j = n := by omega
      have HS0 : St wq [] wr := St.begin hbel.out
      obtain ⟨b, off, hA, hltb, g0', g1'⟩ := HF.out.two HFST.out
      subst hA
      rw [Nat.zero_mul, Nat.add_zero] at g0' g1'
      dsimp only at g0' g1'
      have g0 := g0'
      have g1 := g1'
      clear g0' g1'
      obtain ⟨pX, epX⟩ : ∃ z, ptQ q0 q2 i = z := ⟨_, rfl⟩
      obtain ⟨pY, epY⟩ : ∃ z, ptQ q1 q3 m = z := ⟨_, rfl⟩
      have Z_pX := Lib.hid (show Rz 40 pX from epX ▸ ptQ_rz i Z_q0.out Z_q2.out)
      have Z_pY := Lib.hid (show Rz 40 pY from epY ▸ ptQ_rz m Z_q1.out Z_q3.out)
      have inX : q0 ≤ pX ∧ pX ≤ q2 := epX ▸ pt_in i HQ.out.1.1
      have inY : q1 ≤ pY ∧ pY ≤ q3 := epY ▸ pt_in m HQ.out.2.1
      have EPX := Lib.hid epX; have EPY := Lib.hid epY
      clear epX epY
      obtain ⟨mX, emX⟩ : ∃ z, flQ pX = z := ⟨_, rfl⟩
      obtain ⟨mY, emY⟩ : ∃ z, flQ pY = z := ⟨_, rfl⟩
      have bX := flQ_bd (q := pX) (a := -8) (b := 8) (by have := HQ.out.1; grind) (by have := HQ.out.1; grind)
      have bY := flQ_bd (q := pY) (a := -8) (b := 8) (by have := HQ.out.2; grind) (by have := HQ.out.2; grind)
      have hin : (⟨mX, mY⟩ : Ft) ∈ L := (HMEM.out _).2 (by
        have c1 := gc_in inX.1 inX.2
        have c2 := gc_in inY.1 inY.2
        rw [emX] at c1; rw [emY] at c2
        rw [le_loC, le_fl] at c1 c2
        exact ⟨c1.2, c1.1, c2.2, c2.1⟩)
      have HBX' : Hid (mX.natAbs ≤ 9223372036854775807) := Lib.hid (by rw [emX] at bX; omega)
      have HBY : Hid (mY.natAbs ≤ 9223372036854775807) := Lib.hid (by rw [emY] at bY; omega)
      have EFX := Lib.hid emX; have EFY := Lib.hid emY
      clear emX emY bX bY inX inY
      have hi40 := belowN_lt i (show 0 < 40 by omega)
      have hm40 := belowN_lt m (show 0 < 40 by omega)
      have hxy := HXY.out
      obtain ⟨s1, es1⟩ : ∃ z, x0 + ((belowN i 40 : Nat) : Int) = z := ⟨_, rfl⟩
      obtain ⟨s2, es2⟩ : ∃ z, y0 + ((belowN m 40 : Nat) : Int) = z := ⟨_, rfl⟩
      obtain ⟨bx, ebx⟩ : ∃ z, s1 - 20 = z := ⟨_, rfl⟩
      obtain ⟨bz, ebz⟩ : ∃ z, s2 - 20 = z := ⟨_, rfl⟩
      have hw1 := Lib.hid (show IntKind.i64.wrap (x0 + ((belowN i 40 : Nat) : Int)) = s1 by rw [es1]; exact IntWalk.i64_in _ (by omega))
      have hw3 := Lib.hid (show IntKind.i64.wrap (y0 + ((belowN m 40 : Nat) : Int)) = s2 by rw [es2]; exact IntWalk.i64_in _ (by omega))
      have hw2 := Lib.hid (show IntKind.i64.wrap (s1 - 20) = bx by rw [ebx]; exact IntWalk.i64_in _ (by omega))
      have hw4 := Lib.hid (show IntKind.i64.wrap (s2 - 20) = bz by rw [ebz]; exact IntWalk.i64_in _ (by omega))
      have HG := Lib.hid (show -100 ≤ bx ∧ bx ≤ 100 ∧ -100 ≤ bz ∧ bz ≤ 100 from ⟨by omega, by omega, by omega, by omega⟩)
      clear es1 es2 ebx ebz hi40 hm40 hxy
      obtain ⟨rb, hrb⟩ : ∃ r, decide ((⟨bx, bz⟩ : Ft) ∈ L) = r := ⟨_, rfl⟩
      have hb2 : decide (((bx : Int) : Rat) ≤ q2 ∧ q0 ≤ ((bx + 1 : Int) : Rat) ∧ ((bz : Int) : Rat) ≤ q3 ∧ q1 ≤ ((bz + 1 : Int) : Rat)) = rb := by
        rw [← hrb, decide_eq_decide]; exact (HMEM.out ⟨bx, bz⟩).symm
      have HB2 := Lib.hid (fun (l : List Own) w (h : St wq l w) => boxes_b (k := 4) (W := wq) (l := l) (r := rb) HT.out (cellR bx (by have := HG.out; omega) (by have := HG.out; omega)) (cellR bz (by have := HG.out; omega) (by have := HG.out; omega)) (cellR (bx + 1) (by have := HG.out; omega) (by have := HG.out; omega)) (cellR (bz + 1) (by have := HG.out; omega) (by have := HG.out; omega)) (Z_q0.out.more (by omega)) (Z_q1.out.more (by omega)) (Z_q2.out.more (by omega)) (Z_q3.out.more (by omega)) ⟨cell_le bx, cell_le bz⟩ ⟨HQ.out.1.1, HQ.out.2.1⟩ hb2 (by omega) w h)
      have HC1 := Lib.hid (fun w (h : Below wq.heap.size wq w) => contains_any L ⟨mX, mY⟩ (some ⟨b, off, none⟩) j c w HN.out (by omega) (HF.out.next h))
      have HC2 := Lib.hid (fun w (h : Below wq.heap.size wq w) => contains_any L ⟨bx, bz⟩ (some ⟨b, off, none⟩) j c w HN.out (by omega) (HF.out.next h))
      rw [decide_eq_true hin] at HC1
      rw [hrb] at HC2
      unfold valF at HC1 HC2
      dsimp only at HC1 HC2
      clear hin hrb hb2
      have hnj : 0 < j := by omega
      have i1 : (0 : Int) < (j : Int) := by omega
      generalize HBX'.out = HBX0 at *
      go_upto_region 13 with (fail)
      refine wp_seq [] (by kernel_rfl) (by kernel_rfl) Reg.fin_no (StR.no HS0) ?_
      iterate 2 (refine Seq.pure rfl rfl (by intro w; go_simp; try rfl) ?_; simp only [Act.put, nA, nB, nC])
      refine Seq.loadAtF rfl rfl rfl rfl HBX.out (n := 3) (cs' := RC q0) (Nat.le_of_ble_eq_true rfl) (by kernel_rfl) rfl ?_
      simp only [Act.put, nA, nB, nC]
      iterate 2 (refine Seq.pure rfl rfl (by intro w; go_simp; try rfl) ?_; simp only [Act.put, nA, nB, nC])
      refine Seq.loadAtF rfl rfl rfl rfl HBX.out (n := 3) (cs' := RC q2) (Nat.le_of_ble_eq_true rfl) (by kernel_rfl) rfl ?_
      simp only [Act.put, nA, nB, nC]
      refine Seq.pure (v := .agg (VC q0 q2)) rfl rfl (fun w => bld_Span rfl rfl rfl w) ?_
      simp only [Act.put, nA, nB, nC]
      refine Seq.pure rfl rfl (by intro w; go_simp; try rfl) ?_
      simp only [Act.put, nA, nB, nC]
      refine Seq.call rfl rfl rfl rfl (by kernel_rfl) (part_q (k := 2) HT.out Z_q0.out Z_q2.out HIi.out EPX.out (by omega)) ?_
      simp only [Act.put, nA, nB, nC]
      iterate 2 (refine Seq.pure rfl rfl (by intro w; go_simp; try rfl) ?_; simp only [Act.put, nA, nB, nC])
      refine Seq.loadAtF rfl rfl rfl rfl HBX.out (n := 3) (cs' := RC q1) (Nat.le_of_ble_eq_true rfl) (by kernel_rfl) rfl ?_
      simp only [Act.put, nA, nB, nC]
      iterate 2 (refine Seq.pure rfl rfl (by intro w; go_simp; try rfl) ?_; simp only [Act.put, nA, nB, nC])
      refine Seq.loadAtF rfl rfl rfl rfl HBX.out (n := 3) (cs' := RC q3) (Nat.le_of_ble_eq_true rfl) (by kernel_rfl) rfl ?_
      simp only [Act.put, nA, nB, nC]
      refine Seq.pure (v := .agg (VC q1 q3)) rfl rfl (fun w => bld_Span rfl rfl rfl w) ?_
      simp only [Act.put, nA, nB, nC]
      refine Seq.pure rfl rfl (by intro w; go_simp; try rfl) ?_
      simp only [Act.put, nA, nB, nC]
      refine Seq.call rfl rfl rfl rfl (by kernel_rfl) (part_q (k := 2) HT.out Z_q1.out Z_q3.out HIm.out EPY.out (by omega)) ?_
      simp only [Act.put, nA, nB, nC]
      refine Seq.pure (v := .agg (VC pX pY)) rfl rfl (fun w => bld_Vec rfl rfl rfl w) ?_
      simp only [Act.put, nA, nB, nC]
      refine Seq.alloc rfl rfl rfl (z := .agg (SW rz0 rz0)) (by kernel_rfl) rfl ?_
      intro p18 _ _ hp18_r
      simp only [Act.put, nA, nB, nC]
      refine Seq.store rfl rfl rfl rfl rfl (by repeat (first | exact rS | refine rN (by assumption) ?_)) (n := 6) rfl rfl (by kernel_rfl) (VC_one _ _) ?_
      simp only [Act.put, nA, nB, nC]
      refine Seq.done fun ws1 hws => ?_
      have HS1 := hws.list1 (p := p18) (by repeat (first | exact rS | refine rN (by assumption) ?_))
      clear HS0 hws
      go_upto_region 14 with (fail)
      refine wp_seq_text [] (StR.no HS1) ?_
      refine Seq.pure rfl rfl (by intro w; go_simp; try rfl) ?_
      simp only [Act.put, nA, nB, nC]
      refine Seq.loadAt rfl rfl rfl rfl (by repeat (first | exact mC | apply mT)) (n := 3) (cs' := RC pX) (Nat.le_of_ble_eq_true rfl) (by kernel_rfl) rfl ?_
      simp only [Act.put, nA, nB, nC]
      refine Seq.call rfl rfl rfl rfl (by kernel_rfl) (floor_q (k := 40) HT.out Z_pX.out EFX.out HBX0 (by omega)) ?_
      simp only [Act.put, nA, nB, nC]
      refine Seq.pure rfl rfl (by intro w; go_simp; try rfl) ?_
      simp only [Act.put, nA, nB, nC]
      refine Seq.pure (v := .int .i64 mX) rfl rfl (fun w => rfl) ?_
      simp only [Act.put, nA, nB, nC]
      refine Seq.pure (v := .int .i64 0) rfl rfl (fun w => rfl) ?_
      simp only [Act.put, nA, nB, nC]
      iterate 2 (refine Seq.pure rfl rfl (by intro w; go_simp; try rfl) ?_; simp only [Act.put, nA, nB, nC])
      refine Seq.done fun ws2 hws => ?_
      have HS2 := hws.st
      clear HS1 hws
      go_upto_region 15 with (fail)
      refine wp_seq_text [] (StR.no HS2) ?_
      refine Seq.pure rfl rfl (by intro w; go_simp; try rfl) ?_
      simp only [Act.put, nA, nB, nC]
      refine Seq.loadAt rfl rfl rfl rfl (by repeat (first | exact mC | apply mT)) (n := 3) (cs' := RC pY) (Nat.le_of_ble_eq_true rfl) (by kernel_rfl) rfl ?_
      simp only [Act.put, nA, nB, nC]
      refine Seq.call rfl rfl rfl rfl (by kernel_rfl) (floor_q (k := 40) HT.out Z_pY.out EFY.out HBY.out (by omega)) ?_
      simp only [Act.put, nA, nB, nC]
      refine Seq.pure rfl rfl (by intro w; go_simp; try rfl) ?_
      simp only [Act.put, nA, nB, nC]
      refine Seq.pure (v := .int .i64 mY) rfl rfl (fun w => rfl) ?_
      simp only [Act.put, nA, nB, nC]
      refine Seq.pure (v := .int .i64 0) rfl rfl (fun w => rfl) ?_
      simp only [Act.put, nA, nB, nC]
      iterate 2 (refine Seq.pure rfl rfl (by intro w; go_simp; try rfl) ?_; simp only [Act.put, nA, nB, nC])
      refine Seq.done fun ws3 hws => ?_
      have HS3 := hws.st
      clear HS2 hws
      go_upto_region 16 with (fail)
      refine wp_seq_text [] (StR.no HS3) ?_
      iterate 2 (refine Seq.pure rfl rfl (by intro w; go_simp; try rfl) ?_; simp only [Act.put, nA, nB, nC])
      refine Seq.pure (v := .agg (CLC mX mY)) rfl rfl (fun w => bld_Cell rfl rfl rfl w) ?_
      simp only [Act.put, nA, nB, nC]
      refine Seq.alloc rfl rfl rfl (z := .agg (#[.int .i64 0, .int .i64 0])) (by kernel_rfl) rfl ?_
      intro p23 _ _ hp23_r
      simp only [Act.put, nA, nB, nC]
      refine Seq.store rfl rfl rfl rfl rfl (by repeat (first | exact rS | refine rN (by assumption) ?_)) (n := 2) rfl rfl (by kernel_rfl) (CLC_one' _ _) ?_
      simp only [Act.put, nA, nB, nC]
      refine Seq.done fun ws4 hws => ?_
      have HS4 := hws.list1 (p := p23) (by repeat (first | exact rS | refine rN (by assumption) ?_))
      clear HS3 hws
      go_upto_region 17 with (fail)
      refine wp_seq [] (by kernel_rfl) (by kernel_rfl) Reg.fin_no (StR.no HS4) ?_
      iterate 3 (refine Seq.pure rfl rfl (by intro w; go_simp; try rfl) ?_; simp only [Act.put, nA, nB, nC])
      refine Seq.look (v := .int .i64 x0) rfl rfl (by intro w hs; have q0 := (hs.below.cell (p := ⟨b, off, none⟩) hltb).trans g0; go_simp; done) ?_
      simp only [Act.put, nA, nB, nC]
      refine Seq.pure rfl rfl (by intro w; go_simp; try rfl) ?_
      simp only [Act.put, nA, nB, nC]
      refine Seq.call rfl rfl rfl rfl (by kernel_rfl) (below_q (n := 40) HIi.out.1 HIi.out.2 (by omega) (by omega)) ?_
      simp only [Act.put, nA, nB, nC]
      refine Seq.pure (v := .int .i64 s1) rfl rfl (by intro w; go_simp <;> (first | (rw [hw1.out]; done) | exact hw1.out | (simp [hw1.out]; done) | (trace_state; done))) ?_
      simp only [Act.put, nA, nB, nC]
      refine Seq.pure (v := .int .i64 bx) rfl rfl (by intro w; go_simp <;> (first | (rw [hw2.out]; done) | exact hw2.out | (simp [hw2.out]; done) | (trace_state; done))) ?_
      simp only [Act.put, nA, nB, nC]
      iterate 3 (refine Seq.pure rfl rfl (by intro w; go_simp; try rfl) ?_; simp only [Act.put, nA, nB, nC])
      refine Seq.look (v := .int .i64 y0) rfl rfl (by intro w hs; have q0 := (hs.below.cell (p := ⟨b, off + 1, none⟩) hltb).trans g1; go_simp; done) ?_
      simp only [Act.put, nA, nB, nC]
      refine Seq.pure rfl rfl (by intro w; go_simp; try rfl) ?_
      simp only [Act.put, nA, nB, nC]
      refine Seq.call rfl rfl rfl rfl (by kernel_rfl) (below_q (n := 40) HIm.out.1 HIm.out.2 (by omega) (by omega)) ?_
      simp only [Act.put, nA, nB, nC]
      refine Seq.pure (v := .int .i64 s2) rfl rfl (by intro w; go_simp <;> (first | (rw [hw3.out]; done) | exact hw3.out | (simp [hw3.out]; done) | (trace_state; done))) ?_
      simp only [Act.put, nA, nB, nC]
      refine Seq.pure (v := .int .i64 bz) rfl rfl (by intro w; go_simp <;> (first | (rw [hw4.out]; done) | exact hw4.out | (simp [hw4.out]; done) | (trace_state; done))) ?_
      simp only [Act.put, nA, nB, nC]
      refine Seq.pure (v := .agg (CLC bx bz)) rfl rfl (fun w => bld_Cell rfl rfl rfl w) ?_
      simp only [Act.put, nA, nB, nC]
      refine Seq.alloc rfl rfl rfl (z := .agg (#[.int .i64 0, .int .i64 0])) (by kernel_rfl) rfl ?_
      intro p24 _ _ hp24_r
      simp only [Act.put, nA, nB, nC]
      refine Seq.store rfl rfl rfl rfl rfl (by repeat (first | exact rS | refine rN (by assumption) ?_)) (n := 2) rfl rfl (by kernel_rfl) (CLC_one' _ _) ?_
      simp only [Act.put, nA, nB, nC]
      refine Seq.done fun ws5 hws => ?_
      have HS5 := hws.list1 (p := p24) (by repeat (first | exact rS | refine rN (by assumption) ?_))
      clear HS4 hws
      go_upto_region 18 with (fail)
      refine wp_seq [] (by kernel_rfl) (by kernel_rfl) Reg.fin_no (StR.no HS5) ?_
      iterate 8 (refine Seq.pure rfl rfl (by intro w; go_simp; try rfl) ?_; simp only [Act.put, nA, nB, nC])
      refine Seq.load rfl rfl rfl rfl (by repeat (first | exact mC | apply mT)) (n := 2) rfl (by kernel_rfl) ?_
      simp only [Act.put, nA, nB, nC]
      refine Seq.call rfl rfl rfl rfl (by kernel_rfl) (fun w h => HC1.out w h.below) ?_
      simp only [Act.put, nA, nB, nC]
      iterate 3 (refine Seq.pure rfl rfl (by intro w; go_simp; try rfl) ?_; simp only [Act.put, nA, nB, nC])
      refine Seq.load rfl rfl rfl rfl (by repeat (first | exact mC | apply mT)) (n := 2) rfl (by kernel_rfl) ?_
      simp only [Act.put, nA, nB, nC]
      refine Seq.call rfl rfl rfl rfl (by kernel_rfl) (fun w h => HC2.out w h.below) ?_
      simp only [Act.put, nA, nB, nC]
      refine Seq.load rfl rfl rfl rfl (by repeat (first | exact mC | apply mT)) (n := 2) rfl (by kernel_rfl) ?_
      simp only [Act.put, nA, nB, nC]
      refine Seq.call rfl rfl rfl rfl (by kernel_rfl) (square_q HT.out HG.out.1 HG.out.2.1 HG.out.2.2.1 HG.out.2.2.2) ?_
      simp only [Act.put, nA, nB, nC]
      refine Seq.loadAtF rfl rfl rfl rfl HBX.out (n := 12) (cs' := BC q0 q1 q2 q3) (Nat.le_of_ble_eq_true rfl) (by kernel_rfl) rfl ?_
      simp only [Act.put, nA, nB, nC]
      refine Seq.call rfl rfl rfl rfl (by kernel_rfl) (HB2.out _) ?_
      simp only [Act.put, nA, nB, nC]
      iterate 3 (refine Seq.pure rfl rfl (by intro w; go_simp; try rfl) ?_; simp only [Act.put, nA, nB, nC])
      refine Seq.done fun ws6 hws => ?_
      have HS6 := hws.st
      clear HS5 hws
      have HBZ := Lib.hid (HBEL.out.trans ((HBW.out.trans (HS6.below.mono HBW.out.size)).mono HBEL.out.size))
      go_wp2_with fail
      go_ret
      exact ⟨rfl, HBZ.out⟩
end Go.Proofs.YtoejojfjiikogaaGreatDoor
