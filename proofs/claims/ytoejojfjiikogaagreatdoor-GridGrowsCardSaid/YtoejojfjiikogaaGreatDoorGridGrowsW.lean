/- Joined texts: GcC GridGrowsW. -/
import Derived.Test.YtoejojfjiikogaaGreatDoorGcA
import Derived.Test.YtoejojfjiikogaaGreatDoorGrF
import Derived.Test.YtoejojfjiikogaaGreatDoorGcB
import Derived.Test.YtoejojfjiikogaaGreatDoorGrY
import Derived.Test.YtoejojfjiikogaaGreatDoorGrI
import Derived.Test.YtoejojfjiikogaaGreatDoorAp4
namespace Go.Proofs.YtoejojfjiikogaaGreatDoor
open Go.RowKit
set_option linter.unusedVariables false
set_option linter.unusedSimpArgs false

theorem six_ps (j : Nat) : 0 < six j := by
  unfold six
  match j with
  | 0 => decide
  | 1 => decide
  | 2 => decide
  | 3 => decide
  | 4 => decide
  | 5 => decide
  | n + 6 => simp
theorem bd_lo {q d n a : Rat} (hd : 0 < d) (h : q * d = n) (h1 : a * d ≤ n) : a ≤ q := by
  by_cases h2 : a ≤ q
  · exact h2
  · exfalso
    have := Rat.mul_pos hd (show 0 < a - q by grind)
    grind
theorem bd_hi {q d n a : Rat} (hd : 0 < d) (h : q * d = n) (h1 : n ≤ a * d) : q ≤ a := by
  by_cases h2 : q ≤ a
  · exact h2
  · exfalso
    have := Rat.mul_pos hd (show 0 < q - a by grind)
    grind
theorem ratM_bd (x : Int) : ((-8 : Int) : Rat) ≤ ratMq x ∧ ratMq x ≤ ((8 : Int) : Rat) := by
  unfold ratMq
  have h1 := six_ps (belowN x 6)
  have h2 := belowN_lt (x.tdiv 6) (show 0 < 16 * six (belowN x 6) + 1 by omega)
  generalize belowN (x.tdiv 6) (16 * six (belowN x 6) + 1) = b at *
  generalize six (belowN x 6) = d at *
  have hd : (0 : Rat) < ((d : Int) : Rat) := by exact_mod_cast h1
  have hq : mkRat ((b : Int) - 8 * (d : Int)) d * ((d : Int) : Rat) = (((b : Int) - 8 * (d : Int) : Int) : Rat) := by
    have e : ((d : Int) : Rat) = ((d : Nat) : Rat) := rfl
    rw [Rat.mkRat_eq_div, e]
    exact Rat.div_mul_cancel (by rw [e] at hd; grind)
  constructor
  · refine bd_lo hd hq ?_
    rw [← Rat.intCast_mul]
    exact Rat.intCast_le_intCast.2 (by omega)
  · refine bd_hi hd hq ?_
    rw [← Rat.intCast_mul]
    exact Rat.intCast_le_intCast.2 (by omega)
theorem rows_box {q0 q1 q2 q3 : Rat} (h02 : q0 ≤ q2) (h13 : q1 ≤ q3) (c : Ft) : c ∈ rowsL (loC q0) (loC q1) (nX q0 q2) (nX q1 q3) ↔ ((c.x : Int) : Rat) ≤ q2 ∧ q0 ≤ ((c.x + 1 : Int) : Rat) ∧ ((c.y : Int) : Rat) ≤ q3 ∧ q1 ≤ ((c.y + 1 : Int) : Rat) := by
  rw [rowsL_mem, nX_eq h02, nX_eq h13, ← le_fl, ← le_loC, ← le_fl, ← le_loC]
  omega
end Go.Proofs.YtoejojfjiikogaaGreatDoor
namespace Go.Proofs.YtoejojfjiikogaaGreatDoor
open Go.RowKit
set_option linter.unusedVariables false
set_option linter.unusedSimpArgs false

theorem goodL_meet (a b : List Ft) : goodL (noB (ofL b)) (ofL a) = meetL a b := by
  unfold goodL meetL noB
  exact List.filter_congr fun c _ => by simp
theorem meet_c (la lb : List Ft) (va vb : Value) (w : World) (hA : Fs va la w) (hB : Fs vb lb w) (hs : la.length ≤ 1000) (hs2 : lb.length ≤ 1000) : Calls Tryz.prog 30 #[va, vb] w (FsPost (meetL la lb) w) := by
  rw [← goodL_meet]; exact gmeet_any la lb va vb w hA hB hs hs2
theorem min_cell {q o : Rat} {a b : Rat} (h1 : q ≤ b) (h2 : o ≤ a) (h3 : q ≤ a) (h4 : o ≤ b) : ∃ p : Rat, q ≤ p ∧ o ≤ p ∧ p ≤ a ∧ p ≤ b := by
  by_cases h : q ≤ o
  · exact ⟨o, h, Rat.le_refl, h2, h4⟩
  · exact ⟨q, Rat.le_refl, by grind, h3, h1⟩
theorem mem_len {l : List Ft} {c : Ft} (h : c ∈ l) : 0 < l.length := List.length_pos_of_mem h
set_option maxHeartbeats 8000000 in
set_option maxRecDepth 20000 in
theorem gridGrows_int {A : Option Addr} {n c : Nat} {xs : List Int} (x y u v bz : Int) (w : World) (hi : Ints w A n c xs) (hx0 : -9223372036854775808 ≤ x) (hx1 : x ≤ 9223372036854775807) (hy0 : -9223372036854775808 ≤ y) (hy1 : y ≤ 9223372036854775807) (hu0 : -9223372036854775808 ≤ u) (hu1 : u ≤ 9223372036854775807) (hv0 : -9223372036854775808 ≤ v) (hv1 : v ≤ 9223372036854775807) (hbz0 : -9223372036854775808 ≤ bz) (hbz1 : bz ≤ 9223372036854775807) (hT : Tab w) :
    Calls Tryz.prog 5 #[.int .i64 x, .int .i64 y, .int .i64 u, .int .i64 v, .int .i64 bz, .slice A n c] w fun e w' => e = .returned (.bool true) ∧ Below w.heap.size w w' := by
  have HIx := Lib.hid (And.intro hx0 hx1); clear hx0 hx1
  have HIy := Lib.hid (And.intro hy0 hy1); clear hy0 hy1
  have HIu := Lib.hid (And.intro hu0 hu1); clear hu0 hu1
  have HIv := Lib.hid (And.intro hv0 hv1); clear hv0 hv1
  have HIbz := Lib.hid (And.intro hbz0 hbz1); clear hbz0 hbz1
  have HT := Lib.hid hT; clear hT
  have HIX := Lib.hid hi; clear hi
  obtain ⟨q0, e0⟩ : ∃ z, minQ (ratMq x) (ratMq y) = z := ⟨_, rfl⟩
  obtain ⟨q1, e1⟩ : ∃ z, minQ (ratMq u) (ratMq v) = z := ⟨_, rfl⟩
  obtain ⟨q2, e2⟩ : ∃ z, maxQ (ratMq x) (ratMq y) = z := ⟨_, rfl⟩
  obtain ⟨q3, e3⟩ : ∃ z, maxQ (ratMq u) (ratMq v) = z := ⟨_, rfl⟩
  have Z_q0 := Lib.hid (show Rz 2 q0 from e0 ▸ Rz.min (k := 2) ((ratMq_small x).rz.more (by omega)) ((ratMq_small y).rz.more (by omega)))
  have Z_q1 := Lib.hid (show Rz 2 q1 from e1 ▸ Rz.min (k := 2) ((ratMq_small u).rz.more (by omega)) ((ratMq_small v).rz.more (by omega)))
  have Z_q2 := Lib.hid (show Rz 2 q2 from e2 ▸ Rz.max (k := 2) ((ratMq_small x).rz.more (by omega)) ((ratMq_small y).rz.more (by omega)))
  have Z_q3 := Lib.hid (show Rz 2 q3 from e3 ▸ Rz.max (k := 2) ((ratMq_small u).rz.more (by omega)) ((ratMq_small v).rz.more (by omega)))
  have HQ : Hid ((q0 ≤ q2 ∧ ((-8 : Int) : Rat) ≤ q0 ∧ q2 ≤ ((8 : Int) : Rat)) ∧ (q1 ≤ q3 ∧ ((-8 : Int) : Rat) ≤ q1 ∧ q3 ≤ ((8 : Int) : Rat))) := Lib.hid (by
    have a1 := ratM_bd x; have a2 := ratM_bd y; have a3 := ratM_bd u; have a4 := ratM_bd v
    subst e0 e1 e2 e3
    exact ⟨⟨min_le_max _ _, le_min a1.1 a2.1, max_le a1.2 a2.2⟩, ⟨min_le_max _ _, le_min a3.1 a4.1, max_le a3.2 a4.2⟩⟩)
  have E0 := Lib.hid e0; have E1 := Lib.hid e1; have E2 := Lib.hid e2; have E3 := Lib.hid e3
  clear e0 e1 e2 e3
  have hb20 := belowN_lt bz (show 0 < 20 by omega)
  have HD := Lib.hid (show (((belowN bz 20 : Nat) : Int)).natAbs < 65536 by omega)
  obtain ⟨d, ed⟩ : ∃ z, (((belowN bz 20 : Nat) : Int) : Rat) / ((8 : Int) : Rat) = z := ⟨_, rfl⟩
  have Z_d := Lib.hid (show Rz 8 d from ed ▸ (num_s _ 8 HD.out (by decide) (by decide)).more (by omega))
  have HDD : Hid (0 ≤ d ∧ d ≤ ((3 : Int) : Rat)) := Lib.hid (by
    subst ed
    have h0 : ((0 : Int) : Rat) ≤ (((belowN bz 20 : Nat) : Int) : Rat) := Rat.intCast_le_intCast.2 (by omega)
    have h1 : (((belowN bz 20 : Nat) : Int) : Rat) ≤ ((20 : Int) : Rat) := Rat.intCast_le_intCast.2 (by omega)
    rw [show ((0 : Int) : Rat) = 0 from rfl] at h0
    rw [Rat.div_def]
    have h8 : ((8 : Int) : Rat)⁻¹ = 1 / 8 := by decide +kernel
    rw [h8]
    have h20 : ((20 : Int) : Rat) = 20 := rfl
    have h3 : ((3 : Int) : Rat) = 3 := rfl
    rw [h20] at h1
    rw [h3]
    constructor <;> grind)
  have ED := Lib.hid ed; clear ed hb20
  obtain ⟨g0, eg0⟩ : ∃ z, q0 - d = z := ⟨_, rfl⟩
  obtain ⟨g1, eg1⟩ : ∃ z, q1 - d = z := ⟨_, rfl⟩
  obtain ⟨g2, eg2⟩ : ∃ z, q2 + d = z := ⟨_, rfl⟩
  obtain ⟨g3, eg3⟩ : ∃ z, q3 + d = z := ⟨_, rfl⟩
  have Z_g0 := Lib.hid (show Rz 40 g0 from eg0 ▸ (Z_q0.out.sub Z_d.out).more (by omega))
  have Z_g1 := Lib.hid (show Rz 40 g1 from eg1 ▸ (Z_q1.out.sub Z_d.out).more (by omega))
  have Z_g2 := Lib.hid (show Rz 40 g2 from eg2 ▸ (Z_q2.out.add Z_d.out).more (by omega))
  have Z_g3 := Lib.hid (show Rz 40 g3 from eg3 ▸ (Z_q3.out.add Z_d.out).more (by omega))
  have EG := Lib.hid (And.intro eg0 (And.intro eg1 (And.intro eg2 eg3)))
  obtain ⟨ps, hps⟩ : ∃ z, polyQ xs = z := ⟨_, rfl⟩
  obtain ⟨mP, hm⟩ : ∃ z, ps.length = z := ⟨_, rfl⟩
  have hlen := polyQ_len xs
  rw [hps, hm] at hlen
  have hcv := polyQ_cvx xs
  rw [hps] at hcv
  have hzp := polyQ_z xs
  rw [hps] at hzp
  have hpin := polyQ_in xs
  rw [hps] at hpin
  have pin : ∀ j, j < mP → (((-2 : Int) : Rat) ≤ px ps j ∧ px ps j ≤ ((2 : Int) : Rat)) ∧ (((-2 : Int) : Rat) ≤ py ps j ∧ py ps j ≤ ((2 : Int) : Rat)) := fun j hj => by
    have h := hpin _ (List.getElem_mem (show j < ps.length by omega))
    rw [getD_pt (show j < ps.length by omega)] at h
    exact ⟨⟨h.1, h.2.1⟩, ⟨h.2.2.1, h.2.2.2⟩⟩
  obtain ⟨o0, ho0⟩ : ∃ z, mnF (px ps) (mP - 1) = z := ⟨_, rfl⟩
  have Z_o0 := Lib.hid (show Rz 2 o0 from ho0 ▸ mnF_rz (n := mP) (fun q hq => hzp.x (show q < ps.length by omega)) _ (by omega))
  obtain ⟨o1, ho1⟩ : ∃ z, mnF (py ps) (mP - 1) = z := ⟨_, rfl⟩
  have Z_o1 := Lib.hid (show Rz 2 o1 from ho1 ▸ mnF_rz (n := mP) (fun q hq => hzp.y (show q < ps.length by omega)) _ (by omega))
  obtain ⟨o2, ho2⟩ : ∃ z, mxF (px ps) (mP - 1) = z := ⟨_, rfl⟩
  have Z_o2 := Lib.hid (show Rz 2 o2 from ho2 ▸ mxF_rz (n := mP) (fun q hq => hzp.x (show q < ps.length by omega)) _ (by omega))
  obtain ⟨o3, ho3⟩ : ∃ z, mxF (py ps) (mP - 1) = z := ⟨_, rfl⟩
  have Z_o3 := Lib.hid (show Rz 2 o3 from ho3 ▸ mxF_rz (n := mP) (fun q hq => hzp.y (show q < ps.length by omega)) _ (by omega))
  have HOB : Hid ((o0 ≤ o2 ∧ ((-2 : Int) : Rat) ≤ o0 ∧ o2 ≤ ((2 : Int) : Rat)) ∧ (o1 ≤ o3 ∧ ((-2 : Int) : Rat) ≤ o1 ∧ o3 ≤ ((2 : Int) : Rat))) := Lib.hid (by
    have l1 := mn_le (f := px ps) (mP - 1) 0 (by omega)
    have l2 := mx_ge (f := px ps) (mP - 1) 0 (by omega)
    have l3 := mn_le (f := py ps) (mP - 1) 0 (by omega)
    have l4 := mx_ge (f := py ps) (mP - 1) 0 (by omega)
    have l5 := mn_all (f := px ps) (a := ((-2 : Int) : Rat)) (mP - 1) (fun j hj => (pin j (by omega)).1.1)
    have l6 := mx_all (f := px ps) (a := ((2 : Int) : Rat)) (mP - 1) (fun j hj => (pin j (by omega)).1.2)
    have l7 := mn_all (f := py ps) (a := ((-2 : Int) : Rat)) (mP - 1) (fun j hj => (pin j (by omega)).2.1)
    have l8 := mx_all (f := py ps) (a := ((2 : Int) : Rat)) (mP - 1) (fun j hj => (pin j (by omega)).2.2)
    rw [ho0] at l1 l5; rw [ho2] at l2 l6; rw [ho1] at l3 l7; rw [ho3] at l4 l8
    exact ⟨⟨by grind, l5, l6⟩, ⟨by grind, l7, l8⟩⟩)
  have HBO := Lib.hid (And.intro ho0 (And.intro ho1 (And.intro ho2 ho3)))
  have HCV := Lib.hid (show 3 ≤ mP ∧ mP ≤ 64 ∧ Cvx ps from ⟨by omega, by omega, hcv⟩)
  have HZP := Lib.hid hzp
  have HL := Lib.hid hm
  have HPS := Lib.hid hps
  obtain ⟨t0, et0⟩ : ∃ z, minQ g0 q0 = z := ⟨_, rfl⟩
  obtain ⟨t1, et1⟩ : ∃ z, minQ g1 q1 = z := ⟨_, rfl⟩
  obtain ⟨t2, et2⟩ : ∃ z, maxQ g2 q2 = z := ⟨_, rfl⟩
  obtain ⟨t3, et3⟩ : ∃ z, maxQ g3 q3 = z := ⟨_, rfl⟩
  have Z_t0 := Lib.hid (show Rz 40 t0 from et0 ▸ Rz.min (k := 40) Z_g0.out (Z_q0.out.more (by omega)))
  have Z_t1 := Lib.hid (show Rz 40 t1 from et1 ▸ Rz.min (k := 40) Z_g1.out (Z_q1.out.more (by omega)))
  have Z_t2 := Lib.hid (show Rz 40 t2 from et2 ▸ Rz.max (k := 40) Z_g2.out (Z_q2.out.more (by omega)))
  have Z_t3 := Lib.hid (show Rz 40 t3 from et3 ▸ Rz.max (k := 40) Z_g3.out (Z_q3.out.more (by omega)))
  have HTB : Hid ((t0 ≤ q0 ∧ q2 ≤ t2 ∧ ((-11 : Int) : Rat) ≤ t0 ∧ t2 ≤ ((11 : Int) : Rat)) ∧ (t1 ≤ q1 ∧ q3 ≤ t3 ∧ ((-11 : Int) : Rat) ≤ t1 ∧ t3 ≤ ((11 : Int) : Rat))) := Lib.hid (by
    have hq := HQ.out
    have hd := HDD.out
    have i1 : ((-8 : Int) : Rat) = -8 := rfl
    have i2 : ((8 : Int) : Rat) = 8 := rfl
    have i3 : ((-11 : Int) : Rat) = -11 := rfl
    have i4 : ((11 : Int) : Rat) = 11 := rfl
    have i5 : ((3 : Int) : Rat) = 3 := rfl
    rw [i1, i2] at hq
    rw [i5] at hd
    rw [i3, i4]
    refine ⟨⟨et0 ▸ min_le_r _ _, et2 ▸ le_max_r _ _, et0 ▸ le_min ?_ ?_, et2 ▸ max_le ?_ ?_⟩, ⟨et1 ▸ min_le_r _ _, et3 ▸ le_max_r _ _, et1 ▸ le_min ?_ ?_, et3 ▸ max_le ?_ ?_⟩⟩ <;> grind)
  have ET := Lib.hid (And.intro et0 (And.intro et1 (And.intro et2 et3)))
  clear hcv hzp hm hps hlen hpin pin ho0 ho1 ho2 ho3 eg0 eg1 eg2 eg3 et0 et1 et2 et3
  go_enter Tryz.func5, Tryz.ntmps5
  have HS : St w [] w := St.start
  go_upto_region 0 with (fail)
  refine wp_seq_text [] (StR.no HS) ?_
  refine Seq.pure rfl rfl (by intro w; go_simp; try rfl) ?_
  simp only [Act.put, nA, nB, nC]
  refine Seq.done fun ws1 hws => ?_
  have HS1 := hws.st
  clear HS hws
  go_upto_region 1 with (fail)
  refine wp_seq_text [] (StR.no HS1) ?_
  refine Seq.call rfl rfl rfl rfl (by kernel_rfl) (fun w h => gbegun_any w (tabS HT.out h)) ?_
  simp only [Act.put, nA, nB, nC]
  iterate 2 (refine Seq.pure rfl rfl (by intro w; go_simp; try rfl) ?_; simp only [Act.put, nA, nB, nC])
  refine Seq.call rfl rfl rfl rfl (by kernel_rfl) (abegun_q HT.out) ?_
  simp only [Act.put, nA, nB, nC]
  iterate 2 (refine Seq.pure rfl rfl (by intro w; go_simp; try rfl) ?_; simp only [Act.put, nA, nB, nC])
  refine Seq.done fun ws2 hws => ?_
  have HS2 := hws.st
  clear HS1 hws
  go_upto_region 3 with (fail)
  refine wp_seq_text [] (StR.no HS2) ?_
  iterate 4 (refine Seq.pure rfl rfl (by intro w; go_simp; try rfl) ?_; simp only [Act.put, nA, nB, nC])
  refine Seq.call rfl rfl rfl rfl (by kernel_rfl) (boxed_q HT.out HIx.out HIy.out HIu.out HIv.out E0.out E1.out E2.out E3.out) ?_
  simp only [Act.put, nA, nB, nC]
  refine Seq.alloc rfl rfl rfl (z := .agg (#[.bool false, .string ⟨#[]⟩, .string ⟨#[]⟩, .bool false, .string ⟨#[]⟩, .string ⟨#[]⟩, .bool false, .string ⟨#[]⟩, .string ⟨#[]⟩, .bool false, .string ⟨#[]⟩, .string ⟨#[]⟩])) (by kernel_rfl) rfl ?_
  intro p13 _ _ hp13_r
  simp only [Act.put, nA, nB, nC]
  refine Seq.store rfl rfl rfl rfl rfl (by repeat (first | exact rS | refine rN (by assumption) ?_)) (n := 12) rfl rfl (by kernel_rfl) (BC_one _ _ _ _) ?_
  simp only [Act.put, nA, nB, nC]
  refine Seq.done fun ws3 hws => ?_
  have HS3 := hws.list1 (p := p13) (by repeat (first | exact rS | refine rN (by assumption) ?_))
  clear HS2 hws
  go_upto_region 4 with (fail)
  refine wp_seq [] (by kernel_rfl) (by kernel_rfl) Reg.fin_no (StR.no HS3) ?_
  refine Seq.load rfl rfl rfl rfl (by repeat (first | exact mC | apply mT)) (n := 12) rfl (by kernel_rfl) ?_
  simp only [Act.put, nA, nB, nC]
  refine Seq.pure rfl rfl (by intro w; go_simp; try rfl) ?_
  simp only [Act.put, nA, nB, nC]
  refine Seq.call rfl rfl rfl rfl (by kernel_rfl) (below_q (n := 20) HIbz.out.1 HIbz.out.2 (by omega) (by omega)) ?_
  simp only [Act.put, nA, nB, nC]
  refine Seq.call rfl rfl rfl rfl (by kernel_rfl) (num_q (m := ((belowN bz 20 : Nat) : Int)) (n := 8) HT.out HD.out (by decide) (by decide) ED.out) ?_
  simp only [Act.put, nA, nB, nC]
  refine Seq.call rfl rfl rfl rfl (by kernel_rfl) (grown_q (k := 10) HT.out (Z_q0.out.more (by omega)) (Z_q1.out.more (by omega)) (Z_q2.out.more (by omega)) (Z_q3.out.more (by omega)) (Z_d.out.more (by omega)) EG.out.1 EG.out.2.1 EG.out.2.2.1 EG.out.2.2.2 (by omega)) ?_
  simp only [Act.put, nA, nB, nC]
  refine Seq.alloc rfl rfl rfl (z := .agg (#[.bool false, .string ⟨#[]⟩, .string ⟨#[]⟩, .bool false, .string ⟨#[]⟩, .string ⟨#[]⟩, .bool false, .string ⟨#[]⟩, .string ⟨#[]⟩, .bool false, .string ⟨#[]⟩, .string ⟨#[]⟩])) (by kernel_rfl) rfl ?_
  intro p14 _ _ hp14_r
  simp only [Act.put, nA, nB, nC]
  refine Seq.store rfl rfl rfl rfl rfl (by repeat (first | exact rS | refine rN (by assumption) ?_)) (n := 12) rfl rfl (by kernel_rfl) (BC_one _ _ _ _) ?_
  simp only [Act.put, nA, nB, nC]
  refine Seq.done fun ws4 hws => ?_
  have HS4 := hws.list1 (p := p14) (by repeat (first | exact rS | refine rN (by assumption) ?_))
  clear HS3 hws
  go_upto_region 5 with (fail)
  refine wp_seq_text [1000001, 5] (StR.no HS4) ?_
  refine Seq.pure rfl rfl (by intro w; go_simp; try rfl) ?_
  simp only [Act.put, nA, nB, nC]
  refine Seq.callFresh (n := some mP) (x := (26, PC ps)) rfl rfl rfl rfl (by kernel_rfl) (fun w h => poly_G HIX.out HPS.out HL.out w h.st) ?_
  intro bk39 _ _ hbk39_r
  simp only [mk]
  simp only [Act.put, nA, nB, nC]
  refine Seq.callAny rfl rfl rfl rfl (by kernel_rfl) (fun w h => box_G (k := 2) HT.out HZP.out HL.out HCV.out HBO.out (by omega) _ w h.st (h.reg _ _ _ (by repeat (first | exact rS | refine rN (by assumption) ?_))).2.2) ?_
  simp only [Act.put, nA, nB, nC]
  refine Seq.alloc rfl rfl rfl (z := .agg (#[.bool false, .string ⟨#[]⟩, .string ⟨#[]⟩, .bool false, .string ⟨#[]⟩, .string ⟨#[]⟩, .bool false, .string ⟨#[]⟩, .string ⟨#[]⟩, .bool false, .string ⟨#[]⟩, .string ⟨#[]⟩])) (by kernel_rfl) rfl ?_
  intro p15 _ _ hp15_r
  obtain ⟨ne_p15_bk39, hp15_r⟩ := Reg.ne_of_put hp15_r
  have ne_bk39_p15 := Ne.symm ne_p15_bk39
  simp only [Act.put, nA, nB, nC]
  refine Seq.store rfl rfl rfl rfl rfl (by repeat (first | exact rS | refine rN (by assumption) ?_)) (n := 12) rfl rfl (by kernel_rfl) (BC_one _ _ _ _) ?_
  simp only [Act.put, nA, nB, nC]
  refine Seq.done fun ws5 hws => ?_
  have HS5 := hws.list2 (p := bk39) (q := p15) (by repeat (first | exact rS | refine rN (by assumption) ?_)) (by repeat (first | exact rS | refine rN (by assumption) ?_)) (by assumption)
  clear HS4 hws
  have HB13 := Lib.hid (show Blk _ p13 28 (BC q0 q1 q2 q3) from (HS5.blk (p13, _, _) (by repeat (first | exact mC | apply mT))).2)
  have HB14 := Lib.hid (show Blk _ p14 28 (BC g0 g1 g2 g3) from (HS5.blk (p14, _, _) (by repeat (first | exact mC | apply mT))).2)
  have HB15 := Lib.hid (show Blk _ p15 28 (BC o0 o1 o2 o3) from (HS5.blk (p15, _, _) (by repeat (first | exact mC | apply mT))).2)
  have HBEL := Lib.hid HS5.below
  have HT3 := Lib.hid (tabS HT.out HS5)
  clear HS5 E0 E1 E2 E3 HD ED EG HDD HIX HZP HCV HBO HL HPS
  generalize hwA : ws5 = wA at *
  clear hwA
  have hq := HQ.out
  have ho := HOB.out
  have ht := HTB.out
  -- the three sets
  have bx0 := flQ_bd (show ((-8 : Int) : Rat) ≤ q2 from by grind) hq.1.2.2
  have bx1 := loC_bd hq.1.2.1 (show q0 ≤ ((8 : Int) : Rat) from by grind)
  have by0 := flQ_bd (show ((-8 : Int) : Rat) ≤ q3 from by grind) hq.2.2.2
  have by1 := loC_bd hq.2.2.1 (show q1 ≤ ((8 : Int) : Rat) from by grind)
  have nx1 := nX_le hq.1.1 hq.1.2.1 hq.1.2.2
  have ny1 := nX_le hq.2.1 hq.2.2.1 hq.2.2.2
  have nx0 := nX_eq hq.1.1
  have ny0 := nX_eq hq.2.1
  have lx0 := loC_le hq.1.1
  have ly0 := loC_le hq.2.1
  have hmm : nX q0 q2 * nX q1 q3 ≤ 400 := Nat.le_trans (Nat.mul_le_mul (show nX q0 q2 ≤ 18 by omega) (show nX q1 q3 ≤ 18 by omega)) (by omega)
  have HO1 := Lib.hid (of_w (k := 2) wA HT3.out (RawT.rc Z_q0.out) (RawT.rc Z_q1.out) (RawT.rc Z_q2.out) (RawT.rc Z_q3.out) hq.1.1 hq.2.1 rfl rfl (show loC q0 = -flQ (-q0) - 1 from rfl) (by omega) (by omega) (by omega) (by omega) rfl rfl (show loC q1 = -flQ (-q1) - 1 from rfl) (by omega) (by omega) (by omega) (by omega) (by omega) (by omega) hmm (by omega) (by omega))
  rw [← BC_QW] at HO1
  have HL1 : Hid ((rowsL (loC q0) (loC q1) (nX q0 q2) (nX q1 q3)).length ≤ 400) := Lib.hid (by rw [rowsL_len, Nat.mul_comm]; exact hmm)
  clear bx0 bx1 by0 by1 nx1 ny1 nx0 ny0 lx0 ly0 hmm
  have cx0 := flQ_bd (show ((-2 : Int) : Rat) ≤ o2 from by grind) ho.1.2.2
  have cx1 := loC_bd ho.1.2.1 (show o0 ≤ ((2 : Int) : Rat) from by grind)
  have cy0 := flQ_bd (show ((-2 : Int) : Rat) ≤ o3 from by grind) ho.2.2.2
  have cy1 := loC_bd ho.2.2.1 (show o1 ≤ ((2 : Int) : Rat) from by grind)
  have mx1 := nX_le ho.1.1 ho.1.2.1 ho.1.2.2
  have my1 := nX_le ho.2.1 ho.2.2.1 ho.2.2.2
  have mx0 := nX_eq ho.1.1
  have my0 := nX_eq ho.2.1
  have kx0 := loC_le ho.1.1
  have ky0 := loC_le ho.2.1
  have hmm : nX o0 o2 * nX o1 o3 ≤ 400 := Nat.le_trans (Nat.mul_le_mul (show nX o0 o2 ≤ 18 by omega) (show nX o1 o3 ≤ 18 by omega)) (by omega)
  have HO3 := Lib.hid (fun W (hT : Tab W) => of_w (k := 2) W hT (RawT.rc Z_o0.out) (RawT.rc Z_o1.out) (RawT.rc Z_o2.out) (RawT.rc Z_o3.out) ho.1.1 ho.2.1 rfl rfl (show loC o0 = -flQ (-o0) - 1 from rfl) (by omega) (by omega) (by omega) (by omega) rfl rfl (show loC o1 = -flQ (-o1) - 1 from rfl) (by omega) (by omega) (by omega) (by omega) (by omega) (by omega) hmm (by omega) (by omega))
  rw [← BC_QW] at HO3
  have HL3 : Hid ((rowsL (loC o0) (loC o1) (nX o0 o2) (nX o1 o3)).length ≤ 400) := Lib.hid (by rw [rowsL_len, Nat.mul_comm]; exact hmm)
  clear cx0 cx1 cy0 cy1 mx1 my1 mx0 my0 kx0 ky0 hmm
  have ht02 : t0 ≤ t2 := by grind
  have ht13 : t1 ≤ t3 := by grind
  have dx0 := flQ_bd (show ((-11 : Int) : Rat) ≤ t2 from by grind) ht.1.2.2.2
  have dx1 := loC_bd ht.1.2.2.1 (show t0 ≤ ((11 : Int) : Rat) from by grind)
  have dy0 := flQ_bd (show ((-11 : Int) : Rat) ≤ t3 from by grind) ht.2.2.2.2
  have dy1 := loC_bd ht.2.2.2.1 (show t1 ≤ ((11 : Int) : Rat) from by grind)
  have ox1 := nX_le ht02 ht.1.2.2.1 ht.1.2.2.2
  have oy1 := nX_le ht13 ht.2.2.2.1 ht.2.2.2.2
  have ox0 := nX_eq ht02
  have oy0 := nX_eq ht13
  have jx0 := loC_le ht02
  have jy0 := loC_le ht13
  have HO2 := Lib.hid (fun W (hT : Tab W) hm => of_w (k := 40) W hT (RawT.rc Z_t0.out) (RawT.rc Z_t1.out) (RawT.rc Z_t2.out) (RawT.rc Z_t3.out) ht02 ht13 rfl rfl (show loC t0 = -flQ (-t0) - 1 from rfl) (by omega) (by omega) (by omega) (by omega) rfl rfl (show loC t1 = -flQ (-t1) - 1 from rfl) (by omega) (by omega) (by omega) (by omega) (show ((nX t0 t2 : Nat) : Int) = _ by omega) (show ((nX t1 t3 : Nat) : Int) = _ by omega) hm (by omega) (by omega))
  have HO2' := Lib.hid (fun W (hT : Tab W) hm => of_l (k := 40) W hT (RawT.rc Z_t0.out) (RawT.rc Z_t1.out) (RawT.rc Z_t2.out) (RawT.rc Z_t3.out) ht02 ht13 rfl rfl (show loC t0 = -flQ (-t0) - 1 from rfl) (by omega) (by omega) (by omega) (by omega) rfl rfl (show loC t1 = -flQ (-t1) - 1 from rfl) (by omega) (by omega) (by omega) (by omega) (show ((nX t0 t2 : Nat) : Int) = _ by omega) (show ((nX t1 t3 : Nat) : Int) = _ by omega) hm (show nX t0 t2 ≤ 200 by omega) (show nX t1 t3 ≤ 200 by omega) (by omega) (by omega))
  rw [← BC_QW] at HO2 HO2'
  have HM1 := Lib.hid (rows_box hq.1.1 hq.2.1)
  have HM2 := Lib.hid (rows_box ht02 ht13)
  have HM3 := Lib.hid (rows_box ho.1.1 ho.2.1)
  clear dx0 dx1 dy0 dy1 ox1 oy1 ox0 oy0 jx0 jy0
  have HTT := Lib.hid (And.intro ht02 ht13)
  clear hq ho ht ht02 ht13
  generalize rowsL (loC q0) (loC q1) (nX q0 q2) (nX q1 q3) = L1 at *
  generalize rowsL (loC o0) (loC o1) (nX o0 o2) (nX o1 o3) = L3 at *
  obtain ⟨s0, s1, s2, s3, a0, d0, a1, d1, a2, d2, a3, d3, hBC⟩ := BC_open q0 q1 q2 q3
  obtain ⟨s4, s5, s6, s7, a4, d4, a5, d5, a6, d6, a7, d7, hBC2⟩ := BC_open g0 g1 g2 g3
  obtain ⟨s8, s9, s10, s11, a8, d8, a9, d9, a10, d10, a11, d11, hBC3⟩ := BC_open o0 o1 o2 o3
  have HBC := Lib.hid hBC
  have HBC2 := Lib.hid hBC2
  have HBC3 := Lib.hid hBC3
  rw [hBC] at HO1 HB13
  rw [hBC2] at HB14
  rw [hBC3] at HO3 HB15
  clear hBC hBC2 hBC3
  obtain ⟨k0, k1, k2, k3, k4, k5, k6, k7, k8, k9, k10, k11⟩ := HB13.out.c12
  go_wp2_with fail
  refine HO1.out.mono ?_
  rintro e w4 ⟨v1, rfl, hr1⟩
  have hfa := hr1.facts
  have HF1 := Lib.hid (show Fs v1 L1 w4 from hfa)
  have HBW := Lib.hid hr1.bel
  have HT4 := Lib.hid (tabS HT3.out (St.begin hr1.bel))
  have HB13 := Lib.hid (HB13.out.belowB hr1.bel)
  have HB14 := Lib.hid (HB14.out.belowB hr1.bel)
  have HB15 := Lib.hid (HB15.out.belowB hr1.bel)
  clear hr1 hfa HO1 k0 k1 k2 k3 k4 k5 k6 k7 k8 k9 k10 k11
  obtain ⟨k0, k1, k2, k3, k4, k5, k6, k7, k8, k9, k10, k11⟩ := HB13.out.c12
  obtain ⟨j0, j1, j2, j3, j4, j5, j6, j7, j8, j9, j10, j11⟩ := HB14.out.c12
  have HGB := Lib.hid (both_g (k := 40) (W := w4) (l := []) HT4.out Z_g0.out Z_g1.out Z_g2.out Z_g3.out (Z_q0.out.more (by omega)) (Z_q1.out.more (by omega)) (Z_q2.out.more (by omega)) (Z_q3.out.more (by omega)) ET.out.1 ET.out.2.1 ET.out.2.2.1 ET.out.2.2.2 (by omega) w4 St.start)
  rw [HBC.out, HBC2.out] at HGB
  go_wp2_with fail
  refine HGB.out.mono ?_
  rintro e w5 ⟨rfl, hb5⟩
  have HF1 := Lib.hid (HF1.out.next hb5)
  have HBW := Lib.hid (HBW.out.trans (hb5.mono HBW.out.size))
  have HT5 := Lib.hid (tabS HT4.out (St.begin hb5))
  have HB13 := Lib.hid (HB13.out.belowB hb5)
  have HB15 := Lib.hid (HB15.out.belowB hb5)
  clear hb5 HGB k0 k1 k2 k3 k4 k5 k6 k7 k8 k9 k10 k11 j0 j1 j2 j3 j4 j5 j6 j7 j8 j9 j10 j11 HT4 HB14
  by_cases hbig : nX t0 t2 * nX t1 t3 ≤ 400
  · have HO := Lib.hid (HO2.out w5 HT5.out hbig)
    have HL2 : Hid ((rowsL (loC t0) (loC t1) (nX t0 t2) (nX t1 t3)).length ≤ 400) := Lib.hid (by rw [rowsL_len, Nat.mul_comm]; exact hbig)
    have HIN : Hid (withinL L1 (rowsL (loC t0) (loC t1) (nX t0 t2) (nX t1 t3)) = true) := Lib.hid (by
      unfold withinL
      rw [List.all_eq_true]
      intro c hc
      rw [decide_eq_true_eq, ofL_mem, HM2.out]
      have h := (HM1.out c).1 hc
      have ht := HTB.out
      exact ⟨by grind, by grind, by grind, by grind⟩)
    clear hbig HO2 HO2' HM2
    generalize rowsL (loC t0) (loC t1) (nX t0 t2) (nX t1 t3) = L2 at *
    go_wp2_with fail
    refine HO.out.mono ?_
    rintro e w6 ⟨v2, rfl, hr2⟩
    have hfa := hr2.facts
    have HF2 := Lib.hid (show Fs v2 L2 w6 from hfa)
    have HF1 := Lib.hid (HF1.out.next hr2.bel)
    have HBW := Lib.hid (HBW.out.trans (hr2.bel.mono HBW.out.size))
    have HT6 := Lib.hid (tabS HT5.out (St.begin hr2.bel))
    have HB13 := Lib.hid (HB13.out.belowB hr2.bel)
    have HB15 := Lib.hid (HB15.out.belowB hr2.bel)
    clear hr2 hfa HO
    have HO := Lib.hid (HO3.out w6 HT6.out)
    obtain ⟨j0, j1, j2, j3, j4, j5, j6, j7, j8, j9, j10, j11⟩ := HB15.out.c12
    go_wp2_with fail
    refine HO.out.mono ?_
    rintro e w7 ⟨v3, rfl, hr3⟩
    have hfa := hr3.facts
    have HF3 := Lib.hid (show Fs v3 L3 w7 from hfa)
    have HF1 := Lib.hid (HF1.out.next hr3.bel)
    have HF2 := Lib.hid (HF2.out.next hr3.bel)
    have HBW := Lib.hid (HBW.out.trans (hr3.bel.mono HBW.out.size))
    have HT7 := Lib.hid (tabS HT6.out (St.begin hr3.bel))
    have HB13 := Lib.hid (HB13.out.belowB hr3.bel)
    have HB15 := Lib.hid (HB15.out.belowB hr3.bel)
    clear hr3 hfa HO j0 j1 j2 j3 j4 j5 j6 j7 j8 j9 j10 j11 HO3
    go_wp2_with fail
    refine (gwithin_any L1 L2 v1 v2 w7 HF1.out HF2.out (by have := HL1.out; omega) (by have := HL2.out; omega)).mono ?_
    rw [HIN.out]
    rintro e w8 ⟨rfl, hb8⟩
    have HF1 := Lib.hid (HF1.out.next hb8)
    have HF3 := Lib.hid (HF3.out.next hb8)
    have HBW := Lib.hid (HBW.out.trans (hb8.mono HBW.out.size))
    have HT8 := Lib.hid (tabS HT7.out (St.begin hb8))
    have HB13 := Lib.hid (HB13.out.belowB hb8)
    have HB15 := Lib.hid (HB15.out.belowB hb8)
    clear hb8 HIN
    obtain ⟨k0, k1, k2, k3, k4, k5, k6, k7, k8, k9, k10, k11⟩ := HB13.out.c12
    obtain ⟨j0, j1, j2, j3, j4, j5, j6, j7, j8, j9, j10, j11⟩ := HB15.out.c12
    have HBX := Lib.hid (fun r hr => boxes_b (k := 4) (W := w8) (l := []) (r := r) HT8.out (Z_q0.out.more (by omega)) (Z_q1.out.more (by omega)) (Z_q2.out.more (by omega)) (Z_q3.out.more (by omega)) (Z_o0.out.more (by omega)) (Z_o1.out.more (by omega)) (Z_o2.out.more (by omega)) (Z_o3.out.more (by omega)) ⟨HQ.out.1.1, HQ.out.2.1⟩ ⟨HOB.out.1.1, HOB.out.2.1⟩ hr (by omega) w8 St.start)
    cases hrb : decide (q0 ≤ o2 ∧ o0 ≤ q2 ∧ q1 ≤ o3 ∧ o1 ≤ q3) with
    | false =>
      have HBB := Lib.hid (HBX.out false hrb)
      rw [HBC.out, HBC3.out] at HBB
      clear hrb HBX
      go_wp2_with fail
      refine HBB.out.mono ?_
      rintro e w9 ⟨rfl, hb9⟩
      have HBE := Lib.hid (HBEL.out.trans ((HBW.out.trans (hb9.mono HBW.out.size)).mono HBEL.out.size))
      clear hb9 k0 k1 k2 k3 k4 k5 k6 k7 k8 k9 k10 k11 j0 j1 j2 j3 j4 j5 j6 j7 j8 j9 j10 j11
      go_wp2_with fail
      go_ret
      exact ⟨by first | rfl | simp, HBE.out⟩
    | true =>
      have HBB := Lib.hid (HBX.out true hrb)
      rw [HBC.out, HBC3.out] at HBB
      have hc := of_decide_eq_true hrb
      have HNE : Hid (0 < (meetL L1 L3).length) := Lib.hid (by
        obtain ⟨p, p1, p2, p3, p4⟩ := min_cell hc.1 hc.2.1 HQ.out.1.1 HOB.out.1.1
        obtain ⟨r, r1, r2, r3, r4⟩ := min_cell hc.2.2.1 hc.2.2.2 HQ.out.2.1 HOB.out.2.1
        refine mem_len (c := ⟨flQ p, flQ r⟩) ((meetL_mem _ _ _).2 ⟨(HM1.out _).2 ?_, (HM3.out _).2 ?_⟩)
        · have c1 := gc_in p1 p3; have c2 := gc_in r1 r3
          rw [le_loC, le_fl] at c1 c2
          exact ⟨c1.2, c1.1, c2.2, c2.1⟩
        · have c1 := gc_in p2 p4; have c2 := gc_in r2 r4
          rw [le_loC, le_fl] at c1 c2
          exact ⟨c1.2, c1.1, c2.2, c2.1⟩)
      clear hrb HBX hc
      go_wp2_with fail
      refine HBB.out.mono ?_
      rintro e w9 ⟨rfl, hb9⟩
      have HF1 := Lib.hid (HF1.out.next hb9)
      have HF3 := Lib.hid (HF3.out.next hb9)
      have HBW := Lib.hid (HBW.out.trans (hb9.mono HBW.out.size))
      clear hb9 k0 k1 k2 k3 k4 k5 k6 k7 k8 k9 k10 k11 j0 j1 j2 j3 j4 j5 j6 j7 j8 j9 j10 j11
      go_wp2_with fail
      refine (meet_c L1 L3 v1 v3 w9 HF1.out HF3.out (by have := HL1.out; omega) (by have := HL3.out; omega)).mono ?_
      rintro e w10 ⟨vm, rfl, fm, hb10⟩
      obtain ⟨Am, cm, rfl, -, -, -⟩ := fm
      have HBE := Lib.hid (HBEL.out.trans ((HBW.out.trans (hb10.mono HBW.out.size)).mono HBEL.out.size))
      clear hb10
      generalize (meetL L1 L3).length = nm at *
      have hnm : decide ((nm : Int) > 0) = true := decide_eq_true (by have := HNE.out; omega)
      have hnm2 : (0 : Int) < (nm : Int) := by have := HNE.out; omega
      go_wp2_with fail
      go_ret
      exact ⟨by first | rfl | (simp; omega) | simp, HBE.out⟩
  · have HO := Lib.hid (HO2'.out w5 HT5.out (by omega))
    clear hbig HO2 HO2' HM2
    go_wp2_with fail
    refine HO.out.mono ?_
    rintro e w6 ⟨rfl, hb6⟩
    have HBW := Lib.hid (HBW.out.trans (hb6.mono HBW.out.size))
    have HT6 := Lib.hid (tabS HT5.out (St.begin hb6))
    have HB15 := Lib.hid (HB15.out.belowB hb6)
    clear hb6 HO
    have HO := Lib.hid (HO3.out w6 HT6.out)
    obtain ⟨j0, j1, j2, j3, j4, j5, j6, j7, j8, j9, j10, j11⟩ := HB15.out.c12
    go_wp2_with fail
    refine HO.out.mono ?_
    rintro e w7 ⟨v3, rfl, hr3⟩
    have HBE := Lib.hid (HBEL.out.trans ((HBW.out.trans (hr3.bel.mono HBW.out.size)).mono HBEL.out.size))
    clear hr3 HO j0 j1 j2 j3 j4 j5 j6 j7 j8 j9 j10 j11 HO3
    go_wp2_with fail
    go_ret
    exact ⟨by first | rfl | simp, HBE.out⟩
end Go.Proofs.YtoejojfjiikogaaGreatDoor
