/- Joined texts. -/
import Derived.Test.YtoejojfjiikogaaGreatDoorAp3

/- apartBegun (printed by lawvec.py). -/
namespace Go.Proofs.YtoejojfjiikogaaGreatDoor
open Go.RowKit
set_option linter.unusedVariables false
set_option linter.unusedSimpArgs false

set_option maxRecDepth 20000 in
theorem aat_q {x y : Int} {z0 z1 : Rat} {W : World} {l : List Own} (hT : Tab W) (hx : (-9223372036854775808 ≤ x ∧ x ≤ 9223372036854775807)) (hy : (-9223372036854775808 ≤ y ∧ y ≤ 9223372036854775807)) (hz0 : (x : Rat) = z0) (hz1 : (y : Rat) = z1) (w : World) (h : St W l w) :
    Calls Tryz.prog 31 #[.int .i64 x, .int .i64 y] w fun e w' => e = .returned (.agg (VC z0 z1)) ∧ Below w.heap.size w w' := by
  subst hz0 hz1
  have HT := Lib.hid (tabS hT h); clear hT h
  have HI := Lib.hid (And.intro hx hy); clear hx hy
  go_enter Tryz.func31, Tryz.ntmps31
  have HS : St w [] w := St.start
  go_upto_region 0 with (fail)
  refine wp_seq_text [] (StR.no HS) ?_
  refine Seq.alloc rfl rfl rfl (z := .agg #[.bool false, .string ⟨#[]⟩, .string ⟨#[]⟩, .bool false, .string ⟨#[]⟩, .string ⟨#[]⟩]) (by kernel_rfl) rfl ?_
  intro bk4 _ _ hbk4_r
  simp only [Act.put, nA, nB, nC]
  refine Seq.done fun ws1 hws => ?_
  have HS1 : St w [(bk4, 26, #[.bool false, .string ⟨#[]⟩, .string ⟨#[]⟩, .bool false, .string ⟨#[]⟩, .string ⟨#[]⟩])] ws1 := hws.list1 (by repeat (first | exact rS | refine rN (by assumption) ?_))
  clear HS hws
  go_upto_region 1 with (fail)
  refine wp_seq_text [] (StR.move (StR.no HS1)) ?_
  refine Seq.pure rfl rfl (by intro w; go_simp; try rfl) ?_
  simp only [Act.put, nA, nB, nC]
  refine Seq.call rfl rfl rfl rfl (by kernel_rfl) (of_q HT.out HI.out.1.1 HI.out.1.2 rfl) ?_
  simp only [Act.put, nA, nB, nC]
  refine Seq.pure rfl rfl (by intro w; go_simp; try rfl) ?_
  simp only [Act.put, nA, nB, nC]
  refine Seq.call rfl rfl rfl rfl (by kernel_rfl) (of_q HT.out HI.out.2.1 HI.out.2.2 rfl) ?_
  simp only [Act.put, nA, nB, nC]
  refine Seq.pure (v := .agg (VC ((x : Int) : Rat) ((y : Int) : Rat))) rfl rfl (fun w => bld_Vec rfl rfl rfl w) ?_
  simp only [Act.put, nA, nB, nC]
  refine Seq.store rfl rfl rfl rfl rfl (by repeat (first | exact rS | refine rN (by assumption) ?_)) (n := 6) rfl rfl (by kernel_rfl) (VC_one _ _) ?_
  simp only [Act.put, nA, nB, nC]
  refine Seq.done fun ws2 hws => ?_
  have HS2 : St w [(bk4, 26, VC ((x : Int) : Rat) ((y : Int) : Rat))] ws2 := hws.list1 (by repeat (first | exact rS | refine rN (by assumption) ?_))
  clear HS1 hws
  go_wp2_with fail
  exact ret_own rfl rfl rfl HS2 (by repeat (first | exact mC | apply mT)) (n := 6) rfl (by kernel_rfl) ⟨rfl, HS2.below⟩
section
variable {P : Program} {ops : Array Oper} {W : World} {l : List Own} {Q : Exit → Act → World → Prop} {gs : List Nat} {k : Nat} {o : Oper} {rest : List Oper} {a : Act} {R : Reg}
theorem Seq.callFreshV {f : FuncId} {y : Operand} {xs : List Operand} {ts : Array TypeId} {vs cap : Array Value} {n : Option Nat} {x : TypeId × Array Value} (ho : o.op = .call { callee := .value y, args := xs.toArray, argTypes := ts }) (hk : kd gs k o = .fresh) (hw : wants ops o a = true)
    (hy : a.eval y = .func (.func f) #[] cap) (hx : xs.map a.eval = vs.toList) (hf : goesIn P f = true)
    (hc : ∀ w, StR W l R w → Calls P f (vs ++ cap) w (fun e w' => ∃ p, w.heap.size ≤ p ∧ e = .returned (mk n p) ∧ Below w.heap.size w w' ∧ Blk w' p x.1 x.2))
    (h : ∀ p, W.heap.size ≤ p → (∀ e ∈ l, e.1 ≠ p) → R p = none → Seq P ops Q W l gs (k + 1) rest (a.put o.dst (mk n p)) (R.put p x)) : Seq P ops Q W l gs k (o :: rest) a R := by
  refine .inl (.inr ⟨hw, ?_⟩)
  rw [hk]
  refine ⟨n, x, ⟨by simp [isCall, ho], fun w hs => ?_⟩, fun p hp => h p hp.1 hp.2.1 hp.2.2⟩
  have hr : (execOp a.eval o).run P w = .ok (.enter f (vs ++ cap)) w := by
    unfold goesIn at hf
    cases hp : P.funcs[f]? with
    | none => simp [hp] at hf
    | some fn =>
      simp only [hp, Bool.and_eq_true, bne_iff_ne, ne_eq] at hf
      have hb : fn.body.isNone = false := by cases hq : fn.body <;> simp_all
      have hv : (xs.map a.eval).toArray = vs := by rw [hx]
      unfold execOp
      simp only [ho, resolve, hy]
      simp [invoke, callFunc, Deferred.ofValue, hp, hf.1, hb, hv, go_sem]
      intro hq; rw [hq] at hb; cases hb
  rw [hr]
  exact ⟨Below.refl _ _, hc w hs⟩
end
set_option maxHeartbeats 2000000 in
set_option maxRecDepth 20000 in
theorem square_0 {c : Nat} {W : World} {l : List Own} (hT : Tab W) (w : World) (h : St W l w) (hg : Blk w c 64 #[.func (.func 31) #[] #[]]) :
    Calls Tryz.prog 33 #[.int .i64 0, .int .i64 0, .pointer (some ⟨c, 0, none⟩)] w fun e w' => ∃ p, w.heap.size ≤ p ∧ e = .returned (mk (some 4) p) ∧ Below w.heap.size w w' ∧ Blk w' p 26 (PC [((0 : Rat), (0 : Rat)), ((1 : Rat), (0 : Rat)), ((1 : Rat), (1 : Rat)), ((0 : Rat), (1 : Rat))]) := by
  have HT := Lib.hid (tabS hT h); clear hT h
  have HG := Lib.hid hg; clear hg
  go_enter Tryz.func33, Tryz.ntmps33
  have HS : St w [] w := St.start
  go_upto_region 0 with (fail)
  refine wp_seq_text [] (StR.no HS) ?_
  refine Seq.pure rfl rfl (by intro w; go_simp; try rfl) ?_
  simp only [Act.put, nA, nB, nC]
  refine Seq.done fun ws1 hws => ?_
  have HS1 := hws.st
  clear HS hws
  go_upto_region 1 with (fail)
  refine wp_seq [] (by kernel_rfl) (by kernel_rfl) Reg.fin_no (StR.no HS1) ?_
  refine Seq.loadCellF rfl rfl rfl rfl HG.out (v := .func (.func 31) #[] #[]) rfl (by kernel_rfl) rfl ?_
  simp only [Act.put, nA, nB, nC]
  iterate 2 (refine Seq.pure rfl rfl (by intro w; go_simp; try rfl) ?_; simp only [Act.put, nA, nB, nC])
  refine Seq.callV rfl rfl rfl rfl rfl (by kernel_rfl) (aat_q (x := 0) (y := 0) HT.out (by omega) (by omega) rfl rfl) ?_
  simp only [Act.put, nA, nB, nC]
  refine Seq.loadCellF rfl rfl rfl rfl HG.out (v := .func (.func 31) #[] #[]) rfl (by kernel_rfl) rfl ?_
  simp only [Act.put, nA, nB, nC]
  refine Seq.pure rfl rfl (by intro w; go_simp; try rfl) ?_
  simp only [Act.put, nA, nB, nC]
  refine Seq.pure (v := .int .i64 1) rfl rfl (by intro w; go_simp; try rfl) ?_
  simp only [Act.put, nA, nB, nC]
  refine Seq.pure rfl rfl (by intro w; go_simp; try rfl) ?_
  simp only [Act.put, nA, nB, nC]
  refine Seq.callV rfl rfl rfl rfl rfl (by kernel_rfl) (aat_q (x := 1) (y := 0) HT.out (by omega) (by omega) rfl rfl) ?_
  simp only [Act.put, nA, nB, nC]
  refine Seq.loadCellF rfl rfl rfl rfl HG.out (v := .func (.func 31) #[] #[]) rfl (by kernel_rfl) rfl ?_
  simp only [Act.put, nA, nB, nC]
  refine Seq.pure rfl rfl (by intro w; go_simp; try rfl) ?_
  simp only [Act.put, nA, nB, nC]
  refine Seq.pure (v := .int .i64 1) rfl rfl (by intro w; go_simp; try rfl) ?_
  simp only [Act.put, nA, nB, nC]
  refine Seq.pure rfl rfl (by intro w; go_simp; try rfl) ?_
  simp only [Act.put, nA, nB, nC]
  refine Seq.pure (v := .int .i64 1) rfl rfl (by intro w; go_simp; try rfl) ?_
  simp only [Act.put, nA, nB, nC]
  refine Seq.callV rfl rfl rfl rfl rfl (by kernel_rfl) (aat_q (x := 1) (y := 1) HT.out (by omega) (by omega) rfl rfl) ?_
  simp only [Act.put, nA, nB, nC]
  refine Seq.loadCellF rfl rfl rfl rfl HG.out (v := .func (.func 31) #[] #[]) rfl (by kernel_rfl) rfl ?_
  simp only [Act.put, nA, nB, nC]
  iterate 2 (refine Seq.pure rfl rfl (by intro w; go_simp; try rfl) ?_; simp only [Act.put, nA, nB, nC])
  refine Seq.pure (v := .int .i64 1) rfl rfl (by intro w; go_simp; try rfl) ?_
  simp only [Act.put, nA, nB, nC]
  refine Seq.callV rfl rfl rfl rfl rfl (by kernel_rfl) (aat_q (x := 0) (y := 1) HT.out (by omega) (by omega) rfl rfl) ?_
  simp only [Act.put, nA, nB, nC]
  refine Seq.slice (n := 4) (e := 26) (cs := PC [((0 : Rat), (0 : Rat)), ((1 : Rat), (0 : Rat)), ((1 : Rat), (1 : Rat)), ((0 : Rat), (1 : Rat))]) rfl rfl (fun w => slcP_4 rfl rfl rfl rfl rfl w) ?_
  intro bk26 _ _ hbk26_r
  simp only [Act.put, nA, nB, nC]
  refine Seq.pure rfl rfl (by intro w; go_simp; try rfl) ?_
  simp only [Act.put, nA, nB, nC]
  refine Seq.done fun ws2 hws => ?_
  have HS2 : St w [(bk26, 26, PC [((0 : Rat), (0 : Rat)), ((1 : Rat), (0 : Rat)), ((1 : Rat), (1 : Rat)), ((0 : Rat), (1 : Rat))])] ws2 := hws.list1 (by repeat (first | exact rS | refine rN (by assumption) ?_))
  clear HS1 hws
  go_wp2_with fail
  go_ret
  have hb := (HS2.blk (bk26, _, _) (by repeat (first | exact mC | apply mT)))
  exact ⟨_, hb.1, rfl, HS2.below, hb.2⟩
theorem square_0_z : Pz 2 [((0 : Rat), (0 : Rat)), ((1 : Rat), (0 : Rat)), ((1 : Rat), (1 : Rat)), ((0 : Rat), (1 : Rat))] := by
  intro p hp
  simp only [List.mem_cons, List.not_mem_nil, or_false] at hp
  rcases hp with rfl | rfl | rfl | rfl
  · exact ⟨Rz.lit (z := 0) rfl (by decide), Rz.lit (z := 0) rfl (by decide)⟩
  · exact ⟨Rz.lit (z := 1) rfl (by decide), Rz.lit (z := 0) rfl (by decide)⟩
  · exact ⟨Rz.lit (z := 1) rfl (by decide), Rz.lit (z := 1) rfl (by decide)⟩
  · exact ⟨Rz.lit (z := 0) rfl (by decide), Rz.lit (z := 1) rfl (by decide)⟩
set_option maxHeartbeats 2000000 in
set_option maxRecDepth 20000 in
theorem square_4 {c : Nat} {W : World} {l : List Own} (hT : Tab W) (w : World) (h : St W l w) (hg : Blk w c 64 #[.func (.func 31) #[] #[]]) :
    Calls Tryz.prog 33 #[.int .i64 4, .int .i64 5, .pointer (some ⟨c, 0, none⟩)] w fun e w' => ∃ p, w.heap.size ≤ p ∧ e = .returned (mk (some 4) p) ∧ Below w.heap.size w w' ∧ Blk w' p 26 (PC [((4 : Rat), (5 : Rat)), ((5 : Rat), (5 : Rat)), ((5 : Rat), (6 : Rat)), ((4 : Rat), (6 : Rat))]) := by
  have HT := Lib.hid (tabS hT h); clear hT h
  have HG := Lib.hid hg; clear hg
  go_enter Tryz.func33, Tryz.ntmps33
  have HS : St w [] w := St.start
  go_upto_region 0 with (fail)
  refine wp_seq_text [] (StR.no HS) ?_
  refine Seq.pure rfl rfl (by intro w; go_simp; try rfl) ?_
  simp only [Act.put, nA, nB, nC]
  refine Seq.done fun ws1 hws => ?_
  have HS1 := hws.st
  clear HS hws
  go_upto_region 1 with (fail)
  refine wp_seq [] (by kernel_rfl) (by kernel_rfl) Reg.fin_no (StR.no HS1) ?_
  refine Seq.loadCellF rfl rfl rfl rfl HG.out (v := .func (.func 31) #[] #[]) rfl (by kernel_rfl) rfl ?_
  simp only [Act.put, nA, nB, nC]
  iterate 2 (refine Seq.pure rfl rfl (by intro w; go_simp; try rfl) ?_; simp only [Act.put, nA, nB, nC])
  refine Seq.callV rfl rfl rfl rfl rfl (by kernel_rfl) (aat_q (x := 4) (y := 5) HT.out (by omega) (by omega) rfl rfl) ?_
  simp only [Act.put, nA, nB, nC]
  refine Seq.loadCellF rfl rfl rfl rfl HG.out (v := .func (.func 31) #[] #[]) rfl (by kernel_rfl) rfl ?_
  simp only [Act.put, nA, nB, nC]
  refine Seq.pure rfl rfl (by intro w; go_simp; try rfl) ?_
  simp only [Act.put, nA, nB, nC]
  refine Seq.pure (v := .int .i64 5) rfl rfl (by intro w; go_simp; try rfl) ?_
  simp only [Act.put, nA, nB, nC]
  refine Seq.pure rfl rfl (by intro w; go_simp; try rfl) ?_
  simp only [Act.put, nA, nB, nC]
  refine Seq.callV rfl rfl rfl rfl rfl (by kernel_rfl) (aat_q (x := 5) (y := 5) HT.out (by omega) (by omega) rfl rfl) ?_
  simp only [Act.put, nA, nB, nC]
  refine Seq.loadCellF rfl rfl rfl rfl HG.out (v := .func (.func 31) #[] #[]) rfl (by kernel_rfl) rfl ?_
  simp only [Act.put, nA, nB, nC]
  refine Seq.pure rfl rfl (by intro w; go_simp; try rfl) ?_
  simp only [Act.put, nA, nB, nC]
  refine Seq.pure (v := .int .i64 5) rfl rfl (by intro w; go_simp; try rfl) ?_
  simp only [Act.put, nA, nB, nC]
  refine Seq.pure rfl rfl (by intro w; go_simp; try rfl) ?_
  simp only [Act.put, nA, nB, nC]
  refine Seq.pure (v := .int .i64 6) rfl rfl (by intro w; go_simp; try rfl) ?_
  simp only [Act.put, nA, nB, nC]
  refine Seq.callV rfl rfl rfl rfl rfl (by kernel_rfl) (aat_q (x := 5) (y := 6) HT.out (by omega) (by omega) rfl rfl) ?_
  simp only [Act.put, nA, nB, nC]
  refine Seq.loadCellF rfl rfl rfl rfl HG.out (v := .func (.func 31) #[] #[]) rfl (by kernel_rfl) rfl ?_
  simp only [Act.put, nA, nB, nC]
  iterate 2 (refine Seq.pure rfl rfl (by intro w; go_simp; try rfl) ?_; simp only [Act.put, nA, nB, nC])
  refine Seq.pure (v := .int .i64 6) rfl rfl (by intro w; go_simp; try rfl) ?_
  simp only [Act.put, nA, nB, nC]
  refine Seq.callV rfl rfl rfl rfl rfl (by kernel_rfl) (aat_q (x := 4) (y := 6) HT.out (by omega) (by omega) rfl rfl) ?_
  simp only [Act.put, nA, nB, nC]
  refine Seq.slice (n := 4) (e := 26) (cs := PC [((4 : Rat), (5 : Rat)), ((5 : Rat), (5 : Rat)), ((5 : Rat), (6 : Rat)), ((4 : Rat), (6 : Rat))]) rfl rfl (fun w => slcP_4 rfl rfl rfl rfl rfl w) ?_
  intro bk26 _ _ hbk26_r
  simp only [Act.put, nA, nB, nC]
  refine Seq.pure rfl rfl (by intro w; go_simp; try rfl) ?_
  simp only [Act.put, nA, nB, nC]
  refine Seq.done fun ws2 hws => ?_
  have HS2 : St w [(bk26, 26, PC [((4 : Rat), (5 : Rat)), ((5 : Rat), (5 : Rat)), ((5 : Rat), (6 : Rat)), ((4 : Rat), (6 : Rat))])] ws2 := hws.list1 (by repeat (first | exact rS | refine rN (by assumption) ?_))
  clear HS1 hws
  go_wp2_with fail
  go_ret
  have hb := (HS2.blk (bk26, _, _) (by repeat (first | exact mC | apply mT)))
  exact ⟨_, hb.1, rfl, HS2.below, hb.2⟩
theorem square_4_z : Pz 2 [((4 : Rat), (5 : Rat)), ((5 : Rat), (5 : Rat)), ((5 : Rat), (6 : Rat)), ((4 : Rat), (6 : Rat))] := by
  intro p hp
  simp only [List.mem_cons, List.not_mem_nil, or_false] at hp
  rcases hp with rfl | rfl | rfl | rfl
  · exact ⟨Rz.lit (z := 4) rfl (by decide), Rz.lit (z := 5) rfl (by decide)⟩
  · exact ⟨Rz.lit (z := 5) rfl (by decide), Rz.lit (z := 5) rfl (by decide)⟩
  · exact ⟨Rz.lit (z := 5) rfl (by decide), Rz.lit (z := 6) rfl (by decide)⟩
  · exact ⟨Rz.lit (z := 4) rfl (by decide), Rz.lit (z := 6) rfl (by decide)⟩
theorem sq0_cvx : Cvx [((0 : Rat), (0 : Rat)), ((1 : Rat), (0 : Rat)), ((1 : Rat), (1 : Rat)), ((0 : Rat), (1 : Rat))] := cvx_of (by decide +kernel)
theorem sq4_cvx : Cvx [((4 : Rat), (5 : Rat)), ((5 : Rat), (5 : Rat)), ((5 : Rat), (6 : Rat)), ((4 : Rat), (6 : Rat))] := cvx_of (by decide +kernel)
theorem sq_25 : sqQ [((0 : Rat), (0 : Rat)), ((1 : Rat), (0 : Rat)), ((1 : Rat), (1 : Rat)), ((0 : Rat), (1 : Rat))] [((4 : Rat), (5 : Rat)), ((5 : Rat), (5 : Rat)), ((5 : Rat), (6 : Rat)), ((4 : Rat), (6 : Rat))] = 25 := by decide +kernel
set_option maxHeartbeats 2000000 in
set_option maxRecDepth 20000 in
theorem abegun_q {W : World} {l : List Own} (hT : Tab W) (w : World) (h : St W l w) :
    Calls Tryz.prog 7 #[] w fun e w' => e = .returned (.bool true) ∧ Below w.heap.size w w' := by
  have HT := Lib.hid (tabS hT h); clear hT h
  go_enter Tryz.func7, Tryz.ntmps7
  have HS : St w [] w := St.start
  go_upto_region 0 with (fail)
  refine wp_seq_text [] (StR.no HS) ?_
  refine Seq.pure rfl rfl (by intro w; go_simp; try rfl) ?_
  simp only [Act.put, nA, nB, nC]
  refine Seq.done fun ws1 hws => ?_
  have HS1 := hws.st
  clear HS hws
  go_upto_region 1 with (fail)
  refine wp_seq_text [] (StR.no HS1) ?_
  refine Seq.alloc rfl rfl rfl (z := .nilFunc) (cs := #[.nilFunc]) (by kernel_rfl) rfl ?_
  intro bk1 _ _ hbk1_r
  simp only [Act.put, nA, nB, nC]
  refine Seq.storeAt (v := .func (.func 31) #[] #[]) rfl rfl rfl rfl rfl (by repeat (first | exact rS | refine rN (by assumption) ?_)) (by simp [Value.cells]) (by kernel_rfl) (by intro u hu; simp [Value.cells] at hu; subst hu; rfl) (cs' := #[.func (.func 31) #[] #[]]) (by simp [Value.cells]) ?_
  simp only [Act.put, nA, nB, nC]
  refine Seq.done fun ws2 hws => ?_
  have HS2 : St w [(bk1, 64, #[.func (.func 31) #[] #[]])] ws2 := hws.list1 (by repeat (first | exact rS | refine rN (by assumption) ?_))
  clear HS1 hws
  go_upto_region 2 with (fail)
  refine wp_seq_text [] (StR.no HS2) ?_
  iterate 2 (refine Seq.pure rfl rfl (by intro w; go_simp; try rfl) ?_; simp only [Act.put, nA, nB, nC])
  refine Seq.done fun ws3 hws => ?_
  have HS3 := hws.st
  clear HS2 hws
  go_upto_region 3 with (fail)
  refine wp_seq_text [1000001, 1000003, 9] (StR.no HS3) ?_
  refine Seq.pure rfl rfl (by intro w; go_simp; try rfl) ?_
  simp only [Act.put, nA, nB, nC]
  refine Seq.callFreshV (n := some 4) (x := (26, PC [((0 : Rat), (0 : Rat)), ((1 : Rat), (0 : Rat)), ((1 : Rat), (1 : Rat)), ((0 : Rat), (1 : Rat))])) rfl rfl rfl rfl rfl (by kernel_rfl) (fun w h => square_0 HT.out w h.st (h.st.blk (bk1, _, _) (by repeat (first | exact mC | apply mT))).2) ?_
  intro bk8 _ _ hbk8_r
  simp only [Act.put, nA, nB, nC]
  refine Seq.pure rfl rfl (by intro w; go_simp; try rfl) ?_
  simp only [Act.put, nA, nB, nC]
  refine Seq.callFreshV (n := some 4) (x := (26, PC [((4 : Rat), (5 : Rat)), ((5 : Rat), (5 : Rat)), ((5 : Rat), (6 : Rat)), ((4 : Rat), (6 : Rat))])) rfl rfl rfl rfl rfl (by kernel_rfl) (fun w h => square_4 HT.out w h.st (h.st.blk (bk1, _, _) (by repeat (first | exact mC | apply mT))).2) ?_
  intro bk10 _ _ hbk10_r
  obtain ⟨ne_bk10_bk8, hbk10_r⟩ := Reg.ne_of_put hbk10_r
  have ne_bk8_bk10 := Ne.symm ne_bk10_bk8
  simp only [Act.put, nA, nB, nC]
  refine Seq.callAny rfl rfl rfl rfl (by kernel_rfl) (fun w h => sq_q2 (k := 2) (n := 4) (m := 4) HT.out square_0_z rfl ⟨by omega, by omega, sq0_cvx⟩ square_4_z rfl ⟨by omega, by omega, sq4_cvx⟩ sq_25 (by omega) _ _ w h.st (h.reg _ _ _ (by repeat (first | exact rS | refine rN (by assumption) ?_))).2.2 (h.reg _ _ _ (by repeat (first | exact rS | refine rN (by assumption) ?_))).2.2) ?_
  simp only [Act.put, nA, nB, nC]
  refine Seq.pure rfl rfl (by intro w; go_simp; try rfl) ?_
  simp only [Act.put, nA, nB, nC]
  refine Seq.pure (v := .agg (RC (25 : Rat))) rfl rfl (fun w => rfl) ?_
  simp only [Act.put, nA, nB, nC]
  refine Seq.pure (v := .int .i64 0) rfl rfl (fun w => rfl) ?_
  simp only [Act.put, nA, nB, nC]
  refine Seq.alloc rfl rfl rfl (z := .agg #[.bool false, .string ⟨#[]⟩, .string ⟨#[]⟩]) (by kernel_rfl) rfl ?_
  intro bk3 _ _ hbk3_r
  obtain ⟨ne_bk3_bk10, hbk3_r⟩ := Reg.ne_of_put hbk3_r
  have ne_bk10_bk3 := Ne.symm ne_bk3_bk10
  obtain ⟨ne_bk3_bk8, hbk3_r⟩ := Reg.ne_of_put hbk3_r
  have ne_bk8_bk3 := Ne.symm ne_bk3_bk8
  simp only [Act.put, nA, nB, nC]
  refine Seq.store rfl rfl rfl rfl rfl (by repeat (first | exact rS | refine rN (by assumption) ?_)) (n := 3) rfl rfl (by kernel_rfl) (RC_one _) ?_
  simp only [Act.put, nA, nB, nC]
  refine Seq.pure rfl rfl (by intro w; go_simp; try rfl) ?_
  simp only [Act.put, nA, nB, nC]
  refine Seq.done fun ws4 hws => ?_
  have HS4 : St w [(bk8, 26, PC [((0 : Rat), (0 : Rat)), ((1 : Rat), (0 : Rat)), ((1 : Rat), (1 : Rat)), ((0 : Rat), (1 : Rat))]), (bk10, 26, PC [((4 : Rat), (5 : Rat)), ((5 : Rat), (5 : Rat)), ((5 : Rat), (6 : Rat)), ((4 : Rat), (6 : Rat))]), (bk3, 24, RC (25 : Rat)), (bk1, 64, #[.func (.func 31) #[] #[]])] ws4 := hws.list3 (by repeat (first | exact rS | refine rN (by assumption) ?_)) (by repeat (first | exact rS | refine rN (by assumption) ?_)) (by repeat (first | exact rS | refine rN (by assumption) ?_)) (by assumption) (by assumption) (by assumption)
  clear HS3 hws
  go_upto_region 4 with (fail)
  refine wp_seq [] (by kernel_rfl) (by kernel_rfl) Reg.fin_no (StR.no HS4) ?_
  refine Seq.call rfl rfl rfl rfl (by kernel_rfl) (pbegun_q HT.out) ?_
  simp only [Act.put, nA, nB, nC]
  iterate 5 (refine Seq.pure rfl rfl (by intro w; go_simp; try rfl) ?_; simp only [Act.put, nA, nB, nC])
  refine Seq.load rfl rfl rfl rfl (by repeat (first | exact mC | apply mT)) (n := 3) rfl (by kernel_rfl) ?_
  simp only [Act.put, nA, nB, nC]
  refine Seq.call rfl rfl rfl rfl (by kernel_rfl) (of_q HT.out (by omega) (by omega) rfl) ?_
  simp only [Act.put, nA, nB, nC]
  refine Seq.eqR rfl rfl rfl rfl rfl (b := true) (decide_eq_true rfl) ?_
  simp only [Act.put, nA, nB, nC]
  iterate 2 (refine Seq.pure rfl rfl (by intro w; go_simp; try rfl) ?_; simp only [Act.put, nA, nB, nC])
  refine Seq.done fun ws5 hws => ?_
  have HS5 := hws.st
  clear HS4 hws
  go_wp2_with fail
  go_ret
  exact ⟨rfl, HS5.below⟩
end Go.Proofs.YtoejojfjiikogaaGreatDoor
