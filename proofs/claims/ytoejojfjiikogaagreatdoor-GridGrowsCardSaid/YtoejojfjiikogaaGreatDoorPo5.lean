/- Joined texts: Po4 Po5. -/
import Derived.Test.YtoejojfjiikogaaGreatDoorPo3
import Derived.Test.YtoejojfjiikogaaGreatDoorSp4
import Derived.Deep.LoopGhost
/- gantmake.Poly, frame.List (printed by lawvec.py). -/
namespace Go.Proofs.YtoejojfjiikogaaGreatDoor
open Go.RowKit
set_option linter.unusedVariables false
set_option linter.unusedSimpArgs false

section
variable {P : Program} {ops : Array Oper} {W : World} {l : List Own} {Q : Exit → Act → World → Prop} {gs : List Nat} {k : Nat} {o : Oper} {rest : List Oper} {a : Act} {R : Reg}
/-- a call whose result is known only afterwards -/
theorem Seq.callE {f : FuncId} {xs : List Operand} {ts : Array TypeId} {vs : Array Value} (ho : o.op = .call { callee := .value (.func f), args := xs.toArray, argTypes := ts }) (hg : gs.contains 3000000 = true) (hw : wants ops o a = true)
    (hx : xs.map a.eval = vs.toList) (hf : goesIn P f = true)
    (hc : ∀ w, StR W l R w → Calls P f vs w (fun e w' => ∃ v R', e = .returned v ∧ StR W l R' w' ∧ Seq P ops Q W l gs (k + 1) rest (a.put o.dst v) R')) : Seq P ops Q W l gs k (o :: rest) a R := by
  refine Seq.gen hg hw fun w hs => ?_
  have hr : (execOp a.eval o).run P w = .ok (.enter f vs) w := by
    unfold goesIn at hf
    cases hp : P.funcs[f]? with
    | none => simp [hp] at hf
    | some fn =>
      simp only [hp, Bool.and_eq_true, bne_iff_ne, ne_eq] at hf
      have hb : fn.body.isNone = false := by cases hq : fn.body <;> simp_all
      have hv : (xs.map a.eval).toArray = vs := by rw [hx]
      simp [execOp, ho, resolve, invoke, callFunc, Deferred.ofValue, Act.eval, hp, hf.1, hb, hv, go_sem]
      intro hq; rw [hq] at hb; cases hb
  unfold Oper.wp
  rw [hr]
  simp only [Oper.upon]
  refine Calls.mono (hc w hs) fun e w' he => ?_
  obtain ⟨v, R', rfl, h2, h3⟩ := he
  exact ⟨R', h2, h3⟩
end
theorem Ints.next {W w : World} {A : Option Addr} {n c : Nat} {xs : List Int} (h : Ints W A n c xs) (hb : Below W.heap.size W w) : Ints w A n c xs := ⟨(h.1.below hb).more hb.size, h.2⟩
set_option maxHeartbeats 2000000 in
set_option maxRecDepth 20000 in
theorem poly_F {W : World} {l : List Own} {n c : Nat} {A : Option Addr} {xs : List Int} (hi : Ints W A n c xs) (w : World) (h : St W l w) :
    Calls Tryz.prog 27 #[.slice A n c] w fun e w' => ∃ p, w.heap.size ≤ p ∧ e = .returned (mk (some (polyQ xs).length) p) ∧ Below w.heap.size w w' ∧ Blk w' p 26 (PC (polyQ xs)) := by
  have HI := Lib.hid (hi.next h.below); clear hi h
  go_enter Tryz.func27, Tryz.ntmps27
  have HS : St w [] w := St.start
  go_upto_region 0 with (fail)
  refine wp_seq_text [] (StR.no HS) ?_
  refine Seq.pure rfl rfl (by intro w; go_simp; try first | with_reducible rfl | rfl) ?_
  simp only [Act.put, List.setIfInBounds_toArray, List.set_cons_zero, List.set_cons_succ]
  refine Seq.done fun ws1 hws => ?_
  have HS1 := hws.st
  clear HS hws
  go_upto_region 1 with (fail)
  refine wp_seq_text [3000000] (StR.no HS1) ?_
  refine Seq.pure rfl rfl (by intro w; go_simp; try first | with_reducible rfl | rfl) ?_
  simp only [Act.put, List.setIfInBounds_toArray, List.set_cons_zero, List.set_cons_succ]
  refine Seq.pure (v := .agg #[.slice A n c]) rfl rfl (by intro w; go_simp; try first | with_reducible rfl | rfl) ?_
  simp only [Act.put, List.setIfInBounds_toArray, List.set_cons_zero, List.set_cons_succ]
  refine Seq.box rfl rfl rfl (v := .agg #[.slice A n c]) (cs := #[.slice A n c]) rfl rfl ?_
  intro bk5 _ _ hbk5_r
  simp only [Act.put, List.setIfInBounds_toArray, List.set_cons_zero, List.set_cons_succ]
  refine Seq.callE rfl rfl rfl rfl (by kernel_rfl) (fun w2 h2 => (poly_S HI.out w2 h2.only).mono ?_)
  rintro e w3 ⟨p, sl, rfl, hp, h3⟩
  refine ⟨_, _, rfl, StR.move (StR.move (StR.no h3)), ?_⟩
  have hne : p ≠ bk5 := (List.pairwise_cons.1 h3.apart).1 _ List.mem_cons_self
  clear h3
  simp only [Act.put, List.setIfInBounds_toArray, List.set_cons_zero, List.set_cons_succ]
  refine Seq.pure rfl rfl (by intro w; go_simp; try first | with_reducible rfl | rfl) ?_
  simp only [Act.put, List.setIfInBounds_toArray, List.set_cons_zero, List.set_cons_succ]
  refine Seq.done fun ws3 hws => ?_
  go_wp2_with fail
  go_ret
  exact ⟨p, hp, rfl, hws.st.below, (hws.reg p _ _ (rN hne rS)).2.2⟩
def z6 : List Value := [.bool false, .string ⟨#[]⟩, .string ⟨#[]⟩, .bool false, .string ⟨#[]⟩, .string ⟨#[]⟩]
end Go.Proofs.YtoejojfjiikogaaGreatDoor
/- polyBegun; contracts of polygons (printed by lawvec.py). -/
namespace Go.Proofs.YtoejojfjiikogaaGreatDoor
open Go.RowKit
set_option linter.unusedVariables false
set_option linter.unusedSimpArgs false

theorem area_G {k n : Nat} {ps : Pts} {z0 : Rat} {W : World} {l : List Own} (hT : Tab W) (hz : Pz k ps) (hl : ps.length = n) (hcv : 3 ≤ n ∧ n ≤ 16 ∧ Cvx ps) (hz0 : areaQ ps = z0) (hk : k ≤ 100000) (g : Nat) (w : World) (h : St W l w) (hg : Blk w g 26 (PC ps)) :
    Calls Tryz.prog 50 #[.slice (some ⟨g, 0, none⟩) n n] w fun e w' => e = .returned (.agg (RC z0)) ∧ Below w.heap.size w w' := by
  rw [← hz0]; exact area_q hT hz hl hcv hk g w h hg
theorem poly_G {W : World} {l : List Own} {n c m : Nat} {A : Option Addr} {xs : List Int} {ps : Pts} (hi : Ints W A n c xs) (hp : polyQ xs = ps) (hl : ps.length = m) (w : World) (h : St W l w) :
    Calls Tryz.prog 27 #[.slice A n c] w fun e w' => ∃ p, w.heap.size ≤ p ∧ e = .returned (mk (some m) p) ∧ Below w.heap.size w w' ∧ Blk w' p 26 (PC ps) := by
  subst hp; subst hl; exact poly_F hi w h
theorem q4_rz {z : Int} (h0 : -32 ≤ z) (h1 : z ≤ 32) : Rz 2 (q4 z) := (SmallQ.rz ⟨z, 4, rfl, by omega, by omega, by omega, by omega⟩).more (by omega)
theorem polyQ_z (xs : List Int) : Pz 2 (polyQ xs) := by
  have b0 := nxV_lt xs (show 0 < 6 by omega)
  have b1 := nxV_lt xs.tail (show 0 < 6 by omega)
  have b3 := nxV_lt xs.tail.tail.tail (show 0 < 2 * (1 + nxV xs 6) + 1 by omega)
  unfold polyQ shape
  split
  · intro p hp
    simp only [List.mem_cons, List.not_mem_nil, or_false] at hp
    rcases hp with rfl | rfl | rfl | rfl <;> exact ⟨q4_rz (by omega) (by omega), q4_rz (by omega) (by omega)⟩
  · split
    · intro p hp
      simp only [List.mem_cons, List.not_mem_nil, or_false] at hp
      rcases hp with rfl | rfl | rfl <;> exact ⟨q4_rz (by omega) (by omega), q4_rz (by omega) (by omega)⟩
    · split
      · intro p hp
        simp only [List.mem_cons, List.not_mem_nil, or_false] at hp
        rcases hp with rfl | rfl | rfl | rfl | rfl <;> exact ⟨q4_rz (by omega) (by omega), q4_rz (by omega) (by omega)⟩
      · intro p hp
        simp only [List.mem_cons, List.not_mem_nil, or_false] at hp
        rcases hp with rfl | rfl | rfl | rfl <;> exact ⟨q4_rz (by omega) (by omega), q4_rz (by omega) (by omega)⟩
theorem polyQ_len (xs : List Int) : 3 ≤ (polyQ xs).length ∧ (polyQ xs).length ≤ 5 := shape_len _ _ _ _
set_option maxRecDepth 20000 in
theorem pat_q {x y : Int} {z0 z1 : Rat} {W : World} {l : List Own} (hT : Tab W) (hx : (-9223372036854775808 ≤ x ∧ x ≤ 9223372036854775807)) (hy : (-9223372036854775808 ≤ y ∧ y ≤ 9223372036854775807)) (hz0 : (x : Rat) = z0) (hz1 : (y : Rat) = z1) (w : World) (h : St W l w) :
    Calls Tryz.prog 48 #[.int .i64 x, .int .i64 y] w fun e w' => e = .returned (.agg (VC z0 z1)) ∧ Below w.heap.size w w' := by
  subst hz0 hz1
  have HT := Lib.hid (tabS hT h); clear hT h
  have HI := Lib.hid (And.intro hx hy); clear hx hy
  go_enter Tryz.func48, Tryz.ntmps48
  have HS : St w [] w := St.start
  go_upto_region 0 with (fail)
  refine wp_seq_text [] (StR.no HS) ?_
  refine Seq.alloc rfl rfl rfl (z := .agg #[.bool false, .string ⟨#[]⟩, .string ⟨#[]⟩, .bool false, .string ⟨#[]⟩, .string ⟨#[]⟩]) (by kernel_rfl) rfl ?_
  intro bk4 _ _ hbk4_r
  simp only [Act.put, List.setIfInBounds_toArray, List.set_cons_zero, List.set_cons_succ]
  refine Seq.done fun ws1 hws => ?_
  have HS1 : St w [(bk4, 26, #[.bool false, .string ⟨#[]⟩, .string ⟨#[]⟩, .bool false, .string ⟨#[]⟩, .string ⟨#[]⟩])] ws1 := hws.list1 (by first | exact rS | exact rN (by assumption) (rS) | exact rN (by assumption) (rN (by assumption) (rS)) | exact rN (by assumption) (rN (by assumption) (rN (by assumption) (rS))) | exact rN (by assumption) (rN (by assumption) (rN (by assumption) (rN (by assumption) (rS)))))
  clear HS hws
  go_upto_region 1 with (fail)
  refine wp_seq_text [] (StR.move (StR.no HS1)) ?_
  refine Seq.pure rfl rfl (by intro w; go_simp; try first | with_reducible rfl | rfl) ?_
  simp only [Act.put, List.setIfInBounds_toArray, List.set_cons_zero, List.set_cons_succ]
  refine Seq.call rfl rfl rfl rfl (by kernel_rfl) (of_q HT.out HI.out.1.1 HI.out.1.2 rfl) ?_
  simp only [Act.put, List.setIfInBounds_toArray, List.set_cons_zero, List.set_cons_succ]
  refine Seq.pure rfl rfl (by intro w; go_simp; try first | with_reducible rfl | rfl) ?_
  simp only [Act.put, List.setIfInBounds_toArray, List.set_cons_zero, List.set_cons_succ]
  refine Seq.call rfl rfl rfl rfl (by kernel_rfl) (of_q HT.out HI.out.2.1 HI.out.2.2 rfl) ?_
  simp only [Act.put, List.setIfInBounds_toArray, List.set_cons_zero, List.set_cons_succ]
  refine Seq.pure (v := .agg (VC ((x : Int) : Rat) ((y : Int) : Rat))) rfl rfl (fun w => bld_Vec rfl rfl rfl w) ?_
  simp only [Act.put, List.setIfInBounds_toArray, List.set_cons_zero, List.set_cons_succ]
  refine Seq.store rfl rfl rfl rfl rfl (by first | exact rS | exact rN (by assumption) (rS) | exact rN (by assumption) (rN (by assumption) (rS)) | exact rN (by assumption) (rN (by assumption) (rN (by assumption) (rS))) | exact rN (by assumption) (rN (by assumption) (rN (by assumption) (rN (by assumption) (rS))))) (n := 6) rfl rfl (by kernel_rfl) (VC_one _ _) ?_
  simp only [Act.put, List.setIfInBounds_toArray, List.set_cons_zero, List.set_cons_succ]
  refine Seq.done fun ws2 hws => ?_
  have HS2 : St w [(bk4, 26, VC ((x : Int) : Rat) ((y : Int) : Rat))] ws2 := hws.list1 (by first | exact rS | exact rN (by assumption) (rS) | exact rN (by assumption) (rN (by assumption) (rS)) | exact rN (by assumption) (rN (by assumption) (rN (by assumption) (rS))) | exact rN (by assumption) (rN (by assumption) (rN (by assumption) (rN (by assumption) (rS)))))
  clear HS1 hws
  go_wp2_with fail
  exact ret_own rfl rfl rfl HS2 (by repeat (first | exact mC | apply mT)) (n := 6) rfl (by kernel_rfl) ⟨rfl, HS2.below⟩
theorem sq_z : Pz 2 [((0 : Rat), (0 : Rat)), ((2 : Rat), (0 : Rat)), ((2 : Rat), (2 : Rat)), ((0 : Rat), (2 : Rat))] := by
  have h2 : Rz 2 (2 : Rat) := Rz.lit (z := 2) rfl (by decide)
  intro p hp
  simp only [List.mem_cons, List.not_mem_nil, or_false] at hp
  rcases hp with rfl | rfl | rfl | rfl
  · exact ⟨Rz.zero2, Rz.zero2⟩
  · exact ⟨h2, Rz.zero2⟩
  · exact ⟨h2, h2⟩
  · exact ⟨Rz.zero2, h2⟩
theorem sq_cvx : Cvx [((0 : Rat), (0 : Rat)), ((2 : Rat), (0 : Rat)), ((2 : Rat), (2 : Rat)), ((0 : Rat), (2 : Rat))] := cvx_of (by decide +kernel)
theorem sq_area : areaQ [((0 : Rat), (0 : Rat)), ((2 : Rat), (0 : Rat)), ((2 : Rat), (2 : Rat)), ((0 : Rat), (2 : Rat))] = 4 := by decide +kernel
set_option maxHeartbeats 2000000 in
set_option maxRecDepth 20000 in
theorem pbegun_q {W : World} {l : List Own} (hT : Tab W) (w : World) (h : St W l w) :
    Calls Tryz.prog 17 #[] w fun e w' => e = .returned (.bool true) ∧ Below w.heap.size w w' := by
  have HT := Lib.hid (tabS hT h); clear hT h
  go_enter Tryz.func17, Tryz.ntmps17
  have HS : St w [] w := St.start
  go_upto_region 0 with (fail)
  refine wp_seq_text [] (StR.no HS) ?_
  refine Seq.pure rfl rfl (by intro w; go_simp; try first | with_reducible rfl | rfl) ?_
  simp only [Act.put, List.setIfInBounds_toArray, List.set_cons_zero, List.set_cons_succ]
  refine Seq.done fun ws1 hws => ?_
  have HS1 := hws.st
  clear HS hws
  go_upto_region 1 with (fail)
  refine wp_seq_text [] (StR.no HS1) ?_
  refine Seq.pure rfl rfl (by intro w; go_simp; try first | with_reducible rfl | rfl) ?_
  simp only [Act.put, List.setIfInBounds_toArray, List.set_cons_zero, List.set_cons_succ]
  refine Seq.done fun ws2 hws => ?_
  have HS2 := hws.st
  clear HS1 hws
  go_upto_region 2 with (fail)
  refine wp_seq_text [23] (StR.no HS2) ?_
  refine Seq.call rfl rfl rfl rfl (by kernel_rfl) (vbegun_q HT.out) ?_
  simp only [Act.put, List.setIfInBounds_toArray, List.set_cons_zero, List.set_cons_succ]
  refine Seq.pure rfl rfl (by intro w; go_simp; try first | with_reducible rfl | rfl) ?_
  simp only [Act.put, List.setIfInBounds_toArray, List.set_cons_zero, List.set_cons_succ]
  refine Seq.pure rfl rfl (by intro w; go_simp; try first | with_reducible rfl | rfl) ?_
  simp only [Act.put, List.setIfInBounds_toArray, List.set_cons_zero, List.set_cons_succ]
  refine Seq.callV rfl rfl rfl rfl rfl (by kernel_rfl) (pat_q (x := 0) (y := 0) HT.out (by omega) (by omega) rfl rfl) ?_
  simp only [Act.put, List.setIfInBounds_toArray, List.set_cons_zero, List.set_cons_succ]
  refine Seq.pure rfl rfl (by intro w; go_simp; try first | with_reducible rfl | rfl) ?_
  simp only [Act.put, List.setIfInBounds_toArray, List.set_cons_zero, List.set_cons_succ]
  refine Seq.callV rfl rfl rfl rfl rfl (by kernel_rfl) (pat_q (x := 2) (y := 0) HT.out (by omega) (by omega) rfl rfl) ?_
  simp only [Act.put, List.setIfInBounds_toArray, List.set_cons_zero, List.set_cons_succ]
  refine Seq.pure rfl rfl (by intro w; go_simp; try first | with_reducible rfl | rfl) ?_
  simp only [Act.put, List.setIfInBounds_toArray, List.set_cons_zero, List.set_cons_succ]
  refine Seq.callV rfl rfl rfl rfl rfl (by kernel_rfl) (pat_q (x := 2) (y := 2) HT.out (by omega) (by omega) rfl rfl) ?_
  simp only [Act.put, List.setIfInBounds_toArray, List.set_cons_zero, List.set_cons_succ]
  refine Seq.pure rfl rfl (by intro w; go_simp; try first | with_reducible rfl | rfl) ?_
  simp only [Act.put, List.setIfInBounds_toArray, List.set_cons_zero, List.set_cons_succ]
  refine Seq.callV rfl rfl rfl rfl rfl (by kernel_rfl) (pat_q (x := 0) (y := 2) HT.out (by omega) (by omega) rfl rfl) ?_
  simp only [Act.put, List.setIfInBounds_toArray, List.set_cons_zero, List.set_cons_succ]
  refine Seq.slice (n := 4) (e := 26) (cs := PC [((0 : Rat), (0 : Rat)), ((2 : Rat), (0 : Rat)), ((2 : Rat), (2 : Rat)), ((0 : Rat), (2 : Rat))]) rfl rfl (fun w => slcP_4 rfl rfl rfl rfl rfl w) ?_
  intro bk12 _ _ hbk12_r
  simp only [Act.put, List.setIfInBounds_toArray, List.set_cons_zero, List.set_cons_succ]
  refine Seq.callAny rfl rfl rfl rfl (by kernel_rfl) (fun w h => area_G (k := 2) (n := 4) HT.out sq_z rfl ⟨by omega, by omega, sq_cvx⟩ sq_area (by omega) _ w h.st (h.reg _ _ _ (by first | exact rS | exact rN (by assumption) (rS) | exact rN (by assumption) (rN (by assumption) (rS)) | exact rN (by assumption) (rN (by assumption) (rN (by assumption) (rS))) | exact rN (by assumption) (rN (by assumption) (rN (by assumption) (rN (by assumption) (rS)))))).2.2) ?_
  simp only [Act.put, List.setIfInBounds_toArray, List.set_cons_zero, List.set_cons_succ]
  refine Seq.call rfl rfl rfl rfl (by kernel_rfl) (of_q HT.out (by omega) (by omega) rfl) ?_
  simp only [Act.put, List.setIfInBounds_toArray, List.set_cons_zero, List.set_cons_succ]
  refine Seq.eqR rfl rfl rfl rfl rfl (b := true) (decide_eq_true rfl) ?_
  simp only [Act.put, List.setIfInBounds_toArray, List.set_cons_zero, List.set_cons_succ]
  refine Seq.pure rfl rfl (by intro w; go_simp; try first | with_reducible rfl | rfl) ?_
  simp only [Act.put, List.setIfInBounds_toArray, List.set_cons_zero, List.set_cons_succ]
  refine Seq.pure rfl rfl (by intro w; go_simp; try first | with_reducible rfl | rfl) ?_
  simp only [Act.put, List.setIfInBounds_toArray, List.set_cons_zero, List.set_cons_succ]
  refine Seq.done fun ws3 hws => ?_
  have HS3 : St w [(bk12, 26, PC [((0 : Rat), (0 : Rat)), ((2 : Rat), (0 : Rat)), ((2 : Rat), (2 : Rat)), ((0 : Rat), (2 : Rat))])] ws3 := hws.list1 (by first | exact rS | exact rN (by assumption) (rS) | exact rN (by assumption) (rN (by assumption) (rS)) | exact rN (by assumption) (rN (by assumption) (rN (by assumption) (rS))) | exact rN (by assumption) (rN (by assumption) (rN (by assumption) (rN (by assumption) (rS)))))
  clear HS2 hws
  go_wp2_with fail
  go_ret
  exact ⟨rfl, HS3.below⟩
end Go.Proofs.YtoejojfjiikogaaGreatDoor
