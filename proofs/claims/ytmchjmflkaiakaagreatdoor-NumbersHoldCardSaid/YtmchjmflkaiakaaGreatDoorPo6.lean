/- Joined texts: Po4 Po5 Po6. -/
import Derived.Test.YtmchjmflkaiakaaGreatDoorPo2
import Derived.Test.YtmchjmflkaiakaaGreatDoorSp3
import Derived.Deep.LoopGhost
/- gantmake.Poly, frame.List (printed by lawvec.py). -/
namespace Go.Proofs.YtmchjmflkaiakaaGreatDoor
open Go.RowKit
set_option linter.unusedVariables false
set_option linter.unusedSimpArgs false
section
variable {P : Program} {ops : Array Oper} {W : World} {l : List Own} {Q : Exit → Act → World → Prop} {gs : List Nat} {k : Nat} {o : Oper} {rest : List Oper} {a : Act} {R : Reg}
theorem Seq.callE {f : FuncId} {xs : List Operand} {ts : Array TypeId} {vs : Array Value} (ho : o.op = .call { callee := .value (.func f), args := xs.toArray, argTypes := ts }) (hg : gs.contains 3000000 = true) (hw : wants ops o a = true)
  (hx : xs.map a.eval = vs.toList) (hf : goesIn P f = true)
  (hc : ∀ w, StR W l R w → Calls P f vs w (fun e w' => ∃ v R', e = .returned v ∧ StR W l R' w' ∧ Seq P ops Q W l gs (k + 1) rest (a.put o.dst v) R')) : Seq P ops Q W l gs k (o :: rest) a R := by
 refine Seq.gen hg hw fun w hs => ?_
 have hr : (execOp a.eval o).run P w = .ok (.enter f vs) w := by
  unfold goesIn at hf
  cases hp : P.funcs[f]? with
  | none => simp [hp] at hf
  | some fn =>
    simp only [hp, Bool.and_eq_true, bne_iff_ne, ne_eq] at hf
    have hb : fn.body.isNone = false := by cases hq : fn.body <;> simp_all
    have hv : (xs.map a.eval).toArray = vs := by rw [hx]
    simp [execOp, ho, resolve, invoke, callFunc, Deferred.ofValue, Act.eval, hp, hf.1, hb, hv, go_sem]
    intro hq; rw [hq] at hb; cases hb
 unfold Oper.wp
 rw [hr]
 simp only [Oper.upon]
 refine Calls.mono (hc w hs) fun e w' he => ?_
 obtain ⟨v, R', rfl, h2, h3⟩ := he
 exact ⟨R', h2, h3⟩
end
theorem Ints.next {W w : World} {A : Option Addr} {n c : Nat} {xs : List Int} (h : Ints W A n c xs) (hb : Below W.heap.size W w) : Ints w A n c xs := ⟨(h.1.below hb).more hb.size, h.2⟩
def z6 : List Value := [.bool false, .string ⟨#[]⟩, .string ⟨#[]⟩, .bool false, .string ⟨#[]⟩, .string ⟨#[]⟩]
theorem area_G {k n : Nat} {ps : Pts} {z0 : Rat} {W : World} {l : List Own} (hT : Tab W) (hz : Pz k ps) (hl : ps.length = n) (hcv : 3 ≤ n ∧ n ≤ 16 ∧ Cvx ps) (hz0 : areaQ ps = z0) (hk : k ≤ 100000) (g : Nat) (w : World) (h : St W l w) (hg : Blk w g 29 (PC ps)) :
  Calls Tryz.prog 57 #[.slice (some ⟨g, 0, none⟩) n n] w fun e w' => e = .returned (.agg (RC z0)) ∧ Below w.heap.size w w' := by
 rw [← hz0]; exact area_q hT hz hl hcv hk g w h hg
theorem sq_z : Pz 2 [((0 : Rat), (0 : Rat)), ((2 : Rat), (0 : Rat)), ((2 : Rat), (2 : Rat)), ((0 : Rat), (2 : Rat))] := by
 have h2 : Rz 2 (2 : Rat) := Rz.lit (z := 2) rfl (by decide)
 intro p hp
 simp only [List.mem_cons, List.not_mem_nil, or_false] at hp
 rcases hp with rfl | rfl | rfl | rfl
 ·exact ⟨Rz.zero2, Rz.zero2⟩
 ·exact ⟨h2, Rz.zero2⟩
 ·exact ⟨h2, h2⟩
 ·exact ⟨Rz.zero2, h2⟩
theorem sq_cvx : Cvx [((0 : Rat), (0 : Rat)), ((2 : Rat), (0 : Rat)), ((2 : Rat), (2 : Rat)), ((0 : Rat), (2 : Rat))] := cvx_of (by decide +kernel)
theorem sq_area : areaQ [((0 : Rat), (0 : Rat)), ((2 : Rat), (0 : Rat)), ((2 : Rat), (2 : Rat)), ((0 : Rat), (2 : Rat))] = 4 := by decide +kernel
set_option maxHeartbeats 4000000
set_option maxRecDepth 20000
variable {W : World} {l : List Own}
theorem goodraw_q (w : World) (h : St W l w) :
  Calls Tryz.prog 125 #[.agg #[.bool false, .string ⟨#[]⟩, .string ⟨#[]⟩]] w fun e w' => e = .returned (.bool false) ∧ Below w.heap.size w w' := by
 clear h
 go_enter Tryz.func125, Tryz.ntmps125
 have HS : St w [] w := St.start
 go_upto_region 0 with fail
 refine rgT [] HS ?_
 refine bX (#[.bool false, .string ⟨#[]⟩, .string ⟨#[]⟩]) ?_
 intro bk1 _ _ hbk1_r
 refine nZ ?_
 refine pU ?_
 refine d1 bk1 fun _ HS1=>?_
 clear HS
 go_upto_region 1 with fail
 refine rgT [] HS1 ?_
 refine pU ?_
 refine lC (.string ⟨#[]⟩) ?_
 iterate 2 refine pU ?_
 iterate 4 refine nW ?_
 iterate 2 refine pU ?_
 iterate 12 refine nW ?_
 iterate 2 refine pU ?_
 iterate 9 refine nW ?_
 refine pU ?_
 refine dS fun _ HS2=>?_
 clear HS1
 go_upto_region 2 with fail
 refine rgT [] HS2 ?_
 refine pU ?_
 refine dS fun _ HS3=>?_
 clear HS2
 go_wp2_with fail
 go_ret
 exact ⟨rfl, HS3.below⟩
theorem fitraw_q (w : World) (h : St W l w) :
  Calls Tryz.prog 77 #[.agg #[.bool false, .string ⟨#[]⟩, .string ⟨#[]⟩]] w fun e w' => e = .returned (.agg (RC 0)) ∧ Below w.heap.size w w' := by
 clear h
 go_enter Tryz.func77, Tryz.ntmps77
 have HS : St w [] w := St.start
 go_upto_region 0 with fail
 refine rgT [] HS ?_
 refine bX (#[.bool false, .string ⟨#[]⟩, .string ⟨#[]⟩]) ?_
 intro bk1 _ _ hbk1_r
 refine nZ ?_
 refine aL3 ?_
 intro bk2 _ _ hbk2_r
 obtain ⟨_, _, hbk2_r⟩ := Reg.ne2 hbk2_r
 refine nZ ?_
 refine d2 bk1 bk2 fun _ HS1=>?_
 clear HS
 go_upto_region 1 with fail
 refine rgT [] HS1 ?_
 refine lV ?_
 refine cL goodraw_q ?_
 refine pU ?_
 refine dS fun _ HS2=>?_
 clear HS1
 go_upto_region 2 with fail
 have HPbk2 := HS2.p1
 refine wp_seq_text [] (StR.move (StR.no HPbk2)) ?_
 refine cL (fun w h => zero_R w) ?_
 refine sV (RC_one _) ?_
 refine d1 bk2 fun _ HS3=>?_
 clear HS2 HPbk2
 go_wp2_with fail
 exact rO HS3 ⟨rfl, HS3.below⟩
theorem sg_zero_n {u : Bool} {n : Nat} (h : sg u n = sg (decide (Rat.num 0 < 0)) (Rat.num 0).natAbs + sg (decide (Rat.num 0 < 0)) (Rat.num 0).natAbs) : Sz 2 n ∧ mkRat (sg u n) (Rat.den 0) = 0 := by
 have e : sg (decide (Rat.num 0 < 0)) (Rat.num 0).natAbs + sg (decide (Rat.num 0 < 0)) (Rat.num 0).natAbs = 0 := by decide
 rw [e] at h
 have hn : n = 0 := by unfold sg at h; split at h <;> omega
 subst hn
 rw [h]
 exact ⟨by unfold Sz; decide, by decide +kernel⟩
theorem addraw_q (hT : Tab W) (w : World) (h : St W l w) :
  Calls Tryz.prog 49 #[.agg #[.bool false, .string ⟨#[]⟩, .string ⟨#[]⟩], .agg #[.bool false, .string ⟨#[]⟩, .string ⟨#[]⟩]] w fun e w' => e = .returned (.agg (RC 0)) ∧ Below w.heap.size w w' := by
 have HT := Lib.hid (tabS hT h); clear hT h
 have HZ := Lib.hid (show Sz 2 (Rat.num 0).natAbs from by unfold Sz; decide)
 have HZ1 := Lib.hid (show Sz 2 (Rat.den 0) from by unfold Sz; decide)
 go_enter Tryz.func49, Tryz.ntmps49
 have HS : St w [] w := St.start
 go_upto_region 0 with fail
 refine rgT [] HS ?_
 refine bX (#[.bool false, .string ⟨#[]⟩, .string ⟨#[]⟩]) ?_
 intro bk2 _ _ hbk2_r
 refine nZ ?_
 refine bX (#[.bool false, .string ⟨#[]⟩, .string ⟨#[]⟩]) ?_
 intro bk3 _ _ hbk3_r
 obtain ⟨_, _, hbk3_r⟩ := Reg.ne2 hbk3_r
 refine nZ ?_
 refine aL3 ?_
 intro bk4 _ _ hbk4_r
 obtain ⟨_, _, hbk4_r⟩ := Reg.ne2 hbk4_r
 obtain ⟨_, _, hbk4_r⟩ := Reg.ne2 hbk4_r
 refine nZ ?_
 refine Seq.done fun ws1 hws => ?_
 have HS1 := hws.q3 (p := bk2) (q := bk3) (r := bk4)
 clear HS hws
 go_upto_region 1 with fail
 have HPbk3 := HS1.p1
 have HPbk2 := HPbk3.p1
 refine wS [0, 4] (Reg.fin.put (Reg.fin.put Reg.fin_no _ _) _ _) (StR.move (StR.move (StR.no HPbk2))) ?_
 refine gV ?_
 refine cL fitraw_q ?_
 refine gV ?_
 refine cL fitraw_q ?_
 refine sV (RC_one _) ?_
 refine sV (RC_one _) ?_
 refine d2 bk2 bk3 fun _ HS2=>?_
 clear HS1 HPbk3 HPbk2
 go_upto_region 2 with fail
 refine rgT [] HS2 ?_
 refine pU ?_
 refine lC (.string (S (Rat.den (0 : Rat)))) ?_
 refine pU ?_
 refine lC (.string (S (Rat.den (0 : Rat)))) ?_
 refine pU ?_
 refine dS fun _ HS3=>?_
 clear HS2
 go_upto_region 3 with fail
 refine rgT [3000000] HS3 ?_
 refine pU ?_
 refine lC (.bool (decide (Rat.num (0 : Rat) < 0))) ?_
 refine pU ?_
 refine lC (.string (S (Rat.num (0 : Rat)).natAbs)) ?_
 refine pU ?_
 refine lC (.bool (decide (Rat.num (0 : Rat) < 0))) ?_
 refine pU ?_
 refine lC (.string (S (Rat.num (0 : Rat)).natAbs)) ?_
 refine Seq.callE rfl rfl rfl rfl (by kernel_rfl) (fun w2 h2 => (signed_R _ _ _ _ 2 2 w2 HZ.out HZ.out (by omega) (by omega)).mono ?_)
 rintro e w3 ⟨⟨u_, n_, rfl, hsg⟩, hb_⟩
 refine ⟨_, _, rfl, h2.next hb_, ?_⟩
 have HSG := Lib.hid (sg_zero_n hsg); clear hsg hb_ h2
 simp only[Act.put,nA,nB,nC]
 refine pU ?_
 refine pV (.bool u_) (fun w => rfl) ?_
 refine pV (.string (S n_)) (fun w => rfl) ?_
 iterate 2 refine pU ?_
 refine dS fun _ HS4=>?_
 clear HS3
 go_upto_region 4 with fail
 have HPbk4 := HS4.p2
 refine wp_seq_text [] (StR.move (StR.no HPbk4)) ?_
 iterate 3 refine pU ?_
 refine lC (.string (S (Rat.den (0 : Rat)))) ?_
 refine cX rfl rfl (made_q (k := 2) u_ n_ (Rat.den 0) HT.out (by decide) HSG.out.1 HZ1.out (by omega) HSG.out.2) ?_
 refine sV (RC_one _) ?_
 refine d1 bk4 fun _ HS5=>?_
 clear HS4 HPbk4
 go_wp2_with fail
 exact rO HS5 ⟨rfl, HS5.below⟩
theorem vaddraw_q (hT : Tab W) (w : World) (h : St W l w) :
  Calls Tryz.prog 24 #[.agg (#[.bool false, .string ⟨#[]⟩, .string ⟨#[]⟩, .bool false, .string ⟨#[]⟩, .string ⟨#[]⟩]), .agg (#[.bool false, .string ⟨#[]⟩, .string ⟨#[]⟩, .bool false, .string ⟨#[]⟩, .string ⟨#[]⟩])] w fun e w' => e = .returned (.agg (VC 0 0)) ∧ Below w.heap.size w w' := by
 have HT := Lib.hid (tabS hT h); clear hT h
 go_enter Tryz.func24, Tryz.ntmps24
 have HS : St w [] w := St.start
 go_upto_region 0 with fail
 refine rgT [] HS ?_
 refine bX (#[.bool false, .string ⟨#[]⟩, .string ⟨#[]⟩, .bool false, .string ⟨#[]⟩, .string ⟨#[]⟩]) ?_
 intro bk2 _ _ hbk2_r
 refine nZ ?_
 refine bX (#[.bool false, .string ⟨#[]⟩, .string ⟨#[]⟩, .bool false, .string ⟨#[]⟩, .string ⟨#[]⟩]) ?_
 intro bk3 _ _ hbk3_r
 obtain ⟨_, _, hbk3_r⟩ := Reg.ne2 hbk3_r
 refine nZ ?_
 refine aL6 ?_
 intro bk4 _ _ hbk4_r
 obtain ⟨_, _, hbk4_r⟩ := Reg.ne2 hbk4_r
 obtain ⟨_, _, hbk4_r⟩ := Reg.ne2 hbk4_r
 refine nZ ?_
 refine Seq.done fun ws1 hws => ?_
 have HS1 := hws.q3 (p := bk2) (q := bk3) (r := bk4)
 clear HS hws
 go_upto_region 1 with fail
 have HPbk4 := HS1.p2
 refine wS [] (Reg.fin.put Reg.fin_no _ _) (StR.move (StR.no HPbk4)) ?_
 refine pU ?_
 refine lA (#[.bool false, .string ⟨#[]⟩, .string ⟨#[]⟩]) ?_
 refine pU ?_
 refine lA (#[.bool false, .string ⟨#[]⟩, .string ⟨#[]⟩]) ?_
 refine cL (addraw_q HT.out) ?_
 refine pU ?_
 refine lA (#[.bool false, .string ⟨#[]⟩, .string ⟨#[]⟩]) ?_
 refine pU ?_
 refine lA (#[.bool false, .string ⟨#[]⟩, .string ⟨#[]⟩]) ?_
 refine cL (addraw_q HT.out) ?_
 refine pV (.agg (VC (0 : Rat) (0 : Rat))) (fun w => bld_Vec rfl rfl rfl w) ?_
 refine sV (VC_one _ _) ?_
 refine d1 bk4 fun _ HS2=>?_
 clear HS1 HPbk4
 go_wp2_with fail
 exact rO HS2 ⟨rfl, HS2.below⟩
theorem bld_Box {o : Oper} {a : Act} {X Y : Operand} {x y z u : Rat} (ho : o.op = .build 38 #[(0, X), (1, Y)]) (hX : a.eval X = .agg (VC x y)) (hY : a.eval Y = .agg (VC z u)) (w : World) : (execOp a.eval o).run Tryz.prog w = .ok (.value (.agg (BC x y z u))) w := by
 unfold VC at hX hY
 unfold execOp BC
 simp only [ho, List.map_toArray, List.map_cons, List.map_nil, hX, hY]
 go_simp
theorem mnF_rz {k n : Nat} {f : Nat → Rat} (h : ∀ i, i < n → Rz k (f i)) : ∀ i, i < n → Rz k (mnF f i) := by
 intro i
 induction i with
 | zero => intro h0; exact h 0 h0
 | succ i ih => intro h0; simp only [mnF]; exact (ih (by omega)).min (h _ h0)
theorem mxF_rz {k n : Nat} {f : Nat → Rat} (h : ∀ i, i < n → Rz k (f i)) : ∀ i, i < n → Rz k (mxF f i) := by
 intro i
 induction i with
 | zero => intro h0; exact h 0 h0
 | succ i ih => intro h0; simp only [mxF]; exact (ih (by omega)).max (h _ h0)
section
variable {P : Program} {ops : Array Oper} {W : World} {l : List Own} {Q : Exit → Act → World → Prop} {gs : List Nat} {k : Nat} {o : Oper} {rest : List Oper} {a : Act} {R : Reg}
theorem Addr.add_at (g f0 n : Nat) : (⟨g, f0, none⟩ : Addr).add n = ⟨g, f0 + n, none⟩ := by unfold Addr.add; split <;> simp_all
theorem run_indexO {t : TypeId} {m g f0 n c : Nat} {z : Int} {i : Nat} (ht : sliceOf P t m = true) (hz : z = (i : Int)) (hi : i < n) (w : World) :
  (Instr.indexAt t (.slice (some ⟨g, f0, none⟩) n c) (.int .i64 z)).run P w = .ok (.pointer (some ⟨g, f0 + m * i, none⟩)) w := by
 unfold sliceOf at ht
 cases hu : P.underlying t with
 | none => simp [hu] at ht
 | some d =>
   rw [hu] at ht
   cases d with
   | slice e =>
     simp only [beq_iff_eq] at ht
     cases hq : P.info? e with
     | none => simp [hq] at ht
     | some inf =>
       have hs : inf.size = m := by rw [hq] at ht; simpa using ht
       subst hz
       simp [Instr.indexAt, run_underlying hu, asIntOf, sizeOf, typeInfo, hq, hs, hi, Addr.add_at, Nat.mul_comm]
   | _ => simp at ht
theorem Seq.indexO {t : TypeId} {x y : Operand} {m g f0 n c : Nat} {z : Int} (i : Nat) (ho : o.op = .indexAddr t x y) (hk : kd gs k o = .val) (hw : wants ops o a = true) (hx : a.eval x = .slice (some ⟨g, f0, none⟩) n c) (hy : a.eval y = .int .i64 z)
  (ht : sliceOf P t m = true) (hz : z = (i : Int)) (hi : i < n) {q : Nat} (hq : f0 + m * i = q) (h : Seq P ops Q W l gs (k + 1) rest (a.put o.dst (.pointer (some ⟨g, q, none⟩))) R) : Seq P ops Q W l gs k (o :: rest) a R :=
 Seq.pure hk hw (fun w => by
  unfold execOp
  simp only [ho, hx, hy, Sem.run_bind, run_indexO ht hz hi, Result.andThen_ok, Sem.run_pure, hq]) h
end
theorem box_q {k n : Nat} {ps : Pts} (hT : Tab W) (hz : Pz k ps) (hl : ps.length = n) (hcv : 3 ≤ n ∧ n ≤ 64 ∧ Cvx ps) (hk : k ≤ 100000000000) (g : Nat) (w : World) (h : St W l w) (hg : Blk w g 29 (PC ps)) :
  Calls Tryz.prog 22 #[.slice (some ⟨g, 0, none⟩) n n] w fun e w' => e = .returned (.agg (BC (mnF (px ps) (ps.length - 1)) (mnF (py ps) (ps.length - 1)) (mxF (px ps) (ps.length - 1)) (mxF (py ps) (ps.length - 1)))) ∧ Below w.heap.size w w' := by
 have HT := Lib.hid (tabS hT h); clear hT h
 have HG := Lib.hid hg; clear hg
 have HL := Lib.hid hl; clear hl
 have HNZ := Lib.hid (show ¬ n = 0 by have := hcv.1; omega)
 have HZP := Lib.hid (show Pz (1 * k + 0) ps by rw [Nat.one_mul]; exact hz); clear hz
 have HCV := Lib.hid (show 3 ≤ n ∧ n ≤ 64 ∧ True from ⟨hcv.1, hcv.2.1, trivial⟩)
 have HPOS := Lib.hid (show 0 < n by have := hcv.1; omega)
 obtain ⟨n1, hn1⟩ : ∃ n1, n - 1 = n1 := ⟨_, rfl⟩
 have HSL := Lib.hid (show n - 1 = n1 ∧ ¬ n = 1 ∧ ¬ (n : Int) < 1 from ⟨hn1, by have := hcv.1; omega, by have := hcv.1; omega⟩)
 clear hn1 hcv
 go_enter Tryz.func22, Tryz.ntmps22
 have HS : St w [] w := St.start
 go_upto_region 0 with fail
 refine rgT [] HS ?_
 refine Seq.alloc rfl rfl rfl (z := .agg #[.bool false, .string ⟨#[]⟩, .string ⟨#[]⟩, .bool false, .string ⟨#[]⟩, .string ⟨#[]⟩, .bool false, .string ⟨#[]⟩, .string ⟨#[]⟩, .bool false, .string ⟨#[]⟩, .string ⟨#[]⟩]) (by kernel_rfl) rfl ?_
 intro bk2 _ _ hbk2_r
 refine nZ ?_
 refine d1 bk2 fun _ HS1=>?_
 clear HS
 go_upto_region 1 with fail
 refine rgT [] HS1 ?_
 refine pV (.agg (#[.bool false, .string ⟨#[]⟩, .string ⟨#[]⟩, .bool false, .string ⟨#[]⟩, .string ⟨#[]⟩])) (by intro w; go_simp; try rfl) ?_
 refine pV (.agg (#[.bool false, .string ⟨#[]⟩, .string ⟨#[]⟩, .bool false, .string ⟨#[]⟩, .string ⟨#[]⟩])) (by intro w; go_simp; try rfl) ?_
 refine cL (vaddraw_q HT.out) ?_
 refine aL6 ?_
 intro bk3 _ _ hbk3_r
 refine nZ ?_
 refine sV (VC_one _ _) ?_
 refine d1 bk3 fun _ HS2=>?_
 clear HS1
 go_upto_region 2 with fail
 refine rgT [] HS2 ?_
 refine pU ?_
 refine pV (.int .i64 (n : Int)) (by intro w; go_simp; try rfl) ?_
 refine pV (.bool false) (by intro w; go_simp <;> (first | (rw [HNZ.out]; done) | exact HNZ.out | (simp [HNZ.out]; done) | (trace_state; done))) ?_
 refine dS fun _ HS3=>?_
 clear HS2
 go_upto_region 4 with fail
 refine rgW [] HS3 ?_
 refine pU ?_
 refine iX 6 0 HPOS.out ?_
 refine lF HG.out (VC (px ps 0) (py ps 0)) (PC_room (lt_of_pts HL.out HPOS.out)) (PC_at (lt_of_pts HL.out HPOS.out)) ?_
 refine lV ?_
 refine cX rfl rfl (vadd_q (k := (1 * k + 2)) HT.out ((HZP.out.x (lt_of_pts HL.out HPOS.out)).more (by omega)) ((HZP.out.y (lt_of_pts HL.out HPOS.out)).more (by omega)) (Rz.zero2.more (by omega)) (Rz.zero2.more (by omega))  (Rat.add_zero _) (Rat.add_zero _) (by omega)) ?_
 refine aL6 ?_
 intro bk4 _ _ hbk4_r
 refine nZ ?_
 refine sV (VC_one _ _) ?_
 refine d1 bk4 fun _ HS4=>?_
 clear HS3
 go_upto_region 5 with fail
 refine rgT [] HS4 ?_
 iterate 2 refine lV ?_
 refine pV (.agg (BC (px ps 0) (py ps 0) (px ps 0) (py ps 0))) (fun w => bld_Box rfl rfl rfl w) ?_
 refine Seq.alloc rfl rfl rfl (z := .agg #[.bool false, .string ⟨#[]⟩, .string ⟨#[]⟩, .bool false, .string ⟨#[]⟩, .string ⟨#[]⟩, .bool false, .string ⟨#[]⟩, .string ⟨#[]⟩, .bool false, .string ⟨#[]⟩, .string ⟨#[]⟩]) (by kernel_rfl) rfl ?_
 intro bk5 _ _ hbk5_r
 refine nZ ?_
 refine sV (BC_one _ _ _ _) ?_
 refine d1 bk5 fun _ HS5=>?_
 clear HS4
 go_upto_region 6 with fail
 refine rgT [] HS5 ?_
 refine pU ?_
 refine pV (.slice (some ⟨g, 6, none⟩) n1 n1) (by intro w; go_simp <;> (first | (rw [HSL.out.1]; done) | (rw [HSL.out.2.1]; done) | (rw [HSL.out.2.2]; done) | exact HSL.out.1 | exact HSL.out.2.1 | exact HSL.out.2.2 | (simp [HSL.out.1, HSL.out.2.1, HSL.out.2.2]; done) | (trace_state; done))) ?_
 refine pV (.int .i64 (n1 : Int)) (by intro w; go_simp <;> (first | (rw [HSL.out.1]; done) | exact HSL.out.1 | (simp [HSL.out.1]; done) | (trace_state; done))) ?_
 refine pU ?_
 refine dS fun _ HS6=>?_
 clear HS5
 go_wp2_with fail
 go_loopg [28] n1 (fun kk s28 wr => ∃ i : Nat, kk = n1 - i ∧ s28 = .int .i64 (i : Int) ∧ i ≤ n1 ∧ Hid (St w [(bk5, 38, BC (mnF (px ps) i) (mnF (py ps) i) (mxF (px ps) i) (mxF (py ps) i)), (bk4, 29, VC (px ps 0) (py ps 0)), (bk3, 29, VC (0 : Rat) (0 : Rat)), (bk2, 38, #[.bool false, .string ⟨#[]⟩, .string ⟨#[]⟩, .bool false, .string ⟨#[]⟩, .string ⟨#[]⟩, .bool false, .string ⟨#[]⟩, .string ⟨#[]⟩, .bool false, .string ⟨#[]⟩, .string ⟨#[]⟩])] wr))
 case atStart => exact ⟨0, rfl, rfl, by omega, Lib.hid HS6⟩
 case round =>
  obtain ⟨i, hgk, rfl, hin, hS⟩ := hrel
  have HGK := Lib.hid hgk; clear hgk
  have HR := hS.out; clear hS
  have hn1 := HSL.out.1
  have HIN := Lib.hid (show i < n by have := HCV.out.1; omega)
  by_cases hc : i < n1
  ·obtain ⟨i1, hi1⟩ : ∃ i1 : Nat, i1 = i + 1 := ⟨_, rfl⟩
   have HI1 := Lib.hid (show IntKind.i64.wrap ((i : Int) + 1) = (i1 : Int) ∧ n1 - i1 < n1 - i ∧ i1 ≤ n1 ∧ 6 + 6 * i = 6 * i1 from ⟨by have := HCV.out.2.1; rw [i64_s _ (by omega) (by omega)]; omega, by omega, by omega, by omega⟩)
   have HIN1 := Lib.hid (show i1 < n by omega)
   have HM := Lib.hid (show minQ (mnF (px ps) i) (px ps i1) = mnF (px ps) i1 ∧ minQ (mnF (py ps) i) (py ps i1) = mnF (py ps) i1 ∧ maxQ (mxF (px ps) i) (px ps i1) = mxF (px ps) i1 ∧ maxQ (mxF (py ps) i) (py ps i1) = mxF (py ps) i1 from by rw [hi1]; exact ⟨rfl, rfl, rfl, rfl⟩)
   have HC := Lib.hid hc
   clear hc hin hi1 hn1
   go_upto_region 7 with fail
   refine rgT [] HR ?_
   refine pV (.bool true) (by intro w; go_simp <;> (first | (rw [HC.out]; done) | exact HC.out | (simp [HC.out]; done) | (trace_state; done))) ?_
   refine dS fun ws7 HS7=>?_
   clear HR
   go_upto_region 8 with fail
   refine rgT [] HS7 ?_
   refine Seq.indexO (m := 6) i rfl rfl rfl rfl rfl (by kernel_rfl) rfl HC.out HI1.out.2.2.2 (nZ ?_)
   refine lF HG.out (VC (px ps i1) (py ps i1)) (PC_room (lt_of_pts HL.out HIN1.out)) (PC_at (lt_of_pts HL.out HIN1.out)) ?_
   refine aL6 ?_
   intro bk7 _ _ hbk7_r
   refine nZ ?_
   refine sV (VC_one _ _) ?_
   refine d1 bk7 fun ws8 HS8=>?_
   clear HS7
   go_upto_region 9 with fail
   have HPbk5 := HS8.p1
   refine wS [4, 16] (Reg.fin.put Reg.fin_no _ _) (StR.move (StR.no HPbk5)) ?_
   iterate 2 refine pU ?_
   refine Seq.getAt rfl rfl rfl rfl (by repeat first|exact rS|refine rN ‹_› ?_) (n := 3) (cs' := RC (mnF (px ps) i)) (Nat.le_of_ble_eq_true rfl) (by kernel_rfl) rfl (nZ ?_)
   refine pU ?_
   refine lA (RC (px ps i1)) ?_
   refine cX rfl rfl (min_q (k := (1 * k + 0)) HT.out ((mnF_rz (fun q hq => HZP.out.x (lt_of_pts HL.out hq)) _ HIN.out).more (by omega)) ((HZP.out.x (lt_of_pts HL.out HIN1.out)).more (by omega)) HM.out.1 (by omega)) ?_
   iterate 2 refine pU ?_
   refine Seq.getAt rfl rfl rfl rfl (by repeat first|exact rS|refine rN ‹_› ?_) (n := 3) (cs' := RC (mnF (py ps) i)) (Nat.le_of_ble_eq_true rfl) (by kernel_rfl) rfl (nZ ?_)
   refine pU ?_
   refine lA (RC (py ps i1)) ?_
   refine cX rfl rfl (min_q (k := (1 * k + 0)) HT.out ((mnF_rz (fun q hq => HZP.out.y (lt_of_pts HL.out hq)) _ HIN.out).more (by omega)) ((HZP.out.y (lt_of_pts HL.out HIN1.out)).more (by omega)) HM.out.2.1 (by omega)) ?_
   refine pV (.agg (VC (mnF (px ps) i1) (mnF (py ps) i1))) (fun w => bld_Vec rfl rfl rfl w) ?_
   refine pU ?_
   refine Seq.storeAt (v := .agg (VC (mnF (px ps) i1) (mnF (py ps) i1))) rfl rfl rfl rfl rfl (by repeat first|exact rS|refine rN ‹_› ?_) (Nat.le_of_ble_eq_true rfl) (by show _ = some 6; kernel_rfl) (VC_one _ _) (cs' := BC (mnF (px ps) i1) (mnF (py ps) i1) (mxF (px ps) i) (mxF (py ps) i)) rfl (nZ ?_)
   refine d1 bk5 fun _ HS9=>?_
   clear HS8 HPbk5
   go_upto_region 10 with fail
   refine wS [4, 16] (Reg.fin.put Reg.fin_no _ _) (StR.move (StR.no HS9)) ?_
   iterate 2 refine pU ?_
   refine Seq.getAt rfl rfl rfl rfl (by repeat first|exact rS|refine rN ‹_› ?_) (n := 3) (cs' := RC (mxF (px ps) i)) (Nat.le_of_ble_eq_true rfl) (by kernel_rfl) rfl (nZ ?_)
   refine pU ?_
   refine lA (RC (px ps i1)) ?_
   refine cX rfl rfl (max_q (k := (1 * k + 0)) HT.out ((mxF_rz (fun q hq => HZP.out.x (lt_of_pts HL.out hq)) _ HIN.out).more (by omega)) ((HZP.out.x (lt_of_pts HL.out HIN1.out)).more (by omega)) HM.out.2.2.1 (by omega)) ?_
   iterate 2 refine pU ?_
   refine Seq.getAt rfl rfl rfl rfl (by repeat first|exact rS|refine rN ‹_› ?_) (n := 3) (cs' := RC (mxF (py ps) i)) (Nat.le_of_ble_eq_true rfl) (by kernel_rfl) rfl (nZ ?_)
   refine pU ?_
   refine lA (RC (py ps i1)) ?_
   refine cX rfl rfl (max_q (k := (1 * k + 0)) HT.out ((mxF_rz (fun q hq => HZP.out.y (lt_of_pts HL.out hq)) _ HIN.out).more (by omega)) ((HZP.out.y (lt_of_pts HL.out HIN1.out)).more (by omega)) HM.out.2.2.2 (by omega)) ?_
   refine pV (.agg (VC (mxF (px ps) i1) (mxF (py ps) i1))) (fun w => bld_Vec rfl rfl rfl w) ?_
   refine pU ?_
   refine Seq.storeAt (v := .agg (VC (mxF (px ps) i1) (mxF (py ps) i1))) rfl rfl rfl rfl rfl (by repeat first|exact rS|refine rN ‹_› ?_) (Nat.le_of_ble_eq_true rfl) (by show _ = some 6; kernel_rfl) (VC_one _ _) (cs' := BC (mnF (px ps) i1) (mnF (py ps) i1) (mxF (px ps) i1) (mxF (py ps) i1)) rfl (nZ ?_)
   refine d1 bk5 fun _ HS10=>?_
   clear HS9
   go_upto_region 11 with fail
   refine rgT [] HS10 ?_
   refine pV (.int .i64 (i1 : Int)) (by intro w; go_simp <;> (first | (rw [HI1.out.1]; done) | exact HI1.out.1 | (simp [HI1.out.1]; done) | (trace_state; done))) ?_
   refine pU ?_
   refine dS fun _ HS11=>?_
   clear HS10
   go_wp2_with fail
   go_roundg (n1 - i1)
   case measure => rw [HGK.out]; exact HI1.out.2.1
   case rel => exact ⟨i1, rfl, rfl, HI1.out.2.2.1, Lib.hid (HS11.sub (.cons_cons _ (.cons _ (.refl _))))⟩
  ·have HE := Lib.hid (show i = ps.length - 1 by rw [HL.out]; omega)
   have HC := Lib.hid (show n1 ≤ i by omega)
   clear hc hin hn1
   go_upto_region 7 with fail
   refine rgT [] HR ?_
   refine pV (.bool false) (by intro w; go_simp <;> (first | (rw [HC.out]; done) | exact HC.out | (simp [HC.out]; done) | (trace_state; done))) ?_
   refine dS fun _ HS7=>?_
   clear HR
   go_upto_region 12 with fail
   have HPbk2 := HS7.p3
   refine wp_seq_text [] (StR.move (StR.no HPbk2)) ?_
   refine lV ?_
   refine sV (BC_one _ _ _ _) ?_
   refine d1 bk2 fun _ HS8=>?_
   clear HS7 HPbk2
   go_wp2_with fail
   exact ret_own rfl rfl rfl HS8 (by repeat first|exact mC|apply mT) (n := 12) rfl (by kernel_rfl) ⟨by rw [HE.out], HS8.below⟩
theorem box_G {k n : Nat} {ps : Pts} {z0 z1 z2 z3 : Rat} (hT : Tab W) (hz : Pz k ps) (hl : ps.length = n) (hcv : 3 ≤ n ∧ n ≤ 64 ∧ Cvx ps) (hz0 : mnF (px ps) (n - 1) = z0 ∧ mnF (py ps) (n - 1) = z1 ∧ mxF (px ps) (n - 1) = z2 ∧ mxF (py ps) (n - 1) = z3) (hk : k ≤ 100000000000) (g : Nat) (w : World) (h : St W l w) (hg : Blk w g 29 (PC ps)) :
  Calls Tryz.prog 22 #[.slice (some ⟨g, 0, none⟩) n n] w fun e w' => e = .returned (.agg (BC z0 z1 z2 z3)) ∧ Below w.heap.size w w' := by
 have := box_q hT hz hl hcv hk g w h hg
 rw [hl, hz0.1, hz0.2.1, hz0.2.2.1, hz0.2.2.2] at this
 exact this
end Go.Proofs.YtmchjmflkaiakaaGreatDoor
