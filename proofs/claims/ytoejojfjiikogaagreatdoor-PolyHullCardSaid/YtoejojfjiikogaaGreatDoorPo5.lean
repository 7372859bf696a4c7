/- Joined texts: Po4 Po5. -/
import Derived.Test.YtoejojfjiikogaaGreatDoorPo3
import Derived.Test.YtoejojfjiikogaaGreatDoorSp4
import Derived.Deep.LoopGhost
/- gantmake.Poly, frame.List (printed by lawvec.py). -/
namespace Go.Proofs.YtoejojfjiikogaaGreatDoor
open Go.RowKit
set_option linter.unusedVariables false
set_option linter.unusedSimpArgs false

section
variable {P : Program} {ops : Array Oper} {W : World} {l : List Own} {Q : Exit → Act → World → Prop} {gs : List Nat} {k : Nat} {o : Oper} {rest : List Oper} {a : Act} {R : Reg}
/-- a call whose result is known only afterwards -/
theorem Seq.callE {f : FuncId} {xs : List Operand} {ts : Array TypeId} {vs : Array Value} (ho : o.op = .call { callee := .value (.func f), args := xs.toArray, argTypes := ts }) (hg : gs.contains 3000000 = true) (hw : wants ops o a = true)
    (hx : xs.map a.eval = vs.toList) (hf : goesIn P f = true)
    (hc : ∀ w, StR W l R w → Calls P f vs w (fun e w' => ∃ v R', e = .returned v ∧ StR W l R' w' ∧ Seq P ops Q W l gs (k + 1) rest (a.put o.dst v) R')) : Seq P ops Q W l gs k (o :: rest) a R := by
  refine Seq.gen hg hw fun w hs => ?_
  have hr : (execOp a.eval o).run P w = .ok (.enter f vs) w := by
    unfold goesIn at hf
    cases hp : P.funcs[f]? with
    | none => simp [hp] at hf
    | some fn =>
      simp only [hp, Bool.and_eq_true, bne_iff_ne, ne_eq] at hf
      have hb : fn.body.isNone = false := by cases hq : fn.body <;> simp_all
      have hv : (xs.map a.eval).toArray = vs := by rw [hx]
      simp [execOp, ho, resolve, invoke, callFunc, Deferred.ofValue, Act.eval, hp, hf.1, hb, hv, go_sem]
      intro hq; rw [hq] at hb; cases hb
  unfold Oper.wp
  rw [hr]
  simp only [Oper.upon]
  refine Calls.mono (hc w hs) fun e w' he => ?_
  obtain ⟨v, R', rfl, h2, h3⟩ := he
  exact ⟨R', h2, h3⟩
end
theorem Ints.next {W w : World} {A : Option Addr} {n c : Nat} {xs : List Int} (h : Ints W A n c xs) (hb : Below W.heap.size W w) : Ints w A n c xs := ⟨(h.1.below hb).more hb.size, h.2⟩
def z6 : List Value := [.bool false, .string ⟨#[]⟩, .string ⟨#[]⟩, .bool false, .string ⟨#[]⟩, .string ⟨#[]⟩]
theorem flat_take {α : Type} {ls : List (List α)} (h : ∀ x ∈ ls, x.length = 6) (i : Nat) : ls.flatten.take (6 * i) = (ls.take i).flatten := by
  induction i generalizing ls with
  | zero => simp
  | succ i ih =>
    cases ls with
    | nil => simp
    | cons x ls =>
      have hx := h x List.mem_cons_self
      rw [List.flatten_cons, List.take_append, hx, show 6 * (i + 1) - 6 = 6 * i by omega, ih (fun y hy => h y (List.mem_cons_of_mem _ hy)), List.take_of_length_le (by omega), List.take_succ_cons, List.flatten_cons]
theorem flat_drop {α : Type} {ls : List (List α)} (h : ∀ x ∈ ls, x.length = 6) (i : Nat) : ls.flatten.drop (6 * i) = (ls.drop i).flatten := by
  induction i generalizing ls with
  | zero => simp
  | succ i ih =>
    cases ls with
    | nil => simp
    | cons x ls =>
      have hx := h x List.mem_cons_self
      rw [List.flatten_cons, List.drop_append, hx, show 6 * (i + 1) - 6 = 6 * i by omega, ih (fun y hy => h y (List.mem_cons_of_mem _ hy)), List.drop_of_length_le (by omega), List.nil_append, List.drop_succ_cons]
/-- the first i points stand, the others are still zero -/
def MxL (qs : Pts) (i n : Nat) : List (List Value) := (List.range n).map fun j => if j < i then (VC (px qs j) (py qs j)).toList else z6
def Mx (qs : Pts) (i n : Nat) : Array Value := (MxL qs i n).flatten.toArray
theorem MxL_6 (qs : Pts) (i n : Nat) : ∀ x ∈ MxL qs i n, x.length = 6 := by
  intro x hx
  obtain ⟨j, -, rfl⟩ := List.mem_map.1 hx
  split <;> rfl
theorem Mx_size (qs : Pts) (i n : Nat) : (Mx qs i n).size = 6 * n := by
  show (MxL qs i n).flatten.length = _
  have h : ∀ ls : List (List Value), (∀ x ∈ ls, x.length = 6) → ls.flatten.length = 6 * ls.length := by
    intro ls
    induction ls with
    | nil => intro _; rfl
    | cons x ls ih =>
      intro h
      rw [List.flatten_cons, List.length_append, ih (fun y hy => h y (List.mem_cons_of_mem _ hy)), h x List.mem_cons_self, List.length_cons]; omega
  rw [h _ (MxL_6 _ _ _)]
  simp [MxL]
theorem MxL_set (qs : Pts) {i n : Nat} (h : i < n) : (MxL qs i n).take i ++ ((VC (px qs i) (py qs i)).toList :: (MxL qs i n).drop (i + 1)) = MxL qs (i + 1) n := by
  apply List.ext_getElem
  · simp [MxL]; omega
  · intro j h1 h2
    have hj : j < n := by simpa [MxL] using h2
    rw [List.getElem_append]
    split
    · rename_i h3
      have hji : j < i := by simp [MxL] at h3; omega
      simp [MxL, hji]; intro; omega
    · rename_i h3
      have hji : i ≤ j := by simp [MxL] at h3; omega
      rcases Nat.lt_or_ge i j with h4 | h4
      · have e : j - ((MxL qs i n).take i).length = (j - i - 1) + 1 := by simp [MxL]; omega
        simp only [e, List.getElem_cons_succ]
        simp [MxL, show i + 1 + (j - i - 1) = j by omega, show ¬ j < i by omega, show ¬ j < i + 1 by omega]
      · have e : i = j := by omega
        subst e
        have e2 : i - ((MxL qs i n).take i).length = 0 := by simp [MxL]; omega
        simp only [e2, List.getElem_cons_zero]
        simp [MxL]
theorem Mx_put (qs : Pts) {i n : Nat} (h : i < n) : ((Mx qs i n).toList.take (6 * i) ++ (Value.agg (VC (px qs i) (py qs i))).cells.toList ++ (Mx qs i n).toList.drop (6 * i + (Value.agg (VC (px qs i) (py qs i))).cells.size)).toArray = Mx qs (i + 1) n := by
  have hs : (Value.agg (VC (px qs i) (py qs i))).cells.size = 6 := rfl
  have hc : (Value.agg (VC (px qs i) (py qs i))).cells.toList = (VC (px qs i) (py qs i)).toList := rfl
  rw [hs, hc, show 6 * i + 6 = 6 * (i + 1) by omega]
  show (List.take (6 * i) (MxL qs i n).flatten ++ _ ++ List.drop (6 * (i + 1)) (MxL qs i n).flatten).toArray = _
  rw [flat_take (MxL_6 _ _ _), flat_drop (MxL_6 _ _ _)]
  unfold Mx
  rw [← MxL_set qs h, List.flatten_append, List.flatten_cons, List.append_assoc]
theorem Mx_all {qs : Pts} {n : Nat} (h : qs.length = n) : Mx qs n n = PC qs := by
  subst h
  unfold Mx PC MxL
  congr 1
  rw [List.flatMap_def]
  congr 1
  apply List.ext_getElem
  · simp
  · intro j h1 h2
    have hj : j < qs.length := by simpa using h2
    have := getD_pt hj
    simp [hj, this]
theorem made6 (n : Nat) : madeCells z6.toArray (n * 6) = (List.replicate n z6).flatten.toArray := by
  apply Array.toList_inj.1
  unfold madeCells
  rw [Array.toList_map]
  show List.map _ (Array.range (n * 6)).toList = _
  rw [Array.toList_range]
  induction n with
  | zero => rfl
  | succ n ih =>
    rw [show (n + 1) * 6 = n * 6 + 6 by omega, List.range_add, List.map_append, ih, List.replicate_succ', List.flatten_append]
    congr 1
    have e : ∀ j, (n * 6 + j) % z6.toArray.size = j % 6 := fun j => by
      show (n * 6 + j) % 6 = _
      omega
    simp only [List.map_map, Function.comp_def, e]
    rfl
theorem Mx_zero (qs : Pts) (n : Nat) : Mx qs 0 n = madeCells z6.toArray (n * 6) := by
  rw [made6]
  unfold Mx MxL
  congr 2
  apply List.ext_getElem
  · simp
  · intro j h1 h2; simp
theorem infoVec : (Tryz.prog.info? 26).map (fun i => (i.zero, i.size, i.bytes)) = some (some (.agg z6.toArray), 6, 80) := by kernel_rfl
theorem mkV_n {o : Oper} {a : Act} {X Y : Operand} (qs : Pts) (n : Nat) (hn : n ≤ 1000000) (ho : o.op = .makeSlice 48 X Y) (hX : a.eval X = .int .i64 (n : Int)) (hY : a.eval Y = .int .i64 (n : Int)) (w : World) :
    (execOp a.eval o).run Tryz.prog w = .ok (.value (.slice (some ⟨w.heap.size, 0, none⟩) n n)) (w.alloc (.cells (Mx qs 0 n) 26)) := by
  obtain ⟨i0, hi0, hz0, hz1, hz2⟩ := info_parts infoVec
  have hr := run_make (P := Tryz.prog) w 48 26 _ _ Tryz.underlying48 hi0 hz0 .i64 .i64 n n (by omega) (by omega) (by rw [hz2]; omega) (by omega)
  simp only [Int.toNat_natCast] at hr
  rw [hz1, show (Value.agg z6.toArray).cells = z6.toArray from rfl, ← Mx_zero qs] at hr
  unfold execOp
  simp only [ho, hX, hY, Sem.run_bind, hr, Result.andThen_ok, Sem.run_pure]
end Go.Proofs.YtoejojfjiikogaaGreatDoor
/- polyBegun; contracts of polygons (printed by lawvec.py). -/
namespace Go.Proofs.YtoejojfjiikogaaGreatDoor
open Go.RowKit
set_option linter.unusedVariables false
set_option linter.unusedSimpArgs false

theorem area_G {k n : Nat} {ps : Pts} {z0 : Rat} {W : World} {l : List Own} (hT : Tab W) (hz : Pz k ps) (hl : ps.length = n) (hcv : 3 ≤ n ∧ n ≤ 16 ∧ Cvx ps) (hz0 : areaQ ps = z0) (hk : k ≤ 100000) (g : Nat) (w : World) (h : St W l w) (hg : Blk w g 26 (PC ps)) :
    Calls Tryz.prog 50 #[.slice (some ⟨g, 0, none⟩) n n] w fun e w' => e = .returned (.agg (RC z0)) ∧ Below w.heap.size w w' := by
  rw [← hz0]; exact area_q hT hz hl hcv hk g w h hg
set_option maxRecDepth 20000 in
theorem pat_q {x y : Int} {z0 z1 : Rat} {W : World} {l : List Own} (hT : Tab W) (hx : (-9223372036854775808 ≤ x ∧ x ≤ 9223372036854775807)) (hy : (-9223372036854775808 ≤ y ∧ y ≤ 9223372036854775807)) (hz0 : (x : Rat) = z0) (hz1 : (y : Rat) = z1) (w : World) (h : St W l w) :
    Calls Tryz.prog 48 #[.int .i64 x, .int .i64 y] w fun e w' => e = .returned (.agg (VC z0 z1)) ∧ Below w.heap.size w w' := by
  subst hz0 hz1
  have HT := Lib.hid (tabS hT h); clear hT h
  have HI := Lib.hid (And.intro hx hy); clear hx hy
  go_enter Tryz.func48, Tryz.ntmps48
  have HS : St w [] w := St.start
  go_upto_region 0 with (fail)
  refine wp_seq_text [] (StR.no HS) ?_
  refine Seq.alloc rfl rfl rfl (z := .agg #[.bool false, .string ⟨#[]⟩, .string ⟨#[]⟩, .bool false, .string ⟨#[]⟩, .string ⟨#[]⟩]) (by kernel_rfl) rfl ?_
  intro bk4 _ _ hbk4_r
  simp only [Act.put, List.setIfInBounds_toArray, List.set_cons_zero, List.set_cons_succ]
  refine Seq.done fun ws1 hws => ?_
  have HS1 : St w [(bk4, 26, #[.bool false, .string ⟨#[]⟩, .string ⟨#[]⟩, .bool false, .string ⟨#[]⟩, .string ⟨#[]⟩])] ws1 := hws.list1 (by first | exact rS | exact rN (by assumption) (rS) | exact rN (by assumption) (rN (by assumption) (rS)) | exact rN (by assumption) (rN (by assumption) (rN (by assumption) (rS))) | exact rN (by assumption) (rN (by assumption) (rN (by assumption) (rN (by assumption) (rS)))))
  clear HS hws
  go_upto_region 1 with (fail)
  refine wp_seq_text [] (StR.move (StR.no HS1)) ?_
  refine Seq.pure rfl rfl (by intro w; go_simp; try first | with_reducible rfl | rfl) ?_
  simp only [Act.put, List.setIfInBounds_toArray, List.set_cons_zero, List.set_cons_succ]
  refine Seq.call rfl rfl rfl rfl (by kernel_rfl) (of_q HT.out HI.out.1.1 HI.out.1.2 rfl) ?_
  simp only [Act.put, List.setIfInBounds_toArray, List.set_cons_zero, List.set_cons_succ]
  refine Seq.pure rfl rfl (by intro w; go_simp; try first | with_reducible rfl | rfl) ?_
  simp only [Act.put, List.setIfInBounds_toArray, List.set_cons_zero, List.set_cons_succ]
  refine Seq.call rfl rfl rfl rfl (by kernel_rfl) (of_q HT.out HI.out.2.1 HI.out.2.2 rfl) ?_
  simp only [Act.put, List.setIfInBounds_toArray, List.set_cons_zero, List.set_cons_succ]
  refine Seq.pure (v := .agg (VC ((x : Int) : Rat) ((y : Int) : Rat))) rfl rfl (fun w => bld_Vec rfl rfl rfl w) ?_
  simp only [Act.put, List.setIfInBounds_toArray, List.set_cons_zero, List.set_cons_succ]
  refine Seq.store rfl rfl rfl rfl rfl (by first | exact rS | exact rN (by assumption) (rS) | exact rN (by assumption) (rN (by assumption) (rS)) | exact rN (by assumption) (rN (by assumption) (rN (by assumption) (rS))) | exact rN (by assumption) (rN (by assumption) (rN (by assumption) (rN (by assumption) (rS))))) (n := 6) rfl rfl (by kernel_rfl) (VC_one _ _) ?_
  simp only [Act.put, List.setIfInBounds_toArray, List.set_cons_zero, List.set_cons_succ]
  refine Seq.done fun ws2 hws => ?_
  have HS2 : St w [(bk4, 26, VC ((x : Int) : Rat) ((y : Int) : Rat))] ws2 := hws.list1 (by first | exact rS | exact rN (by assumption) (rS) | exact rN (by assumption) (rN (by assumption) (rS)) | exact rN (by assumption) (rN (by assumption) (rN (by assumption) (rS))) | exact rN (by assumption) (rN (by assumption) (rN (by assumption) (rN (by assumption) (rS)))))
  clear HS1 hws
  go_wp2_with fail
  exact ret_own rfl rfl rfl HS2 (by repeat (first | exact mC | apply mT)) (n := 6) rfl (by kernel_rfl) ⟨rfl, HS2.below⟩
theorem sq_z : Pz 2 [((0 : Rat), (0 : Rat)), ((2 : Rat), (0 : Rat)), ((2 : Rat), (2 : Rat)), ((0 : Rat), (2 : Rat))] := by
  have h2 : Rz 2 (2 : Rat) := Rz.lit (z := 2) rfl (by decide)
  intro p hp
  simp only [List.mem_cons, List.not_mem_nil, or_false] at hp
  rcases hp with rfl | rfl | rfl | rfl
  · exact ⟨Rz.zero2, Rz.zero2⟩
  · exact ⟨h2, Rz.zero2⟩
  · exact ⟨h2, h2⟩
  · exact ⟨Rz.zero2, h2⟩
theorem sq_cvx : Cvx [((0 : Rat), (0 : Rat)), ((2 : Rat), (0 : Rat)), ((2 : Rat), (2 : Rat)), ((0 : Rat), (2 : Rat))] := cvx_of (by decide +kernel)
theorem sq_area : areaQ [((0 : Rat), (0 : Rat)), ((2 : Rat), (0 : Rat)), ((2 : Rat), (2 : Rat)), ((0 : Rat), (2 : Rat))] = 4 := by decide +kernel
set_option maxHeartbeats 2000000 in
set_option maxRecDepth 20000 in
theorem pbegun_q {W : World} {l : List Own} (hT : Tab W) (w : World) (h : St W l w) :
    Calls Tryz.prog 17 #[] w fun e w' => e = .returned (.bool true) ∧ Below w.heap.size w w' := by
  have HT := Lib.hid (tabS hT h); clear hT h
  go_enter Tryz.func17, Tryz.ntmps17
  have HS : St w [] w := St.start
  go_upto_region 0 with (fail)
  refine wp_seq_text [] (StR.no HS) ?_
  refine Seq.pure rfl rfl (by intro w; go_simp; try first | with_reducible rfl | rfl) ?_
  simp only [Act.put, List.setIfInBounds_toArray, List.set_cons_zero, List.set_cons_succ]
  refine Seq.done fun ws1 hws => ?_
  have HS1 := hws.st
  clear HS hws
  go_upto_region 1 with (fail)
  refine wp_seq_text [] (StR.no HS1) ?_
  refine Seq.pure rfl rfl (by intro w; go_simp; try first | with_reducible rfl | rfl) ?_
  simp only [Act.put, List.setIfInBounds_toArray, List.set_cons_zero, List.set_cons_succ]
  refine Seq.done fun ws2 hws => ?_
  have HS2 := hws.st
  clear HS1 hws
  go_upto_region 2 with (fail)
  refine wp_seq_text [23] (StR.no HS2) ?_
  refine Seq.call rfl rfl rfl rfl (by kernel_rfl) (vbegun_q HT.out) ?_
  simp only [Act.put, List.setIfInBounds_toArray, List.set_cons_zero, List.set_cons_succ]
  refine Seq.pure rfl rfl (by intro w; go_simp; try first | with_reducible rfl | rfl) ?_
  simp only [Act.put, List.setIfInBounds_toArray, List.set_cons_zero, List.set_cons_succ]
  refine Seq.pure rfl rfl (by intro w; go_simp; try first | with_reducible rfl | rfl) ?_
  simp only [Act.put, List.setIfInBounds_toArray, List.set_cons_zero, List.set_cons_succ]
  refine Seq.callV rfl rfl rfl rfl rfl (by kernel_rfl) (pat_q (x := 0) (y := 0) HT.out (by omega) (by omega) rfl rfl) ?_
  simp only [Act.put, List.setIfInBounds_toArray, List.set_cons_zero, List.set_cons_succ]
  refine Seq.pure rfl rfl (by intro w; go_simp; try first | with_reducible rfl | rfl) ?_
  simp only [Act.put, List.setIfInBounds_toArray, List.set_cons_zero, List.set_cons_succ]
  refine Seq.callV rfl rfl rfl rfl rfl (by kernel_rfl) (pat_q (x := 2) (y := 0) HT.out (by omega) (by omega) rfl rfl) ?_
  simp only [Act.put, List.setIfInBounds_toArray, List.set_cons_zero, List.set_cons_succ]
  refine Seq.pure rfl rfl (by intro w; go_simp; try first | with_reducible rfl | rfl) ?_
  simp only [Act.put, List.setIfInBounds_toArray, List.set_cons_zero, List.set_cons_succ]
  refine Seq.callV rfl rfl rfl rfl rfl (by kernel_rfl) (pat_q (x := 2) (y := 2) HT.out (by omega) (by omega) rfl rfl) ?_
  simp only [Act.put, List.setIfInBounds_toArray, List.set_cons_zero, List.set_cons_succ]
  refine Seq.pure rfl rfl (by intro w; go_simp; try first | with_reducible rfl | rfl) ?_
  simp only [Act.put, List.setIfInBounds_toArray, List.set_cons_zero, List.set_cons_succ]
  refine Seq.callV rfl rfl rfl rfl rfl (by kernel_rfl) (pat_q (x := 0) (y := 2) HT.out (by omega) (by omega) rfl rfl) ?_
  simp only [Act.put, List.setIfInBounds_toArray, List.set_cons_zero, List.set_cons_succ]
  refine Seq.slice (n := 4) (e := 26) (cs := PC [((0 : Rat), (0 : Rat)), ((2 : Rat), (0 : Rat)), ((2 : Rat), (2 : Rat)), ((0 : Rat), (2 : Rat))]) rfl rfl (fun w => slcP_4 rfl rfl rfl rfl rfl w) ?_
  intro bk12 _ _ hbk12_r
  simp only [Act.put, List.setIfInBounds_toArray, List.set_cons_zero, List.set_cons_succ]
  refine Seq.callAny rfl rfl rfl rfl (by kernel_rfl) (fun w h => area_G (k := 2) (n := 4) HT.out sq_z rfl ⟨by omega, by omega, sq_cvx⟩ sq_area (by omega) _ w h.st (h.reg _ _ _ (by first | exact rS | exact rN (by assumption) (rS) | exact rN (by assumption) (rN (by assumption) (rS)) | exact rN (by assumption) (rN (by assumption) (rN (by assumption) (rS))) | exact rN (by assumption) (rN (by assumption) (rN (by assumption) (rN (by assumption) (rS)))))).2.2) ?_
  simp only [Act.put, List.setIfInBounds_toArray, List.set_cons_zero, List.set_cons_succ]
  refine Seq.call rfl rfl rfl rfl (by kernel_rfl) (of_q HT.out (by omega) (by omega) rfl) ?_
  simp only [Act.put, List.setIfInBounds_toArray, List.set_cons_zero, List.set_cons_succ]
  refine Seq.eqR rfl rfl rfl rfl rfl (b := true) (decide_eq_true rfl) ?_
  simp only [Act.put, List.setIfInBounds_toArray, List.set_cons_zero, List.set_cons_succ]
  refine Seq.pure rfl rfl (by intro w; go_simp; try first | with_reducible rfl | rfl) ?_
  simp only [Act.put, List.setIfInBounds_toArray, List.set_cons_zero, List.set_cons_succ]
  refine Seq.pure rfl rfl (by intro w; go_simp; try first | with_reducible rfl | rfl) ?_
  simp only [Act.put, List.setIfInBounds_toArray, List.set_cons_zero, List.set_cons_succ]
  refine Seq.done fun ws3 hws => ?_
  have HS3 : St w [(bk12, 26, PC [((0 : Rat), (0 : Rat)), ((2 : Rat), (0 : Rat)), ((2 : Rat), (2 : Rat)), ((0 : Rat), (2 : Rat))])] ws3 := hws.list1 (by first | exact rS | exact rN (by assumption) (rS) | exact rN (by assumption) (rN (by assumption) (rS)) | exact rN (by assumption) (rN (by assumption) (rN (by assumption) (rS))) | exact rN (by assumption) (rN (by assumption) (rN (by assumption) (rN (by assumption) (rS)))))
  clear HS2 hws
  go_wp2_with fail
  go_ret
  exact ⟨rfl, HS3.below⟩
end Go.Proofs.YtoejojfjiikogaaGreatDoor
