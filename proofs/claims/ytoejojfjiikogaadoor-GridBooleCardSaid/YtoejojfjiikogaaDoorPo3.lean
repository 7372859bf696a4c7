/- Joined texts: Sp0 Sp1 Sp2 Po0 Po1 Po2 PoL Po3. -/
import Derived.Test.YtoejojfjiikogaaDoorSpQ
import Derived.Deep.LoopGhost
/- Turns: what the functions compute, and how large it is. -/
namespace Go.Proofs.YtoejojfjiikogaaDoor
open Go.RowKit
set_option linter.unusedVariables false
set_option linter.unusedSimpArgs false

end Go.Proofs.YtoejojfjiikogaaDoor
/- Walks of packages turn and vec (printed by span1.py). -/
namespace Go.Proofs.YtoejojfjiikogaaDoor
open Go.RowKit
set_option linter.unusedVariables false
set_option linter.unusedSimpArgs false

end Go.Proofs.YtoejojfjiikogaaDoor
/- turned, vector, num, turnBegun, vecBegun of package gantkeep1 (printed by lawvec.py). -/
namespace Go.Proofs.YtoejojfjiikogaaDoor
open Go.RowKit
set_option linter.unusedVariables false
set_option linter.unusedSimpArgs false

end Go.Proofs.YtoejojfjiikogaaDoor
/- Lists of points in memory. -/
namespace Go.Proofs.YtoejojfjiikogaaDoor
open Go.RowKit
set_option linter.unusedVariables false
set_option linter.unusedSimpArgs false

abbrev Pts := List (Rat × Rat)
def px (ps : Pts) (i : Nat) : Rat := (ps.getD i (0, 0)).1
def py (ps : Pts) (i : Nat) : Rat := (ps.getD i (0, 0)).2
def Pz (k : Nat) (ps : Pts) : Prop := ∀ p ∈ ps, Rz k p.1 ∧ Rz k p.2
theorem getD_pt {ps : Pts} {i : Nat} (h : i < ps.length) : ps[i] = (px ps i, py ps i) := by
  unfold px py
  rw [List.getD_eq_getElem?_getD, List.getElem?_eq_getElem h]; rfl
theorem Pz.x {k : Nat} {ps : Pts} (h : Pz k ps) {i : Nat} (hi : i < ps.length) : Rz k (px ps i) := by
  have := (h _ (List.getElem_mem hi)).1; rwa [getD_pt hi] at this
theorem Pz.y {k : Nat} {ps : Pts} (h : Pz k ps) {i : Nat} (hi : i < ps.length) : Rz k (py ps i) := by
  have := (h _ (List.getElem_mem hi)).2; rwa [getD_pt hi] at this
theorem Pz.more {k l : Nat} {ps : Pts} (h : Pz k ps) (hk : k ≤ l) : Pz l ps := fun p hp => ⟨(h p hp).1.more hk, (h p hp).2.more hk⟩

section
variable {P : Program} {ops : Array Oper} {W : World} {l : List Own} {Q : Exit → Act → World → Prop} {gs : List Nat} {k : Nat} {o : Oper} {rest : List Oper} {a : Act} {R : Reg}
end
end Go.Proofs.YtoejojfjiikogaaDoor
/- package poly (printed by lawvec.py). -/
namespace Go.Proofs.YtoejojfjiikogaaDoor
open Go.RowKit
set_option linter.unusedVariables false
set_option linter.unusedSimpArgs false

end Go.Proofs.YtoejojfjiikogaaDoor
/- package poly: Convex, Check, Has, Support, Area, Box (printed by lawvec.py). -/
namespace Go.Proofs.YtoejojfjiikogaaDoor
open Go.RowKit
set_option linter.unusedVariables false
set_option linter.unusedSimpArgs false

def fz (k : Nat) : Nat → Nat
  | 0 => 2
  | i + 1 => 2 * fz k i + 16 * k + 100
end Go.Proofs.YtoejojfjiikogaaDoor
/- Plain laws of polygons. -/
namespace Go.Proofs.YtoejojfjiikogaaDoor
open Go.RowKit
set_option linter.unusedVariables false
set_option linter.unusedSimpArgs false

/-! ### moved points -/
/-! ### the least box -/
/-! ### the polygons that gantmake makes -/
def nxV (xs : List Int) (m : Nat) : Nat := match xs with | [] => 0 | x :: _ => belowN x m
theorem nxV_lt (xs : List Int) {m : Nat} (h : 0 < m) : nxV xs m < m := by
  cases xs with
  | nil => exact h
  | cons x xs => exact belowN_lt x h
def q4 (z : Int) : Rat := mkRat z 4
end Go.Proofs.YtoejojfjiikogaaDoor
/- gantmake: Stream, at, poly, Poly (printed by lawvec.py). -/
namespace Go.Proofs.YtoejojfjiikogaaDoor
open Go.RowKit
set_option linter.unusedVariables false
set_option linter.unusedSimpArgs false

theorem run_load_at {P : Program} {w : World} {t : TypeId} {p : Addr} {v : Value} (hc : w.cell? p = some v) (ht : cellOf P t = true) (h1 : v.oneCell' = true) : (loadVar t p).run P w = .ok v w := by
  unfold cellOf at ht
  cases hu : P.underlying t with
  | none => simp [hu] at ht
  | some d =>
    have hagg : (isAgg t).run P w = .ok false w := by
      unfold isAgg
      rw [Sem.run_bind, run_underlying hu w]
      rw [hu] at ht
      cases d <;> simp_all
    have hadd : p.add 0 = p := by simp [Addr.add]
    have hr : (load p).run P w = .ok v w := by
      have h := run_loadCells_list (P := P) w p [v] (fun j u hj => by
        have hj0 : j = 0 := by have := (List.getElem?_eq_some_iff.1 hj).1; simp at this; omega
        subst hj0
        rw [hadd, hc]; simpa using hj)
      simp only [loadCells, loadCellsFrom, List.length_cons, List.length_nil, Nat.zero_add, hadd, Sem.run_bind] at h
      cases hq : (load p).run P w with
      | ok u w' =>
        rw [hq] at h
        simp at h
        rw [h.1, h.2]
      | halt x w' => rw [hq] at h; simp at h
    unfold loadVar
    rw [Sem.run_bind, hagg]
    exact hr
section
variable {P : Program} {ops : Array Oper} {W : World} {l : List Own} {Q : Exit → Act → World → Prop} {gs : List Nat} {k : Nat} {o : Oper} {rest : List Oper} {a : Act} {R : Reg}
/-- a cell below the start -/
theorem Seq.loadOut {t : TypeId} {x : Operand} {p : Addr} {v : Value} (ho : o.op = .load t x) (hk : kd gs k o = .val) (hw : wants ops o a = true) (hx : a.eval x = .pointer (some p))
    (hp : p.block < W.heap.size) (hv : W.cell? p = some v) (ht : cellOf P t = true) (h1 : v.oneCell' = true)
    (h : Seq P ops Q W l gs (k + 1) rest (a.put o.dst v) R) : Seq P ops Q W l gs k (o :: rest) a R :=
  Seq.look hk hw (fun w hs => by
    unfold execOp
    simp only [ho, hx, Instr.loadAt, Instr.sureAddr, Sem.run_bind, Sem.run_pure, Result.andThen_ok, run_load_at ((hs.below.cell hp).trans hv) ht h1]) h
end
/-- the slice behind its first element -/
def slT (A : Option Addr) (n c : Nat) : Value := .slice (if c = 1 then A else A.map (·.add 1)) (n - 1) (c - 1)
def slN (A : Option Addr) (n c : Nat) : Value := if n = 0 then .slice A n c else slT A n c
def slA (A : Option Addr) (n c : Nat) : Option Addr := if n = 0 then A else if c = 1 then A else A.map (·.add 1)
def slL (n : Nat) : Nat := if n = 0 then 0 else n - 1
def slC (n c : Nat) : Nat := if n = 0 then c else c - 1
theorem slN_eq (A : Option Addr) (n c : Nat) : slN A n c = .slice (slA A n c) (slL n) (slC n c) := by
  unfold slN slT slA slL slC
  split
  · rename_i h; subst h; rfl
  · rfl
def intsOf (xs : List Int) : List Value := xs.map fun x => .int .i64 x
/-- numbers that came in as a slice -/
def Ints (W : World) (A : Option Addr) (n c : Nat) (xs : List Int) : Prop := Reads W W.heap.size 1 A n (intsOf xs) ∧ n ≤ c ∧ ∀ x ∈ xs, -9223372036854775808 ≤ x ∧ x ≤ 9223372036854775807
theorem Ints.len {W : World} {A : Option Addr} {n c : Nat} {xs : List Int} (h : Ints W A n c xs) : xs.length = n := by
  have := h.1.1; simpa [intsOf] using this
theorem Ints.tail {W : World} {A : Option Addr} {n c : Nat} {xs : List Int} (h : Ints W A n c xs) : Ints W (slA A n c) (slL n) (slC n c) xs.tail := by
  have hl := h.len
  obtain ⟨h1, h2, h3⟩ := h
  unfold slA slL slC
  by_cases h0 : n = 0
  · subst h0
    rw [if_pos rfl, if_pos rfl, if_pos rfl]
    have : xs = [] := List.eq_nil_of_length_eq_zero hl
    subst this
    exact ⟨h1, by omega, h3⟩
  · rw [if_neg h0, if_neg h0, if_neg h0]
    have hc := h1.cut (k := 1) (cap := c) (by omega) h2
    rw [Nat.one_mul] at hc
    refine ⟨?_, by omega, fun x hx => h3 x (List.mem_of_mem_tail hx)⟩
    have e : (intsOf xs).drop 1 = intsOf xs.tail := by unfold intsOf; cases xs <;> rfl
    rw [e] at hc
    exact hc
theorem Ints.head {W : World} {A : Option Addr} {n c : Nat} {x : Int} {xs : List Int} (h : Ints W A n c (x :: xs)) : ∃ ad, A = some ad ∧ ad.block < W.heap.size ∧ W.cell? (ad.add 0) = some (.int .i64 x) ∧ 0 < n := by
  have hl := h.len
  have h0 : 0 < n := by rw [← hl]; simp
  obtain ⟨ad, u, h1, h2, h3, h4⟩ := h.1.at_ h0
  refine ⟨ad, h1, h2, ?_, h0⟩
  have : u = .int .i64 x := by simpa [intsOf] using h3.symm
  rw [h4, this]
set_option maxHeartbeats 2000000 in
set_option maxRecDepth 20000 in
theorem next_0 {W : World} {l : List Own} {g n c m : Nat} {A : Option Addr} (hn : n = 0) (w : World) (h : St W ((g, 94, #[.slice A n c]) :: l) w) :
    Calls Tryd.prog 51 #[.pointer (some ⟨g, 0, none⟩), .int .i64 (m : Int)] w fun e w' => e = .returned (.int .i64 0) ∧ St W ((g, 94, #[.slice A n c]) :: l) w' := by
  have HN := Lib.hid hn; clear hn
  have HX := Lib.hid trivial
  have HS := h; clear h
  go_enter Tryd.func51, Tryd.ntmps51
  go_upto_region 0 with (fail)
  refine wp_seq_text [] (StR.no HS) ?_
  refine Seq.pure rfl rfl (by intro w; go_simp; try first | with_reducible rfl | rfl) ?_
  simp only [Act.put, List.setIfInBounds_toArray, List.set_cons_zero, List.set_cons_succ]
  refine Seq.done fun ws1 hws => ?_
  have HS1 := hws.st
  clear HS hws
  go_upto_region 1 with (fail)
  refine wp_seq_text [] (StR.no HS1) ?_
  refine Seq.pure rfl rfl (by intro w; go_simp; try first | with_reducible rfl | rfl) ?_
  simp only [Act.put, List.setIfInBounds_toArray, List.set_cons_zero, List.set_cons_succ]
  refine Seq.pure rfl rfl (by intro w; go_simp; try first | with_reducible rfl | rfl) ?_
  simp only [Act.put, List.setIfInBounds_toArray, List.set_cons_zero, List.set_cons_succ]
  refine Seq.pure rfl rfl (by intro w; go_simp; try first | with_reducible rfl | rfl) ?_
  simp only [Act.put, List.setIfInBounds_toArray, List.set_cons_zero, List.set_cons_succ]
  refine Seq.loadCell rfl rfl rfl rfl (by repeat (first | exact mC | apply mT)) (v := .slice A n c) rfl (by kernel_rfl) rfl ?_
  simp only [Act.put, List.setIfInBounds_toArray, List.set_cons_zero, List.set_cons_succ]
  refine Seq.pure (v := .int .i64 (n : Int)) rfl rfl (by intro w; go_simp <;> (first | (rw [HX.out]; done) | exact HX.out | (simp [HX.out]; done) | (trace_state; done))) ?_
  simp only [Act.put, List.setIfInBounds_toArray, List.set_cons_zero, List.set_cons_succ]
  refine Seq.pure (v := .bool true) rfl rfl (by intro w; go_simp <;> (first | (rw [HN.out]; done) | exact HN.out | (simp [HN.out]; done) | (trace_state; done))) ?_
  simp only [Act.put, List.setIfInBounds_toArray, List.set_cons_zero, List.set_cons_succ]
  refine Seq.pure rfl rfl (by intro w; go_simp; try first | with_reducible rfl | rfl) ?_
  simp only [Act.put, List.setIfInBounds_toArray, List.set_cons_zero, List.set_cons_succ]
  refine Seq.nw rfl ?_
  simp only [Act.put, List.setIfInBounds_toArray, List.set_cons_zero, List.set_cons_succ]
  refine Seq.nw rfl ?_
  simp only [Act.put, List.setIfInBounds_toArray, List.set_cons_zero, List.set_cons_succ]
  refine Seq.pure rfl rfl (by intro w; go_simp; try first | with_reducible rfl | rfl) ?_
  simp only [Act.put, List.setIfInBounds_toArray, List.set_cons_zero, List.set_cons_succ]
  refine Seq.done fun ws2 hws => ?_
  have HS2 := hws.st
  clear HS1 hws
  go_upto_region 2 with (fail)
  refine wp_seq_text [] (StR.no HS2) ?_
  refine Seq.pure rfl rfl (by intro w; go_simp; try first | with_reducible rfl | rfl) ?_
  simp only [Act.put, List.setIfInBounds_toArray, List.set_cons_zero, List.set_cons_succ]
  refine Seq.done fun ws3 hws => ?_
  have HS3 := hws.st
  clear HS2 hws
  go_wp2_with fail
  go_ret
  exact ⟨rfl, HS3⟩
set_option maxHeartbeats 2000000 in
set_option maxRecDepth 20000 in
theorem next_1 {W : World} {l : List Own} {g n c m : Nat} {ad : Addr} {x : Int} (hn : 0 < n) (hb : ad.block < W.heap.size) (hx : W.cell? (ad.add 0) = some (.int .i64 x)) (hr : -9223372036854775808 ≤ x ∧ x ≤ 9223372036854775807) (hm : 0 < m ∧ m ≤ 1048576) (hnc : n ≤ c)
    (w : World) (h : St W ((g, 94, #[.slice (some ad) n c]) :: l) w) :
    Calls Tryd.prog 51 #[.pointer (some ⟨g, 0, none⟩), .int .i64 (m : Int)] w fun e w' => e = .returned (.int .i64 ((belowN x m : Nat) : Int)) ∧ St W ((g, 94, #[slT (some ad) n c]) :: l) w' := by
  have HN := Lib.hid (show ¬ n = 0 by omega)
  have HN0 := Lib.hid (And.intro (show 1 ≤ n from hn) hnc)
  have HNI := Lib.hid (show ¬ (n : Int) < 1 by omega)
  have HX := Lib.hid trivial
  have HM := Lib.hid (show (1 : Int) ≤ (m : Int) by omega)
  have HM2 := Lib.hid hm
  have HA := Lib.hid (And.intro hb hx)
  have HXR := Lib.hid hr
  clear hn hb hx hr hm hnc
  have HS := h; clear h
  go_enter Tryd.func51, Tryd.ntmps51
  go_upto_region 0 with (fail)
  refine wp_seq_text [] (StR.no HS) ?_
  refine Seq.pure rfl rfl (by intro w; go_simp; try first | with_reducible rfl | rfl) ?_
  simp only [Act.put, List.setIfInBounds_toArray, List.set_cons_zero, List.set_cons_succ]
  refine Seq.done fun ws1 hws => ?_
  have HS1 := hws.st
  clear HS hws
  go_upto_region 1 with (fail)
  refine wp_seq_text [] (StR.no HS1) ?_
  refine Seq.pure rfl rfl (by intro w; go_simp; try first | with_reducible rfl | rfl) ?_
  simp only [Act.put, List.setIfInBounds_toArray, List.set_cons_zero, List.set_cons_succ]
  refine Seq.pure rfl rfl (by intro w; go_simp; try first | with_reducible rfl | rfl) ?_
  simp only [Act.put, List.setIfInBounds_toArray, List.set_cons_zero, List.set_cons_succ]
  refine Seq.pure rfl rfl (by intro w; go_simp; try first | with_reducible rfl | rfl) ?_
  simp only [Act.put, List.setIfInBounds_toArray, List.set_cons_zero, List.set_cons_succ]
  refine Seq.loadCell rfl rfl rfl rfl (by repeat (first | exact mC | apply mT)) (v := .slice (some ad) n c) rfl (by kernel_rfl) rfl ?_
  simp only [Act.put, List.setIfInBounds_toArray, List.set_cons_zero, List.set_cons_succ]
  refine Seq.pure (v := .int .i64 (n : Int)) rfl rfl (by intro w; go_simp <;> (first | (rw [HX.out]; done) | exact HX.out | (simp [HX.out]; done) | (trace_state; done))) ?_
  simp only [Act.put, List.setIfInBounds_toArray, List.set_cons_zero, List.set_cons_succ]
  refine Seq.pure (v := .bool false) rfl rfl (by intro w; go_simp <;> (first | (rw [HN.out]; done) | exact HN.out | (simp [HN.out]; done) | (trace_state; done))) ?_
  simp only [Act.put, List.setIfInBounds_toArray, List.set_cons_zero, List.set_cons_succ]
  refine Seq.pure rfl rfl (by intro w; go_simp; try first | with_reducible rfl | rfl) ?_
  simp only [Act.put, List.setIfInBounds_toArray, List.set_cons_zero, List.set_cons_succ]
  refine Seq.pure rfl rfl (by intro w; go_simp; try first | with_reducible rfl | rfl) ?_
  simp only [Act.put, List.setIfInBounds_toArray, List.set_cons_zero, List.set_cons_succ]
  refine Seq.pure (v := .bool false) rfl rfl (by intro w; go_simp <;> (first | (rw [HM.out]; done) | exact HM.out | (simp [HM.out]; done) | (trace_state; done))) ?_
  simp only [Act.put, List.setIfInBounds_toArray, List.set_cons_zero, List.set_cons_succ]
  refine Seq.pure rfl rfl (by intro w; go_simp; try first | with_reducible rfl | rfl) ?_
  simp only [Act.put, List.setIfInBounds_toArray, List.set_cons_zero, List.set_cons_succ]
  refine Seq.done fun ws2 hws => ?_
  have HS2 := hws.st
  clear HS1 hws
  go_upto_region 3 with (fail)
  refine wp_seq_text [] (StR.no HS2) ?_
  refine Seq.pure rfl rfl (by intro w; go_simp; try first | with_reducible rfl | rfl) ?_
  simp only [Act.put, List.setIfInBounds_toArray, List.set_cons_zero, List.set_cons_succ]
  refine Seq.pure rfl rfl (by intro w; go_simp; try first | with_reducible rfl | rfl) ?_
  simp only [Act.put, List.setIfInBounds_toArray, List.set_cons_zero, List.set_cons_succ]
  refine Seq.pure rfl rfl (by intro w; go_simp; try first | with_reducible rfl | rfl) ?_
  simp only [Act.put, List.setIfInBounds_toArray, List.set_cons_zero, List.set_cons_succ]
  refine Seq.loadCell rfl rfl rfl rfl (by repeat (first | exact mC | apply mT)) (v := .slice (some ad) n c) rfl (by kernel_rfl) rfl ?_
  simp only [Act.put, List.setIfInBounds_toArray, List.set_cons_zero, List.set_cons_succ]
  refine Seq.pure (v := .pointer (some (ad.add 0))) rfl rfl (by intro w; go_simp <;> (first | rfl | (intro h0; exact absurd h0 HN.out) | simp [HN0.out] | (trace_state; done))) ?_
  simp only [Act.put, List.setIfInBounds_toArray, List.set_cons_zero, List.set_cons_succ]
  refine Seq.loadOut rfl rfl rfl rfl (by rw [block_of_add]; exact HA.out.1) HA.out.2 (by kernel_rfl) rfl ?_
  simp only [Act.put, List.setIfInBounds_toArray, List.set_cons_zero, List.set_cons_succ]
  refine Seq.pure rfl rfl (by intro w; go_simp; try first | with_reducible rfl | rfl) ?_
  simp only [Act.put, List.setIfInBounds_toArray, List.set_cons_zero, List.set_cons_succ]
  refine Seq.done fun ws3 hws => ?_
  have HS3 := hws.st
  clear HS2 hws
  go_upto_region 4 with (fail)
  refine wp_seq_text [3000000, 8] (StR.move (StR.no HS3)) ?_
  refine Seq.pure rfl rfl (by intro w; go_simp; try first | with_reducible rfl | rfl) ?_
  simp only [Act.put, List.setIfInBounds_toArray, List.set_cons_zero, List.set_cons_succ]
  refine Seq.pure rfl rfl (by intro w; go_simp; try first | with_reducible rfl | rfl) ?_
  simp only [Act.put, List.setIfInBounds_toArray, List.set_cons_zero, List.set_cons_succ]
  refine Seq.pure rfl rfl (by intro w; go_simp; try first | with_reducible rfl | rfl) ?_
  simp only [Act.put, List.setIfInBounds_toArray, List.set_cons_zero, List.set_cons_succ]
  refine Seq.pure rfl rfl (by intro w; go_simp; try first | with_reducible rfl | rfl) ?_
  simp only [Act.put, List.setIfInBounds_toArray, List.set_cons_zero, List.set_cons_succ]
  refine Seq.getCell rfl rfl rfl rfl (by first | exact rS | exact rN (by assumption) (rS) | exact rN (by assumption) (rN (by assumption) (rS)) | exact rN (by assumption) (rN (by assumption) (rN (by assumption) (rS))) | exact rN (by assumption) (rN (by assumption) (rN (by assumption) (rN (by assumption) (rS))))) (v := .slice (some ad) n c) rfl (by kernel_rfl) rfl ?_
  simp only [Act.put, List.setIfInBounds_toArray, List.set_cons_zero, List.set_cons_succ]
  refine Seq.pure (v := slT (some ad) n c) rfl rfl (by intro w; unfold slT; go_simp <;> (first | rfl | (intro h0; exact absurd h0 HNI.out) | simp [HN0.out] | (trace_state; done))) ?_
  simp only [Act.put, List.setIfInBounds_toArray, List.set_cons_zero, List.set_cons_succ]
  refine Seq.pure rfl rfl (by intro w; go_simp; try first | with_reducible rfl | rfl) ?_
  simp only [Act.put, List.setIfInBounds_toArray, List.set_cons_zero, List.set_cons_succ]
  refine Seq.pure rfl rfl (by intro w; go_simp; try first | with_reducible rfl | rfl) ?_
  simp only [Act.put, List.setIfInBounds_toArray, List.set_cons_zero, List.set_cons_succ]
  refine Seq.storeAt (v := slT (some ad) n c) rfl rfl rfl rfl rfl (by first | exact rS | exact rN (by assumption) (rS) | exact rN (by assumption) (rN (by assumption) (rS)) | exact rN (by assumption) (rN (by assumption) (rN (by assumption) (rS))) | exact rN (by assumption) (rN (by assumption) (rN (by assumption) (rN (by assumption) (rS))))) (by simp [slT, Value.cells]) (by kernel_rfl) (by intro u hu; simp [slT, Value.cells] at hu; subst hu; rfl) (cs' := #[slT (some ad) n c]) (by simp [slT, Value.cells]) ?_
  simp only [Act.put, List.setIfInBounds_toArray, List.set_cons_zero, List.set_cons_succ]
  refine Seq.done fun ws4 hws => ?_
  have HS4 : St W ((g, 94, #[slT (some ad) n c]) :: l) ws4 := hws.list1 (by first | exact rS | exact rN (by assumption) (rS) | exact rN (by assumption) (rN (by assumption) (rS)) | exact rN (by assumption) (rN (by assumption) (rN (by assumption) (rS))) | exact rN (by assumption) (rN (by assumption) (rN (by assumption) (rN (by assumption) (rS)))))
  clear HS3 hws
  go_upto_region 5 with (fail)
  refine wp_seq_text [] (StR.no HS4) ?_
  refine Seq.pure rfl rfl (by intro w; go_simp; try first | with_reducible rfl | rfl) ?_
  simp only [Act.put, List.setIfInBounds_toArray, List.set_cons_zero, List.set_cons_succ]
  refine Seq.pure rfl rfl (by intro w; go_simp; try first | with_reducible rfl | rfl) ?_
  simp only [Act.put, List.setIfInBounds_toArray, List.set_cons_zero, List.set_cons_succ]
  refine Seq.call rfl rfl rfl rfl (by kernel_rfl) (below_q (n := m) HXR.out.1 HXR.out.2 HM2.out.1 HM2.out.2) ?_
  simp only [Act.put, List.setIfInBounds_toArray, List.set_cons_zero, List.set_cons_succ]
  refine Seq.pure rfl rfl (by intro w; go_simp; try first | with_reducible rfl | rfl) ?_
  simp only [Act.put, List.setIfInBounds_toArray, List.set_cons_zero, List.set_cons_succ]
  refine Seq.done fun ws5 hws => ?_
  have HS5 := hws.st
  clear HS4 hws
  go_wp2_with fail
  go_ret
  exact ⟨rfl, HS5⟩
theorem next_S {W : World} {l : List Own} {g n c m : Nat} {A : Option Addr} {xs : List Int} (hi : Ints W A n c xs) (hm : 0 < m ∧ m ≤ 1048576) (w : World) (h : St W ((g, 94, #[.slice A n c]) :: l) w) :
    Calls Tryd.prog 51 #[.pointer (some ⟨g, 0, none⟩), .int .i64 (m : Int)] w fun e w' => e = .returned (.int .i64 ((nxV xs m : Nat) : Int)) ∧ St W ((g, 94, #[.slice (slA A n c) (slL n) (slC n c)]) :: l) w' := by
  cases xs with
  | nil =>
    have h0 : n = 0 := by rw [← hi.len]; rfl
    subst h0
    exact next_0 rfl w h
  | cons x xs =>
    obtain ⟨ad, rfl, h1, h2, h3⟩ := hi.head
    have := next_1 h3 h1 h2 (hi.2.2 x List.mem_cons_self) hm hi.2.1 w h
    rw [show slT (some ad) n c = .slice (slA (some ad) n c) (slL n) (slC n c) by rw [← slN_eq]; unfold slN; rw [if_neg (by omega)]] at this
    exact this
theorem StR.only {W : World} {l : List Own} {p : Nat} {x : TypeId × Array Value} {w : World} (h : StR W l (Reg.no.put p x) w) : St W ((p, x) :: l) w := (h.take rS).st
end Go.Proofs.YtoejojfjiikogaaDoor
