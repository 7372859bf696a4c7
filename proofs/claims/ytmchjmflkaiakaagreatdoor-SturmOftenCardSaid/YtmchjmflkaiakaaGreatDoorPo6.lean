/- Joined texts: Po4 Po5 Po6. -/
import Derived.Test.YtmchjmflkaiakaaGreatDoorPo3
import Derived.Test.YtmchjmflkaiakaaGreatDoorSp3
import Derived.Deep.LoopGhost
/- gantmake.Poly, frame.List (printed by lawvec.py). -/
namespace Go.Proofs.YtmchjmflkaiakaaGreatDoor
open Go.RowKit
set_option linter.unusedVariables false
set_option linter.unusedSimpArgs false
section
variable {P : Program} {ops : Array Oper} {W : World} {l : List Own} {Q : Exit → Act → World → Prop} {gs : List Nat} {k : Nat} {o : Oper} {rest : List Oper} {a : Act} {R : Reg}
theorem Seq.callE {f : FuncId} {xs : List Operand} {ts : Array TypeId} {vs : Array Value} (ho : o.op = .call { callee := .value (.func f), args := xs.toArray, argTypes := ts }) (hg : gs.contains 3000000 = true) (hw : wants ops o a = true)
  (hx : xs.map a.eval = vs.toList) (hf : goesIn P f = true)
  (hc : ∀ w, StR W l R w → Calls P f vs w (fun e w' => ∃ v R', e = .returned v ∧ StR W l R' w' ∧ Seq P ops Q W l gs (k + 1) rest (a.put o.dst v) R')) : Seq P ops Q W l gs k (o :: rest) a R := by
 refine Seq.gen hg hw fun w hs => ?_
 have hr : (execOp a.eval o).run P w = .ok (.enter f vs) w := by
  unfold goesIn at hf
  cases hp : P.funcs[f]? with
  | none => simp [hp] at hf
  | some fn =>
    simp only [hp, Bool.and_eq_true, bne_iff_ne, ne_eq] at hf
    have hb : fn.body.isNone = false := by cases hq : fn.body <;> simp_all
    have hv : (xs.map a.eval).toArray = vs := by rw [hx]
    simp [execOp, ho, resolve, invoke, callFunc, Deferred.ofValue, Act.eval, hp, hf.1, hb, hv, go_sem]
    intro hq; rw [hq] at hb; cases hb
 unfold Oper.wp
 rw [hr]
 simp only [Oper.upon]
 refine Calls.mono (hc w hs) fun e w' he => ?_
 obtain ⟨v, R', rfl, h2, h3⟩ := he
 exact ⟨R', h2, h3⟩
end
theorem Ints.next {W w : World} {A : Option Addr} {n c : Nat} {xs : List Int} (h : Ints W A n c xs) (hb : Below W.heap.size W w) : Ints w A n c xs := ⟨(h.1.below hb).more hb.size, h.2⟩
def z6 : List Value := [.bool false, .string ⟨#[]⟩, .string ⟨#[]⟩, .bool false, .string ⟨#[]⟩, .string ⟨#[]⟩]
theorem sq_z : Pz 2 [((0 : Rat), (0 : Rat)), ((2 : Rat), (0 : Rat)), ((2 : Rat), (2 : Rat)), ((0 : Rat), (2 : Rat))] := by
 have h2 : Rz 2 (2 : Rat) := Rz.lit (z := 2) rfl (by decide)
 intro p hp
 simp only [List.mem_cons, List.not_mem_nil, or_false] at hp
 rcases hp with rfl | rfl | rfl | rfl
 ·exact ⟨Rz.zero2, Rz.zero2⟩
 ·exact ⟨h2, Rz.zero2⟩
 ·exact ⟨h2, h2⟩
 ·exact ⟨Rz.zero2, h2⟩
section
variable {P : Program} {ops : Array Oper} {W : World} {l : List Own} {Q : Exit → Act → World → Prop} {gs : List Nat} {k : Nat} {o : Oper} {rest : List Oper} {a : Act} {R : Reg}
end
theorem below_G {x : Int} {n j : Nat} {W : World} {l : List Own} (h0 : -9223372036854775808 ≤ x ∧ x ≤ 9223372036854775807) (hn : 0 < n ∧ n ≤ 1048576) (hj : belowN x n = j) (w : World) (h : St W l w) : Rt 18 #[.int .i64 x, .int .i64 (n : Int)] w (.int .i64 (j : Int)) := by
 rw [← hj]; exact below_q h0.1 h0.2 hn.1 hn.2 w h
end Go.Proofs.YtmchjmflkaiakaaGreatDoor
