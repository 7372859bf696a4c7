/- Steps over slices of structs that came in (printed by tyf.py). -/
import Derived.Test.YtekbpiooecdopaaDoorTyO

namespace Go.Proofs.YtekbpiooecdopaaDoor
open Go.RowKit
set_option linter.unusedVariables false
set_option linter.unusedSimpArgs false

section
variable {P : Program}
theorem run_load_cellsT {w : World} {t : TypeId} {g f n : Nat} {cs : Array Value} (hc : ∀ j u, cs[j]? = some u → w.cell? ⟨g, f + j, none⟩ = some u) (hn : cs.size = n) (ht : aggOf P t n = true) : (loadVar t ⟨g, f, none⟩).run P w = .ok (.agg cs) w := by
  unfold aggOf at ht
  simp only [Bool.and_eq_true, beq_iff_eq] at ht
  have hl : (loadCells ⟨g, f, none⟩ n).run P w = .ok cs w := by
    have h := run_loadCells_list (P := P) w ⟨g, f, none⟩ cs.toList (fun j v hv => by
      have hadd : (⟨g, f, none⟩ : Addr).add j = ⟨g, f + j, none⟩ := by unfold Addr.add; split <;> simp_all
      rw [hadd]
      exact hc j v (by rw [Array.getElem?_toList] at hv; exact hv))
    have hln : cs.toList.length = n := by rw [Array.length_toList]; exact hn
    rw [hln, Array.toArray_toList] at h
    exact h
  cases hu : P.underlying t with
  | none => simp [hu] at ht
  | some d =>
    cases hq : P.info? t with
    | none => simp [hq] at ht
    | some i =>
      have hs : i.size = n := by have := ht.2; rw [hq] at this; simpa using this
      have hagg : (isAgg t).run P w = .ok true w := by
        unfold isAgg
        rw [Sem.run_bind, run_underlying hu w]
        have h := ht.1
        rw [hu] at h
        cases d <;> simp_all
      simp [loadVar, Sem.run_bind, hagg, sizeOf, typeInfo, hq, hs, hl]
def sliceOfT (P : Program) (t : TypeId) (m : Nat) : Bool := match P.underlying t with | some (.slice e) => (P.info? e).map (·.size) == some m | _ => false
theorem run_indexT {t : TypeId} {m g f n c : Nat} {i : Nat} (ht : sliceOfT P t m = true) (hi : i < n) (w : World) :
    (Instr.indexAt t (.slice (some ⟨g, f, none⟩) n c) (.int .i64 (i : Int))).run P w = .ok (.pointer (some ⟨g, f + i * m, none⟩)) w := by
  unfold sliceOfT at ht
  cases hu : P.underlying t with
  | none => simp [hu] at ht
  | some d =>
    rw [hu] at ht
    cases d with
    | slice e =>
      simp only [beq_iff_eq] at ht
      cases hq : P.info? e with
      | none => simp [hq] at ht
      | some inf =>
        have hs : inf.size = m := by rw [hq] at ht; simpa using ht
        have h0 : (0 : Int) ≤ (i : Int) ∧ (i : Int) < (n : Int) := by omega
        simp [Instr.indexAt, run_underlying hu, asIntOf, sizeOf, typeInfo, hq, hs, hi, Addr.add_lit]
    | _ => simp at ht
variable {ops : Array Oper} {W : World} {l : List Own} {Q : Exit → Act → World → Prop} {gs : List Nat} {k : Nat} {o : Oper} {rest : List Oper} {a : Act} {R : Reg}
theorem Seq.indexT {t : TypeId} {x y : Operand} {X Y : Value} {v : Value} (ho : o.op = .indexAddr t x y) (hk : kd gs k o = .val) (hw : wants ops o a = true) (hx : a.eval x = X) (hy : a.eval y = Y)
    (hr : ∀ w, (Instr.indexAt t X Y).run P w = .ok v w) (h : Seq P ops Q W l gs (k + 1) rest (a.put o.dst v) R) : Seq P ops Q W l gs k (o :: rest) a R :=
  Seq.pure hk hw (fun w => by
    unfold execOp
    simp only [ho, hx, hy, Sem.run_bind, hr w, Result.andThen_ok, Sem.run_pure]) h
theorem Seq.loadT {t : TypeId} {x : Operand} {g f : Nat} {v : Value} (ho : o.op = .load t x) (hk : kd gs k o = .val) (hw : wants ops o a = true) (hx : a.eval x = .pointer (some ⟨g, f, none⟩))
    (hr : ∀ w, Below W.heap.size W w → (loadVar t ⟨g, f, none⟩).run P w = .ok v w)
    (h : Seq P ops Q W l gs (k + 1) rest (a.put o.dst v) R) : Seq P ops Q W l gs k (o :: rest) a R :=
  Seq.look hk hw (fun w hs => by
    unfold execOp
    simp only [ho, hx, Instr.loadAt, Instr.sureAddr, Sem.run_bind, Sem.run_pure, Result.andThen_ok, hr w hs.below]) h
end
theorem eqS_comm (x y : ByteArray) : eqS x y = eqS y x := by
  unfold eqS
  rw [Bool.eq_iff_iff, beq_iff_eq, beq_iff_eq]
  exact eq_comm
theorem ld_sin {W w : World} {g f C i : Nat} {F : List Value} {t : TypeId} (hg : g < W.heap.size) (hF : F.length = C) (hc : ∀ j u, F[j]? = some u → W.cell? ⟨g, f + (i * C + j), none⟩ = some u) (hb : Below W.heap.size W w) (ht : aggOf Tryd.prog t C = true) : (loadVar t ⟨g, f + i * C, none⟩).run Tryd.prog w = .ok (.agg F.toArray) w :=
  run_load_cellsT (fun j u hu => by
    rw [Nat.add_assoc, (bcell hb).1 g _ hg]
    exact hc j u (by simpa using hu)) (by simpa using hF) ht
end Go.Proofs.YtekbpiooecdopaaDoor
