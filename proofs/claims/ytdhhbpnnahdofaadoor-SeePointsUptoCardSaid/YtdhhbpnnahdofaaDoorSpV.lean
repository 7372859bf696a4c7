/- Slices of points that came in. -/
import Derived.Test.YtdhhbpnnahdofaaDoorSeO
import Derived.Test.YtdhhbpnnahdofaaDoorSp9
import Derived.Test.YtdhhbpnnahdofaaDoorBulkE

namespace Go.Proofs.YtdhhbpnnahdofaaDoor
open Go.RowKit Go.ChangeShapes Go.WideShapes Go.Deep
set_option linter.unusedVariables false
set_option linter.unusedSimpArgs false

/-- a slice of points that came in: vx, vy are the numbers that its elements stand for -/
def VIn (W : World) (A : Option Addr) (n c k : Nat) (vx vy : Nat → Rat) : Prop := ∀ i, i < n → ∃ g f a b ga gb,
  (∀ w, (Instr.indexAt 69 (.slice A n c) (.int .i64 (i : Int))).run Tryd.prog w = .ok (.pointer (some ⟨g, f, none⟩)) w) ∧
  (∀ w, Below W.heap.size W w → (loadVar 38 ⟨g, f, none⟩).run Tryd.prog w = .ok (.agg (SW a b)) w) ∧ RawT k (vx i) ga a ∧ RawT k (vy i) gb b
theorem VIn.next {W w : World} {l : List Own} {A : Option Addr} {n c k : Nat} {vx vy : Nat → Rat} (h : VIn W A n c k vx vy) (hs : St W l w) : VIn w A n c k vx vy := fun i hi => by
  obtain ⟨g, f, a, b, ga, gb, h1, h2, h3, h4⟩ := h i hi
  exact ⟨g, f, a, b, ga, gb, h1, fun w' hb => h2 w' (hs.next hb).below, h3, h4⟩
set_option maxRecDepth 20000 in
theorem open_vecs {H : Type} {enc : TypeId × Value → H} {W : World} {base b0 : Nat} {held : Bool} {v : Value} {d : DataW H} {p : List MemPlace} {r : Reach}
    (h : DataW.Trod enc Tryd.prog W base (fun _ => true) held 69 v d p) (o : Value.okWide Tryd.prog W r b0 69 v) (hB : Rows.uptoBulk d ≤ 1048576) :
    ∃ A n c vx vy, v = .slice A n c ∧ n ≤ c ∧ n ≤ 1048576 ∧ VIn W A n c 1048576 vx vy := by
  obtain ⟨A, len, cap, rfl⟩ := okWide_slice Tryd.underlying69 o
  obtain ⟨fuel, hf⟩ := h
  obtain ⟨A', len', cap', ys, hcs, hlc, hm, hyl, hcb, hyb, hi⟩ := open_elems_b (C := 6) Tryd.underlying69 (by kernel_rfl) (by omega) hf
  simp [Value.cells] at hcs
  obtain ⟨rfl, rfl, rfl⟩ := hcs
  dsimp only at hcb hyb
  have key : ∀ i, ∃ xy : Rat × Rat, i < len → ∃ g f a b ga gb,
      (∀ w, (Instr.indexAt 69 (.slice A len cap) (.int .i64 (i : Int))).run Tryd.prog w = .ok (.pointer (some ⟨g, f, none⟩)) w) ∧
      (∀ w, Below W.heap.size W w → (loadVar 38 ⟨g, f, none⟩).run Tryd.prog w = .ok (.agg (SW a b)) w) ∧ RawT 1048576 xy.1 ga a ∧ RawT 1048576 xy.2 gb b := by
    intro i
    by_cases hlt : i < len
    · have hyi : ys[i]? = some (ys[i]'(by omega)) := List.getElem?_eq_getElem (by omega)
      obtain ⟨b, off, cs', n', pl, hA, hb, hlen, hc, ht⟩ := hi i _ hyi
      obtain ⟨ta, tb, rfl, sa, sb⟩ := open_vec ht
      have hbi : Rows.uptoBulk (ys[i]'(by omega)) ≤ 1048576 := by
        have := bulkO_mem (ds := ys) (d := ys[i]'(by omega)) (List.getElem_mem _)
        omega
      obtain ⟨x, gx, hx⟩ := RawT.any ta 1048576 (by decide) (Nat.le_trans sa.1 hbi) (Nat.le_trans sa.2 hbi)
      obtain ⟨y, gy, hy⟩ := RawT.any tb 1048576 (by decide) (Nat.le_trans sb.1 hbi) (Nat.le_trans sb.2 hbi)
      subst hA
      refine ⟨(x, y), fun _ => ⟨b, off + i * 6, ta, tb, gx, gy, run_index' (by kernel_rfl) hlt, fun w hw => ?_, hx, hy⟩⟩
      refine run_load_cells (n := 6) (fun j u hu => ?_) rfl (by kernel_rfl)
      rw [(bcell hw).1 b _ hb, Nat.add_assoc]
      exact hc j u (by rw [Array.getElem?_toList]; exact hu)
    · exact ⟨(0, 0), fun h => absurd h hlt⟩
  obtain ⟨f, hf'⟩ := Classical.skolem.1 key
  exact ⟨A, len, cap, fun i => (f i).1, fun i => (f i).2, rfl, hlc, by omega, hf'⟩
end Go.Proofs.YtdhhbpnnahdofaaDoor
