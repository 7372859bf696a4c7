/- Joined texts. -/
import Derived.Test.YtiejgkmjaphbcaaDoorPo3
import Derived.Test.YtiejgkmjaphbcaaDoorSp4
import Derived.Deep.LoopGhost

/- gantmake.Poly, frame.List (printed by lawvec.py). -/
namespace Go.Proofs.YtiejgkmjaphbcaaDoor
open Go.RowKit
set_option linter.unusedVariables false
set_option linter.unusedSimpArgs false

section
variable {P : Program} {ops : Array Oper} {W : World} {l : List Own} {Q : Exit → Act → World → Prop} {gs : List Nat} {k : Nat} {o : Oper} {rest : List Oper} {a : Act} {R : Reg}
/-- a call whose result is known only afterwards -/
theorem Seq.callE {f : FuncId} {xs : List Operand} {ts : Array TypeId} {vs : Array Value} (ho : o.op = .call { callee := .value (.func f), args := xs.toArray, argTypes := ts }) (hg : gs.contains 3000000 = true) (hw : wants ops o a = true)
    (hx : xs.map a.eval = vs.toList) (hf : goesIn P f = true)
    (hc : ∀ w, StR W l R w → Calls P f vs w (fun e w' => ∃ v R', e = .returned v ∧ StR W l R' w' ∧ Seq P ops Q W l gs (k + 1) rest (a.put o.dst v) R')) : Seq P ops Q W l gs k (o :: rest) a R := by
  refine Seq.gen hg hw fun w hs => ?_
  have hr : (execOp a.eval o).run P w = .ok (.enter f vs) w := by
    unfold goesIn at hf
    cases hp : P.funcs[f]? with
    | none => simp [hp] at hf
    | some fn =>
      simp only [hp, Bool.and_eq_true, bne_iff_ne, ne_eq] at hf
      have hb : fn.body.isNone = false := by cases hq : fn.body <;> simp_all
      have hv : (xs.map a.eval).toArray = vs := by rw [hx]
      simp [execOp, ho, resolve, invoke, callFunc, Deferred.ofValue, Act.eval, hp, hf.1, hb, hv, go_sem]
      intro hq; rw [hq] at hb; cases hb
  unfold Oper.wp
  rw [hr]
  simp only [Oper.upon]
  refine Calls.mono (hc w hs) fun e w' he => ?_
  obtain ⟨v, R', rfl, h2, h3⟩ := he
  exact ⟨R', h2, h3⟩
end
theorem Ints.next {W w : World} {A : Option Addr} {n c : Nat} {xs : List Int} (h : Ints W A n c xs) (hb : Below W.heap.size W w) : Ints w A n c xs := ⟨(h.1.below hb).more hb.size, h.2⟩
def z6 : List Value := [.bool false, .string ⟨#[]⟩, .string ⟨#[]⟩, .bool false, .string ⟨#[]⟩, .string ⟨#[]⟩]
theorem flat_take {α : Type} {ls : List (List α)} (h : ∀ x ∈ ls, x.length = 6) (i : Nat) : ls.flatten.take (6 * i) = (ls.take i).flatten := by
  induction i generalizing ls with
  | zero => simp
  | succ i ih =>
    cases ls with
    | nil => simp
    | cons x ls =>
      have hx := h x List.mem_cons_self
      rw [List.flatten_cons, List.take_append, hx, show 6 * (i + 1) - 6 = 6 * i by omega, ih (fun y hy => h y (List.mem_cons_of_mem _ hy)), List.take_of_length_le (by omega), List.take_succ_cons, List.flatten_cons]
theorem flat_drop {α : Type} {ls : List (List α)} (h : ∀ x ∈ ls, x.length = 6) (i : Nat) : ls.flatten.drop (6 * i) = (ls.drop i).flatten := by
  induction i generalizing ls with
  | zero => simp
  | succ i ih =>
    cases ls with
    | nil => simp
    | cons x ls =>
      have hx := h x List.mem_cons_self
      rw [List.flatten_cons, List.drop_append, hx, show 6 * (i + 1) - 6 = 6 * i by omega, ih (fun y hy => h y (List.mem_cons_of_mem _ hy)), List.drop_of_length_le (by omega), List.nil_append, List.drop_succ_cons]
/-- the first i points stand, the others are still zero -/
def MxL (qs : Pts) (i n : Nat) : List (List Value) := (List.range n).map fun j => if j < i then (VC (px qs j) (py qs j)).toList else z6
def Mx (qs : Pts) (i n : Nat) : Array Value := (MxL qs i n).flatten.toArray
theorem MxL_6 (qs : Pts) (i n : Nat) : ∀ x ∈ MxL qs i n, x.length = 6 := by
  intro x hx
  obtain ⟨j, -, rfl⟩ := List.mem_map.1 hx
  split <;> rfl
theorem Mx_size (qs : Pts) (i n : Nat) : (Mx qs i n).size = 6 * n := by
  show (MxL qs i n).flatten.length = _
  have h : ∀ ls : List (List Value), (∀ x ∈ ls, x.length = 6) → ls.flatten.length = 6 * ls.length := by
    intro ls
    induction ls with
    | nil => intro _; rfl
    | cons x ls ih =>
      intro h
      rw [List.flatten_cons, List.length_append, ih (fun y hy => h y (List.mem_cons_of_mem _ hy)), h x List.mem_cons_self, List.length_cons]; omega
  rw [h _ (MxL_6 _ _ _)]
  simp [MxL]
theorem MxL_set (qs : Pts) {i n : Nat} (h : i < n) : (MxL qs i n).take i ++ ((VC (px qs i) (py qs i)).toList :: (MxL qs i n).drop (i + 1)) = MxL qs (i + 1) n := by
  apply List.ext_getElem
  · simp [MxL]; omega
  · intro j h1 h2
    have hj : j < n := by simpa [MxL] using h2
    rw [List.getElem_append]
    split
    · rename_i h3
      have hji : j < i := by simp [MxL] at h3; omega
      simp [MxL, hji]; intro; omega
    · rename_i h3
      have hji : i ≤ j := by simp [MxL] at h3; omega
      rcases Nat.lt_or_ge i j with h4 | h4
      · have e : j - ((MxL qs i n).take i).length = (j - i - 1) + 1 := by simp [MxL]; omega
        simp only [e, List.getElem_cons_succ]
        simp [MxL, show i + 1 + (j - i - 1) = j by omega, show ¬ j < i by omega, show ¬ j < i + 1 by omega]
      · have e : i = j := by omega
        subst e
        have e2 : i - ((MxL qs i n).take i).length = 0 := by simp [MxL]; omega
        simp only [e2, List.getElem_cons_zero]
        simp [MxL]
theorem Mx_put (qs : Pts) {i n : Nat} (h : i < n) : ((Mx qs i n).toList.take (6 * i) ++ (Value.agg (VC (px qs i) (py qs i))).cells.toList ++ (Mx qs i n).toList.drop (6 * i + (Value.agg (VC (px qs i) (py qs i))).cells.size)).toArray = Mx qs (i + 1) n := by
  have hs : (Value.agg (VC (px qs i) (py qs i))).cells.size = 6 := rfl
  have hc : (Value.agg (VC (px qs i) (py qs i))).cells.toList = (VC (px qs i) (py qs i)).toList := rfl
  rw [hs, hc, show 6 * i + 6 = 6 * (i + 1) by omega]
  show (List.take (6 * i) (MxL qs i n).flatten ++ _ ++ List.drop (6 * (i + 1)) (MxL qs i n).flatten).toArray = _
  rw [flat_take (MxL_6 _ _ _), flat_drop (MxL_6 _ _ _)]
  unfold Mx
  rw [← MxL_set qs h, List.flatten_append, List.flatten_cons, List.append_assoc]
theorem Mx_all {qs : Pts} {n : Nat} (h : qs.length = n) : Mx qs n n = PC qs := by
  subst h
  unfold Mx PC MxL
  congr 1
  rw [List.flatMap_def]
  congr 1
  apply List.ext_getElem
  · simp
  · intro j h1 h2
    have hj : j < qs.length := by simpa using h2
    have := getD_pt hj
    simp [hj, this]
theorem made6 (n : Nat) : madeCells z6.toArray (n * 6) = (List.replicate n z6).flatten.toArray := by
  apply Array.toList_inj.1
  unfold madeCells
  rw [Array.toList_map]
  show List.map _ (Array.range (n * 6)).toList = _
  rw [Array.toList_range]
  induction n with
  | zero => rfl
  | succ n ih =>
    rw [show (n + 1) * 6 = n * 6 + 6 by omega, List.range_add, List.map_append, ih, List.replicate_succ', List.flatten_append]
    congr 1
    have e : ∀ j, (n * 6 + j) % z6.toArray.size = j % 6 := fun j => by
      show (n * 6 + j) % 6 = _
      omega
    simp only [List.map_map, Function.comp_def, e]
    rfl
theorem Mx_zero (qs : Pts) (n : Nat) : Mx qs 0 n = madeCells z6.toArray (n * 6) := by
  rw [made6]
  unfold Mx MxL
  congr 2
  apply List.ext_getElem
  · simp
  · intro j h1 h2; simp
theorem infoVec : (Tryd.prog.info? 68).map (fun i => (i.zero, i.size, i.bytes)) = some (some (.agg z6.toArray), 6, 80) := by kernel_rfl
theorem mvP_z {k : Nat} {a1 a2 aw : Rat} {ha : Bool} {ps : Pts} (Za1 : Rz k a1) (Za2 : Rz k a2) (Zaw : Rz k aw) (hz : Pz k ps) : Pz (74 * k + 83) (mvP (cosT ha aw) (sinT aw) a1 a2 ps) := by
  intro p hp
  obtain ⟨⟨x, y⟩, hq, rfl⟩ := List.mem_map.1 hp
  obtain ⟨Zx, Zy⟩ := hz _ hq
  refine ⟨?_, ?_⟩
  · show Rz _ (a1 + (x * cosT ha aw - y * sinT aw))
    exact (Za1.add ((Zx.mul (Rz.cosT ha Zaw)).sub (Zy.mul (Rz.sinT Zaw)))).more (by omega)
  · show Rz _ (a2 + (x * sinT aw + y * cosT ha aw))
    exact (Za2.add ((Zx.mul (Rz.sinT Zaw)).add (Zy.mul (Rz.cosT ha Zaw)))).more (by omega)
end Go.Proofs.YtiejgkmjaphbcaaDoor
