/- Sets of the call's own: maps whose values are all true; the laws at the operations. -/
import Derived.Test.YtnaiflokmihmeaaMapN
import Derived.Maps.OwnSet
namespace Go.Proofs.Ytnaiflokmihmeaa
open Go.RowKit
set_option linter.unusedVariables false
set_option linter.unusedSectionVars false
set_option linter.unusedSimpArgs false

abbrev enB (b : Bool) : Value := .bool b
/-- block b is a map whose keys are l, each with true -/
def SetN {α : Type} (enc : α → Value) (w : World) (b : Nat) (l : List α) : Prop := MapN enc enB w b (l.map fun x => (x, true))
/-- block r is an iterator over the map in block b, to which the keys `left` are still to come -/
def SIter {α : Type} (enc : α → Value) (w : World) (r b : Nat) (left : List α) : Prop := IterN enc enB w r b (left.map fun x => (x, true))
section
variable {α : Type} [DecidableEq α]
def sput (l : List α) (a : α) : List α := if a ∈ l then l else l ++ [a]
theorem sput_mem {l : List α} {a x : α} : x ∈ sput l a ↔ x ∈ l ∨ x = a := by
  unfold sput
  split
  · rename_i h
    exact ⟨fun hx => .inl hx, fun hx => by rcases hx with hx | rfl; exact hx; exact h⟩
  · simp
theorem sput_nodup {l : List α} {a : α} (h : l.Nodup) : (sput l a).Nodup := by
  unfold sput
  split
  · exact h
  · rename_i hn
    rw [List.nodup_append]
    refine ⟨h, by simp, fun x hx y hy => ?_⟩
    simp at hy; subst hy
    exact fun e => hn (e ▸ hx)
theorem sput_len (l : List α) (a : α) : (sput l a).length ≤ l.length + 1 := by
  unfold sput
  split <;> simp
theorem aget_set (l : List α) (a : α) : aget (l.map fun x => (x, true)) a = if a ∈ l then some true else none := by
  induction l with
  | nil => rfl
  | cons x r ih =>
    simp only [List.map_cons, aget, ih, List.mem_cons]
    by_cases h : a = x
    · simp [h]
    · simp [h]
theorem aput_set (l : List α) (a : α) : aput (l.map fun x => (x, true)) a true = (sput l a).map fun x => (x, true) := by
  induction l with
  | nil => rfl
  | cons x r ih =>
    simp only [List.map_cons, aput]
    by_cases h : a = x
    · simp [h, sput]
    · rw [if_neg h, ih]
      unfold sput
      by_cases h2 : a ∈ r
      · rw [if_pos h2, if_pos (by simp [h2])]; rfl
      · rw [if_neg h2, if_neg (by simp [h, h2])]; rfl
theorem adel_set (l : List α) (a : α) : adel (l.map fun x => (x, true)) a = (l.erase a).map fun x => (x, true) := by
  induction l with
  | nil => rfl
  | cons x r ih =>
    simp only [List.map_cons, adel]
    by_cases h : a = x
    · subst h; rw [if_pos rfl, List.erase_cons_head]
    · rw [if_neg h, ih, List.erase_cons_tail (by simpa using fun e => h e.symm)]; rfl
section
variable {enc : α → Value} {w w' : World} {b r : Nat} {l left : List α}
theorem SetN.lt (h : SetN enc w b l) : b < w.heap.size := MapN.lt h
theorem SetN.next (h : SetN enc w b l) (hb : Below w.heap.size w w') : SetN enc w' b l := MapN.next h hb
theorem SetN.drewN (h : SetN enc w b l) (n : Nat) : SetN enc (w.drewN n) b l := h
theorem SetN.drew (h : SetN enc w b l) : SetN enc w.drew b l := h
theorem SetN.alloc (h : SetN enc w b l) (o : Obj) : SetN enc (w.alloc o) b l := MapN.alloc h o
theorem SetN.grown {row : Option Nat} (h : SetN enc w b l) (hg : w.grownBy w' row) (hne : some b ≠ row) : SetN enc w' b l := MapN.grown h hg hne
theorem SetN.setCell (h : SetN enc w b l) {p : Addr} (hp : b ≠ p.block) (u : Value) : SetN enc (w.setCell p u) b l := MapN.setCell h hp u
theorem SetN.made (w : World) : SetN enc (w.alloc (.map #[] 0)) w.heap.size [] := MapN.made w
theorem SIter.lt (h : SIter enc w r b left) : r < w.heap.size ∧ b < w.heap.size := IterN.lt h
theorem SIter.next (h : SIter enc w r b left) (hb : Below w.heap.size w w') : SIter enc w' r b left := IterN.next h hb
theorem SIter.grown {row : Option Nat} (h : SIter enc w r b left) (hg : w.grownBy w' row) (h1 : some r ≠ row) (h2 : some b ≠ row) : SIter enc w' r b left := IterN.grown h hg h1 h2
theorem SIter.drewN (h : SIter enc w r b left) (n : Nat) : SIter enc (w.drewN n) r b left := h
theorem SIter.setCell (h : SIter enc w r b left) {p : Addr} (hp : r ≠ p.block) (hq : b ≠ p.block) (u : Value) : SIter enc (w.setCell p u) r b left := IterN.setCell h hp hq u
variable {P : Program} {kt e t : TypeId}
theorem SetN.lookup (h : SetN enc w b l) (K : KLaw P kt enc) (ht : P.underlying t = some (.map kt e)) (hz : (zeroValue e).run P w = .ok (.bool false) w) (a : α) {v : Bool} (hv : decide (a ∈ l) = v) :
    (Instr.lookup t (.map (some b)) (enc a) false).run P w = .ok (.bool v) w := by
  subst hv
  have hg := aget_set l a
  have := MapN.lookup h K ht hz a false (v := .bool (decide (a ∈ l))) (o := (aget (l.map fun x => (x, true)) a).isSome) (by
    rw [hg]
    by_cases hm : a ∈ l <;> simp [hm]) rfl
  simpa using this
end
end

section
variable {α : Type} [DecidableEq α] {enc : α → Value} {P : Program} (w : World) {ops : Array Oper} {rest : List Oper} {o : Oper} {a : Act} {Q : Exit → Act → World → Prop}
/-- m[k] = true -/
theorem wpList_set_put (hg : o.guard = none) (m x v : Operand) (t : TypeId) (hop : o.op = Op.mapUpdate t m x v) {kt e : TypeId} (K : KLaw P kt enc) (ht : P.underlying t = some (.map kt e)) {b : Nat} {l : List α} (h : SetN enc w b l) (k : α)
    (hm : a.eval m = .map (some b)) (hx : a.eval x = enc k) (hv : a.eval v = .bool true)
    (hK : ∀ w', SetN enc w' b (sput l k) → w.grownBy w' (some b) → w'.heap.size = w.heap.size → wpList P ops Q rest (a.put o.dst undef) w') : wpList P ops Q (o :: rest) a w := by
  refine wpList_plain hg fun K' hK' => ?_
  obtain ⟨w', hrun, r1, r2, r3⟩ := MapN.update (en := enB) h K ht k true
  rw [aput_set] at r1
  unfold Oper.wp
  simp [execOp, hop, hm, hx, hv, hrun, Result.andThen]
  exact hK' _ _ (hK w' r1 r2 r3)
/-- delete(m, k) -/
theorem wpList_set_del (hg : o.guard = none) (m x : Operand) (t kt : TypeId) (hop : o.op = Op.call { callee := Callee.builtin Builtin.delete, args := #[m, x], argTypes := #[t, kt] }) {e : TypeId} (K : KLaw P kt enc) (ht : P.underlying t = some (.map kt e)) {b : Nat} {l : List α} (h : SetN enc w b l) (k : α)
    (hm : a.eval m = .map (some b)) (hx : a.eval x = enc k)
    (hK : ∀ w', SetN enc w' b (l.erase k) → w.grownBy w' (some b) → w'.heap.size = w.heap.size → wpList P ops Q rest (a.put o.dst (.tuple #[])) w') : wpList P ops Q (o :: rest) a w := by
  refine wpList_plain hg fun K' hK' => ?_
  obtain ⟨w', hrun, r1, r2, r3⟩ := MapN.delete (en := enB) h K ht k o.type
  rw [adel_set] at r1
  unfold Oper.wp
  simp [execOp, hop, resolve, invoke, builtin, hm, hx, hrun, Result.andThen]
  exact hK' _ _ (hK w' r1 r2 r3)
/-- m[k] -/
theorem wpList_set_get (hg : o.guard = none) (m x : Operand) (t : TypeId) (hop : o.op = Op.lookup t m x false) {kt e : TypeId} (K : KLaw P kt enc) (ht : P.underlying t = some (.map kt e)) (hz : (zeroValue e).run P w = .ok (.bool false) w) {b : Nat} {l : List α} (h : SetN enc w b l) (k : α) {v : Bool} (hv : decide (k ∈ l) = v)
    (hm : a.eval m = .map (some b)) (hx : a.eval x = enc k) (hK : wpList P ops Q rest (a.put o.dst (.bool v)) w) : wpList P ops Q (o :: rest) a w := by
  refine wpList_plain hg fun K' hK' => ?_
  have hrun := h.lookup K ht hz k hv
  unfold Oper.wp
  simp [execOp, hop, hm, hx, hrun, Result.andThen]
  exact hK' _ _ hK
/-- len(m) -/
theorem wpList_set_len (hg : o.guard = none) (m : Operand) (t : TypeId) (hop : o.op = Op.call { callee := Callee.builtin Builtin.len, args := #[m], argTypes := #[t] }) {kt e : TypeId} (ht : P.underlying t = some (.map kt e)) {b : Nat} {l : List α} (h : SetN enc w b l)
    (hm : a.eval m = .map (some b)) (hK : wpList P ops Q rest (a.put o.dst (.int .i64 l.length)) w) : wpList P ops Q (o :: rest) a w := by
  refine wpList_plain hg fun K' hK' => ?_
  have hrun := MapN.len (en := enB) h ht o.type
  rw [List.length_map] at hrun
  unfold Oper.wp
  simp [execOp, hop, resolve, invoke, builtin, hm, hrun, Result.andThen]
  exact hK' _ _ hK
/-- range m -/
theorem wpList_set_range (hg : o.guard = none) (m : Operand) (t : TypeId) (hop : o.op = Op.range t m) {kt e : TypeId} (ht : P.underlying t = some (.map kt e)) {b : Nat} {l : List α} (h : SetN enc w b l) (hm : a.eval m = .map (some b))
    (hK : ∀ w', SIter enc w' w.heap.size b l → Below w.heap.size w w' → w'.heap.size = w.heap.size + 1 → wpList P ops Q rest (a.put o.dst (.pointer (some ⟨w.heap.size, 0, none⟩))) w') : wpList P ops Q (o :: rest) a w := by
  refine wpList_plain hg fun K' hK' => ?_
  obtain ⟨w', hrun, r1, r2, r3⟩ := MapN.range (P := P) (en := enB) h ht
  unfold Oper.wp
  simp [execOp, hop, hm, hrun, Result.andThen]
  exact hK' _ _ (hK w' r1 r2 r3)
/-- the step of a loop over a map -/
theorem wpList_set_next (hg : o.guard = none) (it : Operand) (hop : o.op = Op.next it false) {r b : Nat} {left : List α} (h : SIter enc w r b left) (hit : a.eval it = .pointer (some ⟨r, 0, none⟩))
    (hDone : left = [] → wpList P ops Q rest (a.put o.dst (.tuple #[.bool false])) w)
    (hMore : ∀ (k : α) (left' : List α) (w' : World), left.Perm (k :: left') → SIter enc w' r b left' → w.grownBy w' (some r) → w'.heap.size = w.heap.size →
      (Instr.entry (.pointer (some ⟨r, 0, none⟩))).run P w' = .ok (.tuple #[enc k, .bool true]) w' → wpList P ops Q rest (a.put o.dst (.tuple #[.bool true, enc k, .bool true])) w') : wpList P ops Q (o :: rest) a w := by
  refine wpList_plain hg fun K' hK' => ?_
  unfold Oper.wp
  rcases IterN.step (P := P) (en := enB) h o.type with ⟨h0, hrun⟩ | ⟨p, left', w', hp, hrun, hit', hen, hgr, hsz⟩
  · simp [execOp, hop, hit, hrun, Result.andThen]
    exact hK' _ _ (hDone (by simpa using h0))
  · obtain ⟨x, ys, hx, hl', hpm⟩ : ∃ x ys, p = (x, true) ∧ left' = ys.map (fun x => (x, true)) ∧ left.Perm (x :: ys) := by
      have h1 : ∀ q ∈ p :: left', q = (q.1, true) := fun q hq => by
        obtain ⟨x, _, hx⟩ := List.mem_map.1 (hp.mem_iff.2 hq)
        rw [← hx]
      refine ⟨p.1, left'.map (·.1), h1 p (by simp), ?_, ?_⟩
      · rw [List.map_map]
        have h2 : left'.map ((fun x => (x, true)) ∘ fun x : α × Bool => x.1) = left'.map id := List.map_congr_left (fun q hq => (h1 q (List.mem_cons_of_mem _ hq)).symm)
        rw [h2, List.map_id]
      · have := hp.map (·.1)
        simpa [List.map_map, Function.comp_def] using this
    subst hx hl'
    simp [execOp, hop, hit, hrun, Result.andThen]
    exact hK' _ _ (hMore x ys w' hpm hit' hgr hsz hen)
end
end Go.Proofs.Ytnaiflokmihmeaa
