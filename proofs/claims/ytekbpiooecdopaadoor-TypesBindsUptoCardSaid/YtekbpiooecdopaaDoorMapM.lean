/- Maps of the call's own, as lists of pairs. -/
import Derived.Test.YtekbpiooecdopaaDoorBunLib
import Derived.Maps.Keyed

namespace Go.Proofs.YtekbpiooecdopaaDoor
open Go.RowKit
set_option linter.unusedVariables false

section
variable {α β : Type}
/-- block b is a map that holds the pairs l -/
def MapOf (enc : α → Value) (en : β → Value) (w : World) (b : Nat) (l : List (α × β)) : Prop :=
  ∃ es clock, w.heap[b]? = some (.map es clock) ∧ es.toList.map (fun e => (e.key, e.val)) = l.map (fun p => (enc p.1, en p.2))
section
variable {enc : α → Value} {en : β → Value} {w w' : World} {b : Nat} {l : List (α × β)}
theorem MapOf.lt (h : MapOf enc en w b l) : b < w.heap.size := by
  obtain ⟨es, clock, hb, _⟩ := h
  exact (Array.getElem?_eq_some_iff.1 hb).1
theorem MapOf.block (h : MapOf enc en w b l) (hb : w'.heap[b]? = w.heap[b]?) : MapOf enc en w' b l := by
  obtain ⟨es, clock, h1, h2⟩ := h
  exact ⟨es, clock, hb.trans h1, h2⟩
theorem MapOf.next (h : MapOf enc en w b l) (hb : Below w.heap.size w w') : MapOf enc en w' b l := h.block (hb.block b h.lt)
theorem MapOf.drew (h : MapOf enc en w b l) : MapOf enc en w.drew b l := h
theorem MapOf.drewN (h : MapOf enc en w b l) (n : Nat) : MapOf enc en (w.drewN n) b l := h
theorem MapOf.alloc (h : MapOf enc en w b l) (o : Obj) : MapOf enc en (w.alloc o) b l := h.next ((Below.refl _ _).alloc (Nat.le_refl _) _)
theorem MapOf.grown {row : Option Nat} (h : MapOf enc en w b l) (hg : w.grownBy w' row) (hne : some b ≠ row) : MapOf enc en w' b l := h.block (hg.block b h.lt hne)
theorem MapOf.setCell (h : MapOf enc en w b l) {p : Addr} (hp : b ≠ p.block) (u : Value) : MapOf enc en (w.setCell p u) b l := h.block (Below.heap_setCell w p u b hp)
theorem MapOf.made (w : World) : MapOf enc en (w.alloc (.map #[] 0)) w.heap.size ([] : List (α × β)) := ⟨#[], 0, (MapKept.heap_alloc w _).1, rfl⟩
end
end
section
variable {α β : Type} [DecidableEq α]
/-- the pair at a key is set -/
def aput : List (α × β) → α → β → List (α × β)
  | [], a, v => [(a, v)]
  | p :: r, a, v => if a = p.1 then (p.1, v) :: r else p :: aput r a v
def aget : List (α × β) → α → Option β
  | [], _ => none
  | p :: r, a => if a = p.1 then some p.2 else aget r a
/-- where a key stands -/
def afind : List (α × β) → α → Nat → Option Nat
  | [], _, _ => none
  | p :: r, a, i => if a = p.1 then some i else afind r a (i + 1)
theorem afind_none {l : List (α × β)} {a : α} : ∀ {i : Nat}, afind l a i = none → aget l a = none := by
  induction l with
  | nil => intro i _; rfl
  | cons p r ih =>
    intro i h
    unfold afind at h
    split at h
    · cases h
    · rename_i h1; simp only [aget, if_neg h1]; exact ih h
theorem afind_some {l : List (α × β)} {a : α} : ∀ {i j : Nat}, afind l a i = some j → ∃ k v, j = i + k ∧ l[k]? = some (a, v) ∧ aget l a = some v ∧ ∀ u, aput l a u = l.set k (a, u) := by
  induction l with
  | nil => intro i j h; cases h
  | cons p r ih =>
    intro i j h
    unfold afind at h
    split at h
    · rename_i h1
      injection h with h
      refine ⟨0, p.2, by omega, by simp [h1], by simp [aget, h1], fun u => by simp [aput, h1]⟩
    · rename_i h1
      obtain ⟨k, v, e1, e2, e3, e4⟩ := ih h
      refine ⟨k + 1, v, by omega, by simpa using e2, by simp only [aget, if_neg h1]; exact e3, fun u => by simp only [aput, if_neg h1, List.set_cons_succ]; rw [e4 u]⟩
theorem aput_new {l : List (α × β)} {a : α} (h : aget l a = none) (u : β) : aput l a u = l ++ [(a, u)] := by
  induction l with
  | nil => rfl
  | cons p r ih =>
    simp only [aget] at h
    split at h
    · cases h
    · rename_i h1; simp only [aput, if_neg h1, List.cons_append]; rw [ih h]

/-- keys that are found by their sameness -/
structure KLaw (P : Program) (kt : TypeId) (enc : α → Value) : Prop where
  check : ∀ e a w, (Instr.checkKey e 10000 kt (enc a)).run P w = .ok () w
  find : ∀ {β : Type} (en : β → Value) (es : List MapEntry) (l : List (α × β)), es.map (fun e => (e.key, e.val)) = l.map (fun p => (enc p.1, en p.2)) → ∀ a w, (Instr.findKey kt (enc a) es).run P w = .ok ((afind l a 0).map fun i => (i, ((es[i]?).map (·.val)).getD undef)) w
  stay : ∀ a w, (Instr.keyThatStays (enc a) (enc a)).run P w = .ok (enc a) w

section
variable {enc : α → Value} {en : β → Value} {w w' : World} {b : Nat} {l : List (α × β)}
variable {P : Program} {kt e t : TypeId}
theorem MapOf.lookup (h : MapOf enc en w b l) (K : KLaw P kt enc) (ht : P.underlying t = some (.map kt e)) {z : Value} (hz : (zeroValue e).run P w = .ok z w) (a : α) (c : Bool) {v : Value} (hv : ((aget l a).map en).getD z = v) {o : Bool} (ho : (aget l a).isSome = o) :
    (Instr.lookup t (.map (some b)) (enc a) c).run P w = .ok (if c then .tuple #[v, .bool o] else v) w := by
  obtain ⟨es, clock, hb, hl⟩ := h
  have hf := K.find en es.toList l hl a w
  cases hfi : afind l a 0 with
  | none =>
    rw [hfi] at hf
    have h1 := afind_none hfi
    rw [h1] at hv ho
    simp at hv ho
    subst hv ho
    simp [Instr.lookup, run_underlying ht, MapKept.run_getObj_map hb, K.check _ a w, hf, hz, Result.andThen]
  | some i =>
    obtain ⟨k, u, e1, e2, e3, -⟩ := afind_some hfi
    rw [Nat.zero_add] at e1
    subst e1
    rw [hfi] at hf
    rw [e3] at hv ho
    simp at hv ho
    subst hv ho
    have hk : (es.toList.map (fun e => (e.key, e.val)))[i]? = some (enc a, en u) := by rw [hl]; simp [e2]
    have hval : ((es.toList[i]?).map (·.val)).getD undef = en u := by
      rw [List.getElem?_map] at hk
      cases hx : es.toList[i]? with
      | none => rw [hx] at hk; cases hk
      | some x => rw [hx] at hk; simp at hk; simp [hk.2]
    simp only [Option.map_some] at hf
    rw [hval] at hf
    simp [Instr.lookup, run_underlying ht, MapKept.run_getObj_map hb, K.check _ a w, hf, Result.andThen]
theorem MapOf.update (h : MapOf enc en w b l) (K : KLaw P kt enc) (ht : P.underlying t = some (.map kt e)) (a : α) (v : β) :
    ∃ w', (Instr.mapUpdate t (.map (some b)) (enc a) (en v)).run P w = .ok () w' ∧ MapOf enc en w' b (aput l a v) ∧ w.grownBy w' (some b) := by
  obtain ⟨es, clock, hb, hl⟩ := h
  have hf := K.find en es.toList l hl a w
  cases hfi : afind l a 0 with
  | none =>
    rw [hfi] at hf
    have h1 := afind_none hfi
    refine ⟨_, by simp [Instr.mapUpdate, run_underlying ht, MapKept.run_getObj_map hb, K.check false a w, hf, MapKept.run_setObj_map _ hb, Result.andThen]; rfl, ⟨_, _, ChangeMaps.heap_setBlock_same hb _, ?_⟩, ⟨rfl, rfl, rfl, by simp [ChangeMaps.setBlock], fun i _ hi => ChangeMaps.heap_setBlock_other hb _ (fun e => hi (by rw [e]))⟩⟩
    rw [aput_new h1]
    simp [hl]
  | some i =>
    obtain ⟨k, u, e1, e2, e3, e4⟩ := afind_some hfi
    rw [Nat.zero_add] at e1
    subst e1
    rw [hfi] at hf
    have hk : (es.toList.map (fun e => (e.key, e.val)))[i]? = some (enc a, en u) := by rw [hl]; simp [e2]
    obtain ⟨x, hx, hx1⟩ : ∃ x, es.toList[i]? = some x ∧ x.key = enc a := by
      rw [List.getElem?_map] at hk
      cases hx : es.toList[i]? with
      | none => rw [hx] at hk; cases hk
      | some x => rw [hx] at hk; simp at hk; exact ⟨x, rfl, hk.1⟩
    have hx2 : es[i]? = some x := by rw [← Array.getElem?_toList]; exact hx
    refine ⟨_, by simp [Instr.mapUpdate, run_underlying ht, MapKept.run_getObj_map hb, K.check false a w, hf, hx2, hx1, K.stay a w, MapKept.run_setObj_map _ hb, Result.andThen]; rfl, ⟨_, _, ChangeMaps.heap_setBlock_same hb _, ?_⟩, ⟨rfl, rfl, rfl, by simp [ChangeMaps.setBlock], fun i _ hi => ChangeMaps.heap_setBlock_other hb _ (fun e => hi (by rw [e]))⟩⟩
    rw [e4 v, List.map_set, ← hl]
    refine List.ext_getElem? fun j => ?_
    rw [List.getElem?_map, Array.getElem?_toList, List.getElem?_set, List.getElem?_map, Array.getElem?_toList, List.length_map, Array.length_toList]
    by_cases hj : i = j
    · subst hj
      have hlt : i < es.size := (Array.getElem?_eq_some_iff.1 hx2).1
      rw [Array.getElem?_modify, if_pos rfl, hx2, if_pos rfl, if_pos hlt]
      simp
    · rw [if_neg hj, Array.getElem?_modify, if_neg hj]
end
end
/-- integers as keys -/
theorem klaw_int {P : Program} {kt : TypeId} {q : IntKind} (hk : P.underlying kt = some (.int q)) : KLaw P kt (fun x : Int => .int q x) := by
  refine ⟨fun e a w => ?_, fun en es l hl a w => ?_, fun a w => ?_⟩
  · unfold Instr.checkKey
    simp [run_underlying hk, Result.andThen]
  · have key : ∀ (es : List MapEntry) (l : List (Int × _)) (i : Nat) (all : List MapEntry), es.map (fun e => (e.key, e.val)) = l.map (fun p => (Value.int q p.1, en p.2)) → (∀ j, all[i + j]? = es[j]?) →
        Instr.findNow (.int q) (.int q a) es i = some ((afind l a i).map fun i => (i, ((all[i]?).map (·.val)).getD undef)) := by
      intro es
      induction es with
      | nil =>
        intro l i all hl _
        cases l with
        | nil => rfl
        | cons p r => simp at hl
      | cons x es ih =>
        intro l i all hl hall
        cases l with
        | nil => simp at hl
        | cons p r =>
          simp only [List.map_cons, List.cons.injEq, Prod.mk.injEq] at hl
          obtain ⟨⟨h1, h2⟩, h3⟩ := hl
          unfold Instr.findNow
          rw [h1]
          have h0 := hall 0
          simp only [Nat.add_zero, List.getElem?_cons_zero] at h0
          by_cases hap : a = p.1
          · simp [Instr.sameNow, hap, afind, h0]
          · have hne : (a == p.1) = false := by simpa using hap
            simp only [Instr.sameNow, if_true, hne, afind, if_neg hap]
            exact ih r (i + 1) all h3 (fun j => by have := hall (j + 1); rw [show i + 1 + j = i + (j + 1) by omega]; simpa using this)
    unfold Instr.findKey
    rw [Sem.run_bind, run_underlying hk w]
    simp only [Result.andThen_ok]
    rw [key es l 0 es hl (fun j => by rw [Nat.zero_add])]
    rfl
  · simp [Instr.keyThatStays, Instr.sameBits]
end Go.Proofs.YtekbpiooecdopaaDoor
