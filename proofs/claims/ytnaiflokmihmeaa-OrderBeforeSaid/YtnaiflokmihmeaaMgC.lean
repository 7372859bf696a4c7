/- Maps of the call's own, as lists of pairs; ranging over them. -/
/- Sets of the call's own: maps whose values are all true; the laws at the operations. -/
/- The end of a function whose first result lies in a variable of a struct's type. -/
import Derived.Test.YtnaiflokmihmeaaMgA
import Derived.Maps.RangeWalk
import Derived.Maps.OwnOps
import Derived.Maps.OwnSet
namespace Go.Proofs.Ytnaiflokmihmeaa
open Go.RowKit
set_option linter.unusedVariables false
set_option linter.unusedSectionVars false
set_option linter.unusedSimpArgs false

section
variable {α β : Type}
/-- block b is a map that holds the pairs l -/
def MapN (enc : α → Value) (en : β → Value) (w : World) (b : Nat) (l : List (α × β)) : Prop :=
  ∃ es clock, w.heap[b]? = some (.map es clock) ∧ es.toList.map (fun e => (e.key, e.val)) = l.map (fun p => (enc p.1, en p.2)) ∧ (∀ x ∈ es.toList, x.born < clock) ∧ (es.toList.map (·.born)).Nodup
/-- block r is an iterator over the map in block b, to which the pairs `left` are still to come -/
def IterN (enc : α → Value) (en : β → Value) (w : World) (r b : Nat) (left : List (α × β)) : Prop :=
  ∃ es clock since c0 seen, w.heap[r]? = some (.mapIter (some b) since seen c0) ∧ w.heap[b]? = some (.map es clock) ∧ (∀ x ∈ es.toList, x.born < since) ∧ since ≤ c0 ∧ since ≤ clock ∧ (es.toList.map (·.born)).Nodup ∧
    (leftOf es seen).toList.map (fun e => (e.key, e.val)) = left.map (fun p => (enc p.1, en p.2))
section
variable {enc : α → Value} {en : β → Value} {w w' : World} {b r : Nat} {l left : List (α × β)}
theorem MapN.mapOf (h : MapN enc en w b l) : MapOf enc en w b l := by
  obtain ⟨es, clock, h1, h2, _⟩ := h
  exact ⟨es, clock, h1, h2⟩
theorem MapN.lt (h : MapN enc en w b l) : b < w.heap.size := h.mapOf.lt
theorem MapN.block (h : MapN enc en w b l) (hb : w'.heap[b]? = w.heap[b]?) : MapN enc en w' b l := by
  obtain ⟨es, clock, h1, h2⟩ := h
  exact ⟨es, clock, hb.trans h1, h2⟩
theorem MapN.next (h : MapN enc en w b l) (hb : Below w.heap.size w w') : MapN enc en w' b l := h.block (hb.block b h.lt)
theorem MapN.drew (h : MapN enc en w b l) : MapN enc en w.drew b l := h
theorem MapN.drewN (h : MapN enc en w b l) (n : Nat) : MapN enc en (w.drewN n) b l := h
theorem MapN.alloc (h : MapN enc en w b l) (o : Obj) : MapN enc en (w.alloc o) b l := h.next ((Below.refl _ _).alloc (Nat.le_refl _) _)
theorem MapN.grown {row : Option Nat} (h : MapN enc en w b l) (hg : w.grownBy w' row) (hne : some b ≠ row) : MapN enc en w' b l := h.block (hg.block b h.lt hne)
theorem MapN.setCell (h : MapN enc en w b l) {p : Addr} (hp : b ≠ p.block) (u : Value) : MapN enc en (w.setCell p u) b l := h.block (Below.heap_setCell w p u b hp)
theorem MapN.made (w : World) : MapN enc en (w.alloc (.map #[] 0)) w.heap.size ([] : List (α × β)) := ⟨#[], 0, (MapKept.heap_alloc w _).1, rfl, by simp, by simp⟩
theorem IterN.lt (h : IterN enc en w r b left) : r < w.heap.size ∧ b < w.heap.size := by
  obtain ⟨es, clock, since, c0, seen, h1, h2, _⟩ := h
  exact ⟨(Array.getElem?_eq_some_iff.1 h1).1, (Array.getElem?_eq_some_iff.1 h2).1⟩
theorem IterN.block (h : IterN enc en w r b left) (hr : w'.heap[r]? = w.heap[r]?) (hb : w'.heap[b]? = w.heap[b]?) : IterN enc en w' r b left := by
  obtain ⟨es, clock, since, c0, seen, h1, h2, h3⟩ := h
  exact ⟨es, clock, since, c0, seen, hr.trans h1, hb.trans h2, h3⟩
theorem IterN.next (h : IterN enc en w r b left) (hb : Below w.heap.size w w') : IterN enc en w' r b left := h.block (hb.block r h.lt.1) (hb.block b h.lt.2)
theorem IterN.grown {row : Option Nat} (h : IterN enc en w r b left) (hg : w.grownBy w' row) (h1 : some r ≠ row) (h2 : some b ≠ row) : IterN enc en w' r b left := h.block (hg.block r h.lt.1 h1) (hg.block b h.lt.2 h2)
theorem IterN.drewN (h : IterN enc en w r b left) (n : Nat) : IterN enc en (w.drewN n) r b left := h
theorem IterN.setCell (h : IterN enc en w r b left) {p : Addr} (hp : r ≠ p.block) (hq : b ≠ p.block) (u : Value) : IterN enc en (w.setCell p u) r b left := h.block (Below.heap_setCell w p u r hp) (Below.heap_setCell w p u b hq)
end
theorem map_erase {γ δ : Type} (f : γ → δ) : ∀ (l : List γ) (k : Nat), (l.eraseIdx k).map f = (l.map f).eraseIdx k
  | [], _ => rfl
  | x :: l, 0 => rfl
  | x :: l, k + 1 => by simp only [List.eraseIdx_cons_succ, List.map_cons]; rw [map_erase f l k]
theorem filter_born (e : MapEntry) : ∀ (L : List MapEntry) (j : Nat), (L.map (·.born)).Nodup → L[j]? = some e → L.filter (fun x => !(x.born == e.born)) = L.eraseIdx j
  | [], _, _, h => by simp at h
  | x :: L, 0, hn, h => by
    simp at h; subst h
    have hn' := List.nodup_cons.1 hn
    rw [List.filter_cons]
    simp only [beq_self_eq_true, Bool.not_true, Bool.false_eq_true, if_false, List.eraseIdx_cons_zero]
    refine List.filter_eq_self.2 fun y hy => ?_
    simp only [Bool.not_eq_true', beq_eq_false_iff_ne]
    exact fun e => hn'.1 (List.mem_map.2 ⟨y, hy, e⟩)
  | x :: L, j + 1, hn, h => by
    have hn' := List.nodup_cons.1 hn
    simp at h
    rw [List.filter_cons]
    have hx : (x.born == e.born) = false := by
      rw [beq_eq_false_iff_ne]
      exact fun e2 => hn'.1 (List.mem_map.2 ⟨e, List.mem_of_getElem? h, e2.symm⟩)
    simp only [hx, Bool.not_false, if_true, List.eraseIdx_cons_succ]
    rw [filter_born e L j hn'.2 h]
theorem leftOf_push (es : Array MapEntry) (seen : Array Nat) (e : MapEntry) (j : Nat) (hn : (es.toList.map (·.born)).Nodup) (hj : (leftOf es seen).toList[j]? = some e) :
    (leftOf es (seen.push e.born)).toList = (leftOf es seen).toList.eraseIdx j := by
  have hsub : ((leftOf es seen).toList.map (·.born)).Nodup := by
    unfold leftOf
    rw [Array.toList_filter]
    exact hn.sublist (List.filter_sublist.map _)
  rw [← filter_born e _ j hsub hj]
  unfold leftOf
  rw [Array.toList_filter, Array.toList_filter, List.filter_filter]
  refine List.filter_congr fun x _ => ?_
  rw [contains_push]
  cases seen.contains x.born <;> simp
theorem perm_erase {γ : Type} : ∀ (l : List γ) (j : Nat) (x : γ), l[j]? = some x → l.Perm (x :: l.eraseIdx j)
  | [], _, _, h => by simp at h
  | y :: l, 0, x, h => by simp at h; subst h; exact List.Perm.refl _
  | y :: l, j + 1, x, h => by
    simp at h
    rw [List.eraseIdx_cons_succ]
    exact ((perm_erase l j x h).cons y).trans (List.Perm.swap x y _)
end
section
variable {α β : Type} [DecidableEq α]
/-- the pair at a key is struck -/
def adel : List (α × β) → α → List (α × β)
  | [], _ => []
  | p :: r, a => if a = p.1 then r else p :: adel r a
theorem adel_none {l : List (α × β)} {a : α} (h : aget l a = none) : adel l a = l := by
  induction l with
  | nil => rfl
  | cons p r ih =>
    simp only [aget] at h
    split at h
    · cases h
    · rename_i h1; simp only [adel, if_neg h1]; rw [ih h]
theorem adel_find {l : List (α × β)} {a : α} : ∀ {i j : Nat}, afind l a i = some j → ∃ k, j = i + k ∧ k < l.length ∧ adel l a = l.eraseIdx k := by
  induction l with
  | nil => intro i j h; cases h
  | cons p r ih =>
    intro i j h
    unfold afind at h
    split at h
    · rename_i h1
      injection h with h
      exact ⟨0, by omega, by simp, by simp [adel, h1]⟩
    · rename_i h1
      obtain ⟨k, e1, e2, e3⟩ := ih h
      exact ⟨k + 1, by omega, by simpa using e2, by simp only [adel, if_neg h1, List.eraseIdx_cons_succ]; rw [e3]⟩
section
variable {enc : α → Value} {en : β → Value} {w w' : World} {b r : Nat} {l left : List (α × β)}
variable {P : Program} {kt e t : TypeId}
theorem MapN.lookup (h : MapN enc en w b l) (K : KLaw P kt enc) (ht : P.underlying t = some (.map kt e)) {z : Value} (hz : (zeroValue e).run P w = .ok z w) (a : α) (c : Bool) {v : Value} (hv : ((aget l a).map en).getD z = v) {o : Bool} (ho : (aget l a).isSome = o) :
    (Instr.lookup t (.map (some b)) (enc a) c).run P w = .ok (if c then .tuple #[v, .bool o] else v) w := h.mapOf.lookup K ht hz a c hv ho
theorem MapN.len (h : MapN enc en w b l) (ht : P.underlying t = some (.map kt e)) (ty : TypeId) : (Builtin.len_ #[t] ty #[.map (some b)]).run P w = .ok (.int .i64 l.length) w := by
  obtain ⟨es, clock, hb, hl, _⟩ := h
  have : es.size = l.length := by rw [← Array.length_toList]; simpa using congrArg List.length hl
  simp [Builtin.len_, run_underlying ht, MapKept.run_getObj_map hb, this, goInt]
theorem MapN.update (h : MapN enc en w b l) (K : KLaw P kt enc) (ht : P.underlying t = some (.map kt e)) (a : α) (v : β) :
    ∃ w', (Instr.mapUpdate t (.map (some b)) (enc a) (en v)).run P w = .ok () w' ∧ MapN enc en w' b (aput l a v) ∧ w.grownBy w' (some b) ∧ w'.heap.size = w.heap.size := by
  obtain ⟨es, clock, hb, hl, hbo, hnd⟩ := h
  have hf := K.find en es.toList l hl a w
  cases hfi : afind l a 0 with
  | none =>
    rw [hfi] at hf
    have h1 := afind_none hfi
    refine ⟨_, by simp [Instr.mapUpdate, run_underlying ht, MapKept.run_getObj_map hb, K.check false a w, hf, MapKept.run_setObj_map _ hb, Result.andThen]; rfl, ⟨_, _, ChangeMaps.heap_setBlock_same hb _, ?_, ?_, ?_⟩, ⟨rfl, rfl, rfl, by simp [ChangeMaps.setBlock], fun i _ hi => ChangeMaps.heap_setBlock_other hb _ (fun e => hi (by rw [e]))⟩, by simp [ChangeMaps.setBlock]⟩
    · rw [aput_new h1]
      simp [hl]
    · intro x hx
      simp at hx
      rcases hx with hx | rfl
      · have := hbo x (by simpa using hx); omega
      · simp
    · simp only [Array.toList_push, List.map_append, List.map_cons, List.map_nil]
      rw [List.nodup_append]
      refine ⟨hnd, by simp, fun x hx y hy => ?_⟩
      simp at hy; subst hy
      obtain ⟨u, hu, rfl⟩ := List.mem_map.1 hx
      have := hbo u hu
      omega
  | some i =>
    obtain ⟨k, u, e1, e2, e3, e4⟩ := afind_some hfi
    rw [Nat.zero_add] at e1
    subst e1
    rw [hfi] at hf
    have hk : (es.toList.map (fun e => (e.key, e.val)))[i]? = some (enc a, en u) := by rw [hl]; simp [e2]
    obtain ⟨x, hx, hx1⟩ : ∃ x, es.toList[i]? = some x ∧ x.key = enc a := by
      rw [List.getElem?_map] at hk
      cases hx : es.toList[i]? with
      | none => rw [hx] at hk; cases hk
      | some x => rw [hx] at hk; simp at hk; exact ⟨x, rfl, hk.1⟩
    have hx2 : es[i]? = some x := by rw [← Array.getElem?_toList]; exact hx
    have hbn : ∀ (f : MapEntry → MapEntry), (∀ y, (f y).born = y.born) → (es.modify i f).toList.map (·.born) = es.toList.map (·.born) := by
      intro f hfb
      refine List.ext_getElem? fun j => ?_
      rw [List.getElem?_map, List.getElem?_map, Array.getElem?_toList, Array.getElem?_toList, Array.getElem?_modify]
      by_cases hj : i = j
      · subst hj; rw [if_pos rfl, hx2]; simp [hfb]
      · rw [if_neg hj]
    refine ⟨_, by simp [Instr.mapUpdate, run_underlying ht, MapKept.run_getObj_map hb, K.check false a w, hf, hx2, hx1, K.stay a w, MapKept.run_setObj_map _ hb, Result.andThen]; rfl, ⟨_, _, ChangeMaps.heap_setBlock_same hb _, ?_, ?_, ?_⟩, ⟨rfl, rfl, rfl, by simp [ChangeMaps.setBlock], fun i _ hi => ChangeMaps.heap_setBlock_other hb _ (fun e => hi (by rw [e]))⟩, by simp [ChangeMaps.setBlock]⟩
    · rw [e4 v, List.map_set, ← hl]
      refine List.ext_getElem? fun j => ?_
      rw [List.getElem?_map, Array.getElem?_toList, List.getElem?_set, List.getElem?_map, Array.getElem?_toList, List.length_map, Array.length_toList]
      by_cases hj : i = j
      · subst hj
        have hlt : i < es.size := (Array.getElem?_eq_some_iff.1 hx2).1
        rw [Array.getElem?_modify, if_pos rfl, hx2, if_pos rfl, if_pos hlt]
        simp
      · rw [if_neg hj, Array.getElem?_modify, if_neg hj]
    · intro y hy
      have hmem : y.born ∈ es.toList.map (·.born) := by rw [← hbn (fun e => { e with key := enc a, val := en v }) (fun _ => rfl)]; exact List.mem_map.2 ⟨y, hy, rfl⟩
      obtain ⟨z, hz, hzb⟩ := List.mem_map.1 hmem
      have := hbo z hz
      omega
    · rw [hbn (fun e => { e with key := enc a, val := en v }) (fun _ => rfl)]; exact hnd
theorem MapN.delete (h : MapN enc en w b l) (K : KLaw P kt enc) (ht : P.underlying t = some (.map kt e)) (a : α) (ty : TypeId) :
    ∃ w', (Builtin.delete_ #[t, kt] ty #[.map (some b), enc a]).run P w = .ok (.tuple #[]) w' ∧ MapN enc en w' b (adel l a) ∧ w.grownBy w' (some b) ∧ w'.heap.size = w.heap.size := by
  obtain ⟨es, clock, hb, hl, hbo, hnd⟩ := h
  have hf := K.find en es.toList l hl a w
  cases hfi : afind l a 0 with
  | none =>
    rw [hfi] at hf
    have h1 := afind_none hfi
    refine ⟨_, by simp [Builtin.delete_, run_underlying ht, MapKept.run_getObj_map hb, K.check _ a w, hf, MapKept.run_setObj_map _ hb, Result.andThen]; rfl, ⟨_, _, ChangeMaps.heap_setBlock_same hb _, ?_, hbo, hnd⟩, ⟨rfl, rfl, rfl, by simp [ChangeMaps.setBlock], fun i _ hi => ChangeMaps.heap_setBlock_other hb _ (fun e => hi (by rw [e]))⟩, by simp [ChangeMaps.setBlock]⟩
    rw [adel_none h1]; exact hl
  | some i =>
    obtain ⟨k, e1, e2, e3⟩ := adel_find hfi
    rw [Nat.zero_add] at e1
    subst e1
    rw [hfi] at hf
    have hsz : es.size = l.length := by rw [← Array.length_toList]; simpa using congrArg List.length hl
    have het : (es.eraseIdxIfInBounds i).toList = es.toList.eraseIdx i := by
      have hlt : i < es.size := by omega
      simp [Array.eraseIdxIfInBounds, hlt]
    refine ⟨_, by simp [Builtin.delete_, run_underlying ht, MapKept.run_getObj_map hb, K.check _ a w, hf, MapKept.run_setObj_map _ hb, Result.andThen]; rfl, ⟨_, _, ChangeMaps.heap_setBlock_same hb _, ?_, ?_, ?_⟩, ⟨rfl, rfl, rfl, by simp [ChangeMaps.setBlock], fun i _ hi => ChangeMaps.heap_setBlock_other hb _ (fun e => hi (by rw [e]))⟩, by simp [ChangeMaps.setBlock]⟩
    · rw [e3, het, map_erase, map_erase, hl]
    · rw [het]; exact fun x hx => hbo x (List.mem_of_mem_eraseIdx hx)
    · rw [het, map_erase]; exact hnd.sublist (List.eraseIdx_sublist _ _)
theorem MapN.range (h : MapN enc en w b l) (ht : P.underlying t = some (.map kt e)) :
    ∃ w', (Instr.range t (.map (some b))).run P w = .ok (.pointer (some ⟨w.heap.size, 0, none⟩)) w' ∧ IterN enc en w' w.heap.size b l ∧ Below w.heap.size w w' ∧ w'.heap.size = w.heap.size + 1 := by
  have hlt := h.lt
  obtain ⟨es, clock, hb, hl, hbo, hnd⟩ := h
  refine ⟨_, run_range_map w t kt e b es clock ht hb, ⟨es, clock, clock, clock, #[], heap_alloc_new w _, (heap_alloc_old w _ hlt).trans hb, hbo, Nat.le_refl _, Nat.le_refl _, hnd, ?_⟩, (Below.refl _ _).alloc (Nat.le_refl _) _, by simp⟩
  rw [← hl]
  have : leftOf es #[] = es := by unfold leftOf; exact Array.filter_eq_self.2 (fun x _ => by simp)
  rw [this]
theorem IterN.step (h : IterN enc en w r b left) (ty : TypeId) :
    (left = [] ∧ (Instr.next (.pointer (some ⟨r, 0, none⟩)) false ty).run P w = .ok (.tuple #[.bool false]) w) ∨
    ∃ p left' w', left.Perm (p :: left') ∧ (Instr.next (.pointer (some ⟨r, 0, none⟩)) false ty).run P w = .ok (.tuple #[.bool true, enc p.1, en p.2]) w' ∧ IterN enc en w' r b left' ∧
      (Instr.entry (.pointer (some ⟨r, 0, none⟩))).run P w' = .ok (.tuple #[enc p.1, en p.2]) w' ∧ w.grownBy w' (some r) ∧ w'.heap.size = w.heap.size := by
  have hlt := h.lt
  obtain ⟨es, clock, since, c0, seen, hr, hb, hbo, hsc, hcl, hnd, hl⟩ := h
  have hne : b ≠ r := fun e => by subst e; rw [hr] at hb; cases hb
  rcases run_next_at (P := P) w ty r b since c0 seen es clock hr hb hbo hsc with ⟨h0, hrun⟩ | ⟨e, he, w1, hw1, hrun⟩
  · left
    refine ⟨?_, hrun⟩
    have : (leftOf es seen).toList = [] := List.eq_nil_of_length_eq_zero (by simpa using h0)
    rw [this] at hl
    simpa using hl.symm
  · right
    obtain ⟨j, hj⟩ := List.mem_iff_getElem?.1 he
    have hpj : (left.map (fun p => (enc p.1, en p.2)))[j]? = some (e.key, e.val) := by rw [← hl]; simp only [List.getElem?_map, hj, Option.map_some]
    obtain ⟨p, hp, hpe⟩ : ∃ p, left[j]? = some p ∧ (enc p.1, en p.2) = (e.key, e.val) := by
      rw [List.getElem?_map] at hpj
      cases hx : left[j]? with
      | none => rw [hx] at hpj; cases hpj
      | some x => rw [hx] at hpj; exact ⟨x, rfl, Option.some.inj hpj⟩
    have hk : enc p.1 = e.key := congrArg Prod.fst hpe
    have hv : en p.2 = e.val := congrArg Prod.snd hpe
    have hr1 : w1.heap[r]? = some (.mapIter (some b) since seen c0) := by rcases hw1 with rfl | rfl <;> exact hr
    have hb1 : w1.heap[b]? = some (.map es clock) := by rcases hw1 with rfl | rfl <;> exact hb
    have hsz : w1.heap.size = w.heap.size := by rcases hw1 with rfl | rfl <;> rfl
    have hlt1 : r < w1.heap.size := by rw [hsz]; exact hlt.1
    have hsame : (ChangeMaps.setBlock w1 r (.mapIter (some b) since (seen.push e.born) clock)).heap[r]? = some (.mapIter (some b) since (seen.push e.born) clock) := by
      simp [ChangeMaps.setBlock, hlt1]
    have hother : ∀ i, i ≠ r → (ChangeMaps.setBlock w1 r (.mapIter (some b) since (seen.push e.born) clock)).heap[i]? = w1.heap[i]? := by
      intro i hi
      simp [ChangeMaps.setBlock, Array.getElem?_setIfInBounds, Ne.symm hi]
    have hbb := (hother b hne).trans hb1
    have hmem := mem_left he
    refine ⟨p, left.eraseIdx j, _, perm_erase left j p hp, by rw [hk, hv]; exact hrun, ?_, by rw [hk, hv]; exact run_entry_at _ r b since seen es clock e hsame hbb hmem.1 hnd, ⟨?_, ?_, ?_, ?_, ?_⟩, ?_⟩
    · refine ⟨es, clock, since, clock, seen.push e.born, hsame, hbb, hbo, hcl, hcl, hnd, ?_⟩
      rw [leftOf_push es seen e j hnd hj, map_erase, hl, map_erase]
    · rcases hw1 with rfl | rfl <;> rfl
    · rcases hw1 with rfl | rfl <;> rfl
    · rcases hw1 with rfl | rfl <;> rfl
    · rw [show (ChangeMaps.setBlock w1 r (.mapIter (some b) since (seen.push e.born) clock)).heap.size = w1.heap.size by simp [ChangeMaps.setBlock], hsz]; exact Nat.le_refl _
    · intro i hi hir
      rw [hother i (fun e2 => hir (by rw [e2]))]
      rcases hw1 with rfl | rfl <;> rfl
    · rw [show (ChangeMaps.setBlock w1 r (.mapIter (some b) since (seen.push e.born) clock)).heap.size = w1.heap.size by simp [ChangeMaps.setBlock], hsz]
end
end
end Go.Proofs.Ytnaiflokmihmeaa

namespace Go.Proofs.Ytnaiflokmihmeaa
open Go.RowKit
set_option linter.unusedVariables false
set_option linter.unusedSectionVars false
set_option linter.unusedSimpArgs false

abbrev enB (b : Bool) : Value := .bool b
/-- block b is a map whose keys are l, each with true -/
def SetN {α : Type} (enc : α → Value) (w : World) (b : Nat) (l : List α) : Prop := MapN enc enB w b (l.map fun x => (x, true))
/-- block r is an iterator over the map in block b, to which the keys `left` are still to come -/
def SIter {α : Type} (enc : α → Value) (w : World) (r b : Nat) (left : List α) : Prop := IterN enc enB w r b (left.map fun x => (x, true))
section
variable {α : Type} [DecidableEq α]
def sput (l : List α) (a : α) : List α := if a ∈ l then l else l ++ [a]
theorem sput_mem {l : List α} {a x : α} : x ∈ sput l a ↔ x ∈ l ∨ x = a := by
  unfold sput
  split
  · rename_i h
    exact ⟨fun hx => .inl hx, fun hx => by rcases hx with hx | rfl; exact hx; exact h⟩
  · simp
theorem sput_nodup {l : List α} {a : α} (h : l.Nodup) : (sput l a).Nodup := by
  unfold sput
  split
  · exact h
  · rename_i hn
    rw [List.nodup_append]
    refine ⟨h, by simp, fun x hx y hy => ?_⟩
    simp at hy; subst hy
    exact fun e => hn (e ▸ hx)
theorem sput_len (l : List α) (a : α) : (sput l a).length ≤ l.length + 1 := by
  unfold sput
  split <;> simp
theorem aget_set (l : List α) (a : α) : aget (l.map fun x => (x, true)) a = if a ∈ l then some true else none := by
  induction l with
  | nil => rfl
  | cons x r ih =>
    simp only [List.map_cons, aget, ih, List.mem_cons]
    by_cases h : a = x
    · simp [h]
    · simp [h]
theorem aput_set (l : List α) (a : α) : aput (l.map fun x => (x, true)) a true = (sput l a).map fun x => (x, true) := by
  induction l with
  | nil => rfl
  | cons x r ih =>
    simp only [List.map_cons, aput]
    by_cases h : a = x
    · simp [h, sput]
    · rw [if_neg h, ih]
      unfold sput
      by_cases h2 : a ∈ r
      · rw [if_pos h2, if_pos (by simp [h2])]; rfl
      · rw [if_neg h2, if_neg (by simp [h, h2])]; rfl
theorem adel_set (l : List α) (a : α) : adel (l.map fun x => (x, true)) a = (l.erase a).map fun x => (x, true) := by
  induction l with
  | nil => rfl
  | cons x r ih =>
    simp only [List.map_cons, adel]
    by_cases h : a = x
    · subst h; rw [if_pos rfl, List.erase_cons_head]
    · rw [if_neg h, ih, List.erase_cons_tail (by simpa using fun e => h e.symm)]; rfl
section
variable {enc : α → Value} {w w' : World} {b r : Nat} {l left : List α}
theorem SetN.lt (h : SetN enc w b l) : b < w.heap.size := MapN.lt h
theorem SetN.next (h : SetN enc w b l) (hb : Below w.heap.size w w') : SetN enc w' b l := MapN.next h hb
theorem SetN.drewN (h : SetN enc w b l) (n : Nat) : SetN enc (w.drewN n) b l := h
theorem SetN.drew (h : SetN enc w b l) : SetN enc w.drew b l := h
theorem SetN.alloc (h : SetN enc w b l) (o : Obj) : SetN enc (w.alloc o) b l := MapN.alloc h o
theorem SetN.grown {row : Option Nat} (h : SetN enc w b l) (hg : w.grownBy w' row) (hne : some b ≠ row) : SetN enc w' b l := MapN.grown h hg hne
theorem SetN.setCell (h : SetN enc w b l) {p : Addr} (hp : b ≠ p.block) (u : Value) : SetN enc (w.setCell p u) b l := MapN.setCell h hp u
theorem SetN.made (w : World) : SetN enc (w.alloc (.map #[] 0)) w.heap.size [] := MapN.made w
theorem SIter.lt (h : SIter enc w r b left) : r < w.heap.size ∧ b < w.heap.size := IterN.lt h
theorem SIter.next (h : SIter enc w r b left) (hb : Below w.heap.size w w') : SIter enc w' r b left := IterN.next h hb
theorem SIter.grown {row : Option Nat} (h : SIter enc w r b left) (hg : w.grownBy w' row) (h1 : some r ≠ row) (h2 : some b ≠ row) : SIter enc w' r b left := IterN.grown h hg h1 h2
theorem SIter.drewN (h : SIter enc w r b left) (n : Nat) : SIter enc (w.drewN n) r b left := h
theorem SIter.setCell (h : SIter enc w r b left) {p : Addr} (hp : r ≠ p.block) (hq : b ≠ p.block) (u : Value) : SIter enc (w.setCell p u) r b left := IterN.setCell h hp hq u
variable {P : Program} {kt e t : TypeId}
theorem SetN.lookup (h : SetN enc w b l) (K : KLaw P kt enc) (ht : P.underlying t = some (.map kt e)) (hz : (zeroValue e).run P w = .ok (.bool false) w) (a : α) {v : Bool} (hv : decide (a ∈ l) = v) :
    (Instr.lookup t (.map (some b)) (enc a) false).run P w = .ok (.bool v) w := by
  subst hv
  have hg := aget_set l a
  have := MapN.lookup h K ht hz a false (v := .bool (decide (a ∈ l))) (o := (aget (l.map fun x => (x, true)) a).isSome) (by
    rw [hg]
    by_cases hm : a ∈ l <;> simp [hm]) rfl
  simpa using this
end
end

section
variable {α : Type} [DecidableEq α] {enc : α → Value} {P : Program} (w : World) {ops : Array Oper} {rest : List Oper} {o : Oper} {a : Act} {Q : Exit → Act → World → Prop}
/-- m[k] = true -/
theorem wpList_set_put (hg : o.guard = none) (m x v : Operand) (t : TypeId) (hop : o.op = Op.mapUpdate t m x v) {kt e : TypeId} (K : KLaw P kt enc) (ht : P.underlying t = some (.map kt e)) {b : Nat} {l : List α} (h : SetN enc w b l) (k : α)
    (hm : a.eval m = .map (some b)) (hx : a.eval x = enc k) (hv : a.eval v = .bool true)
    (hK : ∀ w', SetN enc w' b (sput l k) → w.grownBy w' (some b) → w'.heap.size = w.heap.size → wpList P ops Q rest (a.put o.dst undef) w') : wpList P ops Q (o :: rest) a w := by
  refine wpList_plain hg fun K' hK' => ?_
  obtain ⟨w', hrun, r1, r2, r3⟩ := MapN.update (en := enB) h K ht k true
  rw [aput_set] at r1
  unfold Oper.wp
  simp [execOp, hop, hm, hx, hv, hrun, Result.andThen]
  exact hK' _ _ (hK w' r1 r2 r3)
/-- delete(m, k) -/
theorem wpList_set_del (hg : o.guard = none) (m x : Operand) (t kt : TypeId) (hop : o.op = Op.call { callee := Callee.builtin Builtin.delete, args := #[m, x], argTypes := #[t, kt] }) {e : TypeId} (K : KLaw P kt enc) (ht : P.underlying t = some (.map kt e)) {b : Nat} {l : List α} (h : SetN enc w b l) (k : α)
    (hm : a.eval m = .map (some b)) (hx : a.eval x = enc k)
    (hK : ∀ w', SetN enc w' b (l.erase k) → w.grownBy w' (some b) → w'.heap.size = w.heap.size → wpList P ops Q rest (a.put o.dst (.tuple #[])) w') : wpList P ops Q (o :: rest) a w := by
  refine wpList_plain hg fun K' hK' => ?_
  obtain ⟨w', hrun, r1, r2, r3⟩ := MapN.delete (en := enB) h K ht k o.type
  rw [adel_set] at r1
  unfold Oper.wp
  simp [execOp, hop, resolve, invoke, builtin, hm, hx, hrun, Result.andThen]
  exact hK' _ _ (hK w' r1 r2 r3)
/-- m[k] -/
theorem wpList_set_get (hg : o.guard = none) (m x : Operand) (t : TypeId) (hop : o.op = Op.lookup t m x false) {kt e : TypeId} (K : KLaw P kt enc) (ht : P.underlying t = some (.map kt e)) (hz : (zeroValue e).run P w = .ok (.bool false) w) {b : Nat} {l : List α} (h : SetN enc w b l) (k : α) {v : Bool} (hv : decide (k ∈ l) = v)
    (hm : a.eval m = .map (some b)) (hx : a.eval x = enc k) (hK : wpList P ops Q rest (a.put o.dst (.bool v)) w) : wpList P ops Q (o :: rest) a w := by
  refine wpList_plain hg fun K' hK' => ?_
  have hrun := h.lookup K ht hz k hv
  unfold Oper.wp
  simp [execOp, hop, hm, hx, hrun, Result.andThen]
  exact hK' _ _ hK
/-- len(m) -/
theorem wpList_set_len (hg : o.guard = none) (m : Operand) (t : TypeId) (hop : o.op = Op.call { callee := Callee.builtin Builtin.len, args := #[m], argTypes := #[t] }) {kt e : TypeId} (ht : P.underlying t = some (.map kt e)) {b : Nat} {l : List α} (h : SetN enc w b l)
    (hm : a.eval m = .map (some b)) (hK : wpList P ops Q rest (a.put o.dst (.int .i64 l.length)) w) : wpList P ops Q (o :: rest) a w := by
  refine wpList_plain hg fun K' hK' => ?_
  have hrun := MapN.len (en := enB) h ht o.type
  rw [List.length_map] at hrun
  unfold Oper.wp
  simp [execOp, hop, resolve, invoke, builtin, hm, hrun, Result.andThen]
  exact hK' _ _ hK
/-- range m -/
theorem wpList_set_range (hg : o.guard = none) (m : Operand) (t : TypeId) (hop : o.op = Op.range t m) {kt e : TypeId} (ht : P.underlying t = some (.map kt e)) {b : Nat} {l : List α} (h : SetN enc w b l) (hm : a.eval m = .map (some b))
    (hK : ∀ w', SIter enc w' w.heap.size b l → Below w.heap.size w w' → w'.heap.size = w.heap.size + 1 → wpList P ops Q rest (a.put o.dst (.pointer (some ⟨w.heap.size, 0, none⟩))) w') : wpList P ops Q (o :: rest) a w := by
  refine wpList_plain hg fun K' hK' => ?_
  obtain ⟨w', hrun, r1, r2, r3⟩ := MapN.range (P := P) (en := enB) h ht
  unfold Oper.wp
  simp [execOp, hop, hm, hrun, Result.andThen]
  exact hK' _ _ (hK w' r1 r2 r3)
/-- the step of a loop over a map -/
theorem wpList_set_next (hg : o.guard = none) (it : Operand) (hop : o.op = Op.next it false) {r b : Nat} {left : List α} (h : SIter enc w r b left) (hit : a.eval it = .pointer (some ⟨r, 0, none⟩))
    (hDone : left = [] → wpList P ops Q rest (a.put o.dst (.tuple #[.bool false])) w)
    (hMore : ∀ (k : α) (left' : List α) (w' : World), left.Perm (k :: left') → SIter enc w' r b left' → w.grownBy w' (some r) → w'.heap.size = w.heap.size →
      (Instr.entry (.pointer (some ⟨r, 0, none⟩))).run P w' = .ok (.tuple #[enc k, .bool true]) w' → wpList P ops Q rest (a.put o.dst (.tuple #[.bool true, enc k, .bool true])) w') : wpList P ops Q (o :: rest) a w := by
  refine wpList_plain hg fun K' hK' => ?_
  unfold Oper.wp
  rcases IterN.step (P := P) (en := enB) h o.type with ⟨h0, hrun⟩ | ⟨p, left', w', hp, hrun, hit', hen, hgr, hsz⟩
  · simp [execOp, hop, hit, hrun, Result.andThen]
    exact hK' _ _ (hDone (by simpa using h0))
  · obtain ⟨x, ys, hx, hl', hpm⟩ : ∃ x ys, p = (x, true) ∧ left' = ys.map (fun x => (x, true)) ∧ left.Perm (x :: ys) := by
      have h1 : ∀ q ∈ p :: left', q = (q.1, true) := fun q hq => by
        obtain ⟨x, _, hx⟩ := List.mem_map.1 (hp.mem_iff.2 hq)
        rw [← hx]
      refine ⟨p.1, left'.map (·.1), h1 p (by simp), ?_, ?_⟩
      · rw [List.map_map]
        have h2 : left'.map ((fun x => (x, true)) ∘ fun x : α × Bool => x.1) = left'.map id := List.map_congr_left (fun q hq => (h1 q (List.mem_cons_of_mem _ hq)).symm)
        rw [h2, List.map_id]
      · have := hp.map (·.1)
        simpa [List.map_map, Function.comp_def] using this
    subst hx hl'
    simp [execOp, hop, hit, hrun, Result.andThen]
    exact hK' _ _ (hMore x ys w' hpm hit' hgr hsz hen)
end
end Go.Proofs.Ytnaiflokmihmeaa

namespace Go.Proofs.Ytnaiflokmihmeaa
open Go.RowKit
set_option linter.unusedVariables false

/-- the type t is a struct or an array of n cells -/
def agB (P : Program) (t : TypeId) (n : Nat) : Bool :=
  (match P.underlying t with | some (.struct _) => true | some (.array _ _) => true | _ => false) && ((P.info? t).map (·.size) == some n)
theorem run_load_blk {P : Program} {w : World} {t T : TypeId} {g n : Nat} {cs : Array Value} (hg : Blk w g T cs) (hn : cs.size = n) (ht : agB P t n = true) : (loadVar t ⟨g, 0, none⟩).run P w = .ok (.agg cs) w := by
  unfold agB at ht
  simp only [Bool.and_eq_true, beq_iff_eq] at ht
  cases hu : P.underlying t with
  | none => simp [hu] at ht
  | some d =>
    refine run_loadVar_row w g T t cs (0, 0) d hg hu ?_ (by rw [ht.2, hn])
    have h := ht.1
    rw [hu] at h
    cases d <;> simp_all
theorem ret_blk1 {P : Program} {fn : Func} {E : Ending → World → Prop} {a : Act} {w : World} {p ty g n : Nat} {T : TypeId} {cs : Array Value}
    (hr : fn.results = #[.cell p ty]) (hd : a.defers = []) (hp : a.tmps.getD p undef = .pointer (some ⟨g, 0, none⟩)) (hB : Blk w g T cs) (hn : cs.size = n) (ht : agB P ty n = true)
    (h : E (.returned (.agg cs)) w) : bodyPost P fn E .ret a w := by
  refine bodyPost_ret (v := .agg cs) ?_ hd h
  have hp' : a.tmps[p]?.getD undef = .pointer (some ⟨g, 0, none⟩) := by simpa using hp
  simp [results, hr, hp', asAddr, run_load_blk hB hn ht]
theorem ret_blk2 {P : Program} {fn : Func} {E : Ending → World → Prop} {a : Act} {w : World} {p ty q g n : Nat} {T : TypeId} {cs : Array Value} {v : Value}
    (hr : fn.results = #[.cell p ty, .tmp q]) (hd : a.defers = []) (hp : a.tmps.getD p undef = .pointer (some ⟨g, 0, none⟩)) (hq : a.tmps.getD q undef = v) (hB : Blk w g T cs) (hn : cs.size = n) (ht : agB P ty n = true)
    (h : E (.returned (.tuple #[.agg cs, v])) w) : bodyPost P fn E .ret a w := by
  refine bodyPost_ret (v := .tuple #[.agg cs, v]) ?_ hd h
  have hp' : a.tmps[p]?.getD undef = .pointer (some ⟨g, 0, none⟩) := by simpa using hp
  have hq' : a.tmps[q]?.getD undef = v := by simpa using hq
  simp [results, hr, hp', hq', asAddr, run_load_blk hB hn ht]
theorem ret_blk3 {P : Program} {fn : Func} {E : Ending → World → Prop} {a : Act} {w : World} {p ty q s g n : Nat} {T : TypeId} {cs : Array Value} {v u : Value}
    (hr : fn.results = #[.cell p ty, .tmp q, .tmp s]) (hd : a.defers = []) (hp : a.tmps.getD p undef = .pointer (some ⟨g, 0, none⟩)) (hq : a.tmps.getD q undef = v) (hs : a.tmps.getD s undef = u) (hB : Blk w g T cs) (hn : cs.size = n) (ht : agB P ty n = true)
    (h : E (.returned (.tuple #[.agg cs, v, u])) w) : bodyPost P fn E .ret a w := by
  refine bodyPost_ret (v := .tuple #[.agg cs, v, u]) ?_ hd h
  have hp' : a.tmps[p]?.getD undef = .pointer (some ⟨g, 0, none⟩) := by simpa using hp
  have hq' : a.tmps[q]?.getD undef = v := by simpa using hq
  have hs' : a.tmps[s]?.getD undef = u := by simpa using hs
  simp [results, hr, hp', hq', hs', asAddr, run_load_blk hB hn ht]
end Go.Proofs.Ytnaiflokmihmeaa

