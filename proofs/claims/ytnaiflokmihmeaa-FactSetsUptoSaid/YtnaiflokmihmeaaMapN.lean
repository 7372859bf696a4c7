/- Maps of the call's own, as lists of pairs; ranging over them. -/
import Derived.Test.YtnaiflokmihmeaaMapM
import Derived.Maps.RangeWalk
import Derived.Maps.OwnOps
namespace Go.Proofs.Ytnaiflokmihmeaa
open Go.RowKit
set_option linter.unusedVariables false
set_option linter.unusedSectionVars false
set_option linter.unusedSimpArgs false

section
variable {α β : Type}
/-- block b is a map that holds the pairs l -/
def MapN (enc : α → Value) (en : β → Value) (w : World) (b : Nat) (l : List (α × β)) : Prop :=
  ∃ es clock, w.heap[b]? = some (.map es clock) ∧ es.toList.map (fun e => (e.key, e.val)) = l.map (fun p => (enc p.1, en p.2)) ∧ (∀ x ∈ es.toList, x.born < clock) ∧ (es.toList.map (·.born)).Nodup
/-- block r is an iterator over the map in block b, to which the pairs `left` are still to come -/
def IterN (enc : α → Value) (en : β → Value) (w : World) (r b : Nat) (left : List (α × β)) : Prop :=
  ∃ es clock since c0 seen, w.heap[r]? = some (.mapIter (some b) since seen c0) ∧ w.heap[b]? = some (.map es clock) ∧ (∀ x ∈ es.toList, x.born < since) ∧ since ≤ c0 ∧ since ≤ clock ∧ (es.toList.map (·.born)).Nodup ∧
    (leftOf es seen).toList.map (fun e => (e.key, e.val)) = left.map (fun p => (enc p.1, en p.2))
section
variable {enc : α → Value} {en : β → Value} {w w' : World} {b r : Nat} {l left : List (α × β)}
theorem MapN.mapOf (h : MapN enc en w b l) : MapOf enc en w b l := by
  obtain ⟨es, clock, h1, h2, _⟩ := h
  exact ⟨es, clock, h1, h2⟩
theorem MapN.lt (h : MapN enc en w b l) : b < w.heap.size := h.mapOf.lt
theorem MapN.block (h : MapN enc en w b l) (hb : w'.heap[b]? = w.heap[b]?) : MapN enc en w' b l := by
  obtain ⟨es, clock, h1, h2⟩ := h
  exact ⟨es, clock, hb.trans h1, h2⟩
theorem MapN.next (h : MapN enc en w b l) (hb : Below w.heap.size w w') : MapN enc en w' b l := h.block (hb.block b h.lt)
theorem MapN.drew (h : MapN enc en w b l) : MapN enc en w.drew b l := h
theorem MapN.drewN (h : MapN enc en w b l) (n : Nat) : MapN enc en (w.drewN n) b l := h
theorem MapN.alloc (h : MapN enc en w b l) (o : Obj) : MapN enc en (w.alloc o) b l := h.next ((Below.refl _ _).alloc (Nat.le_refl _) _)
theorem MapN.grown {row : Option Nat} (h : MapN enc en w b l) (hg : w.grownBy w' row) (hne : some b ≠ row) : MapN enc en w' b l := h.block (hg.block b h.lt hne)
theorem MapN.setCell (h : MapN enc en w b l) {p : Addr} (hp : b ≠ p.block) (u : Value) : MapN enc en (w.setCell p u) b l := h.block (Below.heap_setCell w p u b hp)
theorem MapN.made (w : World) : MapN enc en (w.alloc (.map #[] 0)) w.heap.size ([] : List (α × β)) := ⟨#[], 0, (MapKept.heap_alloc w _).1, rfl, by simp, by simp⟩
theorem IterN.lt (h : IterN enc en w r b left) : r < w.heap.size ∧ b < w.heap.size := by
  obtain ⟨es, clock, since, c0, seen, h1, h2, _⟩ := h
  exact ⟨(Array.getElem?_eq_some_iff.1 h1).1, (Array.getElem?_eq_some_iff.1 h2).1⟩
theorem IterN.block (h : IterN enc en w r b left) (hr : w'.heap[r]? = w.heap[r]?) (hb : w'.heap[b]? = w.heap[b]?) : IterN enc en w' r b left := by
  obtain ⟨es, clock, since, c0, seen, h1, h2, h3⟩ := h
  exact ⟨es, clock, since, c0, seen, hr.trans h1, hb.trans h2, h3⟩
theorem IterN.next (h : IterN enc en w r b left) (hb : Below w.heap.size w w') : IterN enc en w' r b left := h.block (hb.block r h.lt.1) (hb.block b h.lt.2)
theorem IterN.grown {row : Option Nat} (h : IterN enc en w r b left) (hg : w.grownBy w' row) (h1 : some r ≠ row) (h2 : some b ≠ row) : IterN enc en w' r b left := h.block (hg.block r h.lt.1 h1) (hg.block b h.lt.2 h2)
theorem IterN.drewN (h : IterN enc en w r b left) (n : Nat) : IterN enc en (w.drewN n) r b left := h
theorem IterN.setCell (h : IterN enc en w r b left) {p : Addr} (hp : r ≠ p.block) (hq : b ≠ p.block) (u : Value) : IterN enc en (w.setCell p u) r b left := h.block (Below.heap_setCell w p u r hp) (Below.heap_setCell w p u b hq)
end
theorem map_erase {γ δ : Type} (f : γ → δ) : ∀ (l : List γ) (k : Nat), (l.eraseIdx k).map f = (l.map f).eraseIdx k
  | [], _ => rfl
  | x :: l, 0 => rfl
  | x :: l, k + 1 => by simp only [List.eraseIdx_cons_succ, List.map_cons]; rw [map_erase f l k]
theorem filter_born (e : MapEntry) : ∀ (L : List MapEntry) (j : Nat), (L.map (·.born)).Nodup → L[j]? = some e → L.filter (fun x => !(x.born == e.born)) = L.eraseIdx j
  | [], _, _, h => by simp at h
  | x :: L, 0, hn, h => by
    simp at h; subst h
    have hn' := List.nodup_cons.1 hn
    rw [List.filter_cons]
    simp only [beq_self_eq_true, Bool.not_true, Bool.false_eq_true, if_false, List.eraseIdx_cons_zero]
    refine List.filter_eq_self.2 fun y hy => ?_
    simp only [Bool.not_eq_true', beq_eq_false_iff_ne]
    exact fun e => hn'.1 (List.mem_map.2 ⟨y, hy, e⟩)
  | x :: L, j + 1, hn, h => by
    have hn' := List.nodup_cons.1 hn
    simp at h
    rw [List.filter_cons]
    have hx : (x.born == e.born) = false := by
      rw [beq_eq_false_iff_ne]
      exact fun e2 => hn'.1 (List.mem_map.2 ⟨e, List.mem_of_getElem? h, e2.symm⟩)
    simp only [hx, Bool.not_false, if_true, List.eraseIdx_cons_succ]
    rw [filter_born e L j hn'.2 h]
theorem leftOf_push (es : Array MapEntry) (seen : Array Nat) (e : MapEntry) (j : Nat) (hn : (es.toList.map (·.born)).Nodup) (hj : (leftOf es seen).toList[j]? = some e) :
    (leftOf es (seen.push e.born)).toList = (leftOf es seen).toList.eraseIdx j := by
  have hsub : ((leftOf es seen).toList.map (·.born)).Nodup := by
    unfold leftOf
    rw [Array.toList_filter]
    exact hn.sublist (List.filter_sublist.map _)
  rw [← filter_born e _ j hsub hj]
  unfold leftOf
  rw [Array.toList_filter, Array.toList_filter, List.filter_filter]
  refine List.filter_congr fun x _ => ?_
  rw [contains_push]
  cases seen.contains x.born <;> simp
theorem perm_erase {γ : Type} : ∀ (l : List γ) (j : Nat) (x : γ), l[j]? = some x → l.Perm (x :: l.eraseIdx j)
  | [], _, _, h => by simp at h
  | y :: l, 0, x, h => by simp at h; subst h; exact List.Perm.refl _
  | y :: l, j + 1, x, h => by
    simp at h
    rw [List.eraseIdx_cons_succ]
    exact ((perm_erase l j x h).cons y).trans (List.Perm.swap x y _)
end
section
variable {α β : Type} [DecidableEq α]
/-- the pair at a key is struck -/
def adel : List (α × β) → α → List (α × β)
  | [], _ => []
  | p :: r, a => if a = p.1 then r else p :: adel r a
theorem adel_none {l : List (α × β)} {a : α} (h : aget l a = none) : adel l a = l := by
  induction l with
  | nil => rfl
  | cons p r ih =>
    simp only [aget] at h
    split at h
    · cases h
    · rename_i h1; simp only [adel, if_neg h1]; rw [ih h]
theorem adel_find {l : List (α × β)} {a : α} : ∀ {i j : Nat}, afind l a i = some j → ∃ k, j = i + k ∧ k < l.length ∧ adel l a = l.eraseIdx k := by
  induction l with
  | nil => intro i j h; cases h
  | cons p r ih =>
    intro i j h
    unfold afind at h
    split at h
    · rename_i h1
      injection h with h
      exact ⟨0, by omega, by simp, by simp [adel, h1]⟩
    · rename_i h1
      obtain ⟨k, e1, e2, e3⟩ := ih h
      exact ⟨k + 1, by omega, by simpa using e2, by simp only [adel, if_neg h1, List.eraseIdx_cons_succ]; rw [e3]⟩
section
variable {enc : α → Value} {en : β → Value} {w w' : World} {b r : Nat} {l left : List (α × β)}
variable {P : Program} {kt e t : TypeId}
theorem MapN.lookup (h : MapN enc en w b l) (K : KLaw P kt enc) (ht : P.underlying t = some (.map kt e)) {z : Value} (hz : (zeroValue e).run P w = .ok z w) (a : α) (c : Bool) {v : Value} (hv : ((aget l a).map en).getD z = v) {o : Bool} (ho : (aget l a).isSome = o) :
    (Instr.lookup t (.map (some b)) (enc a) c).run P w = .ok (if c then .tuple #[v, .bool o] else v) w := h.mapOf.lookup K ht hz a c hv ho
theorem MapN.len (h : MapN enc en w b l) (ht : P.underlying t = some (.map kt e)) (ty : TypeId) : (Builtin.len_ #[t] ty #[.map (some b)]).run P w = .ok (.int .i64 l.length) w := by
  obtain ⟨es, clock, hb, hl, _⟩ := h
  have : es.size = l.length := by rw [← Array.length_toList]; simpa using congrArg List.length hl
  simp [Builtin.len_, run_underlying ht, MapKept.run_getObj_map hb, this, goInt]
theorem MapN.update (h : MapN enc en w b l) (K : KLaw P kt enc) (ht : P.underlying t = some (.map kt e)) (a : α) (v : β) :
    ∃ w', (Instr.mapUpdate t (.map (some b)) (enc a) (en v)).run P w = .ok () w' ∧ MapN enc en w' b (aput l a v) ∧ w.grownBy w' (some b) ∧ w'.heap.size = w.heap.size := by
  obtain ⟨es, clock, hb, hl, hbo, hnd⟩ := h
  have hf := K.find en es.toList l hl a w
  cases hfi : afind l a 0 with
  | none =>
    rw [hfi] at hf
    have h1 := afind_none hfi
    refine ⟨_, by simp [Instr.mapUpdate, run_underlying ht, MapKept.run_getObj_map hb, K.check false a w, hf, MapKept.run_setObj_map _ hb, Result.andThen]; rfl, ⟨_, _, ChangeMaps.heap_setBlock_same hb _, ?_, ?_, ?_⟩, ⟨rfl, rfl, rfl, by simp [ChangeMaps.setBlock], fun i _ hi => ChangeMaps.heap_setBlock_other hb _ (fun e => hi (by rw [e]))⟩, by simp [ChangeMaps.setBlock]⟩
    · rw [aput_new h1]
      simp [hl]
    · intro x hx
      simp at hx
      rcases hx with hx | rfl
      · have := hbo x (by simpa using hx); omega
      · simp
    · simp only [Array.toList_push, List.map_append, List.map_cons, List.map_nil]
      rw [List.nodup_append]
      refine ⟨hnd, by simp, fun x hx y hy => ?_⟩
      simp at hy; subst hy
      obtain ⟨u, hu, rfl⟩ := List.mem_map.1 hx
      have := hbo u hu
      omega
  | some i =>
    obtain ⟨k, u, e1, e2, e3, e4⟩ := afind_some hfi
    rw [Nat.zero_add] at e1
    subst e1
    rw [hfi] at hf
    have hk : (es.toList.map (fun e => (e.key, e.val)))[i]? = some (enc a, en u) := by rw [hl]; simp [e2]
    obtain ⟨x, hx, hx1⟩ : ∃ x, es.toList[i]? = some x ∧ x.key = enc a := by
      rw [List.getElem?_map] at hk
      cases hx : es.toList[i]? with
      | none => rw [hx] at hk; cases hk
      | some x => rw [hx] at hk; simp at hk; exact ⟨x, rfl, hk.1⟩
    have hx2 : es[i]? = some x := by rw [← Array.getElem?_toList]; exact hx
    have hbn : ∀ (f : MapEntry → MapEntry), (∀ y, (f y).born = y.born) → (es.modify i f).toList.map (·.born) = es.toList.map (·.born) := by
      intro f hfb
      refine List.ext_getElem? fun j => ?_
      rw [List.getElem?_map, List.getElem?_map, Array.getElem?_toList, Array.getElem?_toList, Array.getElem?_modify]
      by_cases hj : i = j
      · subst hj; rw [if_pos rfl, hx2]; simp [hfb]
      · rw [if_neg hj]
    refine ⟨_, by simp [Instr.mapUpdate, run_underlying ht, MapKept.run_getObj_map hb, K.check false a w, hf, hx2, hx1, K.stay a w, MapKept.run_setObj_map _ hb, Result.andThen]; rfl, ⟨_, _, ChangeMaps.heap_setBlock_same hb _, ?_, ?_, ?_⟩, ⟨rfl, rfl, rfl, by simp [ChangeMaps.setBlock], fun i _ hi => ChangeMaps.heap_setBlock_other hb _ (fun e => hi (by rw [e]))⟩, by simp [ChangeMaps.setBlock]⟩
    · rw [e4 v, List.map_set, ← hl]
      refine List.ext_getElem? fun j => ?_
      rw [List.getElem?_map, Array.getElem?_toList, List.getElem?_set, List.getElem?_map, Array.getElem?_toList, List.length_map, Array.length_toList]
      by_cases hj : i = j
      · subst hj
        have hlt : i < es.size := (Array.getElem?_eq_some_iff.1 hx2).1
        rw [Array.getElem?_modify, if_pos rfl, hx2, if_pos rfl, if_pos hlt]
        simp
      · rw [if_neg hj, Array.getElem?_modify, if_neg hj]
    · intro y hy
      have hmem : y.born ∈ es.toList.map (·.born) := by rw [← hbn (fun e => { e with key := enc a, val := en v }) (fun _ => rfl)]; exact List.mem_map.2 ⟨y, hy, rfl⟩
      obtain ⟨z, hz, hzb⟩ := List.mem_map.1 hmem
      have := hbo z hz
      omega
    · rw [hbn (fun e => { e with key := enc a, val := en v }) (fun _ => rfl)]; exact hnd
theorem MapN.delete (h : MapN enc en w b l) (K : KLaw P kt enc) (ht : P.underlying t = some (.map kt e)) (a : α) (ty : TypeId) :
    ∃ w', (Builtin.delete_ #[t, kt] ty #[.map (some b), enc a]).run P w = .ok (.tuple #[]) w' ∧ MapN enc en w' b (adel l a) ∧ w.grownBy w' (some b) ∧ w'.heap.size = w.heap.size := by
  obtain ⟨es, clock, hb, hl, hbo, hnd⟩ := h
  have hf := K.find en es.toList l hl a w
  cases hfi : afind l a 0 with
  | none =>
    rw [hfi] at hf
    have h1 := afind_none hfi
    refine ⟨_, by simp [Builtin.delete_, run_underlying ht, MapKept.run_getObj_map hb, K.check _ a w, hf, MapKept.run_setObj_map _ hb, Result.andThen]; rfl, ⟨_, _, ChangeMaps.heap_setBlock_same hb _, ?_, hbo, hnd⟩, ⟨rfl, rfl, rfl, by simp [ChangeMaps.setBlock], fun i _ hi => ChangeMaps.heap_setBlock_other hb _ (fun e => hi (by rw [e]))⟩, by simp [ChangeMaps.setBlock]⟩
    rw [adel_none h1]; exact hl
  | some i =>
    obtain ⟨k, e1, e2, e3⟩ := adel_find hfi
    rw [Nat.zero_add] at e1
    subst e1
    rw [hfi] at hf
    have hsz : es.size = l.length := by rw [← Array.length_toList]; simpa using congrArg List.length hl
    have het : (es.eraseIdxIfInBounds i).toList = es.toList.eraseIdx i := by
      have hlt : i < es.size := by omega
      simp [Array.eraseIdxIfInBounds, hlt]
    refine ⟨_, by simp [Builtin.delete_, run_underlying ht, MapKept.run_getObj_map hb, K.check _ a w, hf, MapKept.run_setObj_map _ hb, Result.andThen]; rfl, ⟨_, _, ChangeMaps.heap_setBlock_same hb _, ?_, ?_, ?_⟩, ⟨rfl, rfl, rfl, by simp [ChangeMaps.setBlock], fun i _ hi => ChangeMaps.heap_setBlock_other hb _ (fun e => hi (by rw [e]))⟩, by simp [ChangeMaps.setBlock]⟩
    · rw [e3, het, map_erase, map_erase, hl]
    · rw [het]; exact fun x hx => hbo x (List.mem_of_mem_eraseIdx hx)
    · rw [het, map_erase]; exact hnd.sublist (List.eraseIdx_sublist _ _)
theorem MapN.range (h : MapN enc en w b l) (ht : P.underlying t = some (.map kt e)) :
    ∃ w', (Instr.range t (.map (some b))).run P w = .ok (.pointer (some ⟨w.heap.size, 0, none⟩)) w' ∧ IterN enc en w' w.heap.size b l ∧ Below w.heap.size w w' ∧ w'.heap.size = w.heap.size + 1 := by
  have hlt := h.lt
  obtain ⟨es, clock, hb, hl, hbo, hnd⟩ := h
  refine ⟨_, run_range_map w t kt e b es clock ht hb, ⟨es, clock, clock, clock, #[], heap_alloc_new w _, (heap_alloc_old w _ hlt).trans hb, hbo, Nat.le_refl _, Nat.le_refl _, hnd, ?_⟩, (Below.refl _ _).alloc (Nat.le_refl _) _, by simp⟩
  rw [← hl]
  have : leftOf es #[] = es := by unfold leftOf; exact Array.filter_eq_self.2 (fun x _ => by simp)
  rw [this]
theorem IterN.step (h : IterN enc en w r b left) (ty : TypeId) :
    (left = [] ∧ (Instr.next (.pointer (some ⟨r, 0, none⟩)) false ty).run P w = .ok (.tuple #[.bool false]) w) ∨
    ∃ p left' w', left.Perm (p :: left') ∧ (Instr.next (.pointer (some ⟨r, 0, none⟩)) false ty).run P w = .ok (.tuple #[.bool true, enc p.1, en p.2]) w' ∧ IterN enc en w' r b left' ∧
      (Instr.entry (.pointer (some ⟨r, 0, none⟩))).run P w' = .ok (.tuple #[enc p.1, en p.2]) w' ∧ w.grownBy w' (some r) ∧ w'.heap.size = w.heap.size := by
  have hlt := h.lt
  obtain ⟨es, clock, since, c0, seen, hr, hb, hbo, hsc, hcl, hnd, hl⟩ := h
  have hne : b ≠ r := fun e => by subst e; rw [hr] at hb; cases hb
  rcases run_next_at (P := P) w ty r b since c0 seen es clock hr hb hbo hsc with ⟨h0, hrun⟩ | ⟨e, he, w1, hw1, hrun⟩
  · left
    refine ⟨?_, hrun⟩
    have : (leftOf es seen).toList = [] := List.eq_nil_of_length_eq_zero (by simpa using h0)
    rw [this] at hl
    simpa using hl.symm
  · right
    obtain ⟨j, hj⟩ := List.mem_iff_getElem?.1 he
    have hpj : (left.map (fun p => (enc p.1, en p.2)))[j]? = some (e.key, e.val) := by rw [← hl]; simp only [List.getElem?_map, hj, Option.map_some]
    obtain ⟨p, hp, hpe⟩ : ∃ p, left[j]? = some p ∧ (enc p.1, en p.2) = (e.key, e.val) := by
      rw [List.getElem?_map] at hpj
      cases hx : left[j]? with
      | none => rw [hx] at hpj; cases hpj
      | some x => rw [hx] at hpj; exact ⟨x, rfl, Option.some.inj hpj⟩
    have hk : enc p.1 = e.key := congrArg Prod.fst hpe
    have hv : en p.2 = e.val := congrArg Prod.snd hpe
    have hr1 : w1.heap[r]? = some (.mapIter (some b) since seen c0) := by rcases hw1 with rfl | rfl <;> exact hr
    have hb1 : w1.heap[b]? = some (.map es clock) := by rcases hw1 with rfl | rfl <;> exact hb
    have hsz : w1.heap.size = w.heap.size := by rcases hw1 with rfl | rfl <;> rfl
    have hlt1 : r < w1.heap.size := by rw [hsz]; exact hlt.1
    have hsame : (ChangeMaps.setBlock w1 r (.mapIter (some b) since (seen.push e.born) clock)).heap[r]? = some (.mapIter (some b) since (seen.push e.born) clock) := by
      simp [ChangeMaps.setBlock, hlt1]
    have hother : ∀ i, i ≠ r → (ChangeMaps.setBlock w1 r (.mapIter (some b) since (seen.push e.born) clock)).heap[i]? = w1.heap[i]? := by
      intro i hi
      simp [ChangeMaps.setBlock, Array.getElem?_setIfInBounds, Ne.symm hi]
    have hbb := (hother b hne).trans hb1
    have hmem := mem_left he
    refine ⟨p, left.eraseIdx j, _, perm_erase left j p hp, by rw [hk, hv]; exact hrun, ?_, by rw [hk, hv]; exact run_entry_at _ r b since seen es clock e hsame hbb hmem.1 hnd, ⟨?_, ?_, ?_, ?_, ?_⟩, ?_⟩
    · refine ⟨es, clock, since, clock, seen.push e.born, hsame, hbb, hbo, hcl, hcl, hnd, ?_⟩
      rw [leftOf_push es seen e j hnd hj, map_erase, hl, map_erase]
    · rcases hw1 with rfl | rfl <;> rfl
    · rcases hw1 with rfl | rfl <;> rfl
    · rcases hw1 with rfl | rfl <;> rfl
    · rw [show (ChangeMaps.setBlock w1 r (.mapIter (some b) since (seen.push e.born) clock)).heap.size = w1.heap.size by simp [ChangeMaps.setBlock], hsz]; exact Nat.le_refl _
    · intro i hi hir
      rw [hother i (fun e2 => hir (by rw [e2]))]
      rcases hw1 with rfl | rfl <;> rfl
    · rw [show (ChangeMaps.setBlock w1 r (.mapIter (some b) since (seen.push e.born) clock)).heap.size = w1.heap.size by simp [ChangeMaps.setBlock], hsz]
end
end
end Go.Proofs.Ytnaiflokmihmeaa
