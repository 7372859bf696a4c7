/- Joined texts: Grow GrowL. -/
import Derived.Test.YtoejojfjiikogaaGreatDoorBunLib
import Derived.Deep.Onto
namespace Go.Proofs.YtoejojfjiikogaaGreatDoor
open Go.RowKit
set_option linter.unusedVariables false

/-- a row: the slice value, the type of the elements, cells of an element, how many elements, the cells -/
structure Rw where
  v : Value
  e : TypeId
  s : Nat
  n : Nat
  xs : List Value
/-- below the start W nothing has turned; the rows are the call's own, and none shares memory with another one -/
structure Rws (W : World) (rs : List Rw) (w : World) : Prop where
  below : Below W.heap.size W w
  own : ∀ r ∈ rs, w.ownsRow W.heap.size r.e r.s r.v r.n r.xs
  apart : rs.Pairwise (fun r q => r.v.ownBlock = none ∨ r.v.ownBlock ≠ q.v.ownBlock)
section
variable {W w w' : World} {rs : List Rw}
theorem Rws.start : Rws W [] W := ⟨Below.refl _ _, fun _ h => by simp at h, List.Pairwise.nil⟩
theorem Rws.begin (h : Below W.heap.size W w) : Rws W [] w := ⟨h, fun _ h => by simp at h, List.Pairwise.nil⟩
theorem Rws.size (h : Rws W rs w) : W.heap.size ≤ w.heap.size := h.below.size
theorem Rws.next (h : Rws W rs w) (hb : Below w.heap.size w w') : Rws W rs w' :=
  ⟨h.below.trans (hb.mono h.below.size), fun r hr => own_below (h.own r hr) hb, h.apart⟩
theorem Rws.alloc (h : Rws W rs w) (o : Obj) : Rws W rs (w.alloc o) := h.next ((Below.refl _ _).alloc (Nat.le_refl _) _)
theorem Rws.drew (h : Rws W rs w) : Rws W rs w.drew := ⟨h.below.drew, h.own, h.apart⟩
theorem Rws.drewN (h : Rws W rs w) (n : Nat) : Rws W rs (w.drewN n) := ⟨below_drewN h.below n, fun r hr => own_below (h.own r hr) (below_drewN (Below.refl _ _) n), h.apart⟩
theorem Rws.nil (h : Rws W rs w) (e : TypeId) (s : Nat) : Rws W (⟨.slice none 0 0, e, s, 0, []⟩ :: rs) w :=
  ⟨h.below, fun r hr => by
    rcases List.mem_cons.1 hr with rfl | hr
    · exact ⟨by simp, .inl ⟨rfl, rfl⟩⟩
    · exact h.own r hr, List.pairwise_cons.2 ⟨fun _ _ => .inl rfl, h.apart⟩⟩
theorem Rws.drop {r : Rw} (h : Rws W (r :: rs) w) : Rws W rs w := ⟨h.below, fun q hq => h.own q (List.mem_cons_of_mem _ hq), (List.pairwise_cons.1 h.apart).2⟩
theorem Rws.swap {r q : Rw} (h : Rws W (r :: q :: rs) w) : Rws W (q :: r :: rs) w := by
  refine ⟨h.below, fun x hx => h.own x (by simp only [List.mem_cons] at hx ⊢; rcases hx with h | h | h; exact .inr (.inl h); exact .inl h; exact .inr (.inr h)), ?_⟩
  have h1 := List.pairwise_cons.1 h.apart
  have h2 := List.pairwise_cons.1 h1.2
  refine List.pairwise_cons.2 ⟨fun x hx => ?_, List.pairwise_cons.2 ⟨fun x hx => h1.1 x (List.mem_cons_of_mem _ hx), h2.2⟩⟩
  rcases List.mem_cons.1 hx with rfl | hx
  · rcases h1.1 q List.mem_cons_self with h | h
    · cases hq : q.v.ownBlock with
      | none => exact .inl rfl
      | some k => exact .inr (by rw [h]; simp)
    · cases hq : q.v.ownBlock with
      | none => exact .inl rfl
      | some k => rw [hq] at h; exact .inr (Ne.symm h)
  · exact h2.1 x hx
theorem Rws.head {r : Rw} (h : Rws W (r :: rs) w) : w.ownsRow W.heap.size r.e r.s r.v r.n r.xs := h.own r List.mem_cons_self
/-- the first row has grown -/
theorem Rws.grown {r : Rw} {v' : Value} {n' : Nat} {xs' : List Value} (h : Rws W (r :: rs) w) (hg : w.grownBy w' r.v.ownBlock) (ho : w'.ownsRow W.heap.size r.e r.s v' n' xs') (hat : v'.ownBlock = r.v.ownBlock ∨ v'.ownBlock = some w.heap.size) : Rws W (⟨v', r.e, r.s, n', xs'⟩ :: rs) w' := by
  have h1 := List.pairwise_cons.1 h.apart
  have hB : ∀ k, r.v.ownBlock = some k → W.heap.size ≤ k := fun k hk => (h.head.lt k hk).1
  refine ⟨h.below.grown hg h.below.size hB, fun q hq => ?_, List.pairwise_cons.2 ⟨fun q hq => ?_, h1.2⟩⟩
  · rcases List.mem_cons.1 hq with rfl | hq
    · exact ho
    · refine (h.own q (List.mem_cons_of_mem _ hq)).kept hg ?_
      rcases h1.1 q hq with e | e
      · cases hk : q.v.ownBlock with
        | none => exact .inl rfl
        | some k => exact .inr (by rw [e]; simp)
      · cases hk : q.v.ownBlock with
        | none => exact .inl rfl
        | some k => rw [hk] at e; exact .inr (Ne.symm e)
  · show v'.ownBlock = none ∨ v'.ownBlock ≠ q.v.ownBlock
    rcases hat with e | e
    · rw [e]; exact h1.1 q hq
    · rw [e]
      refine .inr fun e2 => ?_
      have := ((h.own q (List.mem_cons_of_mem _ hq)).lt _ e2.symm).2
      omega
end

section
variable {P : Program} {W : World} {rs : List Rw}
theorem wp_append_row {o : Oper} {a : Act} {K : Act → World → Prop} {Q : Exit → Act → World → Prop} (s x : Operand) (t : TypeId)
    (ho : o.op = .call { callee := .builtin .append, args := #[s, x], argTypes := #[t, t] })
    {e : TypeId} {z : Value} {size bytes : Nat} (ht : P.underlying t = some (.slice e)) (hi : (P.info? e).map (fun i => (i.zero, i.size, i.bytes)) = some (some z, size, bytes)) (hzs : z.cells.size = size) (hk : (decide (0 < size) && decide (bytes ≤ 4096)) = true)
    {w : World} {v : Value} {n : Nat} {xs : List Value} (hR : Rws W (⟨v, e, size, n, xs⟩ :: rs) w) {B : Nat} {A : Option Addr} {m c : Nat} {news : List Value} (hs : a.eval s = v) (hx : a.eval x = .slice A m c) (hr : Reads w B size A m news) (h1 : ∀ u ∈ news, u.oneCell' = true)
    (hnm : n + m ≤ 4294967296)
    (h : ∀ v' w', Rws W (⟨v', e, size, n + m, xs ++ news⟩ :: rs) w' → Below W.heap.size W w' → K (a.put o.dst v') w') : o.wp P a w K Q := by
  obtain ⟨i0, hi0, hz0, hz1, hz2⟩ := info_parts hi
  have hk := hk
  simp only [Bool.and_eq_true, decide_eq_true_eq] at hk
  have hbytes : (n + m) * bytes ≤ 4294967296 * 4096 := Nat.mul_le_mul hnm hk.2
  refine wp_append_any w s x t ho W.heap.size e i0 z size bytes ht hi0 hz0 hz1 hz2 hzs hk.1 v n xs hs hR.head B A m c news hx hr h1 (by unfold maxLen; omega) (by omega) hR.size fun v' w' a1 a2 a3 => ?_
  have hR' := hR.grown a2 a1 a3
  exact h v' w' hR' hR'.below
end
end Go.Proofs.YtoejojfjiikogaaGreatDoor
namespace Go.Proofs.YtoejojfjiikogaaGreatDoor
open Go.RowKit
set_option linter.unusedVariables false

/-- one element behind a row of any length within the reach -/
theorem wpList_append_oneL {P : Program} {W : World} {rs : List Rw} {ops : Array Oper} {rest : List Oper} {o : Oper} {a : Act} {Q : Exit → Act → World → Prop} (hgd : o.guard = none) (s x : Operand) (t : TypeId)
    (ho : o.op = .call { callee := .builtin .append, args := #[s, x], argTypes := #[t, t] })
    {e : TypeId} {z : Value} {size bytes : Nat} (ht : P.underlying t = some (.slice e)) (hi : (P.info? e).map (fun i => (i.zero, i.size, i.bytes)) = some (some z, size, bytes)) (hzs : z.cells.size = size) (hk : (decide (0 < size) && decide (bytes ≤ 4096)) = true)
    {w : World} {cs : Array Value} {v : Value} {n : Nat} {xs : List Value} (hR : Rws W (⟨v, e, size, n, xs⟩ :: rs) w) (hs : a.eval s = v) (hx : a.eval x = .slice (some ⟨w.heap.size, 0, none⟩) 1 1) (hcs : cs.size = size) (h1 : ∀ u ∈ cs.toList, u.oneCell' = true)
    (hnm : n + 1 ≤ maxLen) (hby : (n + 1) * bytes ≤ 140737488355328)
    (h : ∀ v' w', Rws W (⟨v', e, size, n + 1, xs ++ cs.toList⟩ :: rs) w' → Below W.heap.size W w' → wpList P ops Q rest (a.put o.dst v') w') : wpList P ops Q (o :: rest) a (w.alloc (.cells cs e)) := by
  refine wpList_plain hgd fun _ hK => ?_
  obtain ⟨i0, hi0, hz0, hz1, hz2⟩ := info_parts hi
  have hk := hk
  simp only [Bool.and_eq_true, decide_eq_true_eq] at hk
  have hR1 := hR.alloc (.cells cs e)
  refine wp_append_any _ s x t ho W.heap.size e i0 z size bytes ht hi0 hz0 hz1 hz2 hzs hk.1 v n xs hs hR1.head _ _ 1 1 cs.toList hx (Blk.reads (Blk.new w e cs) rfl (by simp [hcs])) h1 hnm hby hR1.size fun v' w' a1 a2 a3 => ?_
  have hR' := hR1.grown a2 a1 a3
  exact hK _ _ (h v' w' hR' hR'.below)
end Go.Proofs.YtoejojfjiikogaaGreatDoor
