/- Rows of the call's own behind a block number, while blocks below are written. -/
import Derived.Test.YtogjfmgecnoceaaGrow
namespace Go.Proofs.Ytogjfmgecnoceaa
open Go.RowKit
set_option linter.unusedVariables false

structure RwsB (B0 : Nat) (rs : List Rw) (w : World) : Prop where
  own : ∀ r ∈ rs, w.ownsRow B0 r.e r.s r.v r.n r.xs
  apart : rs.Pairwise (fun r q => r.v.ownBlock = none ∨ r.v.ownBlock ≠ q.v.ownBlock)
theorem own_apart_symm {a b : Option Nat} (h : a = none ∨ a ≠ b) : b = none ∨ b ≠ a := by
  cases b with
  | none => exact .inl rfl
  | some k =>
    rcases h with h | h
    · rw [h]; exact .inr (by simp)
    · exact .inr (Ne.symm h)
section
variable {B0 : Nat} {w w' : World} {rs rs' : List Rw}
theorem RwsB.perm (h : RwsB B0 rs w) (hp : rs.Perm rs') : RwsB B0 rs' w :=
  ⟨fun r hr => h.own r (hp.mem_iff.2 hr), (hp.pairwise_iff (fun {x y} h => own_apart_symm h)).1 h.apart⟩
theorem RwsB.next (h : RwsB B0 rs w) (hb : Below w.heap.size w w') : RwsB B0 rs w' := ⟨fun r hr => own_below (h.own r hr) hb, h.apart⟩
theorem RwsB.alloc (h : RwsB B0 rs w) (o : Obj) : RwsB B0 rs (w.alloc o) := h.next ((Below.refl _ _).alloc (Nat.le_refl _) _)
theorem RwsB.drew (h : RwsB B0 rs w) : RwsB B0 rs w.drew := ⟨h.own, h.apart⟩
theorem RwsB.kept {row : Option Nat} (h : RwsB B0 rs w) (hg : w.grownBy w' row) (hr : ∀ k, row = some k → k < B0) : RwsB B0 rs w' := by
  refine ⟨fun r hr' => (h.own r hr').kept hg ?_, h.apart⟩
  cases hv : r.v.ownBlock with
  | none => exact .inl rfl
  | some k =>
    refine .inr fun e => ?_
    have h1 := hr k e.symm
    have h2 := ((h.own r hr').lt k hv).1
    omega
theorem setCell_grown (w : World) (p : Addr) (u : Value) : w.grownBy (w.setCell p u) (some p.block) :=
  ⟨by unfold World.setCell; split <;> rfl, by unfold World.setCell; split <;> rfl, by unfold World.setCell; split <;> rfl, by simp, fun i _ hi => Below.heap_setCell w p u i (fun e => hi (by rw [e]))⟩
theorem RwsB.setCell (h : RwsB B0 rs w) {p : Addr} (hp : p.block < B0) (u : Value) : RwsB B0 rs (w.setCell p u) :=
  h.kept (setCell_grown w p u) (fun k hk => by injection hk with hk; omega)
theorem RwsB.grown {r : Rw} {v' : Value} {n' : Nat} {xs' : List Value} (h : RwsB B0 (r :: rs) w) (hg : w.grownBy w' r.v.ownBlock) (ho : w'.ownsRow B0 r.e r.s v' n' xs') (hat : v'.ownBlock = r.v.ownBlock ∨ v'.ownBlock = some w.heap.size) : RwsB B0 (⟨v', r.e, r.s, n', xs'⟩ :: rs) w' := by
  have h1 := List.pairwise_cons.1 h.apart
  refine ⟨fun q hq => ?_, List.pairwise_cons.2 ⟨fun q hq => ?_, h1.2⟩⟩
  · rcases List.mem_cons.1 hq with rfl | hq
    · exact ho
    · exact (h.own q (List.mem_cons_of_mem _ hq)).kept hg (own_apart_symm (h1.1 q hq))
  · show v'.ownBlock = none ∨ v'.ownBlock ≠ q.v.ownBlock
    rcases hat with e | e
    · rw [e]; exact h1.1 q hq
    · rw [e]
      refine .inr fun e2 => ?_
      have := ((h.own q (List.mem_cons_of_mem _ hq)).lt _ e2.symm).2
      omega
end
theorem perm_at {α : Type} {l : List α} {i : Nat} {x : α} (h : l[i]? = some x) : l.Perm (x :: (l.take i ++ l.drop (i + 1))) := by
  have hl := (List.getElem?_eq_some_iff.1 h).1
  have h1 : l = l.take i ++ x :: l.drop (i + 1) := by
    conv => lhs; rw [← List.take_append_drop i l]
    rw [List.drop_eq_getElem_cons hl, (List.getElem?_eq_some_iff.1 h).2]
  conv => lhs; rw [h1]
  exact List.perm_middle
theorem set_perm {α : Type} {l : List α} {i : Nat} {x y : α} (h : l[i]? = some x) : (y :: (l.take i ++ l.drop (i + 1))).Perm (l.set i y) := by
  have hl := (List.getElem?_eq_some_iff.1 h).1
  rw [List.set_eq_take_append_cons_drop, if_pos hl]
  exact List.perm_middle.symm
section
variable {P : Program} {B0 : Nat} {rs : List Rw}
theorem wpList_append_at {ops : Array Oper} {rest : List Oper} {o : Oper} {a : Act} {Q : Exit → Act → World → Prop} (hgd : o.guard = none) (s x : Operand) (t : TypeId)
    (ho : o.op = .call { callee := .builtin .append, args := #[s, x], argTypes := #[t, t] })
    {e : TypeId} {z : Value} {size bytes : Nat} (ht : P.underlying t = some (.slice e)) (hi : (P.info? e).map (fun i => (i.zero, i.size, i.bytes)) = some (some z, size, bytes)) (hzs : z.cells.size = size) (hk : (decide (0 < size) && decide (bytes ≤ 4096)) = true)
    {w : World} {cs : Array Value} {v : Value} {n i : Nat} {xs : List Value} (hR : RwsB B0 rs w) (hB0 : B0 ≤ w.heap.size) (hri : rs[i]? = some ⟨v, e, size, n, xs⟩) (hs : a.eval s = v) (hx : a.eval x = .slice (some ⟨w.heap.size, 0, none⟩) 1 1) (hcs : cs.size = size) (h1 : ∀ u ∈ cs.toList, u.oneCell' = true)
    (hnm : n + 1 ≤ 4294967296)
    (h : ∀ v' w', RwsB B0 (rs.set i ⟨v', e, size, n + 1, xs ++ cs.toList⟩) w' → (∀ k, k < B0 → w'.heap[k]? = w.heap[k]?) → Below B0 w w' → v'.oneCell' = true → wpList P ops Q rest (a.put o.dst v') w') : wpList P ops Q (o :: rest) a (w.alloc (.cells cs e)) := by
  refine wpList_plain hgd fun _ hK => ?_
  obtain ⟨i0, hi0, hz0, hz1, hz2⟩ := info_parts hi
  have hk := hk
  simp only [Bool.and_eq_true, decide_eq_true_eq] at hk
  have hbytes : (n + 1) * bytes ≤ 4294967296 * 4096 := Nat.mul_le_mul hnm hk.2
  have hR1 := (hR.alloc (.cells cs e)).perm (perm_at hri)
  have hh := hR1.own _ List.mem_cons_self
  refine wp_append_any _ s x t ho B0 e i0 z size bytes ht hi0 hz0 hz1 hz2 hzs hk.1 v n xs hs hh _ _ 1 1 cs.toList hx (Blk.reads (Blk.new w e cs) rfl (by simp [hcs])) h1 (by unfold maxLen; omega) (by omega) (by simp; omega) fun v' w' a1 a2 a3 => ?_
  have hR' := hR1.grown a2 a1 a3
  have hbl : Below B0 w w' := ((Below.refl B0 w).alloc hB0 (.cells cs e)).grown a2 (by simp; omega) (fun k hk => (hh.lt k hk).1)
  refine hK _ _ (h v' w' (hR'.perm (set_perm hri)) (fun k hk => hbl.block k hk) hbl ?_)
  rcases a1.2 with ⟨rfl, _⟩ | ⟨g, cap, cur, rfl, _⟩ <;> rfl
/-- the same in a region that draws -/
theorem step_append_at {ops : Array Oper} {o : Oper} {a : Act} {K : Act → World → Prop} {Q : Exit → Act → World → Prop} {E : Prop} (hgd : o.guard = none) (s x : Operand) (t : TypeId)
    (ho : o.op = .call { callee := .builtin .append, args := #[s, x], argTypes := #[t, t] })
    {e : TypeId} {z : Value} {size bytes : Nat} (ht : P.underlying t = some (.slice e)) (hi : (P.info? e).map (fun i => (i.zero, i.size, i.bytes)) = some (some z, size, bytes)) (hzs : z.cells.size = size) (hk : (decide (0 < size) && decide (bytes ≤ 4096)) = true)
    {w : World} {cs : Array Value} {g : Nat} {v : Value} {n i : Nat} {xs : List Value} (hR : RwsB B0 rs w) (hB0 : B0 ≤ w.heap.size) (hB : Blk w g e cs) (hri : rs[i]? = some ⟨v, e, size, n, xs⟩) (hs : a.eval s = v) (hx : a.eval x = .slice (some ⟨g, 0, none⟩) 1 1) (hcs : cs.size = size) (h1 : ∀ u ∈ cs.toList, u.oneCell' = true)
    (hnm : n + 1 ≤ 4294967296)
    (h : ∀ v' w', RwsB B0 (rs.set i ⟨v', e, size, n + 1, xs ++ cs.toList⟩) w' → (∀ k, k < B0 → w'.heap[k]? = w.heap[k]?) → Below B0 w w' → K (a.put o.dst v') w') :
    if Region.wanted o (yielded ops a.tmps) = true then Oper.wp P o a w K Q else E := by
  have hw : Region.wanted o (yielded ops a.tmps) = true := by simp [Region.wanted, hgd]
  rw [if_pos hw]
  obtain ⟨i0, hi0, hz0, hz1, hz2⟩ := info_parts hi
  have hk := hk
  simp only [Bool.and_eq_true, decide_eq_true_eq] at hk
  have hbytes : (n + 1) * bytes ≤ 4294967296 * 4096 := Nat.mul_le_mul hnm hk.2
  have hR1 := hR.perm (perm_at hri)
  have hh := hR1.own _ List.mem_cons_self
  refine wp_append_any w s x t ho B0 e i0 z size bytes ht hi0 hz0 hz1 hz2 hzs hk.1 v n xs hs hh _ _ 1 1 cs.toList hx (hB.reads rfl (by simp [hcs])) h1 (by unfold maxLen; omega) (by omega) hB0 fun v' w' a1 a2 a3 => ?_
  have hR' := hR1.grown a2 a1 a3
  have hbl : Below B0 w w' := (Below.refl B0 w).grown a2 hB0 (fun k hk => (hh.lt k hk).1)
  exact h v' w' (hR'.perm (set_perm hri)) (fun k hk => hbl.block k hk) hbl
end
end Go.Proofs.Ytogjfmgecnoceaa
