/- Rows of the call's own that grow by append: all of them under one word. -/
/- One row of integers that grows by append. -/
/- One element behind a row of any length within the reach. -/
/- Walks: slices.Index and Contains at integers. -/
/- Slices of bools, read as plain data; rows of ints and of bools cloned. -/
/- Walk: slices.Equal at integers. -/
import Derived.Test.YtnaiflokmihmeaaMgA
import Derived.Deep.Onto
import Derived.Test.YtnaiflokmihmeaaChecked
import Derived.Deep.LoopGhost
import Derived.Deep.QuietTactic
import Derived.BigQuiet
import Derived.WalkSpells
import Derived.OwnWalk
namespace Go.Proofs.Ytnaiflokmihmeaa
open Go.RowKit
set_option linter.unusedVariables false

/-- a row: the slice value, the type of the elements, cells of an element, how many elements, the cells -/
structure Rw where
  v : Value
  e : TypeId
  s : Nat
  n : Nat
  xs : List Value
/-- below the start W nothing has turned; the rows are the call's own, and none shares memory with another one -/
structure Rws (W : World) (rs : List Rw) (w : World) : Prop where
  below : Below W.heap.size W w
  own : ∀ r ∈ rs, w.ownsRow W.heap.size r.e r.s r.v r.n r.xs
  apart : rs.Pairwise (fun r q => r.v.ownBlock = none ∨ r.v.ownBlock ≠ q.v.ownBlock)
section
variable {W w w' : World} {rs : List Rw}
theorem Rws.start : Rws W [] W := ⟨Below.refl _ _, fun _ h => by simp at h, List.Pairwise.nil⟩
theorem Rws.begin (h : Below W.heap.size W w) : Rws W [] w := ⟨h, fun _ h => by simp at h, List.Pairwise.nil⟩
theorem Rws.size (h : Rws W rs w) : W.heap.size ≤ w.heap.size := h.below.size
theorem Rws.next (h : Rws W rs w) (hb : Below w.heap.size w w') : Rws W rs w' :=
  ⟨h.below.trans (hb.mono h.below.size), fun r hr => own_below (h.own r hr) hb, h.apart⟩
theorem Rws.alloc (h : Rws W rs w) (o : Obj) : Rws W rs (w.alloc o) := h.next ((Below.refl _ _).alloc (Nat.le_refl _) _)
theorem Rws.drew (h : Rws W rs w) : Rws W rs w.drew := ⟨h.below.drew, h.own, h.apart⟩
theorem Rws.drewN (h : Rws W rs w) (n : Nat) : Rws W rs (w.drewN n) := ⟨below_drewN h.below n, fun r hr => own_below (h.own r hr) (below_drewN (Below.refl _ _) n), h.apart⟩
theorem Rws.nil (h : Rws W rs w) (e : TypeId) (s : Nat) : Rws W (⟨.slice none 0 0, e, s, 0, []⟩ :: rs) w :=
  ⟨h.below, fun r hr => by
    rcases List.mem_cons.1 hr with rfl | hr
    · exact ⟨by simp, .inl ⟨rfl, rfl⟩⟩
    · exact h.own r hr, List.pairwise_cons.2 ⟨fun _ _ => .inl rfl, h.apart⟩⟩
theorem Rws.drop {r : Rw} (h : Rws W (r :: rs) w) : Rws W rs w := ⟨h.below, fun q hq => h.own q (List.mem_cons_of_mem _ hq), (List.pairwise_cons.1 h.apart).2⟩
theorem Rws.swap {r q : Rw} (h : Rws W (r :: q :: rs) w) : Rws W (q :: r :: rs) w := by
  refine ⟨h.below, fun x hx => h.own x (by simp only [List.mem_cons] at hx ⊢; rcases hx with h | h | h; exact .inr (.inl h); exact .inl h; exact .inr (.inr h)), ?_⟩
  have h1 := List.pairwise_cons.1 h.apart
  have h2 := List.pairwise_cons.1 h1.2
  refine List.pairwise_cons.2 ⟨fun x hx => ?_, List.pairwise_cons.2 ⟨fun x hx => h1.1 x (List.mem_cons_of_mem _ hx), h2.2⟩⟩
  rcases List.mem_cons.1 hx with rfl | hx
  · rcases h1.1 q List.mem_cons_self with h | h
    · cases hq : q.v.ownBlock with
      | none => exact .inl rfl
      | some k => exact .inr (by rw [h]; simp)
    · cases hq : q.v.ownBlock with
      | none => exact .inl rfl
      | some k => rw [hq] at h; exact .inr (Ne.symm h)
  · exact h2.1 x hx
theorem Rws.head {r : Rw} (h : Rws W (r :: rs) w) : w.ownsRow W.heap.size r.e r.s r.v r.n r.xs := h.own r List.mem_cons_self
/-- the first row has grown -/
theorem Rws.grown {r : Rw} {v' : Value} {n' : Nat} {xs' : List Value} (h : Rws W (r :: rs) w) (hg : w.grownBy w' r.v.ownBlock) (ho : w'.ownsRow W.heap.size r.e r.s v' n' xs') (hat : v'.ownBlock = r.v.ownBlock ∨ v'.ownBlock = some w.heap.size) : Rws W (⟨v', r.e, r.s, n', xs'⟩ :: rs) w' := by
  have h1 := List.pairwise_cons.1 h.apart
  have hB : ∀ k, r.v.ownBlock = some k → W.heap.size ≤ k := fun k hk => (h.head.lt k hk).1
  refine ⟨h.below.grown hg h.below.size hB, fun q hq => ?_, List.pairwise_cons.2 ⟨fun q hq => ?_, h1.2⟩⟩
  · rcases List.mem_cons.1 hq with rfl | hq
    · exact ho
    · refine (h.own q (List.mem_cons_of_mem _ hq)).kept hg ?_
      rcases h1.1 q hq with e | e
      · cases hk : q.v.ownBlock with
        | none => exact .inl rfl
        | some k => exact .inr (by rw [e]; simp)
      · cases hk : q.v.ownBlock with
        | none => exact .inl rfl
        | some k => rw [hk] at e; exact .inr (Ne.symm e)
  · show v'.ownBlock = none ∨ v'.ownBlock ≠ q.v.ownBlock
    rcases hat with e | e
    · rw [e]; exact h1.1 q hq
    · rw [e]
      refine .inr fun e2 => ?_
      have := ((h.own q (List.mem_cons_of_mem _ hq)).lt _ e2.symm).2
      omega
end

section
variable {P : Program} {W : World} {rs : List Rw}
theorem wp_append_row {o : Oper} {a : Act} {K : Act → World → Prop} {Q : Exit → Act → World → Prop} (s x : Operand) (t : TypeId)
    (ho : o.op = .call { callee := .builtin .append, args := #[s, x], argTypes := #[t, t] })
    {e : TypeId} {z : Value} {size bytes : Nat} (ht : P.underlying t = some (.slice e)) (hi : (P.info? e).map (fun i => (i.zero, i.size, i.bytes)) = some (some z, size, bytes)) (hzs : z.cells.size = size) (hk : (decide (0 < size) && decide (bytes ≤ 4096)) = true)
    {w : World} {v : Value} {n : Nat} {xs : List Value} (hR : Rws W (⟨v, e, size, n, xs⟩ :: rs) w) {B : Nat} {A : Option Addr} {m c : Nat} {news : List Value} (hs : a.eval s = v) (hx : a.eval x = .slice A m c) (hr : Reads w B size A m news) (h1 : ∀ u ∈ news, u.oneCell' = true)
    (hnm : n + m ≤ 4294967296)
    (h : ∀ v' w', Rws W (⟨v', e, size, n + m, xs ++ news⟩ :: rs) w' → Below W.heap.size W w' → K (a.put o.dst v') w') : o.wp P a w K Q := by
  obtain ⟨i0, hi0, hz0, hz1, hz2⟩ := info_parts hi
  have hk := hk
  simp only [Bool.and_eq_true, decide_eq_true_eq] at hk
  have hbytes : (n + m) * bytes ≤ 4294967296 * 4096 := Nat.mul_le_mul hnm hk.2
  refine wp_append_any w s x t ho W.heap.size e i0 z size bytes ht hi0 hz0 hz1 hz2 hzs hk.1 v n xs hs hR.head B A m c news hx hr h1 (by unfold maxLen; omega) (by omega) hR.size fun v' w' a1 a2 a3 => ?_
  have hR' := hR.grown a2 a1 a3
  exact h v' w' hR' hR'.below
theorem wpList_append_row {ops : Array Oper} {rest : List Oper} {o : Oper} {a : Act} {Q : Exit → Act → World → Prop} (hgd : o.guard = none) (s x : Operand) (t : TypeId)
    (ho : o.op = .call { callee := .builtin .append, args := #[s, x], argTypes := #[t, t] })
    {e : TypeId} {z : Value} {size bytes : Nat} (ht : P.underlying t = some (.slice e)) (hi : (P.info? e).map (fun i => (i.zero, i.size, i.bytes)) = some (some z, size, bytes)) (hzs : z.cells.size = size) (hk : (decide (0 < size) && decide (bytes ≤ 4096)) = true)
    {w : World} {v : Value} {n : Nat} {xs : List Value} (hR : Rws W (⟨v, e, size, n, xs⟩ :: rs) w) {B : Nat} {A : Option Addr} {m c : Nat} {news : List Value} (hs : a.eval s = v) (hx : a.eval x = .slice A m c) (hr : Reads w B size A m news) (h1 : ∀ u ∈ news, u.oneCell' = true)
    (hnm : n + m ≤ 4294967296)
    (h : ∀ v' w', Rws W (⟨v', e, size, n + m, xs ++ news⟩ :: rs) w' → Below W.heap.size W w' → wpList P ops Q rest (a.put o.dst v') w') : wpList P ops Q (o :: rest) a w :=
  wpList_plain hgd fun _ hK => wp_append_row s x t ho ht hi hzs hk hR hs hx hr h1 hnm fun v' w' h2 h3 => hK _ _ (h v' w' h2 h3)
/-- one element, just boxed, behind a row -/
theorem wpList_append_one {ops : Array Oper} {rest : List Oper} {o : Oper} {a : Act} {Q : Exit → Act → World → Prop} (hgd : o.guard = none) (s x : Operand) (t : TypeId)
    (ho : o.op = .call { callee := .builtin .append, args := #[s, x], argTypes := #[t, t] })
    {e : TypeId} {z : Value} {size bytes : Nat} (ht : P.underlying t = some (.slice e)) (hi : (P.info? e).map (fun i => (i.zero, i.size, i.bytes)) = some (some z, size, bytes)) (hzs : z.cells.size = size) (hk : (decide (0 < size) && decide (bytes ≤ 4096)) = true)
    {w : World} {cs : Array Value} {v : Value} {n : Nat} {xs : List Value} (hR : Rws W (⟨v, e, size, n, xs⟩ :: rs) w) (hs : a.eval s = v) (hx : a.eval x = .slice (some ⟨w.heap.size, 0, none⟩) 1 1) (hcs : cs.size = size) (h1 : ∀ u ∈ cs.toList, u.oneCell' = true)
    (hnm : n + 1 ≤ 4294967296)
    (h : ∀ v' w', Rws W (⟨v', e, size, n + 1, xs ++ cs.toList⟩ :: rs) w' → Below W.heap.size W w' → wpList P ops Q rest (a.put o.dst v') w') : wpList P ops Q (o :: rest) a (w.alloc (.cells cs e)) :=
  wpList_append_row hgd s x t ho ht hi hzs hk (hR.alloc _) hs hx (Blk.reads (Blk.new w e cs) rfl (by simp [hcs])) h1 hnm h
/-- in a region that draws: elements that lie in a block, behind a row -/
theorem step_append_box {ops : Array Oper} {o : Oper} {a : Act} {K : Act → World → Prop} {Q : Exit → Act → World → Prop} {E : Prop} (hgd : o.guard = none) (s x : Operand) (t : TypeId)
    (ho : o.op = .call { callee := .builtin .append, args := #[s, x], argTypes := #[t, t] })
    {e : TypeId} {z : Value} {size bytes : Nat} (ht : P.underlying t = some (.slice e)) (hi : (P.info? e).map (fun i => (i.zero, i.size, i.bytes)) = some (some z, size, bytes)) (hzs : z.cells.size = size) (hk : (decide (0 < size) && decide (bytes ≤ 4096)) = true)
    {w : World} {cs : Array Value} {g : Nat} {v : Value} {n : Nat} {xs : List Value} (hR : Rws W (⟨v, e, size, n, xs⟩ :: rs) w) (hB : Blk w g e cs) (hs : a.eval s = v) (hx : a.eval x = .slice (some ⟨g, 0, none⟩) 1 1) (hcs : cs.size = size) (h1 : ∀ u ∈ cs.toList, u.oneCell' = true)
    (hnm : n + 1 ≤ 4294967296)
    (h : ∀ v' w', Rws W (⟨v', e, size, n + 1, xs ++ cs.toList⟩ :: rs) w' → Below W.heap.size W w' → K (a.put o.dst v') w') :
    if Region.wanted o (yielded ops a.tmps) = true then Oper.wp P o a w K Q else E := by
  have hw : Region.wanted o (yielded ops a.tmps) = true := by simp [Region.wanted, hgd]
  rw [if_pos hw]
  exact wp_append_row s x t ho ht hi hzs hk hR hs hx (hB.reads rfl (by simp [hcs])) h1 hnm h
theorem own_blk_ne {w : World} {base : Nat} {e : TypeId} {size n g : Nat} {v : Value} {xs : List Value} {t : TypeId} {cs : Array Value} (h : w.ownsRow base e size v n xs) (hg : Blk w g t cs) (hne : e ≠ t) : some g ≠ v.ownBlock := by
  rcases h.2 with ⟨rfl, _⟩ | ⟨g', cap, cur, rfl, _, hh, _⟩
  · simp [Value.ownBlock]
  · intro he
    have : g = g' := by simpa [Value.ownBlock] using he
    subst this
    unfold Blk at hg
    rw [hg] at hh
    injection hh with hh
    injection hh with _ ht
    exact hne ht.symm
/-- the same; a block of another type stays -/
theorem step_append_keep {ops : Array Oper} {o : Oper} {a : Act} {K : Act → World → Prop} {Q : Exit → Act → World → Prop} {E : Prop} (hgd : o.guard = none) (s x : Operand) (t : TypeId)
    (ho : o.op = .call { callee := .builtin .append, args := #[s, x], argTypes := #[t, t] })
    {e : TypeId} {z : Value} {size bytes : Nat} (ht : P.underlying t = some (.slice e)) (hi : (P.info? e).map (fun i => (i.zero, i.size, i.bytes)) = some (some z, size, bytes)) (hzs : z.cells.size = size) (hk : (decide (0 < size) && decide (bytes ≤ 4096)) = true)
    {w : World} {cs : Array Value} {g : Nat} {v : Value} {n : Nat} {xs : List Value} (hR : Rws W (⟨v, e, size, n, xs⟩ :: rs) w) (hB : Blk w g e cs) (hs : a.eval s = v) (hx : a.eval x = .slice (some ⟨g, 0, none⟩) 1 1) (hcs : cs.size = size) (h1 : ∀ u ∈ cs.toList, u.oneCell' = true)
    (hnm : n + 1 ≤ 4294967296) {gT : Nat} {T : TypeId} {csT : Array Value} (hT : Blk w gT T csT) (hne : e ≠ T)
    (h : ∀ v' w', Rws W (⟨v', e, size, n + 1, xs ++ cs.toList⟩ :: rs) w' → Below W.heap.size W w' → Blk w' gT T csT → K (a.put o.dst v') w') :
    if Region.wanted o (yielded ops a.tmps) = true then Oper.wp P o a w K Q else E := by
  have hw : Region.wanted o (yielded ops a.tmps) = true := by simp [Region.wanted, hgd]
  rw [if_pos hw]
  obtain ⟨i0, hi0, hz0, hz1, hz2⟩ := info_parts hi
  have hk := hk
  simp only [Bool.and_eq_true, decide_eq_true_eq] at hk
  have hbytes : (n + 1) * bytes ≤ 4294967296 * 4096 := Nat.mul_le_mul hnm hk.2
  refine wp_append_any w s x t ho W.heap.size e i0 z size bytes ht hi0 hz0 hz1 hz2 hzs hk.1 v n xs hs hR.head w.heap.size _ 1 1 cs.toList hx (hB.reads rfl (by simp [hcs])) h1 (by unfold maxLen; omega) (by omega) hR.size fun v' w' a1 a2 a3 => ?_
  have hR' := hR.grown a2 a1 a3
  exact h v' w' hR' hR'.below (hT.grown a2 (own_blk_ne hR.head hT hne))
/-- one element, just boxed, behind a row; what else stands is told -/
theorem wpList_append_oneG {ops : Array Oper} {rest : List Oper} {o : Oper} {a : Act} {Q : Exit → Act → World → Prop} (hgd : o.guard = none) (s x : Operand) (t : TypeId)
    (ho : o.op = .call { callee := .builtin .append, args := #[s, x], argTypes := #[t, t] })
    {e : TypeId} {z : Value} {size bytes : Nat} (ht : P.underlying t = some (.slice e)) (hi : (P.info? e).map (fun i => (i.zero, i.size, i.bytes)) = some (some z, size, bytes)) (hzs : z.cells.size = size) (hk : (decide (0 < size) && decide (bytes ≤ 4096)) = true)
    {w : World} {cs : Array Value} {v : Value} {n : Nat} {xs : List Value} (hR : Rws W (⟨v, e, size, n, xs⟩ :: rs) w) (hs : a.eval s = v) (hx : a.eval x = .slice (some ⟨w.heap.size, 0, none⟩) 1 1) (hcs : cs.size = size) (h1 : ∀ u ∈ cs.toList, u.oneCell' = true)
    (hnm : n + 1 ≤ 4294967296)
    (h : ∀ v' w', Rws W (⟨v', e, size, n + 1, xs ++ cs.toList⟩ :: rs) w' → Below W.heap.size W w' → (w.alloc (.cells cs e)).grownBy w' v.ownBlock → wpList P ops Q rest (a.put o.dst v') w') : wpList P ops Q (o :: rest) a (w.alloc (.cells cs e)) := by
  refine wpList_plain hgd fun _ hK => ?_
  obtain ⟨i0, hi0, hz0, hz1, hz2⟩ := info_parts hi
  have hk := hk
  simp only [Bool.and_eq_true, decide_eq_true_eq] at hk
  have hbytes : (n + 1) * bytes ≤ 4294967296 * 4096 := Nat.mul_le_mul hnm hk.2
  have hR1 := hR.alloc (.cells cs e)
  refine wp_append_any _ s x t ho W.heap.size e i0 z size bytes ht hi0 hz0 hz1 hz2 hzs hk.1 v n xs hs hR1.head _ _ 1 1 cs.toList hx (Blk.reads (Blk.new w e cs) rfl (by simp [hcs])) h1 (by unfold maxLen; omega) (by omega) hR1.size fun v' w' a1 a2 a3 => ?_
  have hR' := hR1.grown a2 a1 a3
  exact hK _ _ (h v' w' hR' hR'.below a2)
end
end Go.Proofs.Ytnaiflokmihmeaa

namespace Go.Proofs.Ytnaiflokmihmeaa
open Go.RowKit
set_option linter.unusedVariables false

theorem infoI : (Try.prog.info? 3).map (fun i => (i.zero, i.size, i.bytes)) = some (some (.int .i64 0), 1, 8) := by kernel_rfl
theorem one_i (x : Int) : ∀ u ∈ (#[.int .i64 x] : Array Value).toList, u.oneCell' = true := by intro u hu; simp at hu; subst hu; rfl
theorem i64_w (x : Int) (h0 : -9223372036854775808 ≤ x) (h1 : x ≤ 9223372036854775807) : IntKind.i64.wrap x = x := IntWalk.i64_in _ (by omega)
/-- v is a row of the call's own that holds xs -/
def IRow (w : World) (v : Value) (xs : List Int) (wr : World) : Prop := Rws w [⟨v, 3, 1, xs.length, cellsI xs⟩] wr
section
variable {w wr w' : World} {v v' : Value} {xs : List Int} {n : Nat}
theorem IRow.ints (h : IRow w v xs wr) : ∃ A c, v = .slice A xs.length c ∧ xs.length ≤ c ∧ c ≤ maxLen ∧ IntsAt wr wr.heap.size A xs := IntsAt.of_own (Rws.head h)
theorem IRow.intsV (h : IRow w v xs wr) : IntsV wr v xs := IntsAt.of_own (Rws.head h)
theorem IRow.row (h : IRow w v xs wr) (hn : xs.length = n) : Rws w (⟨v, 3, 1, n, cellsI xs⟩ :: []) wr := by subst hn; exact h
theorem IRow.add {x : Int} (hn : xs.length = n) (h : Rws w [⟨v', 3, 1, n + 1, cellsI xs ++ (#[.int .i64 x] : Array Value).toList⟩] wr) : IRow w v' (xs ++ [x]) wr := by
  subst hn
  have e : cellsI (xs ++ [x]) = cellsI xs ++ [.int .i64 x] := by simp [cellsI]
  unfold IRow
  rw [e, List.length_append]
  exact h
theorem IRow.nil (h : Below w.heap.size w wr) : IRow w (.slice none 0 0) [] wr := (Rws.begin h).nil _ _
theorem IRow.next (h : IRow w v xs wr) (hb : Below wr.heap.size wr w') : IRow w v xs w' := Rws.next h hb
theorem IRow.drewN (h : IRow w v xs wr) (n : Nat) : IRow w v xs (wr.drewN n) := Rws.drewN h n
theorem IRow.bel (h : IRow w v xs wr) : Below w.heap.size w wr := Rws.below h
theorem IRow.re {ys : List Int} (h : IRow w v xs wr) (e : ys = xs) : IRow w v ys wr := e ▸ h
end
end Go.Proofs.Ytnaiflokmihmeaa

namespace Go.Proofs.Ytnaiflokmihmeaa
open Go.RowKit
set_option linter.unusedVariables false

/-- one element behind a row of any length within the reach -/
theorem wpList_append_oneL {P : Program} {W : World} {rs : List Rw} {ops : Array Oper} {rest : List Oper} {o : Oper} {a : Act} {Q : Exit → Act → World → Prop} (hgd : o.guard = none) (s x : Operand) (t : TypeId)
    (ho : o.op = .call { callee := .builtin .append, args := #[s, x], argTypes := #[t, t] })
    {e : TypeId} {z : Value} {size bytes : Nat} (ht : P.underlying t = some (.slice e)) (hi : (P.info? e).map (fun i => (i.zero, i.size, i.bytes)) = some (some z, size, bytes)) (hzs : z.cells.size = size) (hk : (decide (0 < size) && decide (bytes ≤ 4096)) = true)
    {w : World} {cs : Array Value} {v : Value} {n : Nat} {xs : List Value} (hR : Rws W (⟨v, e, size, n, xs⟩ :: rs) w) (hs : a.eval s = v) (hx : a.eval x = .slice (some ⟨w.heap.size, 0, none⟩) 1 1) (hcs : cs.size = size) (h1 : ∀ u ∈ cs.toList, u.oneCell' = true)
    (hnm : n + 1 ≤ maxLen) (hby : (n + 1) * bytes ≤ 140737488355328)
    (h : ∀ v' w', Rws W (⟨v', e, size, n + 1, xs ++ cs.toList⟩ :: rs) w' → Below W.heap.size W w' → wpList P ops Q rest (a.put o.dst v') w') : wpList P ops Q (o :: rest) a (w.alloc (.cells cs e)) := by
  refine wpList_plain hgd fun _ hK => ?_
  obtain ⟨i0, hi0, hz0, hz1, hz2⟩ := info_parts hi
  have hk := hk
  simp only [Bool.and_eq_true, decide_eq_true_eq] at hk
  have hR1 := hR.alloc (.cells cs e)
  refine wp_append_any _ s x t ho W.heap.size e i0 z size bytes ht hi0 hz0 hz1 hz2 hzs hk.1 v n xs hs hR1.head _ _ 1 1 cs.toList hx (Blk.reads (Blk.new w e cs) rfl (by simp [hcs])) h1 hnm hby hR1.size fun v' w' a1 a2 a3 => ?_
  have hR' := hR1.grown a2 a1 a3
  exact hK _ _ (h v' w' hR' hR'.below)
end Go.Proofs.Ytnaiflokmihmeaa

namespace Go.Proofs.Ytnaiflokmihmeaa
open Go.RowKit
set_option linter.unusedVariables false
set_option linter.unusedSimpArgs false

def ixI (p : Int → Bool) (xs : List Int) : Int := match xs.findIdx? p with | some i => i | none => -1
theorem ixI_found {p : Int → Bool} {xs : List Int} {k : Nat} {x : Int} (hx : xs[k]? = some x) (hp : p x = true) (h : ∀ j < k, ∀ y, xs[j]? = some y → p y = false) : ixI p xs = k := by
  unfold ixI
  have : xs.findIdx? p = some k := by
    rw [List.findIdx?_eq_some_iff_getElem]
    obtain ⟨hl, hx2⟩ := List.getElem?_eq_some_iff.1 hx
    refine ⟨hl, by rw [hx2]; exact hp, fun j hj => ?_⟩
    have := h j hj _ (List.getElem?_eq_getElem (by omega))
    simp [this]
  rw [this]
theorem ixI_none {p : Int → Bool} {xs : List Int} (h : ∀ j < xs.length, ∀ y, xs[j]? = some y → p y = false) : ixI p xs = -1 := by
  unfold ixI
  have : xs.findIdx? p = none := by
    rw [List.findIdx?_eq_none_iff]
    intro x hx
    obtain ⟨j, hj⟩ := List.mem_iff_getElem?.1 hx
    exact h j (List.getElem?_eq_some_iff.1 hj).1 x hj
  rw [this]
theorem ixI_any (p : Int → Bool) (xs : List Int) : decide (0 ≤ ixI p xs) = xs.any p := by
  unfold ixI
  cases h : xs.findIdx? p with
  | none =>
    have h1 := List.findIdx?_eq_none_iff.1 h
    have : xs.any p = false := by rw [List.any_eq_false]; intro x hx; simp [h1 x hx]
    rw [this]; simp
  | some i =>
    obtain ⟨hl, hp, _⟩ := List.findIdx?_eq_some_iff_getElem.1 h
    have : xs.any p = true := List.any_eq_true.2 ⟨_, List.getElem_mem hl, hp⟩
    rw [this]; simp
theorem ixI_lo (p : Int → Bool) (xs : List Int) : -1 ≤ ixI p xs := by unfold ixI; split <;> omega

set_option maxHeartbeats 1000000 in
theorem ixI_walk (xs : List Int) (A : Option Addr) (n c : Nat) (x : Int) (w : World) (hn : n = xs.length) (hm : n ≤ 9223372036854775807) (h : IntsAt w w.heap.size A xs) :
    Calls Try.prog 83 #[.slice A n c, .int .i64 x] w fun e w' => e = .returned (.int .i64 (ixI (fun y => x == y) xs)) ∧ w' = w := by
  have HN := Lib.hid hn; clear hn
  have H := Lib.hid h; clear h
  go_enter Try.func83, Try.ntmps83
  go_wp2_with fail
  go_loop [8] (fun i => ∃ k : Nat, k ≤ n ∧ i = .int .i64 k ∧ Hid (∀ j < k, ∀ y, xs[j]? = some y → (x == y) = false)) (fun i => n - (intOf i).toNat)
  case atStart => exact ⟨0, Nat.zero_le _, rfl, forall_lt_zero⟩
  case round =>
    obtain ⟨k, hk, rfl, hall⟩ := hrel
    by_cases hlt : k < n
    · obtain ⟨y, hy⟩ := get_of_lt HN.out hlt
      obtain ⟨b, off, rfl, hb, h0⟩ := H.out k y hy
      have HY := Lib.hid hy; clear hy
      by_cases hp : (x == y) = true
      · have HF := Lib.hid (ixI_found (p := fun y => x == y) HY.out hp hall.out)
        go_wp2_with fail
        go_ret
        exact ⟨ret_int HF.out.symm, rfl⟩
      · have hp' : (x == y) = false := by simpa using hp
        clear hp
        have HP := Lib.hid hp'
        go_wp2_with fail
        go_round
        case rel => exact ⟨k+1, by omega, by go_num, forall_lt_succ hall.out (fun y' hy' => by rw [HY.out] at hy'; cases hy'; exact HP.out)⟩
        case measure => simp [intOf]; omega
    · obtain rfl : k = n := by omega
      go_wp2_with fail
      go_ret
      exact ⟨ret_int (ixI_none (by rw [← HN.out]; exact hall.out)).symm, rfl⟩
theorem hasI_any (xs : List Int) (A : Option Addr) (n c : Nat) (x : Int) (w : World) (hn : n = xs.length) (hm : n ≤ 9223372036854775807) (h : IntsAt w w.heap.size A xs) {r : Bool} (hr : decide (x ∈ xs) = r) :
    Calls Try.prog 78 #[.slice A n c, .int .i64 x] w fun e w' => e = .returned (.bool r) ∧ w' = w := by
  have HC := Lib.hid (ixI_walk xs A n c x w hn hm h)
  have HD : Hid (decide (0 ≤ ixI (fun y => x == y) xs) = r) := Lib.hid (by
    rw [ixI_any, ← hr, Bool.eq_iff_iff, List.any_eq_true, decide_eq_true_eq]
    constructor
    · rintro ⟨y, hy, e⟩; rw [beq_iff_eq.1 e]; exact hy
    · exact fun hx => ⟨x, hx, beq_self_eq_true _⟩)
  clear hn h hr
  obtain ⟨i, hi⟩ : ∃ i, ixI (fun y => x == y) xs = i := ⟨_, rfl⟩
  rw [hi] at HC HD
  clear hi
  go_enter Try.func78, Try.ntmps78
  go_wp2_with fail
  refine HC.out.mono ?_
  rintro e w' ⟨rfl, rfl⟩
  go_wp2_with fail
  go_ret
  exact ⟨ret_bool HD.out, rfl⟩
end Go.Proofs.Ytnaiflokmihmeaa

namespace Go.Proofs.Ytnaiflokmihmeaa
open Go.RowKit Go.ChangeShapes Go.WideShapes Go.Deep
set_option linter.unusedVariables false
set_option linter.unusedSimpArgs false

/-- the slice at A holds the bools xs -/
def BoolsAt (w : World) (B : Nat) (A : Option Addr) (xs : List Bool) : Prop :=
  ∀ k x, xs[k]? = some x → ∃ b off, A = some ⟨b, off, none⟩ ∧ b < B ∧ w.cell? ⟨b, off + k, none⟩ = some (.bool x)
section
variable {w w' : World} {B B' : Nat} {A : Option Addr} {xs : List Bool}
theorem BoolsAt.below (h : BoolsAt w B A xs) (hb : Below B' w w') (hB : B ≤ B') : BoolsAt w' B A xs := by
  intro k x hx
  obtain ⟨b, off, hA, hlt, h0⟩ := h k x hx
  exact ⟨b, off, hA, hlt, (hb.cell (p := ⟨b, _, none⟩) (Nat.lt_of_lt_of_le hlt hB)).trans h0⟩
theorem BoolsAt.more (h : BoolsAt w B A xs) (hB : B ≤ B') : BoolsAt w B' A xs := by
  intro k x hx
  obtain ⟨b, off, hA, hlt, h0⟩ := h k x hx
  exact ⟨b, off, hA, Nat.lt_of_lt_of_le hlt hB, h0⟩
theorem BoolsAt.nil : BoolsAt w B A [] := fun k x h => by simp at h
theorem BoolsAt.next (h : BoolsAt w w.heap.size A xs) (hb : Below w.heap.size w w') : BoolsAt w' w'.heap.size A xs := (h.below hb (Nat.le_refl _)).more hb.size
def cellsB (xs : List Bool) : List Value := xs.map fun x => .bool x
theorem cellsB_length (xs : List Bool) : (cellsB xs).length = xs.length := by simp [cellsB]
theorem cellsB_oneCell (xs : List Bool) : ∀ x ∈ cellsB xs, x.oneCell' = true := by
  intro x hx
  simp only [cellsB, List.mem_map] at hx
  obtain ⟨u, _, rfl⟩ := hx
  rfl
theorem BoolsAt.reads (h : BoolsAt w B A xs) : Reads w B 1 A xs.length (cellsB xs) := by
  refine ⟨by simp [cellsB], fun hn => ?_⟩
  obtain ⟨u0, hu0⟩ := get_of_lt rfl hn
  obtain ⟨b, off, hA, hb, _⟩ := h 0 u0 hu0
  refine ⟨_, hA, hb, fun j v hv => ?_⟩
  simp only [cellsB, List.getElem?_map] at hv
  cases hx : xs[j]? with
  | none => simp [hx] at hv
  | some x =>
    rw [hx] at hv
    obtain ⟨b', off', hA', _, c0⟩ := h _ x hx
    rw [hA] at hA'; cases hA'
    rw [Addr.add_lit, c0]; simpa using hv
theorem BoolsAt.of_own {base : Nat} {e : TypeId} {v : Value} {n : Nat} (h : w.ownsRow base e 1 v n (cellsB xs)) :
    n = xs.length ∧ ∃ A c, v = .slice A n c ∧ n ≤ c ∧ c ≤ maxLen ∧ BoolsAt w w.heap.size A xs := by
  have hn : n = xs.length := by have := h.1; simp [cellsB] at this; omega
  refine ⟨hn, ?_⟩
  have H := h
  obtain ⟨h1, h2⟩ := h
  rcases h2 with ⟨rfl, hx⟩ | ⟨g, cap, cur, rfl, hg, hh, hnc, hm, hs, hc⟩
  · subst hx
    have : xs = [] := List.eq_nil_of_length_eq_zero (by omega)
    subst this
    exact ⟨none, 0, rfl, Nat.le_refl _, by unfold maxLen; omega, BoolsAt.nil⟩
  · refine ⟨some ⟨g, 0, none⟩, cap, rfl, hnc, hm, fun k x hx => ?_⟩
    have hglt : g < w.heap.size := by
      rcases Nat.lt_or_ge g w.heap.size with h' | h'
      · exact h'
      · rw [Array.getElem?_eq_none h'] at hh; cases hh
    have h0 := H.cells (g := g) rfl k (.bool x) (by simp [cellsB, hx])
    exact ⟨g, 0, rfl, hglt, by rwa [Addr.add_lit] at h0⟩
end
theorem infoBo : (Try.prog.info? 4).map (fun i => (i.zero, i.size, i.bytes)) = some (some (.bool false), 1, 1) := by kernel_rfl
/-- slices.Clone gives a row of its own -/
def ClonePost (e : TypeId) (n : Nat) (cs : List Value) (w : World) (x : Ending) (w' : World) : Prop := ∃ v, x = .returned v ∧ w'.ownsRow w.heap.size e 1 v n cs ∧ Below w.heap.size w w'
theorem cloneI_any (xs : List Int) (A : Option Addr) (n c : Nat) (w : World) (hn : n = xs.length) (hm : n ≤ 1000000) (h : IntsAt w w.heap.size A xs) :
    Calls Try.prog 15 #[.slice A n c] w (ClonePost 3 n (cellsI xs) w) := by
  have hnil := fun W => Lib.run_eql_slice_nil (P := Try.prog) W 22 3 A n c 0 0 Try.underlying22
  obtain ⟨i0, hi0, hz0, hz1, hz2⟩ := info_parts infoI
  cases A with
  | none =>
    have hus : xs = [] := by
      cases xs with
      | nil => rfl
      | cons a l => obtain ⟨b, off, hA, _⟩ := h 0 a rfl; cases hA
    subst hus
    have hn0 : n = 0 := hn
    subst hn0
    clear h hn
    go_enter Try.func15, Try.ntmps15
    go_wp2_with fail
    go_ret
    exact ⟨_, rfl, World.ownsRow_nil _ _ _ _, Below.refl _ _⟩
  | some ad =>
    have HR := Lib.hid h.reads
    have HN := Lib.hid hn; clear hn h
    go_enter Try.func15, Try.ntmps15
    go_wp2_with (at_builtin; refine wpList_append_any _ rfl (.tmp 5) (.tmp 6) _ rfl w.heap.size 3 i0 _ 1 8 Try.underlying22 hi0 hz0 hz1 hz2 rfl (by omega) _ 0 [] rfl (Blk.owns (Blk.new _ _ _) (Nat.le_refl _)) w.heap.size (some ad) n c (cellsI xs) rfl (by rw [HN.out]; exact HR.out.alloc (Nat.le_refl _) _) (cellsI_oneCell xs) (by unfold maxLen; omega) (by omega) (by simp) ?_; intro v2 w2 hown2 hg2 hat2)
    go_ret
    refine ⟨_, rfl, by simpa using hown2, ?_⟩
    exact ((Below.refl _ _).alloc (Nat.le_refl _) _).grown hg2 (by simp) (by intro k hk; cases hk; exact Nat.le_refl _)
theorem cloneB_any (xs : List Bool) (A : Option Addr) (n c : Nat) (w : World) (hn : n = xs.length) (hm : n ≤ 1000000) (h : BoolsAt w w.heap.size A xs) :
    Calls Try.prog 16 #[.slice A n c] w (ClonePost 4 n (cellsB xs) w) := by
  have hnil := fun W => Lib.run_eql_slice_nil (P := Try.prog) W 23 4 A n c 0 0 Try.underlying23
  obtain ⟨i0, hi0, hz0, hz1, hz2⟩ := info_parts infoBo
  cases A with
  | none =>
    have hus : xs = [] := by
      cases xs with
      | nil => rfl
      | cons a l => obtain ⟨b, off, hA, _⟩ := h 0 a rfl; cases hA
    subst hus
    have hn0 : n = 0 := hn
    subst hn0
    clear h hn
    go_enter Try.func16, Try.ntmps16
    go_wp2_with fail
    go_ret
    exact ⟨_, rfl, World.ownsRow_nil _ _ _ _, Below.refl _ _⟩
  | some ad =>
    have HR := Lib.hid h.reads
    have HN := Lib.hid hn; clear hn h
    go_enter Try.func16, Try.ntmps16
    go_wp2_with (at_builtin; refine wpList_append_any _ rfl (.tmp 5) (.tmp 6) _ rfl w.heap.size 4 i0 _ 1 1 Try.underlying23 hi0 hz0 hz1 hz2 rfl (by omega) _ 0 [] rfl (Blk.owns (Blk.new _ _ _) (Nat.le_refl _)) w.heap.size (some ad) n c (cellsB xs) rfl (by rw [HN.out]; exact HR.out.alloc (Nat.le_refl _) _) (cellsB_oneCell xs) (by unfold maxLen; omega) (by omega) (by simp) ?_; intro v2 w2 hown2 hg2 hat2)
    go_ret
    refine ⟨_, rfl, by simpa using hown2, ?_⟩
    exact ((Below.refl _ _).alloc (Nat.le_refl _) _).grown hg2 (by simp) (by intro k hk; cases hk; exact Nat.le_refl _)
/-- a row joins the call's own rows -/
theorem Rws.more {W w w' : World} {rs : List Rw} {e : TypeId} {s n : Nat} {v : Value} {xs : List Value} (h : Rws W rs w) (hb : Below w.heap.size w w') (ho : w'.ownsRow w.heap.size e s v n xs) : Rws W (⟨v, e, s, n, xs⟩ :: rs) w' := by
  have h2 := h.next hb
  refine ⟨h2.below, fun r hr => ?_, List.pairwise_cons.2 ⟨fun r hr => ?_, h2.apart⟩⟩
  · rcases List.mem_cons.1 hr with rfl | hr
    · exact own_mono ho h.below.size
    · exact h2.own r hr
  · show v.ownBlock = none ∨ v.ownBlock ≠ r.v.ownBlock
    cases hv : v.ownBlock with
    | none => exact .inl rfl
    | some k =>
      right
      intro e
      have h3 := ((h.own r hr).lt k e.symm).2
      have h4 := (ho.lt k hv).1
      omega

set_option maxHeartbeats 1000000 in
theorem equalB_any (xs ys : List Bool) (A B : Option Addr) (n m c d : Nat) (w : World) (hn : n = xs.length) (hm : m = ys.length) (hx : n ≤ 9223372036854775807) (hy : m ≤ 9223372036854775807) (h : BoolsAt w w.heap.size A xs) (h' : BoolsAt w w.heap.size B ys) {r : Bool} (hr : decide (xs = ys) = r) :
    Calls Try.prog 65 #[.slice A n c, .slice B m d] w fun e w' => e = .returned (.bool r) ∧ Below w.heap.size w w' := by
  have HN := Lib.hid hn; clear hn
  have HM := Lib.hid hm; clear hm
  have H := Lib.hid h; clear h
  have H' := Lib.hid h'; clear h'
  have HR := Lib.hid hr; clear hr
  by_cases hnm : n = m
  · subst hnm
    go_enter Try.func65, Try.ntmps65
    go_wp2_with fail
    go_loopg [13] n (fun k i wr => ∃ j : Nat, k = n - j ∧ j ≤ n ∧ i = .int .i64 j ∧ Hid (Below w.heap.size w wr) ∧ Hid (xs.take j = ys.take j))
    case atStart => exact ⟨0, by omega, Nat.zero_le _, rfl, Below.refl _ _, rfl⟩
    case round =>
      obtain ⟨j, hgk, hj, rfl, hbel, hall⟩ := hrel
      have HGK := Lib.hid hgk; clear hgk
      by_cases hlt : j < n
      · obtain ⟨u, hu⟩ := get_of_lt HN.out hlt
        obtain ⟨v, hv⟩ := get_of_lt HM.out hlt
        obtain ⟨b, off, rfl, hb, h0⟩ := H.out j u hu
        obtain ⟨b', off', rfl, hb', h0'⟩ := H'.out j v hv
        have g0 := (hbel.out.cell (p := ⟨b, off + j, none⟩) hb).trans h0
        have g0' := (hbel.out.cell (p := ⟨b', off' + j, none⟩) hb').trans h0'
        clear h0 h0'
        have i1 : (0 : Int) ≤ (j : Int) := by omega
        have i2 : (j : Int) < (n : Int) := by omega
        by_cases huv : u = v
        · subst huv
          have HT : Hid (xs.take (j+1) = ys.take (j+1)) := Lib.hid (by rw [List.take_add_one, List.take_add_one, hall.out, hu, hv])
          clear hu hv
          cases u
          all_goals
            go_wp2_with fail
            go_quiet (fail)
            go_wp2_with fail
            go_roundg (n - (j + 1))
            case measure => rw [HGK.out]; omega
            case rel => exact ⟨j+1, rfl, by omega, by go_num, below_drewN hbel.out _, HT.out⟩
        · have HF : Hid (false = r) := Lib.hid (by
            rw [← HR.out]
            refine (decide_eq_false fun e => huv ?_).symm
            rw [e, hv] at hu
            exact (Option.some.inj hu).symm)
          clear hu hv
          cases u <;> cases v
          case' false.false => exact absurd rfl huv
          case' true.true => exact absurd rfl huv
          all_goals
            clear huv
            go_wp2_with fail
            go_quiet (fail)
            go_wp2_with fail
            go_ret
            exact ⟨ret_bool HF.out, below_drewN hbel.out _⟩
      · obtain rfl : j = n := by omega
        have HT : Hid (true = r) := Lib.hid (by
          rw [← HR.out]
          refine (decide_eq_true ?_).symm
          have := hall.out
          rw [HN.out, List.take_length] at this
          rw [this, ← HN.out, HM.out, List.take_length])
        go_wp2_with fail
        go_ret
        exact ⟨ret_bool HT.out, hbel.out⟩
  · have HF : Hid (false = r) := Lib.hid (by
      rw [← HR.out]
      exact (decide_eq_false fun e => hnm (by rw [HN.out, HM.out, e])).symm)
    have hne : ((n : Int) != (m : Int)) = true := by simp; omega
    clear hnm
    go_enter Try.func65, Try.ntmps65
    go_wp2_with fail
    go_ret
    exact ⟨ret_bool HF.out, Below.refl _ _⟩
end Go.Proofs.Ytnaiflokmihmeaa

namespace Go.Proofs.Ytnaiflokmihmeaa
open Go.RowKit
set_option linter.unusedVariables false
set_option linter.unusedSimpArgs false

set_option maxHeartbeats 1000000 in
theorem equalI_any (xs ys : List Int) (A B : Option Addr) (n m c d : Nat) (w : World) (hn : n = xs.length) (hm : m = ys.length) (hx : n ≤ 9223372036854775807) (hy : m ≤ 9223372036854775807) (h : IntsAt w w.heap.size A xs) (h' : IntsAt w w.heap.size B ys) {r : Bool} (hr : decide (xs = ys) = r) :
    Calls Try.prog 64 #[.slice A n c, .slice B m d] w fun e w' => e = .returned (.bool r) ∧ Below w.heap.size w w' := by
  have HN := Lib.hid hn; clear hn
  have HM := Lib.hid hm; clear hm
  have H := Lib.hid h; clear h
  have H' := Lib.hid h'; clear h'
  have HR := Lib.hid hr; clear hr
  by_cases hnm : n = m
  · subst hnm
    go_enter Try.func64, Try.ntmps64
    go_wp2_with fail
    go_loopg [13] n (fun k i wr => ∃ j : Nat, k = n - j ∧ j ≤ n ∧ i = .int .i64 j ∧ Hid (Below w.heap.size w wr) ∧ Hid (xs.take j = ys.take j))
    case atStart => exact ⟨0, by omega, Nat.zero_le _, rfl, Below.refl _ _, rfl⟩
    case round =>
      obtain ⟨j, hgk, hj, rfl, hbel, hall⟩ := hrel
      have HGK := Lib.hid hgk; clear hgk
      by_cases hlt : j < n
      · obtain ⟨x, hx⟩ := get_of_lt HN.out hlt
        obtain ⟨y, hy⟩ := get_of_lt HM.out hlt
        obtain ⟨b, off, rfl, hb, h0⟩ := H.out j x hx
        obtain ⟨b', off', rfl, hb', h0'⟩ := H'.out j y hy
        have HX := Lib.hid (And.intro hx hy); clear hx hy
        have g0 := (hbel.out.cell (p := ⟨b, off + j, none⟩) hb).trans h0
        have g1 := (hbel.out.cell (p := ⟨b', off' + j, none⟩) hb').trans h0'
        clear h0 h0'
        have i1 : (0 : Int) ≤ (j : Int) := by omega
        have i2 : (j : Int) < (n : Int) := by omega
        by_cases hxy : x = y
        · have HT : Hid (xs.take (j+1) = ys.take (j+1)) := Lib.hid (by rw [List.take_add_one, List.take_add_one, HX.out.1, HX.out.2, hall.out, hxy])
          have hd : (x == y) = true := by simp [hxy]
          have hd' : (x != y) = false := by simp [hxy]
          clear hxy
          go_wp2_with fail
          go_quiet (fail)
          go_wp2_with fail
          go_roundg (n - (j + 1))
          case measure => rw [HGK.out]; omega
          case rel => exact ⟨j+1, rfl, by omega, by go_num, below_drewN hbel.out _, HT.out⟩
        · have HF : Hid (r = false) := Lib.hid (by
            rw [← HR.out, decide_eq_false_iff_not]
            intro he
            have h1 := HX.out.1
            rw [he, HX.out.2] at h1
            exact hxy (Option.some.inj h1).symm)
          have hd : (x == y) = false := by simp [hxy]
          have hd' : (x != y) = true := by simp [hxy]
          clear hxy
          go_wp2_with fail
          go_quiet (fail)
          go_wp2_with fail
          go_ret
          exact ⟨ret_bool HF.out.symm, below_drewN hbel.out _⟩
      · go_wp2_with fail
        go_ret
        refine ⟨ret_bool ?_, hbel.out⟩
        have h1 := hall.out
        rw [show j = n by omega] at h1
        conv at h1 => lhs; rw [HN.out]
        conv at h1 => rhs; rw [HM.out]
        rw [List.take_length, List.take_length] at h1
        rw [← HR.out, h1]; simp
  · have HF : Hid (r = false) := Lib.hid (by
      rw [← HR.out, decide_eq_false_iff_not]
      intro he
      exact hnm (by rw [HN.out, HM.out, he]))
    have hne : ((n : Int) != (m : Int)) = true := by simp; omega
    go_enter Try.func64, Try.ntmps64
    go_wp2_with fail
    go_ret
    exact ⟨ret_bool HF.out.symm, Below.refl _ _⟩
end Go.Proofs.Ytnaiflokmihmeaa

