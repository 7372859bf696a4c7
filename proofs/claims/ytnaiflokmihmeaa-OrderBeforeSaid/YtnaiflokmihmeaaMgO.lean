/- Joined texts. -/
import Derived.Test.YtnaiflokmihmeaaMgB
import Derived.Laws.OwnMore
import Derived.Test.YtnaiflokmihmeaaMgA
import Derived.Test.YtnaiflokmihmeaaChecked
import Derived.Deep.LoopGhost
import Derived.Deep.QuietTactic
import Derived.BigQuiet
import Derived.RegionTactic
import Derived.ChangeAlike
import Derived.Deep.RegionHeld3
import Derived.Deep.DeepCutAuto
import Derived.Deep.RegionLaw

/- make([]T, n); a block of integers of the call's own that is stored into. -/
namespace Go.Proofs.Ytnaiflokmihmeaa.Od
open Go.RowKit
set_option linter.unusedVariables false

theorem made_one_ (z : Value) (n : Nat) : madeCells #[z] n = Array.replicate n z := by
  apply Array.ext
  · simp [madeCells]
  · intro i h1 h2
    simp [madeCells, Nat.mod_one]
/-- make([]T, n), T of one cell -/
theorem run_make_ {P : Program} {t e : TypeId} {i : TypeInfo} {z : Value} (ht : P.underlying t = some (.slice e)) (hi : P.info? e = some i) (hz : i.zero = some z) (hz1 : i.size = 1) (hzc : z.cells = #[z])
    (n : Nat) (hb : i.bytes * n ≤ 281474976710656) (h63 : n ≤ 9223372036854775807) (w : World) :
    (Instr.makeSlice t (.int .i64 (n : Int)) (.int .i64 (n : Int))).run P w = .ok (.slice (some ⟨w.heap.size, 0, none⟩) n n) (w.alloc (.cells (Array.replicate n z) e)) := by
  have hb' : (i.bytes : Int) * (n : Int) ≤ 281474976710656 := by
    have h : ((i.bytes * n : Nat) : Int) ≤ 281474976710656 := Int.ofNat_le.2 hb
    rwa [Int.natCast_mul] at h
  have hr := run_make (P := P) w t e i z ht hi hz .i64 .i64 n n (by omega) (by omega) hb' (by omega)
  simp only [Int.toNat_natCast] at hr
  rw [hr, hz1, Nat.mul_one, hzc, made_one_]

/-- block g holds the integers xs -/
def IBlk (w : World) (g : Nat) (xs : List Int) : Prop := Blk w g 3 (cellsI xs).toArray
section
variable {w w' : World} {g : Nat} {xs : List Int}
theorem IBlk.cell (h : IBlk w g xs) {k : Nat} {x : Int} (hx : xs[k]? = some x) : w.cell? ⟨g, k, none⟩ = some (.int .i64 x) := by
  rw [Blk.cell h k]; simp [cellsI, hx]
theorem IBlk.frozen (h : IBlk w g xs) (k : Nat) : w.frozen? ⟨g, k, none⟩ = false := Blk.frozen h k
theorem IBlk.set_ (h : IBlk w g xs) (k : Nat) (y : Int) : IBlk (w.setCell ⟨g, k, none⟩ (.int .i64 y)) g (xs.set k y) := by
  have h1 := Blk.set_ h k (.int .i64 y)
  have e : (cellsI xs).toArray.setIfInBounds k (.int .i64 y) = (cellsI (xs.set k y)).toArray := by
    simp [cellsI, List.map_set]
  rw [e] at h1
  exact h1
theorem IBlk.belowB (h : IBlk w g xs) (hb : Below w.heap.size w w') : IBlk w' g xs := Blk.belowB h hb
theorem IBlk.drewN (h : IBlk w g xs) (n : Nat) : IBlk (w.drewN n) g xs := h
theorem IBlk.drew (h : IBlk w g xs) : IBlk w.drew g xs := h
theorem IBlk.alloc (h : IBlk w g xs) (o : Obj) : IBlk (w.alloc o) g xs := Blk.alloc h o
theorem IBlk.far (h : IBlk w g xs) {p : Addr} (hp : g ≠ p.block) (u : Value) : IBlk (w.setCell p u) g xs := Blk.far h hp u
theorem IBlk.lt (h : IBlk w g xs) : g < w.heap.size := Blk.lt h
theorem IBlk.re {ys : List Int} (h : IBlk w g xs) (e : ys = xs) : IBlk w g ys := e ▸ h
theorem IBlk.made (w : World) (n : Nat) : IBlk (w.alloc (.cells (Array.replicate n (.int .i64 0)) 3)) w.heap.size (List.replicate n 0) := by
  have e : (cellsI (List.replicate n 0)).toArray = Array.replicate n (.int .i64 0) := by simp [cellsI]
  unfold IBlk
  rw [e]
  exact Blk.new _ _ _
theorem IBlk.ints (h : IBlk w g xs) : IntsAt w w.heap.size (some ⟨g, 0, none⟩) xs := by
  intro k x hx
  refine ⟨g, 0, rfl, h.lt, ?_⟩
  rw [Nat.zero_add]
  exact h.cell hx
theorem IBlk.intsV (h : IBlk w g xs) {n : Nat} (hn : n = xs.length) (hm : n ≤ maxLen) : IntsV w (.slice (some ⟨g, 0, none⟩) n n) xs := ⟨_, n, by rw [hn], by rw [hn]; exact Nat.le_refl _, hm, h.ints⟩
end
theorem make_i (n : Nat) (hn : n ≤ 4294967296) (w : World) : (Instr.makeSlice 22 (.int .i64 (n : Int)) (.int .i64 (n : Int))).run Try.prog w = .ok (.slice (some ⟨w.heap.size, 0, none⟩) n n) (w.alloc (.cells (Array.replicate n (.int .i64 0)) 3)) := by
  obtain ⟨i0, hi0, hz0, hz1, hz2⟩ := info_parts infoI
  exact run_make_ Try.underlying22 hi0 hz0 hz1 rfl n (by rw [hz2]; omega) (by omega) w
end Go.Proofs.Ytnaiflokmihmeaa.Od

/- Rows of the call's own behind a block number, while blocks below are written. -/
namespace Go.Proofs.Ytnaiflokmihmeaa.Od
open Go.RowKit
set_option linter.unusedVariables false

structure RwsB (B0 : Nat) (rs : List Rw) (w : World) : Prop where
  own : ∀ r ∈ rs, w.ownsRow B0 r.e r.s r.v r.n r.xs
  apart : rs.Pairwise (fun r q => r.v.ownBlock = none ∨ r.v.ownBlock ≠ q.v.ownBlock)
theorem own_apart_symm {a b : Option Nat} (h : a = none ∨ a ≠ b) : b = none ∨ b ≠ a := by
  cases b with
  | none => exact .inl rfl
  | some k =>
    rcases h with h | h
    · rw [h]; exact .inr (by simp)
    · exact .inr (Ne.symm h)
section
variable {B0 : Nat} {w w' : World} {rs rs' : List Rw}
theorem RwsB.perm (h : RwsB B0 rs w) (hp : rs.Perm rs') : RwsB B0 rs' w :=
  ⟨fun r hr => h.own r (hp.mem_iff.2 hr), (hp.pairwise_iff (fun {x y} h => own_apart_symm h)).1 h.apart⟩
theorem RwsB.next (h : RwsB B0 rs w) (hb : Below w.heap.size w w') : RwsB B0 rs w' := ⟨fun r hr => own_below (h.own r hr) hb, h.apart⟩
theorem RwsB.alloc (h : RwsB B0 rs w) (o : Obj) : RwsB B0 rs (w.alloc o) := h.next ((Below.refl _ _).alloc (Nat.le_refl _) _)
theorem RwsB.drew (h : RwsB B0 rs w) : RwsB B0 rs w.drew := ⟨h.own, h.apart⟩
theorem RwsB.kept {row : Option Nat} (h : RwsB B0 rs w) (hg : w.grownBy w' row) (hr : ∀ k, row = some k → k < B0) : RwsB B0 rs w' := by
  refine ⟨fun r hr' => (h.own r hr').kept hg ?_, h.apart⟩
  cases hv : r.v.ownBlock with
  | none => exact .inl rfl
  | some k =>
    refine .inr fun e => ?_
    have h1 := hr k e.symm
    have h2 := ((h.own r hr').lt k hv).1
    omega
theorem setCell_grown (w : World) (p : Addr) (u : Value) : w.grownBy (w.setCell p u) (some p.block) :=
  ⟨by unfold World.setCell; split <;> rfl, by unfold World.setCell; split <;> rfl, by unfold World.setCell; split <;> rfl, by simp, fun i _ hi => Below.heap_setCell w p u i (fun e => hi (by rw [e]))⟩
theorem RwsB.setCell (h : RwsB B0 rs w) {p : Addr} (hp : p.block < B0) (u : Value) : RwsB B0 rs (w.setCell p u) :=
  h.kept (setCell_grown w p u) (fun k hk => by injection hk with hk; omega)
theorem RwsB.grown {r : Rw} {v' : Value} {n' : Nat} {xs' : List Value} (h : RwsB B0 (r :: rs) w) (hg : w.grownBy w' r.v.ownBlock) (ho : w'.ownsRow B0 r.e r.s v' n' xs') (hat : v'.ownBlock = r.v.ownBlock ∨ v'.ownBlock = some w.heap.size) : RwsB B0 (⟨v', r.e, r.s, n', xs'⟩ :: rs) w' := by
  have h1 := List.pairwise_cons.1 h.apart
  refine ⟨fun q hq => ?_, List.pairwise_cons.2 ⟨fun q hq => ?_, h1.2⟩⟩
  · rcases List.mem_cons.1 hq with rfl | hq
    · exact ho
    · exact (h.own q (List.mem_cons_of_mem _ hq)).kept hg (own_apart_symm (h1.1 q hq))
  · show v'.ownBlock = none ∨ v'.ownBlock ≠ q.v.ownBlock
    rcases hat with e | e
    · rw [e]; exact h1.1 q hq
    · rw [e]
      refine .inr fun e2 => ?_
      have := ((h.own q (List.mem_cons_of_mem _ hq)).lt _ e2.symm).2
      omega
end
theorem perm_at {α : Type} {l : List α} {i : Nat} {x : α} (h : l[i]? = some x) : l.Perm (x :: (l.take i ++ l.drop (i + 1))) := by
  have hl := (List.getElem?_eq_some_iff.1 h).1
  have h1 : l = l.take i ++ x :: l.drop (i + 1) := by
    conv => lhs; rw [← List.take_append_drop i l]
    rw [List.drop_eq_getElem_cons hl, (List.getElem?_eq_some_iff.1 h).2]
  conv => lhs; rw [h1]
  exact List.perm_middle
theorem set_perm {α : Type} {l : List α} {i : Nat} {x y : α} (h : l[i]? = some x) : (y :: (l.take i ++ l.drop (i + 1))).Perm (l.set i y) := by
  have hl := (List.getElem?_eq_some_iff.1 h).1
  rw [List.set_eq_take_append_cons_drop, if_pos hl]
  exact List.perm_middle.symm
section
variable {P : Program} {B0 : Nat} {rs : List Rw}
theorem wpList_append_at {ops : Array Oper} {rest : List Oper} {o : Oper} {a : Act} {Q : Exit → Act → World → Prop} (hgd : o.guard = none) (s x : Operand) (t : TypeId)
    (ho : o.op = .call { callee := .builtin .append, args := #[s, x], argTypes := #[t, t] })
    {e : TypeId} {z : Value} {size bytes : Nat} (ht : P.underlying t = some (.slice e)) (hi : (P.info? e).map (fun i => (i.zero, i.size, i.bytes)) = some (some z, size, bytes)) (hzs : z.cells.size = size) (hk : (decide (0 < size) && decide (bytes ≤ 4096)) = true)
    {w : World} {cs : Array Value} {v : Value} {n i : Nat} {xs : List Value} (hR : RwsB B0 rs w) (hB0 : B0 ≤ w.heap.size) (hri : rs[i]? = some ⟨v, e, size, n, xs⟩) (hs : a.eval s = v) (hx : a.eval x = .slice (some ⟨w.heap.size, 0, none⟩) 1 1) (hcs : cs.size = size) (h1 : ∀ u ∈ cs.toList, u.oneCell' = true)
    (hnm : n + 1 ≤ 4294967296)
    (h : ∀ v' w', RwsB B0 (rs.set i ⟨v', e, size, n + 1, xs ++ cs.toList⟩) w' → (∀ k, k < B0 → w'.heap[k]? = w.heap[k]?) → Below B0 w w' → v'.oneCell' = true → wpList P ops Q rest (a.put o.dst v') w') : wpList P ops Q (o :: rest) a (w.alloc (.cells cs e)) := by
  refine wpList_plain hgd fun _ hK => ?_
  obtain ⟨i0, hi0, hz0, hz1, hz2⟩ := info_parts hi
  have hk := hk
  simp only [Bool.and_eq_true, decide_eq_true_eq] at hk
  have hbytes : (n + 1) * bytes ≤ 4294967296 * 4096 := Nat.mul_le_mul hnm hk.2
  have hR1 := (hR.alloc (.cells cs e)).perm (perm_at hri)
  have hh := hR1.own _ List.mem_cons_self
  refine wp_append_any _ s x t ho B0 e i0 z size bytes ht hi0 hz0 hz1 hz2 hzs hk.1 v n xs hs hh _ _ 1 1 cs.toList hx (Blk.reads (Blk.new w e cs) rfl (by simp [hcs])) h1 (by unfold maxLen; omega) (by omega) (by simp; omega) fun v' w' a1 a2 a3 => ?_
  have hR' := hR1.grown a2 a1 a3
  have hbl : Below B0 w w' := ((Below.refl B0 w).alloc hB0 (.cells cs e)).grown a2 (by simp; omega) (fun k hk => (hh.lt k hk).1)
  refine hK _ _ (h v' w' (hR'.perm (set_perm hri)) (fun k hk => hbl.block k hk) hbl ?_)
  rcases a1.2 with ⟨rfl, _⟩ | ⟨g, cap, cur, rfl, _⟩ <;> rfl
/-- the same in a region that draws -/
theorem step_append_at {ops : Array Oper} {o : Oper} {a : Act} {K : Act → World → Prop} {Q : Exit → Act → World → Prop} {E : Prop} (hgd : o.guard = none) (s x : Operand) (t : TypeId)
    (ho : o.op = .call { callee := .builtin .append, args := #[s, x], argTypes := #[t, t] })
    {e : TypeId} {z : Value} {size bytes : Nat} (ht : P.underlying t = some (.slice e)) (hi : (P.info? e).map (fun i => (i.zero, i.size, i.bytes)) = some (some z, size, bytes)) (hzs : z.cells.size = size) (hk : (decide (0 < size) && decide (bytes ≤ 4096)) = true)
    {w : World} {cs : Array Value} {g : Nat} {v : Value} {n i : Nat} {xs : List Value} (hR : RwsB B0 rs w) (hB0 : B0 ≤ w.heap.size) (hB : Blk w g e cs) (hri : rs[i]? = some ⟨v, e, size, n, xs⟩) (hs : a.eval s = v) (hx : a.eval x = .slice (some ⟨g, 0, none⟩) 1 1) (hcs : cs.size = size) (h1 : ∀ u ∈ cs.toList, u.oneCell' = true)
    (hnm : n + 1 ≤ 4294967296)
    (h : ∀ v' w', RwsB B0 (rs.set i ⟨v', e, size, n + 1, xs ++ cs.toList⟩) w' → (∀ k, k < B0 → w'.heap[k]? = w.heap[k]?) → Below B0 w w' → K (a.put o.dst v') w') :
    if Region.wanted o (yielded ops a.tmps) = true then Oper.wp P o a w K Q else E := by
  have hw : Region.wanted o (yielded ops a.tmps) = true := by simp [Region.wanted, hgd]
  rw [if_pos hw]
  obtain ⟨i0, hi0, hz0, hz1, hz2⟩ := info_parts hi
  have hk := hk
  simp only [Bool.and_eq_true, decide_eq_true_eq] at hk
  have hbytes : (n + 1) * bytes ≤ 4294967296 * 4096 := Nat.mul_le_mul hnm hk.2
  have hR1 := hR.perm (perm_at hri)
  have hh := hR1.own _ List.mem_cons_self
  refine wp_append_any w s x t ho B0 e i0 z size bytes ht hi0 hz0 hz1 hz2 hzs hk.1 v n xs hs hh _ _ 1 1 cs.toList hx (hB.reads rfl (by simp [hcs])) h1 (by unfold maxLen; omega) (by omega) hB0 fun v' w' a1 a2 a3 => ?_
  have hR' := hR1.grown a2 a1 a3
  have hbl : Below B0 w w' := (Below.refl B0 w).grown a2 hB0 (fun k hk => (hh.lt k hk).1)
  exact h v' w' (hR'.perm (set_perm hri)) (fun k hk => hbl.block k hk) hbl
end
end Go.Proofs.Ytnaiflokmihmeaa.Od

/- What comes before what, as plain data, and what Times, Latest compute of it; no program in sight. -/
namespace Go.Proofs.Ytnaiflokmihmeaa.Od
open Go.RowKit
set_option linter.unusedVariables false

/-- the element at x, 0 beyond the ends -/
def nth (l : List Int) (x : Int) : Int := (l[x.toNat]?).getD 0
theorem nth_get {l : List Int} {x : Nat} {y : Int} (h : l[x]? = some y) : nth l x = y := by simp [nth, h]
/-! ### the check -/
def elAt (xs : List Int) (k i : Nat) : Option Int := match xs[i]? with
  | none => none
  | some x => if x < 0 ∨ (k : Int) ≤ x then some 1 else if 0 < i ∧ x ≤ nth xs (i - 1 : Nat) then some 9 else none
def rowAt (rs : List (List Int)) (k : Nat) : Option Int := match rs[k]? with
  | none => none
  | some xs => firstOf (elAt xs k) xs.length
def bErr (rs : List (List Int)) : Int := if 40 < rs.length then 2 else (firstOf (rowAt rs) rs.length).getD 0
theorem bErr_large {rs : List (List Int)} (h : 40 < rs.length) : bErr rs = 2 := by simp [bErr, h]
theorem bErr_none {rs : List (List Int)} (h : ¬ 40 < rs.length) (ha : ∀ j < rs.length, rowAt rs j = none) : bErr rs = 0 := by
  unfold bErr; rw [if_neg h, firstOf_none _ _ ha]; rfl
theorem bErr_some {rs : List (List Int)} (h : ¬ 40 < rs.length) {k : Nat} (hk : k < rs.length) (ha : ∀ j < k, rowAt rs j = none) {xs : List Int} (hxs : rs[k]? = some xs) {i : Nat} (hi : i < xs.length) (hb : ∀ j < i, elAt xs k j = none) {e : Int} (he : elAt xs k i = some e) : bErr rs = e := by
  unfold bErr
  have h1 : rowAt rs k = some e := by unfold rowAt; rw [hxs]; exact firstOf_some _ _ i hi hb he
  rw [if_neg h, firstOf_some _ _ k hk ha h1]; rfl
theorem rowAt_ok {rs : List (List Int)} {k : Nat} {xs : List Int} (hxs : rs[k]? = some xs) (hb : ∀ j < xs.length, elAt xs k j = none) : rowAt rs k = none := by
  unfold rowAt; rw [hxs]; exact firstOf_none _ _ hb
theorem elAt_arg {xs : List Int} {k i : Nat} {x : Int} (hx : xs[i]? = some x) (h : x < 0 ∨ (k : Int) ≤ x) : elAt xs k i = some 1 := by simp [elAt, hx, h]
theorem elAt_ord {xs : List Int} {k i : Nat} {x : Int} (hx : xs[i]? = some x) (h : 0 ≤ x ∧ x < k) (hi : 0 < i) (ho : x ≤ nth xs (i - 1 : Nat)) : elAt xs k i = some 9 := by
  unfold elAt; rw [hx]; dsimp only; rw [if_neg (by omega), if_pos ⟨hi, ho⟩]
theorem elAt_ok {xs : List Int} {k i : Nat} {x : Int} (hx : xs[i]? = some x) (h : 0 ≤ x ∧ x < k) (ho : i = 0 ∨ nth xs (i - 1 : Nat) < x) : elAt xs k i = none := by
  unfold elAt; rw [hx]; dsimp only; rw [if_neg (by omega), if_neg (by omega)]
/-- valid: each of the earlier ones, in increasing order -/
structure Vld (rs : List (List Int)) : Prop where
  le : rs.length ≤ 40
  lt : ∀ (k : Nat) xs, rs[k]? = some xs → ∀ x ∈ xs, 0 ≤ x ∧ x < k
  inc : ∀ (k : Nat) xs, rs[k]? = some xs → ∀ (i : Nat) x y, xs[i]? = some x → xs[i+1]? = some y → x < y
theorem bErr_vld {rs : List (List Int)} (h : bErr rs = 0) : Vld rs := by
  by_cases h40 : 40 < rs.length
  · rw [bErr_large h40] at h; cases h
  · have hall : ∀ k xs, rs[k]? = some xs → ∀ i < xs.length, elAt xs k i = none := by
      intro k xs hk i hi
      unfold bErr at h
      rw [if_neg h40] at h
      have hrow : rowAt rs k = none := by
        cases hf : firstOf (rowAt rs) rs.length with
        | none =>
          unfold firstOf at hf
          exact List.findSome?_eq_none_iff.1 hf k (by simpa using (List.getElem?_eq_some_iff.1 hk).1)
        | some e =>
          rw [hf] at h
          simp at h
          subst h
          unfold firstOf at hf
          obtain ⟨j, hj, hx⟩ := List.exists_of_findSome?_eq_some hf
          unfold rowAt at hx
          split at hx
          · cases hx
          · unfold firstOf at hx
            obtain ⟨i, hi, hx⟩ := List.exists_of_findSome?_eq_some hx
            unfold elAt at hx
            split at hx
            · cases hx
            · split at hx
              · simp at hx
              · split at hx <;> simp at hx
      unfold rowAt firstOf at hrow
      rw [hk] at hrow
      exact List.findSome?_eq_none_iff.1 hrow i (by simpa using hi)
    refine ⟨by omega, fun k xs hk x hx => ?_, fun k xs hk i x y hx hy => ?_⟩
    · obtain ⟨i, hi⟩ := List.mem_iff_getElem?.1 hx
      have h1 := hall k xs hk i (List.getElem?_eq_some_iff.1 hi).1
      unfold elAt at h1
      rw [hi] at h1
      dsimp only at h1
      split at h1
      · cases h1
      · omega
    · have h1 := hall k xs hk (i+1) (List.getElem?_eq_some_iff.1 hy).1
      unfold elAt at h1
      rw [hy] at h1
      dsimp only at h1
      split at h1
      · cases h1
      · split at h1
        · cases h1
        · rename_i h2
          have e : nth xs ((i + 1 - 1 : Nat) : Int) = x := nth_get hx
          rw [e] at h2
          omega
/-- the error of durations -/
def tmErr (rs : List (List Int)) (ts : List Int) : Int := if bErr rs ≠ 0 then bErr rs else if ts.length ≠ rs.length then 3 else if ts.all (fun t => decide (0 ≤ t ∧ t ≤ 2000)) then 0 else 1
theorem tmErr_b {rs : List (List Int)} {ts : List Int} (h : bErr rs ≠ 0) : tmErr rs ts = bErr rs := by simp [tmErr, h]
theorem tmErr_len {rs : List (List Int)} {ts : List Int} (h : bErr rs = 0) (hl : ts.length ≠ rs.length) : tmErr rs ts = 3 := by simp [tmErr, h, hl]
theorem tmErr_arg {rs : List (List Int)} {ts : List Int} (h : bErr rs = 0) (hl : ts.length = rs.length) {k : Nat} {t : Int} (hk : ts[k]? = some t) (ht : t < 0 ∨ 2000 < t) : tmErr rs ts = 1 := by
  unfold tmErr
  rw [if_neg (by simp [h]), if_neg (by simp [hl]), if_neg]
  intro ha
  have := List.all_eq_true.1 ha t (List.mem_of_getElem? hk)
  simp at this; omega
theorem tmErr_ok {rs : List (List Int)} {ts : List Int} (h : bErr rs = 0) (hl : ts.length = rs.length) (ha : ∀ j < ts.length, ∀ t, ts[j]? = some t → 0 ≤ t ∧ t ≤ 2000) : tmErr rs ts = 0 := by
  unfold tmErr
  rw [if_neg (by simp [h]), if_neg (by simp [hl]), if_pos]
  rw [List.all_eq_true]
  intro t hm
  obtain ⟨j, hj⟩ := List.mem_iff_getElem?.1 hm
  simpa using ha j (List.getElem?_eq_some_iff.1 hj).1 t hj
theorem tmErr_zero {rs : List (List Int)} {ts : List Int} (h : tmErr rs ts = 0) : Vld rs ∧ ts.length = rs.length ∧ ∀ t ∈ ts, 0 ≤ t ∧ t ≤ 2000 := by
  unfold tmErr at h
  split at h
  · rename_i h1; exact absurd h h1
  · rename_i h1
    split at h
    · cases h
    · rename_i h2
      split at h
      · rename_i h3
        refine ⟨bErr_vld (by simpa using h1), by simpa using h2, fun t ht => ?_⟩
        have := List.all_eq_true.1 h3 t ht
        simpa using this
      · cases h

/-! ### the greatest of some numbers and 0 -/
def IsMax (P : Int → Prop) (M : Int) : Prop := 0 ≤ M ∧ (∀ v, P v → v ≤ M) ∧ (M = 0 ∨ P M)
theorem IsMax.uniq {P : Int → Prop} {M N : Int} (h : IsMax P M) (h' : IsMax P N) : M = N := by
  obtain ⟨a1, a2, a3⟩ := h
  obtain ⟨b1, b2, b3⟩ := h'
  have h1 : M ≤ N := by rcases a3 with h | h; omega; exact b2 _ h
  have h2 : N ≤ M := by rcases b3 with h | h; omega; exact a2 _ h
  omega
theorem IsMax.congr {P Q : Int → Prop} {M : Int} (h : IsMax P M) (hpq : ∀ v, P v ↔ Q v) : IsMax Q M :=
  ⟨h.1, fun v hv => h.2.1 v ((hpq v).2 hv), h.2.2.imp id (hpq M).1⟩
theorem IsMax.none_ {P : Int → Prop} (h : ∀ v, ¬ P v) : IsMax P 0 := ⟨Int.le_refl _, fun v hv => absurd hv (h v), .inl rfl⟩
theorem IsMax.add {P : Int → Prop} {M v : Int} (h : IsMax P M) : IsMax (fun u => P u ∨ u = v) (max M v) := by
  obtain ⟨a1, a2, a3⟩ := h
  refine ⟨by omega, fun u hu => ?_, ?_⟩
  · rcases hu with hu | hu
    · have := a2 u hu; omega
    · omega
  · by_cases hv : v ≤ M
    · rw [Int.max_eq_left hv]; exact a3.imp id .inl
    · rw [Int.max_eq_right (by omega)]; exact .inr (.inr rfl)

/-! ### starts -/
def atB (out ts xs : List Int) : Int := xs.foldl (fun a x => max a (nth out x + nth ts x)) 0
theorem atB_snoc (out ts xs : List Int) (x : Int) : atB out ts (xs ++ [x]) = max (atB out ts xs) (nth out x + nth ts x) := by simp [atB]
theorem atB_max (out ts xs : List Int) : IsMax (fun v => ∃ x ∈ xs, v = nth out x + nth ts x) (atB out ts xs) := by
  have : ∀ (xs : List Int) (P : Int → Prop) (a : Int), IsMax P a → IsMax (fun v => P v ∨ ∃ x ∈ xs, v = nth out x + nth ts x) (xs.foldl (fun a x => max a (nth out x + nth ts x)) a) := by
    intro xs
    induction xs with
    | nil => intro P a h; exact h.congr fun v => by simp
    | cons x xs ih =>
      intro P a h
      have h1 := ih _ _ (h.add (v := nth out x + nth ts x))
      refine h1.congr fun v => ?_
      constructor
      · rintro ((h | h) | ⟨y, hy, h⟩)
        · exact .inl h
        · exact .inr ⟨x, List.mem_cons_self, h⟩
        · exact .inr ⟨y, List.mem_cons_of_mem _ hy, h⟩
      · rintro (h | ⟨y, hy, h⟩)
        · exact .inl (.inl h)
        · rcases List.mem_cons.1 hy with rfl | hy
          · exact .inl (.inr h)
          · exact .inr ⟨y, hy, h⟩
  exact (this xs (fun _ => False) 0 (IsMax.none_ fun _ h => h)).congr fun v => by simp
theorem atB_bd {out ts xs : List Int} {B : Int} (hB : 0 ≤ B) (h : ∀ x ∈ xs, nth out x + nth ts x ≤ B) : 0 ≤ atB out ts xs ∧ atB out ts xs ≤ B := by
  have h1 := atB_max out ts xs
  refine ⟨h1.1, ?_⟩
  rcases h1.2.2 with e | ⟨x, hx, e⟩
  · omega
  · rw [e]; exact h x hx
def startsOf (rs : List (List Int)) (ts : List Int) : Nat → List Int
  | 0 => []
  | k + 1 => startsOf rs ts k ++ [atB (startsOf rs ts k) ts ((rs[k]?).getD [])]
theorem startsOf_len (rs : List (List Int)) (ts : List Int) (k : Nat) : (startsOf rs ts k).length = k := by
  induction k with
  | zero => rfl
  | succ k ih => simp [startsOf, ih]
theorem startsOf_get {rs : List (List Int)} {ts : List Int} {k n : Nat} (h : k < n) : (startsOf rs ts n)[k]? = some (atB (startsOf rs ts k) ts ((rs[k]?).getD [])) := by
  induction n with
  | zero => omega
  | succ n ih =>
    show (startsOf rs ts n ++ [_])[k]? = _
    by_cases hk : k < n
    · rw [List.getElem?_append_left (by rw [startsOf_len]; exact hk)]; exact ih hk
    · obtain rfl : k = n := by omega
      rw [List.getElem?_append_right (by rw [startsOf_len]; exact Nat.le_refl _), startsOf_len]; simp
theorem startsOf_same {rs : List (List Int)} {ts : List Int} {j k n : Nat} (h : j < k) (hk : k ≤ n) : (startsOf rs ts n)[j]? = (startsOf rs ts k)[j]? := by
  rw [startsOf_get (by omega), startsOf_get h]
/-- a start in terms of the starts -/
def S (rs : List (List Int)) (ts : List Int) (k : Nat) : Int := atB (startsOf rs ts k) ts ((rs[k]?).getD [])
def endB (rs : List (List Int)) (ts : List Int) : Nat → Int
  | 0 => 0
  | k + 1 => max (endB rs ts k) (S rs ts k + nth ts k)
theorem startsOf_succ (rs : List (List Int)) (ts : List Int) (k : Nat) : startsOf rs ts (k+1) = startsOf rs ts k ++ [S rs ts k] := rfl
theorem nth_startsOf {rs : List (List Int)} {ts : List Int} {k n : Nat} (h : k < n) : nth (startsOf rs ts n) k = S rs ts k := nth_get (startsOf_get h)
/-- lists of earlier ones -/
def Low (rs : List (List Int)) : Prop := ∀ (k : Nat) xs, rs[k]? = some xs → ∀ x ∈ xs, 0 ≤ x ∧ x < k
theorem S_max {rs : List (List Int)} {ts : List Int} (hl : Low rs) {k : Nat} {xs : List Int} (hk : rs[k]? = some xs) : IsMax (fun v => ∃ j : Nat, (j : Int) ∈ xs ∧ v = S rs ts j + nth ts j) (S rs ts k) := by
  have h1 := atB_max (startsOf rs ts k) ts xs
  have e : S rs ts k = atB (startsOf rs ts k) ts xs := by unfold S; rw [hk]; rfl
  rw [e]
  refine h1.congr fun v => ?_
  constructor
  · rintro ⟨x, hx, rfl⟩
    obtain ⟨x0, x1⟩ := hl k xs hk x hx
    obtain ⟨j, rfl⟩ := Int.eq_ofNat_of_zero_le x0
    exact ⟨j, hx, by rw [nth_startsOf (by omega)]⟩
  · rintro ⟨j, hj, rfl⟩
    obtain ⟨x0, x1⟩ := hl k xs hk _ hj
    exact ⟨j, hj, by rw [nth_startsOf (by omega)]⟩
theorem endB_max (rs : List (List Int)) (ts : List Int) (n : Nat) : IsMax (fun v => ∃ j, j < n ∧ v = S rs ts j + nth ts j) (endB rs ts n) := by
  induction n with
  | zero => exact IsMax.none_ fun v ⟨j, h, _⟩ => by omega
  | succ n ih =>
    refine (ih.add (v := S rs ts n + nth ts n)).congr fun v => ?_
    constructor
    · rintro (⟨j, h, e⟩ | e)
      · exact ⟨j, by omega, e⟩
      · exact ⟨n, by omega, e⟩
    · rintro ⟨j, h, e⟩
      by_cases hj : j < n
      · exact .inl ⟨j, hj, e⟩
      · obtain rfl : j = n := by omega
        exact .inr e
theorem nth_bd {ts : List Int} (ht : ∀ t ∈ ts, 0 ≤ t ∧ t ≤ 2000) (x : Int) : 0 ≤ nth ts x ∧ nth ts x ≤ 2000 := by
  unfold nth
  cases h : ts[x.toNat]? with
  | none => simp
  | some y => simpa using ht y (List.mem_of_getElem? h)
theorem S_bd {rs : List (List Int)} {ts : List Int} (hl : Low rs) (ht : ∀ t ∈ ts, 0 ≤ t ∧ t ≤ 2000) (k : Nat) : 0 ≤ S rs ts k ∧ S rs ts k ≤ 2000 * k := by
  induction k using Nat.strongRecOn with
  | _ k ih =>
    cases hk : rs[k]? with
    | none =>
      have : S rs ts k = 0 := by unfold S; rw [hk]; rfl
      rw [this]; omega
    | some xs =>
      have h := S_max (ts := ts) hl hk
      refine ⟨h.1, ?_⟩
      rcases h.2.2 with e | ⟨j, hj, e⟩
      · omega
      · have h1 := hl k xs hk _ hj
        have h2 := ih j (by omega)
        have h3 := nth_bd ht j
        rw [e]; omega
theorem endB_bd {rs : List (List Int)} {ts : List Int} (hl : Low rs) (ht : ∀ t ∈ ts, 0 ≤ t ∧ t ≤ 2000) (k : Nat) : 0 ≤ endB rs ts k ∧ endB rs ts k ≤ 2000 * k := by
  induction k with
  | zero => simp [endB]
  | succ k ih =>
    have h1 := S_bd hl ht k
    have h2 := nth_bd ht k
    unfold endB
    omega

/-! ### the other direction -/
/-- from j on, the longest chain behind step j -/
structure Back (rs : List (List Int)) (ts : List Int) (L : Nat → Int) : Prop where
  max : ∀ j, j < rs.length → IsMax (fun v => ∃ (k : Nat) (xs : List Int), rs[k]? = some xs ∧ (j : Int) ∈ xs ∧ v = L k + nth ts k) (L j)
theorem Back.le {rs : List (List Int)} {ts : List Int} {L : Nat → Int} (h : Back rs ts L) (hl : Low rs) (m : Nat) : ∀ k, k < rs.length → rs.length - k ≤ m → S rs ts k + nth ts k + L k ≤ endB rs ts rs.length := by
  induction m with
  | zero => intro k hk hm; omega
  | succ m ih =>
    intro k hk hm
    rcases (h.max k hk).2.2 with e | ⟨k', xs, hk', hm', e⟩
    · have := (endB_max rs ts rs.length).2.1 _ ⟨k, hk, rfl⟩
      omega
    · have h1 := hl k' xs hk' _ hm'
      have hkl := (List.getElem?_eq_some_iff.1 hk').1
      have h2 := ih k' hkl (by omega)
      have h3 := (S_max (ts := ts) hl hk').2.1 _ ⟨k, hm', rfl⟩
      omega
theorem Back.ge {rs : List (List Int)} {ts : List Int} {L : Nat → Int} (h : Back rs ts L) (hl : Low rs) {E : Int} (hE : ∀ k, k < rs.length → L k + nth ts k ≤ E) (h0 : 0 ≤ E) : endB rs ts rs.length ≤ E := by
  have key : ∀ m k, k ≤ m → k < rs.length → S rs ts k + nth ts k + L k ≤ E := by
    intro m
    induction m with
    | zero =>
      intro k hkm hk
      obtain rfl : k = 0 := by omega
      have hk' : rs[0]? = some rs[0] := List.getElem?_eq_getElem hk
      rcases (S_max (ts := ts) hl hk').2.2 with e | ⟨j, hj, e⟩
      · have := hE 0 hk; omega
      · have := hl 0 _ hk' _ hj; omega
    | succ m ih =>
      intro k hkm hk
      have hk' : rs[k]? = some rs[k] := List.getElem?_eq_getElem hk
      rcases (S_max (ts := ts) hl hk').2.2 with e | ⟨j, hj, e⟩
      · have := hE k hk; omega
      · have h1 := hl k _ hk' _ hj
        have h2 := ih j (by omega) (by omega)
        have h3 := (h.max j (by omega)).2.1 _ ⟨k, _, hk', hj, rfl⟩
        omega
  rcases (endB_max rs ts rs.length).2.2 with e | ⟨j, hj, e⟩
  · omega
  · have h1 := key j j (Nat.le_refl _) hj
    have h2 := (h.max j hj).1
    omega

/-! ### Latest -/
/-- out is what it is when the edges of Q have been looked at -/
structure LI (n : Nat) (ts : List Int) (E : Int) (L : Nat → Int) (Q : Nat → Nat → Prop) (out : List Int) : Prop where
  len : out.length = n
  at_ : ∀ x, x < n → ∃ M, IsMax (fun v => ∃ k, Q k x ∧ v = L k + nth ts k) M ∧ out[x]? = some (E - nth ts x - M)
theorem LI.step {n : Nat} {ts : List Int} {E : Int} {L : Nat → Int} {Q Q' : Nat → Nat → Prop} {out : List Int} (h : LI n ts E L Q out) {k x : Nat} (hx : x < n) {a b : Int} (ha : out[x]? = some a) (hb : b = E - nth ts k - L k) (hQ : ∀ k' x', Q' k' x' ↔ Q k' x' ∨ (k' = k ∧ x' = x)) :
    LI n ts E L Q' (out.set x (min a (b - nth ts x))) := by
  refine ⟨by rw [List.length_set, h.len], fun x' hx' => ?_⟩
  obtain ⟨M, hM, hout⟩ := h.at_ x' hx'
  by_cases he : x' = x
  · subst he
    rw [ha] at hout
    injection hout with hout
    refine ⟨max M (L k + nth ts k), (hM.add).congr fun v => ?_, ?_⟩
    · constructor
      · rintro (⟨k', h1, h2⟩ | h1)
        · exact ⟨k', (hQ _ _).2 (.inl h1), h2⟩
        · exact ⟨k, (hQ _ _).2 (.inr ⟨rfl, rfl⟩), h1⟩
      · rintro ⟨k', h1, h2⟩
        rcases (hQ _ _).1 h1 with h1 | ⟨rfl, _⟩
        · exact .inl ⟨k', h1, h2⟩
        · exact .inr h2
    · rw [List.getElem?_set_self (by rw [h.len]; exact hx')]
      congr 1
      omega
  · refine ⟨M, hM.congr fun v => ?_, by rw [List.getElem?_set_ne (by omega)]; exact hout⟩
    constructor
    · rintro ⟨k', h1, h2⟩; exact ⟨k', (hQ _ _).2 (.inl h1), h2⟩
    · rintro ⟨k', h1, h2⟩
      rcases (hQ _ _).1 h1 with h1 | ⟨_, h3⟩
      · exact ⟨k', h1, h2⟩
      · exact absurd h3 he
theorem LI.congr {n : Nat} {ts : List Int} {E : Int} {L : Nat → Int} {Q Q' : Nat → Nat → Prop} {out : List Int} (h : LI n ts E L Q out) (hQ : ∀ k x, Q' k x ↔ Q k x) : LI n ts E L Q' out :=
  ⟨h.len, fun x hx => by
    obtain ⟨M, hM, ho⟩ := h.at_ x hx
    exact ⟨M, hM.congr fun v => ⟨fun ⟨k, h1, h2⟩ => ⟨k, (hQ _ _).2 h1, h2⟩, fun ⟨k, h1, h2⟩ => ⟨k, (hQ _ _).1 h1, h2⟩⟩, ho⟩⟩
/-- an edge: x stands in the list of k -/
def Edge (rs : List (List Int)) (k x : Nat) : Prop := ∃ xs, rs[k]? = some xs ∧ (x : Int) ∈ xs
theorem LI.done {rs : List (List Int)} {ts : List Int} {E : Int} {L : Nat → Int} {Q : Nat → Nat → Prop} {out : List Int} (h : LI rs.length ts E L Q out) (hB : Back rs ts L) {x : Nat} (hx : x < rs.length) (hQ : ∀ k, Q k x ↔ Edge rs k x) : out[x]? = some (E - nth ts x - L x) := by
  obtain ⟨M, hM, ho⟩ := h.at_ x hx
  have : M = L x := by
    refine hM.uniq ((hB.max x hx).congr fun v => ?_)
    constructor
    · rintro ⟨k, xs, h1, h2, h3⟩; exact ⟨k, (hQ k).2 ⟨xs, h1, h2⟩, h3⟩
    · rintro ⟨k, h1, h2⟩
      obtain ⟨xs, h3, h4⟩ := (hQ k).1 h1
      exact ⟨k, xs, h3, h4, h2⟩
  rw [ho, this]
/-- the latest starts -/
def lateOf (n : Nat) (ts : List Int) (E : Int) (L : Nat → Int) : List Int := (List.range n).map fun (x : Nat) => E - nth ts (x : Int) - L x
theorem LI.eq {rs : List (List Int)} {ts : List Int} {E : Int} {L : Nat → Int} {out : List Int} (h : LI rs.length ts E L (Edge rs) out) (hB : Back rs ts L) : out = lateOf rs.length ts E L := by
  refine List.ext_getElem? fun x => ?_
  by_cases hx : x < rs.length
  · rw [h.done hB hx fun k => Iff.rfl]
    simp [lateOf, hx]
  · rw [List.getElem?_eq_none (by rw [h.len]; omega), List.getElem?_eq_none (by simp [lateOf]; omega)]
end Go.Proofs.Ytnaiflokmihmeaa.Od

/- Slices of slices of integers that came in, read as plain data. -/
namespace Go.Proofs.Ytnaiflokmihmeaa.Od
open Go.RowKit Go.ChangeShapes Go.WideShapes Go.Deep
set_option linter.unusedVariables false

structure Row where
  A : Option Addr
  c : Nat
  xs : List Int
def ll (rs : List Row) : List (List Int) := rs.map Row.xs
theorem ll_len (rs : List Row) : (ll rs).length = rs.length := by simp [ll]
theorem ll_get {rs : List Row} {k : Nat} {r : Row} (h : rs[k]? = some r) : (ll rs)[k]? = some r.xs := by simp [ll, h]
def RowsAt (w : World) (B : Nat) (A : Option Addr) (rs : List Row) : Prop :=
  ∀ k r, rs[k]? = some r → ∃ b off, A = some ⟨b, off, none⟩ ∧ b < B ∧ w.cell? ⟨b, off + k, none⟩ = some (.slice r.A r.xs.length r.c) ∧ r.xs.length ≤ 9223372036854775807 ∧ IntsAt w B r.A r.xs
section
variable {w w' : World} {B B' : Nat} {A : Option Addr} {rs : List Row}
theorem RowsAt.below (h : RowsAt w B A rs) (hb : Below B' w w') (hB : B ≤ B') : RowsAt w' B A rs := by
  intro k r hr
  obtain ⟨b, off, hA, hlt, h0, h1, h2⟩ := h k r hr
  exact ⟨b, off, hA, hlt, (hb.cell (p := ⟨b, _, none⟩) (Nat.lt_of_lt_of_le hlt hB)).trans h0, h1, h2.below hb hB⟩
theorem RowsAt.more (h : RowsAt w B A rs) (hB : B ≤ B') : RowsAt w B' A rs := by
  intro k r hr
  obtain ⟨b, off, hA, hlt, h0, h1, h2⟩ := h k r hr
  exact ⟨b, off, hA, Nat.lt_of_lt_of_le hlt hB, h0, h1, h2.more hB⟩
theorem RowsAt.next (h : RowsAt w w.heap.size A rs) (hb : Below w.heap.size w w') : RowsAt w' w'.heap.size A rs := (h.below hb (Nat.le_refl _)).more hb.size
end
/-- rows that came in -/
theorem open_rows {H : Type} {enc : TypeId × Value → H} {P : Program} {w : World} {base : Nat} {held : Bool} {t e i : TypeId} {fuel : Nat} {v : Value} {x : DataW H × List MemPlace}
    (ht : P.underlying t = some (.slice e)) (he : P.underlying e = some (.slice i)) (hi : P.underlying i = some (.int .i64)) (hC : P.cellsOf e = 1) (hD : P.cellsOf i = 1) (h : DataW.trod enc P w base (fun _ => true) held fuel t [v] = some x) (hl : Light P t x.1) :
    ∃ A c rs, v = .slice A (List.length rs) c ∧ rs.length ≤ 9223372036854775807 ∧ RowsAt w w.heap.size A rs := by
  obtain ⟨A, len, cap, hcs, hlc, hm, hr, hel⟩ := open_elems_w (C := 1) ht hC (by omega) h hl
  obtain rfl : v = .slice A len cap := by simpa using hcs
  obtain ⟨rs, hrs, hr2⟩ := list_of (n := len) (R := fun k (r : Row) => ∃ b off, A = some ⟨b, off, none⟩ ∧ b < w.heap.size ∧ w.cell? ⟨b, off + k, none⟩ = some (.slice r.A r.xs.length r.c) ∧ r.xs.length ≤ 9223372036854775807 ∧ IntsAt w w.heap.size r.A r.xs) (by
    intro j hlt
    obtain ⟨b, off, cs', n', y, hA, hb, hlen, hc, ht', hly⟩ := hel j hlt
    obtain ⟨u, rfl⟩ : ∃ u, cs' = [u] := by
      match cs', hlen with
      | [u], _ => exact ⟨u, rfl⟩
    obtain ⟨A2, c2, xs, rfl, h2, h3, _, h4, _⟩ := open_ints_at he hi hD ht' hly
    refine ⟨⟨A2, c2, xs⟩, b, off, hA, hb, ?_, by unfold maxLen at h3; show xs.length ≤ _; omega, h4⟩
    have := hc 0 _ rfl
    simpa using this)
  exact ⟨A, cap, rs, by rw [hrs], by unfold maxLen at hm; omega, fun k r hr => hr2 k r hr⟩
theorem row_len {rs : List (List Int)} (h : Vld rs) {k : Nat} {xs : List Int} (hk : rs[k]? = some xs) : xs.length ≤ k := by
  have key : ∀ (i : Nat) x, xs[i]? = some x → (i : Int) ≤ x := by
    intro i
    induction i with
    | zero => intro x hx; have := h.lt k xs hk x (List.mem_of_getElem? hx); omega
    | succ i ih =>
      intro x hx
      obtain ⟨y, hy⟩ := get_of_lt rfl (show i < xs.length by have := (List.getElem?_eq_some_iff.1 hx).1; omega)
      have h1 := ih y hy
      have h2 := h.inc k xs hk i y x hy hx
      omega
  rcases Nat.eq_zero_or_pos xs.length with h0 | h0
  · omega
  · obtain ⟨x, hx⟩ := get_of_lt rfl (show xs.length - 1 < xs.length by omega)
    have h1 := key _ x hx
    have h2 := h.lt k xs hk x (List.mem_of_getElem? hx)
    omega
theorem Vld.low {rs : List (List Int)} (h : Vld rs) : Low rs := h.lt
end Go.Proofs.Ytnaiflokmihmeaa.Od

/- Walks: Check (package order) and BeforeFault (reference). -/
namespace Go.Proofs.Ytnaiflokmihmeaa.Od
open Go.RowKit
set_option linter.unusedVariables false
set_option linter.unusedSimpArgs false

set_option maxHeartbeats 1000000 in
set_option maxRecDepth 20000 in
theorem bcheck_any (rs : List Row) (A : Option Addr) (n c : Nat) (w : World) (hn : n = rs.length) (hm : n ≤ 9223372036854775807) (h : RowsAt w w.heap.size A rs) :
    Calls Try.prog 104 #[.slice A n c] w fun e w' => e = .returned (.int .i64 (bErr (ll rs))) ∧ w = w' := by
  have HN := Lib.hid hn; clear hn
  have H := Lib.hid h; clear h
  have HNL : Hid (n = (ll rs).length) := Lib.hid (by rw [ll_len]; exact HN.out)
  by_cases h40 : 40 < n
  · have HL := Lib.hid h40
    go_enter Try.func104, Try.ntmps104
    go_wp2_with fail
    go_ret
    exact ⟨ret_int (bErr_large (by rw [← HNL.out]; exact HL.out)).symm, rfl⟩
  have HL : Hid (¬ 40 < (ll rs).length) := Lib.hid (by rw [← HNL.out]; exact h40)
  go_enter Try.func104, Try.ntmps104
  go_wp2_with fail
  go_loopg [12] n (fun k i wr => ∃ j : Nat, k = n - j ∧ j ≤ n ∧ i = .int .i64 j ∧ Hid (∀ i < j, rowAt (ll rs) i = none) ∧ w = wr)
  case atStart => exact ⟨0, by omega, Nat.zero_le _, rfl, forall_lt_zero, rfl⟩
  case round =>
    obtain ⟨k, hgk, hk, rfl, hall, rfl⟩ := hrel
    have HGK := Lib.hid hgk; clear hgk
    by_cases hlt : k < n
    · obtain ⟨r, hr⟩ := get_of_lt HN.out hlt
      obtain ⟨b, off, rfl, hb, h0, hxm, hx⟩ := H.out k r hr
      have HR := Lib.hid (ll_get hr); clear hr
      have HX := Lib.hid hx; clear hx
      obtain ⟨tA, tc, txs⟩ := r
      dsimp only at h0 hxm HX HR
      generalize hm2 : txs.length = m at *
      have HM := Lib.hid hm2; clear hm2
      go_wp2_with fail
      clear h0
      go_loopg [19] m (fun kk i wi => ∃ q : Nat, kk = m - q ∧ q ≤ m ∧ i = .int .i64 q ∧ Hid (∀ j < q, elAt txs k j = none) ∧ w = wi)
      case atStart => exact ⟨0, by omega, Nat.zero_le _, rfl, forall_lt_zero, rfl⟩
      case round =>
        obtain ⟨q, hgk2, hq, rfl, hall2, rfl⟩ := hrel
        have HGK2 := Lib.hid hgk2; clear hgk2
        by_cases hlt2 : q < m
        · obtain ⟨x, hx⟩ := get_of_lt HM.out.symm hlt2
          obtain ⟨b', off', rfl, hb', c0⟩ := HX.out q x hx
          have HXX := Lib.hid hx; clear hx
          by_cases hxo : 0 ≤ x ∧ x < k
          · obtain ⟨x1, x2⟩ := hxo
            rcases Nat.eq_zero_or_pos q with hq0 | hq0
            · subst hq0
              rw [Nat.add_zero] at c0
              have HOK := Lib.hid (elAt_ok (k := k) HXX.out ⟨x1, x2⟩ (.inl rfl))
              go_wp2_with fail
              go_roundg (m - (0 + 1))
              case measure => rw [HGK2.out]; omega
              case rel => exact ⟨0+1, rfl, by omega, by go_num, forall_lt_succ hall2.out HOK.out, rfl⟩
            · obtain ⟨q', rfl⟩ : ∃ q', q = q' + 1 := ⟨q - 1, by omega⟩
              obtain ⟨y, hy⟩ := get_of_lt HM.out.symm (show q' < m by omega)
              obtain ⟨b'', off'', hA'', _, c1⟩ := HX.out q' y hy
              cases hA''
              have HY : Hid (nth txs ((q' + 1 - 1 : Nat) : Int) = y) := Lib.hid (nth_get hy)
              clear hy
              by_cases hle : x ≤ y
              · have HE := Lib.hid (bErr_some HL.out (by rw [← HNL.out]; exact hlt) hall.out HR.out (by rw [HM.out]; exact hlt2) hall2.out (elAt_ord HXX.out ⟨x1, x2⟩ (by omega) (by rw [HY.out]; exact hle)))
                go_wp2_with fail
                go_ret
                exact ⟨ret_int HE.out.symm, rfl⟩
              · have HOK := Lib.hid (elAt_ok (k := k) HXX.out ⟨x1, x2⟩ (.inr (by rw [HY.out]; omega)))
                go_wp2_with fail
                go_roundg (m - (q' + 1 + 1))
                case measure => rw [HGK2.out]; omega
                case rel => exact ⟨q'+1+1, rfl, by omega, by go_num, forall_lt_succ hall2.out HOK.out, rfl⟩
          · have hxo' : x < 0 ∨ (0 ≤ x ∧ (k : Int) ≤ x) := by omega
            have HE := Lib.hid (bErr_some HL.out (by rw [← HNL.out]; exact hlt) hall.out HR.out (by rw [HM.out]; exact hlt2) hall2.out (elAt_arg HXX.out (show x < 0 ∨ (k : Int) ≤ x by omega)))
            clear hxo
            rcases hxo' with hx1 | ⟨hx1, hx2⟩
            all_goals
              go_wp2_with fail
              go_ret
              exact ⟨ret_int HE.out.symm, rfl⟩
        · go_wp2_with fail
          go_roundg (n - (k + 1))
          case measure => rw [HGK.out]; omega
          case rel => exact ⟨k+1, rfl, by omega, by go_num, forall_lt_succ hall.out (rowAt_ok HR.out (by rw [HM.out]; intro j hj; exact hall2.out j (by omega))), rfl⟩
    · go_wp2_with fail
      go_ret
      obtain rfl : k = n := by omega
      exact ⟨ret_int (bErr_none HL.out (by rw [← HNL.out]; exact hall.out)).symm, rfl⟩
end Go.Proofs.Ytnaiflokmihmeaa.Od

/- Walks: long (package order) and TimesFault (reference). -/
namespace Go.Proofs.Ytnaiflokmihmeaa.Od
open Go.RowKit
set_option linter.unusedVariables false
set_option linter.unusedSimpArgs false


end Go.Proofs.Ytnaiflokmihmeaa.Od

/- The other direction: the lists behind, and that both directions agree; no program in sight. -/
namespace Go.Proofs.Ytnaiflokmihmeaa.Od
open Go.RowKit
set_option linter.unusedVariables false

theorem Back.uniq {rs : List (List Int)} {ts : List Int} {L L' : Nat → Int} (hl : Low rs) (h : Back rs ts L) (h' : Back rs ts L') : ∀ m j, j < rs.length → rs.length - j ≤ m → L j = L' j := by
  intro m
  induction m with
  | zero => intro j hj hm; omega
  | succ m ih =>
    intro j hj hm
    refine (h.max j hj).uniq ((h'.max j hj).congr fun v => ?_)
    constructor
    · rintro ⟨k, xs, h1, h2, h3⟩
      have e1 := hl k xs h1 _ h2
      have e2 := (List.getElem?_eq_some_iff.1 h1).1
      exact ⟨k, xs, h1, h2, by rw [h3, ih k e2 (by omega)]⟩
    · rintro ⟨k, xs, h1, h2, h3⟩
      have e1 := hl k xs h1 _ h2
      have e2 := (List.getElem?_eq_some_iff.1 h1).1
      exact ⟨k, xs, h1, h2, by rw [h3, ih k e2 (by omega)]⟩
theorem late_uniq {rs : List (List Int)} {ts : List Int} {L L' : Nat → Int} {E : Int} (hl : Low rs) (h : Back rs ts L) (h' : Back rs ts L') : lateOf rs.length ts E L = lateOf rs.length ts E L' := by
  unfold lateOf
  refine List.map_congr_left fun x hx => ?_
  rw [h.uniq hl h' rs.length x (by simpa using hx) (by omega)]
theorem Back.bd {rs : List (List Int)} {ts : List Int} {L : Nat → Int} (h : Back rs ts L) (hl : Low rs) (ht : ∀ t ∈ ts, 0 ≤ t ∧ t ≤ 2000) {k : Nat} (hk : k < rs.length) : 0 ≤ L k ∧ nth ts k + L k ≤ endB rs ts rs.length := by
  have h1 := h.le hl rs.length k hk (by omega)
  have h2 := (S_bd hl ht k).1
  exact ⟨(h.max k hk).1, by omega⟩
theorem LI.bd {rs : List (List Int)} {ts : List Int} {L : Nat → Int} {Q : Nat → Nat → Prop} {out : List Int} (h : LI rs.length ts (endB rs ts rs.length) L Q out) (hB : Back rs ts L) (hl : Low rs) (ht : ∀ t ∈ ts, 0 ≤ t ∧ t ≤ 2000) (hQ : ∀ k x, Q k x → Edge rs k x) {x : Nat} (hx : x < rs.length) {a : Int} (ha : out[x]? = some a) : 0 ≤ a ∧ a ≤ endB rs ts rs.length := by
  obtain ⟨M, hM, ho⟩ := h.at_ x hx
  rw [ha] at ho
  injection ho with ho
  have hML : M ≤ L x := by
    rcases hM.2.2 with e | ⟨k, hk, e⟩
    · have := (hB.max x hx).1; omega
    · obtain ⟨xs, h1, h2⟩ := hQ _ _ hk
      exact (hB.max x hx).2.1 _ ⟨k, xs, h1, h2, e⟩
  have h1 := hB.bd hl ht hx
  have h2 := nth_bd ht x
  have h3 := hM.1
  omega
/-- the lists behind, as LatestOf makes them, when the edges of Q have been looked at -/
structure BI (n : Nat) (Q : Nat → Nat → Prop) (B : List (List Int)) : Prop where
  len : B.length = n
  at_ : ∀ j, j < n → ∃ ys, B[n - 1 - j]? = some ys ∧ ∀ y, y ∈ ys ↔ ∃ k, Q k j ∧ y = ((n - 1 - k : Nat) : Int)
theorem BI.step {n : Nat} {Q Q' : Nat → Nat → Prop} {B : List (List Int)} (h : BI n Q B) {k x : Nat} (hx : x < n) {ys : List Int} (hy : B[n - 1 - x]? = some ys) (hQ : ∀ k' x', Q' k' x' ↔ Q k' x' ∨ (k' = k ∧ x' = x)) :
    BI n Q' (B.set (n - 1 - x) (ys ++ [((n - 1 - k : Nat) : Int)])) := by
  refine ⟨by rw [List.length_set, h.len], fun j hj => ?_⟩
  obtain ⟨zs, hz, hm⟩ := h.at_ j hj
  by_cases he : j = x
  · subst he
    rw [hy] at hz
    injection hz with hz
    subst hz
    refine ⟨_, List.getElem?_set_self (by rw [h.len]; omega), fun y => ?_⟩
    rw [List.mem_append, hm, List.mem_singleton]
    constructor
    · rintro (⟨k', h1, h2⟩ | h1)
      · exact ⟨k', (hQ _ _).2 (.inl h1), h2⟩
      · exact ⟨k, (hQ _ _).2 (.inr ⟨rfl, rfl⟩), h1⟩
    · rintro ⟨k', h1, h2⟩
      rcases (hQ _ _).1 h1 with h1 | ⟨rfl, _⟩
      · exact .inl ⟨k', h1, h2⟩
      · exact .inr h2
  · refine ⟨zs, by rw [List.getElem?_set_ne (by omega)]; exact hz, fun y => ?_⟩
    rw [hm]
    constructor
    · rintro ⟨k', h1, h2⟩; exact ⟨k', (hQ _ _).2 (.inl h1), h2⟩
    · rintro ⟨k', h1, h2⟩
      rcases (hQ _ _).1 h1 with h1 | ⟨_, h3⟩
      · exact ⟨k', h1, h2⟩
      · exact absurd h3 he
theorem BI.congr {n : Nat} {Q Q' : Nat → Nat → Prop} {B : List (List Int)} (h : BI n Q B) (hQ : ∀ k x, Q' k x ↔ Q k x) : BI n Q' B :=
  ⟨h.len, fun j hj => by
    obtain ⟨ys, h1, h2⟩ := h.at_ j hj
    exact ⟨ys, h1, fun y => by rw [h2]; exact ⟨fun ⟨k, a, b⟩ => ⟨k, (hQ _ _).2 a, b⟩, fun ⟨k, a, b⟩ => ⟨k, (hQ _ _).1 a, b⟩⟩⟩⟩
section
variable {rs B : List (List Int)} {ts own : List Int}
theorem BI.low (h : BI rs.length (Edge rs) B) (hl : Low rs) : Low B := by
  intro j ys hj y hy
  have hjn : j < rs.length := by rw [← h.len]; exact (List.getElem?_eq_some_iff.1 hj).1
  obtain ⟨zs, hz, hm⟩ := h.at_ (rs.length - 1 - j) (by omega)
  rw [show rs.length - 1 - (rs.length - 1 - j) = j by omega, hj] at hz
  injection hz with hz
  subst hz
  obtain ⟨k, ⟨xs, h1, h2⟩, h3⟩ := (hm y).1 hy
  have e1 := hl k xs h1 _ h2
  have e2 := (List.getElem?_eq_some_iff.1 h1).1
  omega
theorem BI.back (h : BI rs.length (Edge rs) B) (hl : Low rs) (ho : ∀ k, k < rs.length → nth own ((rs.length - 1 - k : Nat) : Int) = nth ts k) : Back rs ts (fun j => S B own (rs.length - 1 - j)) := by
  refine ⟨fun j hj => ?_⟩
  obtain ⟨ys, hy, hm⟩ := h.at_ j hj
  refine (S_max (ts := own) (h.low hl) hy).congr fun v => ?_
  constructor
  · rintro ⟨i, hi, rfl⟩
    obtain ⟨k, ⟨xs, h1, h2⟩, h3⟩ := (hm _).1 hi
    have e2 := (List.getElem?_eq_some_iff.1 h1).1
    have e3 : i = rs.length - 1 - k := by omega
    subst e3
    exact ⟨k, xs, h1, h2, by rw [ho k e2]⟩
  · rintro ⟨k, xs, h1, h2, rfl⟩
    have e2 := (List.getElem?_eq_some_iff.1 h1).1
    exact ⟨rs.length - 1 - k, (hm _).2 ⟨k, ⟨xs, h1, h2⟩, rfl⟩, by rw [ho k e2]⟩
theorem BI.end_ (h : BI rs.length (Edge rs) B) (hl : Low rs) (ho : ∀ k, k < rs.length → nth own ((rs.length - 1 - k : Nat) : Int) = nth ts k) (ht : ∀ t ∈ ts, 0 ≤ t ∧ t ≤ 2000) : endB B own rs.length = endB rs ts rs.length := by
  have hB := h.back hl ho
  have hm := endB_max B own rs.length
  have h1 : endB rs ts rs.length ≤ endB B own rs.length := by
    refine hB.ge hl (fun k hk => ?_) hm.1
    have := hm.2.1 _ ⟨rs.length - 1 - k, by omega, rfl⟩
    rw [ho k hk] at this
    exact this
  have h2 : endB B own rs.length ≤ endB rs ts rs.length := by
    rcases hm.2.2 with e | ⟨i, hi, e⟩
    · have := (endB_max rs ts rs.length).1; omega
    · have h3 := hB.bd hl ht (show rs.length - 1 - i < rs.length by omega)
      have h4 := ho (rs.length - 1 - i) (by omega)
      rw [show rs.length - 1 - (rs.length - 1 - i) = i by omega] at h4 h3
      rw [h4] at e
      omega
  omega
end
/-- there is such a list -/
theorem back_ex (rs : List (List Int)) (ts : List Int) (hl : Low rs) : ∃ L, Back rs ts L := by
  have hB : BI rs.length (Edge rs) ((List.range rs.length).map fun i => ((List.range rs.length).filter fun k => decide (((rs.length - 1 - i : Nat) : Int) ∈ (rs[k]?).getD [])).map fun k => ((rs.length - 1 - k : Nat) : Int)) := by
    refine ⟨by simp, fun j hj => ⟨_, by rw [List.getElem?_map, List.getElem?_range (by omega)]; rfl, fun y => ?_⟩⟩
    simp only [List.mem_map, List.mem_filter, List.mem_range, decide_eq_true_eq]
    rw [show rs.length - 1 - (rs.length - 1 - j) = j by omega]
    constructor
    · rintro ⟨k, ⟨hk, hm⟩, rfl⟩
      rw [List.getElem?_eq_getElem hk] at hm
      exact ⟨k, ⟨_, List.getElem?_eq_getElem hk, hm⟩, rfl⟩
    · rintro ⟨k, ⟨xs, h1, h2⟩, rfl⟩
      exact ⟨k, ⟨(List.getElem?_eq_some_iff.1 h1).1, by rw [h1]; exact h2⟩, rfl⟩
  refine ⟨_, hB.back (own := (List.range rs.length).map fun i => nth ts ((rs.length - 1 - i : Nat) : Int)) hl fun k hk => ?_⟩
  unfold nth
  rw [Int.toNat_natCast, List.getElem?_map, List.getElem?_range (by omega)]
  simp only [Option.map_some, Option.getD_some, Int.toNat_natCast]
  rw [show rs.length - 1 - (rs.length - 1 - k) = k by omega]
end Go.Proofs.Ytnaiflokmihmeaa.Od

/- Walks: Times (package order). -/
namespace Go.Proofs.Ytnaiflokmihmeaa.Od
open Go.RowKit
set_option linter.unusedVariables false
set_option linter.unusedSimpArgs false

def startsL (rs : List (List Int)) (ts : List Int) : List Int := if tmErr rs ts = 0 then startsOf rs ts rs.length else []
def endL (rs : List (List Int)) (ts : List Int) : Int := if tmErr rs ts = 0 then endB rs ts rs.length else 0
def TimesPost (rs : List (List Int)) (ts : List Int) (w : World) (e : Ending) (w' : World) : Prop := ∃ v, e = .returned (.tuple #[v, .int .i64 (endL rs ts), .int .i64 (tmErr rs ts)]) ∧ IntsV w' v (startsL rs ts) ∧ Below w.heap.size w w'
theorem timesPost_bad {rs : List (List Int)} {ts : List Int} {w : World} {e : Int} (he : tmErr rs ts = e) (h : e ≠ 0) : TimesPost rs ts w (.returned (.tuple #[.slice none 0 0, .int .i64 0, .int .i64 e])) w :=
  ⟨.slice none 0 0, by rw [he]; simp [endL, he, h], by unfold startsL; rw [if_neg (by rw [he]; exact h)]; exact IntsV.nil _, Below.refl _ _⟩
theorem timesPost_ok {rs : List (List Int)} {ts : List Int} {w wr : World} {v : Value} {n : Nat} (he : tmErr rs ts = 0) (hn : n = rs.length) (h : IRow w v (startsOf rs ts n) wr) : TimesPost rs ts w (.returned (.tuple #[v, .int .i64 (endB rs ts n), .int .i64 0])) wr :=
  ⟨v, by rw [he, hn]; simp [endL, he], by unfold startsL; rw [if_pos he, ← hn]; exact h.intsV, h.bel⟩

end Go.Proofs.Ytnaiflokmihmeaa.Od

/- Walks: Latest (package order). -/
namespace Go.Proofs.Ytnaiflokmihmeaa.Od
open Go.RowKit
set_option linter.unusedVariables false
set_option linter.unusedSimpArgs false

def lateL (rs : List (List Int)) (ts : List Int) (L : Nat → Int) : List Int := if tmErr rs ts = 0 then lateOf rs.length ts (endB rs ts rs.length) L else []
def LatePost (rs : List (List Int)) (ts : List Int) (L : Nat → Int) (w : World) (e : Ending) (w' : World) : Prop := ∃ v, e = .returned (.tuple #[v, .int .i64 (tmErr rs ts)]) ∧ IntsV w' v (lateL rs ts L) ∧ Below w.heap.size w w'
theorem latePost_bad {rs : List (List Int)} {ts : List Int} {L : Nat → Int} {w w' : World} {e : Int} (he : tmErr rs ts = e) (h : e ≠ 0) (hb : Below w.heap.size w w') : LatePost rs ts L w (.returned (.tuple #[.slice none 0 0, .int .i64 e])) w' :=
  ⟨.slice none 0 0, by rw [he], by unfold lateL; rw [if_neg (by rw [he]; exact h)]; exact IntsV.nil _, hb⟩
theorem latePost_ok {rs : List (List Int)} {ts : List Int} {L : Nat → Int} {w w' : World} {g n : Nat} {out : List Int} (he : tmErr rs ts = 0) (hn : n = out.length) (hm : n ≤ 40) (h : IBlk w' g out) (ho : out = lateOf rs.length ts (endB rs ts rs.length) L) (hb : Below w.heap.size w w') : LatePost rs ts L w (.returned (.tuple #[.slice (some ⟨g, 0, none⟩) n n, .int .i64 0])) w' :=
  ⟨.slice (some ⟨g, 0, none⟩) n n, by rw [he], by unfold lateL; rw [if_pos he, ← ho]; exact h.intsV hn (by unfold maxLen; omega), hb⟩
/-- the edges that have been looked at, behind k rows from the end and q of the next one -/
def Done (rs : List (List Int)) (k q : Nat) (k' x : Nat) : Prop := (k + 1 ≤ k' ∧ Edge rs k' x) ∨ (k' = k ∧ ∃ xs, rs[k]? = some xs ∧ (x : Int) ∈ xs.take q)
theorem Done.edge {rs : List (List Int)} {k q k' x : Nat} (h : Done rs k q k' x) : Edge rs k' x := by
  rcases h with ⟨_, h⟩ | ⟨rfl, xs, h1, h2⟩
  · exact h
  · exact ⟨xs, h1, List.mem_of_mem_take h2⟩
theorem Done.zero {rs : List (List Int)} {k k' x : Nat} : Done rs k 0 k' x ↔ (k + 1 ≤ k' ∧ Edge rs k' x) := by
  unfold Done
  constructor
  · rintro (h | ⟨_, xs, _, h⟩)
    · exact h
    · simp at h
  · exact .inl
theorem Done.all {rs : List (List Int)} {k k' x : Nat} {xs : List Int} (h : rs[k]? = some xs) {m : Nat} (hm : xs.length = m) : (k ≤ k' ∧ Edge rs k' x) ↔ Done rs k m k' x := by
  unfold Done
  constructor
  · rintro ⟨h1, h2⟩
    by_cases e : k' = k
    · subst e
      obtain ⟨ys, h3, h4⟩ := h2
      rw [h] at h3; injection h3 with h3; subst h3
      exact .inr ⟨rfl, xs, h, by rw [← hm, List.take_length]; exact h4⟩
    · exact .inl ⟨by omega, h2⟩
  · rintro (⟨h1, h2⟩ | ⟨rfl, ys, h1, h2⟩)
    · exact ⟨by omega, h2⟩
    · exact ⟨Nat.le_refl _, ys, h1, List.mem_of_mem_take h2⟩
theorem Done.step {rs : List (List Int)} {k q : Nat} {xs : List Int} (h : rs[k]? = some xs) {x : Nat} (hx : xs[q]? = some (x : Int)) (k' x' : Nat) : Done rs k (q+1) k' x' ↔ Done rs k q k' x' ∨ (k' = k ∧ x' = x) := by
  unfold Done
  constructor
  · rintro (h1 | ⟨rfl, ys, h1, h2⟩)
    · exact .inl (.inl h1)
    · rw [h] at h1; injection h1 with h1; subst h1
      rw [List.take_add_one, hx] at h2
      simp only [Option.toList_some, List.mem_append, List.mem_singleton] at h2
      rcases h2 with h2 | h2
      · exact .inl (.inr ⟨rfl, xs, h, h2⟩)
      · exact .inr ⟨rfl, by omega⟩
  · rintro ((h1 | ⟨rfl, ys, h1, h2⟩) | ⟨rfl, rfl⟩)
    · exact .inl h1
    · rw [h] at h1; injection h1 with h1; subst h1
      refine .inr ⟨rfl, xs, h, ?_⟩
      rw [List.take_add_one]; exact List.mem_append_left _ h2
    · refine .inr ⟨rfl, xs, h, ?_⟩
      rw [List.take_add_one, hx]; simp
theorem Done.at_k {rs : List (List Int)} (hl : Low rs) {k q k' : Nat} : Done rs k q k' k ↔ Edge rs k' k := by
  refine ⟨Done.edge, fun h => ?_⟩
  obtain ⟨xs, h1, h2⟩ := h
  have := hl k' xs h1 _ h2
  exact .inl ⟨by omega, xs, h1, h2⟩
theorem LI.fill {n : Nat} {ts : List Int} {E : Int} {L : Nat → Int} {out : List Int} (hl : out.length = n) (h : ∀ x, x < n → out[x]? = some (E - nth ts x)) {Q : Nat → Nat → Prop} (hQ : ∀ k x, x < n → ¬ Q k x) : LI n ts E L Q out :=
  ⟨hl, fun x hx => ⟨0, IsMax.none_ fun v ⟨k, h1, _⟩ => hQ k x hx h1, by rw [h x hx]; congr 1; omega⟩⟩

end Go.Proofs.Ytnaiflokmihmeaa.Od

/- Walks: Critical (package order). -/
namespace Go.Proofs.Ytnaiflokmihmeaa.Od
open Go.RowKit
set_option linter.unusedVariables false
set_option linter.unusedSimpArgs false

/-- where two lists agree -/
def critF (a b : List Int) : Nat → List Int
  | 0 => []
  | k + 1 => critF a b k ++ (if nth a k = nth b k then [(k : Int)] else [])
theorem critF_len (a b : List Int) (k : Nat) : (critF a b k).length ≤ k := by
  induction k with
  | zero => exact Nat.le_refl _
  | succ k ih => unfold critF; rw [List.length_append]; split <;> simp <;> omega
theorem critF_yes {a b : List Int} {k : Nat} (h : nth a k = nth b k) : critF a b (k+1) = critF a b k ++ [(k : Int)] := by
  show critF a b k ++ (if nth a k = nth b k then [(k : Int)] else []) = _
  rw [if_pos h]
theorem critF_no {a b : List Int} {k : Nat} (h : nth a k ≠ nth b k) : critF a b (k+1) = critF a b k := by
  show critF a b k ++ (if nth a k = nth b k then [(k : Int)] else []) = _
  rw [if_neg h, List.append_nil]
def critL (rs : List (List Int)) (ts : List Int) (L : Nat → Int) : List Int := if tmErr rs ts = 0 then critF (startsL rs ts) (lateL rs ts L) rs.length else []
def CritPost (rs : List (List Int)) (ts : List Int) (L : Nat → Int) (w : World) (e : Ending) (w' : World) : Prop := ∃ v, e = .returned (.tuple #[v, .int .i64 (tmErr rs ts)]) ∧ IntsV w' v (critL rs ts L) ∧ Below w.heap.size w w'
theorem critPost_bad {rs : List (List Int)} {ts : List Int} {L : Nat → Int} {w w' : World} {e : Int} (he : tmErr rs ts = e) (h : e ≠ 0) (hb : Below w.heap.size w w') : CritPost rs ts L w (.returned (.tuple #[.slice none 0 0, .int .i64 e])) w' :=
  ⟨.slice none 0 0, by rw [he], by unfold critL; rw [if_neg (by rw [he]; exact h)]; exact IntsV.nil _, hb⟩
theorem critPost_ok {rs : List (List Int)} {ts : List Int} {L : Nat → Int} {w w2 wr : World} {v : Value} {n : Nat} (he : tmErr rs ts = 0) (hn : n = rs.length) (h : IRow w2 v (critF (startsL rs ts) (lateL rs ts L) n) wr) (hb : Below w.heap.size w w2) : CritPost rs ts L w (.returned (.tuple #[v, .int .i64 0])) wr :=
  ⟨v, by rw [he], by unfold critL; rw [if_pos he, ← hn]; exact h.intsV, hb.trans (h.bel.mono hb.size)⟩
theorem startsL_len {rs : List (List Int)} {ts : List Int} (he : tmErr rs ts = 0) : (startsL rs ts).length = rs.length := by unfold startsL; rw [if_pos he, startsOf_len]
theorem lateL_len {rs : List (List Int)} {ts : List Int} {L : Nat → Int} (he : tmErr rs ts = 0) : (lateL rs ts L).length = rs.length := by unfold lateL; rw [if_pos he]; simp [lateOf]

end Go.Proofs.Ytnaiflokmihmeaa.Od

/- Walks: longest, StartsOf (reference). -/
namespace Go.Proofs.Ytnaiflokmihmeaa.Od
open Go.RowKit
set_option linter.unusedVariables false
set_option linter.unusedSimpArgs false

theorem grown_drewN {w w' : World} {row : Option Nat} (h : w.grownBy w' row) (n : Nat) : w.grownBy (w'.drewN n) row := ⟨h.os, h.tape, h.output, h.size, h.block⟩
theorem grown_of_below {w w' : World} {row : Option Nat} (h : Below w.heap.size w w') : w.grownBy w' row := ⟨h.os, h.tape, h.output, h.size, fun i hi _ => h.block i hi⟩
theorem grown_trans {w w' w'' : World} {row : Option Nat} (h : w.grownBy w' row) (h' : w'.grownBy w'' row) : w.grownBy w'' row :=
  ⟨h'.os.trans h.os, h'.tape.trans h.tape, h'.output.trans h.output, Nat.le_trans h.size h'.size, fun i hi hr => (h'.block i (Nat.lt_of_lt_of_le hi h.size) hr).trans (h.block i hi hr)⟩
theorem Rws.map {W w w' : World} {rs : List Rw} {b : Nat} {α β : Type} {enc : α → Value} {en : β → Value} {l : List (α × β)} (h : Rws W rs w) (hM : MapOf enc en w b l) (hg : w.grownBy w' (some b)) (hb : W.heap.size ≤ b) : Rws W rs w' := by
  refine ⟨h.below.grown hg h.below.size (fun k hk => by cases hk; exact hb), fun r hr => (h.own r hr).kept hg ?_, h.apart⟩
  cases hv : r.v.ownBlock with
  | none => exact .inl rfl
  | some k =>
    refine .inr fun e => ?_
    injection e with e
    subst e
    obtain ⟨es, clock, hh, _⟩ := hM
    rcases (h.own r hr).2 with ⟨hn, _⟩ | ⟨g, cap, cur, hv2, _, hgg, _⟩
    · rw [hn] at hv; simp [Value.ownBlock] at hv
    · rw [hv2] at hv
      simp [Value.ownBlock] at hv
      subst hv
      rw [hh] at hgg
      cases hgg
abbrev IM (w : World) (b : Nat) (l : List (Int × Int)) : Prop := MapOf (fun x : Int => .int .i64 x) (fun x : Int => .int .i64 x) w b l
theorem kInt : KLaw Try.prog 3 (fun x : Int => .int .i64 x) := klaw_int Try.underlying3
theorem zInt (w : World) : (zeroValue 3).run Try.prog w = .ok (.int .i64 0) w := by kernel_rfl


/-- the map knows the first k starts -/
def Knows (rs : List (List Int)) (ts : List Int) (k : Nat) (l : List (Int × Int)) : Prop := (∀ j, j < k → aget l (j : Int) = some (S rs ts j)) ∧ ∀ j, k ≤ j → aget l (j : Int) = none
theorem Knows.succ {rs : List (List Int)} {ts : List Int} {k : Nat} {l : List (Int × Int)} (h : Knows rs ts k l) : Knows rs ts (k + 1) (aput l (k : Int) (S rs ts k)) := by
  refine ⟨fun j hj => ?_, fun j hj => ?_⟩
  · rw [aget_aput]
    by_cases e : j = k
    · subst e; rw [if_pos rfl]
    · rw [if_neg (by omega)]; exact h.1 j (by omega)
  · rw [aget_aput, if_neg (by omega)]; exact h.2 j (by omega)
theorem atB_eq {rs : List (List Int)} {ts xs : List Int} {k : Nat} (hlow : ∀ x ∈ xs, 0 ≤ x ∧ x < k) {q : Nat} {x : Nat} (hx : xs[q]? = some (x : Int)) : atB (startsOf rs ts k) ts (xs.take (q+1)) = max (atB (startsOf rs ts k) ts (xs.take q)) (S rs ts x + nth ts x) := by
  rw [List.take_add_one, hx]
  have h1 := hlow _ (List.mem_of_getElem? hx)
  have e := atB_snoc (startsOf rs ts k) ts (xs.take q) (x : Int)
  rw [nth_startsOf (show x < k by omega)] at e
  exact e


theorem own_map_ne {w : World} {base : Nat} {e : TypeId} {size n b : Nat} {v : Value} {xs : List Value} {α β : Type} {enc : α → Value} {en : β → Value} {l : List (α × β)} (h : w.ownsRow base e size v n xs) (hM : MapOf enc en w b l) : some b ≠ v.ownBlock := by
  obtain ⟨es, clock, hm, _⟩ := hM
  rcases h.2 with ⟨rfl, _⟩ | ⟨g', cap, cur, rfl, _, hh, _⟩
  · simp [Value.ownBlock]
  · intro he
    have : b = g' := by simpa [Value.ownBlock] using he
    subst this
    rw [hm] at hh
    cases hh
def StartPost (rs : List (List Int)) (ts : List Int) (n : Nat) (w : World) (e : Ending) (w' : World) : Prop := ∃ v, e = .returned (.tuple #[v, .int .i64 (endB rs ts n)]) ∧ IntsV w' v (startsOf rs ts n) ∧ Below w.heap.size w w'

end Go.Proofs.Ytnaiflokmihmeaa.Od

/- Walks: LatestOf (reference). -/
namespace Go.Proofs.Ytnaiflokmihmeaa.Od
open Go.RowKit
set_option linter.unusedVariables false
set_option linter.unusedSimpArgs false

theorem infoS : (Try.prog.info? 22).map (fun i => (i.zero, i.size, i.bytes)) = some (some (.slice none 0 0), 1, 24) := by kernel_rfl
theorem make_s (n : Nat) (hn : n ≤ 4294967296) (w : World) : (Instr.makeSlice 57 (.int .i64 (n : Int)) (.int .i64 (n : Int))).run Try.prog w = .ok (.slice (some ⟨w.heap.size, 0, none⟩) n n) (w.alloc (.cells (Array.replicate n (.slice none 0 0)) 22)) := by
  obtain ⟨i0, hi0, hz0, hz1, hz2⟩ := info_parts infoS
  exact run_make_ Try.underlying57 hi0 hz0 hz1 rfl n (by rw [hz2]; omega) (by omega) w
/-- the rows of a slice of slices -/
def rowsB (vs : List Value) (B : List (List Int)) : List Rw := (vs.zip B).map fun p => ⟨p.1, 3, 1, p.2.length, cellsI p.2⟩
theorem rowsB_get {vs : List Value} {B : List (List Int)} {i : Nat} {v : Value} {ys : List Int} (hv : vs[i]? = some v) (hy : B[i]? = some ys) : (rowsB vs B)[i]? = some ⟨v, 3, 1, ys.length, cellsI ys⟩ := by
  have h1 : (vs.zip B)[i]? = some (v, ys) := List.getElem?_zip_eq_some.2 ⟨hv, hy⟩
  simp [rowsB, h1]
theorem rowsB_set {vs : List Value} {B : List (List Int)} {i : Nat} {v : Value} {ys : List Int} : (rowsB vs B).set i ⟨v, 3, 1, ys.length, cellsI ys⟩ = rowsB (vs.set i v) (B.set i ys) := by
  unfold rowsB
  induction vs generalizing B i with
  | nil => simp
  | cons a vs ih =>
    cases B with
    | nil => simp
    | cons b B =>
      cases i with
      | zero => simp
      | succ i => simp only [List.zip_cons_cons, List.set_cons_succ, List.map_cons, List.cons.injEq, true_and]; exact ih
/-- the slice of slices in block G under way -/
structure BkS (w w3 : World) (G g2 : Nat) (vs : List Value) (B : List (List Int)) (own : List Int) (wr : World) : Prop where
  blk : Blk wr G 22 vs.toArray
  own : IBlk wr g2 own
  len : vs.length = B.length
  rows : RwsB w3.heap.size (rowsB vs B) wr
  size : w3.heap.size ≤ wr.heap.size
  bel : Below w.heap.size w wr
section
variable {w w3 wr w' : World} {G g2 : Nat} {vs : List Value} {B : List (List Int)} {own : List Int}
theorem BkS.at_ (h : BkS w w3 G g2 vs B own wr) {i : Nat} {ys : List Int} (hy : B[i]? = some ys) : ∃ v, vs[i]? = some v ∧ wr.cell? ⟨G, i, none⟩ = some v ∧ (rowsB vs B)[i]? = some ⟨v, 3, 1, ys.length, cellsI ys⟩ ∧ ∃ A c, v = .slice A ys.length c := by
  obtain ⟨v, hv⟩ := get_of_lt rfl (show i < vs.length by rw [h.len]; exact (List.getElem?_eq_some_iff.1 hy).1)
  have hr := rowsB_get hv hy
  have ho := h.rows.own _ (List.mem_of_getElem? hr)
  refine ⟨v, hv, ?_, hr, ?_⟩
  · rw [h.blk.cell]; simp [hv]
  · obtain ⟨A, c, e, _⟩ := IntsAt.of_own ho
    exact ⟨A, c, e⟩
theorem BkS.setOwn (h : BkS w w3 G g2 vs B own wr) (hne : G ≠ g2) (h2 : g2 < w3.heap.size) (hw : w.heap.size ≤ g2) (k : Nat) (y : Int) : BkS w w3 G g2 vs B (own.set k y) (wr.setCell ⟨g2, k, none⟩ (.int .i64 y)) :=
  ⟨h.blk.far (p := ⟨g2, k, none⟩) hne _, h.own.set_ k y, h.len, h.rows.setCell (p := ⟨g2, k, none⟩) h2 _, by simp; exact h.size, h.bel.setCell hw _⟩
theorem BkS.setRow (h : BkS w w3 G g2 vs B own wr) (hne : G ≠ g2) (hG : G < w3.heap.size) (h2 : g2 < w3.heap.size) (hw : w.heap.size ≤ G) (hw3 : w.heap.size ≤ w3.heap.size) {i : Nat} {v : Value} {ys : List Int}
    (hR : RwsB w3.heap.size ((rowsB vs B).set i ⟨v, 3, 1, ys.length, cellsI ys⟩) w') (hk : ∀ k, k < w3.heap.size → w'.heap[k]? = wr.heap[k]?) (hb : Below w3.heap.size wr w') : BkS w w3 G g2 (vs.set i v) (B.set i ys) own (w'.setCell ⟨G, i, none⟩ v) := by
  have h1 : Blk w' G 22 vs.toArray := (hk G hG).trans h.blk
  have h3 := h1.set_ i v
  rw [show vs.toArray.setIfInBounds i v = (vs.set i v).toArray by simp] at h3
  refine ⟨h3, ?_, by simp [h.len], ?_, by simp; exact Nat.le_trans h.size hb.size, (h.bel.trans (hb.mono hw3)).setCell hw _⟩
  · have h4 : IBlk w' g2 own := (hk g2 h2).trans h.own
    exact h4.far (p := ⟨G, i, none⟩) (Ne.symm hne) _
  · rw [← rowsB_set]
    exact hR.setCell (p := ⟨G, i, none⟩) hG _
theorem BkS.frozen (h : BkS w w3 G g2 vs B own wr) (i : Nat) : wr.frozen? ⟨G, i, none⟩ = false := h.blk.frozen i
theorem BkS.read (h : BkS w w3 G g2 vs B own wr) : ∃ rsB : List Row, ll rsB = B ∧ rsB.length = B.length ∧ RowsAt wr wr.heap.size (some ⟨G, 0, none⟩) rsB := by
  obtain ⟨rsB, hl, hr⟩ := list_of (n := B.length) (R := fun i (r : Row) => B[i]? = some r.xs ∧ vs[i]? = some (.slice r.A r.xs.length r.c) ∧ r.xs.length ≤ 9223372036854775807 ∧ IntsAt wr wr.heap.size r.A r.xs) (by
    intro i hi
    obtain ⟨ys, hy⟩ := get_of_lt rfl hi
    obtain ⟨v, hv, _, hr, _⟩ := h.at_ hy
    obtain ⟨A, c, rfl, h1, h2, h3⟩ := IntsAt.of_own (h.rows.own _ (List.mem_of_getElem? hr))
    exact ⟨⟨A, c, ys⟩, hy, hv, by unfold maxLen at h2; show ys.length ≤ _; omega, h3⟩)
  refine ⟨rsB, ?_, hl, fun k r hk => ?_⟩
  · refine List.ext_getElem? fun i => ?_
    by_cases hi : i < B.length
    · obtain ⟨r, hri⟩ := get_of_lt hl.symm hi
      rw [ll_get hri, (hr i r hri).1]
    · rw [List.getElem?_eq_none (by rw [ll_len]; omega), List.getElem?_eq_none (by omega)]
  · obtain ⟨h1, h2, h3, h4⟩ := hr k r hk
    refine ⟨G, 0, rfl, h.blk.lt, ?_, h3, h4⟩
    rw [Nat.zero_add, h.blk.cell]; simp [h2]
end
/-- the edges looked at, before row k and up to q of it -/
def Up (rs : List (List Int)) (k q : Nat) (k' x : Nat) : Prop := (k' < k ∧ Edge rs k' x) ∨ (k' = k ∧ ∃ xs, rs[k]? = some xs ∧ (x : Int) ∈ xs.take q)
theorem Up.zero {rs : List (List Int)} {k k' x : Nat} : Up rs k 0 k' x ↔ (k' < k ∧ Edge rs k' x) := by
  unfold Up
  constructor
  · rintro (h | ⟨_, xs, _, h⟩)
    · exact h
    · simp at h
  · exact .inl
theorem Up.all {rs : List (List Int)} {k k' x : Nat} {xs : List Int} (h : rs[k]? = some xs) {m : Nat} (hm : xs.length = m) : Up rs (k+1) 0 k' x ↔ Up rs k m k' x := by
  rw [Up.zero]
  unfold Up
  constructor
  · rintro ⟨h1, h2⟩
    by_cases e : k' = k
    · subst e
      obtain ⟨ys, h3, h4⟩ := h2
      rw [h] at h3; injection h3 with h3; subst h3
      exact .inr ⟨rfl, xs, h, by rw [← hm, List.take_length]; exact h4⟩
    · exact .inl ⟨by omega, h2⟩
  · rintro (⟨h1, h2⟩ | ⟨rfl, ys, h1, h2⟩)
    · exact ⟨by omega, h2⟩
    · exact ⟨by omega, ys, h1, List.mem_of_mem_take h2⟩
theorem Up.step {rs : List (List Int)} {k q : Nat} {xs : List Int} (h : rs[k]? = some xs) {x : Nat} (hx : xs[q]? = some (x : Int)) (k' x' : Nat) : Up rs k (q+1) k' x' ↔ Up rs k q k' x' ∨ (k' = k ∧ x' = x) := by
  unfold Up
  constructor
  · rintro (h1 | ⟨rfl, ys, h1, h2⟩)
    · exact .inl (.inl h1)
    · rw [h] at h1; injection h1 with h1; subst h1
      rw [List.take_add_one, hx] at h2
      simp only [Option.toList_some, List.mem_append, List.mem_singleton] at h2
      rcases h2 with h2 | h2
      · exact .inl (.inr ⟨rfl, xs, h, h2⟩)
      · exact .inr ⟨rfl, by omega⟩
  · rintro ((h1 | ⟨rfl, ys, h1, h2⟩) | ⟨rfl, rfl⟩)
    · exact .inl h1
    · rw [h] at h1; injection h1 with h1; subst h1
      refine .inr ⟨rfl, xs, h, ?_⟩
      rw [List.take_add_one]; exact List.mem_append_left _ h2
    · refine .inr ⟨rfl, xs, h, ?_⟩
      rw [List.take_add_one, hx]; simp
theorem Up.last {rs : List (List Int)} {n k' x : Nat} (hn : n = rs.length) : Edge rs k' x ↔ Up rs n 0 k' x := by
  rw [Up.zero]
  constructor
  · intro h
    obtain ⟨xs, h1, h2⟩ := h
    exact ⟨by rw [hn]; exact (List.getElem?_eq_some_iff.1 h1).1, xs, h1, h2⟩
  · exact fun h => h.2
/-- what has been built -/
structure Bld (n : Nat) (rs : List (List Int)) (ts : List Int) (k q kk : Nat) (B : List (List Int)) (own : List Int) : Prop where
  bi : BI n (Up rs k q) B
  own : own.length = n ∧ ∀ j, j < kk → j < n → own[n - 1 - j]? = some (nth ts j)
  short : ∀ ys ∈ B, ys.length ≤ 41 * k + q
theorem Bld.zero (n : Nat) (rs : List (List Int)) (ts : List Int) : Bld n rs ts 0 0 0 (List.replicate n []) (List.replicate n 0) := by
  refine ⟨⟨by simp, fun j hj => ⟨[], by simp [List.getElem?_replicate]; omega, fun y => ?_⟩⟩, ⟨by simp, fun j hj => by omega⟩, fun ys hy => by rw [(List.mem_replicate.1 hy).2]; simp⟩
  constructor
  · intro h; simp at h
  · rintro ⟨k, h, _⟩
    rw [Up.zero] at h
    omega
theorem Bld.setOwn {n : Nat} {rs : List (List Int)} {ts : List Int} {k : Nat} {B : List (List Int)} {own : List Int} (h : Bld n rs ts k 0 k B own) (hk : k < n) {t : Int} (ht : nth ts k = t) : Bld n rs ts k 0 (k+1) B (own.set (n - 1 - k) t) :=
  ⟨h.bi, ⟨by rw [List.length_set, h.own.1], fun j hj hjn => by
    by_cases e : j = k
    · subst e; rw [List.getElem?_set_self (by rw [h.own.1]; omega), ht]
    · rw [List.getElem?_set_ne (by omega)]; exact h.own.2 j (by omega) hjn⟩, h.short⟩
theorem Bld.push {n : Nat} {rs : List (List Int)} {ts : List Int} {k q kk : Nat} {B : List (List Int)} {own : List Int} (h : Bld n rs ts k q kk B own) {xs : List Int} (hxs : rs[k]? = some xs) {x : Nat} (hx : xs[q]? = some (x : Int)) (hxn : x < n) {ys : List Int} (hy : B[n - 1 - x]? = some ys) : Bld n rs ts k (q+1) kk (B.set (n - 1 - x) (ys ++ [((n - 1 - k : Nat) : Int)])) own := by
  refine ⟨h.bi.step hxn hy (Up.step hxs hx), h.own, fun zs hz => ?_⟩
  rcases List.mem_or_eq_of_mem_set hz with hz | rfl
  · have := h.short zs hz; omega
  · have := h.short ys (List.mem_of_getElem? hy)
    simp; omega
theorem Bld.next {n : Nat} {rs : List (List Int)} {ts : List Int} {k m : Nat} {B : List (List Int)} {own : List Int} (h : Bld n rs ts k m (k+1) B own) {xs : List Int} (hxs : rs[k]? = some xs) (hm : xs.length = m) (hm40 : m ≤ 41) : Bld n rs ts (k+1) 0 (k+1) B own :=
  ⟨h.bi.congr fun k' x => Up.all hxs hm, h.own, fun ys hy => by have := h.short ys hy; omega⟩
end Go.Proofs.Ytnaiflokmihmeaa.Od

/- Walks: slices.Index, Contains, IndexFunc, ContainsFunc as Pick calls them. -/
namespace Go.Proofs.Ytnaiflokmihmeaa.Od
open Go.RowKit
set_option linter.unusedVariables false
set_option linter.unusedSimpArgs false

def idxI (p : Int → Bool) (xs : List Int) : Int := match xs.findIdx? p with | some i => i | none => -1
theorem idxI_found {p : Int → Bool} {xs : List Int} {k : Nat} {x : Int} (hx : xs[k]? = some x) (hp : p x = true) (h : ∀ j < k, ∀ y, xs[j]? = some y → p y = false) : idxI p xs = k := by
  unfold idxI
  have : xs.findIdx? p = some k := by
    rw [List.findIdx?_eq_some_iff_getElem]
    obtain ⟨hl, hx2⟩ := List.getElem?_eq_some_iff.1 hx
    refine ⟨hl, by rw [hx2]; exact hp, fun j hj => ?_⟩
    have := h j hj _ (List.getElem?_eq_getElem (by omega))
    simp [this]
  rw [this]
theorem idxI_none {p : Int → Bool} {xs : List Int} (h : ∀ j < xs.length, ∀ y, xs[j]? = some y → p y = false) : idxI p xs = -1 := by
  unfold idxI
  have : xs.findIdx? p = none := by
    rw [List.findIdx?_eq_none_iff]
    intro x hx
    obtain ⟨j, hj⟩ := List.mem_iff_getElem?.1 hx
    exact h j (List.getElem?_eq_some_iff.1 hj).1 x hj
  rw [this]
theorem idxI_any (p : Int → Bool) (xs : List Int) : decide (0 ≤ idxI p xs) = xs.any p := by
  unfold idxI
  cases h : xs.findIdx? p with
  | none =>
    have h1 := List.findIdx?_eq_none_iff.1 h
    have : xs.any p = false := by rw [List.any_eq_false]; intro x hx; simp [h1 x hx]
    rw [this]; simp
  | some i =>
    obtain ⟨hl, hp, _⟩ := List.findIdx?_eq_some_iff_getElem.1 h
    have : xs.any p = true := List.any_eq_true.2 ⟨_, List.getElem_mem hl, hp⟩
    rw [this]; simp
theorem idxI_lo (p : Int → Bool) (xs : List Int) : -1 ≤ idxI p xs := by unfold idxI; split <;> omega

set_option maxHeartbeats 1000000 in
theorem indexI_any (xs : List Int) (A : Option Addr) (n c : Nat) (x : Int) (w : World) (hn : n = xs.length) (hm : n ≤ 9223372036854775807) (h : IntsAt w w.heap.size A xs) :
    Calls Try.prog 83 #[.slice A n c, .int .i64 x] w fun e w' => e = .returned (.int .i64 (idxI (fun y => x == y) xs)) ∧ w' = w := by
  have HN := Lib.hid hn; clear hn
  have H := Lib.hid h; clear h
  go_enter Try.func83, Try.ntmps83
  go_wp2_with fail
  go_loop [8] (fun i => ∃ k : Nat, k ≤ n ∧ i = .int .i64 k ∧ Hid (∀ j < k, ∀ y, xs[j]? = some y → (x == y) = false)) (fun i => n - (intOf i).toNat)
  case atStart => exact ⟨0, Nat.zero_le _, rfl, forall_lt_zero⟩
  case round =>
    obtain ⟨k, hk, rfl, hall⟩ := hrel
    by_cases hlt : k < n
    · obtain ⟨y, hy⟩ := get_of_lt HN.out hlt
      obtain ⟨b, off, rfl, hb, h0⟩ := H.out k y hy
      have HY := Lib.hid hy; clear hy
      by_cases hp : (x == y) = true
      · have HF := Lib.hid (idxI_found (p := fun y => x == y) HY.out hp hall.out)
        go_wp2_with fail
        go_ret
        exact ⟨ret_int HF.out.symm, rfl⟩
      · have hp' : (x == y) = false := by simpa using hp
        clear hp
        have HP := Lib.hid hp'
        go_wp2_with fail
        go_round
        case rel => exact ⟨k+1, by omega, by go_num, forall_lt_succ hall.out (fun y' hy' => by rw [HY.out] at hy'; cases hy'; exact HP.out)⟩
        case measure => simp [intOf]; omega
    · obtain rfl : k = n := by omega
      go_wp2_with fail
      go_ret
      exact ⟨ret_int (idxI_none (by rw [← HN.out]; exact hall.out)).symm, rfl⟩
theorem containsI_any (xs : List Int) (A : Option Addr) (n c : Nat) (x : Int) (w : World) (hn : n = xs.length) (hm : n ≤ 9223372036854775807) (h : IntsAt w w.heap.size A xs) {r : Bool} (hr : decide (x ∈ xs) = r) :
    Calls Try.prog 78 #[.slice A n c, .int .i64 x] w fun e w' => e = .returned (.bool r) ∧ w' = w := by
  have HC := Lib.hid (indexI_any xs A n c x w hn hm h)
  have HD : Hid (decide (0 ≤ idxI (fun y => x == y) xs) = r) := Lib.hid (by
    rw [idxI_any, ← hr, Bool.eq_iff_iff, List.any_eq_true, decide_eq_true_eq]
    constructor
    · rintro ⟨y, hy, e⟩; rw [beq_iff_eq.1 e]; exact hy
    · exact fun hx => ⟨x, hx, beq_self_eq_true _⟩)
  clear hn h hr
  obtain ⟨i, hi⟩ : ∃ i, idxI (fun y => x == y) xs = i := ⟨_, rfl⟩
  rw [hi] at HC HD
  clear hi
  go_enter Try.func78, Try.ntmps78
  go_wp2_with fail
  refine HC.out.mono ?_
  rintro e w' ⟨rfl, rfl⟩
  go_wp2_with fail
  go_ret
  exact ⟨ret_bool HD.out, rfl⟩

/-- the variable at p holds the integers ys -/
def VarI (w : World) (p : Nat) (ys : List Int) : Prop := ∃ A c, w.cell? ⟨p, 0, none⟩ = some (.slice A ys.length c) ∧ ys.length ≤ 9223372036854775807 ∧ IntsAt w w.heap.size A ys
theorem pick1_any (ys : List Int) (p : Nat) (x : Int) (w : World) (h : VarI w p ys) {r : Bool} (hr : (!decide (x ∈ ys)) = r) :
    Calls Try.prog 105 #[.int .i64 x, .pointer (some ⟨p, 0, none⟩)] w fun e w' => e = .returned (.bool r) ∧ w' = w := by
  obtain ⟨A, c, h0, h1, h2⟩ := h
  have HC := Lib.hid (containsI_any ys A ys.length c x w rfl h1 h2 (r := !r) (by rw [← hr]; simp))
  clear hr h2
  generalize ys.length = n at *
  go_enter Try.func105, Try.ntmps105
  go_wp2_with fail
  refine HC.out.mono ?_
  rintro e w' ⟨rfl, rfl⟩
  go_wp2_with fail
  go_ret
  exact ⟨ret_bool (by simp), rfl⟩

set_option maxHeartbeats 1000000 in
theorem indexF_any (xs ys : List Int) (A : Option Addr) (n c p : Nat) (w : World) (hn : n = xs.length) (hm : n ≤ 9223372036854775807) (h : IntsAt w w.heap.size A xs) (hv : VarI w p ys) :
    Calls Try.prog 103 #[.slice A n c, .func (.func 105) #[] #[.pointer (some ⟨p, 0, none⟩)]] w fun e w' => e = .returned (.int .i64 (idxI (fun y => (!decide (y ∈ ys))) xs)) ∧ w' = w := by
  have HN := Lib.hid hn; clear hn
  have H := Lib.hid h; clear h
  have HV := Lib.hid hv; clear hv
  go_enter Try.func103, Try.ntmps103
  go_wp2_with fail
  go_loop [8] (fun i => ∃ k : Nat, k ≤ n ∧ i = .int .i64 k ∧ Hid (∀ j < k, ∀ y, xs[j]? = some y → (!decide (y ∈ ys)) = false)) (fun i => n - (intOf i).toNat)
  case atStart => exact ⟨0, Nat.zero_le _, rfl, forall_lt_zero⟩
  case round =>
    obtain ⟨k, hk, rfl, hall⟩ := hrel
    by_cases hlt : k < n
    · obtain ⟨y, hy⟩ := get_of_lt HN.out hlt
      obtain ⟨b, off, rfl, hb, h0⟩ := H.out k y hy
      have HY := Lib.hid hy; clear hy
      by_cases hp : (!decide (y ∈ ys)) = true
      · have HF := Lib.hid (idxI_found (p := fun y => (!decide (y ∈ ys))) HY.out hp hall.out)
        have HC := Lib.hid (pick1_any ys p y w HV.out hp)
        clear hp
        go_wp2_with fail
        refine HC.out.mono ?_
        rintro e w' ⟨rfl, rfl⟩
        go_wp2_with fail
        go_ret
        exact ⟨ret_int HF.out.symm, rfl⟩
      · have hp' : (!decide (y ∈ ys)) = false := by simpa using hp
        clear hp
        have HP := Lib.hid hp'; clear hp'
        have HC := Lib.hid (pick1_any ys p y w HV.out HP.out)
        go_wp2_with fail
        refine HC.out.mono ?_
        rintro e w' ⟨rfl, rfl⟩
        go_wp2_with fail
        go_round
        case rel => exact ⟨k+1, by omega, by go_num, forall_lt_succ hall.out (fun y' hy' => by rw [HY.out] at hy'; cases hy'; exact HP.out)⟩
        case measure => simp [intOf]; omega
    · obtain rfl : k = n := by omega
      have HF := Lib.hid (idxI_none (p := fun y => (!decide (y ∈ ys))) (xs := xs) (by rw [← HN.out]; exact hall.out))
      go_wp2_with fail
      go_ret
      exact ⟨ret_int HF.out.symm, rfl⟩
theorem containsF_any (xs ys : List Int) (A : Option Addr) (n c p : Nat) (w : World) (hn : n = xs.length) (hm : n ≤ 9223372036854775807) (h : IntsAt w w.heap.size A xs) (hv : VarI w p ys) {r : Bool} (hr : xs.any (fun y => (!decide (y ∈ ys))) = r) :
    Calls Try.prog 76 #[.slice A n c, .func (.func 105) #[] #[.pointer (some ⟨p, 0, none⟩)]] w fun e w' => e = .returned (.bool r) ∧ w' = w := by
  have HC := Lib.hid (indexF_any xs ys A n c p w hn hm h hv)
  have HD : Hid (decide (0 ≤ idxI (fun y => (!decide (y ∈ ys))) xs) = r) := Lib.hid (by rw [idxI_any, hr])
  clear hn h hv hr
  obtain ⟨i, hi⟩ : ∃ i, idxI (fun y => (!decide (y ∈ ys))) xs = i := ⟨_, rfl⟩
  rw [hi] at HC HD
  clear hi
  go_enter Try.func76, Try.ntmps76
  go_wp2_with fail
  refine HC.out.mono ?_
  rintro e w' ⟨rfl, rfl⟩
  go_wp2_with fail
  go_ret
  exact ⟨ret_bool HD.out, rfl⟩
end Go.Proofs.Ytnaiflokmihmeaa.Od

/- Pick as plain data; no program in sight. -/
namespace Go.Proofs.Ytnaiflokmihmeaa.Od
open Go.RowKit
set_option linter.unusedVariables false

def rdy (rs : List (List Int)) (done : List Int) (k : Nat) : Bool := !decide ((k : Int) ∈ done) && !((rs[k]?).getD []).any (fun y => !decide (y ∈ done))
def readyL (rs : List (List Int)) (done : List Int) : Nat → List Int
  | 0 => []
  | k + 1 => readyL rs done k ++ (if rdy rs done k = true then [(k : Int)] else [])
theorem readyL_yes {rs : List (List Int)} {done : List Int} {k : Nat} (h : rdy rs done k = true) : readyL rs done (k+1) = readyL rs done k ++ [(k : Int)] := by
  show readyL rs done k ++ (if rdy rs done k = true then [(k : Int)] else []) = _
  rw [if_pos h]
theorem readyL_no {rs : List (List Int)} {done : List Int} {k : Nat} (h : rdy rs done k = false) : readyL rs done (k+1) = readyL rs done k := by
  show readyL rs done k ++ (if rdy rs done k = true then [(k : Int)] else []) = _
  rw [if_neg (by rw [h]; exact Bool.false_ne_true), List.append_nil]
theorem readyL_len (rs : List (List Int)) (done : List Int) (k : Nat) : (readyL rs done k).length ≤ k := by
  induction k with
  | zero => exact Nat.le_refl _
  | succ k ih => unfold readyL; rw [List.length_append]; split <;> simp <;> omega
theorem readyL_mem {rs : List (List Int)} {done : List Int} {n : Nat} {x : Int} : x ∈ readyL rs done n ↔ ∃ k, k < n ∧ x = (k : Int) ∧ rdy rs done k = true := by
  induction n with
  | zero => simp [readyL]
  | succ n ih =>
    unfold readyL
    rw [List.mem_append, ih]
    constructor
    · rintro (⟨k, h1, h2, h3⟩ | h)
      · exact ⟨k, by omega, h2, h3⟩
      · split at h
        · rename_i h1; exact ⟨n, by omega, List.mem_singleton.1 h, h1⟩
        · simp at h
    · rintro ⟨k, h1, h2, h3⟩
      by_cases hk : k < n
      · exact .inl ⟨k, hk, h2, h3⟩
      · obtain rfl : k = n := by omega
        right; rw [if_pos h3]; exact List.mem_singleton.2 h2
def pickI (by_ : List Int) (d m : Nat) : Int := if d < by_.length then (if (nth by_ d).tmod m < 0 then (nth by_ d).tmod m + m else (nth by_ d).tmod m) else 0
def pickS (rs : List (List Int)) (by_ done : List Int) : List Int := done ++ [nth (readyL rs done rs.length) (pickI by_ done.length (readyL rs done rs.length).length)]
def pickN (rs : List (List Int)) (by_ : List Int) : Nat → List Int
  | 0 => []
  | k + 1 => pickS rs by_ (pickN rs by_ k)
theorem pickI_bd {by_ : List Int} {d m : Nat} (hm : 0 < m) : 0 ≤ pickI by_ d m ∧ pickI by_ d m < m := by
  unfold pickI
  have h1 := Int.tmod_lt_of_pos (nth by_ d) (show (0 : Int) < m by omega)
  have h2 : -(m : Int) < (nth by_ d).tmod m := Int.lt_tmod_of_pos _ (by omega)
  split
  · split <;> omega
  · omega
/-- what is so of what has been picked -/
structure Pk (n : Nat) (done : List Int) (k : Nat) : Prop where
  len : done.length = k
  nd : done.Nodup
  bd : ∀ x ∈ done, 0 ≤ x ∧ x < n
theorem nd_len {l m : List Int} (hn : l.Nodup) (hs : ∀ x ∈ l, x ∈ m) : l.length ≤ m.length := by
  induction l generalizing m with
  | nil => simp
  | cons a l ih =>
    obtain ⟨h1, h2⟩ := List.nodup_cons.1 hn
    have ha := hs a List.mem_cons_self
    have h3 := ih (m := m.erase a) h2 (fun x hx => (List.mem_erase_of_ne (fun e => h1 (by rw [← e]; exact hx))).2 (hs x (List.mem_cons_of_mem _ hx)))
    rw [List.length_erase_of_mem ha] at h3
    have := List.length_pos_of_mem ha
    simp
    omega
theorem exists_free {n : Nat} {done : List Int} (hl : done.length < n) : ∃ k : Nat, k < n ∧ (k : Int) ∉ done := by
  refine Classical.byContradiction fun h => ?_
  have hall : ∀ k : Nat, k < n → (k : Int) ∈ done := fun k hk => Classical.byContradiction fun hn => h ⟨k, hk, hn⟩
  have hsub : ((List.range n).map fun k : Nat => (k : Int)) ⊆ done := by
    intro x hx
    obtain ⟨k, hk, rfl⟩ := List.mem_map.1 hx
    exact hall k (by simpa using hk)
  have hnd : ((List.range n).map fun k : Nat => (k : Int)).Nodup := by
    refine List.Pairwise.map _ (fun a b hab => ?_) List.nodup_range
    omega
  have := nd_len hnd (fun x hx => hsub hx)
  simp at this
  omega
theorem ready_pos {rs : List (List Int)} {done : List Int} (hl : Low rs) (hd : done.length < rs.length) : 0 < (readyL rs done rs.length).length := by
  obtain ⟨k, hk⟩ := exists_free hd
  have : ∃ k : Nat, k < rs.length ∧ (k : Int) ∉ done ∧ ∀ j, j < k → (j : Int) ∈ done := by
    induction k using Nat.strongRecOn with
    | _ k ih =>
      by_cases h : ∀ j, j < k → (j : Int) ∈ done
      · exact ⟨k, hk.1, hk.2, h⟩
      · have ⟨j, hj, hjn⟩ : ∃ j, j < k ∧ (j : Int) ∉ done := by
          refine Classical.byContradiction fun hc => h fun j hj => ?_
          exact Classical.byContradiction fun hn => hc ⟨j, hj, hn⟩
        exact ih j hj ⟨by omega, hjn⟩
  obtain ⟨k, h1, h2, h3⟩ := this
  have hr : rdy rs done k = true := by
    unfold rdy
    rw [List.getElem?_eq_getElem h1]
    simp only [Option.getD_some, Bool.and_eq_true, Bool.not_eq_true', decide_eq_false_iff_not, List.any_eq_false]
    refine ⟨h2, fun y hy => ?_⟩
    obtain ⟨a, b⟩ := hl k _ (List.getElem?_eq_getElem h1) y hy
    obtain ⟨y, rfl⟩ := Int.eq_ofNat_of_zero_le a
    simp [h3 y (by omega)]
  have : (k : Int) ∈ readyL rs done rs.length := readyL_mem.2 ⟨k, h1, rfl, hr⟩
  exact List.length_pos_of_mem this
theorem Pk.step {rs : List (List Int)} {by_ done : List Int} {k : Nat} (hl : Low rs) (h : Pk rs.length done k) (hk : k < rs.length) : Pk rs.length (pickS rs by_ done) (k + 1) := by
  have hp := ready_pos hl (done := done) (by rw [h.len]; exact hk)
  obtain ⟨b1, b2⟩ := pickI_bd (by_ := by_) (d := done.length) hp
  have hmem : nth (readyL rs done rs.length) (pickI by_ done.length (readyL rs done rs.length).length) ∈ readyL rs done rs.length := by
    obtain ⟨y, hy⟩ := get_of_lt rfl (show (pickI by_ done.length (readyL rs done rs.length).length).toNat < (readyL rs done rs.length).length by omega)
    unfold nth
    rw [hy]
    exact List.mem_of_getElem? hy
  obtain ⟨j, h1, h2, h3⟩ := readyL_mem.1 hmem
  unfold pickS
  rw [h2]
  have hnot : (j : Int) ∉ done := by
    unfold rdy at h3
    simp only [Bool.and_eq_true, Bool.not_eq_true', decide_eq_false_iff_not] at h3
    exact h3.1
  refine ⟨by simp [h.len], ?_, fun x hx => ?_⟩
  · rw [List.nodup_append]
    exact ⟨h.nd, by simp, fun a ha b hb => by rw [List.mem_singleton.1 hb]; exact fun e => hnot (e ▸ ha)⟩
  · rcases List.mem_append.1 hx with hx | hx
    · exact h.bd x hx
    · rw [List.mem_singleton.1 hx]; omega
theorem Pk.zero (n : Nat) : Pk n [] 0 := ⟨rfl, List.nodup_nil, fun x hx => by simp at hx⟩
theorem pickN_pk {rs : List (List Int)} {by_ : List Int} (hl : Low rs) {k : Nat} (hk : k ≤ rs.length) : Pk rs.length (pickN rs by_ k) k := by
  induction k with
  | zero => exact Pk.zero _
  | succ k ih => exact Pk.step hl (ih (by omega)) (by omega)
end Go.Proofs.Ytnaiflokmihmeaa.Od

/- Walks: Pick (package order). -/
namespace Go.Proofs.Ytnaiflokmihmeaa.Od
open Go.RowKit
set_option linter.unusedVariables false
set_option linter.unusedSimpArgs false

/-- what has been picked, in the variable p; further rows -/
structure PkS (w : World) (B0 p : Nat) (v : Value) (done : List Int) (rest : List Rw) (wr : World) : Prop where
  blk : Blk wr p 22 #[v]
  rows : RwsB B0 (⟨v, 3, 1, done.length, cellsI done⟩ :: rest) wr
  size : B0 ≤ wr.heap.size
  bel : Below w.heap.size w wr
section
variable {w wr w' : World} {B0 p : Nat} {v : Value} {done : List Int} {rest : List Rw}
theorem PkS.slice (h : PkS w B0 p v done rest wr) : ∃ A c, v = .slice A done.length c ∧ done.length ≤ c ∧ c ≤ maxLen ∧ IntsAt wr wr.heap.size A done := IntsAt.of_own (h.rows.own _ List.mem_cons_self)
theorem PkS.var (h : PkS w B0 p v done rest wr) : VarI wr p done := by
  obtain ⟨A, c, rfl, h1, h2, h3⟩ := h.slice
  exact ⟨A, c, h.blk.cell 0, by unfold maxLen at h2; omega, h3⟩
theorem PkS.cell (h : PkS w B0 p v done rest wr) : wr.cell? ⟨p, 0, none⟩ = some v := h.blk.cell 0
theorem PkS.nil (h : PkS w B0 p v done [] wr) : PkS w B0 p v done [⟨.slice none 0 0, 3, 1, 0, []⟩] wr := by
  refine ⟨h.blk, ⟨fun r hr => ?_, ?_⟩, h.size, h.bel⟩
  · rcases List.mem_cons.1 hr with rfl | hr
    · exact h.rows.own _ List.mem_cons_self
    · rw [List.mem_singleton.1 hr]; exact ⟨by simp, .inl ⟨rfl, rfl⟩⟩
  · refine List.pairwise_cons.2 ⟨fun q hq => ?_, List.pairwise_singleton _ _⟩
    rw [List.mem_singleton.1 hq]
    exact own_apart_symm (.inl rfl)
theorem PkS.drop {r : Rw} (h : PkS w B0 p v done [r] wr) : PkS w B0 p v done [] wr :=
  ⟨h.blk, ⟨fun q hq => h.rows.own q (by rw [List.mem_singleton.1 hq]; exact List.mem_cons_self), List.pairwise_singleton _ _⟩, h.size, h.bel⟩
theorem PkS.add {v' : Value} {ys : List Int} {x : Int} {m : Nat} {u : Value} (h : PkS w B0 p v done [⟨u, 3, 1, m, cellsI ys⟩] wr) (hm : ys.length = m) (hp : p < B0) (hw : w.heap.size ≤ B0)
    (hR : RwsB B0 ((⟨v, 3, 1, done.length, cellsI done⟩ :: [⟨u, 3, 1, m, cellsI ys⟩]).set 1 ⟨v', 3, 1, m + 1, cellsI ys ++ (#[.int .i64 x] : Array Value).toList⟩) w') (hk : ∀ k, k < B0 → w'.heap[k]? = wr.heap[k]?) (hb : Below B0 wr w') :
    PkS w B0 p v done [⟨v', 3, 1, m + 1, cellsI (ys ++ [x])⟩] w' := by
  have e : cellsI (ys ++ [x]) = cellsI ys ++ [.int .i64 x] := by simp [cellsI]
  rw [e]
  exact ⟨(hk p hp).trans h.blk, hR, Nat.le_trans h.size hb.size, h.bel.trans (hb.mono hw)⟩
end
theorem PkS.ready {w wr : World} {B0 p m : Nat} {v u : Value} {done ys : List Int} (h : PkS w B0 p v done [⟨u, 3, 1, m, cellsI ys⟩] wr) (hm : ys.length = m) : ∃ A c, u = .slice A m c ∧ m ≤ c ∧ c ≤ maxLen ∧ IntsAt wr wr.heap.size A ys := by
  subst hm
  exact IntsAt.of_own (h.rows.own _ (List.mem_cons_of_mem _ List.mem_cons_self))
/-- one more has been picked -/
theorem PkS.picked {w wr w0 w' : World} {B0 p d : Nat} {v v' : Value} {done : List Int} {rest : List Rw} {y : Int} (h : PkS w B0 p v done rest wr) (hd : done.length = d) (hp : p < B0) (hw : w.heap.size ≤ p) (hw2 : w.heap.size ≤ B0) (hb0 : Below B0 wr w0)
    (hR : RwsB B0 ((⟨v, 3, 1, d, cellsI done⟩ :: rest).set 0 ⟨v', 3, 1, d + 1, cellsI done ++ (#[.int .i64 y] : Array Value).toList⟩) w') (hk : ∀ k, k < B0 → w'.heap[k]? = w0.heap[k]?) (hb : Below B0 w0 w') :
    ∃ A c, v' = .slice A (d + 1) c ∧ w'.cell? ⟨p, 0, none⟩ = some v ∧ w'.frozen? ⟨p, 0, none⟩ = false ∧ PkS w B0 p (.slice A (d + 1) c) (done ++ [y]) [] (w'.setCell ⟨p, 0, none⟩ (.slice A (d + 1) c)) := by
  subst hd
  have e : cellsI (done ++ [y]) = cellsI done ++ [.int .i64 y] := by simp [cellsI]
  have el : (done ++ [y]).length = done.length + 1 := by simp
  have ho : w'.ownsRow B0 3 1 v' (done ++ [y]).length (cellsI (done ++ [y])) := by rw [e, el]; exact hR.own _ List.mem_cons_self
  obtain ⟨A, c, rfl, _⟩ := IntsAt.of_own ho
  have hb1 : Blk w' p 22 #[v] := ((hk p hp).trans (hb0.block p hp)).trans h.blk
  refine ⟨A, c, by rw [el], hb1.cell 0, hb1.frozen 0, hb1.set_ 0 _, ?_, ?_, ?_⟩
  · have h1 : RwsB B0 [⟨.slice A (done.length + 1) c, 3, 1, (done ++ [y]).length, cellsI (done ++ [y])⟩] w' := by
      refine ⟨fun r hr => ?_, List.pairwise_singleton _ _⟩
      rw [List.mem_singleton.1 hr, ← el]
      exact ho
    exact h1.setCell (p := ⟨p, 0, none⟩) hp _
  · simp; exact Nat.le_trans h.size (Nat.le_trans hb0.size hb.size)
  · exact ((h.bel.trans (hb0.mono hw2)).trans (hb.mono hw2)).setCell hw _
def PickPost (rs : List (List Int)) (by_ : List Int) (w : World) (e : Ending) (w' : World) : Prop := ∃ v, e = .returned (.tuple #[v, .int .i64 (bErr rs)]) ∧ IntsV w' v (if bErr rs = 0 then pickN rs by_ rs.length else []) ∧ Below w.heap.size w w'
theorem pickPost_bad {rs : List (List Int)} {by_ : List Int} {w : World} {e : Int} (he : bErr rs = e) (h : e ≠ 0) : PickPost rs by_ w (.returned (.tuple #[.slice none 0 0, .int .i64 e])) w :=
  ⟨.slice none 0 0, by rw [he], by rw [if_neg (by rw [he]; exact h)]; exact IntsV.nil _, Below.refl _ _⟩

set_option maxHeartbeats 4000000 in
set_option maxRecDepth 20000 in
theorem pick_any (rs : List Row) (A : Option Addr) (n c : Nat) (ts : List Int) (A1 : Option Addr) (n1 c1 : Nat) (w : World) (hn : n = rs.length) (hm : n ≤ 9223372036854775807) (h : RowsAt w w.heap.size A rs) (hn1 : n1 = ts.length) (hm1 : n1 ≤ 9223372036854775807) (hs : IntsAt w w.heap.size A1 ts) (hts : ∀ x ∈ ts, -9223372036854775808 ≤ x ∧ x ≤ 9223372036854775807) :
    Calls Try.prog 79 #[.slice A n c, .slice A1 n1 c1] w (PickPost (ll rs) ts w) := by
  have HC := Lib.hid (bcheck_any rs A n c w hn hm h)
  have HN := Lib.hid hn
  have HNL := Lib.hid (show n = (ll rs).length by rw [ll_len]; exact hn); clear hn
  have HN1 := Lib.hid hn1; clear hn1
  have H := Lib.hid h; clear h
  have H1 := Lib.hid hs; clear hs
  have HTS := Lib.hid hts; clear hts
  by_cases he : bErr (ll rs) = 0
  · have hv := bErr_vld he
    have h40 : n ≤ 40 := by rw [HNL.out]; exact hv.le
    have HV := Lib.hid hv; clear hv
    have HE := Lib.hid he; clear he
    rw [HE.out] at HC
    go_enter Try.func79, Try.ntmps79
    go_wp2_with fail
    refine HC.out.mono ?_
    rintro e w' ⟨rfl, rfl⟩
    go_wp2_with fail
    have HP0 : Hid (PkS w (w.heap.size + 1) w.heap.size (.slice none 0 0) (pickN (ll rs) ts 0) [] (w.alloc (.cells #[.slice none 0 0] 22))) := Lib.hid (by
      refine ⟨Blk.new _ _ _, ⟨fun r hr => ?_, List.pairwise_singleton _ _⟩, by simp, (Below.refl _ _).alloc (Nat.le_refl _) _⟩
      rw [List.mem_singleton.1 hr]
      exact ⟨rfl, .inl ⟨rfl, rfl⟩⟩)
    generalize w.alloc (.cells #[.slice none 0 0] 22) = w1 at *
    go_loopg [] n (fun k wr => ∃ (d : Nat) (v : Value), k = n - d ∧ d ≤ n ∧ Hid (PkS w (w.heap.size + 1) w.heap.size v (pickN (ll rs) ts d) [] wr))
    case atStart => exact ⟨0, _, by omega, Nat.zero_le _, HP0.out⟩
    case round =>
      clear HP0
      obtain ⟨d, v, hgk, hd, hps⟩ := hrel
      have HGK := Lib.hid hgk; clear hgk
      have HPK := Lib.hid (pickN_pk (by_ := ts) HV.out.low (k := d) (by rw [← HNL.out]; exact hd))
      obtain ⟨Ad, cd, rfl, hcd, hmd, _⟩ := hps.out.slice
      have hlen := HPK.out.len
      rw [hlen] at hcd hps
      have HLD := Lib.hid hlen
      clear hlen
      unfold maxLen at hmd
      have g0 := hps.out.cell
      obtain ⟨done, hdone⟩ : ∃ done, pickN (ll rs) ts d = done := ⟨_, rfl⟩
      have HDONE := Lib.hid hdone
      rw [hdone] at hps HPK HLD
      clear hdone
      by_cases hlt : d < n
      · have HNX : Hid (pickN (ll rs) ts (d+1) = pickS (ll rs) ts done) := Lib.hid (by rw [← HDONE.out]; rfl)
        have HRP : Hid (0 < (readyL (ll rs) done n).length) := Lib.hid (by
          have := ready_pos HV.out.low (done := done) (by rw [HLD.out, ← HNL.out]; exact hlt)
          rw [← HNL.out] at this
          exact this)
        have HPS0 := Lib.hid hps.out.nil
        go_wp2_with fail
        clear g0
        go_loopg [8, 24] n (fun kk u i wi => ∃ (q m : Nat), kk = n - q ∧ q ≤ n ∧ i = .int .i64 q ∧ Hid ((readyL (ll rs) done q).length = m) ∧ Hid (PkS w (w.heap.size + 1) w.heap.size (.slice Ad d cd) done [⟨u, 3, 1, m, cellsI (readyL (ll rs) done q)⟩] wi))
        case atStart => exact ⟨0, 0, by omega, Nat.zero_le _, rfl, rfl, HPS0.out⟩
        case round =>
          clear HPS0 hps
          obtain ⟨q, m, hgk2, hq, rfl, hml, hps⟩ := hrel
          have HGK2 := Lib.hid hgk2; clear hgk2
          by_cases hlt2 : q < n
          · obtain ⟨r, hr⟩ := get_of_lt HN.out hlt2
            obtain ⟨b, off, rfl, hb, h0, hxm, hx⟩ := H.out q r hr
            have HR := Lib.hid (ll_get hr); clear hr
            have g1 := (hps.out.bel.cell (p := ⟨b, off + q, none⟩) hb).trans h0
            have g0 := hps.out.cell
            have HX := Lib.hid ((hx.below hps.out.bel (Nat.le_refl _)).more hps.out.bel.size); clear hx h0
            have HVAR := Lib.hid hps.out.var
            obtain ⟨A', c', hA', _, _, hI'⟩ := hps.out.slice
            rw [HLD.out] at hA'
            cases hA'
            have HI := Lib.hid hI'; clear hI'
            obtain ⟨tA, tc, txs⟩ := r
            dsimp only at g1 hxm HX HR
            have HRD : Hid (rdy (ll rs) done q = (!decide ((q : Int) ∈ done) && !txs.any (fun y => !decide (y ∈ done)))) := Lib.hid (by unfold rdy; rw [HR.out]; rfl)
            have HMQ := Lib.hid (readyL_len (ll rs) done q)
            generalize hm2 : txs.length = m2 at *
            have HM2 := Lib.hid hm2; clear hm2
            have hmq : m ≤ q := by rw [← hml.out]; exact HMQ.out
            have hnm : m + 1 ≤ 4294967296 := by omega
            by_cases h1 : decide ((q : Int) ∈ done) = true
            · have HNO := Lib.hid (readyL_no (rs := ll rs) (done := done) (k := q) (by rw [HRD.out, h1]; rfl))
              have HCC := Lib.hid (fun W hI => containsI_any done Ad d cd (q : Int) W HLD.out.symm (by omega) hI h1)
              clear h1
              go_wp2_with fail
              refine (HCC.out _ HI.out).mono ?_
              rintro e w' ⟨rfl, rfl⟩
              go_wp2_with fail
              go_roundg (n - (q + 1))
              case measure => rw [HGK2.out]; omega
              case rel => exact ⟨q+1, m, rfl, by omega, by go_num, by rw [HNO.out]; exact hml.out, by rw [HNO.out]; exact hps.out⟩
            · have h1' : decide ((q : Int) ∈ done) = false := by simpa using h1
              have HCC := Lib.hid (fun W hI => containsI_any done Ad d cd (q : Int) W HLD.out.symm (by omega) hI h1')
              by_cases h2 : txs.any (fun y => !decide (y ∈ done)) = true
              · have HNO := Lib.hid (readyL_no (rs := ll rs) (done := done) (k := q) (by rw [HRD.out, h1', h2]; rfl))
                have HCF := Lib.hid (fun W hI hV => containsF_any txs done tA m2 tc w.heap.size W HM2.out.symm (by omega) hI hV h2)
                clear h1 h1' h2
                go_wp2_with fail
                refine (HCC.out _ HI.out).mono ?_
                rintro e w' ⟨rfl, rfl⟩
                go_wp2_with fail
                refine (HCF.out _ HX.out HVAR.out).mono ?_
                rintro e w' ⟨rfl, rfl⟩
                go_wp2_with fail
                go_roundg (n - (q + 1))
                case measure => rw [HGK2.out]; omega
                case rel => exact ⟨q+1, m, rfl, by omega, by go_num, by rw [HNO.out]; exact hml.out, by rw [HNO.out]; exact hps.out⟩
              · have h2' : txs.any (fun y => !decide (y ∈ done)) = false := by simpa using h2
                have HYES := Lib.hid (readyL_yes (rs := ll rs) (done := done) (k := q) (by rw [HRD.out, h1', h2']; rfl))
                have HCF := Lib.hid (fun W hI hV => containsF_any txs done tA m2 tc w.heap.size W HM2.out.symm (by omega) hI hV h2')
                clear h1 h1' h2 h2'
                go_wp2_with fail
                refine (HCC.out _ HI.out).mono ?_
                rintro e w' ⟨rfl, rfl⟩
                go_wp2_with fail
                refine (HCF.out _ HX.out HVAR.out).mono ?_
                rintro e w' ⟨rfl, rfl⟩
                have hsz := hps.out.size
                go_wp2_with (
                  at_builtin
                  refine wpList_append_at (i := 1) rfl (.tmp 39) (.tmp 41) _ rfl Try.underlying22 infoI rfl rfl hps.out.rows hsz rfl rfl rfl rfl (one_i _) hnm ?_
                  intro v4 w4 hR4 hk4 hb4 h14)
                have HP4 := Lib.hid (hps.out.add hml.out (by omega) (by omega) hR4 hk4 hb4)
                go_roundg (n - (q + 1))
                case measure => rw [HGK2.out]; omega
                case rel => exact ⟨q+1, m+1, rfl, by omega, by go_num, by rw [HYES.out, List.length_append, hml.out]; rfl, by rw [HYES.out]; exact HP4.out⟩
          · obtain rfl : q = n := by omega
            have hmp : 0 < m := by rw [← hml.out]; exact HRP.out
            have g0 := hps.out.cell
            have HPI := Lib.hid (pickI_bd (by_ := ts) (d := d) hmp)
            obtain ⟨A8, c8, rfl, hc8, hm8, hI8⟩ := hps.out.ready hml.out
            have HI8 := Lib.hid hI8; clear hI8
            unfold maxLen at hm8
            go_upto_if 48 with (fail)
            go_cut [11] (fun s11 wc => s11 = .int .i64 (pickI ts d m) ∧ wc = wr)
            case first =>
              by_cases hby : d < n1
              · obtain ⟨bv, hbv⟩ := get_of_lt HN1.out hby
                obtain ⟨b1, off1, rfl, hb1, h1⟩ := H1.out d bv hbv
                have g1 := (hps.out.bel.cell (p := ⟨b1, off1 + d, none⟩) hb1).trans h1
                obtain ⟨z1, z2⟩ := HTS.out bv (List.mem_of_getElem? hbv)
                have HI : Hid (pickI ts d m = if bv.tmod (m : Int) < 0 then bv.tmod (m : Int) + m else bv.tmod (m : Int)) := Lib.hid (by unfold pickI; rw [← HN1.out, if_pos hby, nth_get hbv])
                clear hbv h1
                have r1 := Int.tmod_lt_of_pos bv (show (0 : Int) < (m : Int) by omega)
                have r2 : -(m : Int) < bv.tmod (m : Int) := Int.lt_tmod_of_pos _ (by omega)
                have hm0 : ((m : Int) == 0) = false := by simp; omega
                have hm1 : m ≠ 0 := by omega
                obtain ⟨rv, hrv⟩ : ∃ rv, bv.tmod (m : Int) = rv := ⟨_, rfl⟩
                rw [hrv] at r1 r2 HI
                by_cases hneg : rv < 0
                · rw [if_pos hneg] at HI
                  go_wp2_with fail
                  go_meet
                  exact ⟨by rw [HI.out], rfl⟩
                · rw [if_neg hneg] at HI
                  go_wp2_with fail
                  go_meet
                  exact ⟨by rw [HI.out], rfl⟩
              · have HI : Hid (pickI ts d m = 0) := Lib.hid (by unfold pickI; rw [← HN1.out, if_neg hby])
                go_wp2_with fail
                go_meet
                exact ⟨by rw [HI.out], rfl⟩
            case rest =>
              obtain ⟨rfl, rfl⟩ := hcut
              obtain ⟨i0, i1⟩ := HPI.out
              obtain ⟨iN, hiN⟩ := Int.eq_ofNat_of_zero_le i0
              rw [hiN]
              have HIN := Lib.hid hiN; clear i0
              rw [hiN] at i1
              clear hiN
              obtain ⟨y, hy⟩ := get_of_lt hml.out.symm (show iN < m by omega)
              obtain ⟨b8, off8, rfl, hb8, h8⟩ := HI8.out iN y hy
              have HNEW : Hid (pickN (ll rs) ts (d+1) = done ++ [y]) := Lib.hid (by
                rw [HNX.out]
                unfold pickS
                rw [← HNL.out, HLD.out, hml.out, HIN.out, nth_get hy])
              clear hy
              have hnm : d + 1 ≤ 4294967296 := by omega
              have hsz := hps.out.size
              have k0 : (0 : Int) ≤ (iN : Int) := by omega
              have k1 : (iN : Int) < (m : Int) := by omega
              have hpl := hps.out.blk.lt
              go_wp2_with fail
              go_region_law (first
                | (refine step_append_at (i := 0) rfl (.tmp 63) (.tmp 68) _ rfl Try.underlying22 infoI rfl rfl (by first | exact (hps.out.rows.alloc _).drew | exact hps.out.rows.drew.alloc _) (by first | (simp; omega) | omega) (by first | exact (Blk.new _ _ _).drew | exact Blk.new _ _ _) (by rw [HLD.out]; rfl) rfl rfl rfl (one_i _) hnm ?_
                   intro v4 w4 hR4 hk4 hb4
                   obtain ⟨A9, c9, rfl, g5, g6, hB9⟩ := hps.out.picked (y := y) HLD.out (by omega) (Nat.le_refl _) (by omega) (by first | exact ((Below.refl _ _).alloc hsz _).drew | exact (Below.refl _ _).drew.alloc hsz _) hR4 hk4 hb4
                   have HB9 := Lib.hid hB9
                   clear hR4 hk4 hb4 hB9)
                | fail)
              all_goals
                go_wp2_with fail
                go_roundg (q - (d + 1))
                case measure => rw [HGK.out]; omega
                case rel => exact ⟨d+1, _, rfl, by omega, by rw [HNEW.out]; exact HB9.out⟩
      · obtain rfl : d = n := by omega
        have HFIN : Hid (pickN (ll rs) ts (ll rs).length = done) := Lib.hid (by rw [← HNL.out]; exact HDONE.out)
        have hsl := hps.out.slice
        have HIV : Hid (IntsV wr (.slice Ad d cd) done) := Lib.hid (by
          obtain ⟨A', c', h1, h2, h3, h4⟩ := hsl
          exact ⟨A', c', h1, h2, h3, h4⟩)
        clear hsl
        go_wp2_with fail
        go_ret2
        exact ⟨_, by rw [HE.out]; rfl, by rw [if_pos HE.out, HFIN.out]; exact HIV.out, hps.out.bel⟩
  · have hne : (bErr (ll rs) != 0) = true := by simpa using he
    obtain ⟨eb, heb⟩ : ∃ eb, bErr (ll rs) = eb := ⟨_, rfl⟩
    rw [heb] at hne he HC
    have HE := Lib.hid heb; clear heb
    have HNE := Lib.hid he; clear he
    go_enter Try.func79, Try.ntmps79
    go_wp2_with fail
    refine HC.out.mono ?_
    rintro e w' ⟨rfl, rfl⟩
    go_wp2_with fail
    go_ret2
    exact pickPost_bad HE.out HNE.out
end Go.Proofs.Ytnaiflokmihmeaa.Od

/- Walks: a fact about orders. -/
namespace Go.Proofs.Ytnaiflokmihmeaa.Od
open Go.RowKit
set_option linter.unusedVariables false
set_option linter.unusedSimpArgs false

theorem long_look (w : World) : Calls Try.prog 42 #[.agg #[.int .i64 3, .int .i64 0, .int .i64 0, .int .i64 0, .int .i64 0]] w fun e w' => e = .returned (.int .i64 20) ∧ Below w.heap.size w w' := by
  go_enter Try.func42, Try.ntmps42
  go_wp2_with fail
  go_ret
  exact ⟨rfl, (Below.refl _ _).alloc (Nat.le_refl _) _⟩
theorem pick_fact : bErr [[], [], [0]] = 0 ∧ pickN [[], [], [0]] [1] 3 = [1, 0, 2] := by decide +kernel

theorem ints_blk {w : World} {g : Nat} {t : TypeId} {cs : Array Value} {xs : List Int} (h : Blk w g t cs) (hc : cs.toList = cellsI xs) : IntsAt w w.heap.size (some ⟨g, 0, none⟩) xs := by
  intro k x hx
  refine ⟨g, 0, rfl, h.lt, ?_⟩
  rw [Nat.zero_add, h.cell, ← Array.getElem?_toList, hc]
  simp [cellsI, hx]
theorem rows3 {w : World} {g a b c : Nat} {t t3 : TypeId} {x : Int} (h : Blk w g t #[.slice (some ⟨a, 0, none⟩) 0 0, .slice (some ⟨b, 0, none⟩) 0 0, .slice (some ⟨c, 0, none⟩) 1 1]) (hc : Blk w c t3 #[.int .i64 x]) :
    RowsAt w w.heap.size (some ⟨g, 0, none⟩) [⟨some ⟨a, 0, none⟩, 0, []⟩, ⟨some ⟨b, 0, none⟩, 0, []⟩, ⟨some ⟨c, 0, none⟩, 1, [x]⟩] := by
  intro k r hr
  refine ⟨g, 0, rfl, h.lt, ?_⟩
  rw [Nat.zero_add, h.cell]
  rcases k with _ | _ | _ | k
  · simp at hr; subst hr; exact ⟨rfl, by simp, IntsAt.nil⟩
  · simp at hr; subst hr; exact ⟨rfl, by simp, IntsAt.nil⟩
  · simp at hr; subst hr; exact ⟨rfl, by simp, ints_blk hc rfl⟩
  · simp at hr

theorem ordered_blks (w : World) {w5 : World} {v : World} (h4 : v = (((w.alloc (.cells #[] 3)).alloc (.cells #[] 3)).alloc (.cells #[.int .i64 0] 3)).alloc (.cells #[.slice (some ⟨w.heap.size, 0, none⟩) 0 0, .slice (some ⟨w.heap.size + 1, 0, none⟩) 0 0, .slice (some ⟨w.heap.size + 1 + 1, 0, none⟩) 1 1] 22)) (h5 : w5 = v.alloc (.cells #[.int .i64 1] 3)) :
    Below w.heap.size w w5 ∧ RowsAt w5 w5.heap.size (some ⟨w.heap.size + 1 + 1 + 1, 0, none⟩) [⟨some ⟨w.heap.size, 0, none⟩, 0, []⟩, ⟨some ⟨w.heap.size + 1, 0, none⟩, 0, []⟩, ⟨some ⟨w.heap.size + 1 + 1, 0, none⟩, 1, [0]⟩] ∧ IntsAt w5 w5.heap.size (some ⟨w.heap.size + 1 + 1 + 1 + 1, 0, none⟩) [1] := by
  have hz : v.heap.size = w.heap.size + 1 + 1 + 1 + 1 := by rw [h4]; simp
  have hb : Below w.heap.size w v := by
    rw [h4]
    exact ((((Below.refl _ _).alloc (Nat.le_refl _) _).alloc (by simp) _).alloc (by simp; omega) _).alloc (by simp; omega) _
  have h3 : Blk v (w.heap.size + 1 + 1) 3 #[.int .i64 0] := by
    rw [h4]; exact (Blk.at_ (by simp)).alloc _
  have h4' : Blk v (w.heap.size + 1 + 1 + 1) 22 #[.slice (some ⟨w.heap.size, 0, none⟩) 0 0, .slice (some ⟨w.heap.size + 1, 0, none⟩) 0 0, .slice (some ⟨w.heap.size + 1 + 1, 0, none⟩) 1 1] := by
    rw [h4]; exact Blk.at_ (by simp)
  subst h5
  refine ⟨hb.alloc (by omega) _, rows3 (h4'.alloc _) (h3.alloc _), ?_⟩
  exact ints_blk (Blk.at_ (by omega)) rfl

set_option maxHeartbeats 2000000 in
set_option maxRecDepth 20000 in
theorem ordered_any (w : World) : Calls Try.prog 40 #[] w fun e w' => e = .returned (.bool true) ∧ Below w.heap.size w w' := by
  go_enter Try.func40, Try.ntmps40
  go_wp2_with fail
  have hbl := ordered_blks w rfl rfl
  generalize World.alloc (World.alloc (World.alloc (World.alloc (World.alloc w _) _) _) _) _ = w5 at *
  have HB := Lib.hid hbl.1
  have HP := Lib.hid (pick_any _ _ 3 3 _ _ 1 1 w5 rfl (by omega) hbl.2.1 rfl (by omega) hbl.2.2 (by intro x hx; simp at hx; omega))
  clear hbl
  refine HP.out.mono ?_
  rintro e w6 ⟨v, rfl, hv, hb⟩
  have HB6 := Lib.hid (HB.out.trans (hb.mono HB.out.size))
  have e1 : bErr (ll [⟨some ⟨w.heap.size, 0, none⟩, 0, []⟩, ⟨some ⟨w.heap.size + 1, 0, none⟩, 0, []⟩, ⟨some ⟨w.heap.size + 1 + 1, 0, none⟩, 1, [0]⟩]) = 0 := pick_fact.1
  rw [e1, if_pos rfl] at hv
  rw [e1]
  have hv2 : IntsV w6 v [1, 0, 2] := by rw [← pick_fact.2]; exact hv
  obtain ⟨A, c, rfl, hc, hm, hI⟩ := hv2
  unfold maxLen at hm
  have HI := Lib.hid hI
  clear hv hb e1 HP HB hI
  go_wp2_with fail
  have HW : Hid (Below w6.heap.size w6 (w6.alloc (.cells #[.int .i64 1, .int .i64 0, .int .i64 2] 3)) ∧ Blk (w6.alloc (.cells #[.int .i64 1, .int .i64 0, .int .i64 2] 3)) w6.heap.size 3 #[.int .i64 1, .int .i64 0, .int .i64 2]) := Lib.hid ⟨(Below.refl _ _).alloc (Nat.le_refl _) _, Blk.new _ _ _⟩
  generalize w6.alloc (.cells #[.int .i64 1, .int .i64 0, .int .i64 2] 3) = w7 at *
  have HQ := Lib.hid (equalI_any [1, 0, 2] [1, 0, 2] A (some ⟨w6.heap.size, 0, none⟩) 3 3 c 3 w7 rfl rfl (by omega) (by omega) (HI.out.next HW.out.1) (ints_blk HW.out.2 rfl) (r := true) (by decide))
  refine HQ.out.mono ?_
  rintro e w8 ⟨rfl, hb8⟩
  have HB8 := Lib.hid (HB6.out.trans ((HW.out.1.mono HB6.out.size).trans (hb8.mono (Nat.le_trans HB6.out.size HW.out.1.size))))
  clear hb8 HQ
  have HL := Lib.hid (long_look w8)
  go_wp2_with fail
  refine HL.out.mono ?_
  rintro e w9 ⟨rfl, hb9⟩
  have HB9 := Lib.hid (HB8.out.trans (hb9.mono HB8.out.size))
  clear hb9
  go_wp2_with fail
  go_ret
  exact ⟨rfl, HB9.out⟩
end Go.Proofs.Ytnaiflokmihmeaa.Od
