/- Small lemmas of the author's own, free of any program: worlds, endings, searches over ranges. -/
/- Words for memory: a slice that reads as a list of cells; an append onto a row of the call's own. -/
/- How arguments that came in are read as plain data: slices, structs of one-cell fields, integers. -/
/- Slices of integers and of rows that came in, read as plain data. -/
/- Maps of the call's own, as lists of pairs. -/
import Derived.WalkKit
import Derived.Below
import Derived.Lib.Hide
import Derived.Deep.Draws
import Derived.Laws.Rows
import Derived.Laws.OwnMore
import Derived.Deep.AppendLies
import Derived.Maps.AppendAt
import Derived.RegionTactic
import Derived.OwnWalk
import Derived.Deep.Slices
import Derived.Deep.Fields
import Derived.ChangeSame
import Derived.SizedLaws
import Derived.Maps.Keyed
namespace Go.Proofs.Ytnaiflokmihmeaa
open Go.RowKit

theorem bcell {W w1 : World} (hb : Below W.heap.size W w1) : (∀ b o, b < W.heap.size → w1.cell? ⟨b, o, none⟩ = W.cell? ⟨b, o, none⟩) ∧ (∀ b o, b < W.heap.size → w1.frozen? ⟨b, o, none⟩ = W.frozen? ⟨b, o, none⟩) :=
  ⟨fun b o h => hb.cell (p := ⟨b, o, none⟩) h, fun b o h => hb.frozen (p := ⟨b, o, none⟩) h⟩
theorem bcellB {B : Nat} {W w1 : World} (hb : Below B W w1) : (∀ b o, b < B → w1.cell? ⟨b, o, none⟩ = W.cell? ⟨b, o, none⟩) ∧ (∀ b o, b < B → w1.frozen? ⟨b, o, none⟩ = W.frozen? ⟨b, o, none⟩) :=
  ⟨fun b o h => hb.cell (p := ⟨b, o, none⟩) h, fun b o h => hb.frozen (p := ⟨b, o, none⟩) h⟩
theorem ret_bool {a b : Bool} (h : a = b) : Ending.returned (.bool a) = .returned (.bool b) := by rw [h]
theorem ret_int {a b : Int} (h : a = b) : Ending.returned (.int .i64 a) = .returned (.int .i64 b) := by rw [h]
theorem ret_int2 {a b c d : Int} (h : a = b) (h' : c = d) : Ending.returned (.tuple #[.int .i64 a, .int .i64 c]) = .returned (.tuple #[.int .i64 b, .int .i64 d]) := by rw [h, h']
theorem forall_lt_succ {p : Nat → Prop} {k : Nat} (h : ∀ j < k, p j) (hk : p k) : ∀ j < k + 1, p j := fun j hj => by
  rcases Nat.lt_or_eq_of_le (Nat.le_of_lt_succ hj) with h1 | h1
  · exact h j h1
  · exact h1 ▸ hk
theorem forall_lt_zero {p : Nat → Prop} : ∀ j < 0, p j := fun j hj => absurd hj (by omega)

/-- the first answer of f at 0, 1, .. below n -/
def firstOf (f : Nat → Option Int) (n : Nat) : Option Int := (List.range n).findSome? f
theorem firstOf_some (f : Nat → Option Int) (n k : Nat) (hk : k < n) (ha : ∀ j < k, f j = none) {x : Int} (hx : f k = some x) : firstOf f n = some x := by
  unfold firstOf
  induction n with
  | zero => omega
  | succ n ih =>
    rw [List.range_succ, List.findSome?_append]
    rcases Nat.lt_or_eq_of_le (Nat.le_of_lt_succ hk) with h | h
    · rw [ih h]; rfl
    · subst h
      rw [List.findSome?_eq_none_iff.2 (by intro x hx; exact ha x (by simpa using hx))]
      simp [hx]
theorem firstOf_none (f : Nat → Option Int) (n : Nat) (ha : ∀ j < n, f j = none) : firstOf f n = none := by
  unfold firstOf
  exact List.findSome?_eq_none_iff.2 (by intro x hx; exact ha x (by simpa using hx))
theorem firstOf_congr (f g : Nat → Option Int) (n : Nat) (ha : ∀ j < n, (∀ i < j, f i = none) → f j = g j) : firstOf f n = firstOf g n := by
  by_cases h : ∀ j < n, f j = none
  · have hg : ∀ j < n, g j = none := fun j hj => by rw [← ha j hj (fun i hi => h i (by omega))]; exact h j hj
    rw [firstOf_none f n h, firstOf_none g n hg]
  · have ⟨j, hj, hjn⟩ : ∃ j, j < n ∧ f j ≠ none := by
      refine Classical.byContradiction fun hc => h fun j hj => ?_
      refine Classical.byContradiction fun hn => hc ⟨j, hj, hn⟩
    have : ∃ k, k < n ∧ f k ≠ none ∧ ∀ i < k, f i = none := by
      clear h ha
      induction j using Nat.strongRecOn with
      | _ j ih =>
        by_cases h : ∀ i < j, f i = none
        · exact ⟨j, hj, hjn, h⟩
        · have ⟨i, hi, hin⟩ : ∃ i, i < j ∧ f i ≠ none := by
            refine Classical.byContradiction fun hc => h fun i hi => ?_
            refine Classical.byContradiction fun hn => hc ⟨i, hi, hn⟩
          exact ih i hi (by omega) hin
    obtain ⟨k, hk, hkn, hkb⟩ := this
    obtain ⟨x, hx⟩ := Option.ne_none_iff_exists'.1 hkn
    have hgx : g k = some x := by rw [← ha k hk hkb, hx]
    have hgb : ∀ i < k, g i = none := fun i hi => by rw [← ha i (by omega) (fun i' h' => hkb i' (by omega)), hkb i hi]
    rw [firstOf_some f n k hk hkb hx, firstOf_some g n k hk hgb hgx]

theorem get_of_lt {α : Type} {l : List α} {k n : Nat} (hn : n = l.length) (hk : k < n) : ∃ u, l[k]? = some u := ⟨l[k]'(by omega), List.getElem?_eq_getElem _⟩

/-! ### blocks known whole -/
def Blk (w : World) (g : Nat) (t : TypeId) (cs : Array Value) : Prop := w.heap[g]? = some (.cells cs t (0, 0))
section
variable {w w' : World} {g : Nat} {t : TypeId} {cs : Array Value}
theorem Blk.lt (h : Blk w g t cs) : g < w.heap.size := by
  rcases Nat.lt_or_ge g w.heap.size with hlt | hge
  · exact hlt
  · unfold Blk at h; rw [Array.getElem?_eq_none hge] at h; cases h
theorem Blk.cell (h : Blk w g t cs) (i : Nat) : w.cell? ⟨g, i, none⟩ = cs[i]? := cell_of_row w g i cs t (0, 0) h
theorem Blk.frozen (h : Blk w g t cs) (i : Nat) : w.frozen? ⟨g, i, none⟩ = false := by
  unfold Blk at h
  simp [World.frozen?, h]
theorem Blk.new (w : World) (t : TypeId) (cs : Array Value) : Blk (w.alloc (.cells cs t)) w.heap.size t cs := heap_alloc_new w _
theorem Blk.alloc (h : Blk w g t cs) (o : Obj) : Blk (w.alloc o) g t cs := (Below.heap_alloc w o g h.lt).trans h
theorem Blk.set_ (h : Blk w g t cs) (i : Nat) (u : Value) : Blk (w.setCell ⟨g, i, none⟩ u) g t (cs.setIfInBounds i u) := by
  unfold Blk at h ⊢
  simp [World.setCell, Array.getElem?_modify, h]
theorem Blk.far (h : Blk w g t cs) {p : Addr} (hp : g ≠ p.block) (u : Value) : Blk (w.setCell p u) g t cs := (Below.heap_setCell w p u g hp).trans h
theorem Blk.below {B : Nat} (h : Blk w g t cs) (hb : Below B w w') (hg : g < B) : Blk w' g t cs := (hb.block g hg).trans h
theorem Blk.belowB (h : Blk w g t cs) (hb : Below w.heap.size w w') : Blk w' g t cs := (hb.block g h.lt).trans h
theorem Blk.drew (h : Blk w g t cs) : Blk w.drew g t cs := h
theorem Blk.drewN (h : Blk w g t cs) (n : Nat) : Blk (w.drewN n) g t cs := h
end
theorem below_drewN {B : Nat} {a w : World} (h : Below B a w) (n : Nat) : Below B a (w.drewN n) := ⟨h.os, h.tape, h.output, h.size, h.block⟩

/-! ### zero values of large arrays of bools -/
def allFalse : List Value → Nat → Bool
  | [], 0 => true
  | .bool false :: l, n + 1 => allFalse l n
  | _, _ => false
theorem allFalse_get {l : List Value} {n : Nat} (h : allFalse l n = true) : l = List.replicate n (.bool false) := by
  induction l generalizing n with
  | nil => cases n <;> simp_all [allFalse]
  | cons a l ih =>
    match a, n, h with
    | .bool false, n+1, h => rw [ih h]; rfl
def zOk (P : Program) (t : TypeId) (n : Nat) : Bool := match (P.info? t).bind (·.zero) with | some (.agg cs) => allFalse cs.toList n | _ => false
theorem zero_bools {P : Program} {t : TypeId} {n : Nat} (h : zOk P t n = true) :
    ∃ Z : Array Value, Z.size = n ∧ (∀ i, i < n → Z[i]? = some (.bool false)) ∧ ∀ w, (zeroValue t).run P w = .ok (.agg Z) w := by
  unfold zOk at h
  cases hi : P.info? t with
  | none => simp [hi] at h
  | some i =>
    rw [hi] at h
    simp only [Option.bind_some] at h
    cases hz : i.zero with
    | none => simp [hz] at h
    | some z =>
      rw [hz] at h
      match z, h with
      | .agg cs, h =>
        have hl := allFalse_get h
        have hs : cs.size = n := by rw [← Array.length_toList, hl, List.length_replicate]
        refine ⟨cs, hs, fun i hin => ?_, fun w => ?_⟩
        · rw [← Array.getElem?_toList, hl, List.getElem?_replicate, if_pos hin]
        · simp [zeroValue, typeInfo, hi, hz]
end Go.Proofs.Ytnaiflokmihmeaa

namespace Go.Proofs.Ytnaiflokmihmeaa
open Go.RowKit
set_option linter.unusedVariables false

theorem block_of_add (a : Addr) (n : Nat) : (a.add n).block = a.block := by unfold Addr.add; split <;> rfl
theorem add_of_add (a : Addr) (i j : Nat) : (a.add i).add j = a.add (i + j) := by
  unfold Addr.add
  by_cases hi : i = 0 <;> by_cases hj : j = 0 <;> simp [hi, hj, Nat.add_assoc]

def Reads (w : World) (B size : Nat) (A : Option Addr) (n : Nat) (xs : List Value) : Prop :=
  xs.length = n * size ∧ (0 < n → ∃ ad, A = some ad ∧ ad.block < B ∧ ∀ j u, xs[j]? = some u → w.cell? (ad.add j) = some u)

section
variable {w w' : World} {B B' size n : Nat} {A : Option Addr} {xs : List Value}
theorem Reads.none_ : Reads w B size A 0 [] := ⟨by simp, fun h => absurd h (by omega)⟩
theorem Reads.at_ {k : Nat} (h : Reads w B 1 A n xs) (hk : k < n) : ∃ ad u, A = some ad ∧ ad.block < B ∧ xs[k]? = some u ∧ w.cell? (ad.add k) = some u := by
  obtain ⟨ad, e, hb, hc⟩ := h.2 (by omega)
  have hl : k < xs.length := by have := h.1; omega
  exact ⟨ad, xs[k], e, hb, List.getElem?_eq_getElem hl, hc k _ (List.getElem?_eq_getElem hl)⟩
theorem Reads.keep (h : Reads w B size A n xs) (hk : ∀ p : Addr, p.block < B → w'.cell? p = w.cell? p) : Reads w' B size A n xs :=
  ⟨h.1, fun hn => by
    obtain ⟨ad, e, hb, hc⟩ := h.2 hn
    exact ⟨ad, e, hb, fun j u hu => (hk _ (by rw [block_of_add]; exact hb)).trans (hc j u hu)⟩⟩
theorem Reads.more (h : Reads w B size A n xs) (hB : B ≤ B') : Reads w B' size A n xs :=
  ⟨h.1, fun hn => by
    obtain ⟨ad, e, hb, hc⟩ := h.2 hn
    exact ⟨ad, e, by omega, hc⟩⟩
theorem Reads.below (h : Reads w B size A n xs) (hb : Below B w w') : Reads w' B size A n xs := h.keep fun _ hp => hb.cell hp
theorem Reads.drew (h : Reads w B size A n xs) : Reads w.drew B size A n xs := h
theorem Reads.drewN (h : Reads w B size A n xs) (k : Nat) : Reads (w.drewN k) B size A n xs := h
theorem Reads.alloc (h : Reads w B size A n xs) (hB : B ≤ w.heap.size) (o : Obj) : Reads (w.alloc o) B size A n xs := h.keep fun p hp => World.cell?_alloc_lt w o p (by omega)
theorem Reads.setCell (h : Reads w B size A n xs) {p : Addr} (hB : B ≤ p.block) (u : Value) : Reads (w.setCell p u) B size A n xs :=
  h.keep fun q hq => World.cell?_setCell_other w p q u (fun e => by subst e; omega)
theorem Reads.grown (h : Reads w B size A n xs) {row : Option Nat} (hg : w.grownBy w' row) (hB : B ≤ w.heap.size) (hr : ∀ g, row = some g → B ≤ g) : Reads w' B size A n xs :=
  h.keep fun p hp => World.cell?_of_block (hg.block p.block (by omega) (fun e => by have := hr _ e.symm; omega))
theorem Reads.cut (h : Reads w B size A n xs) {k cap : Nat} (hk : k ≤ n) (hc : n ≤ cap) :
    Reads w B size (if cap = k then A else A.map (·.add (k * size))) (n - k) (xs.drop (k * size)) := by
  refine ⟨by rw [List.length_drop, h.1, Nat.sub_mul], fun hn => ?_⟩
  obtain ⟨ad, rfl, hb, hcell⟩ := h.2 (by omega)
  rw [if_neg (by omega)]
  refine ⟨ad.add (k * size), rfl, by rw [block_of_add]; exact hb, fun j u hu => ?_⟩
  rw [add_of_add]
  exact hcell _ u (by rw [← hu, List.getElem?_drop])
theorem Reads.of_own {base : Nat} {e : TypeId} {c : Nat} (h : w.ownsRow base e size (.slice A n c) n xs) : Reads w w.heap.size size A n xs := by
  refine ⟨h.1, fun hn => ?_⟩
  obtain ⟨g, cap, hv, _, hlt⟩ := h.form hn
  have hA : A = some ⟨g, 0, none⟩ := by injection hv
  subst hA
  exact ⟨_, rfl, hlt, h.cells (g := g) rfl⟩
end

section
variable {P : Program} (w : World)

theorem run_append_of_nil (base : Nat) (t ty e : TypeId) (i : TypeInfo) (size : Nat) (ht : P.underlying t = some (.slice e)) (hi : P.info? e = some i)
    (v : Value) (n : Nat) (xs : List Value) (hown : w.ownsRow base e size v n xs) (c : Nat) : (Builtin.append_ #[t, t] ty #[v, .slice none 0 c]).run P w = .ok v w := by
  rcases hown.2 with ⟨rfl, rfl⟩ | ⟨g, cap, cur, rfl, _, _, hnc, _⟩
  · simp [Builtin.append_, run_underlying ht, sizeOf, typeInfo, hi, Builtin.lenOf, Builtin.firstCells]
  · simp [Builtin.append_, run_underlying ht, sizeOf, typeInfo, hi, Builtin.lenOf, Builtin.firstCells, hnc, storeCells]

theorem run_append_any (base : Nat) (t ty e : TypeId) (i : TypeInfo) (z : Value) (size bytes : Nat) (ht : P.underlying t = some (.slice e)) (hi : P.info? e = some i) (hz : i.zero = some z)
    (hsize : i.size = size) (hby : i.bytes = bytes) (hzs : z.cells.size = size) (hsz : 0 < size)
    (v : Value) (n : Nat) (xs : List Value) (hown : w.ownsRow base e size v n xs)
    (B : Nat) (A : Option Addr) (m c : Nat) (news : List Value) (hr : Reads w B size A m news) (h1 : ∀ u ∈ news, u.oneCell' = true)
    (h63 : n + m ≤ maxLen) (hbytes : (n + m) * bytes ≤ 140737488355328) (hbase : base ≤ w.heap.size) :
    ∃ v' w', (Builtin.append_ #[t, t] ty #[v, .slice A m c]).run P w = .ok v' w' ∧ w'.ownsRow base e size v' (n + m) (xs ++ news) ∧ w.grownBy w' v.ownBlock ∧
      (v'.ownBlock = v.ownBlock ∨ v'.ownBlock = some w.heap.size) := by
  rcases A with _ | ad
  · have hm : m = 0 := by
      rcases Nat.eq_zero_or_pos m with h0 | h0
      · exact h0
      · obtain ⟨ad, h, _⟩ := hr.2 h0
        cases h
    subst hm
    have hn : news = [] := List.eq_nil_of_length_eq_zero (by simpa using hr.1)
    subst hn
    exact ⟨v, w, run_append_of_nil w base t ty e i size ht hi v n xs hown c, by simpa using hown, World.grownBy.refl w _, .inl rfl⟩
  · have hcells : ∀ j u, news[j]? = some u → w.cell? (ad.add j) = some u := by
      intro j u hu
      rcases Nat.eq_zero_or_pos m with h0 | h0
      · subst h0
        have hn : news = [] := List.eq_nil_of_length_eq_zero (by simpa using hr.1)
        subst hn
        simp at hu
      · obtain ⟨ad', h, _, hc⟩ := hr.2 h0
        injection h with h
        subst h
        exact hc j u hu
    obtain ⟨v', w', hrun, h2, h3, _, h5⟩ := run_append_own_at (P := P) w base t ty e i z size bytes ht hi hz hsize hby hzs hsz v n xs hown ad m c news hr.1 hcells h1 h63 hbytes hbase
    exact ⟨v', w', hrun, h2, h3, h5⟩

theorem wp_append_any {o : Oper} {a : Act} {K : Act → World → Prop} {Q : Exit → Act → World → Prop} (s x : Operand) (t : TypeId)
    (ho : o.op = .call { callee := .builtin .append, args := #[s, x], argTypes := #[t, t] })
    (base : Nat) (e : TypeId) (i : TypeInfo) (z : Value) (size bytes : Nat) (ht : P.underlying t = some (.slice e)) (hi : P.info? e = some i) (hz : i.zero = some z)
    (hsize : i.size = size) (hby : i.bytes = bytes) (hzs : z.cells.size = size) (hsz : 0 < size)
    (v : Value) (n : Nat) (xs : List Value) (hs : a.eval s = v) (hown : w.ownsRow base e size v n xs)
    (B : Nat) (A : Option Addr) (m c : Nat) (news : List Value) (hx : a.eval x = .slice A m c) (hr : Reads w B size A m news) (h1 : ∀ u ∈ news, u.oneCell' = true)
    (h63 : n + m ≤ maxLen) (hbytes : (n + m) * bytes ≤ 140737488355328) (hbase : base ≤ w.heap.size)
    (h : ∀ v' w', w'.ownsRow base e size v' (n + m) (xs ++ news) → w.grownBy w' v.ownBlock → (v'.ownBlock = v.ownBlock ∨ v'.ownBlock = some w.heap.size) → K (a.put o.dst v') w') : o.wp P a w K Q := by
  obtain ⟨v', w', hrun, h2, h3, h4⟩ := run_append_any (P := P) w base t o.type e i z size bytes ht hi hz hsize hby hzs hsz v n xs hown B A m c news hr h1 h63 hbytes hbase
  unfold Oper.wp execOp
  simp only [ho, resolve, invoke, builtin, Sem.run_bind, Sem.run_pure, Result.andThen_ok, List.map_toArray, List.map_cons, List.map_nil, hs, hx, hrun]
  exact h v' w' h2 h3 h4

theorem wpList_append_any {ops : Array Oper} {rest : List Oper} {o : Oper} {a : Act} {Q : Exit → Act → World → Prop} (hgd : o.guard = none) (s x : Operand) (t : TypeId)
    (ho : o.op = .call { callee := .builtin .append, args := #[s, x], argTypes := #[t, t] })
    (base : Nat) (e : TypeId) (i : TypeInfo) (z : Value) (size bytes : Nat) (ht : P.underlying t = some (.slice e)) (hi : P.info? e = some i) (hz : i.zero = some z)
    (hsize : i.size = size) (hby : i.bytes = bytes) (hzs : z.cells.size = size) (hsz : 0 < size)
    (v : Value) (n : Nat) (xs : List Value) (hs : a.eval s = v) (hown : w.ownsRow base e size v n xs)
    (B : Nat) (A : Option Addr) (m c : Nat) (news : List Value) (hx : a.eval x = .slice A m c) (hr : Reads w B size A m news) (h1 : ∀ u ∈ news, u.oneCell' = true)
    (h63 : n + m ≤ maxLen) (hbytes : (n + m) * bytes ≤ 140737488355328) (hbase : base ≤ w.heap.size)
    (h : ∀ v' w', w'.ownsRow base e size v' (n + m) (xs ++ news) → w.grownBy w' v.ownBlock → (v'.ownBlock = v.ownBlock ∨ v'.ownBlock = some w.heap.size) → wpList P ops Q rest (a.put o.dst v') w') : wpList P ops Q (o :: rest) a w :=
  wpList_plain hgd fun _ hK => wp_append_any w s x t ho base e i z size bytes ht hi hz hsize hby hzs hsz v n xs hs hown B A m c news hx hr h1 h63 hbytes hbase fun v' w' h2 h3 h4 => hK _ _ (h v' w' h2 h3 h4)

theorem step_append_any {ops : Array Oper} {o : Oper} {a : Act} {K : Act → World → Prop} {Q : Exit → Act → World → Prop} {E : Prop} (hgd : o.guard = none) (s x : Operand) (t : TypeId)
    (ho : o.op = .call { callee := .builtin .append, args := #[s, x], argTypes := #[t, t] })
    (base : Nat) (e : TypeId) (i : TypeInfo) (z : Value) (size bytes : Nat) (ht : P.underlying t = some (.slice e)) (hi : P.info? e = some i) (hz : i.zero = some z)
    (hsize : i.size = size) (hby : i.bytes = bytes) (hzs : z.cells.size = size) (hsz : 0 < size)
    (v : Value) (n : Nat) (xs : List Value) (hs : a.eval s = v) (hown : w.ownsRow base e size v n xs)
    (B : Nat) (A : Option Addr) (m c : Nat) (news : List Value) (hx : a.eval x = .slice A m c) (hr : Reads w B size A m news) (h1 : ∀ u ∈ news, u.oneCell' = true)
    (h63 : n + m ≤ maxLen) (hbytes : (n + m) * bytes ≤ 140737488355328) (hbase : base ≤ w.heap.size)
    (h : ∀ v' w', w'.ownsRow base e size v' (n + m) (xs ++ news) → w.grownBy w' v.ownBlock → (v'.ownBlock = v.ownBlock ∨ v'.ownBlock = some w.heap.size) → K (a.put o.dst v') w') :
    if Region.wanted o (yielded ops a.tmps) = true then Oper.wp P o a w K Q else E := by
  have hw : Region.wanted o (yielded ops a.tmps) = true := by simp [Region.wanted, hgd]
  rw [if_pos hw]
  exact wp_append_any w s x t ho base e i z size bytes ht hi hz hsize hby hzs hsz v n xs hs hown B A m c news hx hr h1 h63 hbytes hbase h
end

/-- an owned row below which nothing has turned is owned still -/
theorem own_below {w w' : World} {base : Nat} {e : TypeId} {size : Nat} {v : Value} {n : Nat} {xs : List Value} (h : w.ownsRow base e size v n xs) (hb : Below w.heap.size w w') : w'.ownsRow base e size v n xs :=
  h.kept (row := none) ⟨hb.os, hb.tape, hb.output, hb.size, fun i hi _ => hb.block i hi⟩ (by
    cases v.ownBlock <;> simp)
theorem Blk.grown {w w' : World} {g : Nat} {t : TypeId} {cs : Array Value} (h : Blk w g t cs) {row : Option Nat} (hb : w.grownBy w' row) (hg : some g ≠ row) : Blk w' g t cs := (hb.block g h.lt hg).trans h
theorem Blk.reads {w : World} {g : Nat} {t : TypeId} {cs : Array Value} {size n : Nat} {xs : List Value} (h : Blk w g t cs) (hx : cs.toList = xs) (hn : xs.length = n * size) : Reads w w.heap.size size (some ⟨g, 0, none⟩) n xs := by
  refine ⟨hn, fun _ => ⟨_, rfl, h.lt, fun j u hu => ?_⟩⟩
  rw [Addr.add_lit, Nat.zero_add, h.cell, ← Array.getElem?_toList, hx, hu]
theorem Blk.owns {w : World} {g base : Nat} {t : TypeId} {size : Nat} (h : Blk w g t #[]) (hg : base ≤ g) : w.ownsRow base t size (.slice (some ⟨g, 0, none⟩) 0 0) 0 [] :=
  ⟨by simp, .inr ⟨g, 0, #[], rfl, hg, h, Nat.le_refl _, by unfold maxLen; omega, by simp, by simp⟩⟩
theorem own_mono {w : World} {base base' : Nat} {e : TypeId} {size : Nat} {v : Value} {n : Nat} {xs : List Value} (h : w.ownsRow base e size v n xs) (hb : base' ≤ base) : w.ownsRow base' e size v n xs := by
  obtain ⟨h1, h2⟩ := h
  refine ⟨h1, ?_⟩
  rcases h2 with h2 | ⟨g, cap, cur, e1, e2, e3⟩
  · exact .inl h2
  · exact .inr ⟨g, cap, cur, e1, by omega, e3⟩
theorem cells3_below {B b : Nat} {w w' : World} {x y z : Value} (hb : Below B w w') (h : b < B) (h0 : w.cell? ⟨b, 0, none⟩ = some x) (h1 : w.cell? ⟨b, 1, none⟩ = some y) (h2 : w.cell? ⟨b, 2, none⟩ = some z) :
    w'.cell? ⟨b, 0, none⟩ = some x ∧ w'.cell? ⟨b, 1, none⟩ = some y ∧ w'.cell? ⟨b, 2, none⟩ = some z := ⟨(hb.cell (p := ⟨b, 0, none⟩) h).trans h0, (hb.cell (p := ⟨b, 1, none⟩) h).trans h1, (hb.cell (p := ⟨b, 2, none⟩) h).trans h2⟩
theorem Blk.at_ {w : World} {n : Nat} {t : TypeId} {cs : Array Value} (hn : n = w.heap.size) : Blk (w.alloc (.cells cs t)) n t cs := hn ▸ Blk.new w t cs
theorem below_of_grown {w w' : World} {row : Option Nat} {B : Nat} (hg : w.grownBy w' row) (hB : B ≤ w.heap.size) (hr : ∀ k, row = some k → B ≤ k) : Below B w w' := (Below.refl _ _).grown hg hB hr
end Go.Proofs.Ytnaiflokmihmeaa

namespace Go.Proofs.Ytnaiflokmihmeaa
open Go.RowKit Go.ChangeShapes Go.WideShapes Go.Deep
set_option linter.unusedVariables false

section
variable {H : Type} {enc : TypeId × Value → H} {P : Program} {w : World} {base : Nat} {spare : Nat → Bool} {held : Bool}

/-- a slice that came in: its elements' cells, one by one -/
theorem open_elems {t e : TypeId} {fuel C : Nat} {cs : List Value} {x : DataW H × List MemPlace} (ht : P.underlying t = some (.slice e)) (hC : P.cellsOf e = C) (h0 : 0 < C) (h : DataW.trod enc P w base spare held fuel t cs = some x) :
    ∃ A len cap, cs = [.slice A len cap] ∧ len ≤ cap ∧ cap ≤ maxLen ∧ ∀ i, i < len → ∃ b off cs' n' y, A = some ⟨b, off, none⟩ ∧ b < w.heap.size ∧ cs'.length = C ∧
      (∀ j u, cs'[j]? = some u → w.cell? ⟨b, off + (i * C + j), none⟩ = some u) ∧ DataW.trod enc P w base spare held n' e cs' = some y := by
  rcases open_slice ht h with ⟨rfl, rfl⟩ | ⟨a, len, cap, m, n, D, Pl, rfl, hb, hl, hm, hmm, hx, hi⟩
  · exact ⟨none, 0, 0, rfl, Nat.le_refl _, by unfold maxLen; omega, fun i hi => absurd hi (by omega)⟩
  · refine ⟨some a, len, cap, rfl, hl, hm, fun i hlen => ?_⟩
    have him : i < m := by rw [hmm]; split <;> omega
    obtain ⟨cs', hc, ht'⟩ := hi i him
    rw [hC] at hc
    obtain ⟨_, hcl, hat⟩ := World.cells?_some hc
    have hspot : a.spot = none := by
      have hj := hat 0 (by omega)
      rw [Go.Deep.add_add, List.getElem?_eq_getElem (by omega)] at hj
      have := World.cell?_spot hj
      unfold Addr.add at this
      split at this
      · exact this
      · rename_i hne
        have h0' := hi 0 (by rw [hmm]; split <;> omega)
        obtain ⟨cs0, hc0, _⟩ := h0'
        rw [hC] at hc0
        obtain ⟨_, hcl0, hat0⟩ := World.cells?_some hc0
        have hj0 := hat0 0 (by omega)
        rw [Go.Deep.add_add, List.getElem?_eq_getElem (by omega)] at hj0
        simpa [Addr.add] using World.cell?_spot hj0
    obtain ⟨b, off, spot⟩ := a
    dsimp only at hspot
    subst hspot
    refine ⟨b, off, cs', n, _, rfl, ?_, hcl, fun j u hu => ?_, ht'⟩
    · have hj := hat 0 (by omega)
      rw [List.getElem?_eq_getElem (by omega)] at hj
      have := World.block_lt_of_cell? _ _ hj
      rw [Addr.add_lit, Addr.add_lit] at this
      exact this
    · have hjl : j < cs'.length := by
        rcases Nat.lt_or_ge j cs'.length with h | h
        · exact h
        · rw [List.getElem?_eq_none h] at hu; cases hu
      have hj := hat j (by omega)
      rw [Addr.add_lit, Addr.add_lit, Nat.add_assoc] at hj
      rw [hj, hu]

/-- a struct of one-cell fields: each field -/
theorem open_fields {e : TypeId} {fs : Array Field} {fuel : Nat} {cs : List Value} {x : DataW H × List MemPlace} (he : P.underlying e = some (.struct fs)) (hone : oneCellFields P fs = true) (hlen : cs.length = fs.size)
    (h : DataW.trod enc P w base spare held fuel e cs = some x) : ∃ n, ∀ (j : Nat) (f : Field), fs[j]? = some f → ∃ (v : Value) (y : DataW H × List MemPlace), cs[j]? = some v ∧ DataW.trod enc P w base spare held n f.type [v] = some y := by
  obtain ⟨ys, n', hn', hy, _, hyl, hf⟩ := DataW.trod_struct he h
  refine ⟨n', fun j f hj => ?_⟩
  obtain ⟨ho, hk⟩ := hone_of hone j f hj
  have hjl : j < fs.size := (Array.getElem?_eq_some_iff.1 hj).1
  have h1 := hf j f hj
  rw [ho, hk] at h1
  have hone' : (cs.drop j).take 1 = [cs[j]'(by omega)] := by
    rw [List.drop_eq_getElem_cons (by omega)]
    rfl
  rw [hone'] at h1
  have hys : ys[j]? = some (ys[j]'(by omega)) := List.getElem?_eq_getElem (by omega)
  exact ⟨_, _, List.getElem?_eq_getElem (by omega), h1.trans hys⟩

theorem open_i64 {t : TypeId} {fuel : Nat} {v : Value} {x : DataW H × List MemPlace} (ht : P.underlying t = some (.int .i64)) (h : DataW.trod enc P w base spare held fuel t [v] = some x) : ∃ n, v = .int .i64 n ∧ (Lit.int .i64 n).wf = true := by
  obtain ⟨n, hv, _, hw⟩ := DataW.trod_int ht h
  exact ⟨n, by simpa using hv, hw⟩

/-! ### with weights: no slice or string that came in takes more than the reach -/
def Light (P : Program) (t : TypeId) (d : DataW H) : Prop := ∀ n ∈ d.weights P t, n ≤ reachBytes
theorem light_of_each {ts : List TypeId} {ds : List (DataW H)} (h : (DataW.weightsEach P ts ds).all (· ≤ reachBytes) = true) {j : Nat} {t : TypeId} {d : DataW H} (ht : ts[j]? = some t) (hd : ds[j]? = some d) : Light P t d := fun n hn => by
  simpa using List.all_eq_true.1 h _ (DataW.weights_mem_each ht hd n hn)
theorem weights_mem_all : ∀ {ds : List (DataW H)} {e : TypeId} {d : DataW H}, d ∈ ds → ∀ n ∈ d.weights P e, n ∈ DataW.weightsAll P e ds
  | d0 :: ds, e, d, h, n, hn => by
    simp only [DataW.weightsAll, List.mem_append]
    rcases List.mem_cons.1 h with rfl | h
    · exact .inl hn
    · exact .inr (weights_mem_all h n hn)
theorem Light.elem {t e : TypeId} {elems sp : List (DataW H)} (ht : P.underlying t = some (.slice e)) (h : Light P t (.slice elems sp)) {d : DataW H} (hd : d ∈ elems) : Light P e d := fun n hn => by
  refine h n ?_
  simp only [DataW.weights, ht, List.mem_cons, List.mem_append]
  exact .inr (.inl (weights_mem_all hd n hn))
theorem Light.size {t e : TypeId} {elems sp : List (DataW H)} (ht : P.underlying t = some (.slice e)) (h : Light P t (.slice elems sp)) : (elems.length + sp.length) * P.bytesOf e ≤ reachBytes := by
  refine h _ ?_
  simp [DataW.weights, ht]
theorem Light.field {t : TypeId} {fs : Array Field} {parts : List (DataW H)} (ht : P.underlying t = some (.struct fs)) (h : Light P t (.agg parts)) {j : Nat} {f : Field} {d : DataW H} (hf : fs[j]? = some f) (hd : parts[j]? = some d) : Light P f.type d := fun n hn => by
  refine h n ?_
  simp only [DataW.weights, ht]
  exact DataW.weights_mem_each (j := j) (by simp [hf]) hd n hn

/-- a slice that came in, with its weight: its elements' cells, one by one -/
theorem open_elems_w {t e : TypeId} {fuel C : Nat} {cs : List Value} {x : DataW H × List MemPlace} (ht : P.underlying t = some (.slice e)) (hC : P.cellsOf e = C) (h0 : 0 < C) (h : DataW.trod enc P w base (fun _ => true) held fuel t cs = some x) (hl : Light P t x.1) :
    ∃ A len cap, cs = [.slice A len cap] ∧ len ≤ cap ∧ cap ≤ maxLen ∧ cap * P.bytesOf e ≤ reachBytes ∧ ∀ i, i < len → ∃ b off cs' n' y, A = some ⟨b, off, none⟩ ∧ b < w.heap.size ∧ cs'.length = C ∧
      (∀ j u, cs'[j]? = some u → w.cell? ⟨b, off + (i * C + j), none⟩ = some u) ∧ DataW.trod enc P w base (fun _ => true) held n' e cs' = some y ∧ Light P e y.1 := by
  rcases open_slice ht h with ⟨rfl, rfl⟩ | ⟨a, len, cap, m, n, D, Pl, rfl, hb, hlc, hm, hmm, hx, hi⟩
  · exact ⟨none, 0, 0, rfl, Nat.le_refl _, by unfold maxLen; omega, by simp, fun i hi => absurd hi (by omega)⟩
  · rw [if_pos rfl] at hmm
    subst hmm
    rw [hx] at hl
    have hsz := hl.size ht
    simp only [List.length_map, List.length_range] at hsz
    refine ⟨some a, len, m, rfl, hlc, hm, by rwa [show len + (m - len) = m by omega] at hsz, fun i hlen => ?_⟩
    obtain ⟨cs', hc, ht'⟩ := hi i (by omega)
    rw [hC] at hc
    obtain ⟨_, hcl, hat⟩ := World.cells?_some hc
    have hspot : a.spot = none := by
      have h0' := hi 0 (by omega)
      obtain ⟨cs0, hc0, _⟩ := h0'
      rw [hC] at hc0
      obtain ⟨_, hcl0, hat0⟩ := World.cells?_some hc0
      have hj0 := hat0 0 (by omega)
      rw [Go.Deep.add_add, List.getElem?_eq_getElem (by omega)] at hj0
      simpa [Addr.add] using World.cell?_spot hj0
    obtain ⟨b, off, spot⟩ := a
    dsimp only at hspot
    subst hspot
    refine ⟨b, off, cs', n, _, rfl, ?_, hcl, fun j u hu => ?_, ht', ?_⟩
    · have hj := hat 0 (by omega)
      rw [List.getElem?_eq_getElem (by omega)] at hj
      have := World.block_lt_of_cell? _ _ hj
      rw [Addr.add_lit, Addr.add_lit] at this
      exact this
    · have hjl : j < cs'.length := by
        rcases Nat.lt_or_ge j cs'.length with h | h
        · exact h
        · rw [List.getElem?_eq_none h] at hu; cases hu
      have hj := hat j (by omega)
      rw [Addr.add_lit, Addr.add_lit, Nat.add_assoc] at hj
      rw [hj, hu]
    · exact hl.elem ht (by simp only [List.mem_map, List.mem_range]; exact ⟨i, hlen, rfl⟩)

/-- a struct of one-cell fields, with its weight -/
theorem open_fields_w {e : TypeId} {fs : Array Field} {fuel : Nat} {cs : List Value} {x : DataW H × List MemPlace} (he : P.underlying e = some (.struct fs)) (hone : oneCellFields P fs = true) (hlen : cs.length = fs.size)
    (h : DataW.trod enc P w base spare held fuel e cs = some x) (hl : Light P e x.1) : ∃ n, ∀ (j : Nat) (f : Field), fs[j]? = some f → ∃ (v : Value) (y : DataW H × List MemPlace), cs[j]? = some v ∧ DataW.trod enc P w base spare held n f.type [v] = some y ∧ Light P f.type y.1 := by
  obtain ⟨ys, n', hn', hy, _, hyl, hf⟩ := DataW.trod_struct he h
  refine ⟨n', fun j f hj => ?_⟩
  obtain ⟨ho, hk⟩ := hone_of hone j f hj
  have hjl : j < fs.size := (Array.getElem?_eq_some_iff.1 hj).1
  have h1 := hf j f hj
  rw [ho, hk] at h1
  have hone' : (cs.drop j).take 1 = [cs[j]'(by omega)] := by
    rw [List.drop_eq_getElem_cons (by omega)]
    rfl
  rw [hone'] at h1
  have hys : ys[j]? = some (ys[j]'(by omega)) := List.getElem?_eq_getElem (by omega)
  refine ⟨_, _, List.getElem?_eq_getElem (by omega), h1.trans hys, ?_⟩
  rw [hy] at hl
  exact hl.field he hj (by simp [hys])

/-- from a fact at each place to a list -/
theorem list_of {α : Type} {n : Nat} {R : Nat → α → Prop} (h : ∀ i, i < n → ∃ x, R i x) : ∃ l : List α, l.length = n ∧ ∀ i x, l[i]? = some x → R i x := by
  induction n with
  | zero => exact ⟨[], rfl, fun i x hx => by simp at hx⟩
  | succ n ih =>
    obtain ⟨l, hl, hr⟩ := ih fun i hi => h i (by omega)
    obtain ⟨x, hx⟩ := h n (by omega)
    refine ⟨l ++ [x], by simp [hl], fun i y hy => ?_⟩
    rw [List.getElem?_append] at hy
    split at hy
    · exact hr i y hy
    · have : i - l.length = 0 := by
        rcases Nat.eq_zero_or_pos (i - l.length) with h | h
        · exact h
        · rw [List.getElem?_eq_none (by simp; omega)] at hy; cases hy
      rw [this] at hy
      obtain rfl : x = y := by simpa using hy
      rw [show i = n by omega]; exact hx
end

theorem wf_i64 {n : Int} (h : (Lit.int .i64 n).wf = true) : -9223372036854775808 ≤ n ∧ n ≤ 9223372036854775807 := by simpa [Lit.wf, IntKind.min, IntKind.max, IntKind.signed, IntKind.bits] using h
end Go.Proofs.Ytnaiflokmihmeaa

namespace Go.Proofs.Ytnaiflokmihmeaa
open Go.RowKit Go.ChangeShapes Go.WideShapes Go.Deep
set_option linter.unusedVariables false

/-- the slice at A holds the integers xs -/
def IntsAt (w : World) (B : Nat) (A : Option Addr) (xs : List Int) : Prop :=
  ∀ k x, xs[k]? = some x → ∃ b off, A = some ⟨b, off, none⟩ ∧ b < B ∧ w.cell? ⟨b, off + k, none⟩ = some (.int .i64 x)
section
variable {w w' : World} {B B' : Nat} {A : Option Addr} {xs : List Int}
theorem IntsAt.below (h : IntsAt w B A xs) (hb : Below B' w w') (hB : B ≤ B') : IntsAt w' B A xs := by
  intro k x hx
  obtain ⟨b, off, hA, hlt, h0⟩ := h k x hx
  exact ⟨b, off, hA, hlt, (hb.cell (p := ⟨b, _, none⟩) (Nat.lt_of_lt_of_le hlt hB)).trans h0⟩
theorem IntsAt.more (h : IntsAt w B A xs) (hB : B ≤ B') : IntsAt w B' A xs := by
  intro k x hx
  obtain ⟨b, off, hA, hlt, h0⟩ := h k x hx
  exact ⟨b, off, hA, Nat.lt_of_lt_of_le hlt hB, h0⟩
theorem IntsAt.nil : IntsAt w B A [] := fun k x h => by simp at h
theorem IntsAt.next (h : IntsAt w w.heap.size A xs) (hb : Below w.heap.size w w') : IntsAt w' w'.heap.size A xs := (h.below hb (Nat.le_refl _)).more hb.size
def cellsI (xs : List Int) : List Value := xs.map fun x => .int .i64 x
theorem cellsI_length (xs : List Int) : (cellsI xs).length = xs.length := by simp [cellsI]
theorem cellsI_oneCell (xs : List Int) : ∀ x ∈ cellsI xs, x.oneCell' = true := by
  intro x hx
  simp only [cellsI, List.mem_map] at hx
  obtain ⟨u, _, rfl⟩ := hx
  rfl
theorem IntsAt.reads (h : IntsAt w B A xs) : Reads w B 1 A xs.length (cellsI xs) := by
  refine ⟨by simp [cellsI], fun hn => ?_⟩
  obtain ⟨u0, hu0⟩ := get_of_lt rfl hn
  obtain ⟨b, off, hA, hb, _⟩ := h 0 u0 hu0
  refine ⟨_, hA, hb, fun j v hv => ?_⟩
  simp only [cellsI, List.getElem?_map] at hv
  cases hx : xs[j]? with
  | none => simp [hx] at hv
  | some x =>
    rw [hx] at hv
    obtain ⟨b', off', hA', _, c0⟩ := h _ x hx
    rw [hA] at hA'; cases hA'
    rw [Addr.add_lit, c0]; simpa using hv
theorem IntsAt.of_reads (h : Reads w B 1 A xs.length (cellsI xs)) (hs : ∀ ad, A = some ad → ad.spot = none) : IntsAt w B A xs := by
  intro k x hx
  have hk : k < xs.length := by
    rcases Nat.lt_or_ge k xs.length with h' | h'
    · exact h'
    · rw [List.getElem?_eq_none h'] at hx; cases hx
  obtain ⟨ad, u, hA, hb, hu, hc⟩ := h.at_ hk
  obtain ⟨b, off, spot⟩ := ad
  have := hs _ hA
  dsimp only at this
  subst this
  refine ⟨b, off, hA, hb, ?_⟩
  rw [Addr.add_lit] at hc
  rw [hc, ← hu]
  simp [cellsI, hx]
theorem IntsAt.of_own {base : Nat} {e : TypeId} {v : Value} (h : w.ownsRow base e 1 v xs.length (cellsI xs)) :
    ∃ A c, v = .slice A xs.length c ∧ xs.length ≤ c ∧ c ≤ maxLen ∧ IntsAt w w.heap.size A xs := by
  obtain ⟨h1, h2⟩ := h
  rcases h2 with ⟨rfl, hx⟩ | ⟨g, cap, cur, rfl, hg, hh, hnc, hm, hs, hc⟩
  · have : xs = [] := by simpa [cellsI] using hx
    subst this
    exact ⟨none, 0, rfl, Nat.le_refl _, by unfold maxLen; omega, IntsAt.nil⟩
  · refine ⟨some ⟨g, 0, none⟩, cap, rfl, by assumption, by assumption, ?_⟩
    exact IntsAt.of_reads (Reads.of_own (c := cap) ⟨h1, .inr ⟨g, cap, cur, rfl, hg, hh, hnc, hm, hs, hc⟩⟩) (fun ad h => by cases h; rfl)
end

/-- a slice value that reads as a list of integers -/
def IntsV (w : World) (v : Value) (xs : List Int) : Prop := ∃ A c, v = .slice A xs.length c ∧ xs.length ≤ c ∧ c ≤ maxLen ∧ IntsAt w w.heap.size A xs
theorem IntsV.of_own {w : World} {base : Nat} {e : TypeId} {v : Value} {xs : List Int} {n : Nat} (h : w.ownsRow base e 1 v n (cellsI xs)) : IntsV w v xs := by
  have : n = xs.length := by have := h.1; simp [cellsI] at this; omega
  subst this
  exact IntsAt.of_own h
theorem IntsV.next {w w' : World} {v : Value} {xs : List Int} (h : IntsV w v xs) (hb : Below w.heap.size w w') : IntsV w' v xs := by
  obtain ⟨A, c, h1, h2, h3, h4⟩ := h
  exact ⟨A, c, h1, h2, h3, h4.next hb⟩
theorem IntsV.nil (w : World) : IntsV w (.slice none 0 0) [] := ⟨none, 0, rfl, Nat.le_refl _, by unfold maxLen; omega, IntsAt.nil⟩

/-- a slice of integers that came in -/
theorem open_ints_at {H : Type} {enc : TypeId × Value → H} {P : Program} {w : World} {base : Nat} {held : Bool} {t e : TypeId} {fuel : Nat} {v : Value} {x : DataW H × List MemPlace}
    (ht : P.underlying t = some (.slice e)) (he : P.underlying e = some (.int .i64)) (hC : P.cellsOf e = 1) (h : DataW.trod enc P w base (fun _ => true) held fuel t [v] = some x) (hl : Light P t x.1) :
    ∃ A c xs, v = .slice A (List.length xs) c ∧ xs.length ≤ c ∧ c ≤ maxLen ∧ c * P.bytesOf e ≤ reachBytes ∧ IntsAt w w.heap.size A xs ∧ ∀ x ∈ xs, -9223372036854775808 ≤ x ∧ x ≤ 9223372036854775807 := by
  obtain ⟨A, len, cap, hcs, hlc, hm, hr, hi⟩ := open_elems_w (C := 1) ht hC (by omega) h hl
  obtain rfl : v = .slice A len cap := by simpa using hcs
  obtain ⟨xs, hxs, hr2⟩ := list_of (n := len) (R := fun k (x : Int) => (∃ b off, A = some ⟨b, off, none⟩ ∧ b < w.heap.size ∧ w.cell? ⟨b, off + k, none⟩ = some (.int .i64 x)) ∧ (-9223372036854775808 ≤ x ∧ x ≤ 9223372036854775807)) (by
    intro i hlt
    obtain ⟨b, off, cs', n', y, hA, hb, hlen, hc, ht', _⟩ := hi i hlt
    obtain ⟨u, rfl⟩ : ∃ u, cs' = [u] := by
      match cs', hlen with
      | [u], _ => exact ⟨u, rfl⟩
    obtain ⟨z, rfl, hz⟩ := open_i64 he ht'
    refine ⟨z, ⟨b, off, hA, hb, ?_⟩, wf_i64 hz⟩
    have := hc 0 _ rfl
    simpa using this)
  refine ⟨A, cap, xs, by rw [hxs], by omega, hm, hr, fun k x hx => (hr2 k x hx).1, fun x hx => ?_⟩
  obtain ⟨k, hk⟩ := List.mem_iff_getElem?.1 hx
  exact (hr2 k x hk).2
end Go.Proofs.Ytnaiflokmihmeaa

namespace Go.Proofs.Ytnaiflokmihmeaa
open Go.RowKit
set_option linter.unusedVariables false

section
variable {α β : Type}
/-- block b is a map that holds the pairs l -/
def MapOf (enc : α → Value) (en : β → Value) (w : World) (b : Nat) (l : List (α × β)) : Prop :=
  ∃ es clock, w.heap[b]? = some (.map es clock) ∧ es.toList.map (fun e => (e.key, e.val)) = l.map (fun p => (enc p.1, en p.2))
section
variable {enc : α → Value} {en : β → Value} {w w' : World} {b : Nat} {l : List (α × β)}
theorem MapOf.lt (h : MapOf enc en w b l) : b < w.heap.size := by
  obtain ⟨es, clock, hb, _⟩ := h
  exact (Array.getElem?_eq_some_iff.1 hb).1
theorem MapOf.block (h : MapOf enc en w b l) (hb : w'.heap[b]? = w.heap[b]?) : MapOf enc en w' b l := by
  obtain ⟨es, clock, h1, h2⟩ := h
  exact ⟨es, clock, hb.trans h1, h2⟩
theorem MapOf.next (h : MapOf enc en w b l) (hb : Below w.heap.size w w') : MapOf enc en w' b l := h.block (hb.block b h.lt)
theorem MapOf.drew (h : MapOf enc en w b l) : MapOf enc en w.drew b l := h
theorem MapOf.drewN (h : MapOf enc en w b l) (n : Nat) : MapOf enc en (w.drewN n) b l := h
theorem MapOf.alloc (h : MapOf enc en w b l) (o : Obj) : MapOf enc en (w.alloc o) b l := h.next ((Below.refl _ _).alloc (Nat.le_refl _) _)
theorem MapOf.grown {row : Option Nat} (h : MapOf enc en w b l) (hg : w.grownBy w' row) (hne : some b ≠ row) : MapOf enc en w' b l := h.block (hg.block b h.lt hne)
theorem MapOf.setCell (h : MapOf enc en w b l) {p : Addr} (hp : b ≠ p.block) (u : Value) : MapOf enc en (w.setCell p u) b l := h.block (Below.heap_setCell w p u b hp)
theorem MapOf.made (w : World) : MapOf enc en (w.alloc (.map #[] 0)) w.heap.size ([] : List (α × β)) := ⟨#[], 0, (MapKept.heap_alloc w _).1, rfl⟩
end
end
section
variable {α β : Type} [DecidableEq α]
/-- the pair at a key is set -/
def aput : List (α × β) → α → β → List (α × β)
  | [], a, v => [(a, v)]
  | p :: r, a, v => if a = p.1 then (p.1, v) :: r else p :: aput r a v
def aget : List (α × β) → α → Option β
  | [], _ => none
  | p :: r, a => if a = p.1 then some p.2 else aget r a
theorem aget_aput (l : List (α × β)) (a b : α) (v : β) : aget (aput l a v) b = if b = a then some v else aget l b := by
  induction l with
  | nil => simp [aput, aget]
  | cons p r ih =>
    unfold aput
    by_cases h : a = p.1
    · rw [if_pos h, h]
      simp only [aget]
      split <;> rfl
    · simp only [if_neg h, aget, ih]
      by_cases h2 : b = p.1
      · rw [if_pos h2, if_pos h2, if_neg (by rw [h2]; exact fun e => h e.symm)]
      · rw [if_neg h2, if_neg h2]
theorem aput_len (l : List (α × β)) (a : α) (v : β) : (aput l a v).length ≤ l.length + 1 := by
  induction l with
  | nil => simp [aput]
  | cons p r ih =>
    unfold aput
    split
    · simp
    · simp; omega
/-- where a key stands -/
def afind : List (α × β) → α → Nat → Option Nat
  | [], _, _ => none
  | p :: r, a, i => if a = p.1 then some i else afind r a (i + 1)
theorem afind_none {l : List (α × β)} {a : α} : ∀ {i : Nat}, afind l a i = none → aget l a = none := by
  induction l with
  | nil => intro i _; rfl
  | cons p r ih =>
    intro i h
    unfold afind at h
    split at h
    · cases h
    · rename_i h1; simp only [aget, if_neg h1]; exact ih h
theorem afind_some {l : List (α × β)} {a : α} : ∀ {i j : Nat}, afind l a i = some j → ∃ k v, j = i + k ∧ l[k]? = some (a, v) ∧ aget l a = some v ∧ ∀ u, aput l a u = l.set k (a, u) := by
  induction l with
  | nil => intro i j h; cases h
  | cons p r ih =>
    intro i j h
    unfold afind at h
    split at h
    · rename_i h1
      injection h with h
      refine ⟨0, p.2, by omega, by simp [h1], by simp [aget, h1], fun u => by simp [aput, h1]⟩
    · rename_i h1
      obtain ⟨k, v, e1, e2, e3, e4⟩ := ih h
      refine ⟨k + 1, v, by omega, by simpa using e2, by simp only [aget, if_neg h1]; exact e3, fun u => by simp only [aput, if_neg h1, List.set_cons_succ]; rw [e4 u]⟩
theorem aput_new {l : List (α × β)} {a : α} (h : aget l a = none) (u : β) : aput l a u = l ++ [(a, u)] := by
  induction l with
  | nil => rfl
  | cons p r ih =>
    simp only [aget] at h
    split at h
    · cases h
    · rename_i h1; simp only [aput, if_neg h1, List.cons_append]; rw [ih h]

/-- keys that are found by their sameness -/
structure KLaw (P : Program) (kt : TypeId) (enc : α → Value) : Prop where
  check : ∀ e a w, (Instr.checkKey e 10000 kt (enc a)).run P w = .ok () w
  find : ∀ {β : Type} (en : β → Value) (es : List MapEntry) (l : List (α × β)), es.map (fun e => (e.key, e.val)) = l.map (fun p => (enc p.1, en p.2)) → ∀ a w, (Instr.findKey kt (enc a) es).run P w = .ok ((afind l a 0).map fun i => (i, ((es[i]?).map (·.val)).getD undef)) w
  stay : ∀ a w, (Instr.keyThatStays (enc a) (enc a)).run P w = .ok (enc a) w

section
variable {enc : α → Value} {en : β → Value} {w w' : World} {b : Nat} {l : List (α × β)}
variable {P : Program} {kt e t : TypeId}
theorem MapOf.lookup (h : MapOf enc en w b l) (K : KLaw P kt enc) (ht : P.underlying t = some (.map kt e)) {z : Value} (hz : (zeroValue e).run P w = .ok z w) (a : α) (c : Bool) {v : Value} (hv : ((aget l a).map en).getD z = v) {o : Bool} (ho : (aget l a).isSome = o) :
    (Instr.lookup t (.map (some b)) (enc a) c).run P w = .ok (if c then .tuple #[v, .bool o] else v) w := by
  obtain ⟨es, clock, hb, hl⟩ := h
  have hf := K.find en es.toList l hl a w
  cases hfi : afind l a 0 with
  | none =>
    rw [hfi] at hf
    have h1 := afind_none hfi
    rw [h1] at hv ho
    simp at hv ho
    subst hv ho
    simp [Instr.lookup, run_underlying ht, MapKept.run_getObj_map hb, K.check _ a w, hf, hz, Result.andThen]
  | some i =>
    obtain ⟨k, u, e1, e2, e3, -⟩ := afind_some hfi
    rw [Nat.zero_add] at e1
    subst e1
    rw [hfi] at hf
    rw [e3] at hv ho
    simp at hv ho
    subst hv ho
    have hk : (es.toList.map (fun e => (e.key, e.val)))[i]? = some (enc a, en u) := by rw [hl]; simp [e2]
    have hval : ((es.toList[i]?).map (·.val)).getD undef = en u := by
      rw [List.getElem?_map] at hk
      cases hx : es.toList[i]? with
      | none => rw [hx] at hk; cases hk
      | some x => rw [hx] at hk; simp at hk; simp [hk.2]
    simp only [Option.map_some] at hf
    rw [hval] at hf
    simp [Instr.lookup, run_underlying ht, MapKept.run_getObj_map hb, K.check _ a w, hf, Result.andThen]
theorem MapOf.update (h : MapOf enc en w b l) (K : KLaw P kt enc) (ht : P.underlying t = some (.map kt e)) (a : α) (v : β) :
    ∃ w', (Instr.mapUpdate t (.map (some b)) (enc a) (en v)).run P w = .ok () w' ∧ MapOf enc en w' b (aput l a v) ∧ w.grownBy w' (some b) := by
  obtain ⟨es, clock, hb, hl⟩ := h
  have hf := K.find en es.toList l hl a w
  cases hfi : afind l a 0 with
  | none =>
    rw [hfi] at hf
    have h1 := afind_none hfi
    refine ⟨_, by simp [Instr.mapUpdate, run_underlying ht, MapKept.run_getObj_map hb, K.check false a w, hf, MapKept.run_setObj_map _ hb, Result.andThen]; rfl, ⟨_, _, ChangeMaps.heap_setBlock_same hb _, ?_⟩, ⟨rfl, rfl, rfl, by simp [ChangeMaps.setBlock], fun i _ hi => ChangeMaps.heap_setBlock_other hb _ (fun e => hi (by rw [e]))⟩⟩
    rw [aput_new h1]
    simp [hl]
  | some i =>
    obtain ⟨k, u, e1, e2, e3, e4⟩ := afind_some hfi
    rw [Nat.zero_add] at e1
    subst e1
    rw [hfi] at hf
    have hk : (es.toList.map (fun e => (e.key, e.val)))[i]? = some (enc a, en u) := by rw [hl]; simp [e2]
    obtain ⟨x, hx, hx1⟩ : ∃ x, es.toList[i]? = some x ∧ x.key = enc a := by
      rw [List.getElem?_map] at hk
      cases hx : es.toList[i]? with
      | none => rw [hx] at hk; cases hk
      | some x => rw [hx] at hk; simp at hk; exact ⟨x, rfl, hk.1⟩
    have hx2 : es[i]? = some x := by rw [← Array.getElem?_toList]; exact hx
    refine ⟨_, by simp [Instr.mapUpdate, run_underlying ht, MapKept.run_getObj_map hb, K.check false a w, hf, hx2, hx1, K.stay a w, MapKept.run_setObj_map _ hb, Result.andThen]; rfl, ⟨_, _, ChangeMaps.heap_setBlock_same hb _, ?_⟩, ⟨rfl, rfl, rfl, by simp [ChangeMaps.setBlock], fun i _ hi => ChangeMaps.heap_setBlock_other hb _ (fun e => hi (by rw [e]))⟩⟩
    rw [e4 v, List.map_set, ← hl]
    refine List.ext_getElem? fun j => ?_
    rw [List.getElem?_map, Array.getElem?_toList, List.getElem?_set, List.getElem?_map, Array.getElem?_toList, List.length_map, Array.length_toList]
    by_cases hj : i = j
    · subst hj
      have hlt : i < es.size := (Array.getElem?_eq_some_iff.1 hx2).1
      rw [Array.getElem?_modify, if_pos rfl, hx2, if_pos rfl, if_pos hlt]
      simp
    · rw [if_neg hj, Array.getElem?_modify, if_neg hj]
end
end
/-- integers as keys -/
theorem klaw_int {P : Program} {kt : TypeId} {q : IntKind} (hk : P.underlying kt = some (.int q)) : KLaw P kt (fun x : Int => .int q x) := by
  refine ⟨fun e a w => ?_, fun en es l hl a w => ?_, fun a w => ?_⟩
  · unfold Instr.checkKey
    simp [run_underlying hk, Result.andThen]
  · have key : ∀ (es : List MapEntry) (l : List (Int × _)) (i : Nat) (all : List MapEntry), es.map (fun e => (e.key, e.val)) = l.map (fun p => (Value.int q p.1, en p.2)) → (∀ j, all[i + j]? = es[j]?) →
        Instr.findNow (.int q) (.int q a) es i = some ((afind l a i).map fun i => (i, ((all[i]?).map (·.val)).getD undef)) := by
      intro es
      induction es with
      | nil =>
        intro l i all hl _
        cases l with
        | nil => rfl
        | cons p r => simp at hl
      | cons x es ih =>
        intro l i all hl hall
        cases l with
        | nil => simp at hl
        | cons p r =>
          simp only [List.map_cons, List.cons.injEq, Prod.mk.injEq] at hl
          obtain ⟨⟨h1, h2⟩, h3⟩ := hl
          unfold Instr.findNow
          rw [h1]
          have h0 := hall 0
          simp only [Nat.add_zero, List.getElem?_cons_zero] at h0
          by_cases hap : a = p.1
          · simp [Instr.sameNow, hap, afind, h0]
          · have hne : (a == p.1) = false := by simpa using hap
            simp only [Instr.sameNow, if_true, hne, afind, if_neg hap]
            exact ih r (i + 1) all h3 (fun j => by have := hall (j + 1); rw [show i + 1 + j = i + (j + 1) by omega]; simpa using this)
    unfold Instr.findKey
    rw [Sem.run_bind, run_underlying hk w]
    simp only [Result.andThen_ok]
    rw [key es l 0 es hl (fun j => by rw [Nat.zero_add])]
    rfl
  · simp [Instr.keyThatStays, Instr.sameBits]
end Go.Proofs.Ytnaiflokmihmeaa

