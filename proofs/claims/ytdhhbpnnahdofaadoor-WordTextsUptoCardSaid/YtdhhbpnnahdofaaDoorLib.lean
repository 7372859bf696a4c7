/- Small lemmas of the author's own, free of any program: worlds, endings, searches over ranges. -/
import Derived.WalkKit
import Derived.Below
import Derived.Lib.Hide
import Derived.Deep.Draws
import Derived.Laws.Rows

namespace Go.Proofs.YtdhhbpnnahdofaaDoor
open Go.RowKit

theorem bcell {W w1 : World} (hb : Below W.heap.size W w1) : (∀ b o, b < W.heap.size → w1.cell? ⟨b, o, none⟩ = W.cell? ⟨b, o, none⟩) ∧ (∀ b o, b < W.heap.size → w1.frozen? ⟨b, o, none⟩ = W.frozen? ⟨b, o, none⟩) :=
  ⟨fun b o h => hb.cell (p := ⟨b, o, none⟩) h, fun b o h => hb.frozen (p := ⟨b, o, none⟩) h⟩
theorem bcellB {B : Nat} {W w1 : World} (hb : Below B W w1) : (∀ b o, b < B → w1.cell? ⟨b, o, none⟩ = W.cell? ⟨b, o, none⟩) ∧ (∀ b o, b < B → w1.frozen? ⟨b, o, none⟩ = W.frozen? ⟨b, o, none⟩) :=
  ⟨fun b o h => hb.cell (p := ⟨b, o, none⟩) h, fun b o h => hb.frozen (p := ⟨b, o, none⟩) h⟩
theorem ret_bool {a b : Bool} (h : a = b) : Ending.returned (.bool a) = .returned (.bool b) := by rw [h]
theorem ret_int {a b : Int} (h : a = b) : Ending.returned (.int .i64 a) = .returned (.int .i64 b) := by rw [h]
theorem ret_int2 {a b c d : Int} (h : a = b) (h' : c = d) : Ending.returned (.tuple #[.int .i64 a, .int .i64 c]) = .returned (.tuple #[.int .i64 b, .int .i64 d]) := by rw [h, h']
theorem forall_lt_succ {p : Nat → Prop} {k : Nat} (h : ∀ j < k, p j) (hk : p k) : ∀ j < k + 1, p j := fun j hj => by
  rcases Nat.lt_or_eq_of_le (Nat.le_of_lt_succ hj) with h1 | h1
  · exact h j h1
  · exact h1 ▸ hk
theorem forall_lt_zero {p : Nat → Prop} : ∀ j < 0, p j := fun j hj => absurd hj (by omega)

/-- the first answer of f at 0, 1, .. below n -/
def firstOf (f : Nat → Option Int) (n : Nat) : Option Int := (List.range n).findSome? f
theorem firstOf_some (f : Nat → Option Int) (n k : Nat) (hk : k < n) (ha : ∀ j < k, f j = none) {x : Int} (hx : f k = some x) : firstOf f n = some x := by
  unfold firstOf
  induction n with
  | zero => omega
  | succ n ih =>
    rw [List.range_succ, List.findSome?_append]
    rcases Nat.lt_or_eq_of_le (Nat.le_of_lt_succ hk) with h | h
    · rw [ih h]; rfl
    · subst h
      rw [List.findSome?_eq_none_iff.2 (by intro x hx; exact ha x (by simpa using hx))]
      simp [hx]
theorem firstOf_none (f : Nat → Option Int) (n : Nat) (ha : ∀ j < n, f j = none) : firstOf f n = none := by
  unfold firstOf
  exact List.findSome?_eq_none_iff.2 (by intro x hx; exact ha x (by simpa using hx))
theorem firstOf_congr (f g : Nat → Option Int) (n : Nat) (ha : ∀ j < n, (∀ i < j, f i = none) → f j = g j) : firstOf f n = firstOf g n := by
  by_cases h : ∀ j < n, f j = none
  · have hg : ∀ j < n, g j = none := fun j hj => by rw [← ha j hj (fun i hi => h i (by omega))]; exact h j hj
    rw [firstOf_none f n h, firstOf_none g n hg]
  · have ⟨j, hj, hjn⟩ : ∃ j, j < n ∧ f j ≠ none := by
      refine Classical.byContradiction fun hc => h fun j hj => ?_
      refine Classical.byContradiction fun hn => hc ⟨j, hj, hn⟩
    have : ∃ k, k < n ∧ f k ≠ none ∧ ∀ i < k, f i = none := by
      clear h ha
      induction j using Nat.strongRecOn with
      | _ j ih =>
        by_cases h : ∀ i < j, f i = none
        · exact ⟨j, hj, hjn, h⟩
        · have ⟨i, hi, hin⟩ : ∃ i, i < j ∧ f i ≠ none := by
            refine Classical.byContradiction fun hc => h fun i hi => ?_
            refine Classical.byContradiction fun hn => hc ⟨i, hi, hn⟩
          exact ih i hi (by omega) hin
    obtain ⟨k, hk, hkn, hkb⟩ := this
    obtain ⟨x, hx⟩ := Option.ne_none_iff_exists'.1 hkn
    have hgx : g k = some x := by rw [← ha k hk hkb, hx]
    have hgb : ∀ i < k, g i = none := fun i hi => by rw [← ha i (by omega) (fun i' h' => hkb i' (by omega)), hkb i hi]
    rw [firstOf_some f n k hk hkb hx, firstOf_some g n k hk hgb hgx]

theorem get_of_lt {α : Type} {l : List α} {k n : Nat} (hn : n = l.length) (hk : k < n) : ∃ u, l[k]? = some u := ⟨l[k]'(by omega), List.getElem?_eq_getElem _⟩

/-! ### blocks known whole -/
def Blk (w : World) (g : Nat) (t : TypeId) (cs : Array Value) : Prop := w.heap[g]? = some (.cells cs t (0, 0))
section
variable {w w' : World} {g : Nat} {t : TypeId} {cs : Array Value}
theorem Blk.lt (h : Blk w g t cs) : g < w.heap.size := by
  rcases Nat.lt_or_ge g w.heap.size with hlt | hge
  · exact hlt
  · unfold Blk at h; rw [Array.getElem?_eq_none hge] at h; cases h
theorem Blk.cell (h : Blk w g t cs) (i : Nat) : w.cell? ⟨g, i, none⟩ = cs[i]? := cell_of_row w g i cs t (0, 0) h
theorem Blk.frozen (h : Blk w g t cs) (i : Nat) : w.frozen? ⟨g, i, none⟩ = false := by
  unfold Blk at h
  simp [World.frozen?, h]
theorem Blk.new (w : World) (t : TypeId) (cs : Array Value) : Blk (w.alloc (.cells cs t)) w.heap.size t cs := heap_alloc_new w _
theorem Blk.alloc (h : Blk w g t cs) (o : Obj) : Blk (w.alloc o) g t cs := (Below.heap_alloc w o g h.lt).trans h
theorem Blk.set_ (h : Blk w g t cs) (i : Nat) (u : Value) : Blk (w.setCell ⟨g, i, none⟩ u) g t (cs.setIfInBounds i u) := by
  unfold Blk at h ⊢
  simp [World.setCell, Array.getElem?_modify, h]
theorem Blk.far (h : Blk w g t cs) {p : Addr} (hp : g ≠ p.block) (u : Value) : Blk (w.setCell p u) g t cs := (Below.heap_setCell w p u g hp).trans h
theorem Blk.below {B : Nat} (h : Blk w g t cs) (hb : Below B w w') (hg : g < B) : Blk w' g t cs := (hb.block g hg).trans h
theorem Blk.belowB (h : Blk w g t cs) (hb : Below w.heap.size w w') : Blk w' g t cs := (hb.block g h.lt).trans h
theorem Blk.drew (h : Blk w g t cs) : Blk w.drew g t cs := h
theorem Blk.drewN (h : Blk w g t cs) (n : Nat) : Blk (w.drewN n) g t cs := h
end
theorem below_drewN {B : Nat} {a w : World} (h : Below B a w) (n : Nat) : Below B a (w.drewN n) := ⟨h.os, h.tape, h.output, h.size, h.block⟩

/-! ### zero values of large arrays of bools -/
def allFalse : List Value → Nat → Bool
  | [], 0 => true
  | .bool false :: l, n + 1 => allFalse l n
  | _, _ => false
theorem allFalse_get {l : List Value} {n : Nat} (h : allFalse l n = true) : l = List.replicate n (.bool false) := by
  induction l generalizing n with
  | nil => cases n <;> simp_all [allFalse]
  | cons a l ih =>
    match a, n, h with
    | .bool false, n+1, h => rw [ih h]; rfl
def zOk (P : Program) (t : TypeId) (n : Nat) : Bool := match (P.info? t).bind (·.zero) with | some (.agg cs) => allFalse cs.toList n | _ => false
theorem zero_bools {P : Program} {t : TypeId} {n : Nat} (h : zOk P t n = true) :
    ∃ Z : Array Value, Z.size = n ∧ (∀ i, i < n → Z[i]? = some (.bool false)) ∧ ∀ w, (zeroValue t).run P w = .ok (.agg Z) w := by
  unfold zOk at h
  cases hi : P.info? t with
  | none => simp [hi] at h
  | some i =>
    rw [hi] at h
    simp only [Option.bind_some] at h
    cases hz : i.zero with
    | none => simp [hz] at h
    | some z =>
      rw [hz] at h
      match z, h with
      | .agg cs, h =>
        have hl := allFalse_get h
        have hs : cs.size = n := by rw [← Array.length_toList, hl, List.length_replicate]
        refine ⟨cs, hs, fun i hin => ?_, fun w => ?_⟩
        · rw [← Array.getElem?_toList, hl, List.getElem?_replicate, if_pos hin]
        · simp [zeroValue, typeInfo, hi, hz]
end Go.Proofs.YtdhhbpnnahdofaaDoor
