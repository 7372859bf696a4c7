/- Walk: slices.Insert at steps, one element. Plain laws: an element put into a list in order; the steps that StepsOf tries. -/
import Derived.Test.YtnaiflokmihmeaaAsH
import Derived.Lib.AppendZerosOnto
import Derived.Laws.NewBlocks
namespace Go.Proofs.Ytnaiflokmihmeaa
open Go.RowKit Go.Lib
set_option linter.unusedVariables false
set_option linter.unusedSimpArgs false

theorem cellsS_take (l : List Stp) (k : Nat) : (cellsS l).take (k * 5) = cellsS (l.take k) := by
  by_cases hk : k ≤ l.length
  · conv => lhs; rw [← List.take_append_drop k l, cellsS_append]
    rw [List.take_append_of_le_length (by rw [cellsS_length, List.length_take]; omega), List.take_of_length_le (by rw [cellsS_length, List.length_take]; omega)]
  · rw [List.take_of_length_le (by rw [cellsS_length]; omega), List.take_of_length_le (by omega)]
theorem cellsS_drop (l : List Stp) (k : Nat) : (cellsS l).drop (k * 5) = cellsS (l.drop k) := by
  by_cases hk : k ≤ l.length
  · have hl : k * 5 = (cellsS (l.take k)).length := by rw [cellsS_length, List.length_take]; omega
    conv => lhs; rw [← List.take_append_drop k l, cellsS_append, hl, List.drop_left]
  · rw [List.drop_of_length_le (by rw [cellsS_length]; omega), List.drop_of_length_le (by omega)]
    rfl
theorem take_ins {l : List Stp} {n k : Nat} {x : Stp} {cs : List Value} (hn : l.length = n) (hk : k ≤ n) (hs : (n + 1) * 5 ≤ cs.length)
    (h1 : ∀ q, q < k * 5 → cs[q]? = (cellsS l)[q]?) (h2 : ∀ j, j < 5 → cs[k*5+j]? = (valS x)[j]?) (h3 : ∀ j, j < (n - k) * 5 → cs[(k+1)*5+j]? = (cellsS (l.drop k))[j]?) :
    cs.take ((n + 1) * 5) = cellsS (l.take k ++ x :: l.drop k) := by
  have e : cellsS (l.take k ++ x :: l.drop k) = cellsS (l.take k) ++ (valS x ++ cellsS (l.drop k)) := by rw [cellsS_append]; rfl
  have e1 : (cellsS (l.take k)).length = k * 5 := by rw [cellsS_length, List.length_take]; omega
  have e2 : (valS x).length = 5 := rfl
  have e3 : (cellsS (l.drop k)).length = (n - k) * 5 := by rw [cellsS_length, List.length_drop]; omega
  rw [e]
  apply List.ext_getElem?
  intro q
  rw [List.getElem?_take]
  by_cases hq : q < k * 5
  · rw [if_pos (by omega), List.getElem?_append_left (by omega), h1 q hq, ← cellsS_take, List.getElem?_take, if_pos hq]
  · rw [List.getElem?_append_right (by omega), e1]
    by_cases hq2 : q < k * 5 + 5
    · have := h2 (q - k * 5) (by omega)
      rw [show k * 5 + (q - k * 5) = q by omega] at this
      rw [if_pos (by omega), List.getElem?_append_left (by omega), this]
    · rw [List.getElem?_append_right (by omega), e2]
      by_cases hq3 : q < (n + 1) * 5
      · have := h3 (q - (k + 1) * 5) (by omega)
        rw [show (k + 1) * 5 + (q - (k + 1) * 5) = q by omega] at this
        rw [if_pos hq3, this, show q - (k + 1) * 5 = q - k * 5 - 5 by omega]
      · rw [if_neg hq3, List.getElem?_eq_none (by omega)]
theorem asc_ins {l : List Stp} {x : Stp} {k : Nat} (h : AscS l) (hhi : ∀ y ∈ l.drop k, SLt x y) (hlo : ∀ m y, k = m + 1 → l[m]? = some y → ¬ SLt x y) (hk : k ≤ l.length) (hx : x ∉ l) : AscS (l.take k ++ x :: l.drop k) := by
  have h0 := h
  unfold AscS at h ⊢
  rw [← List.take_append_drop k l, List.pairwise_append] at h
  obtain ⟨h1, h2, h3⟩ := h
  have hlt : ∀ a ∈ l.take k, SLt a x := by
    intro a ha
    cases k with
    | zero => simp at ha
    | succ m =>
      have hm : m < l.length := by omega
      have hy : l[m]? = some l[m] := List.getElem?_eq_getElem hm
      have hn := hlo m _ rfl hy
      have hne : l[m] ≠ x := fun e => hx (e ▸ List.getElem_mem hm)
      have hyx : SLt l[m] x := by
        by_cases h9 : SLt l[m] x
        · exact h9
        · exact absurd (slt_total h9 hn) hne
      rw [List.take_add_one, hy, Option.toList_some, List.mem_append, List.mem_singleton] at ha
      rcases ha with ha | rfl
      · refine slt_trans ?_ hyx
        rw [List.take_add_one, hy, Option.toList_some, List.pairwise_append] at h1
        exact h1.2.2 a ha _ (List.mem_singleton.2 rfl)
      · exact hyx
  refine List.pairwise_append.2 ⟨h1, List.pairwise_cons.2 ⟨hhi, h2⟩, fun a ha b hb => ?_⟩
  rcases List.mem_cons.1 hb with rfl | hb
  · exact hlt a ha
  · exact h3 a ha b hb
theorem mem_ins {l : List Stp} {x : Stp} {k : Nat} {p q : Stp → Prop} (h : ∀ s, s ∈ l ↔ p s) (hq : ∀ s, q s ↔ p s ∨ s = x) : ∀ s, s ∈ l.take k ++ x :: l.drop k ↔ q s := fun s => by
  rw [hq, ← h, List.mem_append, List.mem_cons]
  conv => rhs; rw [← List.take_append_drop k l, List.mem_append]
  grind
theorem len_ins {l : List Stp} {x : Stp} {k n : Nat} (h : l.length = n) (hk : k ≤ n) : (l.take k ++ x :: l.drop k).length = n + 1 := by
  simp; omega
/-- the kinds that StepsOf tries with a part -/
def kdS (q : Nat) : Int := if q = 0 then 0 else if q = 1 then 1 else 3
/-- a step that StepsOf tries at a part -/
def paS (j : Nat) (s : Stp) : Prop := 0 ≤ s.p ∧ s.p < (j : Int) ∧ s.s = -1 ∧ (s.k = 0 ∨ s.k = 1 ∨ s.k = 3)
/-- a step that StepsOf tries at a slot -/
def slS (i : Nat) (s : Stp) : Prop := s.p = -1 ∧ 0 ≤ s.s ∧ s.s < (i : Int) ∧ (s.k = 0 ∨ s.k = 2)
/-- the steps tried when a arms are done, of the next arm j parts, q kinds of the next part, i slots and h kinds of the next slot -/
def gbS (np ns a j q i h : Nat) (s : Stp) : Prop :=
  s.t = 0 ∧ ((0 ≤ s.a ∧ s.a < (a : Int) ∧ (paS np s ∨ slS ns s)) ∨
    (s.a = (a : Int) ∧ (paS j s ∨ (s.p = (j : Int) ∧ s.s = -1 ∧ ((1 ≤ q ∧ s.k = 0) ∨ (2 ≤ q ∧ s.k = 1) ∨ (3 ≤ q ∧ s.k = 3))) ∨ slS i s ∨ (s.p = -1 ∧ s.s = (i : Int) ∧ 1 ≤ h ∧ s.k = 0))))
theorem gb_zero (np ns : Nat) (s : Stp) : ¬ gbS np ns 0 0 0 0 0 s := by
  unfold gbS paS slS
  omega
theorem gb_kind (np ns a j q : Nat) (hq : q < 3) (s : Stp) : gbS np ns a j (q + 1) 0 0 s ↔ gbS np ns a j q 0 0 s ∨ s = ⟨kdS q, (a : Int), (j : Int), -1, 0⟩ := by
  obtain ⟨k, b, p, t, u⟩ := s
  have hc : q = 0 ∨ q = 1 ∨ q = 2 := by omega
  rcases hc with rfl | rfl | rfl <;> simp only [gbS, paS, slS, kdS, Stp.mk.injEq] <;> grind (splits := 40)
theorem gb_newk (np ns a j q : Nat) (hq : q < 3) : ¬ gbS np ns a j q 0 0 ⟨kdS q, (a : Int), (j : Int), -1, 0⟩ := by
  have hc : q = 0 ∨ q = 1 ∨ q = 2 := by omega
  rcases hc with rfl | rfl | rfl <;> simp only [gbS, paS, slS, kdS] <;> grind (splits := 40)
theorem gb_part (np ns a j : Nat) (s : Stp) : gbS np ns a (j + 1) 0 0 0 s ↔ gbS np ns a j 3 0 0 s := by
  obtain ⟨k, b, p, t, u⟩ := s
  simp only [gbS, paS, slS] 
  grind (splits := 40)
theorem gb_go (np ns a i : Nat) (s : Stp) : gbS np ns a np 0 i 1 s ↔ gbS np ns a np 0 i 0 s ∨ s = ⟨0, (a : Int), -1, (i : Int), 0⟩ := by
  obtain ⟨k, b, p, t, u⟩ := s
  simp only [gbS, paS, slS, Stp.mk.injEq] 
  grind (splits := 40)
theorem gb_newg (np ns a i : Nat) : ¬ gbS np ns a np 0 i 0 ⟨0, (a : Int), -1, (i : Int), 0⟩ := by
  simp only [gbS, paS, slS] 
  grind (splits := 40)
theorem gb_put (np ns a i : Nat) (s : Stp) : gbS np ns a np 0 (i + 1) 0 s ↔ gbS np ns a np 0 i 1 s ∨ s = ⟨2, (a : Int), -1, (i : Int), 0⟩ := by
  obtain ⟨k, b, p, t, u⟩ := s
  simp only [gbS, paS, slS, Stp.mk.injEq] 
  grind (splits := 40)
theorem gb_newp (np ns a i : Nat) : ¬ gbS np ns a np 0 i 1 ⟨2, (a : Int), -1, (i : Int), 0⟩ := by
  simp only [gbS, paS, slS] 
  grind (splits := 40)
theorem gb_arm (np ns a : Nat) (s : Stp) : gbS np ns (a + 1) 0 0 0 0 s ↔ gbS np ns a np 0 ns 0 s := by
  obtain ⟨k, b, p, t, u⟩ := s
  simp only [gbS, paS, slS] 
  grind (splits := 40)
theorem gb_end (np ns na : Nat) (s : Stp) (hf : formB s = true) : gbS np ns na 0 0 0 0 s ↔ gaS na np ns 4 0 0 0 s := by
  obtain ⟨k, b, p, t, u⟩ := s
  simp only [formB, decide_eq_true_eq] at hf
  simp only [gbS, paS, slS, gaS, psS]
  obtain ⟨h0, hf⟩ := hf
  rcases hf with ⟨a1, a2, a3⟩ | hf | hf | hf
  · by_cases c1 : 0 ≤ p <;> by_cases c2 : 0 ≤ t <;> simp [c1, c2] at a2 <;> grind (splits := 40)
  · grind (splits := 40)
  · grind (splits := 40)
  · grind (splits := 40)

theorem blk_put {g : Nat} {t : TypeId} : ∀ (vs : List Value) (o : Nat) (w : World) (cs : Array Value), Blk w g t cs → o + vs.length ≤ cs.size → ∃ cs', Blk (w.setCells g o vs) g t cs' ∧ cs'.size = cs.size ∧ (∀ q, q < o → cs'[q]? = cs[q]?) ∧ (∀ j, j < vs.length → cs'[o + j]? = vs[j]?) ∧ (∀ q, o + vs.length ≤ q → cs'[q]? = cs[q]?)
  | [], o, w, cs, h, _ => ⟨cs, h, rfl, fun _ _ => rfl, fun j hj => by simp at hj, fun _ _ => rfl⟩
  | v :: r, o, w, cs, h, hs => by
    simp only [List.length_cons] at hs
    obtain ⟨cs', h1, h2, h3, h4, h5⟩ := blk_put r (o + 1) (w.setCell ⟨g, o, none⟩ v) _ (h.set_ o v) (by rw [Array.size_setIfInBounds]; omega)
    refine ⟨cs', h1, by rw [h2]; simp, fun q hq => ?_, fun j hj => ?_, fun q hq => ?_⟩
    · rw [h3 q (by omega), Array.getElem?_setIfInBounds, if_neg (by omega)]
    · cases j with
      | zero => rw [Nat.add_zero, h3 o (by omega), Array.getElem?_setIfInBounds, if_pos rfl, if_pos (by omega)]; rfl
      | succ j =>
        have := h4 j (by simpa using hj)
        rw [show o + (j + 1) = o + 1 + j by omega, this]; rfl
    · simp only [List.length_cons] at hq
      rw [h5 q (by omega), Array.getElem?_setIfInBounds, if_neg (by omega)]
theorem own_ins {w : World} {base g c n k : Nat} {l : List Stp} {x : Stp} {cs : Array Value} (hB : Blk w g 39 cs) (hg : base ≤ g) (hn : l.length = n) (hk : k ≤ n) (hc : n + 1 ≤ c) (hm : c ≤ maxLen) (hs : cs.size = c * 5)
    (h1 : ∀ q, q < k * 5 → cs[q]? = (cellsS l)[q]?) (h2 : ∀ j, j < 5 → cs[k*5+j]? = (valS x)[j]?) (h3 : ∀ j, j < (n - k) * 5 → cs[(k+1)*5+j]? = (cellsS (l.drop k))[j]?) :
    w.ownsRow base 39 5 (.slice (some ⟨g, 0, none⟩) (n + 1) c) (n + 1) (cellsS (l.take k ++ x :: l.drop k)) :=
  ⟨by rw [cellsS_length, len_ins hn hk], .inr ⟨g, c, cs, rfl, hg, hB, hc, hm, hs, take_ins hn hk (by rw [Array.length_toList, hs]; omega) (fun q hq => by rw [Array.getElem?_toList]; exact h1 q hq) (fun j hj => by rw [Array.getElem?_toList]; exact h2 j hj) (fun j hj => by rw [Array.getElem?_toList]; exact h3 j hj)⟩⟩
/-- what is not the block of v stays -/
def Keep (v : Value) (w w' : World) : Prop := ∀ q, q < w.heap.size → some q ≠ v.ownBlock → w'.heap[q]? = w.heap[q]?
theorem heap_setCells {b q : Nat} (hq : q ≠ b) : ∀ (vs : List Value) (o : Nat) (w : World), (w.setCells b o vs).heap[q]? = w.heap[q]?
  | [], _, _ => rfl
  | v :: r, o, w => by
    rw [World.setCells, heap_setCells hq r]
    exact Below.heap_setCell w ⟨b, o, none⟩ v q hq
theorem Keep.cell {w w' : World} {g n c o : Nat} {vs : List Value} (h : Keep (.slice (some ⟨g, 0, none⟩) n c) w w') : Keep (.slice (some ⟨g, 0, none⟩) n c) w (w'.setCells g o vs) := fun q hq hv => by
  rw [heap_setCells (fun e => hv (by rw [e]; rfl))]
  exact h q hq hv
/-- one element that lies in a block, behind a row of the call's own -/
theorem wpList_append_blk {P : Program} {ops : Array Oper} {rest : List Oper} {o : Oper} {a : Act} {Q : Exit → Act → World → Prop} (hgd : o.guard = none) (s x : Operand) (t : TypeId)
    (ho : o.op = .call { callee := .builtin .append, args := #[s, x], argTypes := #[t, t] })
    {e : TypeId} {z : Value} {size bytes : Nat} (ht : P.underlying t = some (.slice e)) (hi : (P.info? e).map (fun i => (i.zero, i.size, i.bytes)) = some (some z, size, bytes)) (hzs : z.cells.size = size) (hk : (decide (0 < size) && decide (bytes ≤ 4096)) = true)
    {base g : Nat} {w : World} {cs : Array Value} {v : Value} {n : Nat} {xs : List Value} (hR : w.ownsRow base e size v n xs) (hbw : base ≤ w.heap.size) (hB : Blk w g e cs) (hs : a.eval s = v) (hx : a.eval x = .slice (some ⟨g, 0, none⟩) 1 1) (hcs : cs.size = size) (h1 : ∀ u ∈ cs.toList, u.oneCell' = true)
    (hnm : n + 1 ≤ 4294967296)
    (h : ∀ v' w', w'.ownsRow base e size v' (n + 1) (xs ++ cs.toList) → Below base w w' → Keep v w w' → wpList P ops Q rest (a.put o.dst v') w') : wpList P ops Q (o :: rest) a w := by
  refine wpList_plain hgd fun _ hK => ?_
  obtain ⟨i0, hi0, hz0, hz1, hz2⟩ := info_parts hi
  have hk := hk
  simp only [Bool.and_eq_true, decide_eq_true_eq] at hk
  have hbytes : (n + 1) * bytes ≤ 4294967296 * 4096 := Nat.mul_le_mul hnm hk.2
  refine wp_append_any w s x t ho base e i0 z size bytes ht hi0 hz0 hz1 hz2 hzs hk.1 v n xs hs hR w.heap.size _ 1 1 cs.toList hx (hB.reads rfl (by simp [hcs])) h1 (by unfold maxLen; omega) (by omega) hbw fun v' w' a1 a2 a3 => ?_
  exact hK _ _ (h v' w' a1 ((Below.refl base w).grown a2 hbw (fun k hk => (hR.lt k hk).1)) a2.block)
theorem ins_end {l : List Stp} {n : Nat} (x : Stp) (hn : l.length = n) : l.take n ++ x :: l.drop n = l ++ [x] := by
  rw [List.take_of_length_le (by omega), List.drop_of_length_le (by omega)]
end Go.Proofs.Ytnaiflokmihmeaa
