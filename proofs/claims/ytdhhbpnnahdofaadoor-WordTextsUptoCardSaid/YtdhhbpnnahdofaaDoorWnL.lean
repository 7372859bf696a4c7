/- Plain laws of names and numbers: no program in sight. -/
import Derived.Test.YtdhhbpnnahdofaaDoorWnB
import Derived.Lib.SplitLaws
import Derived.Lib.IndexBytes
import Derived.Lib.SlTrimSet

namespace Go.Proofs.YtdhhbpnnahdofaaDoor
open Go.RowKit
set_option linter.unusedVariables false
set_option linter.unusedSimpArgs false

def lettersL : List UInt8 := [97, 98, 99, 100, 101, 102, 103, 104, 105, 106, 107, 108, 109, 110, 111, 112, 113, 114, 115, 116, 117, 118, 119, 120, 121, 122]
def digitsL : List UInt8 := [48, 49, 50, 51, 52, 53, 54, 55, 56, 57]
theorem byte_all {p : UInt8 → Prop} (h : ∀ n : Fin 256, p (UInt8.ofNat n.val)) (x : UInt8) : p x := by
  have := h ⟨x.toNat, x.toNat_lt⟩
  rwa [UInt8.ofNat_toNat] at this
theorem lettersL_has (x : UInt8) : lettersL.contains x = isL x.toNat := byte_all (p := fun x => lettersL.contains x = isL x.toNat) (by decide +kernel) x
theorem digitsL_has (x : UInt8) : digitsL.contains x = isD x.toNat := byte_all (p := fun x => digitsL.contains x = isD x.toNat) (by decide +kernel) x
theorem dropWhile_nil {α : Type} {p : α → Bool} : ∀ {l : List α}, l.dropWhile p = [] ↔ l.all p = true
  | [] => by simp
  | a :: l => by
    rw [List.dropWhile_cons, List.all_cons]
    cases h : p a <;> simp [dropWhile_nil (l := l)]
theorem trimS_nil {l cs : List UInt8} : Lib.trimS l cs = [] ↔ l.all (cs.contains ·) = true := by
  unfold Lib.trimS Lib.trimLeftS
  rw [dropWhile_nil]
  constructor
  · intro h
    by_cases hr : Lib.trimRightS l cs = []
    · unfold Lib.trimRightS at hr
      rw [List.reverse_eq_nil_iff, dropWhile_nil] at hr
      simpa using hr
    · exfalso
      unfold Lib.trimRightS at h hr
      rw [List.reverse_eq_nil_iff] at hr
      rw [List.all_reverse] at h
      have hd := List.head_dropWhile_not (cs.contains ·) hr
      have := List.all_eq_true.1 h _ (List.head_mem hr)
      simp only [hd] at this
      cases this
  · intro h
    unfold Lib.trimRightS
    rw [List.all_eq_true] at h ⊢
    intro x hx
    rw [List.mem_reverse] at hx
    exact h x (List.mem_reverse.1 ((List.dropWhile_sublist _).subset hx))
/-- the document's answer for a text that must be of one class -/
def docB (cs : List UInt8) (m : Nat) (l : List UInt8) : Bool := decide (1 ≤ l.length) && decide (l.length ≤ m) && decide (Lib.trimS l cs = [])
theorem docB_name (l : List UInt8) : docB lettersL 12 l = nameB l := by
  unfold docB nameB shortB
  congr 1
  rw [show (fun b : UInt8 => isL b.toNat) = (fun b => lettersL.contains b) from funext fun b => (lettersL_has b).symm]
  have := trimS_nil (l := l) (cs := lettersL)
  cases h : l.all (fun b => lettersL.contains b)
  · rw [decide_eq_false (fun e => by rw [this.1 e] at h; cases h)]
  · rw [decide_eq_true (this.2 h)]
theorem docB_digs (l : List UInt8) : docB digitsL 9 l = digsB l := by
  unfold docB digsB shortB
  congr 1
  rw [show (fun b : UInt8 => isD b.toNat) = (fun b => digitsL.contains b) from funext fun b => (digitsL_has b).symm]
  have := trimS_nil (l := l) (cs := digitsL)
  cases h : l.all (fun b => digitsL.contains b)
  · rw [decide_eq_false (fun e => by rw [this.1 e] at h; cases h)]
  · rw [decide_eq_true (this.2 h)]
/-- a number: digits, or digits, a slash and digits -/
def numB (l : List UInt8) : Bool := digsB (Lib.cut l [47]).1 && (!(Lib.cut l [47]).2.2 || digsB (Lib.cut l [47]).2.1)
def numR (ps : List (List UInt8)) : Bool := ps.all digsB && decide (ps.length < 3)
theorem digsB_no {l : List UInt8} (h : 47 ∈ l) : digsB l = false := by
  obtain ⟨j, hj⟩ := List.getElem?_of_mem h
  exact shortB_bad hj (by decide)
theorem split_miss {l : List UInt8} (h : Lib.index l [47] = -1) : Lib.split l [47] = [l] := by
  unfold Lib.split
  rw [Lib.count_miss h]; rfl
theorem split_hit {l : List UInt8} {i : Nat} (h : Lib.index l [47] = i) : Lib.split l [47] = l.take i :: Lib.split (l.drop (i + 1)) [47] := by
  unfold Lib.split
  rw [Lib.count_hit (by decide) h, Nat.add_comm 1, Lib.splitK, if_neg (by rw [h]; intro e; have := beq_iff_eq.1 e; omega)]
  rw [h]; rfl
theorem index_way (l : List UInt8) : Lib.index l [47] = -1 ∨ ∃ i : Nat, Lib.index l [47] = i ∧ 47 ∈ l := by
  rcases Lib.index_spec l [47] with ⟨h, _⟩ | ⟨i, h, _, ho, _⟩
  · exact .inl h
  · exact .inr ⟨i, h, List.mem_of_getElem? (Lib.occAt_head rfl ho)⟩
theorem split_two {l : List UInt8} : 1 ≤ (Lib.split l [47]).length := by
  rcases index_way l with h | ⟨i, h, _⟩
  · rw [split_miss h]; simp
  · rw [split_hit h]; simp
theorem num_eq (l : List UInt8) : numR (Lib.split l [47]) = numB l := by
  unfold numR numB Lib.cut
  rcases index_way l with h | ⟨i, h, _⟩
  · rw [split_miss h, if_neg (by omega)]
    simp
  · rw [split_hit h, if_pos (by omega), h]
    simp only [Int.toNat_natCast, List.length_singleton, List.all_cons, List.length_cons, Bool.not_true, Bool.false_or]
    rw [Bool.and_assoc]
    congr 1
    generalize l.drop (i + 1) = r
    rcases index_way r with h | ⟨j, h, hm⟩
    · rw [split_miss h]; simp
    · rw [digsB_no hm, split_hit h]
      have := split_two (l := r.drop (j + 1))
      rw [decide_eq_false (by rw [List.length_cons]; omega), Bool.and_false]
theorem split_pieces {k : Nat} {s : ByteArray} (p : ByteArray) (h : p ∈ Lib.splitB ⟨#[47]⟩ 0 k s) : p.size ≤ s.size := by
  induction k generalizing s with
  | zero => rw [Lib.splitB_zero] at h; rw [List.mem_singleton.1 h]; exact Nat.le_refl _
  | succ k ih =>
    unfold Lib.splitB at h
    split at h
    · rw [List.mem_singleton.1 h]; exact Nat.le_refl _
    · rcases List.mem_cons.1 h with rfl | h
      · rw [ByteArray.size_extract]; omega
      · have := ih h
        rw [ByteArray.size_extract] at this
        omega
end Go.Proofs.YtdhhbpnnahdofaaDoor
