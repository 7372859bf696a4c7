/- Walks of package rat: the frame of a function of two numbers. -/
import Derived.Test.YtlfddhiimcophaaDoorRatB
import Derived.Deep.RegionWith
namespace Go.Proofs.YtlfddhiimcophaaDoor
open Go.RowKit
set_option linter.unusedVariables false
set_option linter.unusedSimpArgs false

/-- the parts of a number's value -/
structure RIs (q : Rat) (s : Bool) (a d : ByteArray) : Prop where
  s : s = decide (q.num < 0)
  a : a = S q.num.natAbs
  d : d = S q.den
theorem RIs.val {q : Rat} {s : Bool} {a d : ByteArray} (h : RIs q s a d) : R q = .agg #[.bool s, .string a, .string d] := by rw [h.s, h.a, h.d]; rfl
theorem R_parts (q : Rat) : ∃ s a d, RIs q s a d := ⟨_, _, _, rfl, rfl, rfl⟩
theorem fit_O (k : Nat) (q : Rat) (s : Bool) (a d : ByteArray) (w : World) (h : RIs q s a d) (hq : Rz k q) (hk : k ≤ 35184372088832) (hT : Tab w) :
    Calls Tryd.prog 56 #[.agg #[.bool s, .string a, .string d]] w fun e w' => e = .returned (.agg #[.bool s, .string a, .string d]) ∧ Below w.heap.size w w' := by
  rw [← h.val]; exact fit_R k q w hq hk hT

/-- two numbers in the blocks that a function of two numbers makes at first -/
structure Q2 (w : World) (s1 : Bool) (a1 d1 : ByteArray) (s2 : Bool) (a2 d2 : ByteArray) (w' : World) : Prop where
  b0 : Blk w' w.heap.size 35 #[.bool s1, .string a1, .string d1]
  b1 : Blk w' (w.heap.size + 1) 35 #[.bool s2, .string a2, .string d2]
  below : Below w.heap.size w w'
/-- the result's block, not written yet -/
def QZ (w w' : World) : Prop := Blk w' (w.heap.size + 2) 35 #[.bool false, .string ⟨#[]⟩, .string ⟨#[]⟩]
section
variable {w w' w3 : World} {s1 s2 : Bool} {a1 d1 a2 d2 : ByteArray}
theorem Q2.drew (h : Hid (Q2 w s1 a1 d1 s2 a2 d2 w')) : Hid (Q2 w s1 a1 d1 s2 a2 d2 w'.drew) := ⟨h.out.b0.drew, h.out.b1.drew, h.out.below.drew⟩
theorem QZ.drew (h : Hid (QZ w w')) : Hid (QZ w w'.drew) := Blk.drew h.out
theorem Q2.next (h : Hid (Q2 w s1 a1 d1 s2 a2 d2 w')) (hb : Below w'.heap.size w' w3) : Hid (Q2 w s1 a1 d1 s2 a2 d2 w3) := ⟨h.out.b0.belowB hb, h.out.b1.belowB hb, below_next h.out.below hb⟩
theorem QZ.next (h : Hid (QZ w w')) (hb : Below w'.heap.size w' w3) : Hid (QZ w w3) := Blk.belowB h.out hb
theorem Q2.put0 (h : Hid (Q2 w s1 a1 d1 s2 a2 d2 w')) : Hid (Q2 w s1 a1 d1 s2 a2 d2 (((w'.setCell ⟨w.heap.size, 0, none⟩ (.bool s1)).setCell ⟨w.heap.size, 1, none⟩ (.string a1)).setCell ⟨w.heap.size, 2, none⟩ (.string d1))) :=
  ⟨put3 h.out.b0 _ _ _, ((h.out.b1.far (by simp) _).far (by simp) _).far (by simp) _, put3_below h.out.below (Nat.le_refl _) _ _ _⟩
theorem Q2.put1 (h : Hid (Q2 w s1 a1 d1 s2 a2 d2 w')) : Hid (Q2 w s1 a1 d1 s2 a2 d2 (((w'.setCell ⟨w.heap.size + 1, 0, none⟩ (.bool s2)).setCell ⟨w.heap.size + 1, 1, none⟩ (.string a2)).setCell ⟨w.heap.size + 1, 2, none⟩ (.string d2))) :=
  ⟨((h.out.b0.far (by simp) _).far (by simp) _).far (by simp) _, put3 h.out.b1 _ _ _, put3_below h.out.below (Nat.le_succ _) _ _ _⟩
theorem QZ.put0 {a b c : Value} (h : Hid (QZ w w')) : Hid (QZ w (((w'.setCell ⟨w.heap.size, 0, none⟩ a).setCell ⟨w.heap.size, 1, none⟩ b).setCell ⟨w.heap.size, 2, none⟩ c)) := Blk.far (Blk.far (Blk.far h.out (by simp) _) (by simp) _) (by simp) _
theorem QZ.put1 {a b c : Value} (h : Hid (QZ w w')) : Hid (QZ w (((w'.setCell ⟨w.heap.size + 1, 0, none⟩ a).setCell ⟨w.heap.size + 1, 1, none⟩ b).setCell ⟨w.heap.size + 1, 2, none⟩ c)) := Blk.far (Blk.far (Blk.far h.out (by simp) _) (by simp) _) (by simp) _
theorem Q2.all (h : Hid (Q2 w s1 a1 d1 s2 a2 d2 w')) : w'.cell? ⟨w.heap.size, 0, none⟩ = some (.bool s1) ∧ w'.cell? ⟨w.heap.size, 1, none⟩ = some (.string a1) ∧ w'.cell? ⟨w.heap.size, 2, none⟩ = some (.string d1) ∧ w'.cell? ⟨w.heap.size + 1, 0, none⟩ = some (.bool s2) ∧ w'.cell? ⟨w.heap.size + 1, 1, none⟩ = some (.string a2) ∧ w'.cell? ⟨w.heap.size + 1, 2, none⟩ = some (.string d2) ∧ w'.frozen? ⟨w.heap.size, 0, none⟩ = false ∧ w'.frozen? ⟨w.heap.size, 1, none⟩ = false ∧ w'.frozen? ⟨w.heap.size, 2, none⟩ = false ∧ w'.frozen? ⟨w.heap.size + 1, 0, none⟩ = false ∧ w'.frozen? ⟨w.heap.size + 1, 1, none⟩ = false ∧ w'.frozen? ⟨w.heap.size + 1, 2, none⟩ = false :=
  ⟨h.out.b0.cell 0, h.out.b0.cell 1, h.out.b0.cell 2, h.out.b1.cell 0, h.out.b1.cell 1, h.out.b1.cell 2, h.out.b0.frozen 0, h.out.b0.frozen 1, h.out.b0.frozen 2, h.out.b1.frozen 0, h.out.b1.frozen 1, h.out.b1.frozen 2⟩
theorem Q2.six (h : Hid (Q2 w s1 a1 d1 s2 a2 d2 w')) : w'.cell? ⟨w.heap.size, 0, none⟩ = some (.bool s1) ∧ w'.cell? ⟨w.heap.size, 1, none⟩ = some (.string a1) ∧ w'.cell? ⟨w.heap.size, 2, none⟩ = some (.string d1) ∧ w'.cell? ⟨w.heap.size + 1, 0, none⟩ = some (.bool s2) ∧ w'.cell? ⟨w.heap.size + 1, 1, none⟩ = some (.string a2) ∧ w'.cell? ⟨w.heap.size + 1, 2, none⟩ = some (.string d2) := ⟨h.out.b0.cell 0, h.out.b0.cell 1, h.out.b0.cell 2, h.out.b1.cell 0, h.out.b1.cell 1, h.out.b1.cell 2⟩
theorem Q2.put2 {a b c : Value} (h : Hid (Q2 w s1 a1 d1 s2 a2 d2 w')) : Hid (Q2 w s1 a1 d1 s2 a2 d2 (((w'.setCell ⟨w.heap.size + 1 + 1, 0, none⟩ a).setCell ⟨w.heap.size + 1 + 1, 1, none⟩ b).setCell ⟨w.heap.size + 1 + 1, 2, none⟩ c)) :=
  ⟨((h.out.b0.far (by simp; omega) _).far (by simp; omega) _).far (by simp; omega) _, ((h.out.b1.far (by simp) _).far (by simp) _).far (by simp) _, put3_below h.out.below (by omega) _ _ _⟩
theorem QZ.cells (h : Hid (QZ w w')) : w'.cell? ⟨w.heap.size + 2, 0, none⟩ = some (.bool false) ∧ w'.cell? ⟨w.heap.size + 2, 1, none⟩ = some (.string ⟨#[]⟩) ∧ w'.cell? ⟨w.heap.size + 2, 2, none⟩ = some (.string ⟨#[]⟩) ∧ w'.frozen? ⟨w.heap.size + 2, 0, none⟩ = false ∧ w'.frozen? ⟨w.heap.size + 2, 1, none⟩ = false ∧ w'.frozen? ⟨w.heap.size + 2, 2, none⟩ = false := Blk.three h.out
end
theorem q2_start (w : World) (s1 : Bool) (a1 d1 : ByteArray) (s2 : Bool) (a2 d2 : ByteArray) : Hid (Q2 w s1 a1 d1 s2 a2 d2 (((w.alloc (.cells #[.bool s1, .string a1, .string d1] 35)).alloc (.cells #[.bool s2, .string a2, .string d2] 35)).alloc (.cells #[.bool false, .string ⟨#[]⟩, .string ⟨#[]⟩] 35))) ∧ Hid (QZ w (((w.alloc (.cells #[.bool s1, .string a1, .string d1] 35)).alloc (.cells #[.bool s2, .string a2, .string d2] 35)).alloc (.cells #[.bool false, .string ⟨#[]⟩, .string ⟨#[]⟩] 35))) :=
  ⟨⟨((Blk.new w _ _).alloc _).alloc _, (Blk.at_ (by simp)).alloc _, (((Below.refl _ _).alloc (Nat.le_refl _) _).alloc (by simp) _).alloc (by simp; omega) _⟩, Blk.at_ (by simp)⟩
end Go.Proofs.YtlfddhiimcophaaDoor
