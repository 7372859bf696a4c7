/- Plain: the least and the greatest cosine and sine of a span of joint values, as the document reckons them. (Tried alone, with the laws of span/XThL as given; not built within a seat yet.) -/
import Derived.Test.YtdhhbpnnahdofaaDoorThL

namespace Go.Proofs.YtdhhbpnnahdofaaDoor
set_option linter.unusedVariables false

theorem minQ_eq (x y : Rat) : minQ x y = if x ≤ y then x else y := by unfold minQ cmpQ; grind
theorem maxQ_eq (x y : Rat) : maxQ x y = if y ≤ x then x else y := by unfold maxQ cmpQ; grind
def inI (l h x : Rat) : Bool := decide (l ≤ x ∧ x ≤ h)
/-- the least value at the ends and at three places, where these are within -/
def mn5 (b0 b1 b2 : Bool) (a b c d e : Rat) : Rat :=
  let r1 := minQ a b
  let r2 := if b0 then minQ r1 c else r1
  let r3 := if b1 then minQ r2 d else r2
  if b2 then minQ r3 e else r3
def mx5 (b0 b1 b2 : Bool) (a b c d e : Rat) : Rat :=
  let r1 := maxQ a b
  let r2 := if b0 then maxQ r1 c else r1
  let r3 := if b1 then maxQ r2 d else r2
  if b2 then maxQ r3 e else r3
theorem mn5_eq {b0 b1 b2 : Bool} {m a b c d e : Rat} (ha : m ≤ a) (hb : m ≤ b) (hc : b0 = true → m ≤ c) (hd : b1 = true → m ≤ d) (he : b2 = true → m ≤ e)
    (hat : m = a ∨ m = b ∨ (b0 = true ∧ m = c) ∨ (b1 = true ∧ m = d) ∨ (b2 = true ∧ m = e)) : mn5 b0 b1 b2 a b c d e = m := by
  unfold mn5
  simp only [minQ_eq]
  cases b0 <;> cases b1 <;> cases b2 <;> simp at * <;> grind
theorem mx5_eq {b0 b1 b2 : Bool} {m a b c d e : Rat} (ha : a ≤ m) (hb : b ≤ m) (hc : b0 = true → c ≤ m) (hd : b1 = true → d ≤ m) (he : b2 = true → e ≤ m)
    (hat : m = a ∨ m = b ∨ (b0 = true ∧ m = c) ∨ (b1 = true ∧ m = d) ∨ (b2 = true ∧ m = e)) : mx5 b0 b1 b2 a b c d e = m := by
  unfold mx5
  simp only [maxQ_eq]
  cases b0 <;> cases b1 <;> cases b2 <;> simp at * <;> grind
theorem min_negQ (a b : Rat) : minQ (-a) (-b) = -(maxQ a b) := by rw [minQ_eq, maxQ_eq]; grind
theorem max_negQ (a b : Rat) : maxQ (-a) (-b) = -(minQ a b) := by rw [minQ_eq, maxQ_eq]; grind
theorem min4 (a b : Rat) : minQ (minQ (minQ a a) b) b = minQ a b := by simp only [minQ_eq]; grind
theorem max4 (a b : Rat) : maxQ (maxQ (maxQ a a) b) b = maxQ a b := by simp only [maxQ_eq]; grind
theorem cos_at {l h : Rat} : fC (maxQ (l * l) (h * h)) = cosT false l ∨ fC (maxQ (l * l) (h * h)) = cosT false h := by
  rw [← fC_cos, ← fC_cos, maxQ_eq]
  split
  · exact .inl rfl
  · exact .inr rfl
theorem refC_min {l h : Rat} (hl : l ≤ h) : mn5 (inI l h 0) (inI l h (-1)) (inI l h 1) (cosT false l) (cosT false h) (cosT false 0) (cosT false (-1)) (cosT false 1) = fC (maxQ (l * l) (h * h)) := by
  have key : ∀ p, inI l h p = true → fC (maxQ (l * l) (h * h)) ≤ cosT false p := fun p hp => by
    have := of_decide_eq_true hp
    exact (cos_in this.1 this.2).1
  refine mn5_eq (cos_in Rat.le_refl hl).1 (cos_in hl Rat.le_refl).1 (key 0) (key (-1)) (key 1) ?_
  rcases cos_at (l := l) (h := h) with e | e
  · exact .inl e
  · exact .inr (.inl e)
theorem refC_max {l h : Rat} (hl : l ≤ h) : mx5 (inI l h 0) (inI l h (-1)) (inI l h 1) (cosT false l) (cosT false h) (cosT false 0) (cosT false (-1)) (cosT false 1) = fC (sqLo l h) := by
  have key : ∀ p, inI l h p = true → cosT false p ≤ fC (sqLo l h) := fun p hp => by
    have := of_decide_eq_true hp
    exact (cos_in this.1 this.2).2
  refine mx5_eq (cos_in Rat.le_refl hl).2 (cos_in hl Rat.le_refl).2 (key 0) (key (-1)) (key 1) ?_
  unfold sqLo
  split
  · rename_i h0
    refine .inr (.inr (.inl ⟨decide_eq_true h0, ?_⟩))
    rw [← fC_cos, show (0 : Rat) * 0 = 0 by decide +kernel]
  · rw [minQ_eq, ← fC_cos, ← fC_cos]
    split
    · exact .inl rfl
    · exact .inr (.inl rfl)
theorem refS_min {l h : Rat} (hl : l ≤ h) : mn5 (inI l h 0) (inI l h (-1)) (inI l h 1) (sinT l) (sinT h) (sinT 0) (sinT (-1)) (sinT 1) = sLo l h := by
  have key : ∀ p, inI l h p = true → sLo l h ≤ sinT p := fun p hp => by
    have := of_decide_eq_true hp
    exact (sin_in this.1 this.2).1
  refine mn5_eq (sin_in Rat.le_refl hl).1 (sin_in hl Rat.le_refl).1 (key 0) (key (-1)) (key 1) ?_
  unfold sLo
  split
  · rename_i h0
    exact .inr (.inr (.inr (.inl ⟨decide_eq_true h0, sin_neg1.symm⟩)))
  · rw [minQ_eq]
    split
    · exact .inl rfl
    · exact .inr (.inl rfl)
theorem refS_max {l h : Rat} (hl : l ≤ h) : mx5 (inI l h 0) (inI l h (-1)) (inI l h 1) (sinT l) (sinT h) (sinT 0) (sinT (-1)) (sinT 1) = sHi l h := by
  have key : ∀ p, inI l h p = true → sinT p ≤ sHi l h := fun p hp => by
    have := of_decide_eq_true hp
    exact (sin_in this.1 this.2).2
  refine mx5_eq (sin_in Rat.le_refl hl).2 (sin_in hl Rat.le_refl).2 (key 0) (key (-1)) (key 1) ?_
  unfold sHi
  split
  · rename_i h0
    exact .inr (.inr (.inr (.inr ⟨decide_eq_true h0, sin_pos1.symm⟩)))
  · rw [maxQ_eq]
    split
    · exact .inl rfl
    · exact .inr (.inl rfl)
end Go.Proofs.YtdhhbpnnahdofaaDoor
