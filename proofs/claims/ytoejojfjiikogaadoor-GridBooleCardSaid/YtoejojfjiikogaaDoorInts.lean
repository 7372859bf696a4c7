/- Slices of integers and of rows that came in, read as plain data. -/
import Derived.Test.YtoejojfjiikogaaDoorBunLib

namespace Go.Proofs.YtoejojfjiikogaaDoor
open Go.RowKit Go.ChangeShapes Go.WideShapes Go.Deep
set_option linter.unusedVariables false

/-- the slice at A holds the integers xs -/
def IntsAt (w : World) (B : Nat) (A : Option Addr) (xs : List Int) : Prop :=
  ∀ k x, xs[k]? = some x → ∃ b off, A = some ⟨b, off, none⟩ ∧ b < B ∧ w.cell? ⟨b, off + k, none⟩ = some (.int .i64 x)
section
variable {w w' : World} {B B' : Nat} {A : Option Addr} {xs : List Int}
theorem IntsAt.below (h : IntsAt w B A xs) (hb : Below B' w w') (hB : B ≤ B') : IntsAt w' B A xs := by
  intro k x hx
  obtain ⟨b, off, hA, hlt, h0⟩ := h k x hx
  exact ⟨b, off, hA, hlt, (hb.cell (p := ⟨b, _, none⟩) (Nat.lt_of_lt_of_le hlt hB)).trans h0⟩
theorem IntsAt.more (h : IntsAt w B A xs) (hB : B ≤ B') : IntsAt w B' A xs := by
  intro k x hx
  obtain ⟨b, off, hA, hlt, h0⟩ := h k x hx
  exact ⟨b, off, hA, Nat.lt_of_lt_of_le hlt hB, h0⟩
theorem IntsAt.nil : IntsAt w B A [] := fun k x h => by simp at h
theorem IntsAt.next (h : IntsAt w w.heap.size A xs) (hb : Below w.heap.size w w') : IntsAt w' w'.heap.size A xs := (h.below hb (Nat.le_refl _)).more hb.size
def cellsI (xs : List Int) : List Value := xs.map fun x => .int .i64 x
theorem IntsAt.reads (h : IntsAt w B A xs) : Reads w B 1 A xs.length (cellsI xs) := by
  refine ⟨by simp [cellsI], fun hn => ?_⟩
  obtain ⟨u0, hu0⟩ := get_of_lt rfl hn
  obtain ⟨b, off, hA, hb, _⟩ := h 0 u0 hu0
  refine ⟨_, hA, hb, fun j v hv => ?_⟩
  simp only [cellsI, List.getElem?_map] at hv
  cases hx : xs[j]? with
  | none => simp [hx] at hv
  | some x =>
    rw [hx] at hv
    obtain ⟨b', off', hA', _, c0⟩ := h _ x hx
    rw [hA] at hA'; cases hA'
    rw [Addr.add_lit, c0]; simpa using hv
theorem IntsAt.of_reads (h : Reads w B 1 A xs.length (cellsI xs)) (hs : ∀ ad, A = some ad → ad.spot = none) : IntsAt w B A xs := by
  intro k x hx
  have hk : k < xs.length := by
    rcases Nat.lt_or_ge k xs.length with h' | h'
    · exact h'
    · rw [List.getElem?_eq_none h'] at hx; cases hx
  obtain ⟨ad, u, hA, hb, hu, hc⟩ := h.at_ hk
  obtain ⟨b, off, spot⟩ := ad
  have := hs _ hA
  dsimp only at this
  subst this
  refine ⟨b, off, hA, hb, ?_⟩
  rw [Addr.add_lit] at hc
  rw [hc, ← hu]
  simp [cellsI, hx]
theorem IntsAt.of_own {base : Nat} {e : TypeId} {v : Value} (h : w.ownsRow base e 1 v xs.length (cellsI xs)) :
    ∃ A c, v = .slice A xs.length c ∧ xs.length ≤ c ∧ c ≤ maxLen ∧ IntsAt w w.heap.size A xs := by
  obtain ⟨h1, h2⟩ := h
  rcases h2 with ⟨rfl, hx⟩ | ⟨g, cap, cur, rfl, hg, hh, hnc, hm, hs, hc⟩
  · have : xs = [] := by simpa [cellsI] using hx
    subst this
    exact ⟨none, 0, rfl, Nat.le_refl _, by unfold maxLen; omega, IntsAt.nil⟩
  · refine ⟨some ⟨g, 0, none⟩, cap, rfl, by assumption, by assumption, ?_⟩
    exact IntsAt.of_reads (Reads.of_own (c := cap) ⟨h1, .inr ⟨g, cap, cur, rfl, hg, hh, hnc, hm, hs, hc⟩⟩) (fun ad h => by cases h; rfl)
end

/-- a slice value that reads as a list of integers -/
def IntsV (w : World) (v : Value) (xs : List Int) : Prop := ∃ A c, v = .slice A xs.length c ∧ xs.length ≤ c ∧ c ≤ maxLen ∧ IntsAt w w.heap.size A xs
theorem IntsV.of_own {w : World} {base : Nat} {e : TypeId} {v : Value} {xs : List Int} {n : Nat} (h : w.ownsRow base e 1 v n (cellsI xs)) : IntsV w v xs := by
  have : n = xs.length := by have := h.1; simp [cellsI] at this; omega
  subst this
  exact IntsAt.of_own h
theorem IntsV.next {w w' : World} {v : Value} {xs : List Int} (h : IntsV w v xs) (hb : Below w.heap.size w w') : IntsV w' v xs := by
  obtain ⟨A, c, h1, h2, h3, h4⟩ := h
  exact ⟨A, c, h1, h2, h3, h4.next hb⟩
theorem IntsV.nil (w : World) : IntsV w (.slice none 0 0) [] := ⟨none, 0, rfl, Nat.le_refl _, by unfold maxLen; omega, IntsAt.nil⟩

end Go.Proofs.YtoejojfjiikogaaDoor
