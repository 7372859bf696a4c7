/- Uses in memory as rows of cells. -/
import Derived.Test.YtogjfmgecnoceaaToolsQ
import Derived.Test.YtogjfmgecnoceaaMem
namespace Go.Proofs.Ytogjfmgecnoceaa
open Go.RowKit
set_option linter.unusedVariables false
set_option linter.unusedSimpArgs false

def cellsU (us : List U) : List Value := us.flatMap fun u => [.int .i64 u.t, .int .i64 u.f, .int .i64 u.l]
theorem cellsU_nil : cellsU [] = [] := rfl
theorem cellsU_append (a b : List U) : cellsU (a ++ b) = cellsU a ++ cellsU b := by simp [cellsU]
theorem cellsU_one (u : U) : cellsU [u] = [.int .i64 u.t, .int .i64 u.f, .int .i64 u.l] := by simp [cellsU]
theorem cellsU_length (us : List U) : (cellsU us).length = us.length * 3 := by
  induction us with
  | nil => rfl
  | cons a l ih => rw [show cellsU (a :: l) = cellsU [a] ++ cellsU l from rfl, List.length_append, ih, cellsU_one]; simp; omega
theorem cellsU_oneCell (us : List U) : ∀ x ∈ cellsU us, x.oneCell' = true := by
  intro x hx
  simp only [cellsU, List.mem_flatMap] at hx
  obtain ⟨u, _, hx⟩ := hx
  simp at hx
  rcases hx with rfl | rfl | rfl <;> rfl
theorem cellsU_get {us : List U} {k : Nat} {u : U} (h : us[k]? = some u) : (cellsU us)[k*3]? = some (.int .i64 u.t) ∧ (cellsU us)[k*3+1]? = some (.int .i64 u.f) ∧ (cellsU us)[k*3+2]? = some (.int .i64 u.l) := by
  induction us generalizing k with
  | nil => simp at h
  | cons a l ih =>
    cases k with
    | zero =>
      simp at h; subst h
      exact ⟨rfl, rfl, rfl⟩
    | succ k =>
      simp at h
      obtain ⟨h0, h1, h2⟩ := ih h
      rw [show cellsU (a :: l) = [.int .i64 a.t, .int .i64 a.f, .int .i64 a.l] ++ cellsU l from rfl]
      refine ⟨?_, ?_, ?_⟩
      · rw [List.getElem?_append_right (by simp; omega)]; simp; rw [show (k + 1) * 3 - 3 = k * 3 by omega]; exact h0
      · rw [List.getElem?_append_right (by simp; omega)]; simp; rw [show (k + 1) * 3 - 2 = k * 3 + 1 by omega]; exact h1
      · rw [List.getElem?_append_right (by simp; omega)]; simp; rw [show (k + 1) * 3 - 1 = k * 3 + 2 by omega]; exact h2
theorem cellsU_inv {us : List U} {j : Nat} {v : Value} (h : (cellsU us)[j]? = some v) : ∃ u, us[j/3]? = some u ∧ v = (if j % 3 = 0 then .int .i64 u.t else if j % 3 = 1 then .int .i64 u.f else .int .i64 u.l) := by
  have hl : j < (cellsU us).length := by
    rcases Nat.lt_or_ge j (cellsU us).length with h' | h'
    · exact h'
    · rw [List.getElem?_eq_none h'] at h; cases h
  rw [cellsU_length] at hl
  obtain ⟨u, hu⟩ := get_of_lt rfl (show j / 3 < us.length by omega)
  obtain ⟨h0, h1, h2⟩ := cellsU_get hu
  refine ⟨u, hu, ?_⟩
  have hj : j = j / 3 * 3 + j % 3 := by omega
  have h3 : j % 3 = 0 ∨ j % 3 = 1 ∨ j % 3 = 2 := by omega
  rcases h3 with e | e | e
  · rw [hj, e, Nat.add_zero, h0] at h; cases h; simp [e]
  · rw [hj, e, h1] at h; cases h; simp [e]
  · rw [hj, e, h2] at h; cases h; simp [e]

theorem UsesAt.reads {w : World} {B : Nat} {A : Option Addr} {us : List U} (h : UsesAt w B A us) : Reads w B 3 A us.length (cellsU us) := by
  refine ⟨cellsU_length us, fun hn => ?_⟩
  obtain ⟨u0, hu0⟩ := get_of_lt rfl hn
  obtain ⟨b, off, hA, hb, _⟩ := h 0 u0 hu0
  refine ⟨_, hA, hb, fun j v hv => ?_⟩
  obtain ⟨u, hu, rfl⟩ := cellsU_inv hv
  obtain ⟨b', off', hA', _, c0, c1, c2⟩ := h _ u hu
  rw [hA] at hA'; cases hA'
  rw [Addr.add_lit]
  have hj : j = j / 3 * 3 + j % 3 := by omega
  have h3 : j % 3 = 0 ∨ j % 3 = 1 ∨ j % 3 = 2 := by omega
  rcases h3 with e | e | e
  · rw [show off + j = off + j / 3 * 3 by omega, c0]; simp [e]
  · rw [show off + j = off + j / 3 * 3 + 1 by omega, c1]; simp [e]
  · rw [show off + j = off + j / 3 * 3 + 2 by omega, c2]; simp [e]
theorem UsesAt.of_own {w : World} {base : Nat} {e : TypeId} {v : Value} {us : List U} (h : w.ownsRow base e 3 v us.length (cellsU us)) :
    ∃ A c, v = .slice A us.length c ∧ us.length ≤ c ∧ c ≤ maxLen ∧ UsesAt w w.heap.size A us := by
  obtain ⟨h1, h2⟩ := h
  rcases h2 with ⟨rfl, hx⟩ | ⟨g, cap, cur, rfl, hg, hh, hnc, hm, hs, hc⟩
  · have : us = [] := by
      have := cellsU_length us; rw [hx] at this; simp at this
      exact List.eq_nil_of_length_eq_zero (by omega)
    subst this
    exact ⟨none, 0, rfl, Nat.le_refl _, by unfold maxLen; omega, fun k u hu => by simp at hu⟩
  · refine ⟨some ⟨g, 0, none⟩, cap, rfl, by assumption, by assumption, fun k u hu => ?_⟩
    obtain ⟨c0, c1, c2⟩ := cellsU_get hu
    have hglt : g < w.heap.size := by
      rcases Nat.lt_or_ge g w.heap.size with h' | h'
      · exact h'
      · rw [Array.getElem?_eq_none h'] at hh; cases hh
    have H := World.ownsRow.cells (w := w) (base := base) (e := e) (size := 3) (v := .slice (some ⟨g, 0, none⟩) us.length cap) (n := us.length) (xs := cellsU us) ⟨h1, .inr ⟨g, cap, cur, rfl, hg, hh, hnc, hm, hs, hc⟩⟩ (g := g) rfl
    refine ⟨g, 0, rfl, hglt, ?_, ?_, ?_⟩
    · have := H _ _ c0; rwa [Addr.add_lit] at this
    · have := H _ _ c1; rwa [Addr.add_lit] at this
    · have := H _ _ c2; rwa [Addr.add_lit] at this
end Go.Proofs.Ytogjfmgecnoceaa
