/- What a hull is: convex, its corners points of the list, all points within. -/
import Derived.Test.YtoejojfjiikogaaGreatDoorHuC
import Derived.Test.YtoejojfjiikogaaGreatDoorPoL
import Derived.Test.YtoejojfjiikogaaGreatDoorPo2

namespace Go.Proofs.YtoejojfjiikogaaGreatDoor
open Go.RowKit
set_option linter.unusedVariables false
set_option linter.unusedSimpArgs false

theorem pt_some {ps : Pts} {i : Nat} {a : P2} (h : ps[i]? = some a) : pt ps i = a := by
  obtain ⟨h1, h2⟩ := List.getElem?_eq_some_iff.1 h
  rw [← h2, pt_get h1]
theorem pt_mem {ps : Pts} {i : Nat} (h : i < ps.length) : pt ps i ∈ ps := by rw [← pt_get h]; exact List.getElem_mem _
theorem nodup_pt {ps : Pts} (hn : ps.Nodup) {i j : Nat} (hi : i < ps.length) (hj : j < ps.length) (hne : i ≠ j) : pt ps i ≠ pt ps j := by
  rw [← pt_get hi, ← pt_get hj]
  intro e
  have hp := List.pairwise_iff_getElem.1 hn
  rcases Nat.lt_or_ge i j with h | h
  · exact hp i j hi hj h e
  · exact hp j i hj hi (by omega) e.symm
theorem mod_ne {i k n : Nat} (hi : i < n) (h2 : 2 ≤ k) (hk : k < n) : (i + k) % n ≠ i ∧ (i + k) % n ≠ (i + 1) % n := by
  have e1 : (i + k) % n = if i + k < n then i + k else i + k - n := by
    split
    · exact Nat.mod_eq_of_lt (by assumption)
    · rw [Nat.mod_eq_sub_mod (by omega), Nat.mod_eq_of_lt (by omega)]
  have e2 : (i + 1) % n = if i + 1 < n then i + 1 else i + 1 - n := by
    split
    · exact Nat.mod_eq_of_lt (by assumption)
    · rw [Nat.mod_eq_sub_mod (by omega), Nat.mod_eq_of_lt (by omega)]
  rw [e1, e2]
  split <;> split <;> omega
theorem hull_sub {l : List P2} (h : l.Pairwise lxl) (h2 : 2 ≤ l.length) : ∀ p ∈ hullL l, p ∈ l := by
  obtain ⟨hl, hu⟩ := hull_chains h h2
  intro p hp
  rcases (pgon_mem hl hu (two_of h h2) p).1 hp with h | h
  · exact hl.sub p h
  · exact Upp.sub hu p h
theorem hull_nodup {l : List P2} (h : l.Pairwise lxl) (h2 : 2 ≤ l.length) : (hullL l).Nodup := by
  obtain ⟨hl, hu⟩ := hull_chains h h2
  exact pgon_nodup hl hu
theorem hull_cvx {l : List P2} (h : l.Pairwise lxl) (h2 : 2 ≤ l.length) : Cvx (hullL l) := by
  obtain ⟨hl, hu⟩ := hull_chains h h2
  have ht := two_of h h2
  have hnd := hull_nodup h h2
  intro i hi k hk2 hk
  obtain ⟨a, b, ga, gb, -, hs⟩ := pgon_edge hl hu ht hi
  have hv : (i + k) % (hullL l).length < (hullL l).length := Nat.mod_lt _ (by omega)
  have hj : (i + 1) % (hullL l).length < (hullL l).length := Nat.mod_lt _ (by omega)
  have hm := mod_ne hi hk2 hk
  have ea : pt (hullL l) i = a := pt_some ga
  have eb : pt (hullL l) ((i + 1) % (hullL l).length) = b := pt_some gb
  have := hs (pt (hullL l) ((i + k) % (hullL l).length)) ((pgon_mem hl hu ht _).1 (pt_mem hv)) (by rw [← ea]; exact nodup_pt hnd hv hi hm.1) (by rw [← eb]; exact nodup_pt hnd hv hj hm.2)
  rw [← ea, ← eb] at this
  exact this
theorem hull_has {l : List P2} (h : l.Pairwise lxl) (h2 : 2 ≤ l.length) {p : P2} (hp : p ∈ l) : hasB (hullL l) p.1 p.2 = true := by
  obtain ⟨hl, hu⟩ := hull_chains h h2
  have ht := two_of h h2
  refine hasB_at.2 fun i hi => ?_
  obtain ⟨a, b, ga, gb, he, -⟩ := pgon_edge hl hu ht hi
  have ea : pt (hullL l) i = a := pt_some ga
  have eb : pt (hullL l) ((i + 1) % (hullL l).length) = b := pt_some gb
  have := he p hp
  rw [← ea, ← eb] at this
  exact decide_eq_true this
theorem nodup_len {l : List P2} : ∀ {m : List P2}, l.Nodup → (∀ x ∈ l, x ∈ m) → l.length ≤ m.length := by
  induction l with
  | nil => intro m _ _; exact Nat.zero_le _
  | cons a l ih =>
    intro m hn hs
    have h1 := List.nodup_cons.1 hn
    have ha : a ∈ m := hs a List.mem_cons_self
    have := ih (m := m.erase a) h1.2 (fun x hx => (List.mem_erase_of_ne (by rintro rfl; exact h1.1 hx)).2 (hs x (List.mem_cons_of_mem _ hx)))
    rw [List.length_erase_of_mem ha] at this
    have hp : 0 < m.length := List.length_pos_of_mem ha
    rw [List.length_cons]; omega
theorem lxl_nodup {l : List P2} (h : l.Pairwise lxl) : l.Nodup := h.imp fun {a b} hab e => by subst e; exact lxl_irrefl a hab
/-- the hull of a hull -/
theorem hull_twice {l l' : List P2} (h : l.Pairwise lxl) (h2 : 2 ≤ l.length) (h' : l'.Pairwise lxl) (hm : ∀ x, x ∈ l' ↔ x ∈ hullL l) : hullL l' = hullL l ∧ l'.length = (hullL l).length :=
  ⟨hull_again h h2 h' hm, Nat.le_antisymm (nodup_len (lxl_nodup h') (fun x hx => (hm x).1 hx)) (nodup_len (hull_nodup h h2) (fun x hx => (hm x).2 hx))⟩
end Go.Proofs.YtoejojfjiikogaaGreatDoor
