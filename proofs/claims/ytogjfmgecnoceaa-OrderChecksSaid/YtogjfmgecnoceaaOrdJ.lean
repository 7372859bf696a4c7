/- Pick as plain data; no program in sight. -/
import Derived.Test.YtogjfmgecnoceaaOrdR
namespace Go.Proofs.Ytogjfmgecnoceaa
open Go.RowKit
set_option linter.unusedVariables false

def rdy (rs : List (List Int)) (done : List Int) (k : Nat) : Bool := !decide ((k : Int) ∈ done) && !((rs[k]?).getD []).any (fun y => !decide (y ∈ done))
def readyL (rs : List (List Int)) (done : List Int) : Nat → List Int
  | 0 => []
  | k + 1 => readyL rs done k ++ (if rdy rs done k = true then [(k : Int)] else [])
theorem readyL_yes {rs : List (List Int)} {done : List Int} {k : Nat} (h : rdy rs done k = true) : readyL rs done (k+1) = readyL rs done k ++ [(k : Int)] := by
  show readyL rs done k ++ (if rdy rs done k = true then [(k : Int)] else []) = _
  rw [if_pos h]
theorem readyL_no {rs : List (List Int)} {done : List Int} {k : Nat} (h : rdy rs done k = false) : readyL rs done (k+1) = readyL rs done k := by
  show readyL rs done k ++ (if rdy rs done k = true then [(k : Int)] else []) = _
  rw [if_neg (by rw [h]; exact Bool.false_ne_true), List.append_nil]
theorem readyL_len (rs : List (List Int)) (done : List Int) (k : Nat) : (readyL rs done k).length ≤ k := by
  induction k with
  | zero => exact Nat.le_refl _
  | succ k ih => unfold readyL; rw [List.length_append]; split <;> simp <;> omega
theorem readyL_mem {rs : List (List Int)} {done : List Int} {n : Nat} {x : Int} : x ∈ readyL rs done n ↔ ∃ k, k < n ∧ x = (k : Int) ∧ rdy rs done k = true := by
  induction n with
  | zero => simp [readyL]
  | succ n ih =>
    unfold readyL
    rw [List.mem_append, ih]
    constructor
    · rintro (⟨k, h1, h2, h3⟩ | h)
      · exact ⟨k, by omega, h2, h3⟩
      · split at h
        · rename_i h1; exact ⟨n, by omega, List.mem_singleton.1 h, h1⟩
        · simp at h
    · rintro ⟨k, h1, h2, h3⟩
      by_cases hk : k < n
      · exact .inl ⟨k, hk, h2, h3⟩
      · obtain rfl : k = n := by omega
        right; rw [if_pos h3]; exact List.mem_singleton.2 h2
def pickI (by_ : List Int) (d m : Nat) : Int := if d < by_.length then (if (nth by_ d).tmod m < 0 then (nth by_ d).tmod m + m else (nth by_ d).tmod m) else 0
def pickS (rs : List (List Int)) (by_ done : List Int) : List Int := done ++ [nth (readyL rs done rs.length) (pickI by_ done.length (readyL rs done rs.length).length)]
def pickN (rs : List (List Int)) (by_ : List Int) : Nat → List Int
  | 0 => []
  | k + 1 => pickS rs by_ (pickN rs by_ k)
theorem pickI_bd {by_ : List Int} {d m : Nat} (hm : 0 < m) : 0 ≤ pickI by_ d m ∧ pickI by_ d m < m := by
  unfold pickI
  have h1 := Int.tmod_lt_of_pos (nth by_ d) (show (0 : Int) < m by omega)
  have h2 : -(m : Int) < (nth by_ d).tmod m := Int.lt_tmod_of_pos _ (by omega)
  split
  · split <;> omega
  · omega
/-- what is so of what has been picked -/
structure Pk (n : Nat) (done : List Int) (k : Nat) : Prop where
  len : done.length = k
  nd : done.Nodup
  bd : ∀ x ∈ done, 0 ≤ x ∧ x < n
theorem nd_len {l m : List Int} (hn : l.Nodup) (hs : ∀ x ∈ l, x ∈ m) : l.length ≤ m.length := by
  induction l generalizing m with
  | nil => simp
  | cons a l ih =>
    obtain ⟨h1, h2⟩ := List.nodup_cons.1 hn
    have ha := hs a List.mem_cons_self
    have h3 := ih (m := m.erase a) h2 (fun x hx => (List.mem_erase_of_ne (fun e => h1 (by rw [← e]; exact hx))).2 (hs x (List.mem_cons_of_mem _ hx)))
    rw [List.length_erase_of_mem ha] at h3
    have := List.length_pos_of_mem ha
    simp
    omega
theorem exists_free {n : Nat} {done : List Int} (hl : done.length < n) : ∃ k : Nat, k < n ∧ (k : Int) ∉ done := by
  refine Classical.byContradiction fun h => ?_
  have hall : ∀ k : Nat, k < n → (k : Int) ∈ done := fun k hk => Classical.byContradiction fun hn => h ⟨k, hk, hn⟩
  have hsub : ((List.range n).map fun k : Nat => (k : Int)) ⊆ done := by
    intro x hx
    obtain ⟨k, hk, rfl⟩ := List.mem_map.1 hx
    exact hall k (by simpa using hk)
  have hnd : ((List.range n).map fun k : Nat => (k : Int)).Nodup := by
    refine List.Pairwise.map _ (fun a b hab => ?_) List.nodup_range
    omega
  have := nd_len hnd (fun x hx => hsub hx)
  simp at this
  omega
theorem ready_pos {rs : List (List Int)} {done : List Int} (hl : Low rs) (hd : done.length < rs.length) : 0 < (readyL rs done rs.length).length := by
  obtain ⟨k, hk⟩ := exists_free hd
  have : ∃ k : Nat, k < rs.length ∧ (k : Int) ∉ done ∧ ∀ j, j < k → (j : Int) ∈ done := by
    induction k using Nat.strongRecOn with
    | _ k ih =>
      by_cases h : ∀ j, j < k → (j : Int) ∈ done
      · exact ⟨k, hk.1, hk.2, h⟩
      · have ⟨j, hj, hjn⟩ : ∃ j, j < k ∧ (j : Int) ∉ done := by
          refine Classical.byContradiction fun hc => h fun j hj => ?_
          exact Classical.byContradiction fun hn => hc ⟨j, hj, hn⟩
        exact ih j hj ⟨by omega, hjn⟩
  obtain ⟨k, h1, h2, h3⟩ := this
  have hr : rdy rs done k = true := by
    unfold rdy
    rw [List.getElem?_eq_getElem h1]
    simp only [Option.getD_some, Bool.and_eq_true, Bool.not_eq_true', decide_eq_false_iff_not, List.any_eq_false]
    refine ⟨h2, fun y hy => ?_⟩
    obtain ⟨a, b⟩ := hl k _ (List.getElem?_eq_getElem h1) y hy
    obtain ⟨y, rfl⟩ := Int.eq_ofNat_of_zero_le a
    simp [h3 y (by omega)]
  have : (k : Int) ∈ readyL rs done rs.length := readyL_mem.2 ⟨k, h1, rfl, hr⟩
  exact List.length_pos_of_mem this
theorem Pk.step {rs : List (List Int)} {by_ done : List Int} {k : Nat} (hl : Low rs) (h : Pk rs.length done k) (hk : k < rs.length) : Pk rs.length (pickS rs by_ done) (k + 1) := by
  have hp := ready_pos hl (done := done) (by rw [h.len]; exact hk)
  obtain ⟨b1, b2⟩ := pickI_bd (by_ := by_) (d := done.length) hp
  have hmem : nth (readyL rs done rs.length) (pickI by_ done.length (readyL rs done rs.length).length) ∈ readyL rs done rs.length := by
    obtain ⟨y, hy⟩ := get_of_lt rfl (show (pickI by_ done.length (readyL rs done rs.length).length).toNat < (readyL rs done rs.length).length by omega)
    unfold nth
    rw [hy]
    exact List.mem_of_getElem? hy
  obtain ⟨j, h1, h2, h3⟩ := readyL_mem.1 hmem
  unfold pickS
  rw [h2]
  have hnot : (j : Int) ∉ done := by
    unfold rdy at h3
    simp only [Bool.and_eq_true, Bool.not_eq_true', decide_eq_false_iff_not] at h3
    exact h3.1
  refine ⟨by simp [h.len], ?_, fun x hx => ?_⟩
  · rw [List.nodup_append]
    exact ⟨h.nd, by simp, fun a ha b hb => by rw [List.mem_singleton.1 hb]; exact fun e => hnot (e ▸ ha)⟩
  · rcases List.mem_append.1 hx with hx | hx
    · exact h.bd x hx
    · rw [List.mem_singleton.1 hx]; omega
theorem Pk.zero (n : Nat) : Pk n [] 0 := ⟨rfl, List.nodup_nil, fun x hx => by simp at hx⟩
theorem pickN_pk {rs : List (List Int)} {by_ : List Int} (hl : Low rs) {k : Nat} (hk : k ≤ rs.length) : Pk rs.length (pickN rs by_ k) k := by
  induction k with
  | zero => exact Pk.zero _
  | succ k ih => exact Pk.step hl (ih (by omega)) (by omega)
end Go.Proofs.Ytogjfmgecnoceaa
