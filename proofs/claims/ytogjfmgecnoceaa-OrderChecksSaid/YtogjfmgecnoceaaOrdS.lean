/- Right and RightOf as plain data; no program in sight. -/
import Derived.Test.YtogjfmgecnoceaaOrdN
import Derived.Test.YtogjfmgecnoceaaMapM
namespace Go.Proofs.Ytogjfmgecnoceaa
open Go.RowKit
set_option linter.unusedVariables false

theorem mem_tk {p : List Int} {i : Nat} {x : Int} : x ∈ p.take i ↔ ∃ j : Nat, j < i ∧ p[j]? = some x := by
  rw [List.mem_iff_getElem?]
  constructor
  · rintro ⟨j, hj⟩
    rw [List.getElem?_take] at hj
    split at hj
    · rename_i h; exact ⟨j, h, hj⟩
    · cases hj
  · rintro ⟨j, h1, h2⟩
    exact ⟨j, by rw [List.getElem?_take, if_pos h1]; exact h2⟩
theorem nd_perm {l m : List Int} (hn : l.Nodup) (hs : ∀ x ∈ l, x ∈ m) (hle : m.length ≤ l.length) : l.Perm m := by
  induction l generalizing m with
  | nil => have : m = [] := by simpa using hle
           subst this; exact List.Perm.nil
  | cons a l ih =>
    obtain ⟨h1, h2⟩ := List.nodup_cons.1 hn
    have ha := hs a List.mem_cons_self
    have h3 := ih (m := m.erase a) h2 (fun x hx => (List.mem_erase_of_ne (fun e => h1 (by rw [← e]; exact hx))).2 (hs x (List.mem_cons_of_mem _ hx))) (by
      rw [List.length_erase_of_mem ha]; simp at hle; omega)
    exact (h3.cons a).trans (List.perm_cons_erase ha).symm
def rangeI (n : Nat) : List Int := (List.range n).map fun k : Nat => (k : Int)
theorem rangeI_nd (n : Nat) : (rangeI n).Nodup := by
  refine List.Pairwise.map _ (fun a b hab => ?_) List.nodup_range
  omega
theorem rangeI_mem {n : Nat} {x : Int} : x ∈ rangeI n ↔ 0 ≤ x ∧ x < n := by
  unfold rangeI
  rw [List.mem_map]
  constructor
  · rintro ⟨k, hk, rfl⟩
    have := List.mem_range.1 hk
    omega
  · rintro ⟨h1, h2⟩
    exact ⟨x.toNat, List.mem_range.2 (by omega), by omega⟩
theorem rangeI_len (n : Nat) : (rangeI n).length = n := by simp [rangeI]
theorem rangeI_get {n i : Nat} (h : i < n) : (rangeI n)[i]? = some (i : Int) := by simp [rangeI, h]
theorem nd_inj {p : List Int} (hn : p.Nodup) {i j : Nat} {k : Int} (hi : p[i]? = some k) (hj : p[j]? = some k) : i = j :=
  (List.getElem?_inj (List.getElem?_eq_some_iff.1 hi).1 hn).1 (hi.trans hj.symm)
theorem nd_take {p : List Int} (h : ∀ (i : Nat) k, p[i]? = some k → k ∉ p.take i) : p.Nodup := by
  refine List.pairwise_iff_getElem.2 fun i j hi hj hij e => ?_
  exact h j p[j] (List.getElem?_eq_getElem hj) (mem_tk.2 ⟨i, hij, by rw [List.getElem?_eq_getElem hi, e]⟩)
/-! ### Right -/
def StepOk (rs : List (List Int)) (p : List Int) (i : Nat) (k : Int) : Prop := 0 ≤ k ∧ k < rs.length ∧ k ∉ p.take i ∧ ∀ x ∈ rowK rs k.toNat, x ∈ p.take i
def RightP (rs : List (List Int)) (p : List Int) : Prop := bErr rs = 0 ∧ p.length = rs.length ∧ ∀ (i : Nat) k, p[i]? = some k → StepOk rs p i k
open Classical in
noncomputable def rightB (rs : List (List Int)) (p : List Int) : Bool := decide (RightP rs p)
theorem rightB_yes {rs : List (List Int)} {p : List Int} (h : RightP rs p) : rightB rs p = true := by simp [rightB, h]
theorem rightB_no {rs : List (List Int)} {p : List Int} (h : ¬ RightP rs p) : rightB rs p = false := by simp [rightB, h]
/-! ### where each stands -/
def lat (p : List Int) : Nat → List (Int × Int)
  | 0 => []
  | i + 1 => aput (lat p i) (nth p i) (i : Int)
theorem lat_succ {p : List Int} {i : Nat} {x : Int} (h : p[i]? = some x) : lat p (i+1) = aput (lat p i) x (i : Int) := by
  show aput (lat p i) (nth p i) _ = _
  rw [nth_get h]
theorem lat_some {p : List Int} {i : Nat} (hi : i ≤ p.length) {y v : Int} (h : aget (lat p i) y = some v) : ∃ j : Nat, v = (j : Int) ∧ j < i ∧ p[j]? = some y := by
  induction i with
  | zero => simp [lat, aget] at h
  | succ i ih =>
    obtain ⟨x, hx⟩ := get_of_lt rfl (show i < p.length by omega)
    rw [lat_succ hx, aget_aput] at h
    split at h
    · rename_i e
      exact ⟨i, (Option.some.inj h).symm, by omega, by rw [hx, e]⟩
    · obtain ⟨j, h1, h2, h3⟩ := ih (by omega) h
      exact ⟨j, h1, by omega, h3⟩
theorem lat_mem {p : List Int} {i : Nat} (hi : i ≤ p.length) {y : Int} {j : Nat} (hj : j < i) (h : p[j]? = some y) : ∃ v, aget (lat p i) y = some v := by
  induction i with
  | zero => omega
  | succ i ih =>
    obtain ⟨x, hx⟩ := get_of_lt rfl (show i < p.length by omega)
    rw [lat_succ hx, aget_aput]
    split
    · exact ⟨_, rfl⟩
    · rename_i e
      by_cases hji : j = i
      · subst hji
        rw [hx] at h
        exact absurd (Option.some.inj h).symm e
      · exact ih (by omega) (by omega)
def RefOk (rs : List (List Int)) (p : List Int) (k : Nat) : Prop := ∃ v, aget (lat p p.length) (k : Int) = some v ∧ ∀ x ∈ rowK rs k, (aget (lat p p.length) x).getD 0 ≤ v
theorem right_ref {rs : List (List Int)} {p : List Int} (h0 : bErr rs = 0) (hl : p.length = rs.length) : RightP rs p ↔ ∀ k, k < rs.length → RefOk rs p k := by
  have hv := bErr_vld h0
  constructor
  · rintro ⟨-, -, h⟩ k hk
    have hnd := nd_take fun i k hi => (h i k hi).2.2.1
    have hall : ∀ x ∈ p, x ∈ rangeI rs.length := by
      intro x hx
      obtain ⟨i, hi⟩ := List.mem_iff_getElem?.1 hx
      obtain ⟨a, b, _⟩ := h i x hi
      exact rangeI_mem.2 ⟨a, b⟩
    have hperm := nd_perm hnd hall (by rw [rangeI_len]; omega)
    have hkp : (k : Int) ∈ p := hperm.mem_iff.2 (rangeI_mem.2 ⟨by omega, by omega⟩)
    obtain ⟨i, hi⟩ := List.mem_iff_getElem?.1 hkp
    obtain ⟨v, hvv⟩ := lat_mem (Nat.le_refl _) (List.getElem?_eq_some_iff.1 hi).1 hi
    obtain ⟨j, rfl, h2, h3⟩ := lat_some (Nat.le_refl _) hvv
    obtain rfl := nd_inj hnd hi h3
    refine ⟨_, hvv, fun x hx => ?_⟩
    obtain ⟨j', a1, a2⟩ := mem_tk.1 ((h i (k : Int) hi).2.2.2 x (by simpa using hx))
    obtain ⟨u, hu⟩ := lat_mem (Nat.le_refl _) (List.getElem?_eq_some_iff.1 a2).1 a2
    obtain ⟨j2, rfl, b2, b3⟩ := lat_some (Nat.le_refl _) hu
    obtain rfl := nd_inj hnd a2 b3
    rw [hu]
    simp only [Option.getD_some]
    omega
  · intro h
    have hsub : ∀ x ∈ rangeI rs.length, x ∈ p := by
      intro x hx
      obtain ⟨a, b⟩ := rangeI_mem.1 hx
      obtain ⟨v, hvv, _⟩ := h x.toNat (by omega)
      obtain ⟨j, _, _, h3⟩ := lat_some (Nat.le_refl _) hvv
      rw [show ((x.toNat : Nat) : Int) = x by omega] at h3
      exact List.mem_of_getElem? h3
    have hperm := nd_perm (rangeI_nd _) hsub (by rw [rangeI_len]; omega)
    have hnd : p.Nodup := hperm.nodup_iff.1 (rangeI_nd _)
    refine ⟨h0, hl, fun i k hi => ?_⟩
    obtain ⟨a, b⟩ := rangeI_mem.1 (hperm.mem_iff.2 (List.mem_of_getElem? hi))
    refine ⟨a, b, fun hc => ?_, fun x hx => ?_⟩
    · obtain ⟨j, hj, hjk⟩ := mem_tk.1 hc
      have := nd_inj hnd hi hjk
      omega
    · obtain ⟨v, hvv, hle⟩ := h k.toNat (by omega)
      obtain ⟨j, rfl, _, h3⟩ := lat_some (Nat.le_refl _) hvv
      rw [show ((k.toNat : Nat) : Int) = k by omega] at h3
      obtain rfl := nd_inj hnd hi h3
      obtain ⟨x0, x1⟩ := hv.lo' _ x hx
      have hxp : x ∈ p := hsub x (rangeI_mem.2 ⟨x0, by omega⟩)
      obtain ⟨j', hj'⟩ := List.mem_iff_getElem?.1 hxp
      obtain ⟨u, hu⟩ := lat_mem (Nat.le_refl _) (List.getElem?_eq_some_iff.1 hj').1 hj'
      obtain ⟨j2, rfl, _, b3⟩ := lat_some (Nat.le_refl _) hu
      have h5 := hle x hx
      rw [hu] at h5
      simp only [Option.getD_some] at h5
      refine mem_tk.2 ⟨j2, ?_, b3⟩
      have : j2 ≠ i := by
        rintro rfl
        rw [hi] at b3
        have := Option.some.inj b3
        omega
      omega
end Go.Proofs.Ytogjfmgecnoceaa
