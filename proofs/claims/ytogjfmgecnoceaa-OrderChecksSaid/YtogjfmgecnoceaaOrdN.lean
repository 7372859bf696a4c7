/- PickOf as plain data: what each still waits for; no program in sight. -/
import Derived.Test.YtogjfmgecnoceaaOrdJ
namespace Go.Proofs.Ytogjfmgecnoceaa
open Go.RowKit
set_option linter.unusedVariables false

def rowK (rs : List (List Int)) (k : Nat) : List Int := (rs[k]?).getD []
def wt (rs : List (List Int)) (done : List Int) (k : Nat) : Int := if (k : Int) ∈ done then -1 else (((rowK rs k).filter fun y => !decide (y ∈ done)).length : Int)
theorem wt_rdy {rs : List (List Int)} {done : List Int} {k : Nat} : rdy rs done k = decide (wt rs done k = 0) := by
  unfold rdy wt
  by_cases h : (k : Int) ∈ done
  · simp [h]
  · rw [if_neg h]
    have : ((rs[k]?).getD []).any (fun y => !decide (y ∈ done)) = !decide (((rowK rs k).filter fun y => !decide (y ∈ done)).length = 0) := by
      unfold rowK
      rw [Bool.eq_iff_iff, List.any_eq_true]
      simp only [Bool.not_eq_true', decide_eq_false_iff_not, List.length_eq_zero_iff, List.filter_eq_nil_iff]
      constructor
      · rintro ⟨x, h1, h2⟩; exact fun hc => by have := hc x h1; simp at this; exact h2 this
      · intro hc
        refine Classical.byContradiction fun hn => hc fun x hx => ?_
        intro hd
        exact hn ⟨x, hx, by simpa using hd⟩
    rw [this]
    simp [h]
def Closed (rs : List (List Int)) (done : List Int) : Prop := ∀ k : Nat, (k : Int) ∈ done → ∀ y ∈ rowK rs k, y ∈ done
theorem wt_nil (rs : List (List Int)) (k : Nat) : wt rs [] k = (rowK rs k).length := by
  unfold wt
  rw [if_neg (by simp), List.filter_eq_self.2 (by simp)]
theorem nodup_inc {xs : List Int} (h : ∀ (i : Nat) x y, xs[i]? = some x → xs[i+1]? = some y → x < y) : xs.Pairwise (· < ·) := by
  induction xs with
  | nil => exact List.Pairwise.nil
  | cons a xs ih =>
    have ih' := ih (fun i x y hx hy => h (i+1) x y (by simpa using hx) (by simpa using hy))
    refine List.pairwise_cons.2 ⟨?_, ih'⟩
    cases xs with
    | nil => simp
    | cons b xs =>
      have hab := h 0 a b rfl rfl
      intro z hz
      rcases List.mem_cons.1 hz with rfl | hz
      · exact hab
      · have := (List.pairwise_cons.1 ih').1 z hz; omega
theorem Vld.inc' {rs : List (List Int)} (h : Vld rs) (k : Nat) : (rowK rs k).Pairwise (· < ·) := by
  unfold rowK
  cases hk : rs[k]? with
  | none => exact List.Pairwise.nil
  | some xs => exact nodup_inc (h.inc k xs hk)
theorem Vld.lo' {rs : List (List Int)} (h : Vld rs) (k : Nat) : ∀ y ∈ rowK rs k, 0 ≤ y ∧ y < k := by
  unfold rowK
  cases hk : rs[k]? with
  | none => simp
  | some xs => exact h.lt k xs hk
theorem filter_one {xs done : List Int} {z : Int} (hp : xs.Pairwise (· < ·)) (hz : z ∉ done) :
    ((xs.filter fun y => !decide (y ∈ done ++ [z])).length : Int) = (xs.filter fun y => !decide (y ∈ done)).length - (if z ∈ xs then 1 else 0) := by
  induction xs with
  | nil => simp
  | cons a xs ih =>
    obtain ⟨h1, h2⟩ := List.pairwise_cons.1 hp
    have ih' := ih h2
    by_cases ha : a = z
    · subst ha
      have hn : a ∉ xs := fun hc => by have := h1 a hc; omega
      rw [if_neg hn] at ih'
      rw [if_pos List.mem_cons_self]
      rw [List.filter_cons_of_neg (by simp), List.filter_cons_of_pos (by simp [hz])]
      rw [ih']
      simp
    · have hm : z ∈ a :: xs ↔ z ∈ xs := by simp [List.mem_cons, Ne.symm ha]
      have hc : (a ∈ done ++ [z]) ↔ a ∈ done := by simp [ha]
      by_cases had : a ∈ done
      · rw [List.filter_cons_of_neg (by simp [had]), List.filter_cons_of_neg (by simp [had]), ih']
        simp only [hm]
      · rw [List.filter_cons_of_pos (by simp [had, ha]), List.filter_cons_of_pos (by simp [had])]
        simp only [List.length_cons, hm]
        push_cast
        omega
/-- one more is done -/
theorem wt_step {rs : List (List Int)} {done : List Int} {k m : Nat} (hv : Vld rs) (hc : Closed rs done) (hr : rdy rs done k = true) :
    wt rs (done ++ [(k : Int)]) m = (if m = k then -1 else wt rs done m) - (if (k : Int) ∈ rowK rs m then 1 else 0) := by
  have hk : (k : Int) ∉ done := by unfold rdy at hr; simp only [Bool.and_eq_true, Bool.not_eq_true', decide_eq_false_iff_not] at hr; exact hr.1
  by_cases hm : m = k
  · subst hm
    rw [if_pos rfl, if_neg]
    · unfold wt; simp
    · intro h; have := (hv.lo' m _ h).2; omega
  · rw [if_neg hm]
    unfold wt
    by_cases hd : (m : Int) ∈ done
    · rw [if_pos (List.mem_append_left _ hd), if_pos hd, if_neg]
      · simp
      · intro h; exact hk (hc m hd _ h)
    · have : (m : Int) ∉ done ++ [(k : Int)] := by
        simp only [List.mem_append, List.mem_singleton, not_or]
        exact ⟨hd, by omega⟩
      rw [if_neg this, if_neg hd]
      exact filter_one (hv.inc' m) hk
theorem closed_step {rs : List (List Int)} {done : List Int} {k : Nat} (hc : Closed rs done) (hr : rdy rs done k = true) : Closed rs (done ++ [(k : Int)]) := by
  intro j hj y hy
  rcases List.mem_append.1 hj with hj | hj
  · exact List.mem_append_left _ (hc j hj y hy)
  · have : j = k := by have := List.mem_singleton.1 hj; omega
    subst this
    refine List.mem_append_left _ ?_
    unfold rdy at hr
    simp only [Bool.and_eq_true, Bool.not_eq_true', decide_eq_false_iff_not, List.any_eq_false] at hr
    have := hr.2 y hy
    simpa using this
/-- the list of what each waits for, and the steps between -/
def wts (rs : List (List Int)) (done : List Int) : List Int := (List.range rs.length).map (wt rs done)
def wtsM (rs : List (List Int)) (done : List Int) (k m : Nat) : List Int := (List.range rs.length).map fun j => if j < m then wt rs (done ++ [(k : Int)]) j else if j = k then -1 else wt rs done j
theorem wts_get {rs : List (List Int)} {done : List Int} {j : Nat} (h : j < rs.length) : (wts rs done)[j]? = some (wt rs done j) := by simp [wts, h]
theorem wtsM_get {rs : List (List Int)} {done : List Int} {k m j : Nat} (h : j < rs.length) : (wtsM rs done k m)[j]? = some (if j < m then wt rs (done ++ [(k : Int)]) j else if j = k then -1 else wt rs done j) := by simp [wtsM, h]
theorem map_set {n i : Nat} {f g : Nat → Int} {y : Int} (h1 : ∀ j, j < n → j ≠ i → f j = g j) (h2 : y = g i) : ((List.range n).map f).set i y = (List.range n).map g := by
  refine List.ext_getElem? fun j => ?_
  rw [List.getElem?_set]
  by_cases hj : j < n
  · by_cases hi : i = j
    · subst hi; simp [hj, h2]
    · rw [if_neg hi]; simp [hj, h1 j hj (Ne.symm hi)]
  · simp [hj]
    try omega
theorem wtsM_zero {rs : List (List Int)} {done : List Int} {k : Nat} (hk : k < rs.length) : (wts rs done).set k (-1) = wtsM rs done k 0 := by
  refine map_set (fun j hj hjk => ?_) ?_
  · simp [hjk]
  · simp
theorem wtsM_yes {rs : List (List Int)} {done : List Int} {k m : Nat} (hv : Vld rs) (hc : Closed rs done) (hr : rdy rs done k = true) (hm : m < rs.length) (h : (k : Int) ∈ rowK rs m) {x : Int} (hx : (wtsM rs done k m)[m]? = some x) : (wtsM rs done k m).set m (x - 1) = wtsM rs done k (m+1) := by
  rw [wtsM_get hm, if_neg (by omega)] at hx
  refine map_set (fun j hj hjm => ?_) ?_
  · by_cases h1 : j < m
    · rw [if_pos h1, if_pos (by omega)]
    · have h2 : ¬ j < m + 1 := by omega
      rw [if_neg h1, if_neg h2]
  · rw [if_pos (by omega), wt_step hv hc hr, if_pos h, ← Option.some.inj hx]
theorem wtsM_no {rs : List (List Int)} {done : List Int} {k m : Nat} (hv : Vld rs) (hc : Closed rs done) (hr : rdy rs done k = true) (h : (k : Int) ∉ rowK rs m) : wtsM rs done k m = wtsM rs done k (m+1) := by
  refine List.map_congr_left fun j hj => ?_
  by_cases h1 : j < m
  · rw [if_pos h1, if_pos (by omega)]
  · by_cases h2 : j = m
    · subst h2
      have h3 : j < j + 1 := by omega
      rw [if_neg h1, if_pos h3, wt_step hv hc hr, if_neg h, Int.sub_zero]
    · have h3 : ¬ j < m + 1 := by omega
      rw [if_neg h1, if_neg h3]
theorem wtsM_end {rs : List (List Int)} {done : List Int} {k n : Nat} (hn : n = rs.length) : wtsM rs done k n = wts rs (done ++ [(k : Int)]) := by
  subst hn
  refine List.map_congr_left fun j hj => ?_
  rw [if_pos (by simpa using hj)]
theorem wts_nil {rs : List (List Int)} {m : Nat} (n : Nat) (hn : n = rs.length) : (List.range n).map (fun j => ((rowK rs j).length : Int)) = wts rs [] := by
  subst hn
  exact List.map_congr_left fun j hj => (wt_nil rs j).symm
theorem wt_bd {rs : List (List Int)} (hv : Vld rs) (done : List Int) {k : Nat} (hk : k < rs.length) : -1 ≤ wt rs done k ∧ wt rs done k ≤ 40 := by
  unfold wt
  split
  · omega
  · have h1 := List.length_filter_le (fun y => !decide (y ∈ done)) (rowK rs k)
    have h2 : (rowK rs k).length ≤ k := by unfold rowK; rw [List.getElem?_eq_getElem hk]; exact row_len hv (List.getElem?_eq_getElem hk)
    have := hv.le
    omega
/-! ### the one that is picked -/
theorem readyL_pre {rs : List (List Int)} {done : List Int} {k n : Nat} (h : k ≤ n) : ∃ t, readyL rs done n = readyL rs done k ++ t := by
  induction n with
  | zero => obtain rfl : k = 0 := by omega
            exact ⟨[], by simp⟩
  | succ n ih =>
    by_cases hk : k = n + 1
    · subst hk; exact ⟨[], by simp⟩
    · obtain ⟨t, ht⟩ := ih (by omega)
      exact ⟨t ++ (if rdy rs done n = true then [(n : Int)] else []), by show readyL rs done n ++ _ = _; rw [ht, List.append_assoc]⟩
theorem pick_hit {rs : List (List Int)} {by_ done : List Int} {k n : Nat} (hn : n = rs.length) (hk : k < n) (hr : rdy rs done k = true) (hp : pickI by_ done.length (readyL rs done n).length = (readyL rs done k).length) : pickS rs by_ done = done ++ [(k : Int)] := by
  subst hn
  obtain ⟨t, ht⟩ := readyL_pre (rs := rs) (done := done) (show k + 1 ≤ rs.length by omega)
  unfold pickS
  rw [hp]
  congr 2
  have : (readyL rs done rs.length)[(readyL rs done k).length]? = some (k : Int) := by
    rw [ht, readyL_yes hr, List.append_assoc, List.getElem?_append_right (Nat.le_refl _)]
    simp
  exact nth_get this
theorem rem_pick {x : Int} {m : Nat} (hm : 0 < m) : (x.tmod m + m).tmod m = if x.tmod m < 0 then x.tmod m + m else x.tmod m := by
  have h1 := Int.tmod_lt_of_pos x (show (0 : Int) < m by omega)
  have h2 : -(m : Int) < x.tmod m := Int.lt_tmod_of_pos _ (by omega)
  generalize x.tmod m = r at *
  split
  · rw [Int.tmod_eq_of_lt (by omega) (by omega)]
  · rw [Int.tmod_eq_emod_of_nonneg (by omega), Int.add_emod_right, Int.emod_eq_of_lt (by omega) (by omega)]
theorem pick_closed {rs : List (List Int)} {by_ : List Int} (hv : Vld rs) {k : Nat} (hk : k ≤ rs.length) : Closed rs (pickN rs by_ k) := by
  induction k with
  | zero => intro j hj; simp [pickN] at hj
  | succ k ih =>
    have hp := pickN_pk (by_ := by_) hv.low (k := k) (by omega)
    have hpos := ready_pos hv.low (done := pickN rs by_ k) (by rw [hp.len]; omega)
    obtain ⟨b1, b2⟩ := pickI_bd (by_ := by_) (d := (pickN rs by_ k).length) hpos
    obtain ⟨y, hy⟩ := get_of_lt rfl (show (pickI by_ (pickN rs by_ k).length (readyL rs (pickN rs by_ k) rs.length).length).toNat < (readyL rs (pickN rs by_ k) rs.length).length by omega)
    obtain ⟨j, h1, h2, h3⟩ := readyL_mem.1 (List.mem_of_getElem? hy)
    have : pickN rs by_ (k+1) = pickN rs by_ k ++ [(j : Int)] := by
      show pickS rs by_ _ = _
      unfold pickS nth
      rw [hy, h2]; rfl
    rw [this]
    exact closed_step (ih (by omega)) h3
end Go.Proofs.Ytogjfmgecnoceaa
