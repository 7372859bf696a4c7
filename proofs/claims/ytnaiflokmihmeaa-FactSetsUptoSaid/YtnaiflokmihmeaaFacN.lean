/- Facts: their order is whole; lists without doubles. -/
import Derived.Test.YtnaiflokmihmeaaFacM
import Derived.Lib.SlicesCompact
namespace Go.Proofs.Ytnaiflokmihmeaa
open Go.RowKit
set_option linter.unusedVariables false
set_option linter.unusedSimpArgs false

instance : Inhabited Ft := ⟨⟨0, 0, 0⟩⟩
def FLt (f g : Ft) : Prop := f.k < g.k ∨ (f.k = g.k ∧ (f.a < g.a ∨ (f.a = g.a ∧ f.b < g.b)))
instance (f g : Ft) : Decidable (FLt f g) := by unfold FLt; infer_instance
theorem cmpI_cases (x y : Int) : (x < y ∧ cmpI x y = -1) ∨ (x = y ∧ cmpI x y = 0) ∨ (y < x ∧ cmpI x y = 1) := by
  unfold cmpI
  by_cases h1 : x < y
  · exact .inl ⟨h1, by simp [h1]⟩
  · by_cases h2 : y < x
    · exact .inr (.inr ⟨h2, by simp [h1, h2]⟩)
    · exact .inr (.inl ⟨by omega, by simp [h1, h2]⟩)
theorem cmpF_cases (f g : Ft) : (FLt f g ∧ cmpF f g = -1) ∨ (f = g ∧ cmpF f g = 0) ∨ (FLt g f ∧ cmpF f g = 1) := by
  obtain ⟨k, a, b⟩ := f
  obtain ⟨kk, aa, bb⟩ := g
  simp only [cmpF, lexC, FLt, Ft.mk.injEq]
  rcases cmpI_cases k kk with ⟨h1, e1⟩ | ⟨h1, e1⟩ | ⟨h1, e1⟩ <;> rcases cmpI_cases a aa with ⟨h2, e2⟩ | ⟨h2, e2⟩ | ⟨h2, e2⟩ <;> rcases cmpI_cases b bb with ⟨h3, e3⟩ | ⟨h3, e3⟩ | ⟨h3, e3⟩ <;> rw [e1, e2, e3] <;> simp <;> omega
theorem ltF_iff (f g : Ft) : Go.Proofs.ltOf cmpF f g = decide (FLt f g) := by
  unfold Go.Proofs.ltOf
  rcases cmpF_cases f g with ⟨h, e⟩ | ⟨h, e⟩ | ⟨h, e⟩
  · rw [e]; simp [h]
  · subst h; rw [e]; simp [FLt]
  · rw [e]
    have : ¬ FLt f g := by unfold FLt at *; omega
    simp [this]
theorem flt_irrefl (f : Ft) : ¬ FLt f f := by unfold FLt; omega
theorem flt_trans {f g h : Ft} (h1 : FLt f g) (h2 : FLt g h) : FLt f h := by unfold FLt at *; omega
theorem flt_total {f g : Ft} (h1 : ¬ FLt f g) (h2 : ¬ FLt g f) : f = g := by
  obtain ⟨k, a, b⟩ := f
  obtain ⟨kk, aa, bb⟩ := g
  simp only [FLt, Ft.mk.injEq] at *
  omega
theorem swoF : Go.Sort.SWO (Go.Proofs.ltOf cmpF) where
  irrefl x := by rw [ltF_iff]; simp [flt_irrefl]
  trans x y z h1 h2 := by rw [ltF_iff] at *; simp at *; exact flt_trans h1 h2
  ntrans x y z h1 h2 := by
    rw [ltF_iff] at *
    simp at *
    intro h3
    by_cases h4 : FLt y x
    · exact h2 (flt_trans h4 h3)
    · have e := flt_total h1 h4
      exact h2 (e ▸ h3)
theorem totF (x y : Ft) (h1 : Go.Proofs.ltOf cmpF x y = false) (h2 : Go.Proofs.ltOf cmpF y x = false) : x = y := by
  rw [ltF_iff] at *
  simp at *
  exact flt_total h1 h2

/-- the sorted list, each fact once -/
def ofL (l : List Ft) : List Ft := Go.Lib.compact ((l.filter okF).mergeSort fun x y => !(Go.Proofs.ltOf cmpF y x))
def Asc (l : List Ft) : Prop := l.Pairwise FLt
theorem asc_ext {l r : List Ft} (h1 : Asc l) (h2 : Asc r) (h : ∀ x, x ∈ l ↔ x ∈ r) : l = r := by
  have p : l.Perm r := by
    refine (List.perm_ext_iff_of_nodup ?_ ?_).2 h
    · exact h1.imp (fun {a b} hab e => by subst e; exact flt_irrefl a hab)
    · exact h2.imp (fun {a b} hab e => by subst e; exact flt_irrefl a hab)
  exact List.Perm.eq_of_pairwise (le := FLt) (fun a b _ _ h1 h2 => absurd (flt_trans h1 h2) (flt_irrefl a)) h1 h2 p

section
variable {α : Type} [Inhabited α] [DecidableEq α]
theorem upTo_mem (d : Array α) (m : Nat) (hm : m ≤ d.size) (x : α) : x ∈ Go.Lib.compactUpTo d m ↔ ∃ j, j < m ∧ d[j]! = x := by
  induction m with
  | zero => simp [Go.Lib.compactUpTo]
  | succ m ih =>
    rw [Go.Lib.compactUpTo_succ, List.mem_append, ih (by omega)]
    constructor
    · rintro (⟨j, h1, h2⟩ | h)
      · exact ⟨j, by omega, h2⟩
      · split at h
        · simp at h; exact ⟨m, by omega, h.symm⟩
        · simp at h
    · rintro ⟨j, h1, h2⟩
      by_cases hj : j < m
      · exact .inl ⟨j, hj, h2⟩
      · have : j = m := by omega
        subst this
        by_cases hk : Go.Lib.keeps d j = true
        · right; rw [if_pos hk]; simp [h2]
        · left
          unfold Go.Lib.keeps at hk
          simp only [decide_eq_true_eq] at hk
          have h0 : j ≠ 0 := fun e => hk (.inl e)
          have he : d[j]! = d[j-1]! := Classical.byContradiction fun e => hk (.inr e)
          exact ⟨j - 1, by omega, by rw [← he]; exact h2⟩
end
theorem compact_mem (zs : List Ft) (x : Ft) : x ∈ Go.Lib.compact zs ↔ x ∈ zs := by
  unfold Go.Lib.compact
  rw [upTo_mem _ _ (by simp)]
  constructor
  · rintro ⟨j, h1, h2⟩
    rw [← h2]
    simp [h1]
  · intro h
    obtain ⟨j, h1, h2⟩ := List.mem_iff_getElem.1 h
    exact ⟨j, h1, by simp [h1, h2]⟩
/-- of a list in order without the places that hold what stands before them, an ascending list -/
theorem upTo_asc (d : Array Ft) (hs : ∀ i j, i < j → j < d.size → ¬ FLt d[j]! d[i]!) (m : Nat) (hm : m ≤ d.size) : Asc (Go.Lib.compactUpTo d m) := by
  induction m with
  | zero => simp [Go.Lib.compactUpTo, Asc]
  | succ m ih =>
    have h := ih (by omega)
    rw [Go.Lib.compactUpTo_succ]
    by_cases hk : Go.Lib.keeps d m = true
    · rw [if_pos hk]
      unfold Asc at h ⊢
      rw [List.pairwise_append]
      refine ⟨h, by simp, fun x hx y hy => ?_⟩
      obtain ⟨j, h1, h2⟩ := (upTo_mem d m (by omega) x).1 hx
      simp at hy
      subst hy
      subst h2
      have h3 : ¬ FLt d[m]! d[j]! := hs j m h1 (by omega)
      refine Classical.byContradiction fun h4 => ?_
      have he : d[j]! = d[m]! := flt_total h4 h3
      have h0 : m ≠ 0 := by omega
      have hne : d[m]! ≠ d[m-1]! := by
        unfold Go.Lib.keeps at hk
        simp only [decide_eq_true_eq] at hk
        rcases hk with hk | hk
        · exact absurd hk h0
        · exact hk
      by_cases hj : j = m - 1
      · subst hj; exact hne he.symm
      · have a1 : ¬ FLt d[m-1]! d[j]! := hs j (m-1) (by omega) (by omega)
        have a2 : ¬ FLt d[m]! d[m-1]! := hs (m-1) m (by omega) (by omega)
        rw [he] at a1
        exact hne (flt_total a2 a1)
    · rw [if_neg hk, List.append_nil]; exact h
theorem ofL_mem (l : List Ft) (x : Ft) : x ∈ ofL l ↔ x ∈ l ∧ okF x = true := by
  unfold ofL
  rw [compact_mem, List.mem_mergeSort, List.mem_filter]
theorem ofL_asc (l : List Ft) : Asc (ofL l) := by
  unfold ofL Go.Lib.compact
  refine upTo_asc _ (fun i j hij hj => ?_) _ (by simp)
  have hp := List.pairwise_mergeSort (le := fun x y => !(Go.Proofs.ltOf cmpF y x)) (fun a b c h1 h2 => by
    simp only [Bool.not_eq_true'] at *
    exact swoF.ntrans _ _ _ h2 h1) (fun a b => by
    simp only [Bool.or_eq_true, Bool.not_eq_true']
    rw [ltF_iff, ltF_iff]
    by_cases h : FLt b a
    · right; simp; exact fun h2 => flt_irrefl a (flt_trans h2 h)
    · left; simp [h]) (l.filter okF)
  rw [List.pairwise_iff_getElem] at hp
  have hj' : j < ((l.filter okF).mergeSort fun x y => !(Go.Proofs.ltOf cmpF y x)).length := by simpa using hj
  have := hp i j (by omega) hj' hij
  rw [ltF_iff] at this
  simp only [Bool.not_eq_true', decide_eq_false_iff_not] at this
  rw [getElem!_pos _ j (by simpa using hj'), getElem!_pos _ i (by simp at hj' ⊢; omega)]
  simpa using this
/-- the one ascending list of a list's valid facts -/
theorem ofL_is {l r : List Ft} (h : Asc r) (hm : ∀ x, x ∈ r ↔ x ∈ l ∧ okF x = true) : ofL l = r :=
  asc_ext (ofL_asc l) h fun x => by rw [ofL_mem, hm]
end Go.Proofs.Ytnaiflokmihmeaa
