/- Cells: their order is whole; ascending lists; the laws of sets (plain). -/
import Derived.Test.YtoejojfjiikogaaDoorGrA

namespace Go.Proofs.YtoejojfjiikogaaDoor
open Go.RowKit
set_option linter.unusedVariables false
set_option linter.unusedSimpArgs false

def FLt (f g : Ft) : Prop := f.y < g.y ∨ (f.y = g.y ∧ f.x < g.x)
instance (f g : Ft) : Decidable (FLt f g) := by unfold FLt; infer_instance
theorem cmpI_cases (x y : Int) : (x < y ∧ cmpI x y = -1) ∨ (x = y ∧ cmpI x y = 0) ∨ (y < x ∧ cmpI x y = 1) := by
  unfold cmpI
  by_cases h1 : x < y
  · exact .inl ⟨h1, by simp [h1]⟩
  · by_cases h2 : y < x
    · exact .inr (.inr ⟨h2, by simp [h1, h2]⟩)
    · exact .inr (.inl ⟨by omega, by simp [h1, h2]⟩)
theorem cmpF_cases (f g : Ft) : (FLt f g ∧ cmpF f g = -1) ∨ (f = g ∧ cmpF f g = 0) ∨ (FLt g f ∧ cmpF f g = 1) := by
  obtain ⟨a, b⟩ := f
  obtain ⟨aa, bb⟩ := g
  simp only [cmpF, FLt, Ft.mk.injEq]
  rcases cmpI_cases a aa with ⟨h2, e2⟩ | ⟨h2, e2⟩ | ⟨h2, e2⟩ <;> rcases cmpI_cases b bb with ⟨h3, e3⟩ | ⟨h3, e3⟩ | ⟨h3, e3⟩ <;> rw [e2, e3] <;> simp <;> omega
theorem ltF_iff (f g : Ft) : Go.Proofs.ltOf cmpF f g = decide (FLt f g) := by
  unfold Go.Proofs.ltOf
  rcases cmpF_cases f g with ⟨h, e⟩ | ⟨h, e⟩ | ⟨h, e⟩
  · rw [e]; simp [h]
  · subst h; rw [e]; simp [FLt]
  · rw [e]
    have : ¬ FLt f g := by unfold FLt at *; omega
    simp [this]
theorem flt_irrefl (f : Ft) : ¬ FLt f f := by unfold FLt; omega
theorem flt_trans {f g h : Ft} (h1 : FLt f g) (h2 : FLt g h) : FLt f h := by unfold FLt at *; omega
theorem flt_total {f g : Ft} (h1 : ¬ FLt f g) (h2 : ¬ FLt g f) : f = g := by
  obtain ⟨a, b⟩ := f
  obtain ⟨aa, bb⟩ := g
  simp only [FLt, Ft.mk.injEq] at *
  omega
theorem swoF : Go.Sort.SWO (Go.Proofs.ltOf cmpF) where
  irrefl x := by rw [ltF_iff]; simp [flt_irrefl]
  trans x y z h1 h2 := by rw [ltF_iff] at *; simp at *; exact flt_trans h1 h2
  ntrans x y z h1 h2 := by
    rw [ltF_iff] at *
    simp at *
    intro h3
    by_cases h4 : FLt y x
    · exact h2 (flt_trans h4 h3)
    · have e := flt_total h1 h4
      exact h2 (e ▸ h3)
theorem totF (x y : Ft) (h1 : Go.Proofs.ltOf cmpF x y = false) (h2 : Go.Proofs.ltOf cmpF y x = false) : x = y := by
  rw [ltF_iff] at *
  simp at *
  exact flt_total h1 h2

/-- the sorted list, each cell once -/
def srtL (l : List Ft) : List Ft := l.mergeSort fun x y => !(Go.Proofs.ltOf cmpF y x)
def ofL (l : List Ft) : List Ft := Go.Lib.compact (srtL l)
def Asc (l : List Ft) : Prop := l.Pairwise FLt
theorem asc_ext {l r : List Ft} (h1 : Asc l) (h2 : Asc r) (h : ∀ x, x ∈ l ↔ x ∈ r) : l = r := by
  have p : l.Perm r := by
    refine (List.perm_ext_iff_of_nodup ?_ ?_).2 h
    · exact h1.imp (fun {a b} hab e => by subst e; exact flt_irrefl a hab)
    · exact h2.imp (fun {a b} hab e => by subst e; exact flt_irrefl a hab)
  exact List.Perm.eq_of_pairwise (le := FLt) (fun a b _ _ h1 h2 => absurd (flt_trans h1 h2) (flt_irrefl a)) h1 h2 p

section
variable {α : Type} [Inhabited α] [DecidableEq α]
theorem upTo_mem (d : Array α) (m : Nat) (hm : m ≤ d.size) (x : α) : x ∈ Go.Lib.compactUpTo d m ↔ ∃ j, j < m ∧ d[j]! = x := by
  induction m with
  | zero => simp [Go.Lib.compactUpTo]
  | succ m ih =>
    rw [Go.Lib.compactUpTo_succ, List.mem_append, ih (by omega)]
    constructor
    · rintro (⟨j, h1, h2⟩ | h)
      · exact ⟨j, by omega, h2⟩
      · split at h
        · simp at h; exact ⟨m, by omega, h.symm⟩
        · simp at h
    · rintro ⟨j, h1, h2⟩
      by_cases hj : j < m
      · exact .inl ⟨j, hj, h2⟩
      · have : j = m := by omega
        subst this
        by_cases hk : Go.Lib.keeps d j = true
        · right; rw [if_pos hk]; simp [h2]
        · left
          unfold Go.Lib.keeps at hk
          simp only [decide_eq_true_eq] at hk
          have h0 : j ≠ 0 := fun e => hk (.inl e)
          have he : d[j]! = d[j-1]! := Classical.byContradiction fun e => hk (.inr e)
          exact ⟨j - 1, by omega, by rw [← he]; exact h2⟩
end
theorem compact_mem (zs : List Ft) (x : Ft) : x ∈ Go.Lib.compact zs ↔ x ∈ zs := by
  unfold Go.Lib.compact
  rw [upTo_mem _ _ (by simp)]
  constructor
  · rintro ⟨j, h1, h2⟩
    rw [← h2]
    simp [h1]
  · intro h
    obtain ⟨j, h1, h2⟩ := List.mem_iff_getElem.1 h
    exact ⟨j, h1, by simp [h1, h2]⟩
/-- of a list in order without the places that hold what stands before them, an ascending list -/
theorem upTo_asc (d : Array Ft) (hs : ∀ i j, i < j → j < d.size → ¬ FLt d[j]! d[i]!) (m : Nat) (hm : m ≤ d.size) : Asc (Go.Lib.compactUpTo d m) := by
  induction m with
  | zero => simp [Go.Lib.compactUpTo, Asc]
  | succ m ih =>
    have h := ih (by omega)
    rw [Go.Lib.compactUpTo_succ]
    by_cases hk : Go.Lib.keeps d m = true
    · rw [if_pos hk]
      unfold Asc at h ⊢
      rw [List.pairwise_append]
      refine ⟨h, by simp, fun x hx y hy => ?_⟩
      obtain ⟨j, h1, h2⟩ := (upTo_mem d m (by omega) x).1 hx
      simp at hy
      subst hy
      subst h2
      have h3 : ¬ FLt d[m]! d[j]! := hs j m h1 (by omega)
      refine Classical.byContradiction fun h4 => ?_
      have he : d[j]! = d[m]! := flt_total h4 h3
      have h0 : m ≠ 0 := by omega
      have hne : d[m]! ≠ d[m-1]! := by
        unfold Go.Lib.keeps at hk
        simp only [decide_eq_true_eq] at hk
        rcases hk with hk | hk
        · exact absurd hk h0
        · exact hk
      by_cases hj : j = m - 1
      · subst hj; exact hne he.symm
      · have a1 : ¬ FLt d[m-1]! d[j]! := hs j (m-1) (by omega) (by omega)
        have a2 : ¬ FLt d[m]! d[m-1]! := hs (m-1) m (by omega) (by omega)
        rw [he] at a1
        exact hne (flt_total a2 a1)
    · rw [if_neg hk, List.append_nil]; exact h
theorem ofL_mem (l : List Ft) (x : Ft) : x ∈ ofL l ↔ x ∈ l := by
  unfold ofL srtL
  rw [compact_mem, List.mem_mergeSort]
theorem ofL_asc (l : List Ft) : Asc (ofL l) := by
  unfold ofL srtL Go.Lib.compact
  refine upTo_asc _ (fun i j hij hj => ?_) _ (by simp)
  have hp := List.pairwise_mergeSort (le := fun x y => !(Go.Proofs.ltOf cmpF y x)) (fun a b c h1 h2 => by
    simp only [Bool.not_eq_true'] at *
    exact swoF.ntrans _ _ _ h2 h1) (fun a b => by
    simp only [Bool.or_eq_true, Bool.not_eq_true']
    rw [ltF_iff, ltF_iff]
    by_cases h : FLt b a
    · right; simp; exact fun h2 => flt_irrefl a (flt_trans h2 h)
    · left; simp [h]) l
  rw [List.pairwise_iff_getElem] at hp
  have hj' : j < (l.mergeSort fun x y => !(Go.Proofs.ltOf cmpF y x)).length := by simpa using hj
  have := hp i j (by omega) hj' hij
  rw [ltF_iff] at this
  simp only [Bool.not_eq_true', decide_eq_false_iff_not] at this
  rw [getElem!_pos _ j (by simpa using hj'), getElem!_pos _ i (by simp at hj' ⊢; omega)]
  simpa using this
theorem ofL_len_le (l : List Ft) : (ofL l).length ≤ l.length := by
  have h1 : (ofL l).Nodup := (ofL_asc l).imp (fun {a b} hab e => by subst e; exact flt_irrefl a hab)
  exact h1.length_le_of_subset (fun x hx => (ofL_mem l x).1 hx)
theorem ofL_nil : ofL [] = [] := by simp [ofL, srtL, Go.Lib.compact, Go.Lib.compactUpTo]
theorem srtL_length (l : List Ft) : (srtL l).length = l.length := List.length_mergeSort _
def joinL (a b : List Ft) : List Ft := ofL (a ++ b)
def meetL (a b : List Ft) : List Ft := (ofL a).filter fun c => decide (c ∈ ofL b)
def minusL (a b : List Ft) : List Ft := (ofL a).filter fun c => !decide (c ∈ ofL b)
def withinL (a b : List Ft) : Bool := a.all fun c => decide (c ∈ ofL b)
theorem asc_nodup {l : List Ft} (h : Asc l) : l.Nodup := List.Pairwise.imp (fun {a b} hab e => by subst e; exact flt_irrefl a hab) h
theorem asc_filter {l : List Ft} (h : Asc l) (p : Ft → Bool) : Asc (l.filter p) := List.Pairwise.filter _ h
theorem joinL_asc (a b : List Ft) : Asc (joinL a b) := ofL_asc _
theorem meetL_asc (a b : List Ft) : Asc (meetL a b) := asc_filter (ofL_asc _) _
theorem minusL_asc (a b : List Ft) : Asc (minusL a b) := asc_filter (ofL_asc _) _
theorem joinL_mem (a b : List Ft) (c : Ft) : c ∈ joinL a b ↔ c ∈ a ∨ c ∈ b := by simp [joinL, ofL_mem]
theorem meetL_mem (a b : List Ft) (c : Ft) : c ∈ meetL a b ↔ c ∈ a ∧ c ∈ b := by simp [meetL, ofL_mem]
theorem minusL_mem (a b : List Ft) (c : Ft) : c ∈ minusL a b ↔ c ∈ a ∧ ¬ c ∈ b := by simp [minusL, ofL_mem]
theorem joinL_comm (a b : List Ft) : joinL b a = joinL a b := asc_ext (joinL_asc _ _) (joinL_asc _ _) fun c => by rw [joinL_mem, joinL_mem]; exact Or.comm
theorem meetL_comm (a b : List Ft) : meetL b a = meetL a b := asc_ext (meetL_asc _ _) (meetL_asc _ _) fun c => by rw [meetL_mem, meetL_mem]; exact And.comm
theorem law_minus (x y z : List Ft) : meetL (minusL z x) (minusL z y) = minusL z (joinL x y) := asc_ext (meetL_asc _ _) (minusL_asc _ _) fun c => by
  simp only [meetL_mem, minusL_mem, joinL_mem]; grind
theorem law_meet (x y z : List Ft) : joinL (meetL x y) (meetL x z) = meetL x (joinL y z) := asc_ext (joinL_asc _ _) (meetL_asc _ _) fun c => by
  simp only [meetL_mem, joinL_mem]; grind
theorem law_back {x : List Ft} (y : List Ft) (hx : Asc x) : joinL (minusL x y) (meetL x y) = x := asc_ext (joinL_asc _ _) hx fun c => by
  simp only [meetL_mem, minusL_mem, joinL_mem]; grind
theorem law_count {x y : List Ft} (hx : Asc x) (hy : Asc y) : (joinL x y).length + (meetL x y).length = x.length + y.length := by
  have h1 : (joinL x y).Perm (x ++ y.filter fun c => !decide (c ∈ x)) := by
    refine (List.perm_ext_iff_of_nodup (asc_nodup (joinL_asc _ _)) ?_).2 fun c => ?_
    · rw [List.nodup_append]
      refine ⟨asc_nodup hx, (asc_nodup hy).filter _, fun a ha b hb e => ?_⟩
      subst e
      simp at hb
      exact hb.2 ha
    · rw [joinL_mem]; simp; grind
  have h2 : (meetL x y).Perm (y.filter fun c => decide (c ∈ x)) := by
    refine (List.perm_ext_iff_of_nodup (asc_nodup (meetL_asc _ _)) ((asc_nodup hy).filter _)).2 fun c => ?_
    rw [meetL_mem]; simp; grind
  rw [h1.length_eq, h2.length_eq, List.length_append]
  have h3 := List.length_eq_countP_add_countP (fun c => decide (c ∈ x)) (l := y)
  rw [List.countP_eq_length_filter, List.countP_eq_length_filter] at h3
  have h4 : (y.filter fun c => !decide (c ∈ x)) = y.filter fun a => decide (¬ decide (a ∈ x) = true) := List.filter_congr fun c _ => by simp
  rw [h4]
  omega
theorem law_in1 (x y : List Ft) : withinL (meetL x y) x = true := by
  simp only [withinL, List.all_eq_true, decide_eq_true_eq, ofL_mem]
  exact fun c hc => ((meetL_mem x y c).1 hc).1
theorem law_in2 (x y : List Ft) : withinL x (joinL x y) = true := by
  simp only [withinL, List.all_eq_true, decide_eq_true_eq, ofL_mem]
  exact fun c hc => (joinL_mem x y c).2 (.inl hc)
theorem law_in3 {x : List Ft} (y : List Ft) (hx : Asc x) : decide (meetL x y = x) = withinL x y := by
  rw [Bool.eq_iff_iff]
  simp only [withinL, List.all_eq_true, decide_eq_true_eq, ofL_mem]
  constructor
  · intro h c hc
    rw [← h] at hc
    exact ((meetL_mem x y c).1 hc).2
  · intro h
    exact asc_ext (meetL_asc _ _) hx fun c => by rw [meetL_mem]; exact ⟨fun h1 => h1.1, fun h1 => ⟨h1, h c h1⟩⟩
theorem joinL_small {x y : List Ft} {P : Ft → Prop} (hx : ∀ c ∈ x, P c) (hy : ∀ c ∈ y, P c) : ∀ c ∈ joinL x y, P c := fun c hc => ((joinL_mem x y c).1 hc).elim (hx c) (hy c)
end Go.Proofs.YtoejojfjiikogaaDoor
