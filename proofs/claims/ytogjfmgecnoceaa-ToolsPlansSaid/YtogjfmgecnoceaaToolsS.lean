/- Tasks as plain data, and what Plan, Right, End compute of them; no program in sight. -/
import Derived.Test.YtogjfmgecnoceaaToolsQ
import Derived.Test.YtogjfmgecnoceaaInts
namespace Go.Proofs.Ytogjfmgecnoceaa
open Go.RowKit
set_option linter.unusedVariables false

structure Tk where
  t : Int
  l : Int
  A : Option Addr
  c : Nat
  xs : List Int

def TasksAt (w : World) (B : Nat) (A : Option Addr) (ts : List Tk) : Prop :=
  ∀ k t, ts[k]? = some t → ∃ b off, A = some ⟨b, off, none⟩ ∧ b < B ∧ w.cell? ⟨b, off + k*3, none⟩ = some (.int .i64 t.t) ∧ w.cell? ⟨b, off + k*3+1, none⟩ = some (.int .i64 t.l) ∧ w.cell? ⟨b, off + k*3+2, none⟩ = some (.slice t.A t.xs.length t.c) ∧ t.xs.length ≤ 9223372036854775807 ∧ IntsAt w B t.A t.xs
theorem TasksAt.below {w w' : World} {B B' : Nat} {A : Option Addr} {ts : List Tk} (h : TasksAt w B A ts) (hb : Below B' w w') (hB : B ≤ B') : TasksAt w' B A ts := by
  intro k u hu
  obtain ⟨b, off, hA, hlt, h0, h1, h2, h3, h4⟩ := h k u hu
  exact ⟨b, off, hA, hlt, (hb.cell (p := ⟨b, _, none⟩) (Nat.lt_of_lt_of_le hlt hB)).trans h0, (hb.cell (p := ⟨b, _, none⟩) (Nat.lt_of_lt_of_le hlt hB)).trans h1, (hb.cell (p := ⟨b, _, none⟩) (Nat.lt_of_lt_of_le hlt hB)).trans h2, h3, h4.below hb hB⟩
theorem TasksAt.more {w : World} {B B' : Nat} {A : Option Addr} {ts : List Tk} (h : TasksAt w B A ts) (hB : B ≤ B') : TasksAt w B' A ts := by
  intro k u hu
  obtain ⟨b, off, hA, hlt, h0, h1, h2, h3, h4⟩ := h k u hu
  exact ⟨b, off, hA, Nat.lt_of_lt_of_le hlt hB, h0, h1, h2, h3, h4.more hB⟩
theorem TasksAt.next {w w' : World} {A : Option Addr} {ts : List Tk} (h : TasksAt w w.heap.size A ts) (hb : Below w.heap.size w w') : TasksAt w' w'.heap.size A ts := (h.below hb (Nat.le_refl _)).more hb.size

/-- the form of a task -/
def okT (t : Tk) : Bool := decide (-1 ≤ t.t ∧ t.t ≤ 5 ∧ 1 ≤ t.l ∧ t.l ≤ 2000)
theorem okT_iff {t : Tk} : okT t = true ↔ (-1 ≤ t.t ∧ t.t ≤ 5 ∧ 1 ≤ t.l ∧ t.l ≤ 2000) := by simp [okT]
def tkAt (ts : List Tk) (k : Nat) : Option Int := match ts[k]? with
  | none => none
  | some t => if okT t then (if t.xs.all (fun x => decide (0 ≤ x ∧ x < k)) then none else some 9) else some 1
def tErr (ts : List Tk) : Int := if 60 < ts.length then 2 else (firstOf (tkAt ts) ts.length).getD 0
theorem tErr_large {ts : List Tk} (h : 60 < ts.length) : tErr ts = 2 := by simp [tErr, h]
theorem tErr_none {ts : List Tk} (h : ¬ 60 < ts.length) (ha : ∀ j < ts.length, tkAt ts j = none) : tErr ts = 0 := by
  unfold tErr; rw [if_neg h, firstOf_none _ _ ha]; rfl
theorem tErr_some {ts : List Tk} (h : ¬ 60 < ts.length) {k : Nat} (hk : k < ts.length) (ha : ∀ j < k, tkAt ts j = none) {x : Int} (hx : tkAt ts k = some x) : tErr ts = x := by
  unfold tErr; rw [if_neg h, firstOf_some _ _ k hk ha hx]; rfl
theorem tkAt_bad {ts : List Tk} {k : Nat} {t : Tk} (ht : ts[k]? = some t) (h : okT t = false) : tkAt ts k = some 1 := by simp [tkAt, ht, h]
theorem tkAt_ord {ts : List Tk} {k j : Nat} {t : Tk} {x : Int} (ht : ts[k]? = some t) (h : okT t = true) (hx : t.xs[j]? = some x) (hb : x < 0 ∨ (k : Int) ≤ x) : tkAt ts k = some 9 := by
  unfold tkAt; rw [ht]; simp only [h, if_true]
  rw [if_neg]
  intro ha
  have := List.all_eq_true.1 ha x (List.mem_of_getElem? hx)
  simp at this; omega
theorem tkAt_ok {ts : List Tk} {k : Nat} {t : Tk} (ht : ts[k]? = some t) (h : okT t = true) (hx : ∀ j < t.xs.length, ∀ x, t.xs[j]? = some x → 0 ≤ x ∧ x < k) : tkAt ts k = none := by
  unfold tkAt; rw [ht]; simp only [h, if_true]
  rw [if_pos]
  rw [List.all_eq_true]
  intro x hm
  obtain ⟨j, hj⟩ := List.mem_iff_getElem?.1 hm
  have := hx j (List.getElem?_eq_some_iff.1 hj).1 x hj
  simpa using this
theorem tkAt_inv {ts : List Tk} {k : Nat} {t : Tk} (ht : ts[k]? = some t) (h : tkAt ts k = none) : okT t = true ∧ ∀ x ∈ t.xs, 0 ≤ x ∧ x < k := by
  unfold tkAt at h; rw [ht] at h
  cases hok : okT t with
  | false => simp [hok] at h
  | true =>
    simp only [hok, if_true] at h
    split at h
    · rename_i ha
      refine ⟨rfl, fun x hx => ?_⟩
      have := List.all_eq_true.1 ha x hx
      simpa using this
    · cases h
theorem tErr_zero {ts : List Tk} (h : tErr ts = 0) : ts.length ≤ 60 ∧ ∀ j < ts.length, tkAt ts j = none := by
  by_cases h60 : 60 < ts.length
  · rw [tErr_large h60] at h; cases h
  · refine ⟨by omega, ?_⟩
    refine Classical.byContradiction fun hn => ?_
    unfold tErr at h
    rw [if_neg h60] at h
    cases hf : firstOf (tkAt ts) ts.length with
    | none =>
      unfold firstOf at hf
      exact hn fun j hj => List.findSome?_eq_none_iff.1 hf j (by simpa using hj)
    | some x =>
      rw [hf] at h
      simp at h
      subst h
      unfold firstOf at hf
      obtain ⟨j, hj, hx⟩ := List.exists_of_findSome?_eq_some hf
      unfold tkAt at hx
      split at hx
      · cases hx
      · split at hx
        · split at hx <;> simp at hx
        · simp at hx

/-- the long of task x -/
def lo (ts : List Tk) (x : Int) : Int := ((ts[x.toNat]?).map Tk.l).getD 0
def st (out : List Int) (x : Int) : Int := (out[x.toNat]?).getD 0
/-- when the tasks before have ended -/
def atOf (ts : List Tk) (out : List Int) (xs : List Int) : Int := xs.foldl (fun a x => max a (st out x + lo ts x)) 0
theorem atOf_snoc (ts : List Tk) (out xs : List Int) (x : Int) : atOf ts out (xs ++ [x]) = max (atOf ts out xs) (st out x + lo ts x) := by simp [atOf]
theorem atOf_bd {ts : List Tk} {out xs : List Int} {B : Int} (hB : 0 ≤ B) (h : ∀ x ∈ xs, st out x + lo ts x ≤ B) : 0 ≤ atOf ts out xs ∧ atOf ts out xs ≤ B := by
  unfold atOf
  have : ∀ (xs : List Int) (a : Int), 0 ≤ a → a ≤ B → (∀ x ∈ xs, st out x + lo ts x ≤ B) → 0 ≤ xs.foldl (fun a x => max a (st out x + lo ts x)) a ∧ xs.foldl (fun a x => max a (st out x + lo ts x)) a ≤ B := by
    intro xs
    induction xs with
    | nil => intro a h1 h2 _; exact ⟨h1, h2⟩
    | cons x xs ih =>
      intro a h1 h2 h3
      have := h3 x List.mem_cons_self
      have e : List.foldl (fun a x => max a (st out x + lo ts x)) a (x :: xs) = List.foldl (fun a x => max a (st out x + lo ts x)) (max a (st out x + lo ts x)) xs := rfl
      rw [e]
      exact ih _ (by omega) (by omega) fun y hy => h3 y (List.mem_cons_of_mem _ hy)
  exact this xs 0 (by omega) hB h

/-- one task planned behind others -/
def pstep (ts : List Tk) (s : List Int × List U) (t : Tk) : Option (List Int × List U) :=
  if 2000 - t.l < atOf ts s.1 t.xs then none else
  if 0 ≤ t.t then
    (if ff s.2 t.t (atOf ts s.1 t.xs) t.l < 0 then none else some (s.1 ++ [ff s.2 t.t (atOf ts s.1 t.xs) t.l], s.2 ++ [⟨t.t, ff s.2 t.t (atOf ts s.1 t.xs) t.l, t.l⟩]))
  else some (s.1 ++ [atOf ts s.1 t.xs], s.2)
def pfold (ts : List Tk) : List Tk → Option (List Int × List U)
  | us => us.foldl (fun s t => s.bind fun s => pstep ts s t) (some ([], []))
theorem pfold_nil (ts : List Tk) : pfold ts [] = some ([], []) := rfl
theorem pfold_snoc (ts us : List Tk) (t : Tk) : pfold ts (us ++ [t]) = (pfold ts us).bind fun s => pstep ts s t := by simp [pfold]
theorem pfold_none {ts us vs : List Tk} (h : pfold ts us = none) : pfold ts (us ++ vs) = none := by
  unfold pfold at h ⊢
  rw [List.foldl_append, h]
  clear h
  induction vs with
  | nil => rfl
  | cons v vs ih => exact ih
/-- what is so at each step -/
structure PInv (ts : List Tk) (k : Nat) (s : List Int × List U) : Prop where
  len : s.1.length = k
  bd : ∀ x ∈ s.1, 0 ≤ x ∧ x ≤ 2000
  ok : chk s.2 = 0
  le : s.2.length ≤ k
theorem st_bd {out : List Int} (h : ∀ x ∈ out, 0 ≤ x ∧ x ≤ 2000) (x : Int) : 0 ≤ st out x ∧ st out x ≤ 2000 := by
  unfold st
  cases hx : out[x.toNat]? with
  | none => simp
  | some y => simpa using h y (List.mem_of_getElem? hx)
theorem lo_bd {ts : List Tk} (h : tErr ts = 0) (x : Int) : 0 ≤ lo ts x ∧ lo ts x ≤ 2000 := by
  unfold lo
  cases hx : ts[x.toNat]? with
  | none => simp
  | some t =>
    have hl := (List.getElem?_eq_some_iff.1 hx).1
    have := okT_iff.1 (tkAt_inv hx ((tErr_zero h).2 _ hl)).1
    simp; omega
theorem atOf_le {ts : List Tk} (h : tErr ts = 0) {out : List Int} (ho : ∀ x ∈ out, 0 ≤ x ∧ x ≤ 2000) (xs : List Int) : 0 ≤ atOf ts out xs ∧ atOf ts out xs ≤ 4000 :=
  atOf_bd (by omega) fun x _ => by have := st_bd ho x; have := lo_bd h x; omega
theorem chk_snoc {us : List U} {u : U} (h : chk us = 0) (hl : us.length < 60) (hu : okU u = true) (hf : freeAt us u.t u.l u.f = true) : chk (us ++ [u]) = 0 := by
  obtain ⟨h60, hall⟩ := chk_zero h
  refine chk_none (by simp; omega) fun j hj => ?_
  simp at hj
  by_cases hjl : j < us.length
  · have h1 := hall j hjl
    have hget : (us ++ [u])[j]? = us[j]? := List.getElem?_append_left hjl
    have htake : (us ++ [u]).take j = us.take j := by rw [List.take_append_of_le_length (by omega)]
    unfold chkAt at h1 ⊢
    rw [hget, htake]; exact h1
  · obtain rfl : j = us.length := by omega
    refine chkAt_ok (u := u) (by simp) hu fun i hi v hv => ?_
    rw [List.getElem?_append_left hi] at hv
    have hv' := all_ok h v (List.mem_of_getElem? hv)
    rw [← Bool.not_eq_true, clashU_iff hu hv']
    rintro ⟨e1, e2, e3⟩
    obtain ⟨_, _, _, q4, _, _⟩ := okU_iff.1 hu
    obtain ⟨_, _, _, r4, _, _⟩ := okU_iff.1 hv'
    have hfr := freeAt_iff.1 hf (max u.f v.f) (by omega) (by omega)
    have : usedBy us u.t (max u.f v.f) = true := usedBy_iff.2 ⟨v, List.mem_of_getElem? hv, e1.symm, by omega, by omega⟩
    rw [this] at hfr; cases hfr
theorem pstep_inv {ts : List Tk} {k : Nat} {s s' : List Int × List U} {t : Tk} (h0 : tErr ts = 0) (h : PInv ts k s) (ht : ts[k]? = some t) (hs : pstep ts s t = some s') : PInv ts (k + 1) s' := by
  obtain ⟨i1, i2, i3, i4⟩ := h
  have hk := (List.getElem?_eq_some_iff.1 ht).1
  have h60 := (tErr_zero h0).1
  obtain ⟨q1, q2, q3, q4⟩ := okT_iff.1 (tkAt_inv ht ((tErr_zero h0).2 k hk)).1
  obtain ⟨a1, a2⟩ := atOf_le h0 i2 t.xs
  unfold pstep at hs
  split at hs
  · cases hs
  · rename_i hlt
    split at hs
    · rename_i ht0
      split at hs
      · cases hs
      · rename_i hff
        obtain rfl := Option.some.inj hs
        rcases ff_cases s.2 t.t (atOf ts s.1 t.xs) t.l with ⟨e, _⟩ | ⟨r, e, e1, e2, e3, _⟩
        · omega
        · rw [e] at hff ⊢
          refine ⟨by simp [i1], fun x hx => ?_, chk_snoc i3 (by omega) ?_ e3, by show (s.2 ++ [_]).length ≤ k + 1; rw [List.length_append, List.length_singleton]; omega⟩
          · rcases List.mem_append.1 hx with hx | hx
            · exact i2 x hx
            · obtain rfl := List.mem_singleton.1 hx; omega
          · rw [okU_iff]; dsimp only; omega
    · obtain rfl := Option.some.inj hs
      refine ⟨by simp [i1], fun x hx => ?_, i3, Nat.le_succ_of_le i4⟩
      rcases List.mem_append.1 hx with hx | hx
      · exact i2 x hx
      · obtain rfl := List.mem_singleton.1 hx; omega
theorem pinv_zero (ts : List Tk) : PInv ts 0 ([], []) := ⟨rfl, fun x hx => by simp at hx, by decide, Nat.le_refl _⟩
theorem take_succ_get {α : Type} {l : List α} {k : Nat} {u : α} (hu : l[k]? = some u) : l.take (k+1) = l.take k ++ [u] := by
  rw [List.take_add_one, hu]; rfl
theorem pfold_inv {ts : List Tk} (h0 : tErr ts = 0) {k : Nat} {s : List Int × List U} (hs : pfold ts (ts.take k) = some s) (hk : k ≤ ts.length) : PInv ts k s := by
  induction k generalizing s with
  | zero =>
    rw [List.take_zero, pfold_nil] at hs
    obtain rfl := Option.some.inj hs
    exact pinv_zero ts
  | succ k ih =>
    obtain ⟨t, ht⟩ := get_of_lt rfl (show k < ts.length by omega)
    rw [take_succ_get ht, pfold_snoc] at hs
    cases h1 : pfold ts (ts.take k) with
    | none => rw [h1] at hs; cases hs
    | some s1 =>
      rw [h1] at hs
      exact pstep_inv h0 (ih h1 (by omega)) ht hs
/-- the answer of Plan -/
def planE (ts : List Tk) : Int := if tErr ts = 0 then (match pfold ts ts with | some _ => 0 | none => 19) else tErr ts
def planL (ts : List Tk) : List Int := if tErr ts = 0 then (match pfold ts ts with | some s => s.1 | none => []) else []
theorem plan_bad {ts : List Tk} (h : tErr ts ≠ 0) : planE ts = tErr ts ∧ planL ts = [] := by simp [planE, planL, h]
theorem plan_late {ts : List Tk} (h : tErr ts = 0) {k : Nat} (hn : pfold ts (ts.take k) = none) : planE ts = 19 ∧ planL ts = [] := by
  have h1 : pfold ts (ts.take k ++ ts.drop k) = none := pfold_none hn
  have : pfold ts ts = none := by rwa [List.take_append_drop] at h1
  simp [planE, planL, h, this]
theorem plan_done {ts : List Tk} (h : tErr ts = 0) {s : List Int × List U} (hn : pfold ts ts = some s) : planE ts = 0 ∧ planL ts = s.1 := by simp [planE, planL, h, hn]

/-- can the tasks begin so? -/
def fitK (ts : List Tk) (ss : List Int) (k : Nat) : Bool := match ts[k]?, ss[k]? with
  | some t, some s => decide (0 ≤ s ∧ s ≤ 2000 - t.l) && t.xs.all (fun x => decide (st ss x + lo ts x ≤ s))
  | _, _ => false
/-- the uses of the first k tasks -/
def usesOf (ts : List Tk) (ss : List Int) : Nat → List U
  | 0 => []
  | k + 1 => usesOf ts ss k ++ (match ts[k]? with | some t => if 0 ≤ t.t then [⟨t.t, st ss k, t.l⟩] else [] | none => [])
def fits (ts : List Tk) (ss : List Int) : Bool := decide (tErr ts = 0) && decide (ss.length = ts.length) && (List.range ts.length).all (fitK ts ss) && decide (chk (usesOf ts ss ts.length) = 0)
theorem usesOf_len (ts : List Tk) (ss : List Int) (k : Nat) : (usesOf ts ss k).length ≤ k := by
  induction k with
  | zero => simp [usesOf]
  | succ k ih =>
    simp only [usesOf, List.length_append]
    split
    · split <;> simp <;> omega
    · simp; omega
theorem fits_bad {ts : List Tk} {ss : List Int} (h : tErr ts ≠ 0) : fits ts ss = false := by simp [fits, h]
theorem fits_len {ts : List Tk} {ss : List Int} (h : ss.length ≠ ts.length) : fits ts ss = false := by simp [fits, h]
theorem fits_no {ts : List Tk} {ss : List Int} {k : Nat} (hk : k < ts.length) (h : fitK ts ss k = false) : fits ts ss = false := by
  unfold fits
  rw [show (List.range ts.length).all (fitK ts ss) = false from by
    rw [List.all_eq_false]; exact ⟨k, by simpa using hk, by simp [h]⟩]
  simp
theorem fits_all {ts : List Tk} {ss : List Int} (h0 : tErr ts = 0) (h1 : ss.length = ts.length) (h : ∀ j < ts.length, fitK ts ss j = true) : fits ts ss = decide (chk (usesOf ts ss ts.length) = 0) := by
  unfold fits
  rw [show (List.range ts.length).all (fitK ts ss) = true from by rw [List.all_eq_true]; intro j hj; exact h j (by simpa using hj)]
  simp [h0, h1]
theorem fits_inv {ts : List Tk} {ss : List Int} (h : fits ts ss = true) : tErr ts = 0 ∧ ss.length = ts.length ∧ ∀ j < ts.length, fitK ts ss j = true := by
  unfold fits at h
  simp only [Bool.and_eq_true, decide_eq_true_eq, List.all_eq_true, List.mem_range] at h
  exact ⟨h.1.1.1, h.1.1.2, h.1.2⟩
theorem fitK_range {ts : List Tk} {ss : List Int} {k : Nat} {t : Tk} {s : Int} (ht : ts[k]? = some t) (hs : ss[k]? = some s) (h : ¬ (0 ≤ s ∧ s ≤ 2000 - t.l)) : fitK ts ss k = false := by
  simp [fitK, ht, hs, h]
theorem fitK_after {ts : List Tk} {ss : List Int} {k j : Nat} {t : Tk} {s x : Int} (ht : ts[k]? = some t) (hs : ss[k]? = some s) (hx : t.xs[j]? = some x) (h : s < st ss x + lo ts x) : fitK ts ss k = false := by
  unfold fitK; rw [ht, hs]
  simp only [Bool.and_eq_false_iff]
  right
  rw [List.all_eq_false]
  exact ⟨x, List.mem_of_getElem? hx, by simp; omega⟩
theorem fitK_yes {ts : List Tk} {ss : List Int} {k : Nat} {t : Tk} {s : Int} (ht : ts[k]? = some t) (hs : ss[k]? = some s) (h : 0 ≤ s ∧ s ≤ 2000 - t.l) (hx : ∀ j < t.xs.length, ∀ x, t.xs[j]? = some x → st ss x + lo ts x ≤ s) : fitK ts ss k = true := by
  unfold fitK; rw [ht, hs]
  simp only [Bool.and_eq_true, decide_eq_true_eq, List.all_eq_true]
  refine ⟨h, fun x hm => ?_⟩
  obtain ⟨j, hj⟩ := List.mem_iff_getElem?.1 hm
  exact hx j (List.getElem?_eq_some_iff.1 hj).1 x hj
theorem fitK_inv {ts : List Tk} {ss : List Int} {k : Nat} {t : Tk} {s : Int} (ht : ts[k]? = some t) (hs : ss[k]? = some s) (h : fitK ts ss k = true) : 0 ≤ s ∧ s ≤ 2000 - t.l := by
  unfold fitK at h; rw [ht, hs] at h
  simp only [Bool.and_eq_true, decide_eq_true_eq] at h
  exact h.1
/-- when all have ended -/
def endK (ts : List Tk) (ss : List Int) : Nat → Int
  | 0 => 0
  | k + 1 => max (endK ts ss k) (st ss k + lo ts k)
theorem endK_bd {ts : List Tk} {ss : List Int} (h : fits ts ss = true) {k : Nat} (hk : k ≤ ts.length) : 0 ≤ endK ts ss k ∧ endK ts ss k ≤ 2000 := by
  obtain ⟨h0, h1, h2⟩ := fits_inv h
  induction k with
  | zero => simp [endK]
  | succ k ih =>
    obtain ⟨t, ht⟩ := get_of_lt rfl (show k < ts.length by omega)
    obtain ⟨s, hs⟩ := get_of_lt h1.symm (show k < ts.length by omega)
    have h3 := fitK_inv ht hs (h2 k (by omega))
    have h4 := ih (by omega)
    have h5 := okT_iff.1 (tkAt_inv ht ((tErr_zero h0).2 k (by omega))).1
    have e1 : st ss k = s := by simp [st, hs]
    have e2 : lo ts k = t.l := by simp [lo, ht]
    unfold endK
    rw [e1, e2]; omega
end Go.Proofs.Ytogjfmgecnoceaa
