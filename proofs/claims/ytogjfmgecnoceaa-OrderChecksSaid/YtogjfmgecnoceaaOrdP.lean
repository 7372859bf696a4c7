/- What comes before what, as plain data, and what Times, Latest compute of it; no program in sight. -/
import Derived.Test.YtogjfmgecnoceaaInts
namespace Go.Proofs.Ytogjfmgecnoceaa
open Go.RowKit
set_option linter.unusedVariables false

/-- the element at x, 0 beyond the ends -/
def nth (l : List Int) (x : Int) : Int := (l[x.toNat]?).getD 0
theorem nth_get {l : List Int} {x : Nat} {y : Int} (h : l[x]? = some y) : nth l x = y := by simp [nth, h]
/-! ### the check -/
def elAt (xs : List Int) (k i : Nat) : Option Int := match xs[i]? with
  | none => none
  | some x => if x < 0 ∨ (k : Int) ≤ x then some 1 else if 0 < i ∧ x ≤ nth xs (i - 1 : Nat) then some 9 else none
def rowAt (rs : List (List Int)) (k : Nat) : Option Int := match rs[k]? with
  | none => none
  | some xs => firstOf (elAt xs k) xs.length
def bErr (rs : List (List Int)) : Int := if 40 < rs.length then 2 else (firstOf (rowAt rs) rs.length).getD 0
theorem bErr_large {rs : List (List Int)} (h : 40 < rs.length) : bErr rs = 2 := by simp [bErr, h]
theorem bErr_none {rs : List (List Int)} (h : ¬ 40 < rs.length) (ha : ∀ j < rs.length, rowAt rs j = none) : bErr rs = 0 := by
  unfold bErr; rw [if_neg h, firstOf_none _ _ ha]; rfl
theorem bErr_some {rs : List (List Int)} (h : ¬ 40 < rs.length) {k : Nat} (hk : k < rs.length) (ha : ∀ j < k, rowAt rs j = none) {xs : List Int} (hxs : rs[k]? = some xs) {i : Nat} (hi : i < xs.length) (hb : ∀ j < i, elAt xs k j = none) {e : Int} (he : elAt xs k i = some e) : bErr rs = e := by
  unfold bErr
  have h1 : rowAt rs k = some e := by unfold rowAt; rw [hxs]; exact firstOf_some _ _ i hi hb he
  rw [if_neg h, firstOf_some _ _ k hk ha h1]; rfl
theorem rowAt_ok {rs : List (List Int)} {k : Nat} {xs : List Int} (hxs : rs[k]? = some xs) (hb : ∀ j < xs.length, elAt xs k j = none) : rowAt rs k = none := by
  unfold rowAt; rw [hxs]; exact firstOf_none _ _ hb
theorem elAt_arg {xs : List Int} {k i : Nat} {x : Int} (hx : xs[i]? = some x) (h : x < 0 ∨ (k : Int) ≤ x) : elAt xs k i = some 1 := by simp [elAt, hx, h]
theorem elAt_ord {xs : List Int} {k i : Nat} {x : Int} (hx : xs[i]? = some x) (h : 0 ≤ x ∧ x < k) (hi : 0 < i) (ho : x ≤ nth xs (i - 1 : Nat)) : elAt xs k i = some 9 := by
  unfold elAt; rw [hx]; dsimp only; rw [if_neg (by omega), if_pos ⟨hi, ho⟩]
theorem elAt_ok {xs : List Int} {k i : Nat} {x : Int} (hx : xs[i]? = some x) (h : 0 ≤ x ∧ x < k) (ho : i = 0 ∨ nth xs (i - 1 : Nat) < x) : elAt xs k i = none := by
  unfold elAt; rw [hx]; dsimp only; rw [if_neg (by omega), if_neg (by omega)]
/-- valid: each of the earlier ones, in increasing order -/
structure Vld (rs : List (List Int)) : Prop where
  le : rs.length ≤ 40
  lt : ∀ (k : Nat) xs, rs[k]? = some xs → ∀ x ∈ xs, 0 ≤ x ∧ x < k
  inc : ∀ (k : Nat) xs, rs[k]? = some xs → ∀ (i : Nat) x y, xs[i]? = some x → xs[i+1]? = some y → x < y
theorem bErr_vld {rs : List (List Int)} (h : bErr rs = 0) : Vld rs := by
  by_cases h40 : 40 < rs.length
  · rw [bErr_large h40] at h; cases h
  · have hall : ∀ k xs, rs[k]? = some xs → ∀ i < xs.length, elAt xs k i = none := by
      intro k xs hk i hi
      unfold bErr at h
      rw [if_neg h40] at h
      have hrow : rowAt rs k = none := by
        cases hf : firstOf (rowAt rs) rs.length with
        | none =>
          unfold firstOf at hf
          exact List.findSome?_eq_none_iff.1 hf k (by simpa using (List.getElem?_eq_some_iff.1 hk).1)
        | some e =>
          rw [hf] at h
          simp at h
          subst h
          unfold firstOf at hf
          obtain ⟨j, hj, hx⟩ := List.exists_of_findSome?_eq_some hf
          unfold rowAt at hx
          split at hx
          · cases hx
          · unfold firstOf at hx
            obtain ⟨i, hi, hx⟩ := List.exists_of_findSome?_eq_some hx
            unfold elAt at hx
            split at hx
            · cases hx
            · split at hx
              · simp at hx
              · split at hx <;> simp at hx
      unfold rowAt firstOf at hrow
      rw [hk] at hrow
      exact List.findSome?_eq_none_iff.1 hrow i (by simpa using hi)
    refine ⟨by omega, fun k xs hk x hx => ?_, fun k xs hk i x y hx hy => ?_⟩
    · obtain ⟨i, hi⟩ := List.mem_iff_getElem?.1 hx
      have h1 := hall k xs hk i (List.getElem?_eq_some_iff.1 hi).1
      unfold elAt at h1
      rw [hi] at h1
      dsimp only at h1
      split at h1
      · cases h1
      · omega
    · have h1 := hall k xs hk (i+1) (List.getElem?_eq_some_iff.1 hy).1
      unfold elAt at h1
      rw [hy] at h1
      dsimp only at h1
      split at h1
      · cases h1
      · split at h1
        · cases h1
        · rename_i h2
          have e : nth xs ((i + 1 - 1 : Nat) : Int) = x := nth_get hx
          rw [e] at h2
          omega
/-- the error of durations -/
def tmErr (rs : List (List Int)) (ts : List Int) : Int := if bErr rs ≠ 0 then bErr rs else if ts.length ≠ rs.length then 3 else if ts.all (fun t => decide (0 ≤ t ∧ t ≤ 2000)) then 0 else 1
theorem tmErr_b {rs : List (List Int)} {ts : List Int} (h : bErr rs ≠ 0) : tmErr rs ts = bErr rs := by simp [tmErr, h]
theorem tmErr_len {rs : List (List Int)} {ts : List Int} (h : bErr rs = 0) (hl : ts.length ≠ rs.length) : tmErr rs ts = 3 := by simp [tmErr, h, hl]
theorem tmErr_arg {rs : List (List Int)} {ts : List Int} (h : bErr rs = 0) (hl : ts.length = rs.length) {k : Nat} {t : Int} (hk : ts[k]? = some t) (ht : t < 0 ∨ 2000 < t) : tmErr rs ts = 1 := by
  unfold tmErr
  rw [if_neg (by simp [h]), if_neg (by simp [hl]), if_neg]
  intro ha
  have := List.all_eq_true.1 ha t (List.mem_of_getElem? hk)
  simp at this; omega
theorem tmErr_ok {rs : List (List Int)} {ts : List Int} (h : bErr rs = 0) (hl : ts.length = rs.length) (ha : ∀ j < ts.length, ∀ t, ts[j]? = some t → 0 ≤ t ∧ t ≤ 2000) : tmErr rs ts = 0 := by
  unfold tmErr
  rw [if_neg (by simp [h]), if_neg (by simp [hl]), if_pos]
  rw [List.all_eq_true]
  intro t hm
  obtain ⟨j, hj⟩ := List.mem_iff_getElem?.1 hm
  simpa using ha j (List.getElem?_eq_some_iff.1 hj).1 t hj
theorem tmErr_zero {rs : List (List Int)} {ts : List Int} (h : tmErr rs ts = 0) : Vld rs ∧ ts.length = rs.length ∧ ∀ t ∈ ts, 0 ≤ t ∧ t ≤ 2000 := by
  unfold tmErr at h
  split at h
  · rename_i h1; exact absurd h h1
  · rename_i h1
    split at h
    · cases h
    · rename_i h2
      split at h
      · rename_i h3
        refine ⟨bErr_vld (by simpa using h1), by simpa using h2, fun t ht => ?_⟩
        have := List.all_eq_true.1 h3 t ht
        simpa using this
      · cases h

/-! ### the greatest of some numbers and 0 -/
def IsMax (P : Int → Prop) (M : Int) : Prop := 0 ≤ M ∧ (∀ v, P v → v ≤ M) ∧ (M = 0 ∨ P M)
theorem IsMax.uniq {P : Int → Prop} {M N : Int} (h : IsMax P M) (h' : IsMax P N) : M = N := by
  obtain ⟨a1, a2, a3⟩ := h
  obtain ⟨b1, b2, b3⟩ := h'
  have h1 : M ≤ N := by rcases a3 with h | h; omega; exact b2 _ h
  have h2 : N ≤ M := by rcases b3 with h | h; omega; exact a2 _ h
  omega
theorem IsMax.congr {P Q : Int → Prop} {M : Int} (h : IsMax P M) (hpq : ∀ v, P v ↔ Q v) : IsMax Q M :=
  ⟨h.1, fun v hv => h.2.1 v ((hpq v).2 hv), h.2.2.imp id (hpq M).1⟩
theorem IsMax.none_ {P : Int → Prop} (h : ∀ v, ¬ P v) : IsMax P 0 := ⟨Int.le_refl _, fun v hv => absurd hv (h v), .inl rfl⟩
theorem IsMax.add {P : Int → Prop} {M v : Int} (h : IsMax P M) : IsMax (fun u => P u ∨ u = v) (max M v) := by
  obtain ⟨a1, a2, a3⟩ := h
  refine ⟨by omega, fun u hu => ?_, ?_⟩
  · rcases hu with hu | hu
    · have := a2 u hu; omega
    · omega
  · by_cases hv : v ≤ M
    · rw [Int.max_eq_left hv]; exact a3.imp id .inl
    · rw [Int.max_eq_right (by omega)]; exact .inr (.inr rfl)

/-! ### starts -/
def atB (out ts xs : List Int) : Int := xs.foldl (fun a x => max a (nth out x + nth ts x)) 0
theorem atB_snoc (out ts xs : List Int) (x : Int) : atB out ts (xs ++ [x]) = max (atB out ts xs) (nth out x + nth ts x) := by simp [atB]
theorem atB_max (out ts xs : List Int) : IsMax (fun v => ∃ x ∈ xs, v = nth out x + nth ts x) (atB out ts xs) := by
  have : ∀ (xs : List Int) (P : Int → Prop) (a : Int), IsMax P a → IsMax (fun v => P v ∨ ∃ x ∈ xs, v = nth out x + nth ts x) (xs.foldl (fun a x => max a (nth out x + nth ts x)) a) := by
    intro xs
    induction xs with
    | nil => intro P a h; exact h.congr fun v => by simp
    | cons x xs ih =>
      intro P a h
      have h1 := ih _ _ (h.add (v := nth out x + nth ts x))
      refine h1.congr fun v => ?_
      constructor
      · rintro ((h | h) | ⟨y, hy, h⟩)
        · exact .inl h
        · exact .inr ⟨x, List.mem_cons_self, h⟩
        · exact .inr ⟨y, List.mem_cons_of_mem _ hy, h⟩
      · rintro (h | ⟨y, hy, h⟩)
        · exact .inl (.inl h)
        · rcases List.mem_cons.1 hy with rfl | hy
          · exact .inl (.inr h)
          · exact .inr ⟨y, hy, h⟩
  exact (this xs (fun _ => False) 0 (IsMax.none_ fun _ h => h)).congr fun v => by simp
theorem atB_bd {out ts xs : List Int} {B : Int} (hB : 0 ≤ B) (h : ∀ x ∈ xs, nth out x + nth ts x ≤ B) : 0 ≤ atB out ts xs ∧ atB out ts xs ≤ B := by
  have h1 := atB_max out ts xs
  refine ⟨h1.1, ?_⟩
  rcases h1.2.2 with e | ⟨x, hx, e⟩
  · omega
  · rw [e]; exact h x hx
def startsOf (rs : List (List Int)) (ts : List Int) : Nat → List Int
  | 0 => []
  | k + 1 => startsOf rs ts k ++ [atB (startsOf rs ts k) ts ((rs[k]?).getD [])]
theorem startsOf_len (rs : List (List Int)) (ts : List Int) (k : Nat) : (startsOf rs ts k).length = k := by
  induction k with
  | zero => rfl
  | succ k ih => simp [startsOf, ih]
theorem startsOf_get {rs : List (List Int)} {ts : List Int} {k n : Nat} (h : k < n) : (startsOf rs ts n)[k]? = some (atB (startsOf rs ts k) ts ((rs[k]?).getD [])) := by
  induction n with
  | zero => omega
  | succ n ih =>
    show (startsOf rs ts n ++ [_])[k]? = _
    by_cases hk : k < n
    · rw [List.getElem?_append_left (by rw [startsOf_len]; exact hk)]; exact ih hk
    · obtain rfl : k = n := by omega
      rw [List.getElem?_append_right (by rw [startsOf_len]; exact Nat.le_refl _), startsOf_len]; simp
theorem startsOf_same {rs : List (List Int)} {ts : List Int} {j k n : Nat} (h : j < k) (hk : k ≤ n) : (startsOf rs ts n)[j]? = (startsOf rs ts k)[j]? := by
  rw [startsOf_get (by omega), startsOf_get h]
/-- a start in terms of the starts -/
def S (rs : List (List Int)) (ts : List Int) (k : Nat) : Int := atB (startsOf rs ts k) ts ((rs[k]?).getD [])
def endB (rs : List (List Int)) (ts : List Int) : Nat → Int
  | 0 => 0
  | k + 1 => max (endB rs ts k) (S rs ts k + nth ts k)
theorem startsOf_succ (rs : List (List Int)) (ts : List Int) (k : Nat) : startsOf rs ts (k+1) = startsOf rs ts k ++ [S rs ts k] := rfl
theorem nth_startsOf {rs : List (List Int)} {ts : List Int} {k n : Nat} (h : k < n) : nth (startsOf rs ts n) k = S rs ts k := nth_get (startsOf_get h)
/-- lists of earlier ones -/
def Low (rs : List (List Int)) : Prop := ∀ (k : Nat) xs, rs[k]? = some xs → ∀ x ∈ xs, 0 ≤ x ∧ x < k
theorem S_max {rs : List (List Int)} {ts : List Int} (hl : Low rs) {k : Nat} {xs : List Int} (hk : rs[k]? = some xs) : IsMax (fun v => ∃ j : Nat, (j : Int) ∈ xs ∧ v = S rs ts j + nth ts j) (S rs ts k) := by
  have h1 := atB_max (startsOf rs ts k) ts xs
  have e : S rs ts k = atB (startsOf rs ts k) ts xs := by unfold S; rw [hk]; rfl
  rw [e]
  refine h1.congr fun v => ?_
  constructor
  · rintro ⟨x, hx, rfl⟩
    obtain ⟨x0, x1⟩ := hl k xs hk x hx
    obtain ⟨j, rfl⟩ := Int.eq_ofNat_of_zero_le x0
    exact ⟨j, hx, by rw [nth_startsOf (by omega)]⟩
  · rintro ⟨j, hj, rfl⟩
    obtain ⟨x0, x1⟩ := hl k xs hk _ hj
    exact ⟨j, hj, by rw [nth_startsOf (by omega)]⟩
theorem endB_max (rs : List (List Int)) (ts : List Int) (n : Nat) : IsMax (fun v => ∃ j, j < n ∧ v = S rs ts j + nth ts j) (endB rs ts n) := by
  induction n with
  | zero => exact IsMax.none_ fun v ⟨j, h, _⟩ => by omega
  | succ n ih =>
    refine (ih.add (v := S rs ts n + nth ts n)).congr fun v => ?_
    constructor
    · rintro (⟨j, h, e⟩ | e)
      · exact ⟨j, by omega, e⟩
      · exact ⟨n, by omega, e⟩
    · rintro ⟨j, h, e⟩
      by_cases hj : j < n
      · exact .inl ⟨j, hj, e⟩
      · obtain rfl : j = n := by omega
        exact .inr e
theorem nth_bd {ts : List Int} (ht : ∀ t ∈ ts, 0 ≤ t ∧ t ≤ 2000) (x : Int) : 0 ≤ nth ts x ∧ nth ts x ≤ 2000 := by
  unfold nth
  cases h : ts[x.toNat]? with
  | none => simp
  | some y => simpa using ht y (List.mem_of_getElem? h)
theorem S_bd {rs : List (List Int)} {ts : List Int} (hl : Low rs) (ht : ∀ t ∈ ts, 0 ≤ t ∧ t ≤ 2000) (k : Nat) : 0 ≤ S rs ts k ∧ S rs ts k ≤ 2000 * k := by
  induction k using Nat.strongRecOn with
  | _ k ih =>
    cases hk : rs[k]? with
    | none =>
      have : S rs ts k = 0 := by unfold S; rw [hk]; rfl
      rw [this]; omega
    | some xs =>
      have h := S_max (ts := ts) hl hk
      refine ⟨h.1, ?_⟩
      rcases h.2.2 with e | ⟨j, hj, e⟩
      · omega
      · have h1 := hl k xs hk _ hj
        have h2 := ih j (by omega)
        have h3 := nth_bd ht j
        rw [e]; omega
theorem endB_bd {rs : List (List Int)} {ts : List Int} (hl : Low rs) (ht : ∀ t ∈ ts, 0 ≤ t ∧ t ≤ 2000) (k : Nat) : 0 ≤ endB rs ts k ∧ endB rs ts k ≤ 2000 * k := by
  induction k with
  | zero => simp [endB]
  | succ k ih =>
    have h1 := S_bd hl ht k
    have h2 := nth_bd ht k
    unfold endB
    omega

/-! ### the other direction -/
/-- from j on, the longest chain behind step j -/
structure Back (rs : List (List Int)) (ts : List Int) (L : Nat → Int) : Prop where
  max : ∀ j, j < rs.length → IsMax (fun v => ∃ (k : Nat) (xs : List Int), rs[k]? = some xs ∧ (j : Int) ∈ xs ∧ v = L k + nth ts k) (L j)
theorem Back.le {rs : List (List Int)} {ts : List Int} {L : Nat → Int} (h : Back rs ts L) (hl : Low rs) (m : Nat) : ∀ k, k < rs.length → rs.length - k ≤ m → S rs ts k + nth ts k + L k ≤ endB rs ts rs.length := by
  induction m with
  | zero => intro k hk hm; omega
  | succ m ih =>
    intro k hk hm
    rcases (h.max k hk).2.2 with e | ⟨k', xs, hk', hm', e⟩
    · have := (endB_max rs ts rs.length).2.1 _ ⟨k, hk, rfl⟩
      omega
    · have h1 := hl k' xs hk' _ hm'
      have hkl := (List.getElem?_eq_some_iff.1 hk').1
      have h2 := ih k' hkl (by omega)
      have h3 := (S_max (ts := ts) hl hk').2.1 _ ⟨k, hm', rfl⟩
      omega
theorem Back.ge {rs : List (List Int)} {ts : List Int} {L : Nat → Int} (h : Back rs ts L) (hl : Low rs) {E : Int} (hE : ∀ k, k < rs.length → L k + nth ts k ≤ E) (h0 : 0 ≤ E) : endB rs ts rs.length ≤ E := by
  have key : ∀ m k, k ≤ m → k < rs.length → S rs ts k + nth ts k + L k ≤ E := by
    intro m
    induction m with
    | zero =>
      intro k hkm hk
      obtain rfl : k = 0 := by omega
      have hk' : rs[0]? = some rs[0] := List.getElem?_eq_getElem hk
      rcases (S_max (ts := ts) hl hk').2.2 with e | ⟨j, hj, e⟩
      · have := hE 0 hk; omega
      · have := hl 0 _ hk' _ hj; omega
    | succ m ih =>
      intro k hkm hk
      have hk' : rs[k]? = some rs[k] := List.getElem?_eq_getElem hk
      rcases (S_max (ts := ts) hl hk').2.2 with e | ⟨j, hj, e⟩
      · have := hE k hk; omega
      · have h1 := hl k _ hk' _ hj
        have h2 := ih j (by omega) (by omega)
        have h3 := (h.max j (by omega)).2.1 _ ⟨k, _, hk', hj, rfl⟩
        omega
  rcases (endB_max rs ts rs.length).2.2 with e | ⟨j, hj, e⟩
  · omega
  · have h1 := key j j (Nat.le_refl _) hj
    have h2 := (h.max j hj).1
    omega

/-! ### Latest -/
/-- out is what it is when the edges of Q have been looked at -/
structure LI (n : Nat) (ts : List Int) (E : Int) (L : Nat → Int) (Q : Nat → Nat → Prop) (out : List Int) : Prop where
  len : out.length = n
  at_ : ∀ x, x < n → ∃ M, IsMax (fun v => ∃ k, Q k x ∧ v = L k + nth ts k) M ∧ out[x]? = some (E - nth ts x - M)
theorem LI.step {n : Nat} {ts : List Int} {E : Int} {L : Nat → Int} {Q Q' : Nat → Nat → Prop} {out : List Int} (h : LI n ts E L Q out) {k x : Nat} (hx : x < n) {a b : Int} (ha : out[x]? = some a) (hb : b = E - nth ts k - L k) (hQ : ∀ k' x', Q' k' x' ↔ Q k' x' ∨ (k' = k ∧ x' = x)) :
    LI n ts E L Q' (out.set x (min a (b - nth ts x))) := by
  refine ⟨by rw [List.length_set, h.len], fun x' hx' => ?_⟩
  obtain ⟨M, hM, hout⟩ := h.at_ x' hx'
  by_cases he : x' = x
  · subst he
    rw [ha] at hout
    injection hout with hout
    refine ⟨max M (L k + nth ts k), (hM.add).congr fun v => ?_, ?_⟩
    · constructor
      · rintro (⟨k', h1, h2⟩ | h1)
        · exact ⟨k', (hQ _ _).2 (.inl h1), h2⟩
        · exact ⟨k, (hQ _ _).2 (.inr ⟨rfl, rfl⟩), h1⟩
      · rintro ⟨k', h1, h2⟩
        rcases (hQ _ _).1 h1 with h1 | ⟨rfl, _⟩
        · exact .inl ⟨k', h1, h2⟩
        · exact .inr h2
    · rw [List.getElem?_set_self (by rw [h.len]; exact hx')]
      congr 1
      omega
  · refine ⟨M, hM.congr fun v => ?_, by rw [List.getElem?_set_ne (by omega)]; exact hout⟩
    constructor
    · rintro ⟨k', h1, h2⟩; exact ⟨k', (hQ _ _).2 (.inl h1), h2⟩
    · rintro ⟨k', h1, h2⟩
      rcases (hQ _ _).1 h1 with h1 | ⟨_, h3⟩
      · exact ⟨k', h1, h2⟩
      · exact absurd h3 he
theorem LI.congr {n : Nat} {ts : List Int} {E : Int} {L : Nat → Int} {Q Q' : Nat → Nat → Prop} {out : List Int} (h : LI n ts E L Q out) (hQ : ∀ k x, Q' k x ↔ Q k x) : LI n ts E L Q' out :=
  ⟨h.len, fun x hx => by
    obtain ⟨M, hM, ho⟩ := h.at_ x hx
    exact ⟨M, hM.congr fun v => ⟨fun ⟨k, h1, h2⟩ => ⟨k, (hQ _ _).2 h1, h2⟩, fun ⟨k, h1, h2⟩ => ⟨k, (hQ _ _).1 h1, h2⟩⟩, ho⟩⟩
/-- an edge: x stands in the list of k -/
def Edge (rs : List (List Int)) (k x : Nat) : Prop := ∃ xs, rs[k]? = some xs ∧ (x : Int) ∈ xs
theorem LI.done {rs : List (List Int)} {ts : List Int} {E : Int} {L : Nat → Int} {Q : Nat → Nat → Prop} {out : List Int} (h : LI rs.length ts E L Q out) (hB : Back rs ts L) {x : Nat} (hx : x < rs.length) (hQ : ∀ k, Q k x ↔ Edge rs k x) : out[x]? = some (E - nth ts x - L x) := by
  obtain ⟨M, hM, ho⟩ := h.at_ x hx
  have : M = L x := by
    refine hM.uniq ((hB.max x hx).congr fun v => ?_)
    constructor
    · rintro ⟨k, xs, h1, h2, h3⟩; exact ⟨k, (hQ k).2 ⟨xs, h1, h2⟩, h3⟩
    · rintro ⟨k, h1, h2⟩
      obtain ⟨xs, h3, h4⟩ := (hQ k).1 h1
      exact ⟨k, xs, h3, h4, h2⟩
  rw [ho, this]
/-- the latest starts -/
def lateOf (n : Nat) (ts : List Int) (E : Int) (L : Nat → Int) : List Int := (List.range n).map fun (x : Nat) => E - nth ts (x : Int) - L x
theorem LI.eq {rs : List (List Int)} {ts : List Int} {E : Int} {L : Nat → Int} {out : List Int} (h : LI rs.length ts E L (Edge rs) out) (hB : Back rs ts L) : out = lateOf rs.length ts E L := by
  refine List.ext_getElem? fun x => ?_
  by_cases hx : x < rs.length
  · rw [h.done hB hx fun k => Iff.rfl]
    simp [lateOf, hx]
  · rw [List.getElem?_eq_none (by rw [h.len]; omega), List.getElem?_eq_none (by simp [lateOf]; omega)]
end Go.Proofs.Ytogjfmgecnoceaa
