/- Plain law: the document's reading of words byte by byte is the program's. No program in sight. -/
import Derived.Test.YtnaiflokmihmeaaDoorWnJ
namespace Go.Proofs.YtnaiflokmihmeaaDoor
open Go.RowKit
set_option linter.unusedVariables false
set_option linter.unusedSimpArgs false

/-- the class of the byte at a place; a blank stands behind the end -/
def cAt (l : List UInt8) (i : Nat) : Nat := (l[i]?).elim 98 fun x => clsN x.toNat
def kdC (c : Nat) : Nat := if c = 110 then 1 else if c = 100 then 2 else if c = 115 then 3 else 0
/-- the byte at i continues the word that began at b -/
def moreB (l : List UInt8) (b i : Nat) : Bool :=
  (cAt l b == 110 && cAt l i == 110) || (cAt l b == 100 && cAt l i == 100) || (cAt l b == 100 && cAt l i == 47 && !((l.drop b).take (i - b)).contains 47 && cAt l (i + 1) == 100)
def swW (go : Nat → Bool → List Wrd × Nat) (c i : Nat) : List Wrd × Nat :=
  if c = 110 ∨ c = 100 ∨ c = 115 then go i false else if c = 99 then go (i + 1) true else if c = 98 then go (i + 1) false else ([], 15)
def wG (s : ByteArray) : Nat → Nat → Nat → Bool → List Wrd → List Wrd × Nat
  | 0, _, _, _, acc => (acc, 0)
  | k + 1, i, b, cm, acc =>
    if cm then wG s k (i + 1) (i + 1) ((bl s)[i]?.elim false fun x => decide (x.toNat ≠ 10)) acc
    else if b < i then
      if moreB (bl s) b i then wG s k (i + 1) b false acc
      else if validB (kdC (cAt (bl s) b)) (s.extract b i) then swW (fun b' c' => wG s k (i + 1) b' c' (acc ++ [⟨kdC (cAt (bl s) b), b, s.extract b i⟩])) (cAt (bl s) i) i
      else ([], 2)
    else swW (fun b' c' => wG s k (i + 1) b' c' acc) (cAt (bl s) i) i
/-- from the byte at i on -/
def wF (s : ByteArray) (i b : Nat) (cm : Bool) (acc : List Wrd) : List Wrd × Nat := wG s (s.size + 1 - i) i b cm acc
section
variable {s : ByteArray} {i b : Nat} {cm : Bool} {acc : List Wrd}
theorem wF_end (h : s.size < i) : wF s i b cm acc = (acc, 0) := by unfold wF; rw [show s.size + 1 - i = 0 by omega]; rfl
theorem wF_step (h : i ≤ s.size) : wF s i b cm acc =
    if cm then wF s (i + 1) (i + 1) ((bl s)[i]?.elim false fun x => decide (x.toNat ≠ 10)) acc
    else if b < i then
      if moreB (bl s) b i then wF s (i + 1) b false acc
      else if validB (kdC (cAt (bl s) b)) (s.extract b i) then swW (fun b' c' => wF s (i + 1) b' c' (acc ++ [⟨kdC (cAt (bl s) b), b, s.extract b i⟩])) (cAt (bl s) i) i
      else ([], 2)
    else swW (fun b' c' => wF s (i + 1) b' c' acc) (cAt (bl s) i) i := by
  unfold wF
  rw [show s.size + 1 - i = (s.size + 1 - (i + 1)) + 1 by omega]
  conv => lhs; unfold wG
theorem wF_cm (h : i ≤ s.size) : wF s i b true acc = wF s (i + 1) (i + 1) ((bl s)[i]?.elim false fun x => decide (x.toNat ≠ 10)) acc := by rw [wF_step h]; rfl
theorem wF_sw (h : i ≤ s.size) (hb : ¬ b < i) : wF s i b false acc = swW (fun b' c' => wF s (i + 1) b' c' acc) (cAt (bl s) i) i := by
  rw [wF_step h, if_neg (by decide), if_neg hb]
theorem wF_more (h : i ≤ s.size) (hb : b < i) (hm : moreB (bl s) b i = true) : wF s i b false acc = wF s (i + 1) b false acc := by
  rw [wF_step h, if_neg (by decide), if_pos hb, if_pos hm]
theorem wF_bad (h : i ≤ s.size) (hb : b < i) (hm : moreB (bl s) b i = false) (hv : validB (kdC (cAt (bl s) b)) (s.extract b i) = false) : wF s i b false acc = ([], 2) := by
  rw [wF_step h, if_neg (by decide), if_pos hb, if_neg (by rw [hm]; decide), if_neg (by rw [hv]; decide)]
theorem wF_word (h : i ≤ s.size) (hb : b < i) (hm : moreB (bl s) b i = false) (hv : validB (kdC (cAt (bl s) b)) (s.extract b i) = true) : wF s i b false acc = wF s i i false (acc ++ [⟨kdC (cAt (bl s) b), b, s.extract b i⟩]) := by
  rw [wF_step h, if_neg (by decide), if_pos hb, if_neg (by rw [hm]; decide), if_pos hv, wF_sw h (Nat.lt_irrefl _)]
end
theorem cAt_some {l : List UInt8} {i : Nat} {x : UInt8} (h : l[i]? = some x) : cAt l i = clsN x.toNat := by unfold cAt; rw [h]; rfl
theorem cAt_none {l : List UInt8} {i : Nat} (h : l.length ≤ i) : cAt l i = 98 := by unfold cAt; rw [List.getElem?_eq_none h]; rfl
theorem cls_blank (x : UInt8) : isB x.toNat = true → clsN x.toNat = 98 := byte_all (p := fun x => isB x.toNat = true → clsN x.toNat = 98) (by decide +kernel) x
theorem cls_hash (x : UInt8) : x.toNat = 35 → clsN x.toNat = 99 := byte_all (p := fun x => x.toNat = 35 → clsN x.toNat = 99) (by decide +kernel) x
theorem cls_let (x : UInt8) : isL x.toNat = (clsN x.toNat == 110) := byte_all (p := fun x => isL x.toNat = (clsN x.toNat == 110)) (by decide +kernel) x
theorem cls_dig (x : UInt8) : isD x.toNat = (clsN x.toNat == 100) := byte_all (p := fun x => isD x.toNat = (clsN x.toNat == 100)) (by decide +kernel) x
theorem cls_slash (x : UInt8) : clsN x.toNat = 47 ↔ x = 47 := byte_all (p := fun x => clsN x.toNat = 47 ↔ x = 47) (by decide +kernel) x
theorem cls_kind (x : UInt8) : kindC x.toNat = kdC (clsN x.toNat) := byte_all (p := fun x => kindC x.toNat = kdC (clsN x.toNat)) (by decide +kernel) x
theorem cls_other (x : UInt8) : isB x.toNat = false → x.toNat ≠ 35 → kindC x.toNat = 0 → clsN x.toNat = 120 ∨ clsN x.toNat = 47 := byte_all (p := fun x => isB x.toNat = false → x.toNat ≠ 35 → kindC x.toNat = 0 → clsN x.toNat = 120 ∨ clsN x.toNat = 47) (by decide +kernel) x
theorem cls_sign (x : UInt8) : isL x.toNat = false → isD x.toNat = false → kindC x.toNat ≠ 0 → clsN x.toNat = 115 ∧ isS x.toNat = true := byte_all (p := fun x => isL x.toNat = false → isD x.toNat = false → kindC x.toNat ≠ 0 → clsN x.toNat = 115 ∧ isS x.toNat = true) (by decide +kernel) x
theorem cls_word (x : UInt8) : kindC x.toNat ≠ 0 → clsN x.toNat = 110 ∨ clsN x.toNat = 100 ∨ clsN x.toNat = 115 := byte_all (p := fun x => kindC x.toNat ≠ 0 → clsN x.toNat = 110 ∨ clsN x.toNat = 100 ∨ clsN x.toNat = 115) (by decide +kernel) x

/-- blanks and comments are passed over -/
theorem wF_skip {s : ByteArray} {acc : List Wrd} : ∀ (n i : Nat) (cm : Bool), s.size = i + n → wF s i i cm acc = wF s (i + skipL ((bl s).drop i) cm) (i + skipL ((bl s).drop i) cm) false acc := by
  intro n
  induction n with
  | zero =>
    intro i cm h
    have hl : (bl s).length ≤ i := by rw [bl_len]; omega
    rw [skip_end hl, Nat.add_zero]
    cases cm with
    | false => rfl
    | true =>
      rw [wF_cm (by omega), wF_end (by omega), wF_sw (by omega) (Nat.lt_irrefl _), cAt_none hl]
      unfold swW
      rw [if_neg (by decide), if_neg (by decide), if_pos rfl]; dsimp only; rw [wF_end (by omega)]
  | succ n ih =>
    intro i cm h
    have hi : i < s.size := by omega
    have hx := bl_at s hi
    generalize s[i] = x at hx
    cases cm with
    | true =>
      rw [wF_cm (by omega), hx, Option.elim_some]
      by_cases h10 : x.toNat = 10
      · rw [decide_eq_false (by omega), ih (i + 1) false (by omega), skip_out hx h10]
        have hb : isB x.toNat = true := by unfold isB; rw [decide_eq_true h10]; simp
        rw [skip_blank hx hb]
        rw [show i + (skipL ((bl s).drop (i + 1)) false + 1) = i + 1 + skipL ((bl s).drop (i + 1)) false by omega]
      · rw [decide_eq_true h10, ih (i + 1) true (by omega), skip_in hx h10]
        rw [show i + (skipL ((bl s).drop (i + 1)) true + 1) = i + 1 + skipL ((bl s).drop (i + 1)) true by omega]
    | false =>
      cases hb : isB x.toNat with
      | true =>
        rw [wF_sw (by omega) (Nat.lt_irrefl _), cAt_some hx, cls_blank x hb]
        unfold swW
        rw [if_neg (by decide), if_neg (by decide), if_pos rfl]; dsimp only; rw [ih (i + 1) false (by omega), skip_blank hx hb]
        rw [show i + (skipL ((bl s).drop (i + 1)) false + 1) = i + 1 + skipL ((bl s).drop (i + 1)) false by omega]
      | false =>
        by_cases h35 : x.toNat = 35
        · rw [wF_sw (by omega) (Nat.lt_irrefl _), cAt_some hx, cls_hash x h35]
          unfold swW
          rw [if_neg (by decide), if_pos rfl]; dsimp only; rw [ih (i + 1) true (by omega), skip_hash hx hb h35, skip_in hx (by omega)]
          rw [show i + (skipL ((bl s).drop (i + 1)) true + 1) = i + 1 + skipL ((bl s).drop (i + 1)) true by omega]
        · rw [skip_stop hx hb h35, Nat.add_zero]
theorem runN_in {P : Nat → Bool} : ∀ {l : List UInt8} {j : Nat}, j < runN P l → ∃ x, l[j]? = some x ∧ P x.toNat = true
  | [], j, h => by cases h
  | c :: r, j, h => by
    unfold runN at h
    rw [List.takeWhile_cons] at h
    split at h
    · rename_i hc
      cases j with
      | zero => exact ⟨c, rfl, hc⟩
      | succ j => exact runN_in (l := r) (by unfold runN; simpa using h)
    · cases h
theorem runN_out {P : Nat → Bool} : ∀ {l : List UInt8} {x : UInt8}, l[runN P l]? = some x → P x.toNat = false
  | [], x, h => by cases h
  | c :: r, x, h => by
    unfold runN at h
    rw [List.takeWhile_cons] at h
    split at h
    · exact runN_out (l := r) (by unfold runN; simpa using h)
    · rename_i hc
      simp at h
      subst h
      simpa using hc
theorem run_in {P : Nat → Bool} {l : List UInt8} {p i : Nat} (h1 : p ≤ i) (h2 : i < p + runN P (l.drop p)) : ∃ x, l[i]? = some x ∧ P x.toNat = true := by
  obtain ⟨x, hx, hp⟩ := runN_in (P := P) (l := l.drop p) (j := i - p) (by omega)
  rw [List.getElem?_drop, show p + (i - p) = i by omega] at hx
  exact ⟨x, hx, hp⟩
theorem run_out {P : Nat → Bool} {l : List UInt8} {p : Nat} {x : UInt8} (h : l[p + runN P (l.drop p)]? = some x) : P x.toNat = false :=
  runN_out (l := l.drop p) (by rw [List.getElem?_drop]; exact h)
theorem cAt_let {l : List UInt8} {i : Nat} : cAt l i = 110 ↔ ∃ x, l[i]? = some x ∧ isL x.toNat = true := by
  cases h : l[i]? with
  | none => unfold cAt; rw [h]; simp
  | some x => rw [cAt_some h]; simp [cls_let x]
theorem cAt_dig {l : List UInt8} {i : Nat} : cAt l i = 100 ↔ ∃ x, l[i]? = some x ∧ isD x.toNat = true := by
  cases h : l[i]? with
  | none => unfold cAt; rw [h]; simp
  | some x => rw [cAt_some h]; simp [cls_dig x]
theorem cAt_slash {l : List UInt8} {i : Nat} : cAt l i = 47 ↔ l[i]? = some 47 := by
  cases h : l[i]? with
  | none => unfold cAt; rw [h]; simp
  | some x => rw [cAt_some h]; simp [cls_slash x]
/-- a word is read byte by byte -/
theorem wF_run {s : ByteArray} {acc : List Wrd} {p E : Nat} (hE : E ≤ s.size) (hm : ∀ i, p < i → i < E → moreB (bl s) p i = true) : ∀ (n i : Nat), p < i → E = i + n → wF s i p false acc = wF s E p false acc := by
  intro n
  induction n with
  | zero => intro i _ h; rw [h]; rfl
  | succ n ih =>
    intro i hi h
    rw [wF_more (by omega) hi (hm i hi (by omega)), ih (i + 1) (by omega) (by omega)]
theorem endOf_more {l : List UInt8} {p : Nat} {x : UInt8} (hx : l[p]? = some x) (hk : kindC x.toNat ≠ 0) :
    (∀ i, p < i → i < endOf l p x.toNat → moreB l p i = true) ∧ moreB l p (endOf l p x.toNat) = false := by
  unfold endOf
  cases hL : isL x.toNat with
  | true =>
    rw [if_pos rfl]
    have h1 : cAt l p = 110 := cAt_let.2 ⟨x, hx, hL⟩
    constructor
    · intro i hi h
      have h2 : cAt l i = 110 := cAt_let.2 (run_in (by omega) h)
      unfold moreB; rw [h1, h2]; rfl
    · have h2 : cAt l (p + runN isL (l.drop p)) ≠ 110 := fun e => by
        obtain ⟨y, hy, hp⟩ := cAt_let.1 e
        rw [run_out hy] at hp; cases hp
      unfold moreB; rw [h1]; simp [h2]
  | false =>
    rw [if_neg (by decide)]
    cases hD : isD x.toNat with
    | true =>
      rw [if_pos rfl]
      have h1 : cAt l p = 100 := cAt_dig.2 ⟨x, hx, hD⟩
      have hin : ∀ i, p ≤ i → i < p + runN isD (l.drop p) → cAt l i = 100 := fun i h0 h => cAt_dig.2 (run_in h0 h)
      have hdm : ∀ i, cAt l i = 100 → moreB l p i = true := fun i h => by unfold moreB; rw [h1, h]; rfl
      have hno : ∀ e, (∀ y, l[e]? = some y → isD y.toNat = false) → cAt l e ≠ 100 := fun e h e2 => by
        obtain ⟨y, hy, hp⟩ := cAt_dig.1 e2
        rw [h y hy] at hp; cases hp
      obtain ⟨e1, he⟩ : ∃ e1, p + runN isD (l.drop p) = e1 := ⟨_, rfl⟩
      have hout : cAt l e1 ≠ 100 := hno e1 fun y hy => run_out (by rw [he]; exact hy)
      rw [he] at hin
      have h47 : ((l.drop p).take (e1 - p)).contains 47 = false := by
        rw [List.contains_eq_any_beq, List.any_eq_false]
        intro y hy e
        obtain ⟨j, hj⟩ := List.getElem?_of_mem hy
        rw [List.getElem?_take] at hj
        split at hj
        · rw [List.getElem?_drop] at hj
          have := hin (p + j) (by omega) (by omega)
          rw [cAt_some hj, ← eq_of_beq e] at this
          revert this; decide
        · cases hj
      cases hs : slashB l e1 with
      | false =>
        rw [slash_no hs he]
        refine ⟨fun i hi h => hdm i (hin i (by omega) h), ?_⟩
        unfold moreB
        rw [h1, h47]
        have hn : ¬ (cAt l e1 = 47 ∧ cAt l (e1 + 1) = 100) := fun h => by
          obtain ⟨y, hy, hp⟩ := cAt_dig.1 h.2
          unfold slashB at hs
          rw [cAt_slash.1 h.1, hy, Option.elim_some, hp] at hs
          simp at hs
        by_cases ha : cAt l e1 = 47
        · have hb : cAt l (e1 + 1) ≠ 100 := fun h => hn ⟨ha, h⟩
          simp [hout, hb]
        · simp [hout, ha]
      | true =>
        rw [slash_yes hs he]
        unfold slashB at hs
        rw [Bool.and_eq_true] at hs
        have hsl := of_decide_eq_true hs.1
        have hc47 : cAt l e1 = 47 := cAt_slash.2 hsl
        have hc1 : cAt l (e1 + 1) = 100 := by
          cases hy : l[e1 + 1]? with
          | none => rw [hy] at hs; cases hs.2
          | some y => rw [hy] at hs; exact cAt_dig.2 ⟨y, hy, hs.2⟩
        have hpe : p ≤ e1 := by omega
        constructor
        · intro i hi h
          rcases Nat.lt_trichotomy i e1 with h2 | h2 | h2
          · exact hdm i (hin i (by omega) h2)
          · subst h2
            unfold moreB
            rw [h1, hc47, h47, hc1]; rfl
          · exact hdm i (cAt_dig.2 (run_in (p := e1 + 1) (by omega) h))
        · have ho : cAt l (e1 + 1 + runN isD (l.drop (e1 + 1))) ≠ 100 := hno _ fun y hy => run_out hy
          have hc : ((l.drop p).take (e1 + 1 + runN isD (l.drop (e1 + 1)) - p)).contains 47 = true := by
            rw [List.contains_iff_mem]
            refine List.mem_of_getElem? (i := e1 - p) ?_
            rw [List.getElem?_take, if_pos (by omega), List.getElem?_drop, show p + (e1 - p) = e1 by omega]
            exact hsl
          unfold moreB
          rw [h1, hc]
          simp [ho]
    | false =>
      rw [if_neg (by decide)]
      have h1 := (cls_sign x hL hD hk).1
      rw [← cAt_some hx] at h1
      refine ⟨fun i hi h => absurd h (by omega), ?_⟩
      unfold moreB; rw [h1]; rfl
theorem valid_badW {k : Nat} {t : ByteArray} (h : k = 1 ∨ k = 2 ∨ (k = 3 ∧ signT (bl t) = true)) : validB k t = !badW k (bl t) := by
  unfold validB badW
  rcases h with rfl | rfl | ⟨rfl, h⟩
  · simp
  · simp
  · simp [h]
theorem ext_one {s : ByteArray} {p : Nat} (h : p < s.size) : bl (s.extract p (p + 1)) = [s[p]] := by
  rw [show bl (s.extract p (p + 1)) = ((bl s).drop p).take (p + 1 - p) from Lib.extract_data s p (p + 1), show p + 1 - p = 1 by omega, skip_drop (bl_at s h)]
  rfl
theorem signT_of (x : UInt8) : isS x.toNat = true → signT [x] = true := byte_all (p := fun x => isS x.toNat = true → signT [x] = true) (by decide +kernel) x
theorem skip_idem : ∀ (l : List UInt8) (b : Bool), skipL (l.drop (skipL l b)) false = 0
  | [], b => by unfold skipL; rfl
  | c :: r, true => by
    by_cases h10 : c.toNat = 10
    · rw [show skipL (c :: r) true = 1 + skipL r false by rw [skipL, if_pos h10], Nat.add_comm 1, List.drop_succ_cons]; exact skip_idem r false
    · rw [show skipL (c :: r) true = 1 + skipL r true by rw [skipL, if_neg h10], Nat.add_comm 1, List.drop_succ_cons]; exact skip_idem r true
  | c :: r, false => by
    by_cases hb : isB c.toNat = true
    · rw [show skipL (c :: r) false = 1 + skipL r false by rw [skipL, if_pos hb], Nat.add_comm 1, List.drop_succ_cons]; exact skip_idem r false
    · by_cases h35 : c.toNat = 35
      · rw [show skipL (c :: r) false = 1 + skipL r true by rw [skipL, if_neg hb, if_pos h35], Nat.add_comm 1, List.drop_succ_cons]; exact skip_idem r true
      · have h : skipL (c :: r) false = 0 := by rw [skipL, if_neg hb, if_neg h35]
        rw [h, List.drop_zero, h]
theorem skip_skip (l : List UInt8) (E : Nat) : skipL (l.drop (E + skipL (l.drop E) false)) false = 0 := by
  rw [← List.drop_drop]; exact skip_idem _ _
theorem wF_read {s : ByteArray} : ∀ (n p : Nat) (acc : List Wrd) (k : Nat), s.size ≤ p + n → p ≤ s.size → skipL ((bl s).drop p) false = 0 → s.size < k + p → wF s p p false acc = readG s k p acc := by
  intro n
  induction n with
  | zero =>
    intro p acc k hn hp h0 hk
    rw [readG_end (by omega), wF_sw (by omega) (Nat.lt_irrefl _), cAt_none (by rw [bl_len]; omega)]
    unfold swW
    rw [if_neg (by decide), if_neg (by decide), if_pos rfl]; dsimp only; rw [wF_end (by omega)]
  | succ n ih =>
    intro p acc k hn hp h0 hk
    rcases Nat.lt_or_ge p s.size with hlt | hge
    · have hx := bl_at s hlt
      have hb : isB (s[p]).toNat = false := by
        cases h : isB (s[p]).toNat with
        | false => rfl
        | true => rw [skip_blank hx h] at h0; omega
      have h35 : (s[p]).toNat ≠ 35 := fun e => by
        rw [skip_hash hx hb e, skip_in hx (by omega)] at h0; omega
      by_cases hk0 : kindC (s[p]).toNat = 0
      · rw [readG_bad hk hx (oneR_bad hk0) (by decide), wF_sw (by omega) (Nat.lt_irrefl _), cAt_some hx]
        unfold swW
        rcases cls_other _ hb h35 hk0 with e | e <;> rw [e] <;> rfl
      · have hEp := kind_end hx
        have hEl := endOf_le (n := (s[p]).toNat) (List.getElem?_eq_some_iff.1 hx).1
        rw [bl_len] at hEl
        obtain ⟨hm1, hm2⟩ := endOf_more hx hk0
        have hc := cls_word _ hk0
        rw [← cAt_some hx] at hc
        have hstart : wF s p p false acc = wF s (p + 1) p false acc := by
          rw [wF_sw (by omega) (Nat.lt_irrefl _)]
          unfold swW
          rw [if_pos hc]
        have hrun := wF_run (acc := acc) hEl hm1 (endOf (bl s) p (s[p]).toNat - (p + 1)) (p + 1) (by omega) (by omega)
        have hkd : kdC (cAt (bl s) p) = kindC (s[p]).toNat := by rw [cAt_some hx, cls_kind]
        have hval : validB (kindC (s[p]).toNat) (s.extract p (endOf (bl s) p (s[p]).toNat)) = !badW (kindC (s[p]).toNat) (bl (s.extract p (endOf (bl s) p (s[p]).toNat))) := by
          apply valid_badW
          cases hL : isL (s[p]).toNat with
          | true => left; unfold kindC; rw [hL]; rfl
          | false =>
            cases hD : isD (s[p]).toNat with
            | true => right; left; unfold kindC; rw [hL, hD]; rfl
            | false =>
              right; right
              have hs := (cls_sign _ hL hD hk0).2
              refine ⟨by unfold kindC; rw [hL, hD, hs]; rfl, ?_⟩
              have : endOf (bl s) p (s[p]).toNat = p + 1 := by unfold endOf; rw [hL, hD]; rfl
              rw [this, ext_one hlt]
              exact signT_of _ hs
        rw [hstart, hrun]
        cases hbw : badW (kindC (s[p]).toNat) (bl (s.extract p (endOf (bl s) p (s[p]).toNat))) with
        | true =>
          rw [hbw] at hval
          rw [readG_bad hk hx (oneR_no rfl hk0 rfl hbw) (by decide), wF_bad hEl hEp hm2 (by rw [hkd]; exact hval)]
        | false =>
          rw [hbw] at hval
          obtain ⟨k', hk', e⟩ := readG_go (acc := acc) hk hx (oneR_ok rfl hk0 rfl hbw)
          rw [e, wF_word hEl hEp hm2 (by rw [hkd]; exact hval), hkd]
          rw [wF_skip (s.size - endOf (bl s) p (s[p]).toNat) (endOf (bl s) p (s[p]).toNat) false (by omega)]
          have hle := nextP_le hx
          have hgt := nextP_gt hx
          rw [bl_len] at hle
          show wF s (nextP (bl s) p (s[p]).toNat) (nextP (bl s) p (s[p]).toNat) false _ = _
          refine ih _ _ k' (by omega) hle ?_ hk'
          exact skip_skip _ _
    · rw [readG_end (by omega), wF_sw (by omega) (Nat.lt_irrefl _), cAt_none (by rw [bl_len]; omega)]
      unfold swW
      rw [if_neg (by decide), if_neg (by decide), if_pos rfl]; dsimp only; rw [wF_end (by omega)]
theorem wF_all {s : ByteArray} (h : s.size ≤ 4096) : wF s 0 0 false [] = readR s := by
  unfold readR
  rw [if_neg (by omega), wF_skip s.size 0 false (by omega), List.drop_zero, Nat.zero_add]
  have hle := skipL_le (bl s) false
  rw [bl_len] at hle
  refine wF_read s.size _ _ _ (by omega) hle ?_ (by omega)
  have := skip_skip (bl s) 0
  rwa [List.drop_zero, Nat.zero_add] at this
end Go.Proofs.YtnaiflokmihmeaaDoor
