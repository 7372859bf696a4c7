/- Walks: IsName, digits, run (package word). -/
import Derived.Test.YtdhhbpnnahdofaaDoorWnA
import Derived.Test.YtdhhbpnnahdofaaDoorLib
import Derived.Outline
import Derived.Deep.LoopGhost
import Derived.WalkSpells

namespace Go.Proofs.YtdhhbpnnahdofaaDoor
open Go.RowKit
set_option linter.unusedVariables false
set_option linter.unusedSimpArgs false

def bl (s : ByteArray) : List UInt8 := s.data.toList
theorem bl_len (s : ByteArray) : (bl s).length = s.size := by cases s; rfl
theorem bl_at (s : ByteArray) {j : Nat} (h : j < s.size) : (bl s)[j]? = some (s[j]'h) := by
  cases s with | mk a => simp [bl, ByteArray.getElem_eq_getElem_data] 
                         try exact ⟨h, rfl⟩
/-- a text of 1 to m bytes of a class -/
def shortB (P : Nat → Bool) (m : Nat) (l : List UInt8) : Bool := decide (1 ≤ l.length) && decide (l.length ≤ m) && l.all fun b => P b.toNat
theorem shortB_bad {P : Nat → Bool} {m : Nat} {l : List UInt8} {j : Nat} {x : UInt8} (h : l[j]? = some x) (hp : P x.toNat = false) : shortB P m l = false := by
  have : l.all (fun b => P b.toNat) = false := by
    rw [List.all_eq_false]
    exact ⟨x, List.mem_of_getElem? h, by rw [hp]; decide⟩
  unfold shortB
  rw [this, Bool.and_false]
theorem shortB_good {P : Nat → Bool} {m : Nat} {l : List UInt8} (h1 : 1 ≤ l.length) (h2 : l.length ≤ m) (h : ∀ (j : Nat) (x : UInt8), l[j]? = some x → P x.toNat = true) : shortB P m l = true := by
  have : l.all (fun b => P b.toNat) = true := by
    rw [List.all_eq_true]
    intro x hx
    obtain ⟨j, hj⟩ := List.getElem?_of_mem hx
    exact h j x hj
  unfold shortB
  rw [this, decide_eq_true h1, decide_eq_true h2]; rfl
theorem shortB_nil {P : Nat → Bool} {m : Nat} {l : List UInt8} (h : l.length = 0) : shortB P m l = false := by unfold shortB; rw [decide_eq_false (by omega)]; rfl
theorem shortB_long {P : Nat → Bool} {m : Nat} {l : List UInt8} (h : m < l.length) : shortB P m l = false := by unfold shortB; rw [decide_eq_false (show ¬ l.length ≤ m by omega)]; simp
def nameB (l : List UInt8) : Bool := shortB isL 12 l
def digsB (l : List UInt8) : Bool := shortB isD 9 l

set_option maxHeartbeats 2000000 in
theorem isName_any (s : ByteArray) (w : World) :
    Calls Tryd.prog 66 #[.string s] w fun e w' => e = .returned (.bool (nameB (bl s))) ∧ w' = w := by
  rcases Nat.eq_zero_or_pos s.size with h0 | h0
  · have HR := Lib.hid (show nameB (bl s) = false from shortB_nil (by rw [bl_len, h0]))
    have e0 : ((s.size : Int) == 0) = true := by rw [h0]; rfl
    clear h0
    go_enter Tryd.func66, Tryd.ntmps66
    go_wp2
    go_ret
    exact ⟨ret_bool HR.out.symm, rfl⟩
  have e0 : ((s.size : Int) == 0) = false := by rw [beq_eq_false_iff_ne]; omega
  rcases Nat.lt_or_ge 12 s.size with h1 | h1
  · have HR := Lib.hid (show nameB (bl s) = false from shortB_long (by rw [bl_len]; omega))
    go_enter Tryd.func66, Tryd.ntmps66
    go_wp2
    go_ret
    exact ⟨ret_bool HR.out.symm, rfl⟩
  have H0 := Lib.hid h0
  clear h0
  go_enter Tryd.func66, Tryd.ntmps66
  go_wp2_with fail
  clear e0
  go_loopg [14] s.size (fun k i wr => w = wr ∧ ∃ j : Nat, k = s.size - j ∧ j ≤ s.size ∧ i = .int .i64 j ∧ Hid (∀ i < j, ∀ x : UInt8, (bl s)[i]? = some x → isL x.toNat = true))
  case atStart => exact ⟨rfl, 0, rfl, Nat.zero_le _, rfl, fun i hi => absurd hi (Nat.not_lt_zero _)⟩
  case round =>
    obtain ⟨rfl, j, hgk, hj, rfl, hall⟩ := hrel
    have HGK := Lib.hid hgk; clear hgk
    by_cases hlt : j < s.size
    · have HB := Lib.hid (bl_at s hlt)
      cases hp : isL (s[j]'hlt).toNat
      · have HP := Lib.hid hp
        clear hp
        go_wp2_with (go_at_call 126; refine (letter_any _ _).mono ?_; rintro e w' ⟨rfl, hw⟩; rw [hw, HP.out])
        go_ret
        exact ⟨ret_bool (show nameB (bl s) = false from shortB_bad HB.out HP.out).symm, rfl⟩
      · have HP := Lib.hid hp
        clear hp
        go_wp2_with (go_at_call 126; refine (letter_any _ _).mono ?_; rintro e w' ⟨rfl, hw⟩; rw [hw, HP.out])
        go_roundg (s.size - (j + 1))
        case measure => rw [HGK.out]; omega
        case rel =>
          refine ⟨rfl, j + 1, rfl, by omega, by go_num, fun i hi x hx => ?_⟩
          rcases Nat.lt_or_eq_of_le (Nat.le_of_lt_succ hi) with h | h
          · exact hall.out i h x hx
          · subst h
            rw [HB.out] at hx
            injection hx with hx
            subst hx
            exact HP.out
    · go_wp2_with fail
      go_ret
      exact ⟨ret_bool (show nameB (bl s) = true from shortB_good (by have := H0.out; rw [bl_len]; omega) (by rw [bl_len]; omega) fun i x hx => hall.out i (by have := (List.getElem?_eq_some_iff.1 hx).1; rw [bl_len] at this; omega) x hx).symm, rfl⟩

set_option maxHeartbeats 2000000 in
theorem digits_any (s : ByteArray) (w : World) :
    Calls Tryd.prog 128 #[.string s] w fun e w' => e = .returned (.bool (digsB (bl s))) ∧ w' = w := by
  rcases Nat.eq_zero_or_pos s.size with h0 | h0
  · have HR := Lib.hid (show digsB (bl s) = false from shortB_nil (by rw [bl_len, h0]))
    have e0 : ((s.size : Int) == 0) = true := by rw [h0]; rfl
    clear h0
    go_enter Tryd.func128, Tryd.ntmps128
    go_wp2
    go_ret
    exact ⟨ret_bool HR.out.symm, rfl⟩
  have e0 : ((s.size : Int) == 0) = false := by rw [beq_eq_false_iff_ne]; omega
  rcases Nat.lt_or_ge 9 s.size with h1 | h1
  · have HR := Lib.hid (show digsB (bl s) = false from shortB_long (by rw [bl_len]; omega))
    go_enter Tryd.func128, Tryd.ntmps128
    go_wp2
    go_ret
    exact ⟨ret_bool HR.out.symm, rfl⟩
  have H0 := Lib.hid h0
  clear h0
  go_enter Tryd.func128, Tryd.ntmps128
  go_wp2_with fail
  clear e0
  go_loopg [14] s.size (fun k i wr => w = wr ∧ ∃ j : Nat, k = s.size - j ∧ j ≤ s.size ∧ i = .int .i64 j ∧ Hid (∀ i < j, ∀ x : UInt8, (bl s)[i]? = some x → isD x.toNat = true))
  case atStart => exact ⟨rfl, 0, rfl, Nat.zero_le _, rfl, fun i hi => absurd hi (Nat.not_lt_zero _)⟩
  case round =>
    obtain ⟨rfl, j, hgk, hj, rfl, hall⟩ := hrel
    have HGK := Lib.hid hgk; clear hgk
    by_cases hlt : j < s.size
    · have HB := Lib.hid (bl_at s hlt)
      cases hp : isD (s[j]'hlt).toNat
      · have HP := Lib.hid hp
        clear hp
        go_wp2_with (go_at_call 176; refine (digit_any _ _).mono ?_; rintro e w' ⟨rfl, hw⟩; rw [hw, HP.out])
        go_ret
        exact ⟨ret_bool (show digsB (bl s) = false from shortB_bad HB.out HP.out).symm, rfl⟩
      · have HP := Lib.hid hp
        clear hp
        go_wp2_with (go_at_call 176; refine (digit_any _ _).mono ?_; rintro e w' ⟨rfl, hw⟩; rw [hw, HP.out])
        go_roundg (s.size - (j + 1))
        case measure => rw [HGK.out]; omega
        case rel =>
          refine ⟨rfl, j + 1, rfl, by omega, by go_num, fun i hi x hx => ?_⟩
          rcases Nat.lt_or_eq_of_le (Nat.le_of_lt_succ hi) with h | h
          · exact hall.out i h x hx
          · subst h
            rw [HB.out] at hx
            injection hx with hx
            subst hx
            exact HP.out
    · go_wp2_with fail
      go_ret
      exact ⟨ret_bool (show digsB (bl s) = true from shortB_good (by have := H0.out; rw [bl_len]; omega) (by rw [bl_len]; omega) fun i x hx => hall.out i (by have := (List.getElem?_eq_some_iff.1 hx).1; rw [bl_len] at this; omega) x hx).symm, rfl⟩

/-- how many of the bytes ahead are of a class -/
def runN (P : Nat → Bool) (l : List UInt8) : Nat := (l.takeWhile fun b => P b.toNat).length
theorem runN_at {P : Nat → Bool} {l : List UInt8} {j : Nat} {x : UInt8} (h : l[j]? = some x) (hp : P x.toNat = true) : runN P (l.drop j) = runN P (l.drop (j + 1)) + 1 := by
  have hj := (List.getElem?_eq_some_iff.1 h)
  obtain ⟨hl, e⟩ := hj
  rw [List.drop_eq_getElem_cons hl, e]
  unfold runN
  rw [List.takeWhile_cons_of_pos (by exact hp)]
  rfl
theorem runN_stop {P : Nat → Bool} {l : List UInt8} {j : Nat} {x : UInt8} (h : l[j]? = some x) (hp : P x.toNat = false) : runN P (l.drop j) = 0 := by
  obtain ⟨hl, e⟩ := List.getElem?_eq_some_iff.1 h
  rw [List.drop_eq_getElem_cons hl, e]
  unfold runN
  rw [List.takeWhile_cons_of_neg (by rw [hp]; decide)]
  rfl
theorem runN_end {P : Nat → Bool} {l : List UInt8} {j : Nat} (h : l.length ≤ j) : runN P (l.drop j) = 0 := by
  rw [List.drop_eq_nil_of_le h]; rfl

set_option maxHeartbeats 2000000 in
theorem run_letter (s : ByteArray) (at_ : Nat) (w : World) (hs : s.size ≤ 1000000) (ha : at_ ≤ s.size) :
    Calls Tryd.prog 178 #[.string s, .int .i64 at_, .func (.func 126) #[] #[]] w fun e w' => e = .returned (.int .i64 ((at_ + runN isL ((bl s).drop at_) : Nat) : Int)) ∧ w' = w := by
  go_enter Tryd.func178, Tryd.ntmps178
  go_wp2_with fail
  go_loopg [1] (s.size - at_) (fun k i wr => w = wr ∧ ∃ p : Nat, k = s.size - p ∧ p ≤ s.size ∧ i = .int .i64 p ∧ Hid (at_ + runN isL ((bl s).drop at_) = p + runN isL ((bl s).drop p)))
  case atStart => exact ⟨rfl, at_, rfl, ha, rfl, rfl⟩
  case round =>
    obtain ⟨rfl, p, hgk, hp, rfl, hr⟩ := hrel
    have HGK := Lib.hid hgk; clear hgk
    by_cases hlt : p < s.size
    · have HB := Lib.hid (bl_at s hlt)
      cases hc : isL (s[p]'hlt).toNat
      · have HP := Lib.hid hc
        clear hc
        go_wp2_with (go_at_call 126; refine (letter_any _ _).mono ?_; rintro e w' ⟨rfl, hw⟩; rw [hw, HP.out])
        go_ret
        exact ⟨ret_int (by rw [hr.out, runN_stop HB.out HP.out, Nat.add_zero]), rfl⟩
      · have HP := Lib.hid hc
        clear hc
        go_wp2_with (go_at_call 126; refine (letter_any _ _).mono ?_; rintro e w' ⟨rfl, hw⟩; rw [hw, HP.out])
        go_roundg (s.size - (p + 1))
        case measure => rw [HGK.out]; omega
        case rel => exact ⟨rfl, p + 1, rfl, by omega, by go_num, Lib.hid (by rw [hr.out, runN_at HB.out HP.out]; omega)⟩
    · go_wp2_with fail
      go_ret
      exact ⟨ret_int (by rw [hr.out, runN_end (by rw [bl_len]; omega), Nat.add_zero]), rfl⟩

set_option maxHeartbeats 2000000 in
theorem run_digit (s : ByteArray) (at_ : Nat) (w : World) (hs : s.size ≤ 1000000) (ha : at_ ≤ s.size) :
    Calls Tryd.prog 178 #[.string s, .int .i64 at_, .func (.func 176) #[] #[]] w fun e w' => e = .returned (.int .i64 ((at_ + runN isD ((bl s).drop at_) : Nat) : Int)) ∧ w' = w := by
  go_enter Tryd.func178, Tryd.ntmps178
  go_wp2_with fail
  go_loopg [1] (s.size - at_) (fun k i wr => w = wr ∧ ∃ p : Nat, k = s.size - p ∧ p ≤ s.size ∧ i = .int .i64 p ∧ Hid (at_ + runN isD ((bl s).drop at_) = p + runN isD ((bl s).drop p)))
  case atStart => exact ⟨rfl, at_, rfl, ha, rfl, rfl⟩
  case round =>
    obtain ⟨rfl, p, hgk, hp, rfl, hr⟩ := hrel
    have HGK := Lib.hid hgk; clear hgk
    by_cases hlt : p < s.size
    · have HB := Lib.hid (bl_at s hlt)
      cases hc : isD (s[p]'hlt).toNat
      · have HP := Lib.hid hc
        clear hc
        go_wp2_with (go_at_call 176; refine (digit_any _ _).mono ?_; rintro e w' ⟨rfl, hw⟩; rw [hw, HP.out])
        go_ret
        exact ⟨ret_int (by rw [hr.out, runN_stop HB.out HP.out, Nat.add_zero]), rfl⟩
      · have HP := Lib.hid hc
        clear hc
        go_wp2_with (go_at_call 176; refine (digit_any _ _).mono ?_; rintro e w' ⟨rfl, hw⟩; rw [hw, HP.out])
        go_roundg (s.size - (p + 1))
        case measure => rw [HGK.out]; omega
        case rel => exact ⟨rfl, p + 1, rfl, by omega, by go_num, Lib.hid (by rw [hr.out, runN_at HB.out HP.out]; omega)⟩
    · go_wp2_with fail
      go_ret
      exact ⟨ret_int (by rw [hr.out, runN_end (by rw [bl_len]; omega), Nat.add_zero]), rfl⟩
end Go.Proofs.YtdhhbpnnahdofaaDoor
