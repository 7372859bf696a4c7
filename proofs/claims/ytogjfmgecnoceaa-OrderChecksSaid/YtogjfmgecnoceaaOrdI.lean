/- Walks: slices.Index, Contains, IndexFunc, ContainsFunc as Pick calls them. -/
import Derived.Test.YtogjfmgecnoceaaOrdA
import Derived.Test.YtogjfmgecnoceaaGrowI
namespace Go.Proofs.Ytogjfmgecnoceaa
open Go.RowKit
set_option linter.unusedVariables false
set_option linter.unusedSimpArgs false

def idxI (p : Int → Bool) (xs : List Int) : Int := match xs.findIdx? p with | some i => i | none => -1
theorem idxI_found {p : Int → Bool} {xs : List Int} {k : Nat} {x : Int} (hx : xs[k]? = some x) (hp : p x = true) (h : ∀ j < k, ∀ y, xs[j]? = some y → p y = false) : idxI p xs = k := by
  unfold idxI
  have : xs.findIdx? p = some k := by
    rw [List.findIdx?_eq_some_iff_getElem]
    obtain ⟨hl, hx2⟩ := List.getElem?_eq_some_iff.1 hx
    refine ⟨hl, by rw [hx2]; exact hp, fun j hj => ?_⟩
    have := h j hj _ (List.getElem?_eq_getElem (by omega))
    simp [this]
  rw [this]
theorem idxI_none {p : Int → Bool} {xs : List Int} (h : ∀ j < xs.length, ∀ y, xs[j]? = some y → p y = false) : idxI p xs = -1 := by
  unfold idxI
  have : xs.findIdx? p = none := by
    rw [List.findIdx?_eq_none_iff]
    intro x hx
    obtain ⟨j, hj⟩ := List.mem_iff_getElem?.1 hx
    exact h j (List.getElem?_eq_some_iff.1 hj).1 x hj
  rw [this]
theorem idxI_any (p : Int → Bool) (xs : List Int) : decide (0 ≤ idxI p xs) = xs.any p := by
  unfold idxI
  cases h : xs.findIdx? p with
  | none =>
    have h1 := List.findIdx?_eq_none_iff.1 h
    have : xs.any p = false := by rw [List.any_eq_false]; intro x hx; simp [h1 x hx]
    rw [this]; simp
  | some i =>
    obtain ⟨hl, hp, _⟩ := List.findIdx?_eq_some_iff_getElem.1 h
    have : xs.any p = true := List.any_eq_true.2 ⟨_, List.getElem_mem hl, hp⟩
    rw [this]; simp
theorem idxI_lo (p : Int → Bool) (xs : List Int) : -1 ≤ idxI p xs := by unfold idxI; split <;> omega

set_option maxHeartbeats 1000000 in
theorem indexI_any (xs : List Int) (A : Option Addr) (n c : Nat) (x : Int) (w : World) (hn : n = xs.length) (hm : n ≤ 9223372036854775807) (h : IntsAt w w.heap.size A xs) :
    Calls Try.prog 131 #[.slice A n c, .int .i64 x] w fun e w' => e = .returned (.int .i64 (idxI (fun y => x == y) xs)) ∧ w' = w := by
  have HN := Lib.hid hn; clear hn
  have H := Lib.hid h; clear h
  go_enter Try.func131, Try.ntmps131
  go_wp2_with fail
  go_loop [8] (fun i => ∃ k : Nat, k ≤ n ∧ i = .int .i64 k ∧ Hid (∀ j < k, ∀ y, xs[j]? = some y → (x == y) = false)) (fun i => n - (intOf i).toNat)
  case atStart => exact ⟨0, Nat.zero_le _, rfl, forall_lt_zero⟩
  case round =>
    obtain ⟨k, hk, rfl, hall⟩ := hrel
    by_cases hlt : k < n
    · obtain ⟨y, hy⟩ := get_of_lt HN.out hlt
      obtain ⟨b, off, rfl, hb, h0⟩ := H.out k y hy
      have HY := Lib.hid hy; clear hy
      by_cases hp : (x == y) = true
      · have HF := Lib.hid (idxI_found (p := fun y => x == y) HY.out hp hall.out)
        go_wp2_with fail
        go_ret
        exact ⟨ret_int HF.out.symm, rfl⟩
      · have hp' : (x == y) = false := by simpa using hp
        clear hp
        have HP := Lib.hid hp'
        go_wp2_with fail
        go_round
        case rel => exact ⟨k+1, by omega, by go_num, forall_lt_succ hall.out (fun y' hy' => by rw [HY.out] at hy'; cases hy'; exact HP.out)⟩
        case measure => simp [intOf]; omega
    · obtain rfl : k = n := by omega
      go_wp2_with fail
      go_ret
      exact ⟨ret_int (idxI_none (by rw [← HN.out]; exact hall.out)).symm, rfl⟩
theorem containsI_any (xs : List Int) (A : Option Addr) (n c : Nat) (x : Int) (w : World) (hn : n = xs.length) (hm : n ≤ 9223372036854775807) (h : IntsAt w w.heap.size A xs) {r : Bool} (hr : decide (x ∈ xs) = r) :
    Calls Try.prog 98 #[.slice A n c, .int .i64 x] w fun e w' => e = .returned (.bool r) ∧ w' = w := by
  have HC := Lib.hid (indexI_any xs A n c x w hn hm h)
  have HD : Hid (decide (0 ≤ idxI (fun y => x == y) xs) = r) := Lib.hid (by
    rw [idxI_any, ← hr, Bool.eq_iff_iff, List.any_eq_true, decide_eq_true_eq]
    constructor
    · rintro ⟨y, hy, e⟩; rw [beq_iff_eq.1 e]; exact hy
    · exact fun hx => ⟨x, hx, beq_self_eq_true _⟩)
  clear hn h hr
  obtain ⟨i, hi⟩ : ∃ i, idxI (fun y => x == y) xs = i := ⟨_, rfl⟩
  rw [hi] at HC HD
  clear hi
  go_enter Try.func98, Try.ntmps98
  go_wp2_with fail
  refine HC.out.mono ?_
  rintro e w' ⟨rfl, rfl⟩
  go_wp2_with fail
  go_ret
  exact ⟨ret_bool HD.out, rfl⟩

/-- the variable at p holds the integers ys -/
def VarI (w : World) (p : Nat) (ys : List Int) : Prop := ∃ A c, w.cell? ⟨p, 0, none⟩ = some (.slice A ys.length c) ∧ ys.length ≤ 9223372036854775807 ∧ IntsAt w w.heap.size A ys
theorem pick1_any (ys : List Int) (p : Nat) (x : Int) (w : World) (h : VarI w p ys) {r : Bool} (hr : (!decide (x ∈ ys)) = r) :
    Calls Try.prog 100 #[.int .i64 x, .pointer (some ⟨p, 0, none⟩)] w fun e w' => e = .returned (.bool r) ∧ w' = w := by
  obtain ⟨A, c, h0, h1, h2⟩ := h
  have HC := Lib.hid (containsI_any ys A ys.length c x w rfl h1 h2 (r := !r) (by rw [← hr]; simp))
  clear hr h2
  generalize ys.length = n at *
  go_enter Try.func100, Try.ntmps100
  go_wp2_with fail
  refine HC.out.mono ?_
  rintro e w' ⟨rfl, rfl⟩
  go_wp2_with fail
  go_ret
  exact ⟨ret_bool (by simp), rfl⟩

set_option maxHeartbeats 1000000 in
theorem indexF_any (xs ys : List Int) (A : Option Addr) (n c p : Nat) (w : World) (hn : n = xs.length) (hm : n ≤ 9223372036854775807) (h : IntsAt w w.heap.size A xs) (hv : VarI w p ys) :
    Calls Try.prog 133 #[.slice A n c, .func (.func 100) #[] #[.pointer (some ⟨p, 0, none⟩)]] w fun e w' => e = .returned (.int .i64 (idxI (fun y => (!decide (y ∈ ys))) xs)) ∧ w' = w := by
  have HN := Lib.hid hn; clear hn
  have H := Lib.hid h; clear h
  have HV := Lib.hid hv; clear hv
  go_enter Try.func133, Try.ntmps133
  go_wp2_with fail
  go_loop [8] (fun i => ∃ k : Nat, k ≤ n ∧ i = .int .i64 k ∧ Hid (∀ j < k, ∀ y, xs[j]? = some y → (!decide (y ∈ ys)) = false)) (fun i => n - (intOf i).toNat)
  case atStart => exact ⟨0, Nat.zero_le _, rfl, forall_lt_zero⟩
  case round =>
    obtain ⟨k, hk, rfl, hall⟩ := hrel
    by_cases hlt : k < n
    · obtain ⟨y, hy⟩ := get_of_lt HN.out hlt
      obtain ⟨b, off, rfl, hb, h0⟩ := H.out k y hy
      have HY := Lib.hid hy; clear hy
      by_cases hp : (!decide (y ∈ ys)) = true
      · have HF := Lib.hid (idxI_found (p := fun y => (!decide (y ∈ ys))) HY.out hp hall.out)
        have HC := Lib.hid (pick1_any ys p y w HV.out hp)
        clear hp
        go_wp2_with fail
        refine HC.out.mono ?_
        rintro e w' ⟨rfl, rfl⟩
        go_wp2_with fail
        go_ret
        exact ⟨ret_int HF.out.symm, rfl⟩
      · have hp' : (!decide (y ∈ ys)) = false := by simpa using hp
        clear hp
        have HP := Lib.hid hp'; clear hp'
        have HC := Lib.hid (pick1_any ys p y w HV.out HP.out)
        go_wp2_with fail
        refine HC.out.mono ?_
        rintro e w' ⟨rfl, rfl⟩
        go_wp2_with fail
        go_round
        case rel => exact ⟨k+1, by omega, by go_num, forall_lt_succ hall.out (fun y' hy' => by rw [HY.out] at hy'; cases hy'; exact HP.out)⟩
        case measure => simp [intOf]; omega
    · obtain rfl : k = n := by omega
      have HF := Lib.hid (idxI_none (p := fun y => (!decide (y ∈ ys))) (xs := xs) (by rw [← HN.out]; exact hall.out))
      go_wp2_with fail
      go_ret
      exact ⟨ret_int HF.out.symm, rfl⟩
theorem containsF_any (xs ys : List Int) (A : Option Addr) (n c p : Nat) (w : World) (hn : n = xs.length) (hm : n ≤ 9223372036854775807) (h : IntsAt w w.heap.size A xs) (hv : VarI w p ys) {r : Bool} (hr : xs.any (fun y => (!decide (y ∈ ys))) = r) :
    Calls Try.prog 99 #[.slice A n c, .func (.func 100) #[] #[.pointer (some ⟨p, 0, none⟩)]] w fun e w' => e = .returned (.bool r) ∧ w' = w := by
  have HC := Lib.hid (indexF_any xs ys A n c p w hn hm h hv)
  have HD : Hid (decide (0 ≤ idxI (fun y => (!decide (y ∈ ys))) xs) = r) := Lib.hid (by rw [idxI_any, hr])
  clear hn h hv hr
  obtain ⟨i, hi⟩ : ∃ i, idxI (fun y => (!decide (y ∈ ys))) xs = i := ⟨_, rfl⟩
  rw [hi] at HC HD
  clear hi
  go_enter Try.func99, Try.ntmps99
  go_wp2_with fail
  refine HC.out.mono ?_
  rintro e w' ⟨rfl, rfl⟩
  go_wp2_with fail
  go_ret
  exact ⟨ret_bool HD.out, rfl⟩
end Go.Proofs.Ytogjfmgecnoceaa
