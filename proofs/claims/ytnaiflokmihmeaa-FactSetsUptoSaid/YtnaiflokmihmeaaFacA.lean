/- Facts: Valid (package fact). -/
import Derived.Test.YtnaiflokmihmeaaChecked
import Derived.Test.YtnaiflokmihmeaaInts
import Derived.Deep.LoopGhost
import Derived.Deep.QuietTactic
import Derived.BigQuiet
import Derived.WalkSpells
namespace Go.Proofs.Ytnaiflokmihmeaa
open Go.RowKit
set_option linter.unusedVariables false
set_option linter.unusedSimpArgs false

structure Ft where
  k : Int
  a : Int
  b : Int
deriving DecidableEq
def mA (k : Int) : Int := if k = 1 then 6 else if k = 2 then 4 else if k = 3 then 4 else if k = 4 then 8 else if k = 5 then 6 else if k = 6 then 4 else 0
def mB (k : Int) : Int := if k = 1 then 8 else if k = 2 then 6 else if k = 6 then 14 else 1
def okF (f : Ft) : Bool := decide (0 ≤ f.a ∧ f.a < mA f.k ∧ 0 ≤ f.b ∧ f.b < mB f.k)
def valF (f : Ft) : Value := .agg #[.int .i64 f.k, .int .i64 f.a, .int .i64 f.b]
theorem kinds (k : Int) : k = 1 ∨ k = 2 ∨ k = 3 ∨ k = 4 ∨ k = 5 ∨ k = 6 ∨ ((k == 1) = false ∧ (k == 2) = false ∧ (k == 3) = false ∧ (k == 4) = false ∧ (k == 5) = false ∧ (k == 6) = false) := by
  simp
  omega
theorem okF_a0 {k a b : Int} (h : a < 0) : okF ⟨k, a, b⟩ = false := by simp [okF]; omega
theorem okF_a1 {k a b : Int} (h : mA k ≤ a) : okF ⟨k, a, b⟩ = false := by simp [okF]; omega
theorem okF_b0 {k a b : Int} (h : b < 0) : okF ⟨k, a, b⟩ = false := by simp [okF]; omega
theorem okF_b1 {k a b : Int} (h : mB k ≤ b) : okF ⟨k, a, b⟩ = false := by simp [okF]; omega
theorem okF_ok {k a b : Int} (h1 : 0 ≤ a) (h2 : a < mA k) (h3 : 0 ≤ b) (h4 : b < mB k) : okF ⟨k, a, b⟩ = true := by simp [okF]; omega
theorem m_other {k : Int} (h1 : (k == 1) = false) (h2 : (k == 2) = false) (h3 : (k == 3) = false) (h4 : (k == 4) = false) (h5 : (k == 5) = false) (h6 : (k == 6) = false) : mA k = 0 ∧ mB k = 1 := by
  simp at *
  simp [mA, mB, h1, h2, h3, h4, h5, h6]
set_option maxHeartbeats 8000000 in
theorem valid_go (k a b A B : Int) (w : World) (hA : mA k = A) (hB : mB k = B) (hk : (k = 1 ∧ A = 6 ∧ B = 8) ∨ (k = 2 ∧ A = 4 ∧ B = 6) ∨ (k = 3 ∧ A = 4 ∧ B = 1) ∨ (k = 4 ∧ A = 8 ∧ B = 1) ∨ (k = 5 ∧ A = 6 ∧ B = 1) ∨ (k = 6 ∧ A = 4 ∧ B = 14) ∨ (A = 0 ∧ B = 1 ∧ (k == 1) = false ∧ (k == 2) = false ∧ (k == 3) = false ∧ (k == 4) = false ∧ (k == 5) = false ∧ (k == 6) = false)) :
    Calls Try.prog 24 #[.agg #[.int .i64 k, .int .i64 a, .int .i64 b]] w fun e w' => e = .returned (.bool (okF ⟨k, a, b⟩)) ∧ Below w.heap.size w w' := by
  by_cases h1 : a < 0
  · have HV := Lib.hid (okF_a0 (k := k) (b := b) h1)
    clear hA hB
    rcases hk with ⟨rfl, rfl, rfl⟩ | ⟨rfl, rfl, rfl⟩ | ⟨rfl, rfl, rfl⟩ | ⟨rfl, rfl, rfl⟩ | ⟨rfl, rfl, rfl⟩ | ⟨rfl, rfl, rfl⟩ | ⟨rfl, rfl, e1, e2, e3, e4, e5, e6⟩
    all_goals first
      | (exfalso; omega)
      | (go_enter Try.func24, Try.ntmps24
         go_wp2_with fail
         go_ret
         exact ⟨by rw [HV.out]; first | rfl | (simp; done) | (simp; omega), (Below.refl _ _).alloc (Nat.le_refl _) _⟩)
  · have h1' : 0 ≤ a := by omega
    by_cases h2 : A ≤ a
    · have HV := Lib.hid (okF_a1 (k := k) (b := b) (hA ▸ h2))
      clear hA hB h1
      rcases hk with ⟨rfl, rfl, rfl⟩ | ⟨rfl, rfl, rfl⟩ | ⟨rfl, rfl, rfl⟩ | ⟨rfl, rfl, rfl⟩ | ⟨rfl, rfl, rfl⟩ | ⟨rfl, rfl, rfl⟩ | ⟨rfl, rfl, e1, e2, e3, e4, e5, e6⟩
      all_goals first
        | (exfalso; omega)
        | (go_enter Try.func24, Try.ntmps24
           go_wp2_with fail
           go_ret
           exact ⟨by rw [HV.out]; first | rfl | (simp; done) | (simp; omega), (Below.refl _ _).alloc (Nat.le_refl _) _⟩)
    · have h2' : a < A := by omega
      by_cases h3 : b < 0
      · have HV := Lib.hid (okF_b0 (k := k) (a := a) h3)
        clear hA hB h1 h2
        rcases hk with ⟨rfl, rfl, rfl⟩ | ⟨rfl, rfl, rfl⟩ | ⟨rfl, rfl, rfl⟩ | ⟨rfl, rfl, rfl⟩ | ⟨rfl, rfl, rfl⟩ | ⟨rfl, rfl, rfl⟩ | ⟨rfl, rfl, e1, e2, e3, e4, e5, e6⟩
        all_goals first
          | (exfalso; omega)
          | (go_enter Try.func24, Try.ntmps24
             go_wp2_with fail
             go_ret
             exact ⟨by rw [HV.out]; first | rfl | (simp; done) | (simp; omega), (Below.refl _ _).alloc (Nat.le_refl _) _⟩)
      · have h3' : 0 ≤ b := by omega
        by_cases h4 : B ≤ b
        · have HV := Lib.hid (okF_b1 (k := k) (a := a) (hB ▸ h4))
          clear hA hB h1 h2 h3
          rcases hk with ⟨rfl, rfl, rfl⟩ | ⟨rfl, rfl, rfl⟩ | ⟨rfl, rfl, rfl⟩ | ⟨rfl, rfl, rfl⟩ | ⟨rfl, rfl, rfl⟩ | ⟨rfl, rfl, rfl⟩ | ⟨rfl, rfl, e1, e2, e3, e4, e5, e6⟩
          all_goals first
            | (exfalso; omega)
            | (go_enter Try.func24, Try.ntmps24
               go_wp2_with fail
               go_ret
               exact ⟨by rw [HV.out]; first | rfl | (simp; done) | (simp; omega), (Below.refl _ _).alloc (Nat.le_refl _) _⟩)
        · have h4' : b < B := by omega
          have HV := Lib.hid (okF_ok (k := k) h1' (hA ▸ h2') h3' (hB ▸ h4'))
          clear hA hB h1 h2 h3 h4
          rcases hk with ⟨rfl, rfl, rfl⟩ | ⟨rfl, rfl, rfl⟩ | ⟨rfl, rfl, rfl⟩ | ⟨rfl, rfl, rfl⟩ | ⟨rfl, rfl, rfl⟩ | ⟨rfl, rfl, rfl⟩ | ⟨rfl, rfl, e1, e2, e3, e4, e5, e6⟩
          all_goals first
            | (exfalso; omega)
            | (go_enter Try.func24, Try.ntmps24
               go_wp2_with fail
               go_ret
               exact ⟨by rw [HV.out]; first | rfl | (simp; done) | (simp; omega), (Below.refl _ _).alloc (Nat.le_refl _) _⟩)
theorem validF_any (f : Ft) (w : World) : Calls Try.prog 24 #[valF f] w fun e w' => e = .returned (.bool (okF f)) ∧ Below w.heap.size w w' := by
  obtain ⟨k, a, b⟩ := f
  refine valid_go k a b _ _ w rfl rfl ?_
  rcases kinds k with rfl | rfl | rfl | rfl | rfl | rfl | h
  · exact .inl ⟨rfl, rfl, rfl⟩
  · exact .inr (.inl ⟨rfl, rfl, rfl⟩)
  · exact .inr (.inr (.inl ⟨rfl, rfl, rfl⟩))
  · exact .inr (.inr (.inr (.inl ⟨rfl, rfl, rfl⟩)))
  · exact .inr (.inr (.inr (.inr (.inl ⟨rfl, rfl, rfl⟩))))
  · exact .inr (.inr (.inr (.inr (.inr (.inl ⟨rfl, rfl, rfl⟩)))))
  · obtain ⟨h1, h2, h3, h4, h5, h6⟩ := h
    have := m_other h1 h2 h3 h4 h5 h6
    exact .inr (.inr (.inr (.inr (.inr (.inr ⟨this.1, this.2, h1, h2, h3, h4, h5, h6⟩)))))
end Go.Proofs.Ytnaiflokmihmeaa
