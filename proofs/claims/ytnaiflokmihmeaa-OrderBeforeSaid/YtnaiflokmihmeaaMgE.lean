/- Facts: Valid (package fact). -/
/- Facts: FactIs (reference). -/
/- Facts: two facts in variables. -/
/- Slices of facts. -/
/- Facts: a row of facts of the call's own. -/
/- Facts that came in. -/
import Derived.Test.YtnaiflokmihmeaaChecked
import Derived.Test.YtnaiflokmihmeaaMgA
import Derived.Deep.LoopGhost
import Derived.Deep.QuietTactic
import Derived.BigQuiet
import Derived.WalkSpells
import Derived.ChangeKeysEq
import Derived.Test.YtnaiflokmihmeaaMgB
namespace Go.Proofs.Ytnaiflokmihmeaa
open Go.RowKit
set_option linter.unusedVariables false
set_option linter.unusedSimpArgs false

structure Ft where
  k : Int
  a : Int
  b : Int
deriving DecidableEq
def mA (k : Int) : Int := if k = 1 then 6 else if k = 2 then 4 else if k = 3 then 4 else if k = 4 then 8 else if k = 5 then 6 else if k = 6 then 4 else 0
def mB (k : Int) : Int := if k = 1 then 8 else if k = 2 then 6 else if k = 6 then 14 else 1
def okF (f : Ft) : Bool := decide (0 ≤ f.a ∧ f.a < mA f.k ∧ 0 ≤ f.b ∧ f.b < mB f.k)
def valF (f : Ft) : Value := .agg #[.int .i64 f.k, .int .i64 f.a, .int .i64 f.b]
theorem kinds (k : Int) : k = 1 ∨ k = 2 ∨ k = 3 ∨ k = 4 ∨ k = 5 ∨ k = 6 ∨ ((k == 1) = false ∧ (k == 2) = false ∧ (k == 3) = false ∧ (k == 4) = false ∧ (k == 5) = false ∧ (k == 6) = false) := by
  simp
  omega
theorem okF_a0 {k a b : Int} (h : a < 0) : okF ⟨k, a, b⟩ = false := by simp [okF]; omega
theorem okF_a1 {k a b : Int} (h : mA k ≤ a) : okF ⟨k, a, b⟩ = false := by simp [okF]; omega
theorem okF_b0 {k a b : Int} (h : b < 0) : okF ⟨k, a, b⟩ = false := by simp [okF]; omega
theorem okF_b1 {k a b : Int} (h : mB k ≤ b) : okF ⟨k, a, b⟩ = false := by simp [okF]; omega
theorem okF_ok {k a b : Int} (h1 : 0 ≤ a) (h2 : a < mA k) (h3 : 0 ≤ b) (h4 : b < mB k) : okF ⟨k, a, b⟩ = true := by simp [okF]; omega
theorem m_other {k : Int} (h1 : (k == 1) = false) (h2 : (k == 2) = false) (h3 : (k == 3) = false) (h4 : (k == 4) = false) (h5 : (k == 5) = false) (h6 : (k == 6) = false) : mA k = 0 ∧ mB k = 1 := by
  simp at *
  simp [mA, mB, h1, h2, h3, h4, h5, h6]
set_option maxHeartbeats 8000000 in
theorem valid_go (k a b A B : Int) (w : World) (hA : mA k = A) (hB : mB k = B) (hk : (k = 1 ∧ A = 6 ∧ B = 8) ∨ (k = 2 ∧ A = 4 ∧ B = 6) ∨ (k = 3 ∧ A = 4 ∧ B = 1) ∨ (k = 4 ∧ A = 8 ∧ B = 1) ∨ (k = 5 ∧ A = 6 ∧ B = 1) ∨ (k = 6 ∧ A = 4 ∧ B = 14) ∨ (A = 0 ∧ B = 1 ∧ (k == 1) = false ∧ (k == 2) = false ∧ (k == 3) = false ∧ (k == 4) = false ∧ (k == 5) = false ∧ (k == 6) = false)) :
    Calls Try.prog 24 #[.agg #[.int .i64 k, .int .i64 a, .int .i64 b]] w fun e w' => e = .returned (.bool (okF ⟨k, a, b⟩)) ∧ Below w.heap.size w w' := by
  by_cases h1 : a < 0
  · have HV := Lib.hid (okF_a0 (k := k) (b := b) h1)
    clear hA hB
    rcases hk with ⟨rfl, rfl, rfl⟩ | ⟨rfl, rfl, rfl⟩ | ⟨rfl, rfl, rfl⟩ | ⟨rfl, rfl, rfl⟩ | ⟨rfl, rfl, rfl⟩ | ⟨rfl, rfl, rfl⟩ | ⟨rfl, rfl, e1, e2, e3, e4, e5, e6⟩
    all_goals first
      | (exfalso; omega)
      | (go_enter Try.func24, Try.ntmps24
         go_wp2_with fail
         go_ret
         exact ⟨by rw [HV.out]; first | rfl | (simp; done) | (simp; omega), (Below.refl _ _).alloc (Nat.le_refl _) _⟩)
  · have h1' : 0 ≤ a := by omega
    by_cases h2 : A ≤ a
    · have HV := Lib.hid (okF_a1 (k := k) (b := b) (hA ▸ h2))
      clear hA hB h1
      rcases hk with ⟨rfl, rfl, rfl⟩ | ⟨rfl, rfl, rfl⟩ | ⟨rfl, rfl, rfl⟩ | ⟨rfl, rfl, rfl⟩ | ⟨rfl, rfl, rfl⟩ | ⟨rfl, rfl, rfl⟩ | ⟨rfl, rfl, e1, e2, e3, e4, e5, e6⟩
      all_goals first
        | (exfalso; omega)
        | (go_enter Try.func24, Try.ntmps24
           go_wp2_with fail
           go_ret
           exact ⟨by rw [HV.out]; first | rfl | (simp; done) | (simp; omega), (Below.refl _ _).alloc (Nat.le_refl _) _⟩)
    · have h2' : a < A := by omega
      by_cases h3 : b < 0
      · have HV := Lib.hid (okF_b0 (k := k) (a := a) h3)
        clear hA hB h1 h2
        rcases hk with ⟨rfl, rfl, rfl⟩ | ⟨rfl, rfl, rfl⟩ | ⟨rfl, rfl, rfl⟩ | ⟨rfl, rfl, rfl⟩ | ⟨rfl, rfl, rfl⟩ | ⟨rfl, rfl, rfl⟩ | ⟨rfl, rfl, e1, e2, e3, e4, e5, e6⟩
        all_goals first
          | (exfalso; omega)
          | (go_enter Try.func24, Try.ntmps24
             go_wp2_with fail
             go_ret
             exact ⟨by rw [HV.out]; first | rfl | (simp; done) | (simp; omega), (Below.refl _ _).alloc (Nat.le_refl _) _⟩)
      · have h3' : 0 ≤ b := by omega
        by_cases h4 : B ≤ b
        · have HV := Lib.hid (okF_b1 (k := k) (a := a) (hB ▸ h4))
          clear hA hB h1 h2 h3
          rcases hk with ⟨rfl, rfl, rfl⟩ | ⟨rfl, rfl, rfl⟩ | ⟨rfl, rfl, rfl⟩ | ⟨rfl, rfl, rfl⟩ | ⟨rfl, rfl, rfl⟩ | ⟨rfl, rfl, rfl⟩ | ⟨rfl, rfl, e1, e2, e3, e4, e5, e6⟩
          all_goals first
            | (exfalso; omega)
            | (go_enter Try.func24, Try.ntmps24
               go_wp2_with fail
               go_ret
               exact ⟨by rw [HV.out]; first | rfl | (simp; done) | (simp; omega), (Below.refl _ _).alloc (Nat.le_refl _) _⟩)
        · have h4' : b < B := by omega
          have HV := Lib.hid (okF_ok (k := k) h1' (hA ▸ h2') h3' (hB ▸ h4'))
          clear hA hB h1 h2 h3 h4
          rcases hk with ⟨rfl, rfl, rfl⟩ | ⟨rfl, rfl, rfl⟩ | ⟨rfl, rfl, rfl⟩ | ⟨rfl, rfl, rfl⟩ | ⟨rfl, rfl, rfl⟩ | ⟨rfl, rfl, rfl⟩ | ⟨rfl, rfl, e1, e2, e3, e4, e5, e6⟩
          all_goals first
            | (exfalso; omega)
            | (go_enter Try.func24, Try.ntmps24
               go_wp2_with fail
               go_ret
               exact ⟨by rw [HV.out]; first | rfl | (simp; done) | (simp; omega), (Below.refl _ _).alloc (Nat.le_refl _) _⟩)
theorem validF_any (f : Ft) (w : World) : Calls Try.prog 24 #[valF f] w fun e w' => e = .returned (.bool (okF f)) ∧ Below w.heap.size w w' := by
  obtain ⟨k, a, b⟩ := f
  refine valid_go k a b _ _ w rfl rfl ?_
  rcases kinds k with rfl | rfl | rfl | rfl | rfl | rfl | h
  · exact .inl ⟨rfl, rfl, rfl⟩
  · exact .inr (.inl ⟨rfl, rfl, rfl⟩)
  · exact .inr (.inr (.inl ⟨rfl, rfl, rfl⟩))
  · exact .inr (.inr (.inr (.inl ⟨rfl, rfl, rfl⟩)))
  · exact .inr (.inr (.inr (.inr (.inl ⟨rfl, rfl, rfl⟩))))
  · exact .inr (.inr (.inr (.inr (.inr (.inl ⟨rfl, rfl, rfl⟩)))))
  · obtain ⟨h1, h2, h3, h4, h5, h6⟩ := h
    have := m_other h1 h2 h3 h4 h5 h6
    exact .inr (.inr (.inr (.inr (.inr (.inr ⟨this.1, this.2, h1, h2, h3, h4, h5, h6⟩)))))
end Go.Proofs.Ytnaiflokmihmeaa

namespace Go.Proofs.Ytnaiflokmihmeaa
open Go.RowKit
set_option linter.unusedVariables false
set_option linter.unusedSimpArgs false

abbrev enP (p : Int × Int) : Value := .agg #[.int .i64 p.1, .int .i64 p.2]
abbrev MP (w : World) (b : Nat) (l : List (Int × (Int × Int))) : Prop := MapOf (fun x : Int => .int .i64 x) enP w b l
theorem kInt_ : KLaw Try.prog 3 (fun x : Int => .int .i64 x) := klaw_int Try.underlying3
theorem zP (w : World) : (zeroValue 92).run Try.prog w = .ok (.agg #[.int .i64 0, .int .i64 0]) w := by kernel_rfl
def tabP : List (Int × (Int × Int)) := aput (aput (aput (aput (aput (aput [] 1 (6, 8)) 2 (4, 6)) 3 (4, 1)) 4 (8, 1)) 5 (6, 1)) 6 (4, 14)
def mB' (k : Int) : Int := if mA k = 0 then 0 else mB k
theorem tabP_get (k : Int) : ((aget tabP k).map enP).getD (.agg #[.int .i64 0, .int .i64 0]) = .agg #[.int .i64 (mA k), .int .i64 (mB' k)] := by
  have e : tabP = [(1, (6, 8)), (2, (4, 6)), (3, (4, 1)), (4, (8, 1)), (5, (6, 1)), (6, (4, 14))] := by decide
  rw [e]
  rcases kinds k with rfl | rfl | rfl | rfl | rfl | rfl | ⟨h1, h2, h3, h4, h5, h6⟩
  · rfl
  · rfl
  · rfl
  · rfl
  · rfl
  · rfl
  · have h := m_other h1 h2 h3 h4 h5 h6
    simp at h1 h2 h3 h4 h5 h6
    simp [aget, h1, h2, h3, h4, h5, h6, mB', h.1]
theorem okF_b1' {k a b : Int} (h0 : 0 ≤ b) (h : mB' k ≤ b) : okF ⟨k, a, b⟩ = false := by
  unfold mB' at h
  split at h
  · rename_i h1
    simp [okF, h1]; omega
  · exact okF_b1 h

theorem okF_fin {k a b : Int} (h1 : 0 ≤ a) (h2 : a < mA k) (h3 : 0 ≤ b) : okF ⟨k, a, b⟩ = decide (b < mB' k) := by
  have h0 : mA k ≠ 0 := by omega
  unfold mB'
  rw [if_neg h0]
  simp [okF, h1, h2, h3]

set_option maxHeartbeats 8000000 in
set_option maxRecDepth 20000 in
theorem factis_any (f : Ft) (w : World) : Calls Try.prog 20 #[valF f] w fun e w' => e = .returned (.bool (okF f)) ∧ Below w.heap.size w w' := by
  obtain ⟨k, a, b⟩ := f
  show Calls Try.prog 20 #[.agg #[.int .i64 k, .int .i64 a, .int .i64 b]] w fun e w' => e = .returned (.bool (okF ⟨k, a, b⟩)) ∧ Below w.heap.size w w'
  obtain ⟨w1, hw1⟩ : ∃ w1, w.alloc (.cells #[.int .i64 k, .int .i64 a, .int .i64 b] 45) = w1 := ⟨_, rfl⟩
  have hB1 : Below w.heap.size w w1 := by rw [← hw1]; exact (Below.refl _ _).alloc (Nat.le_refl _) _
  have hs1 : w1.heap.size = w.heap.size + 1 := by rw [← hw1]; simp
  have hK1 : Blk w1 w.heap.size 45 #[.int .i64 k, .int .i64 a, .int .i64 b] := by rw [← hw1]; exact Blk.new _ _ _
  have hM0 : MP (w1.alloc (.map #[] 0)) (w.heap.size + 1) [] := hs1 ▸ MapOf.made w1
  obtain ⟨w2, r2, hM2, g2⟩ := hM0.update kInt_ Try.underlying93 1 (6, 8)
  obtain ⟨w3, r3, hM3, g3⟩ := hM2.update kInt_ Try.underlying93 2 (4, 6)
  obtain ⟨w4, r4, hM4, g4⟩ := hM3.update kInt_ Try.underlying93 3 (4, 1)
  obtain ⟨w5, r5, hM5, g5⟩ := hM4.update kInt_ Try.underlying93 4 (8, 1)
  obtain ⟨w6, r6, hM6, g6⟩ := hM5.update kInt_ Try.underlying93 5 (6, 1)
  obtain ⟨w7, r7, hM7, g7⟩ := hM6.update kInt_ Try.underlying93 6 (4, 14)
  have hlk := hM7.lookup kInt_ Try.underlying93 (zP w7) k false (v := .agg #[.int .i64 (mA k), .int .i64 (mB' k)]) (tabP_get k) rfl
  simp only [Bool.false_eq_true, if_false] at hlk
  have hB7 : Below w1.heap.size w1 w7 := by
    have h0 : Below w1.heap.size w1 (w1.alloc (.map #[] 0)) := (Below.refl _ _).alloc (Nat.le_refl _) _
    have hk : ∀ k, some w1.heap.size = some k → w1.heap.size ≤ k := fun k e => by injection e with e; omega
    rw [← hs1] at g2 g3 g4 g5 g6 g7
    have h2 := h0.grown g2 h0.size hk
    have h3 := h2.grown g3 h2.size hk
    have h4 := h3.grown g4 h3.size hk
    have h5 := h4.grown g5 h4.size hk
    have h6 := h5.grown g6 h5.size hk
    exact h6.grown g7 h6.size hk
  have hK7 : Blk w7 w.heap.size 45 #[.int .i64 k, .int .i64 a, .int .i64 b] := hK1.belowB hB7
  have HB := Lib.hid (hB1.trans (hB7.mono hB1.size))
  have k0 := hK7.cell 0
  have k1 := hK7.cell 1
  have k2 := hK7.cell 2
  have hlt := hK7.lt
  simp at k0 k1 k2
  clear hM0 hM2 hM3 hM4 hM5 hM6 hM7 g2 g3 g4 g5 g6 g7 hB1 hB7
  rw [← hw1] at r2
  clear hw1
  have hmm := @run_makeMap Try.prog
  go_enter Try.func20, Try.ntmps20
  go_wp2_with fail
  all_goals
    go_ret
    refine ⟨?_, ?_⟩
    · first
        | (rw [okF_fin (by assumption) (by assumption) (by assumption)]; rfl)
        | (rw [okF_a0 (by assumption)]; rfl)
        | (rw [okF_a1 (by assumption)]; rfl)
        | (rw [okF_b0 (by assumption)]; rfl)
    · have hle := HB.out.size
      exact HB.out.alloc hle _
end Go.Proofs.Ytnaiflokmihmeaa

namespace Go.Proofs.Ytnaiflokmihmeaa
open Go.RowKit
set_option linter.unusedVariables false
set_option linter.unusedSimpArgs false

abbrev celF (f : Ft) : Array Value := #[.int .i64 f.k, .int .i64 f.a, .int .i64 f.b]
theorem two_boxes (w : World) (f g : Ft) : Below w.heap.size w ((w.alloc (.cells (celF f) 45)).alloc (.cells (celF g) 45)) ∧ Blk ((w.alloc (.cells (celF f) 45)).alloc (.cells (celF g) 45)) w.heap.size 45 (celF f) ∧ Blk ((w.alloc (.cells (celF f) 45)).alloc (.cells (celF g) 45)) (w.heap.size + 1) 45 (celF g) := by
  refine ⟨((Below.refl _ _).alloc (Nat.le_refl _) _).alloc (by simp) _, (Blk.new _ _ _).alloc _, Blk.at_ (by simp)⟩
theorem beq_pos {x y : Int} (h : (x == y) = true) : x = y := by simpa using h
/-- the two variables -/
structure Two2 (w : World) (f g : Ft) (wr : World) : Prop where
  bel : Below w.heap.size w wr
  one : Blk wr w.heap.size 45 (celF f)
  two : Blk wr (w.heap.size + 1) 45 (celF g)
theorem Two2.next {w wr w' : World} {f g : Ft} (h : Two2 w f g wr) (hb : Below wr.heap.size wr w') : Two2 w f g w' := ⟨h.bel.trans (hb.mono h.bel.size), h.one.belowB hb, h.two.belowB hb⟩

/-! ### == of two facts -/
theorem stoodF (w : World) : Try.prog.stoodInHeld 45 = false := by kernel_rfl
theorem eqI0 (x y : Int) (w : World) : (Op.equalIn 9999 3 (.int .i64 x) (.int .i64 y)).run Try.prog w = .ok (x == y) w := by kernel_rfl
theorem partF0 (x y z : Int) (w : World) : (part 3 #[.int .i64 x, .int .i64 y, .int .i64 z] 0).run Try.prog w = .ok (.int .i64 x) w := by kernel_rfl
theorem partF1 (x y z : Int) (w : World) : (part 3 #[.int .i64 x, .int .i64 y, .int .i64 z] 1).run Try.prog w = .ok (.int .i64 y) w := by kernel_rfl
theorem partF2 (x y z : Int) (w : World) : (part 3 #[.int .i64 x, .int .i64 y, .int .i64 z] 2).run Try.prog w = .ok (.int .i64 z) w := by kernel_rfl
/-- == of two facts -/
theorem equal_ft2 (x y z p q r : Int) {b : Bool} (hb : decide ((⟨x, y, z⟩ : Ft) = ⟨p, q, r⟩) = b) (w : World) : (Op.equalIn 10000 45 (.agg #[.int .i64 x, .int .i64 y, .int .i64 z]) (.agg #[.int .i64 p, .int .i64 q, .int .i64 r])).run Try.prog w = .ok b w := by
  have e : b = (x == p && (y == q && z == r)) := by rw [← hb, Bool.eq_iff_iff]; simp
  rw [e, Op.equalIn]
  simp only [Sem.run_bind, run_underlying Try.underlying45, Result.andThen_ok]
  cases hx : x == p <;> cases hy : y == q <;> cases hz : z == r <;> simp [partF0, partF1, partF2, eqI0, hx, hy, hz, stoodF]
theorem equal_ft (x y z p q r : Int) {b : Bool} (hb : decide ((⟨x, y, z⟩ : Ft) = ⟨p, q, r⟩) = b) (w : World) : (Op.equal 45 (.agg #[.int .i64 x, .int .i64 y, .int .i64 z]) (.agg #[.int .i64 p, .int .i64 q, .int .i64 r])).run Try.prog w = .ok b w := equal_ft2 x y z p q r hb w
end Go.Proofs.Ytnaiflokmihmeaa

namespace Go.Proofs.Ytnaiflokmihmeaa
open Go.RowKit Go.ChangeShapes Go.WideShapes Go.Deep
set_option linter.unusedVariables false
set_option linter.unusedSimpArgs false

def valG (s : Ft) : List Value := [.int .i64 s.k, .int .i64 s.a, .int .i64 s.b]
def cellsF (ss : List Ft) : List Value := ss.flatMap valG
theorem cellsF_append (a b : List Ft) : cellsF (a ++ b) = cellsF a ++ cellsF b := by simp [cellsF]
theorem cellsF_length (ss : List Ft) : (cellsF ss).length = ss.length * 3 := by
  induction ss with
  | nil => rfl
  | cons a l ih => rw [show cellsF (a :: l) = valG a ++ cellsF l from rfl, List.length_append, ih]; simp [valG]; omega
theorem cellsF_get {ss : List Ft} {k j : Nat} {s : Ft} {v : Value} (h : ss[k]? = some s) (hj : (valG s)[j]? = some v) : (cellsF ss)[k*3+j]? = some v := by
  have hj3 : j < 3 := by
    have := (List.getElem?_eq_some_iff.1 hj).1
    simpa [valG] using this
  induction ss generalizing k with
  | nil => simp at h
  | cons a l ih =>
    rw [show cellsF (a :: l) = valG a ++ cellsF l from rfl]
    cases k with
    | zero =>
      simp at h; subst h
      rw [Nat.zero_mul, Nat.zero_add, List.getElem?_append_left (by simpa [valG] using hj3)]
      exact hj
    | succ k =>
      simp at h
      rw [List.getElem?_append_right (by simp [valG]; omega)]
      rw [show (k + 1) * 3 + j - (valG a).length = k * 3 + j by simp [valG]; omega]
      exact ih h
/-- the slice at A holds the facts ss -/
def FactsAt (w : World) (B : Nat) (A : Option Addr) (ss : List Ft) : Prop :=
  ∀ k s, ss[k]? = some s → ∃ b off, A = some ⟨b, off, none⟩ ∧ b < B ∧ ∀ j v, (valG s)[j]? = some v → w.cell? ⟨b, off + (k*3+j), none⟩ = some v
section
variable {w w' : World} {B B' : Nat} {A : Option Addr} {ss : List Ft}
theorem FactsAt.below (h : FactsAt w B A ss) (hb : Below B' w w') (hB : B ≤ B') : FactsAt w' B A ss := by
  intro k x hx
  obtain ⟨b, off, hA, hlt, h0⟩ := h k x hx
  exact ⟨b, off, hA, hlt, fun j v hj => (hb.cell (p := ⟨b, _, none⟩) (Nat.lt_of_lt_of_le hlt hB)).trans (h0 j v hj)⟩
theorem FactsAt.more (h : FactsAt w B A ss) (hB : B ≤ B') : FactsAt w B' A ss := by
  intro k x hx
  obtain ⟨b, off, hA, hlt, h0⟩ := h k x hx
  exact ⟨b, off, hA, Nat.lt_of_lt_of_le hlt hB, h0⟩
theorem FactsAt.nil : FactsAt w B A [] := fun k x h => by simp at h
theorem FactsAt.next (h : FactsAt w w.heap.size A ss) (hb : Below w.heap.size w w') : FactsAt w' w'.heap.size A ss := (h.below hb (Nat.le_refl _)).more hb.size
theorem FactsAt.three (h : FactsAt w B A ss) {k : Nat} {s : Ft} (hk : ss[k]? = some s) : ∃ b off, A = some ⟨b, off, none⟩ ∧ b < B ∧
    w.cell? ⟨b, off + k*3, none⟩ = some (.int .i64 s.k) ∧ w.cell? ⟨b, off + k*3+1, none⟩ = some (.int .i64 s.a) ∧ w.cell? ⟨b, off + k*3+2, none⟩ = some (.int .i64 s.b) := by
  obtain ⟨b, off, hA, hb, h0⟩ := h k s hk
  exact ⟨b, off, hA, hb, h0 0 _ rfl, h0 1 _ rfl, h0 2 _ rfl⟩
theorem FactsAt.take (h : FactsAt w B A ss) (j : Nat) : FactsAt w B A (ss.take j) := by
  intro k s hk
  rw [List.getElem?_take] at hk
  split at hk
  · exact h k s hk
  · cases hk
theorem FactsAt.of_own {base : Nat} {e : TypeId} {v : Value} (h : w.ownsRow base e 3 v ss.length (cellsF ss)) :
    ∃ A c, v = .slice A ss.length c ∧ ss.length ≤ c ∧ c ≤ maxLen ∧ FactsAt w w.heap.size A ss := by
  obtain ⟨h1, h2⟩ := h
  rcases h2 with ⟨rfl, hx⟩ | ⟨g, cap, cur, rfl, hg, hh, hnc, hm, hs, hc⟩
  · have : ss = [] := by
      have := cellsF_length ss; rw [hx] at this; simp at this
      exact List.eq_nil_of_length_eq_zero (by omega)
    subst this
    exact ⟨none, 0, rfl, Nat.le_refl _, by unfold maxLen; omega, fun k u hu => by simp at hu⟩
  · refine ⟨some ⟨g, 0, none⟩, cap, rfl, by assumption, by assumption, fun k u hu => ?_⟩
    have hglt : g < w.heap.size := by
      rcases Nat.lt_or_ge g w.heap.size with h' | h'
      · exact h'
      · rw [Array.getElem?_eq_none h'] at hh; cases hh
    have H := World.ownsRow.cells (w := w) (base := base) (e := e) (size := 3) (v := .slice (some ⟨g, 0, none⟩) ss.length cap) (n := ss.length) (xs := cellsF ss) ⟨h1, .inr ⟨g, cap, cur, rfl, hg, hh, hnc, hm, hs, hc⟩⟩ (g := g) rfl
    refine ⟨g, 0, rfl, hglt, fun j v hj => ?_⟩
    have := H _ _ (cellsF_get hu hj)
    rwa [Addr.add_lit] at this
end

end Go.Proofs.Ytnaiflokmihmeaa

namespace Go.Proofs.Ytnaiflokmihmeaa
open Go.RowKit
set_option linter.unusedVariables false
set_option linter.unusedSimpArgs false

theorem infoFt : (Try.prog.info? 45).map (fun i => (i.zero, i.size, i.bytes)) = some (some (.agg #[.int .i64 0, .int .i64 0, .int .i64 0]), 3, 24) := by kernel_rfl
theorem one_ft (x : Ft) : ∀ u ∈ (#[.int .i64 x.k, .int .i64 x.a, .int .i64 x.b] : Array Value).toList, u.oneCell' = true := by
  intro u hu; simp at hu; rcases hu with rfl | rfl | rfl <;> rfl
/-- v is a row of the call's own that holds the facts xs -/
def FRow (w : World) (v : Value) (xs : List Ft) (wr : World) : Prop := Rws w [⟨v, 45, 3, xs.length, cellsF xs⟩] wr
section
variable {w wr w' : World} {v v' : Value} {xs : List Ft} {n : Nat}
theorem FRow.facts (h : FRow w v xs wr) : ∃ A c, v = .slice A xs.length c ∧ xs.length ≤ c ∧ c ≤ maxLen ∧ FactsAt wr wr.heap.size A xs := FactsAt.of_own (Rws.head h)
theorem FRow.row (h : FRow w v xs wr) (hn : xs.length = n) : Rws w (⟨v, 45, 3, n, cellsF xs⟩ :: []) wr := by subst hn; exact h
theorem FRow.add {x : Ft} (hn : xs.length = n) (h : Rws w [⟨v', 45, 3, n + 1, cellsF xs ++ (#[.int .i64 x.k, .int .i64 x.a, .int .i64 x.b] : Array Value).toList⟩] wr) : FRow w v' (xs ++ [x]) wr := by
  subst hn
  have e : cellsF (xs ++ [x]) = cellsF xs ++ [.int .i64 x.k, .int .i64 x.a, .int .i64 x.b] := by simp [cellsF, valG]
  unfold FRow
  rw [e, List.length_append]
  exact h
theorem FRow.nil (h : Below w.heap.size w wr) : FRow w (.slice none 0 0) [] wr := (Rws.begin h).nil _ _
theorem FRow.next (h : FRow w v xs wr) (hb : Below wr.heap.size wr w') : FRow w v xs w' := Rws.next h hb
theorem FRow.drewN (h : FRow w v xs wr) (n : Nat) : FRow w v xs (wr.drewN n) := Rws.drewN h n
theorem FRow.bel (h : FRow w v xs wr) : Below w.heap.size w wr := Rws.below h
theorem FRow.re {ys : List Ft} (h : FRow w v xs wr) (e : ys = xs) : FRow w v ys wr := e ▸ h
end
end Go.Proofs.Ytnaiflokmihmeaa

namespace Go.Proofs.Ytnaiflokmihmeaa
open Go.RowKit Go.ChangeShapes Go.WideShapes Go.Deep
set_option linter.unusedVariables false
set_option linter.unusedSimpArgs false

def okI (x : Int) : Prop := -9223372036854775808 ≤ x ∧ x ≤ 9223372036854775807
set_option maxRecDepth 20000 in
/-- a fact that came in -/
theorem open_fact {H : Type} {enc : TypeId × Value → H} {w : World} {base b0 : Nat} {v : Value} {d : DataW H} {p : List MemPlace} {r : Reach} {held : Bool}
    (h : DataW.Trod enc Try.prog w base (fun _ => true) held 45 v d p) (o : Value.okWide Try.prog w r b0 45 v) : ∃ f : Ft, v = valF f ∧ okI f.k ∧ okI f.a ∧ okI f.b := by
  obtain ⟨cs, rfl, hsz⟩ := okWide_struct Try.underlying45 o
  have hsz3 : cs.size = 3 := by rw [hsz]; kernel_rfl
  obtain ⟨fuel, hf⟩ := h
  obtain ⟨n, hfs⟩ := open_fields Try.underlying45 (by kernel_rfl) (cs := cs.toList) (by simpa using hsz3) hf
  obtain ⟨x0, y0, hx0, ht0⟩ := hfs 0 _ rfl
  obtain ⟨x1, y1, hx1, ht1⟩ := hfs 1 _ rfl
  obtain ⟨x2, y2, hx2, ht2⟩ := hfs 2 _ rfl
  obtain ⟨i0, rfl, q0⟩ := open_i64 Try.underlying3 ht0
  obtain ⟨i1, rfl, q1⟩ := open_i64 Try.underlying3 ht1
  obtain ⟨i2, rfl, q2⟩ := open_i64 Try.underlying3 ht2
  refine ⟨⟨i0, i1, i2⟩, ?_, wf_i64 q0, wf_i64 q1, wf_i64 q2⟩
  have : cs = #[.int .i64 i0, .int .i64 i1, .int .i64 i2] := by
    apply Array.ext (by simpa using hsz3)
    intro i h1 h2
    simp at hx0 hx1 hx2
    simp only [hsz3] at h1
    have h3 : i = 0 ∨ i = 1 ∨ i = 2 := by omega
    rcases h3 with rfl | rfl | rfl <;> simp_all
  rw [this]
  rfl
set_option maxRecDepth 20000 in
/-- facts that came in -/
theorem open_facts {H : Type} {enc : TypeId × Value → H} {w : World} {base b0 : Nat} {held : Bool} {v : Value} {d : DataW H} {p : List MemPlace} {r : Reach}
    (h : DataW.Trod enc Try.prog w base (fun _ => true) held 43 v d p) (o : Value.okWide Try.prog w r b0 43 v) (hl : Light Try.prog 43 d) :
    ∃ A c ss, v = .slice A (List.length ss) c ∧ ss.length ≤ c ∧ c ≤ maxLen ∧ ss.length * 24 ≤ 140737488351232 ∧ FactsAt w w.heap.size A ss := by
  obtain ⟨A, len, cap, rfl⟩ := okWide_slice Try.underlying43 o
  obtain ⟨fuel, hf⟩ := h
  obtain ⟨A', len', cap', hcs, hlc, hm, hrb, hi⟩ := open_elems_w (C := 3) Try.underlying43 (by kernel_rfl) (by omega) hf hl
  simp [Value.cells] at hcs
  obtain ⟨rfl, rfl, rfl⟩ := hcs
  have hb24 : Try.prog.bytesOf 45 = 24 := by kernel_rfl
  rw [hb24] at hrb
  unfold reachBytes at hrb
  obtain ⟨ss, hss, hr⟩ := list_of (n := len) (R := fun k (s : Ft) => ∃ b off, A = some ⟨b, off, none⟩ ∧ b < w.heap.size ∧ ∀ j v, (valG s)[j]? = some v → w.cell? ⟨b, off + (k*3+j), none⟩ = some v) (by
    intro i hlt
    obtain ⟨b, off, cs', n', y, hA, hb, hlen, hc, ht, _⟩ := hi i hlt
    obtain ⟨n, hfs⟩ := open_fields Try.underlying45 (by kernel_rfl) hlen ht
    obtain ⟨x0, y0, hx0, ht0⟩ := hfs 0 _ rfl
    obtain ⟨x1, y1, hx1, ht1⟩ := hfs 1 _ rfl
    obtain ⟨x2, y2, hx2, ht2⟩ := hfs 2 _ rfl
    obtain ⟨i0, rfl, _⟩ := open_i64 Try.underlying3 ht0
    obtain ⟨i1, rfl, _⟩ := open_i64 Try.underlying3 ht1
    obtain ⟨i2, rfl, _⟩ := open_i64 Try.underlying3 ht2
    refine ⟨⟨i0, i1, i2⟩, b, off, hA, hb, fun j v hj => ?_⟩
    rcases j with _ | _ | _ | j
    · have := Option.some.inj hj; subst this; exact hc 0 _ hx0
    · have := Option.some.inj hj; subst this; exact hc 1 _ hx1
    · have := Option.some.inj hj; subst this; exact hc 2 _ hx2
    · simp [valG] at hj)
  exact ⟨A, cap, ss, by rw [hss], by omega, hm, by omega, fun k u hu => hr k u hu⟩
end Go.Proofs.Ytnaiflokmihmeaa

