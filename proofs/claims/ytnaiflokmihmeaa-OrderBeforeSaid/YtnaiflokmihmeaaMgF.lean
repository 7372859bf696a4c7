/- slices.Compare at integers (two lists of one length). -/
/- Facts: Compare (package fact). -/
/- slices.Equal at facts (of two equal lists). -/
/- fact.Compare lays blocks and nothing else. -/
/- Facts: their order is whole; lists without doubles. -/
import Derived.Test.YtnaiflokmihmeaaMgE
import Derived.Test.YtnaiflokmihmeaaMgA
import Derived.Deep.LoopGhost
import Derived.Deep.QuietTactic
import Derived.BigQuiet
import Derived.WalkSpells
import Derived.Shelf.SlSortCmp.WholeK
import Derived.Lib.SlicesCompact
namespace Go.Proofs.Ytnaiflokmihmeaa
open Go.RowKit
set_option linter.unusedVariables false
set_option linter.unusedSimpArgs false

def cmpI (x y : Int) : Int := if x < y then -1 else if y < x then 1 else 0
theorem isnan_any (x : Int) (w : World) : Calls Try.prog 112 #[.int .i64 x] w fun e w' => e = .returned (.bool false) ∧ w' = w := by
  go_enter Try.func112, Try.ntmps112
  go_wp2_with fail
  go_ret
  exact ⟨by simp, rfl⟩
theorem cmpI_any (x y : Int) (w : World) : Calls Try.prog 96 #[.int .i64 x, .int .i64 y] w fun e w' => e = .returned (.int .i64 (cmpI x y)) ∧ w' = w := by
  by_cases h1 : x < y
  · have HV := Lib.hid (show cmpI x y = -1 by simp [cmpI, h1])
    go_enter Try.func96, Try.ntmps96
    go_wp2_with (first | (go_at_call 112; refine (isnan_any _ _).mono ?_; rintro e w' ⟨rfl, rfl⟩) | fail)
    go_ret
    exact ⟨by rw [HV.out]; rfl, rfl⟩
  · by_cases h2 : y < x
    · have HV := Lib.hid (show cmpI x y = 1 by simp [cmpI, h1, h2])
      have h1' : y ≤ x := by omega
      go_enter Try.func96, Try.ntmps96
      go_wp2_with (first | (go_at_call 112; refine (isnan_any _ _).mono ?_; rintro e w' ⟨rfl, rfl⟩) | fail)
      go_ret
      exact ⟨by rw [HV.out]; rfl, rfl⟩
    · obtain rfl : x = y := by omega
      have HV := Lib.hid (show cmpI x x = 0 by simp [cmpI])
      clear h1 h2
      go_enter Try.func96, Try.ntmps96
      go_wp2_with (first | (go_at_call 112; refine (isnan_any _ _).mono ?_; rintro e w' ⟨rfl, rfl⟩) | fail)
      go_ret
      exact ⟨by rw [HV.out]; rfl, rfl⟩
def lexC : List Int → List Int → Int
  | x :: xs, y :: ys => if cmpI x y ≠ 0 then cmpI x y else lexC xs ys
  | _, _ => 0
theorem lexC_step {xs ys : List Int} {j : Nat} {x y : Int} (hx : xs[j]? = some x) (hy : ys[j]? = some y) : lexC (xs.drop j) (ys.drop j) = if cmpI x y ≠ 0 then cmpI x y else lexC (xs.drop (j+1)) (ys.drop (j+1)) := by
  obtain ⟨h1, e1⟩ := List.getElem?_eq_some_iff.1 hx
  obtain ⟨h2, e2⟩ := List.getElem?_eq_some_iff.1 hy
  rw [List.drop_eq_getElem_cons h1, List.drop_eq_getElem_cons h2, e1, e2]
  rfl

set_option maxHeartbeats 2000000 in
theorem compareI_any (xs ys : List Int) (A B : Option Addr) (n c d : Nat) (w : World) (hn : n = xs.length) (hm : n = ys.length) (hx : n ≤ 9223372036854775807) (h : IntsAt w w.heap.size A xs) (h' : IntsAt w w.heap.size B ys) :
    Calls Try.prog 67 #[.slice A n c, .slice B n d] w fun e w' => e = .returned (.int .i64 (lexC xs ys)) ∧ w' = w := by
  have HN := Lib.hid hn; clear hn
  have HM := Lib.hid hm; clear hm
  have H := Lib.hid h; clear h
  have H' := Lib.hid h'; clear h'
  go_enter Try.func67, Try.ntmps67
  go_wp2_with fail
  go_loop [11] (fun i => ∃ j : Nat, j ≤ n ∧ i = .int .i64 j ∧ Hid (lexC xs ys = lexC (xs.drop j) (ys.drop j))) (fun i => n - (intOf i).toNat)
  case atStart => exact ⟨0, Nat.zero_le _, rfl, Lib.hid (by rw [List.drop_zero, List.drop_zero])⟩
  case round =>
    obtain ⟨j, hj, rfl, hL⟩ := hrel
    by_cases hlt : j < n
    · obtain ⟨x, hx⟩ := get_of_lt HN.out hlt
      obtain ⟨y, hy⟩ := get_of_lt HM.out hlt
      obtain ⟨b, off, rfl, hb, h0⟩ := H.out j x hx
      obtain ⟨b', off', rfl, hb', h0'⟩ := H'.out j y hy
      have HS := Lib.hid (hL.out.trans (lexC_step hx hy)); clear hx hy hL
      have HC := Lib.hid (cmpI_any x y w)
      by_cases hc : cmpI x y = 0
      · have HT : Hid (lexC xs ys = lexC (xs.drop (j+1)) (ys.drop (j+1))) := Lib.hid (by rw [HS.out, if_neg (by simp [hc])])
        rw [hc] at HC
        clear hc
        go_wp2_with fail
        refine HC.out.mono ?_
        rintro e w' ⟨rfl, rfl⟩
        go_wp2_with fail
        go_round
        case rel => exact ⟨j+1, by omega, by go_num, HT.out⟩
        case measure => simp [intOf]; omega
      · have HT : Hid (lexC xs ys = cmpI x y) := Lib.hid (by rw [HS.out, if_pos hc])
        have hc' : (cmpI x y != 0) = true := by simp [hc]
        clear hc
        go_wp2_with fail
        refine HC.out.mono ?_
        rintro e w' ⟨rfl, rfl⟩
        go_wp2_with fail
        go_ret
        exact ⟨by rw [HT.out]; rfl, rfl⟩
    · obtain rfl : j = n := by omega
      have HZ : Hid (lexC xs ys = 0) := Lib.hid (by rw [hL.out, HN.out, List.drop_length]; simp [lexC])
      go_wp2_with fail
      go_ret
      exact ⟨by rw [HZ.out]; rfl, rfl⟩
end Go.Proofs.Ytnaiflokmihmeaa

namespace Go.Proofs.Ytnaiflokmihmeaa
open Go.RowKit
set_option linter.unusedVariables false
set_option linter.unusedSimpArgs false

def cmpF (f g : Ft) : Int := lexC [f.k, f.a, f.b] [g.k, g.a, g.b]
theorem ints_3 {w : World} {g : Nat} {t : TypeId} {x y z : Int} (h : Blk w g t #[.int .i64 x, .int .i64 y, .int .i64 z]) : IntsAt w w.heap.size (some ⟨g, 0, none⟩) [x, y, z] := by
  intro k u hk
  refine ⟨g, 0, rfl, h.lt, ?_⟩
  rw [Nat.zero_add, h.cell]
  rcases k with _ | _ | _ | k
  · simp at hk; subst hk; rfl
  · simp at hk; subst hk; rfl
  · simp at hk; subst hk; rfl
  · simp at hk

theorem cmp_blks (w : World) {k a b kk aa bb : Int} {v w4 : World} (h2 : v = (w.alloc (.cells #[.int .i64 k, .int .i64 a, .int .i64 b] 45)).alloc (.cells #[.int .i64 kk, .int .i64 aa, .int .i64 bb] 45))
    (h4 : w4 = (v.alloc (.cells #[.int .i64 k, .int .i64 a, .int .i64 b] 3)).alloc (.cells #[.int .i64 kk, .int .i64 aa, .int .i64 bb] 3)) :
    Below w.heap.size w w4 ∧ IntsAt w4 w4.heap.size (some ⟨w.heap.size + 1 + 1, 0, none⟩) [k, a, b] ∧ IntsAt w4 w4.heap.size (some ⟨w.heap.size + 1 + 1 + 1, 0, none⟩) [kk, aa, bb] := by
  have hz : v.heap.size = w.heap.size + 1 + 1 := by rw [h2]; simp
  have hb : Below w.heap.size w v := by rw [h2]; exact ((Below.refl _ _).alloc (Nat.le_refl _) _).alloc (by simp) _
  subst h4
  refine ⟨(hb.alloc (by omega) _).alloc (by simp; omega) _, ?_, ?_⟩
  · exact ints_3 ((Blk.at_ (by omega)).alloc _)
  · exact ints_3 (Blk.at_ (by simp; omega))

set_option maxHeartbeats 2000000 in
set_option maxRecDepth 20000 in
theorem cmpF_any (f g : Ft) (w : World) : Calls Try.prog 22 #[valF f, valF g] w fun e w' => e = .returned (.int .i64 (cmpF f g)) ∧ Below w.heap.size w w' := by
  obtain ⟨k, a, b⟩ := f
  obtain ⟨kk, aa, bb⟩ := g
  show Calls Try.prog 22 #[.agg #[.int .i64 k, .int .i64 a, .int .i64 b], .agg #[.int .i64 kk, .int .i64 aa, .int .i64 bb]] w fun e w' => e = .returned (.int .i64 (lexC [k, a, b] [kk, aa, bb])) ∧ Below w.heap.size w w'
  go_enter Try.func22, Try.ntmps22
  go_wp2_with fail
  have hbl := cmp_blks w (k := k) (a := a) (b := b) (kk := kk) (aa := aa) (bb := bb) rfl rfl
  generalize World.alloc (World.alloc (World.alloc (World.alloc w _) _) _) _ = w4 at *
  refine (compareI_any [k, a, b] [kk, aa, bb] _ _ 3 3 3 w4 rfl rfl (by omega) hbl.2.1 hbl.2.2).mono ?_
  rintro e w' ⟨rfl, rfl⟩
  have HB := Lib.hid hbl.1
  clear hbl
  go_wp2_with fail
  go_ret
  exact ⟨rfl, HB.out⟩
end Go.Proofs.Ytnaiflokmihmeaa

namespace Go.Proofs.Ytnaiflokmihmeaa
open Go.RowKit
set_option linter.unusedVariables false
set_option linter.unusedSimpArgs false

set_option maxHeartbeats 1000000 in
theorem equalG_any (xs : List Ft) (A B : Option Addr) (n c d : Nat) (w : World) (hn : n = xs.length) (hx : n ≤ 9223372036854775807) (h : FactsAt w w.heap.size A xs) (h' : FactsAt w w.heap.size B xs) :
    Calls Try.prog 25 #[.slice A n c, .slice B n d] w fun e w' => e = .returned (.bool true) ∧ Below w.heap.size w w' := by
  have HN := Lib.hid hn; clear hn
  have H := Lib.hid h; clear h
  have H' := Lib.hid h'; clear h'
  go_enter Try.func25, Try.ntmps25
  go_wp2_with fail
  go_loopg [13] n (fun k i wr => ∃ j : Nat, k = n - j ∧ j ≤ n ∧ i = .int .i64 j ∧ Hid (Below w.heap.size w wr))
  case atStart => exact ⟨0, by omega, Nat.zero_le _, rfl, Below.refl _ _⟩
  case round =>
    obtain ⟨j, hgk, hj, rfl, hbel⟩ := hrel
    have HGK := Lib.hid hgk; clear hgk
    by_cases hlt : j < n
    · obtain ⟨u, hu⟩ := get_of_lt HN.out hlt
      obtain ⟨b, off, rfl, hb, h0, h1, h2⟩ := H.out.three hu
      obtain ⟨b', off', rfl, hb', h0', h1', h2'⟩ := H'.out.three hu
      clear hu
      have g0 := (hbel.out.cell (p := ⟨b, off + j*3, none⟩) hb).trans h0
      have g1 := (hbel.out.cell (p := ⟨b, off + j*3+1, none⟩) hb).trans h1
      have g2 := (hbel.out.cell (p := ⟨b, off + j*3+2, none⟩) hb).trans h2
      have g0' := (hbel.out.cell (p := ⟨b', off' + j*3, none⟩) hb').trans h0'
      have g1' := (hbel.out.cell (p := ⟨b', off' + j*3+1, none⟩) hb').trans h1'
      have g2' := (hbel.out.cell (p := ⟨b', off' + j*3+2, none⟩) hb').trans h2'
      clear h0 h1 h2 h0' h1' h2'
      have i1 : (0 : Int) ≤ (j : Int) := by omega
      have i2 : (j : Int) < (n : Int) := by omega
      go_wp2_with fail
      go_quiet (fail)
      go_wp2_with fail
      go_roundg (n - (j + 1))
      case measure => rw [HGK.out]; omega
      case rel => exact ⟨j+1, rfl, by omega, by go_num, below_drewN hbel.out _⟩
    · go_wp2_with fail
      go_ret
      exact ⟨rfl, hbel.out⟩

end Go.Proofs.Ytnaiflokmihmeaa

namespace Go.Proofs.Ytnaiflokmihmeaa
open Go.RowKit
set_option linter.unusedVariables false
set_option linter.unusedSimpArgs false

set_option maxHeartbeats 2000000 in
set_option maxRecDepth 20000 in
theorem cmpF_grow (f g : Ft) (w : World) : Calls Try.prog 22 #[valF f, valF g] w fun e w' => e = .returned (.int .i64 (cmpF f g)) ∧ ∃ q os, w' = Go.Sort.grow (w.drewN q) os := by
  obtain ⟨k, a, b⟩ := f
  obtain ⟨kk, aa, bb⟩ := g
  show Calls Try.prog 22 #[.agg #[.int .i64 k, .int .i64 a, .int .i64 b], .agg #[.int .i64 kk, .int .i64 aa, .int .i64 bb]] w fun e w' => e = .returned (.int .i64 (lexC [k, a, b] [kk, aa, bb])) ∧ ∃ q os, w' = Go.Sort.grow (w.drewN q) os
  go_enter Try.func22, Try.ntmps22
  go_wp2_with fail
  have hbl := cmp_blks w (k := k) (a := a) (b := b) (kk := kk) (aa := aa) (bb := bb) rfl rfl
  have hgr : Go.Sort.grow (w.drewN 0) #[.cells #[.int .i64 k, .int .i64 a, .int .i64 b] 45, .cells #[.int .i64 kk, .int .i64 aa, .int .i64 bb] 45, .cells #[.int .i64 k, .int .i64 a, .int .i64 b] 3, .cells #[.int .i64 kk, .int .i64 aa, .int .i64 bb] 3] = ((((w.alloc (.cells #[.int .i64 k, .int .i64 a, .int .i64 b] 45)).alloc (.cells #[.int .i64 kk, .int .i64 aa, .int .i64 bb] 45)).alloc (.cells #[.int .i64 k, .int .i64 a, .int .i64 b] 3)).alloc (.cells #[.int .i64 kk, .int .i64 aa, .int .i64 bb] 3)) := rfl
  generalize World.alloc (World.alloc (World.alloc (World.alloc w _) _) _) _ = w4 at *
  refine (compareI_any [k, a, b] [kk, aa, bb] _ _ 3 3 3 w4 rfl rfl (by omega) hbl.2.1 hbl.2.2).mono ?_
  rintro e w' ⟨rfl, rfl⟩
  have HG := Lib.hid hgr.symm
  clear hbl hgr
  go_wp2_with fail
  go_ret
  exact ⟨rfl, 0, _, HG.out⟩

end Go.Proofs.Ytnaiflokmihmeaa

namespace Go.Proofs.Ytnaiflokmihmeaa
open Go.RowKit
set_option linter.unusedVariables false
set_option linter.unusedSimpArgs false

instance : Inhabited Ft := ⟨⟨0, 0, 0⟩⟩
def FLt (f g : Ft) : Prop := f.k < g.k ∨ (f.k = g.k ∧ (f.a < g.a ∨ (f.a = g.a ∧ f.b < g.b)))
instance (f g : Ft) : Decidable (FLt f g) := by unfold FLt; infer_instance
theorem cmpI_cases (x y : Int) : (x < y ∧ cmpI x y = -1) ∨ (x = y ∧ cmpI x y = 0) ∨ (y < x ∧ cmpI x y = 1) := by
  unfold cmpI
  by_cases h1 : x < y
  · exact .inl ⟨h1, by simp [h1]⟩
  · by_cases h2 : y < x
    · exact .inr (.inr ⟨h2, by simp [h1, h2]⟩)
    · exact .inr (.inl ⟨by omega, by simp [h1, h2]⟩)
theorem cmpF_cases (f g : Ft) : (FLt f g ∧ cmpF f g = -1) ∨ (f = g ∧ cmpF f g = 0) ∨ (FLt g f ∧ cmpF f g = 1) := by
  obtain ⟨k, a, b⟩ := f
  obtain ⟨kk, aa, bb⟩ := g
  simp only [cmpF, lexC, FLt, Ft.mk.injEq]
  rcases cmpI_cases k kk with ⟨h1, e1⟩ | ⟨h1, e1⟩ | ⟨h1, e1⟩ <;> rcases cmpI_cases a aa with ⟨h2, e2⟩ | ⟨h2, e2⟩ | ⟨h2, e2⟩ <;> rcases cmpI_cases b bb with ⟨h3, e3⟩ | ⟨h3, e3⟩ | ⟨h3, e3⟩ <;> rw [e1, e2, e3] <;> simp <;> omega
theorem ltF_iff (f g : Ft) : Go.Proofs.ltOf cmpF f g = decide (FLt f g) := by
  unfold Go.Proofs.ltOf
  rcases cmpF_cases f g with ⟨h, e⟩ | ⟨h, e⟩ | ⟨h, e⟩
  · rw [e]; simp [h]
  · subst h; rw [e]; simp [FLt]
  · rw [e]
    have : ¬ FLt f g := by unfold FLt at *; omega
    simp [this]
theorem flt_irrefl (f : Ft) : ¬ FLt f f := by unfold FLt; omega
theorem flt_trans {f g h : Ft} (h1 : FLt f g) (h2 : FLt g h) : FLt f h := by unfold FLt at *; omega
theorem flt_total {f g : Ft} (h1 : ¬ FLt f g) (h2 : ¬ FLt g f) : f = g := by
  obtain ⟨k, a, b⟩ := f
  obtain ⟨kk, aa, bb⟩ := g
  simp only [FLt, Ft.mk.injEq] at *
  omega
theorem swoF : Go.Sort.SWO (Go.Proofs.ltOf cmpF) where
  irrefl x := by rw [ltF_iff]; simp [flt_irrefl]
  trans x y z h1 h2 := by rw [ltF_iff] at *; simp at *; exact flt_trans h1 h2
  ntrans x y z h1 h2 := by
    rw [ltF_iff] at *
    simp at *
    intro h3
    by_cases h4 : FLt y x
    · exact h2 (flt_trans h4 h3)
    · have e := flt_total h1 h4
      exact h2 (e ▸ h3)
theorem totF (x y : Ft) (h1 : Go.Proofs.ltOf cmpF x y = false) (h2 : Go.Proofs.ltOf cmpF y x = false) : x = y := by
  rw [ltF_iff] at *
  simp at *
  exact flt_total h1 h2

/-- the sorted list, each fact once -/
def ofL (l : List Ft) : List Ft := Go.Lib.compact ((l.filter okF).mergeSort fun x y => !(Go.Proofs.ltOf cmpF y x))
def Asc (l : List Ft) : Prop := l.Pairwise FLt
theorem asc_ext {l r : List Ft} (h1 : Asc l) (h2 : Asc r) (h : ∀ x, x ∈ l ↔ x ∈ r) : l = r := by
  have p : l.Perm r := by
    refine (List.perm_ext_iff_of_nodup ?_ ?_).2 h
    · exact h1.imp (fun {a b} hab e => by subst e; exact flt_irrefl a hab)
    · exact h2.imp (fun {a b} hab e => by subst e; exact flt_irrefl a hab)
  exact List.Perm.eq_of_pairwise (le := FLt) (fun a b _ _ h1 h2 => absurd (flt_trans h1 h2) (flt_irrefl a)) h1 h2 p

section
variable {α : Type} [Inhabited α] [DecidableEq α]
theorem upTo_mem (d : Array α) (m : Nat) (hm : m ≤ d.size) (x : α) : x ∈ Go.Lib.compactUpTo d m ↔ ∃ j, j < m ∧ d[j]! = x := by
  induction m with
  | zero => simp [Go.Lib.compactUpTo]
  | succ m ih =>
    rw [Go.Lib.compactUpTo_succ, List.mem_append, ih (by omega)]
    constructor
    · rintro (⟨j, h1, h2⟩ | h)
      · exact ⟨j, by omega, h2⟩
      · split at h
        · simp at h; exact ⟨m, by omega, h.symm⟩
        · simp at h
    · rintro ⟨j, h1, h2⟩
      by_cases hj : j < m
      · exact .inl ⟨j, hj, h2⟩
      · have : j = m := by omega
        subst this
        by_cases hk : Go.Lib.keeps d j = true
        · right; rw [if_pos hk]; simp [h2]
        · left
          unfold Go.Lib.keeps at hk
          simp only [decide_eq_true_eq] at hk
          have h0 : j ≠ 0 := fun e => hk (.inl e)
          have he : d[j]! = d[j-1]! := Classical.byContradiction fun e => hk (.inr e)
          exact ⟨j - 1, by omega, by rw [← he]; exact h2⟩
end
theorem compact_mem (zs : List Ft) (x : Ft) : x ∈ Go.Lib.compact zs ↔ x ∈ zs := by
  unfold Go.Lib.compact
  rw [upTo_mem _ _ (by simp)]
  constructor
  · rintro ⟨j, h1, h2⟩
    rw [← h2]
    simp [h1]
  · intro h
    obtain ⟨j, h1, h2⟩ := List.mem_iff_getElem.1 h
    exact ⟨j, h1, by simp [h1, h2]⟩
/-- of a list in order without the places that hold what stands before them, an ascending list -/
theorem upTo_asc (d : Array Ft) (hs : ∀ i j, i < j → j < d.size → ¬ FLt d[j]! d[i]!) (m : Nat) (hm : m ≤ d.size) : Asc (Go.Lib.compactUpTo d m) := by
  induction m with
  | zero => simp [Go.Lib.compactUpTo, Asc]
  | succ m ih =>
    have h := ih (by omega)
    rw [Go.Lib.compactUpTo_succ]
    by_cases hk : Go.Lib.keeps d m = true
    · rw [if_pos hk]
      unfold Asc at h ⊢
      rw [List.pairwise_append]
      refine ⟨h, by simp, fun x hx y hy => ?_⟩
      obtain ⟨j, h1, h2⟩ := (upTo_mem d m (by omega) x).1 hx
      simp at hy
      subst hy
      subst h2
      have h3 : ¬ FLt d[m]! d[j]! := hs j m h1 (by omega)
      refine Classical.byContradiction fun h4 => ?_
      have he : d[j]! = d[m]! := flt_total h4 h3
      have h0 : m ≠ 0 := by omega
      have hne : d[m]! ≠ d[m-1]! := by
        unfold Go.Lib.keeps at hk
        simp only [decide_eq_true_eq] at hk
        rcases hk with hk | hk
        · exact absurd hk h0
        · exact hk
      by_cases hj : j = m - 1
      · subst hj; exact hne he.symm
      · have a1 : ¬ FLt d[m-1]! d[j]! := hs j (m-1) (by omega) (by omega)
        have a2 : ¬ FLt d[m]! d[m-1]! := hs (m-1) m (by omega) (by omega)
        rw [he] at a1
        exact hne (flt_total a2 a1)
    · rw [if_neg hk, List.append_nil]; exact h
theorem ofL_mem (l : List Ft) (x : Ft) : x ∈ ofL l ↔ x ∈ l ∧ okF x = true := by
  unfold ofL
  rw [compact_mem, List.mem_mergeSort, List.mem_filter]
theorem ofL_asc (l : List Ft) : Asc (ofL l) := by
  unfold ofL Go.Lib.compact
  refine upTo_asc _ (fun i j hij hj => ?_) _ (by simp)
  have hp := List.pairwise_mergeSort (le := fun x y => !(Go.Proofs.ltOf cmpF y x)) (fun a b c h1 h2 => by
    simp only [Bool.not_eq_true'] at *
    exact swoF.ntrans _ _ _ h2 h1) (fun a b => by
    simp only [Bool.or_eq_true, Bool.not_eq_true']
    rw [ltF_iff, ltF_iff]
    by_cases h : FLt b a
    · right; simp; exact fun h2 => flt_irrefl a (flt_trans h2 h)
    · left; simp [h]) (l.filter okF)
  rw [List.pairwise_iff_getElem] at hp
  have hj' : j < ((l.filter okF).mergeSort fun x y => !(Go.Proofs.ltOf cmpF y x)).length := by simpa using hj
  have := hp i j (by omega) hj' hij
  rw [ltF_iff] at this
  simp only [Bool.not_eq_true', decide_eq_false_iff_not] at this
  rw [getElem!_pos _ j (by simpa using hj'), getElem!_pos _ i (by simp at hj' ⊢; omega)]
  simpa using this
/-- the one ascending list of a list's valid facts -/
theorem ofL_is {l r : List Ft} (h : Asc r) (hm : ∀ x, x ∈ r ↔ x ∈ l ∧ okF x = true) : ofL l = r :=
  asc_ext (ofL_asc l) h fun x => by rw [ofL_mem, hm]
end Go.Proofs.Ytnaiflokmihmeaa

