/- The sort of few points (printed by hullg.py). -/
import Derived.Test.YtoejojfjiikogaaGreatDoorHuE
import Derived.Deep.LoopGhost
import Derived.OwnWalk
import Derived.Lib.Strings
import Derived.Lib.Slices
import Derived.Lib.Small
import Derived.Lib.Walk
import Derived.Lib.BitFns

namespace Go.Proofs.YtoejojfjiikogaaGreatDoor
open Go.RowKit
set_option linter.unusedVariables false
set_option linter.unusedSimpArgs false

theorem cpu_mem (d : Array P2) (m : Nat) (hm : m ≤ d.size) (x : P2) : x ∈ Go.Lib.compactUpTo d m ↔ ∃ j, j < m ∧ d[j]! = x := by
  induction m with
  | zero => simp [Go.Lib.compactUpTo]
  | succ m ih =>
    rw [Go.Lib.compactUpTo_succ, List.mem_append, ih (by omega)]
    constructor
    · rintro (⟨j, h1, h2⟩ | h)
      · exact ⟨j, by omega, h2⟩
      · split at h
        · simp at h; exact ⟨m, by omega, h.symm⟩
        · simp at h
    · rintro ⟨j, h1, h2⟩
      by_cases hj : j < m
      · exact .inl ⟨j, hj, h2⟩
      · have : j = m := by omega
        subst this
        by_cases hk : Go.Lib.keeps d j = true
        · right; rw [if_pos hk]; simp [h2]
        · left
          unfold Go.Lib.keeps at hk
          simp only [decide_eq_true_eq] at hk
          have h0 : j ≠ 0 := fun e => hk (.inl e)
          have he : d[j]! = d[j-1]! := Classical.byContradiction fun e => hk (.inr e)
          exact ⟨j - 1, by omega, by rw [← he]; exact h2⟩
theorem lxl_eq {a b : P2} (h1 : ¬ lxl a b) (h2 : ¬ lxl b a) : a = b := by
  rcases lxl_total a b with h | h | h
  · exact absurd h h1
  · exact h
  · exact absurd h h2
theorem cpu_asc (d : Array P2) (hs : ∀ i j, i < j → j < d.size → ¬ lxl d[j]! d[i]!) (m : Nat) (hm : m ≤ d.size) : (Go.Lib.compactUpTo d m).Pairwise lxl := by
  induction m with
  | zero => simp [Go.Lib.compactUpTo]
  | succ m ih =>
    have h := ih (by omega)
    rw [Go.Lib.compactUpTo_succ]
    by_cases hk : Go.Lib.keeps d m = true
    · rw [if_pos hk, List.pairwise_append]
      refine ⟨h, by simp, fun x hx y hy => ?_⟩
      obtain ⟨j, h1, h2⟩ := (cpu_mem d m (by omega) x).1 hx
      simp at hy
      subst hy
      subst h2
      have h3 : ¬ lxl d[m]! d[j]! := hs j m h1 (by omega)
      refine Classical.byContradiction fun h4 => ?_
      have he : d[j]! = d[m]! := lxl_eq h4 h3
      have h0 : m ≠ 0 := by omega
      have hne : d[m]! ≠ d[m-1]! := by
        unfold Go.Lib.keeps at hk
        simp only [decide_eq_true_eq] at hk
        rcases hk with hk | hk
        · exact absurd hk h0
        · exact hk
      by_cases hj : j = m - 1
      · subst hj; exact hne he.symm
      · have a1 : ¬ lxl d[m-1]! d[j]! := hs j (m-1) (by omega) (by omega)
        have a2 : ¬ lxl d[m]! d[m-1]! := hs (m-1) m (by omega) (by omega)
        rw [he] at a1
        exact hne (lxl_eq a2 a1).symm.symm
    · rw [if_neg hk, List.append_nil]; exact h
theorem cpL_mem (qs : Pts) (x : P2) : x ∈ cpL qs ↔ x ∈ qs := by
  unfold cpL
  rw [cpu_mem _ _ (Nat.le_refl _)]
  constructor
  · rintro ⟨j, h1, h2⟩
    rw [getElem!_pos qs.toArray j h1] at h2
    rw [← h2]
    simp
  · intro h
    obtain ⟨j, h1, h2⟩ := List.mem_iff_getElem.1 h
    exact ⟨j, by simpa using h1, by rw [getElem!_pos qs.toArray j (by simpa using h1)]; simpa using h2⟩
theorem cpL_asc {qs : Pts} {n : Nat} (hn : qs.length = n) (h : SrtP n qs) : (cpL qs).Pairwise lxl := by
  refine cpu_asc qs.toArray (fun i j hij hj => ?_) _ (Nat.le_refl _)
  rw [← pt_arr hj, ← pt_arr (show i < qs.toArray.size by omega)]
  exact h i j hij (by rw [← hn]; simpa using hj)
theorem cpL_len (qs : Pts) : (cpL qs).length ≤ qs.length := by
  unfold cpL Go.Lib.compactUpTo
  rw [List.length_map]
  refine Nat.le_trans (List.length_filter_le _ _) ?_
  simp
set_option maxHeartbeats 4000000 in
set_option maxRecDepth 100000 in
theorem len64_s (x : Int) (w : World) (h0 : 0 ≤ x) (h1 : x ≤ 200) :
    Calls Tryz.prog 128 #[.int .u64 x] w fun e w' => ∃ v : Int, e = .returned (.int .i64 v) ∧ w' = w := by
  go_enter Tryz.func128, Tryz.ntmps128
  go_wp2
  all_goals (go_ret; exact ⟨_, rfl, rfl⟩)
theorem len_s (x : Int) (w : World) (h0 : 0 ≤ x) (h1 : x ≤ 200) :
    Calls Tryz.prog 93 #[.int .u64 x] w fun e w' => ∃ v : Int, e = .returned (.int .i64 v) ∧ w' = w := by
  go_enter Tryz.func93, Tryz.ntmps93
  go_wp2_with (go_at_call 128; refine (len64_s x _ h0 h1).mono ?_; rintro e w' ⟨v, rfl, rfl⟩)
  go_ret
  exact ⟨_, rfl, rfl⟩
def SortPost (W : World) (l : List Own) (g n : Nat) (J : List Value) (ps : Pts) (e : Ending) (w' : World) : Prop :=
  e = .returned (.tuple #[]) ∧ ∃ qs, qs.length = n ∧ qs.Perm ps ∧ SrtP n qs ∧ St W ((g, 26, PX J qs) :: l) w'
set_option maxHeartbeats 2000000 in
set_option maxRecDepth 20000 in
theorem pdq_S {k : Nat} {W : World} {l : List Own} {g n cap : Nat} {J : List Value} {ps : Pts} (hT : Tab W) (hz : Pz k ps) (hn : ps.length = n) (hn2 : n ≤ 12) (hk : k ≤ 1000000000) (v : Int) (w : World) (h : St W ((g, 26, PX J ps) :: l) w) :
    Calls Tryz.prog 92 #[.slice (some ⟨g, 0, none⟩) n cap, .int .i64 0, .int .i64 (n : Int), .int .i64 v, .func (.func 54) #[] #[]] w (SortPost W l g n J ps) := by
  have HI := Lib.hid (fun (w : World) (h : St W ((g, 26, PX J ps) :: l) w) => isort_S (cap := cap) hT hz hn (by omega) hk w h)
  have HST := Lib.hid h
  clear hT hz hn hk h
  have hw1 : IntKind.i64.wrap ((n : Int) - 0) = (n : Int) := by rw [Int.sub_zero]; exact IntWalk.i64_in _ (by omega)
  have hw2 : IntKind.i64.wrap (n : Int) = (n : Int) := IntWalk.i64_in _ (by omega)
  have hle : (n : Int) ≤ 12 := by omega
  go_enter Tryz.func92, Tryz.ntmps92
  go_wp2_with fail
  go_loopg [1, 2] 0 (fun kx s1 s2 wr => kx = 0 ∧ s1 = .int .i64 0 ∧ s2 = .int .i64 (n : Int) ∧ Hid (St W ((g, 26, PX J ps) :: l) wr))
  case atStart => exact ⟨rfl, rfl, rfl, HST⟩
  case round =>
    clear HST
    obtain ⟨-, rfl, rfl, HS⟩ := hrel
    go_wp2_with (first | (go_at_call 119; refine (HI.out _ HS.out).mono ?_; rintro e w2 ⟨rfl, hp⟩) | fail)
    go_end0
    exact ⟨rfl, hp⟩
set_option maxHeartbeats 2000000 in
set_option maxRecDepth 20000 in
theorem sortF_S {k : Nat} {W : World} {l : List Own} {g n cap : Nat} {J : List Value} {ps : Pts} (hT : Tab W) (hz : Pz k ps) (hn : ps.length = n) (hn2 : n ≤ 12) (hk : k ≤ 1000000000) (w : World) (h : St W ((g, 26, PX J ps) :: l) w) :
    Calls Tryz.prog 53 #[.slice (some ⟨g, 0, none⟩) n cap, .func (.func 54) #[] #[]] w (SortPost W l g n J ps) := by
  have HI := Lib.hid (fun (v : Int) (w : World) (h : St W ((g, 26, PX J ps) :: l) w) => pdq_S (cap := cap) hT hz hn hn2 hk v w h)
  have HST := Lib.hid h
  clear hT hz hn hk h
  have hwu : IntKind.u64.wrap (n : Int) = (n : Int) := IntWalk.u64_in _ (by omega)
  go_enter Tryz.func53, Tryz.ntmps53
  go_wp2_with (first | (go_at_call 93; refine (len_s _ _ (by omega) (by omega)).mono ?_; rintro e w2 ⟨v, rfl, rfl⟩) | (go_at_call 92; refine (HI.out _ _ HST.out).mono ?_; rintro e w2 ⟨rfl, hp⟩) | fail)
  go_end0
  exact ⟨rfl, hp⟩
end Go.Proofs.YtoejojfjiikogaaGreatDoor
