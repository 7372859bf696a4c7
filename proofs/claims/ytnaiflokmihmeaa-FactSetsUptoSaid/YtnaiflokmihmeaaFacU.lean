/- Facts: FactsOf (reference). -/
import Derived.Test.YtnaiflokmihmeaaFacQ
import Derived.Test.YtnaiflokmihmeaaFacR
import Derived.Test.YtnaiflokmihmeaaFacT
import Derived.Laws.MakeOwn
import Derived.Deep.DeepCutAuto
namespace Go.Proofs.Ytnaiflokmihmeaa
open Go.RowKit
set_option linter.unusedVariables false
set_option linter.unusedSimpArgs false

/-! ### the plain law -/
def rank (s : List Ft) (f : Ft) : Nat := (s.filter fun g => decide (FLt g f)).length
theorem rank_lt {s : List Ft} {f : Ft} (h : f ∈ s) : rank s f < s.length := by
  unfold rank
  rcases Nat.lt_or_ge (s.filter fun g => decide (FLt g f)).length s.length with h1 | h1
  · exact h1
  · have h2 := List.length_filter_eq_length_iff.1 (Nat.le_antisymm (List.length_filter_le _ _) h1)
    have := h2 f h
    simp at this
    exact absurd this (flt_irrefl f)
theorem rank_perm {s r : List Ft} (h : s.Perm r) (f : Ft) : rank s f = rank r f := (h.filter _).length_eq
theorem rank_asc : ∀ {r : List Ft} {i : Nat} {f : Ft}, Asc r → r[i]? = some f → rank r f = i
  | [], _, _, _, h => by simp at h
  | x :: r, 0, f, ha, h => by
    simp at h; subst h
    have ha' := List.pairwise_cons.1 ha
    unfold rank
    rw [List.length_eq_zero_iff, List.filter_eq_nil_iff]
    intro y hy
    simp only [decide_eq_true_eq]
    rcases List.mem_cons.1 hy with rfl | hy
    · exact flt_irrefl _
    · exact fun h2 => flt_irrefl _ (flt_trans h2 (ha'.1 y hy))
  | x :: r, i + 1, f, ha, h => by
    have ha' := List.pairwise_cons.1 ha
    simp at h
    have hx := ha'.1 f (List.mem_of_getElem? h)
    have ih := rank_asc ha'.2 h
    unfold rank at ih ⊢
    rw [List.filter_cons, if_pos (by simpa using hx), List.length_cons, ih]
/-- where each stands at its rank, there stands the ascending list -/
theorem ranked {s r : List Ft} {d : Array Ft} (hp : s.Perm r) (hr : Asc r) (hs : d.size = s.length) (h : ∀ f ∈ s, d[rank s f]! = f) : d.toList = r := by
  apply List.ext_getElem?
  intro i
  rcases Nat.lt_or_ge i r.length with hi | hi
  · obtain ⟨f, hf⟩ := get_of_lt rfl hi
    have h1 := h f (hp.mem_iff.2 (List.mem_of_getElem? hf))
    rw [rank_perm hp, rank_asc hr hf] at h1
    have hid : i < d.size := by rw [hs, hp.length_eq]; exact hi
    rw [hf, Array.getElem?_toList, Array.getElem?_eq_getElem hid, ← h1, getElem!_pos d i hid]
  · rw [List.getElem?_eq_none hi, List.getElem?_eq_none (by rw [Array.length_toList, hs, hp.length_eq]; exact hi)]
theorem ofL_perm {l s : List Ft} (hn : s.Nodup) (hm : ∀ x, x ∈ s ↔ x ∈ l ∧ okF x = true) : s.Perm (ofL l) := by
  refine (List.perm_ext_iff_of_nodup hn ?_).2 (fun x => by rw [hm, ofL_mem])
  exact (ofL_asc l).imp (fun {a b} hab e => by subst e; exact flt_irrefl a hab)

/-! ### the walks -/
set_option maxHeartbeats 2000000 in
theorem fless_any (f g : Ft) (w : World) : Calls Try.prog 21 #[valF f, valF g] w fun e w' => e = .returned (.bool (decide (FLt f g))) ∧ Below w.heap.size w w' := by
  have HT := Lib.hid (two_boxes w f g)
  obtain ⟨k, a, b⟩ := f
  obtain ⟨kk, aa, bb⟩ := g
  show Calls Try.prog 21 #[.agg #[.int .i64 k, .int .i64 a, .int .i64 b], .agg #[.int .i64 kk, .int .i64 aa, .int .i64 bb]] w fun e w' => e = .returned (.bool (decide (FLt ⟨k, a, b⟩ ⟨kk, aa, bb⟩))) ∧ Below w.heap.size w w'
  by_cases h1 : k = kk
  · subst h1
    by_cases h2 : a = aa
    · subst h2
      have HV := Lib.hid (show decide (FLt ⟨k, a, b⟩ ⟨k, a, bb⟩) = decide (b < bb) by simp [FLt])
      go_enter Try.func21, Try.ntmps21
      go_wp2_with fail
      go_ret
      exact ⟨by rw [HV.out]; rfl, HT.out.1⟩
    · have HV := Lib.hid (show decide (FLt ⟨k, a, b⟩ ⟨k, aa, bb⟩) = decide (a < aa) by simp [FLt, h2])
      have e2 : (a != aa) = true := by simp [h2]
      clear h2
      go_enter Try.func21, Try.ntmps21
      go_wp2_with fail
      go_ret
      exact ⟨by rw [HV.out]; rfl, HT.out.1⟩
  · have HV := Lib.hid (show decide (FLt ⟨k, a, b⟩ ⟨kk, aa, bb⟩) = decide (k < kk) by simp [FLt, h1])
    have e2 : (k != kk) = true := by simp [h1]
    clear h1
    go_enter Try.func21, Try.ntmps21
    go_wp2_with fail
    go_ret
    exact ⟨by rw [HV.out]; rfl, HT.out.1⟩

theorem made_ft (n : Nat) (hb : 24 * n ≤ 281474976710656) (w : World) :
    ∃ w', (Instr.makeSlice 43 (.int .i64 (n : Int)) (.int .i64 (n : Int))).run Try.prog w = .ok (.slice (some ⟨w.heap.size, 0, none⟩) n n) w' ∧ FBlk w' w.heap.size n (Array.replicate n ⟨0, 0, 0⟩) ∧ Below w.heap.size w w' ∧ w'.heap.size = w.heap.size + 1 := by
  obtain ⟨i, hi, hz, hs, hby⟩ := info_parts infoFt
  have hb' : (i.bytes : Int) * (n : Int) ≤ 281474976710656 := by rw [hby]; omega
  have hr := run_make (P := Try.prog) w 43 45 i _ Try.underlying43 hi hz .i64 .i64 n n (by omega) (by omega) hb' (by omega)
  simp only [Int.toNat_natCast] at hr
  refine ⟨_, hr, ⟨_, Blk.new _ _ _, ?_, by simp, fun t ht => ?_⟩, (Below.refl _ _).alloc (Nat.le_refl _) _, by simp⟩
  · rw [size_madeCells, hs]
  · simp only [Array.size_replicate] at ht
    rw [hs]
    have hd : (Array.replicate n (⟨0, 0, 0⟩ : Ft))[t / 3]! = ⟨0, 0, 0⟩ := by
      rw [getElem!_pos _ _ (by simp; omega)]; simp
    rw [hd]
    have hm : t % 3 = 0 ∨ t % 3 = 1 ∨ t % 3 = 2 := by omega
    rcases hm with hm | hm | hm <;> simp [madeCells, Value.cells, ht, hm, valG]
def FInv (w : World) (b g n : Nat) (s : List Ft) (wr : World) : Prop := SetN valF wr b s ∧ Below w.heap.size w wr ∧ w.heap.size ≤ b
end Go.Proofs.Ytnaiflokmihmeaa
