/- Joined texts: Bulk BulkE. -/
import Derived.Test.YtekbpiooecdopaaDoorRows
import Derived.Test.YtekbpiooecdopaaDoorBunLib
namespace Go.Proofs.YtekbpiooecdopaaDoor
open Go.RowKit Go.ChangeShapes Go.WideShapes Go.Deep
set_option linter.unusedVariables false

section
variable {H : Type}
theorem bulk_pos (d : DataW H) : 1 ≤ Rows.uptoBulk d := by
  cases d with
  | lit l => cases l <;> simp [Rows.uptoBulk]
  | _ => simp [Rows.uptoBulk]
theorem bulk_len : ∀ (ds : List (DataW H)), ds.length ≤ Rows.uptoBulkAll ds
  | [] => by simp [Rows.uptoBulkAll]
  | d :: r => by
    have := bulk_len r
    have := bulk_pos d
    simp only [Rows.uptoBulkAll, List.length_cons]
    omega
end
section
variable {H : Type} {enc : TypeId × Value → H} {P : Program} {w : World} {base : Nat} {held : Bool}
/-- a slice that came in: its elements' cells, one by one, with the reading of each -/
theorem open_elems_b {t e : TypeId} {fuel C : Nat} {cs : List Value} {x : DataW H × List MemPlace} (ht : P.underlying t = some (.slice e)) (hC : P.cellsOf e = C) (h0 : 0 < C) (h : DataW.trod enc P w base (fun _ => true) held fuel t cs = some x) :
    ∃ (A : Option Addr) (len cap : Nat) (ys : List (DataW H)), cs = [.slice A len cap] ∧ len ≤ cap ∧ cap ≤ maxLen ∧ ys.length = len ∧ cap + 1 ≤ Rows.uptoBulk x.1 ∧ Rows.uptoBulkAll ys + 1 ≤ Rows.uptoBulk x.1 ∧
      ∀ i y, ys[i]? = some y → ∃ b off cs' n' pl, A = some ⟨b, off, none⟩ ∧ b < w.heap.size ∧ cs'.length = C ∧
      (∀ j u, cs'[j]? = some u → w.cell? ⟨b, off + (i * C + j), none⟩ = some u) ∧ DataW.trod enc P w base (fun _ => true) held n' e cs' = some (y, pl) := by
  rcases open_slice ht h with ⟨rfl, rfl⟩ | ⟨a, len, cap, m, n, D, Pl, rfl, hb, hlc, hm, hmm, hx, hi⟩
  · exact ⟨none, 0, 0, [], rfl, Nat.le_refl _, by unfold maxLen; omega, rfl, bulk_pos _, by simp only [Rows.uptoBulkAll]; exact bulk_pos _, fun i y hy => by simp at hy⟩
  · rw [if_pos rfl] at hmm
    subst hmm
    have hd : x.1 = _ := congrArg Prod.fst hx
    have hbk : Rows.uptoBulk x.1 = 1 + Rows.uptoBulkAll ((List.range len).map D) + Rows.uptoBulkAll ((List.range (m - len)).map fun i => D (len + i)) := by
      rw [hd]
      first
        | (simp only [Rows.uptoBulk]; done)
        | (simp only [Rows.uptoBulk]; omega)
    have h1 := bulk_len ((List.range len).map D)
    have h2 := bulk_len ((List.range (m - len)).map fun i => D (len + i))
    simp only [List.length_map, List.length_range] at h1 h2
    refine ⟨some a, len, m, (List.range len).map D, rfl, hlc, hm, by simp, by omega, by omega, fun i y hy => ?_⟩
    have hlen : i < len := by
      have := (List.getElem?_eq_some_iff.1 hy).1
      simpa using this
    obtain rfl : D i = y := by simpa [List.getElem?_map, List.getElem?_range hlen] using hy
    obtain ⟨cs', hc, ht'⟩ := hi i (by omega)
    rw [hC] at hc
    obtain ⟨_, hcl, hat⟩ := World.cells?_some hc
    have hspot : a.spot = none := by
      have h0' := hi 0 (by omega)
      obtain ⟨cs0, hc0, _⟩ := h0'
      rw [hC] at hc0
      obtain ⟨_, hcl0, hat0⟩ := World.cells?_some hc0
      have hj0 := hat0 0 (by omega)
      rw [Go.Deep.add_add, List.getElem?_eq_getElem (by omega)] at hj0
      simpa [Addr.add] using World.cell?_spot hj0
    obtain ⟨b, off, spot⟩ := a
    dsimp only at hspot
    subst hspot
    refine ⟨b, off, cs', n, _, rfl, ?_, hcl, fun j u hu => ?_, ht'⟩
    · have hj := hat 0 (by omega)
      rw [List.getElem?_eq_getElem (by omega)] at hj
      have := World.block_lt_of_cell? _ _ hj
      rw [Addr.add_lit, Addr.add_lit] at this
      exact this
    · have hjl : j < cs'.length := by
        rcases Nat.lt_or_ge j cs'.length with h | h
        · exact h
        · rw [List.getElem?_eq_none h] at hu; cases hu
      have hj := hat j (by omega)
      rw [Addr.add_lit, Addr.add_lit, Nat.add_assoc] at hj
      rw [hj, hu]
end
end Go.Proofs.YtekbpiooecdopaaDoor
