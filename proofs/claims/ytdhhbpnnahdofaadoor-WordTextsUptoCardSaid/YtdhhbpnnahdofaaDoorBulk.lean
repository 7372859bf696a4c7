/- How long a slice that came in may be, by the bulk of the reading. -/
import Derived.Test.YtdhhbpnnahdofaaDoorRows
import Derived.Test.YtdhhbpnnahdofaaDoorOpen

namespace Go.Proofs.YtdhhbpnnahdofaaDoor
open Go.RowKit Go.ChangeShapes Go.WideShapes Go.Deep
set_option linter.unusedVariables false

section
variable {H : Type}
theorem bulk_pos (d : DataW H) : 1 ≤ Rows.uptoBulk d := by
  cases d with
  | lit l => cases l <;> simp [Rows.uptoBulk]
  | _ => simp [Rows.uptoBulk]
theorem bulk_len : ∀ (ds : List (DataW H)), ds.length ≤ Rows.uptoBulkAll ds
  | [] => by simp [Rows.uptoBulkAll]
  | d :: r => by
    have := bulk_len r
    have := bulk_pos d
    simp only [Rows.uptoBulkAll, List.length_cons]
    omega
theorem bulk_mem : ∀ {ds : List (DataW H)} {d : DataW H}, d ∈ ds → Rows.uptoBulk d ≤ Rows.uptoBulkAll ds
  | x :: r, d, h => by
    simp only [Rows.uptoBulkAll]
    rcases List.mem_cons.1 h with rfl | h
    · omega
    · have := bulk_mem h; omega
/-- a slice's capacity -/
theorem bulk_open {enc : TypeId × Value → H} {P : Program} {w : World} {base : Nat} {held : Bool} {t e : TypeId} {A : Option Addr} {n c : Nat} {d : DataW H} {p : List MemPlace} (ht : P.underlying t = some (.slice e))
    (h : DataW.Trod enc P w base (fun _ => true) held t (.slice A n c) d p) : c + 1 ≤ Rows.uptoBulk d := by
  obtain ⟨fuel, hf⟩ := h
  rcases open_slice ht hf with ⟨hc, hx⟩ | ⟨a, len, cap, m, q, D, Pl, hc, hb, hl, hm, hmm, hx, hi⟩
  · simp [Value.cells] at hc
    have := bulk_pos d
    omega
  · simp [Value.cells] at hc
    obtain ⟨_, _, rfl⟩ := hc
    rw [if_pos rfl] at hmm
    subst hmm
    have hd : d = _ := congrArg Prod.fst hx
    rw [hd]
    simp only [Rows.uptoBulk]
    have h1 := bulk_len ((List.range len).map D)
    refine Nat.succ_le_succ ?_
    refine Nat.le_trans ?_ (Nat.add_le_add (bulk_len _) (bulk_len _))
    simp only [List.length_map, List.length_range]
    omega
end
end Go.Proofs.YtdhhbpnnahdofaaDoor
