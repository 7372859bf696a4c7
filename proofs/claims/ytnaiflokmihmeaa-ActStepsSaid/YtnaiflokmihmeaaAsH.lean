/- The builtin copy and slices.overlaps at steps. -/
import Derived.Test.YtnaiflokmihmeaaAsG
import Derived.Laws.IdiomCopy
import Derived.Lib.Overlaps
import Derived.Shelf.Spec.SlicesInsert
namespace Go.Proofs.Ytnaiflokmihmeaa
open Go.RowKit
set_option linter.unusedVariables false
set_option linter.unusedSimpArgs false

theorem run_copy_st (w : World) (ty : TypeId) (b o dLen dCap : Nat) (a : Addr) (sLen sCap m : Nat) (cs : List Value) (hm : Nat.min sLen dLen = m) (hn : cs.length = m * 5)
    (hsrc : ∀ j v, cs[j]? = some v → w.cell? (a.add j) = some v) (hc : ∀ j, j < cs.length → (w.cell? ⟨b, o + j, none⟩).isSome = true) (hf : ∀ j, j < cs.length → w.frozen? ⟨b, o + j, none⟩ = false) (h1 : ∀ v ∈ cs, v.oneCell' = true) :
    (Builtin.copy_ #[26, 26] ty #[.slice (some ⟨b, o, none⟩) dLen dCap, .slice (some a) sLen sCap]).run Try.prog w = .ok (goInt m) (w.setCells b o cs) := by
  have hl := run_loadCells_list (P := Try.prog) w a cs hsrc
  have hst := run_storeCells_cells (P := Try.prog) b o cs 0 w (by simpa using hc) (by simpa using hf) h1
  obtain ⟨i0, hi0, hz0, hz1, hz2⟩ := info_parts infoT
  rw [hn] at hl
  rw [Nat.add_zero] at hst
  simp [Builtin.copy_, run_underlying Try.underlying26, Builtin.lenOf, Builtin.firstCells, sizeOf, typeInfo, hi0, hz1, hm, hl, hst]
theorem blk_shape {w : World} {g : Nat} {t : TypeId} {cs : Array Value} (h : Blk w g t cs) : w.shape? g = some (t, cs.size) := by
  unfold World.shape?
  rw [h]
/-- slices in two blocks do not overlap -/
theorem overlaps_st (w : World) (vb m vc b o lb cb : Nat) (tA tB : TypeId) (xs ys : Array Value) (hne : vb ≠ b) (hA : Blk w vb tA xs) (hB : Blk w b tB ys) (hk : ys.size ≠ 0) :
    (callFunc 110 #[.slice (some ⟨vb, 0, none⟩) m vc, .slice (some ⟨b, o, none⟩) lb cb]).run Try.prog w = .ok (.value (.bool false)) w := by
  rw [run_callFunc_extern Try.func110 (by kernel_rfl) (by kernel_rfl) (by kernel_rfl) (e := Extern.SlicesOverlaps.overlaps #[26, 26] #[4]) (by kernel_rfl),
    Lib.run_overlaps_apart w 26 4 39 Try.underlying26 5 sizeS ⟨vb, 0, none⟩ ⟨b, o, none⟩ m vc lb cb hne tA tB xs.size ys.size (blk_shape hA) (blk_shape hB) hk (hA.frozen _) (hA.frozen _)]
  rfl
end Go.Proofs.Ytnaiflokmihmeaa
