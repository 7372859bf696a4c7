/- make([]T, n); a block of integers of the call's own that is stored into. -/
import Derived.Test.YtogjfmgecnoceaaGrowI
import Derived.Laws.OwnMore
namespace Go.Proofs.Ytogjfmgecnoceaa
open Go.RowKit
set_option linter.unusedVariables false

theorem made_one_ (z : Value) (n : Nat) : madeCells #[z] n = Array.replicate n z := by
  apply Array.ext
  · simp [madeCells]
  · intro i h1 h2
    simp [madeCells, Nat.mod_one]
/-- make([]T, n), T of one cell -/
theorem run_make_ {P : Program} {t e : TypeId} {i : TypeInfo} {z : Value} (ht : P.underlying t = some (.slice e)) (hi : P.info? e = some i) (hz : i.zero = some z) (hz1 : i.size = 1) (hzc : z.cells = #[z])
    (n : Nat) (hb : i.bytes * n ≤ 281474976710656) (h63 : n ≤ 9223372036854775807) (w : World) :
    (Instr.makeSlice t (.int .i64 (n : Int)) (.int .i64 (n : Int))).run P w = .ok (.slice (some ⟨w.heap.size, 0, none⟩) n n) (w.alloc (.cells (Array.replicate n z) e)) := by
  have hb' : (i.bytes : Int) * (n : Int) ≤ 281474976710656 := by
    have h : ((i.bytes * n : Nat) : Int) ≤ 281474976710656 := Int.ofNat_le.2 hb
    rwa [Int.natCast_mul] at h
  have hr := run_make (P := P) w t e i z ht hi hz .i64 .i64 n n (by omega) (by omega) hb' (by omega)
  simp only [Int.toNat_natCast] at hr
  rw [hr, hz1, Nat.mul_one, hzc, made_one_]

/-- block g holds the integers xs -/
def IBlk (w : World) (g : Nat) (xs : List Int) : Prop := Blk w g 3 (cellsI xs).toArray
section
variable {w w' : World} {g : Nat} {xs : List Int}
theorem IBlk.cell (h : IBlk w g xs) {k : Nat} {x : Int} (hx : xs[k]? = some x) : w.cell? ⟨g, k, none⟩ = some (.int .i64 x) := by
  rw [Blk.cell h k]; simp [cellsI, hx]
theorem IBlk.frozen (h : IBlk w g xs) (k : Nat) : w.frozen? ⟨g, k, none⟩ = false := Blk.frozen h k
theorem IBlk.set_ (h : IBlk w g xs) (k : Nat) (y : Int) : IBlk (w.setCell ⟨g, k, none⟩ (.int .i64 y)) g (xs.set k y) := by
  have h1 := Blk.set_ h k (.int .i64 y)
  have e : (cellsI xs).toArray.setIfInBounds k (.int .i64 y) = (cellsI (xs.set k y)).toArray := by
    simp [cellsI, List.map_set]
  rw [e] at h1
  exact h1
theorem IBlk.belowB (h : IBlk w g xs) (hb : Below w.heap.size w w') : IBlk w' g xs := Blk.belowB h hb
theorem IBlk.drewN (h : IBlk w g xs) (n : Nat) : IBlk (w.drewN n) g xs := h
theorem IBlk.drew (h : IBlk w g xs) : IBlk w.drew g xs := h
theorem IBlk.alloc (h : IBlk w g xs) (o : Obj) : IBlk (w.alloc o) g xs := Blk.alloc h o
theorem IBlk.far (h : IBlk w g xs) {p : Addr} (hp : g ≠ p.block) (u : Value) : IBlk (w.setCell p u) g xs := Blk.far h hp u
theorem IBlk.lt (h : IBlk w g xs) : g < w.heap.size := Blk.lt h
theorem IBlk.re {ys : List Int} (h : IBlk w g xs) (e : ys = xs) : IBlk w g ys := e ▸ h
theorem IBlk.made (w : World) (n : Nat) : IBlk (w.alloc (.cells (Array.replicate n (.int .i64 0)) 3)) w.heap.size (List.replicate n 0) := by
  have e : (cellsI (List.replicate n 0)).toArray = Array.replicate n (.int .i64 0) := by simp [cellsI]
  unfold IBlk
  rw [e]
  exact Blk.new _ _ _
theorem IBlk.ints (h : IBlk w g xs) : IntsAt w w.heap.size (some ⟨g, 0, none⟩) xs := by
  intro k x hx
  refine ⟨g, 0, rfl, h.lt, ?_⟩
  rw [Nat.zero_add]
  exact h.cell hx
theorem IBlk.intsV (h : IBlk w g xs) {n : Nat} (hn : n = xs.length) (hm : n ≤ maxLen) : IntsV w (.slice (some ⟨g, 0, none⟩) n n) xs := ⟨_, n, by rw [hn], by rw [hn]; exact Nat.le_refl _, hm, h.ints⟩
end
theorem make_i (n : Nat) (hn : n ≤ 4294967296) (w : World) : (Instr.makeSlice 23 (.int .i64 (n : Int)) (.int .i64 (n : Int))).run Try.prog w = .ok (.slice (some ⟨w.heap.size, 0, none⟩) n n) (w.alloc (.cells (Array.replicate n (.int .i64 0)) 3)) := by
  obtain ⟨i0, hi0, hz0, hz1, hz2⟩ := info_parts infoI
  exact run_make_ Try.underlying23 hi0 hz0 hz1 rfl n (by rw [hz2]; omega) (by omega) w
end Go.Proofs.Ytogjfmgecnoceaa
