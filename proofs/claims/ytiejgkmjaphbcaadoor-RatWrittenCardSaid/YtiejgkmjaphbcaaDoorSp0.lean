/- Joined texts. -/
import Derived.Test.YtiejgkmjaphbcaaDoorSpQ

/- Turns: what the functions compute, and how large it is. -/
namespace Go.Proofs.YtiejgkmjaphbcaaDoor
open Go.RowKit
set_option linter.unusedVariables false
set_option linter.unusedSimpArgs false

/-- a turn in good form: the half turn has the number 0 -/
def GoodT (h : Bool) (t : Rat) : Prop := h = true → t = 0
def cosT (h : Bool) (t : Rat) : Rat := if h = true then -1 else (1 - t * t) / (1 + t * t)
def sinT (t : Rat) : Rat := (t + t) / (1 + t * t)
def oppT (t : Rat) : Bool × Rat := if t = 0 then (true, 0) else (false, -1 / t)
def thenT (h1 : Bool) (t1 : Rat) (h2 : Bool) (t2 : Rat) : Bool × Rat :=
  match h1, h2 with
  | true, true => (false, 0)
  | true, false => oppT t2
  | false, true => oppT t1
  | false, false => if 1 - t1 * t2 = 0 then (true, 0) else (false, (t1 + t2) / (1 - t1 * t2))
theorem sq_nonneg (t : Rat) : 0 ≤ t * t := by
  rcases rat_tri t 0 with h | h | h
  · have := mul_lt_r (show 0 < -t by grind) (show 0 < -t by grind); grind
  · subst h; grind
  · have := mul_lt_r h h; grind
theorem one_sq (t : Rat) : (1 : Rat) + t * t ≠ 0 := by have := sq_nonneg t; grind
theorem Rz.one2 : Rz 2 (1 : Rat) := Rz.lit (z := 1) rfl (by decide)
theorem Rz.neg1 : Rz 2 (-1 : Rat) := Rz.lit (z := -1) rfl (by decide)
theorem Rz.zero2 : Rz 2 (0 : Rat) := Rz.lit (z := 0) rfl (by decide)
theorem Rz.cosT {k : Nat} {t : Rat} (h : Bool) (ht : Rz k t) : Rz (8 * k + 10) (cosT h t) := by
  unfold Go.Proofs.YtiejgkmjaphbcaaDoor.cosT
  split
  · exact Rz.neg1.more (by omega)
  · exact ((Rz.one2.sub (ht.mul ht)).div (Rz.one2.add (ht.mul ht)) (one_sq t)).more (by omega)
theorem Rz.sinT {k : Nat} {t : Rat} (ht : Rz k t) : Rz (8 * k + 10) (sinT t) := by
  unfold Go.Proofs.YtiejgkmjaphbcaaDoor.sinT
  exact ((ht.add ht).div (Rz.one2.add (ht.mul ht)) (one_sq t)).more (by omega)
theorem Rz.oppT {k : Nat} {t : Rat} (ht : Rz k t) : Rz (8 * k + 10) (oppT t).2 := by
  unfold Go.Proofs.YtiejgkmjaphbcaaDoor.oppT
  split
  · exact Rz.zero2.more (by omega)
  · exact (Rz.neg1.div ht (by assumption)).more (by omega)
theorem Rz.thenT {k : Nat} {t1 t2 : Rat} (h1 h2 : Bool) (ht1 : Rz k t1) (ht2 : Rz k t2) : Rz (8 * k + 10) (thenT h1 t1 h2 t2).2 := by
  unfold Go.Proofs.YtiejgkmjaphbcaaDoor.thenT
  cases h1 <;> cases h2 <;> simp only
  · split
    · exact Rz.zero2.more (by omega)
    · exact ((ht1.add ht2).div (Rz.one2.sub (ht1.mul ht2)) (by assumption)).more (by omega)
  · exact Rz.oppT ht1
  · exact Rz.oppT ht2
  · exact Rz.zero2.more (by omega)
theorem oppT_good (t : Rat) : GoodT (oppT t).1 (oppT t).2 := by
  unfold oppT GoodT
  split <;> simp
theorem thenT_good (h1 : Bool) (t1 : Rat) (h2 : Bool) (t2 : Rat) : GoodT (thenT h1 t1 h2 t2).1 (thenT h1 t1 h2 t2).2 := by
  unfold thenT
  cases h1 <;> cases h2 <;> simp only
  · split <;> simp [GoodT]
  · exact oppT_good _
  · exact oppT_good _
  · simp [GoodT]
end Go.Proofs.YtiejgkmjaphbcaaDoor
