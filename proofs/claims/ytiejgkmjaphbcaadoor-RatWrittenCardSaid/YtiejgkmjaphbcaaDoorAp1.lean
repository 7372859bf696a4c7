/- Joined texts. -/
import Derived.Test.YtiejgkmjaphbcaaDoorPo5
import Derived.Test.YtiejgkmjaphbcaaDoorPoA
import Derived.Deep.LoopGhost

/- package apart: toEdge, near (printed by lawvec.py). -/
namespace Go.Proofs.YtiejgkmjaphbcaaDoor
open Go.RowKit
set_option linter.unusedVariables false
set_option linter.unusedSimpArgs false

theorem te_rz {k : Nat} {p1 p2 a1 a2 b1 b2 : Rat} (Zp1 : Rz k p1) (Zp2 : Rz k p2) (Za1 : Rz k a1) (Za2 : Rz k a2) (Zb1 : Rz k b1) (Zb2 : Rz k b2) : Rz (96 * k + 27) (teQ p1 p2 a1 a2 b1 b2) := by
  have sb : ∀ {x y : Rat}, Rz k x → Rz k y → Rz (4 * k + 1) (x - y) := fun hx hy => (hx.sub hy).more (by omega)
  have dt : ∀ {x y z u : Rat}, Rz (4 * k + 1) x → Rz (4 * k + 1) y → Rz (4 * k + 1) z → Rz (4 * k + 1) u → Rz (32 * k + 9) (x * y + z * u) := fun hx hy hz hu => ((hx.mul hy).add (hz.mul hu)).more (by omega)
  have ct : ∀ {x y z u : Rat}, Rz (4 * k + 1) x → Rz (4 * k + 1) y → Rz (4 * k + 1) z → Rz (4 * k + 1) u → Rz (32 * k + 9) (x * y - z * u) := fun hx hy hz hu => ((hx.mul hy).sub (hz.mul hu)).more (by omega)
  unfold teQ
  split
  · exact (dt (sb Zp1 Za1) (sb Zp1 Za1) (sb Zp2 Za2) (sb Zp2 Za2)).more (by omega)
  · split
    · exact (dt (sb Zp1 Zb1) (sb Zp1 Zb1) (sb Zp2 Zb2) (sb Zp2 Zb2)).more (by omega)
    · rename_i h1 h2
      have c := ct (sb Zb1 Za1) (sb Zp2 Za2) (sb Zb2 Za2) (sb Zp1 Za1)
      exact ((c.mul c).div (dt (sb Zb1 Za1) (sb Zb1 Za1) (sb Zb2 Za2) (sb Zb2 Za2)) (fun e => h2 (by rw [e]; grind))).more (by omega)
theorem near_rz {k : Nat} {x y : Rat} {ps : Pts} (hz : Pz k ps) (hx : Rz k x) (hy : Rz k y) (h2 : 2 ≤ ps.length) : ∀ i, i ≤ ps.length → Rz (96 * k + 27) (nearF x y ps i) := by
  intro i
  induction i with
  | zero => intro _; exact te_rz hx hy (hz.x (show 0 < ps.length by omega)) (hz.y (show 0 < ps.length by omega)) (hz.x (show 1 < ps.length by omega)) (hz.y (show 1 < ps.length by omega))
  | succ i ih =>
    intro hi
    have hj : (i + 1) % ps.length < ps.length := Nat.mod_lt _ (by omega)
    simp only [nearF]
    exact (ih (by omega)).min (te_rz hx hy (hz.x (show i < ps.length by omega)) (hz.y (show i < ps.length by omega)) (hz.x hj) (hz.y hj))
theorem nearQ_rz {k : Nat} {x y : Rat} {ps : Pts} (hz : Pz k ps) (hx : Rz k x) (hy : Rz k y) (h2 : 2 ≤ ps.length) : Rz (96 * k + 27) (nearQ x y ps) := near_rz hz hx hy h2 _ (Nat.le_refl _)
theorem sqA_rz {k : Nat} {a b : Pts} (ha : Pz k a) (hb : Pz k b) (h1 : 2 ≤ a.length) (h2 : 2 ≤ b.length) : ∀ i, i ≤ a.length → Rz (96 * k + 27) (sqA a b i) := by
  intro i
  induction i with
  | zero => intro _; exact nearQ_rz hb (ha.x (show 0 < a.length by omega)) (ha.y (show 0 < a.length by omega)) h2
  | succ i ih => intro hi; exact (ih (by omega)).min (nearQ_rz hb (ha.x (show i < a.length by omega)) (ha.y (show i < a.length by omega)) h2)
theorem sqB_rz {k : Nat} {a b : Pts} {v : Rat} (ha : Pz k a) (hb : Pz k b) (h1 : 2 ≤ a.length) (h2 : 2 ≤ b.length) (hv : Rz (96 * k + 27) v) : ∀ j, j ≤ b.length → Rz (96 * k + 27) (sqB a b v j) := by
  intro j
  induction j with
  | zero => intro _; exact hv
  | succ j ih => intro hj; exact (ih (by omega)).min (nearQ_rz ha (hb.x (show j < b.length by omega)) (hb.y (show j < b.length by omega)) h1)
end Go.Proofs.YtiejgkmjaphbcaaDoor
