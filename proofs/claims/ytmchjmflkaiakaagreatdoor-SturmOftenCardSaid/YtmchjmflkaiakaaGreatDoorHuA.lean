/- Blocks that hold points and more cells behind them. -/
import Derived.Test.YtmchjmflkaiakaaGreatDoorPo1
namespace Go.Proofs.YtmchjmflkaiakaaGreatDoor
open Go.RowKit
set_option linter.unusedVariables false
set_option linter.unusedSimpArgs false
abbrev P2 := Rat × Rat
def PX (J : List Value) (ps : Pts) : Array Value := ((PC ps).toList ++ J).toArray
def pv (p : P2) : List Value := (VC p.1 p.2).toList
def fl (ps : Pts) : List Value := ps.flatMap pv
theorem PX_list (J : List Value) (ps : Pts) : (PX J ps).toList = fl ps ++ J := rfl
theorem pv_len (p : P2) : (pv p).length = 6 := rfl
theorem fl_len (ps : Pts) : (fl ps).length = 6 * ps.length := by
 induction ps with
 | nil => rfl
 | cons p ps ih => rw [fl, List.flatMap_cons, List.length_append]; unfold fl at ih; rw [ih, pv_len, List.length_cons]; omega
theorem PX_size (J : List Value) (ps : Pts) : (PX J ps).size = 6 * ps.length + J.length := by
 show (PX J ps).toList.length = _
 rw [PX_list, List.length_append, fl_len]
theorem fl_take (ps : Pts) (i : Nat) : (fl ps).take (6 * i) = fl (ps.take i) := by
 induction i generalizing ps with
 | zero => simp [fl]
 | succ i ih =>
   cases ps with
   | nil => simp [fl]
   | cons p ps =>
     have := ih ps
     unfold fl at this ⊢
     rw [List.flatMap_cons, show 6 * (i + 1) = (pv p).length + 6 * i by rw [pv_len]; omega, List.take_append, List.take_succ_cons, List.flatMap_cons, ← this, List.take_of_length_le (by omega), Nat.add_sub_cancel_left]
theorem fl_drop (ps : Pts) (i : Nat) : (fl ps).drop (6 * i) = fl (ps.drop i) := by
 induction i generalizing ps with
 | zero => rfl
 | succ i ih =>
   cases ps with
   | nil => simp [fl]
   | cons p ps =>
     have := ih ps
     unfold fl at this ⊢
     rw [List.flatMap_cons, show 6 * (i + 1) = (pv p).length + 6 * i by rw [pv_len]; omega, List.drop_append, Nat.add_sub_cancel_left, List.drop_of_length_le (by omega), List.nil_append, this, List.drop_succ_cons]
theorem fl_app (a b : Pts) : fl (a ++ b) = fl a ++ fl b := by simp [fl]
theorem PX_room {J : List Value} {ps : Pts} {i : Nat} (h : i < ps.length) : 6 * i + 6 ≤ (PX J ps).size := by rw [PX_size]; omega
theorem PX_at {J : List Value} {ps : Pts} {i : Nat} (h : i < ps.length) : (PX J ps).extract (6 * i) (6 * i + 6) = VC (px ps i) (py ps i) := by
 apply Array.toList_inj.1
 rw [Array.toList_extract, List.extract_eq_take_drop, PX_list, List.drop_append, fl_drop, List.drop_eq_getElem_cons h, fl, List.flatMap_cons, show 6 * i + 6 - 6 * i = (pv ps[i]).length by rw [pv_len]; omega, List.append_assoc, List.take_left, getD_pt h]
 rfl
theorem PX_put {J : List Value} {ps : Pts} {i : Nat} {x y : Rat} (h : i < ps.length) : ((PX J ps).toList.take (6 * i) ++ (Value.agg (VC x y)).cells.toList ++ (PX J ps).toList.drop (6 * i + (Value.agg (VC x y)).cells.size)).toArray = PX J (ps.set i (x, y)) := by
 have hs : (Value.agg (VC x y)).cells.size = 6 := rfl
 have hc : (Value.agg (VC x y)).cells.toList = pv (x, y) := rfl
 rw [hs, hc, show 6 * i + 6 = 6 * (i + 1) by omega]
 apply Array.toList_inj.1
 show List.take (6 * i) (PX J ps).toList ++ pv (x, y) ++ List.drop (6 * (i + 1)) (PX J ps).toList = (PX J (ps.set i (x, y))).toList
 rw [PX_list, PX_list, List.take_append_of_le_length (by rw [fl_len]; omega), List.drop_append_of_le_length (by rw [fl_len]; omega), fl_take, fl_drop, List.set_eq_take_append_cons_drop, if_pos h, fl_app]
 have e : fl ((x, y) :: ps.drop (i + 1)) = pv (x, y) ++ fl (ps.drop (i + 1)) := by unfold fl; rw [List.flatMap_cons]
 rw [e]
 simp only [List.append_assoc]
theorem px_set {ps : Pts} {i j : Nat} {v : P2} (h : i < ps.length) : px (ps.set i v) j = if i = j then v.1 else px ps j := by
 unfold px
 rw [List.getD_eq_getElem?_getD, List.getElem?_set]
 by_cases e : i = j
 ·subst e; simp [h]
 ·simp [e]
theorem py_set {ps : Pts} {i j : Nat} {v : P2} (h : i < ps.length) : py (ps.set i v) j = if i = j then v.2 else py ps j := by
 unfold py
 rw [List.getD_eq_getElem?_getD, List.getElem?_set]
 by_cases e : i = j
 ·subst e; simp [h]
 ·simp [e]
theorem Pz.set {k : Nat} {ps : Pts} {i : Nat} {v : P2} (h : Pz k ps) (hv : Rz k v.1 ∧ Rz k v.2) : Pz k (ps.set i v) := by
 intro p hp
 rcases List.mem_or_eq_of_mem_set hp with h1 | h1
 ·exact h p h1
 ·rw [h1]; exact hv
end Go.Proofs.YtmchjmflkaiakaaGreatDoor
