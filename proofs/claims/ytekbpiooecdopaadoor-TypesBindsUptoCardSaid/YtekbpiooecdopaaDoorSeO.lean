/- Numbers, spans, poses and frames that came in, opened cell by cell, with the bulk. -/
import Derived.Test.YtekbpiooecdopaaDoorSe0
import Derived.Test.YtekbpiooecdopaaDoorRows

namespace Go.Proofs.YtekbpiooecdopaaDoor
open Go.RowKit Go.ChangeShapes Go.WideShapes Go.Deep
set_option linter.unusedVariables false
set_option linter.unusedSimpArgs false

section
variable {H : Type} {enc : TypeId × Value → H} {w : World} {base : Nat} {held : Bool} {fuel : Nat} {cs : List Value} {x : DataW H × List MemPlace}
theorem bulkO_pos (d : DataW H) : 1 ≤ Rows.uptoBulk d := by
  cases d with
  | lit l => cases l <;> simp [Rows.uptoBulk]
  | _ => simp [Rows.uptoBulk]
theorem bulkO_mem : ∀ {ds : List (DataW H)} {d : DataW H}, d ∈ ds → Rows.uptoBulk d ≤ Rows.uptoBulkAll ds
  | x :: r, d, h => by
    simp only [Rows.uptoBulkAll]
    rcases List.mem_cons.1 h with rfl | h
    · omega
    · have := bulkO_mem h; omega
/-- a struct: its fields' cells and readings -/
theorem open_struct_b {P : Program} {e : TypeId} {fs : Array Field} (he : P.underlying e = some (.struct fs)) (h : DataW.trod enc P w base (fun _ => true) held fuel e cs = some x) :
    cs.length = P.cellsOf e ∧ ∃ n, ∀ (j : Nat) (f : Field), fs[j]? = some f → ∃ y : DataW H × List MemPlace, DataW.trod enc P w base (fun _ => true) held n f.type ((cs.drop f.offset).take (P.cellsOf f.type)) = some y ∧ Rows.uptoBulk y.1 + 1 ≤ Rows.uptoBulk x.1 := by
  obtain ⟨ys, n', hn', hy, hlen, hyl, hf⟩ := DataW.trod_struct he h
  refine ⟨hlen, n', fun j f hj => ?_⟩
  have hjl : j < fs.size := (Array.getElem?_eq_some_iff.1 hj).1
  have hys : ys[j]? = some (ys[j]'(by omega)) := List.getElem?_eq_getElem (by omega)
  refine ⟨_, (hf j f hj).trans hys, ?_⟩
  have hd : x.1 = DataW.agg (List.map (fun x => x.1) ys) := congrArg Prod.fst hy
  rw [hd]
  have := bulkO_mem (ds := ys.map fun x => x.1) (d := (ys[j]'(by omega)).1) (List.mem_map.2 ⟨ys[j]'(by omega), List.getElem_mem _, rfl⟩)
  first
    | (simp only [Rows.uptoBulk]; omega)
    | (simp [Rows.uptoBulk]; omega)
/-- one field -/
theorem open_field_b {P : Program} {e : TypeId} {fs : Array Field} (he : P.underlying e = some (.struct fs)) (h : DataW.trod enc P w base (fun _ => true) held fuel e cs = some x) (j : Nat) {T off c : Nat} (hj : (fs[j]?).map (fun f => (f.type, f.offset)) = some (T, off)) (hc : P.cellsOf T = c) :
    ∃ (y : DataW H × List MemPlace) (n : Nat), DataW.trod enc P w base (fun _ => true) held n T ((cs.drop off).take c) = some y ∧ Rows.uptoBulk y.1 + 1 ≤ Rows.uptoBulk x.1 := by
  obtain ⟨_, n, hf⟩ := open_struct_b he h
  cases g : fs[j]? with
  | none => rw [g] at hj; cases hj
  | some q =>
    rw [g] at hj
    simp only [Option.map_some, Option.some.injEq, Prod.mk.injEq] at hj
    obtain ⟨y, h0, e0⟩ := hf j q g
    rw [hj.1, hj.2, hc] at h0
    exact ⟨y, n, h0, e0⟩
/-- the texts of a number are shorter than the bulk -/
def RT.sz (t : RT) (b : Nat) : Prop := t.a.size ≤ b ∧ t.d.size ≤ b
theorem RT.sz.more {t : RT} {b c : Nat} (h : t.sz b) (hb : b ≤ c) : t.sz c := ⟨Nat.le_trans h.1 hb, Nat.le_trans h.2 hb⟩
theorem len3 {cs : List Value} (h : cs.length = 3) : ∃ a b c, cs = [a, b, c] := by
  match cs, h with
  | [a, b, c], _ => exact ⟨a, b, c, rfl⟩
set_option maxRecDepth 20000 in
theorem open_rat (h : DataW.trod enc Tryd.prog w base (fun _ => true) held fuel 28 cs = some x) : ∃ t : RT, cs = (RT.c t).toList ∧ t.sz (Rows.uptoBulk x.1) := by
  have hl := (open_struct_b Tryd.underlying28 h).1
  rw [show Tryd.prog.cellsOf 28 = 3 by kernel_rfl] at hl
  obtain ⟨a, b, c, rfl⟩ := len3 hl
  obtain ⟨y0, n0, h0, e0⟩ := open_field_b Tryd.underlying28 h 0 (T := 4) (off := 0) (c := 1) rfl (by kernel_rfl)
  obtain ⟨y1, n1, h1, e1⟩ := open_field_b Tryd.underlying28 h 1 (T := 9) (off := 1) (c := 1) rfl (by kernel_rfl)
  obtain ⟨y2, n2, h2, e2⟩ := open_field_b Tryd.underlying28 h 2 (T := 9) (off := 2) (c := 1) rfl (by kernel_rfl)
  simp only [List.drop_zero, List.drop_succ_cons, List.take_succ_cons, List.take_zero] at h0 h1 h2
  obtain ⟨bv, hb, _⟩ := DataW.trod_bool Tryd.underlying4 h0
  obtain ⟨s1, hs1, hx1, _⟩ := DataW.trod_string Tryd.underlying9 h1
  obtain ⟨s2, hs2, hx2, _⟩ := DataW.trod_string Tryd.underlying9 h2
  simp only [List.cons.injEq, and_true] at hb hs1 hs2
  subst hb hs1 hs2
  refine ⟨⟨bv, s1, s2⟩, rfl, ?_, ?_⟩
  · rw [hx1] at e1
    simp only [Rows.uptoBulk] at e1
    have hl : s1.data.toList.length = s1.size := Array.length_toList
    show s1.size ≤ _
    omega
  · rw [hx2] at e2
    simp only [Rows.uptoBulk] at e2
    have hl : s2.data.toList.length = s2.size := Array.length_toList
    show s2.size ≤ _
    omega
theorem join2 {cs : List Value} {m n : Nat} (hl : cs.length = m + n) {a b : List Value} (ha : (cs.drop 0).take m = a) (hb : (cs.drop m).take n = b) : cs = a ++ b := by
  rw [← ha, ← hb, List.drop_zero, List.take_of_length_le (l := cs.drop m) (by rw [List.length_drop]; omega), List.take_append_drop]
theorem join3 {cs : List Value} {m n p : Nat} (hl : cs.length = m + n + p) {a b c : List Value} (ha : (cs.drop 0).take m = a) (hb : (cs.drop m).take n = b) (hc : (cs.drop (m + n)).take p = c) : cs = a ++ b ++ c := by
  have h1 : cs = cs.take (m + n) ++ c := by rw [← hc, List.take_of_length_le (l := cs.drop (m + n)) (by rw [List.length_drop]; omega), List.take_append_drop]
  have h2 : cs.take (m + n) = a ++ b := by
    refine join2 (m := m) (n := n) (by rw [List.length_take]; omega) ?_ ?_
    · rw [← ha, List.drop_zero, List.drop_zero, List.take_take]; congr 1; omega
    · rw [← hb, List.drop_take, List.take_take]; congr 1; omega
  rw [h1, h2]
set_option maxRecDepth 20000 in
theorem open_pair {T : TypeId} {fs : Array Field} (hu : Tryd.prog.underlying T = some (.struct fs)) (hc : Tryd.prog.cellsOf T = 6) (f0 : (fs[0]?).map (fun f => (f.type, f.offset)) = some (28, 0)) (f1 : (fs[1]?).map (fun f => (f.type, f.offset)) = some (28, 3))
    (h : DataW.trod enc Tryd.prog w base (fun _ => true) held fuel T cs = some x) : ∃ a b : RT, cs = (SW a b).toList ∧ a.sz (Rows.uptoBulk x.1) ∧ b.sz (Rows.uptoBulk x.1) := by
  obtain ⟨hl, n, hf⟩ := open_struct_b hu h
  rw [hc] at hl
  cases g0 : fs[0]? with
  | none => rw [g0] at f0; cases f0
  | some q0 =>
  cases g1 : fs[1]? with
  | none => rw [g1] at f1; cases f1
  | some q1 =>
  rw [g0] at f0; rw [g1] at f1
  simp only [Option.map_some, Option.some.injEq, Prod.mk.injEq] at f0 f1
  obtain ⟨y0, h0, e0⟩ := hf 0 q0 g0
  obtain ⟨y1, h1, e1⟩ := hf 1 q1 g1
  rw [f0.1, f0.2, show Tryd.prog.cellsOf 28 = 3 by kernel_rfl] at h0
  rw [f1.1, f1.2, show Tryd.prog.cellsOf 28 = 3 by kernel_rfl] at h1
  obtain ⟨a, ha, sa⟩ := open_rat h0
  obtain ⟨b, hb, sb⟩ := open_rat h1
  exact ⟨a, b, join2 (m := 3) (n := 3) hl ha hb, sa.more (by omega), sb.more (by omega)⟩
theorem open_vec (h : DataW.trod enc Tryd.prog w base (fun _ => true) held fuel 44 cs = some x) : ∃ a b : RT, cs = (SW a b).toList ∧ a.sz (Rows.uptoBulk x.1) ∧ b.sz (Rows.uptoBulk x.1) :=
  open_pair Tryd.underlying44 (by kernel_rfl) rfl rfl h
set_option maxRecDepth 20000 in
theorem open_turn (h : DataW.trod enc Tryd.prog w base (fun _ => true) held fuel 46 cs = some x) : ∃ (b : Bool) (t : RT), cs = .bool b :: (RT.c t).toList ∧ t.sz (Rows.uptoBulk x.1) := by
  have hl := (open_struct_b Tryd.underlying46 h).1
  rw [show Tryd.prog.cellsOf 46 = 4 by kernel_rfl] at hl
  obtain ⟨y0, n0, h0, e0⟩ := open_field_b Tryd.underlying46 h 0 (T := 4) (off := 0) (c := 1) rfl (by kernel_rfl)
  obtain ⟨y1, n1, h1, e1⟩ := open_field_b Tryd.underlying46 h 1 (T := 28) (off := 1) (c := 3) rfl (by kernel_rfl)
  obtain ⟨bv, hb, _⟩ := DataW.trod_bool Tryd.underlying4 h0
  obtain ⟨t, ht, st⟩ := open_rat h1
  exact ⟨bv, t, join2 (m := 1) (n := 3) hl hb ht, st.more (by omega)⟩
set_option maxRecDepth 20000 in
theorem open_frame (h : DataW.trod enc Tryd.prog w base (fun _ => true) held fuel 48 cs = some x) : ∃ (a b : RT) (hf : Bool) (t : RT), cs = (FW a b hf t).toList ∧ a.sz (Rows.uptoBulk x.1) ∧ b.sz (Rows.uptoBulk x.1) ∧ t.sz (Rows.uptoBulk x.1) := by
  have hl := (open_struct_b Tryd.underlying48 h).1
  rw [show Tryd.prog.cellsOf 48 = 10 by kernel_rfl] at hl
  obtain ⟨y0, n0, h0, e0⟩ := open_field_b Tryd.underlying48 h 0 (T := 44) (off := 0) (c := 6) rfl (by kernel_rfl)
  obtain ⟨y1, n1, h1, e1⟩ := open_field_b Tryd.underlying48 h 1 (T := 46) (off := 6) (c := 4) rfl (by kernel_rfl)
  obtain ⟨a, b, hab, sa, sb⟩ := open_vec h0
  obtain ⟨bv, t, ht, st⟩ := open_turn h1
  exact ⟨a, b, bv, t, join2 (m := 6) (n := 4) hl hab ht, sa.more (by omega), sb.more (by omega), st.more (by omega)⟩
theorem arr_eq {a b : Array Value} (h : a.toList = b.toList) : a = b := Array.toList_inj.1 h
end
end Go.Proofs.YtekbpiooecdopaaDoor
