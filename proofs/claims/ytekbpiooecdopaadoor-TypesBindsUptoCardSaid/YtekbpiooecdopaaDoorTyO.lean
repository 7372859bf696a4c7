/- Works and statements that came in, opened. -/
import Derived.Test.YtekbpiooecdopaaDoorSeO
import Derived.Test.YtekbpiooecdopaaDoorBulkE
import Derived.Test.YtekbpiooecdopaaDoorTyB

namespace Go.Proofs.YtekbpiooecdopaaDoor
open Go.RowKit Go.ChangeShapes Go.WideShapes Go.Deep
set_option linter.unusedVariables false
set_option linter.unusedSimpArgs false

def Ones (cs : List Value) : Prop := ∀ u ∈ cs, u.oneCell' = true
theorem Ones.app {a b : List Value} (ha : Ones a) (hb : Ones b) : Ones (a ++ b) := fun u hu => by
  rcases List.mem_append.1 hu with h | h
  · exact ha u h
  · exact hb u h
theorem Ones.one {v : Value} (h : v.oneCell' = true) : Ones [v] := fun u hu => by rw [List.mem_singleton.1 hu]; exact h
theorem ones_rt (t : RT) : Ones (RT.c t).toList := fun u hu => by
  simp only [RT.c, List.mem_cons, List.not_mem_nil, or_false] at hu
  rcases hu with rfl | rfl | rfl <;> rfl
theorem ones_sw (a b : RT) : Ones (SW a b).toList := fun u hu => by
  simp only [SW, List.mem_cons, List.not_mem_nil, or_false] at hu
  rcases hu with rfl | rfl | rfl | rfl | rfl | rfl <;> rfl
theorem ones_fw (a b : RT) (h : Bool) (t : RT) : Ones (FW a b h t).toList := fun u hu => by
  simp only [FW, List.mem_cons, List.not_mem_nil, or_false] at hu
  rcases hu with rfl | rfl | rfl | rfl | rfl | rfl | rfl | rfl | rfl | rfl <;> rfl
/-- a slice of elements of C cells that came in: L are their names, F i the cells of element i -/
def SIn (C : Nat) (W : World) (A : Option Addr) (L : List ByteArray) (F : Nat → List Value) : Prop := ∀ i x, L[i]? = some x → ∃ g f, A = some ⟨g, f, none⟩ ∧ g < W.heap.size ∧ (F i).length = C ∧ Ones (F i) ∧ (F i)[0]? = some (.string x) ∧ ∀ j u, (F i)[j]? = some u → W.cell? ⟨g, f + (i * C + j), none⟩ = some u
theorem SIn.next {C : Nat} {W w : World} {A : Option Addr} {L : List ByteArray} {F : Nat → List Value} (h : SIn C W A L F) (hb : Below W.heap.size W w) : SIn C w A L F := fun i x hx => by
  obtain ⟨g, f, h1, h2, h3, h4, h5, h6⟩ := h i x hx
  exact ⟨g, f, h1, Nat.lt_of_lt_of_le h2 hb.size, h3, h4, h5, fun j u hu => by rw [(bcell hb).1 g _ h2]; exact h6 j u hu⟩
/-- a works: its slices, and the cells of no concern -/
structure Wk where
  A0 : Option Addr
  A2 : Option Addr
  A3 : Option Addr
  A4 : Option Addr
  c0 : Nat
  c2 : Nat
  c3 : Nat
  c4 : Nat
  u1 : Value
  u5 : Value
  u6 : Value
  u7 : Value
  L0 : List ByteArray
  L2 : List ByteArray
  L3 : List ByteArray
  L4 : List ByteArray
  F0 : Nat → List Value
  F2 : Nat → List Value
  F3 : Nat → List Value
  F4 : Nat → List Value
def wkC (k : Wk) (n0 n2 n3 n4 : Nat) : Array Value := #[.slice k.A0 n0 k.c0, k.u1, .slice k.A2 n2 k.c2, .slice k.A3 n3 k.c3, .slice k.A4 n4 k.c4, k.u5, k.u6, k.u7]
structure WkIn (W : World) (k : Wk) (n0 n2 n3 n4 : Nat) : Prop where
  h0 : SIn 12 W k.A0 k.L0 k.F0
  h2 : SIn 12 W k.A2 k.L2 k.F2
  h3 : SIn 14 W k.A3 k.L3 k.F3
  h4 : SIn 13 W k.A4 k.L4 k.F4
  e0 : k.L0.length = n0 ∧ n0 ≤ 524288
  e2 : k.L2.length = n2 ∧ n2 ≤ 524288
  e3 : k.L3.length = n3 ∧ n3 ≤ 524288
  e4 : k.L4.length = n4 ∧ n4 ≤ 524288
  o1 : k.u1.oneCell' = true
  o5 : k.u5.oneCell' = true
  o6 : k.u6.oneCell' = true
  o7 : k.u7.oneCell' = true
  tol : ∀ i, i < n3 → ∃ t : RT, ((k.F3 i).drop 11).take 3 = (RT.c t).toList ∧ t.sz 1048576
theorem WkIn.next {W w : World} {k : Wk} {n0 n2 n3 n4 : Nat} (h : WkIn W k n0 n2 n3 n4) (hb : Below W.heap.size W w) : WkIn w k n0 n2 n3 n4 := ⟨h.h0.next hb, h.h2.next hb, h.h3.next hb, h.h4.next hb, h.e0, h.e2, h.e3, h.e4, h.o1, h.o5, h.o6, h.o7, h.tol⟩
theorem WkIn.ones {W : World} {k : Wk} {n0 n2 n3 n4 : Nat} (h : WkIn W k n0 n2 n3 n4) : ∀ u ∈ wkC k n0 n2 n3 n4, u.oneCell' = true := fun u hu => by
  simp only [wkC, List.mem_toArray, List.mem_cons, List.not_mem_nil, or_false] at hu
  rcases hu with rfl | rfl | rfl | rfl | rfl | rfl | rfl | rfl
  · rfl
  · exact h.o1
  · rfl
  · rfl
  · rfl
  · exact h.o5
  · exact h.o6
  · exact h.o7
section
variable {H : Type} {enc : TypeId × Value → H} {w : World} {base : Nat} {held : Bool} {fuel : Nat} {cs : List Value} {x : DataW H × List MemPlace}
theorem open_slc {T e : TypeId} (ht : Tryd.prog.underlying T = some (.slice e)) (h : DataW.trod enc Tryd.prog w base (fun _ => true) held fuel T cs = some x) : ∃ A n c, cs = [.slice A n c] := by
  rcases open_slice ht h with ⟨h1, _⟩ | ⟨a, len, cap, m, n, D, Pl, h1, _⟩
  · exact ⟨none, 0, 0, h1⟩
  · exact ⟨some a, len, cap, h1⟩
set_option maxRecDepth 20000 in
theorem open_arm (h : DataW.trod enc Tryd.prog w base (fun _ => true) held fuel 51 cs = some x) : ∃ s, cs[0]? = some (.string s) ∧ cs.length = 12 ∧ Ones cs ∧ 2 ≤ Rows.uptoBulk x.1 := by
  have hl := (open_struct_b Tryd.underlying51 h).1
  rw [show Tryd.prog.cellsOf 51 = 12 by kernel_rfl] at hl
  obtain ⟨y0, n0, h0, b0⟩ := open_field_b Tryd.underlying51 h 0 (T := 9) (off := 0) (c := 1) rfl (by kernel_rfl)
  obtain ⟨y1, n1, h1, -⟩ := open_field_b Tryd.underlying51 h 1 (T := 48) (off := 1) (c := 10) rfl (by kernel_rfl)
  obtain ⟨y2, n2, h2, -⟩ := open_field_b Tryd.underlying51 h 2 (T := 49) (off := 11) (c := 1) rfl (by kernel_rfl)
  obtain ⟨s, e0, _⟩ := DataW.trod_string Tryd.underlying9 h0
  obtain ⟨a, b, hf, t, e1, -⟩ := open_frame h1
  obtain ⟨A, n, c, e2⟩ := open_slc Tryd.underlying49 h2
  have e := join3 (m := 1) (n := 10) (p := 1) hl e0 e1 e2
  exact ⟨s, by rw [e]; rfl, hl, by rw [e]; exact ((Ones.one rfl).app (ones_fw _ _ _ _)).app (Ones.one rfl), by have := bulkO_pos y0.1; omega⟩
set_option maxRecDepth 20000 in
theorem open_part (h : DataW.trod enc Tryd.prog w base (fun _ => true) held fuel 54 cs = some x) : ∃ s, cs[0]? = some (.string s) ∧ cs.length = 12 ∧ Ones cs ∧ 2 ≤ Rows.uptoBulk x.1 := by
  have hl := (open_struct_b Tryd.underlying54 h).1
  rw [show Tryd.prog.cellsOf 54 = 12 by kernel_rfl] at hl
  obtain ⟨y0, n0, h0, b0⟩ := open_field_b Tryd.underlying54 h 0 (T := 9) (off := 0) (c := 1) rfl (by kernel_rfl)
  obtain ⟨y1, n1, h1, -⟩ := open_field_b Tryd.underlying54 h 1 (T := 52) (off := 1) (c := 1) rfl (by kernel_rfl)
  obtain ⟨y2, n2, h2, -⟩ := open_field_b Tryd.underlying54 h 2 (T := 48) (off := 2) (c := 10) rfl (by kernel_rfl)
  obtain ⟨s, e0, _⟩ := DataW.trod_string Tryd.underlying9 h0
  obtain ⟨A, n, c, e1⟩ := open_slc Tryd.underlying52 h1
  obtain ⟨a, b, hf, t, e2, -⟩ := open_frame h2
  have e := join3 (m := 1) (n := 1) (p := 10) hl e0 e1 e2
  exact ⟨s, by rw [e]; rfl, hl, by rw [e]; exact ((Ones.one rfl).app (Ones.one rfl)).app (ones_fw _ _ _ _), by have := bulkO_pos y0.1; omega⟩
set_option maxRecDepth 20000 in
theorem open_slot (h : DataW.trod enc Tryd.prog w base (fun _ => true) held fuel 56 cs = some x) : ∃ s, cs[0]? = some (.string s) ∧ cs.length = 14 ∧ Ones cs ∧ 2 ≤ Rows.uptoBulk x.1 ∧ ∃ t : RT, (cs.drop 11).take 3 = (RT.c t).toList ∧ t.sz (Rows.uptoBulk x.1) := by
  have hl := (open_struct_b Tryd.underlying56 h).1
  rw [show Tryd.prog.cellsOf 56 = 14 by kernel_rfl] at hl
  obtain ⟨y0, n0, h0, b0⟩ := open_field_b Tryd.underlying56 h 0 (T := 9) (off := 0) (c := 1) rfl (by kernel_rfl)
  obtain ⟨y1, n1, h1, -⟩ := open_field_b Tryd.underlying56 h 1 (T := 48) (off := 1) (c := 10) rfl (by kernel_rfl)
  obtain ⟨y2, n2, h2, b2⟩ := open_field_b Tryd.underlying56 h 2 (T := 28) (off := 11) (c := 3) rfl (by kernel_rfl)
  obtain ⟨s, e0, _⟩ := DataW.trod_string Tryd.underlying9 h0
  obtain ⟨a, b, hf, t, e1, -⟩ := open_frame h1
  obtain ⟨u, e2, su⟩ := open_rat h2
  have e := join3 (m := 1) (n := 10) (p := 3) hl e0 e1 e2
  exact ⟨s, by rw [e]; rfl, hl, by rw [e]; exact ((Ones.one rfl).app (ones_fw _ _ _ _)).app (ones_rt _), by have := bulkO_pos y0.1; omega, u, e2, su.more (by omega)⟩
set_option maxRecDepth 20000 in
theorem open_box (h : DataW.trod enc Tryd.prog w base (fun _ => true) held fuel 58 cs = some x) : Ones cs := by
  have hl := (open_struct_b Tryd.underlying58 h).1
  rw [show Tryd.prog.cellsOf 58 = 12 by kernel_rfl] at hl
  obtain ⟨y0, n0, h0, -⟩ := open_field_b Tryd.underlying58 h 0 (T := 44) (off := 0) (c := 6) rfl (by kernel_rfl)
  obtain ⟨y1, n1, h1, -⟩ := open_field_b Tryd.underlying58 h 1 (T := 44) (off := 6) (c := 6) rfl (by kernel_rfl)
  obtain ⟨a, b, e0, -⟩ := open_vec h0
  obtain ⟨c, d, e1, -⟩ := open_vec h1
  rw [join2 (m := 6) (n := 6) hl e0 e1]
  exact (ones_sw _ _).app (ones_sw _ _)
set_option maxRecDepth 20000 in
theorem open_gate (h : DataW.trod enc Tryd.prog w base (fun _ => true) held fuel 60 cs = some x) : ∃ s, cs[0]? = some (.string s) ∧ cs.length = 13 ∧ Ones cs ∧ 2 ≤ Rows.uptoBulk x.1 := by
  have hl := (open_struct_b Tryd.underlying60 h).1
  rw [show Tryd.prog.cellsOf 60 = 13 by kernel_rfl] at hl
  obtain ⟨y0, n0, h0, b0⟩ := open_field_b Tryd.underlying60 h 0 (T := 9) (off := 0) (c := 1) rfl (by kernel_rfl)
  obtain ⟨y1, n1, h1, -⟩ := open_field_b Tryd.underlying60 h 1 (T := 58) (off := 1) (c := 12) rfl (by kernel_rfl)
  obtain ⟨s, e0, _⟩ := DataW.trod_string Tryd.underlying9 h0
  have o1 := open_box h1
  have e := join2 (m := 1) (n := 12) hl e0 rfl
  exact ⟨s, by rw [e]; rfl, hl, by rw [e]; exact (Ones.one rfl).app o1, by have := bulkO_pos y0.1; omega⟩
def nmv (cs : List Value) : ByteArray := match (cs[0]? : Option Value) with | some (Value.string s) => s | _ => ⟨#[]⟩
theorem bulk_two : ∀ (ys : List (DataW H)), (∀ y ∈ ys, 2 ≤ Rows.uptoBulk y) → 2 * ys.length ≤ Rows.uptoBulkAll ys
  | [], _ => by simp [Rows.uptoBulkAll]
  | y :: ys, h => by
    have h1 := h y List.mem_cons_self
    have h2 := bulk_two ys fun z hz => h z (List.mem_cons_of_mem _ hz)
    simp only [Rows.uptoBulkAll, List.length_cons]
    omega
/-- a slice that came in -/
theorem open_sin {T e : TypeId} {C : Nat} {Q : List Value → Prop} (ht : Tryd.prog.underlying T = some (.slice e)) (hC : Tryd.prog.cellsOf e = C) (h0 : 0 < C) (hQ : ∀ (fuel : Nat) (cs : List Value) (x : DataW H × List MemPlace), DataW.trod enc Tryd.prog w base (fun _ => true) held fuel e cs = some x → Rows.uptoBulk x.1 ≤ 1048576 → (∃ s, cs[0]? = some (.string s)) ∧ cs.length = C ∧ Ones cs ∧ 2 ≤ Rows.uptoBulk x.1 ∧ Q cs)
    (h : DataW.trod enc Tryd.prog w base (fun _ => true) held fuel T cs = some x) (hB : Rows.uptoBulk x.1 ≤ 1048576) :
    ∃ A n c F, cs = [.slice A n c] ∧ n ≤ 524288 ∧ SIn C w A ((List.range n).map fun i => nmv (F i)) F ∧ ∀ i, i < n → Q (F i) := by
  obtain ⟨A, len, cap, ys, hcs, hlc, hm, hyl, hcb, hyb, hi⟩ := open_elems_b ht hC h0 h
  have key : ∀ i, ∃ F : List Value, i < len → (∃ g f, A = some ⟨g, f, none⟩ ∧ g < w.heap.size ∧ F.length = C ∧ Ones F ∧ F[0]? = some (.string (nmv F)) ∧ ∀ j u, F[j]? = some u → w.cell? ⟨g, f + (i * C + j), none⟩ = some u) ∧ Q F := by
    intro i
    by_cases hlt : i < len
    · have hyi : ys[i]? = some (ys[i]'(by omega)) := List.getElem?_eq_getElem (by omega)
      obtain ⟨b, off, cs', n', pl, hA, hb, hlen, hc, ht'⟩ := hi i _ hyi
      have hbi : Rows.uptoBulk (ys[i]'(by omega)) ≤ 1048576 := by
        have := bulkO_mem (ds := ys) (d := ys[i]'(by omega)) (List.getElem_mem _)
        omega
      obtain ⟨⟨s, hs⟩, q1, q2, -, q3⟩ := hQ _ _ _ ht' hbi
      exact ⟨cs', fun _ => ⟨⟨b, off, hA, hb, q1, q2, by unfold nmv; rw [hs], hc⟩, q3⟩⟩
    · exact ⟨[], fun h => absurd h hlt⟩
  obtain ⟨F, hF⟩ := Classical.skolem.1 key
  have h2 : 2 * ys.length ≤ Rows.uptoBulkAll ys := bulk_two ys fun y hy => by
    obtain ⟨j, hj⟩ := List.mem_iff_getElem?.1 hy
    obtain ⟨b, off, cs', n', pl, -, -, -, -, ht'⟩ := hi j _ hj
    have hb := bulkO_mem hy
    exact (hQ _ _ _ ht' (by show Rows.uptoBulk y ≤ _; omega)).2.2.2.1
  refine ⟨A, len, cap, F, hcs, by omega, fun i x hx => ?_, fun i hi => (hF i hi).2⟩
  have hil : i < len := by
    have := (List.getElem?_eq_some_iff.1 hx).1
    simpa using this
  have e : nmv (F i) = x := by simpa [hil] using hx
  rw [← e]
  exact (hF i hil).1
set_option maxRecDepth 20000 in
theorem open_works (h : DataW.trod enc Tryd.prog w base (fun _ => true) held fuel 30 cs = some x) (hB : Rows.uptoBulk x.1 ≤ 1048576) : ∃ k n0 n2 n3 n4, cs = (wkC k n0 n2 n3 n4).toList ∧ WkIn w k n0 n2 n3 n4 := by
  have hl := (open_struct_b Tryd.underlying30 h).1
  rw [show Tryd.prog.cellsOf 30 = 8 by kernel_rfl] at hl
  obtain ⟨y0, m0, h0, b0⟩ := open_field_b Tryd.underlying30 h 0 (T := 22) (off := 0) (c := 1) rfl (by kernel_rfl)
  obtain ⟨y1, m1, h1, b1⟩ := open_field_b Tryd.underlying30 h 1 (T := 23) (off := 1) (c := 1) rfl (by kernel_rfl)
  obtain ⟨y2, m2, h2, b2⟩ := open_field_b Tryd.underlying30 h 2 (T := 24) (off := 2) (c := 1) rfl (by kernel_rfl)
  obtain ⟨y3, m3, h3, b3⟩ := open_field_b Tryd.underlying30 h 3 (T := 25) (off := 3) (c := 1) rfl (by kernel_rfl)
  obtain ⟨y4, m4, h4, b4⟩ := open_field_b Tryd.underlying30 h 4 (T := 26) (off := 4) (c := 1) rfl (by kernel_rfl)
  obtain ⟨y5, m5, h5, b5⟩ := open_field_b Tryd.underlying30 h 5 (T := 28) (off := 5) (c := 3) rfl (by kernel_rfl)
  obtain ⟨A0, n0, c0, F0, e0, l0, s0, -⟩ := open_sin (C := 12) (Q := fun _ => True) Tryd.underlying22 (by kernel_rfl) (by omega) (fun fuel cs x h _ => by obtain ⟨s, p1, p2, p3, p4⟩ := open_arm h; exact ⟨⟨s, p1⟩, p2, p3, p4, trivial⟩) h0 (by omega)
  obtain ⟨A1, n1, c1, e1⟩ := open_slc Tryd.underlying23 h1
  obtain ⟨A2, n2, c2, F2, e2, l2, s2, -⟩ := open_sin (C := 12) (Q := fun _ => True) Tryd.underlying24 (by kernel_rfl) (by omega) (fun fuel cs x h _ => by obtain ⟨s, p1, p2, p3, p4⟩ := open_part h; exact ⟨⟨s, p1⟩, p2, p3, p4, trivial⟩) h2 (by omega)
  obtain ⟨A3, n3, c3, F3, e3, l3, s3, q3⟩ := open_sin (C := 14) (Q := fun cs => ∃ t : RT, (cs.drop 11).take 3 = (RT.c t).toList ∧ t.sz 1048576) Tryd.underlying25 (by kernel_rfl) (by omega) (fun fuel cs x h hb => by obtain ⟨s, p1, p2, p3, p6, t, p4, p5⟩ := open_slot h; exact ⟨⟨s, p1⟩, p2, p3, p6, t, p4, p5.more hb⟩) h3 (by omega)
  obtain ⟨A4, n4, c4, F4, e4, l4, s4, -⟩ := open_sin (C := 13) (Q := fun _ => True) Tryd.underlying26 (by kernel_rfl) (by omega) (fun fuel cs x h _ => by obtain ⟨s, p1, p2, p3, p4⟩ := open_gate h; exact ⟨⟨s, p1⟩, p2, p3, p4, trivial⟩) h4 (by omega)
  obtain ⟨t, e5, -⟩ := open_rat h5
  refine ⟨⟨A0, A2, A3, A4, c0, c2, c3, c4, .slice A1 n1 c1, .bool t.s, .string t.a, .string t.d, _, _, _, _, F0, F2, F3, F4⟩, n0, n2, n3, n4, ?_, ⟨s0, s2, s3, s4, ⟨by simp, l0⟩, ⟨by simp, l2⟩, ⟨by simp, l3⟩, ⟨by simp, l4⟩, rfl, rfl, rfl, rfl, q3⟩⟩
  match cs, hl with
  | [a, b, c, d, e, f, g, i], _ =>
    simp [RT.c] at e0 e1 e2 e3 e4 e5
    obtain ⟨e5, e6, e7⟩ := e5
    subst e0 e1 e2 e3 e4 e5 e6 e7
    rfl
end
end Go.Proofs.YtekbpiooecdopaaDoor
