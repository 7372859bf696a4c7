/- Words that came in, with the bytes that they hold together. -/
import Derived.Test.YtdhhbpnnahdofaaDoorWnO
import Derived.Test.YtdhhbpnnahdofaaDoorBulkE

namespace Go.Proofs.YtdhhbpnnahdofaaDoor
open Go.RowKit Go.ChangeShapes Go.WideShapes Go.Deep
set_option linter.unusedVariables false
set_option linter.unusedSimpArgs false

/-- a word of any kind and place -/
structure Wz where
  k : Int
  a : Int
  b : ByteArray
def valZ (s : Wz) : List Value := [.int .i64 s.k, .int .i64 s.a, .string s.b]
/-- the slice at A holds the words ss -/
def ZAt (w : World) (B : Nat) (A : Option Addr) (ss : List Wz) : Prop :=
  ∀ k s, ss[k]? = some s → ∃ b off, A = some ⟨b, off, none⟩ ∧ b < B ∧ ∀ j v, (valZ s)[j]? = some v → w.cell? ⟨b, off + (k*3+j), none⟩ = some v
section
variable {w w' : World} {B B' : Nat} {A : Option Addr} {ss : List Wz}
theorem ZAt.below (h : ZAt w B A ss) (hb : Below B' w w') (hB : B ≤ B') : ZAt w' B A ss := by
  intro k x hx
  obtain ⟨b, off, hA, hlt, h0⟩ := h k x hx
  exact ⟨b, off, hA, hlt, fun j v hj => (hb.cell (p := ⟨b, _, none⟩) (Nat.lt_of_lt_of_le hlt hB)).trans (h0 j v hj)⟩
theorem ZAt.more (h : ZAt w B A ss) (hB : B ≤ B') : ZAt w B' A ss := by
  intro k x hx
  obtain ⟨b, off, hA, hlt, h0⟩ := h k x hx
  exact ⟨b, off, hA, Nat.lt_of_lt_of_le hlt hB, h0⟩
theorem ZAt.next (h : ZAt w w.heap.size A ss) (hb : Below w.heap.size w w') : ZAt w' w'.heap.size A ss := (h.below hb (Nat.le_refl _)).more hb.size
theorem ZAt.three (h : ZAt w B A ss) {k : Nat} {s : Wz} (hk : ss[k]? = some s) : ∃ b off, A = some ⟨b, off, none⟩ ∧ b < B ∧
    w.cell? ⟨b, off + k*3, none⟩ = some (.int .i64 s.k) ∧ w.cell? ⟨b, off + k*3+1, none⟩ = some (.int .i64 s.a) ∧ w.cell? ⟨b, off + k*3+2, none⟩ = some (.string s.b) := by
  obtain ⟨b, off, hA, hb, h0⟩ := h k s hk
  exact ⟨b, off, hA, hb, h0 0 _ rfl, h0 1 _ rfl, h0 2 _ rfl⟩
end
/-- the bytes of all texts -/
def szAll : List Wz → Nat
  | [] => 0
  | x :: r => x.b.size + szAll r
theorem szAll_append (a b : List Wz) : szAll (a ++ b) = szAll a + szAll b := by
  induction a with
  | nil => simp [szAll]
  | cons x r ih => simp only [List.cons_append, szAll, ih]; omega
theorem szAll_take {l : List Wz} {j : Nat} {x : Wz} (h : l[j]? = some x) : szAll (l.take j) + x.b.size ≤ szAll l := by
  induction l generalizing j with
  | nil => simp at h
  | cons y r ih =>
    cases j with
    | zero => simp at h; subst h; simp [szAll]
    | succ j =>
      simp at h
      have := ih h
      simp only [List.take_succ_cons, szAll]
      omega
theorem szAll_mem {l : List Wz} {j : Nat} {x : Wz} (h : l[j]? = some x) : x.b.size ≤ szAll l := by
  have := szAll_take h; omega
theorem szAll_bulk {H : Type} : ∀ (ss : List Wz) (ys : List (DataW H)), ss.length = ys.length → (∀ (i : Nat) (s : Wz) (y : DataW H), ss[i]? = some s → ys[i]? = some y → s.b.size ≤ Rows.uptoBulk y) → szAll ss ≤ Rows.uptoBulkAll ys
  | [], _, _, _ => by simp [szAll]
  | s :: ss, [], h, _ => by simp at h
  | s :: ss, y :: ys, h, hh => by
    have h1 := hh 0 s y rfl rfl
    have h2 := szAll_bulk ss ys (by simpa using h) (fun i s y hs hy => hh (i + 1) s y (by simpa using hs) (by simpa using hy))
    simp only [szAll, Rows.uptoBulkAll]
    omega
set_option maxRecDepth 20000 in
/-- words that came in -/
theorem open_words {H : Type} {enc : TypeId × Value → H} {w : World} {base b0 : Nat} {held : Bool} {v : Value} {d : DataW H} {p : List MemPlace} {r : Reach}
    (h : DataW.Trod enc Tryd.prog w base (fun _ => true) held 22 v d p) (o : Value.okWide Tryd.prog w r b0 22 v) :
    ∃ A c ss, v = .slice A (List.length ss) c ∧ ss.length ≤ c ∧ c + 1 ≤ Rows.uptoBulk d ∧ szAll ss + 1 ≤ Rows.uptoBulk d ∧ ZAt w w.heap.size A ss := by
  obtain ⟨A, len, cap, rfl⟩ := okWide_slice Tryd.underlying22 o
  obtain ⟨fuel, hf⟩ := h
  obtain ⟨A', len', cap', ys, hcs, hlc, hm, hyl, hb1, hb2, hi⟩ := open_elems_b (C := 3) Tryd.underlying22 (by kernel_rfl) (by omega) hf
  simp [Value.cells] at hcs
  obtain ⟨rfl, rfl, rfl⟩ := hcs
  obtain ⟨ss, hss, hr⟩ := list_of (n := len) (R := fun k (s : Wz) => (∃ b off, A = some ⟨b, off, none⟩ ∧ b < w.heap.size ∧ ∀ j v, (valZ s)[j]? = some v → w.cell? ⟨b, off + (k*3+j), none⟩ = some v) ∧ ∀ y, ys[k]? = some y → s.b.size ≤ Rows.uptoBulk y) (by
    intro i hlt
    obtain ⟨y, hy⟩ : ∃ y, ys[i]? = some y := ⟨_, List.getElem?_eq_getElem (by omega)⟩
    obtain ⟨b, off, cs', n', pl, hA, hb, hlen, hc, ht⟩ := hi i y hy
    obtain ⟨n, hfs⟩ := open_fields_b Tryd.underlying27 (by kernel_rfl) hlen ht
    obtain ⟨x0, y0, hx0, ht0, hq0⟩ := hfs 0 _ rfl
    obtain ⟨x1, y1, hx1, ht1, hq1⟩ := hfs 1 _ rfl
    obtain ⟨x2, y2, hx2, ht2, hq2⟩ := hfs 2 _ rfl
    obtain ⟨i0, rfl, _⟩ := open_i64 Tryd.underlying3 ht0
    obtain ⟨i1, rfl, _⟩ := open_i64 Tryd.underlying3 ht1
    obtain ⟨s2, e2, hz2, _⟩ := DataW.trod_string Tryd.underlying9 ht2
    simp at e2
    subst e2
    refine ⟨⟨i0, i1, s2⟩, ⟨b, off, hA, hb, fun j v hj => ?_⟩, fun y' hy' => ?_⟩
    · rcases j with _ | _ | _ | j
      · have := Option.some.inj hj; subst this; exact hc 0 _ hx0
      · have := Option.some.inj hj; subst this; exact hc 1 _ hx1
      · have := Option.some.inj hj; subst this; exact hc 2 _ hx2
      · simp [valZ] at hj
    · obtain rfl : y = y' := by rw [hy] at hy'; exact Option.some.inj hy'
      rw [hz2] at hq2
      have hl := bl_len s2
      unfold bl at hl
      simp only [Rows.uptoBulk] at hq2
      show s2.size ≤ _
      omega)
  dsimp only at hb1 hb2
  refine ⟨A, cap, ss, by rw [hss], by omega, by omega, ?_, fun k u hu => (hr k u hu).1⟩
  have := szAll_bulk ss ys (by omega) (fun i s y hs hy => (hr i s hs).2 y hy)
  omega
end Go.Proofs.YtdhhbpnnahdofaaDoor
