/- Words: slices of words; a row of words of the call's own (turned from the texts on facts). -/
import Derived.Test.YtdhhbpnnahdofaaDoorWnE
import Derived.Test.YtdhhbpnnahdofaaDoorGrowL
import Derived.Test.YtdhhbpnnahdofaaDoorGrowI

namespace Go.Proofs.YtdhhbpnnahdofaaDoor
open Go.RowKit Go.ChangeShapes Go.WideShapes Go.Deep
set_option linter.unusedVariables false
set_option linter.unusedSimpArgs false

/-- a word: kind, place, text -/
structure Wrd where
  k : Nat
  a : Nat
  b : ByteArray
  deriving DecidableEq
def valE (s : Wrd) : Value := .agg #[.int .i64 s.k, .int .i64 s.a, .string s.b]
def valW (s : Wrd) : List Value := [.int .i64 s.k, .int .i64 s.a, .string s.b]
def cellsW (ss : List Wrd) : List Value := ss.flatMap valW
theorem cellsW_append (a b : List Wrd) : cellsW (a ++ b) = cellsW a ++ cellsW b := by simp [cellsW]
theorem cellsW_length (ss : List Wrd) : (cellsW ss).length = ss.length * 3 := by
  induction ss with
  | nil => rfl
  | cons a l ih => rw [show cellsW (a :: l) = valW a ++ cellsW l from rfl, List.length_append, ih]; simp [valW]; omega
theorem cellsW_get {ss : List Wrd} {k j : Nat} {s : Wrd} {v : Value} (h : ss[k]? = some s) (hj : (valW s)[j]? = some v) : (cellsW ss)[k*3+j]? = some v := by
  have hj3 : j < 3 := by
    have := (List.getElem?_eq_some_iff.1 hj).1
    simpa [valW] using this
  induction ss generalizing k with
  | nil => simp at h
  | cons a l ih =>
    rw [show cellsW (a :: l) = valW a ++ cellsW l from rfl]
    cases k with
    | zero =>
      simp at h; subst h
      rw [Nat.zero_mul, Nat.zero_add, List.getElem?_append_left (by simpa [valW] using hj3)]
      exact hj
    | succ k =>
      simp at h
      rw [List.getElem?_append_right (by simp [valW]; omega)]
      rw [show (k + 1) * 3 + j - (valW a).length = k * 3 + j by simp [valW]; omega]
      exact ih h
/-- the slice at A holds the facts ss -/
def WordsAt (w : World) (B : Nat) (A : Option Addr) (ss : List Wrd) : Prop :=
  ∀ k s, ss[k]? = some s → ∃ b off, A = some ⟨b, off, none⟩ ∧ b < B ∧ ∀ j v, (valW s)[j]? = some v → w.cell? ⟨b, off + (k*3+j), none⟩ = some v
section
variable {w w' : World} {B B' : Nat} {A : Option Addr} {ss : List Wrd}
theorem WordsAt.below (h : WordsAt w B A ss) (hb : Below B' w w') (hB : B ≤ B') : WordsAt w' B A ss := by
  intro k x hx
  obtain ⟨b, off, hA, hlt, h0⟩ := h k x hx
  exact ⟨b, off, hA, hlt, fun j v hj => (hb.cell (p := ⟨b, _, none⟩) (Nat.lt_of_lt_of_le hlt hB)).trans (h0 j v hj)⟩
theorem WordsAt.more (h : WordsAt w B A ss) (hB : B ≤ B') : WordsAt w B' A ss := by
  intro k x hx
  obtain ⟨b, off, hA, hlt, h0⟩ := h k x hx
  exact ⟨b, off, hA, Nat.lt_of_lt_of_le hlt hB, h0⟩
theorem WordsAt.nil : WordsAt w B A [] := fun k x h => by simp at h
theorem WordsAt.next (h : WordsAt w w.heap.size A ss) (hb : Below w.heap.size w w') : WordsAt w' w'.heap.size A ss := (h.below hb (Nat.le_refl _)).more hb.size
theorem WordsAt.three (h : WordsAt w B A ss) {k : Nat} {s : Wrd} (hk : ss[k]? = some s) : ∃ b off, A = some ⟨b, off, none⟩ ∧ b < B ∧
    w.cell? ⟨b, off + k*3, none⟩ = some (.int .i64 s.k) ∧ w.cell? ⟨b, off + k*3+1, none⟩ = some (.int .i64 s.a) ∧ w.cell? ⟨b, off + k*3+2, none⟩ = some (.string s.b) := by
  obtain ⟨b, off, hA, hb, h0⟩ := h k s hk
  exact ⟨b, off, hA, hb, h0 0 _ rfl, h0 1 _ rfl, h0 2 _ rfl⟩
theorem WordsAt.take (h : WordsAt w B A ss) (j : Nat) : WordsAt w B A (ss.take j) := by
  intro k s hk
  rw [List.getElem?_take] at hk
  split at hk
  · exact h k s hk
  · cases hk
theorem WordsAt.of_own {base : Nat} {e : TypeId} {v : Value} (h : w.ownsRow base e 3 v ss.length (cellsW ss)) :
    ∃ A c, v = .slice A ss.length c ∧ ss.length ≤ c ∧ c ≤ maxLen ∧ WordsAt w w.heap.size A ss := by
  obtain ⟨h1, h2⟩ := h
  rcases h2 with ⟨rfl, hx⟩ | ⟨g, cap, cur, rfl, hg, hh, hnc, hm, hs, hc⟩
  · have : ss = [] := by
      have := cellsW_length ss; rw [hx] at this; simp at this
      exact List.eq_nil_of_length_eq_zero (by omega)
    subst this
    exact ⟨none, 0, rfl, Nat.le_refl _, by unfold maxLen; omega, fun k u hu => by simp at hu⟩
  · refine ⟨some ⟨g, 0, none⟩, cap, rfl, by assumption, by assumption, fun k u hu => ?_⟩
    have hglt : g < w.heap.size := by
      rcases Nat.lt_or_ge g w.heap.size with h' | h'
      · exact h'
      · rw [Array.getElem?_eq_none h'] at hh; cases hh
    have H := World.ownsRow.cells (w := w) (base := base) (e := e) (size := 3) (v := .slice (some ⟨g, 0, none⟩) ss.length cap) (n := ss.length) (xs := cellsW ss) ⟨h1, .inr ⟨g, cap, cur, rfl, hg, hh, hnc, hm, hs, hc⟩⟩ (g := g) rfl
    refine ⟨g, 0, rfl, hglt, fun j v hj => ?_⟩
    have := H _ _ (cellsW_get hu hj)
    rwa [Addr.add_lit] at this
end

theorem infoW : (Tryd.prog.info? 27).map (fun i => (i.zero, i.size, i.bytes)) = some (some (.agg #[.int .i64 0, .int .i64 0, .string ByteArray.empty]), 3, 32) := by kernel_rfl
theorem one_w (x : Wrd) : ∀ u ∈ (#[.int .i64 x.k, .int .i64 x.a, .string x.b] : Array Value).toList, u.oneCell' = true := by
  intro u hu; simp at hu; rcases hu with rfl | rfl | rfl <;> rfl
/-- v is a row of the call's own that holds the facts xs -/
def WRow (w : World) (v : Value) (xs : List Wrd) (wr : World) : Prop := Rws w [⟨v, 27, 3, xs.length, cellsW xs⟩] wr
section
variable {w wr w' : World} {v v' : Value} {xs : List Wrd} {n : Nat}
theorem WRow.words (h : WRow w v xs wr) : ∃ A c, v = .slice A xs.length c ∧ xs.length ≤ c ∧ c ≤ maxLen ∧ WordsAt wr wr.heap.size A xs := WordsAt.of_own (Rws.head h)
theorem WRow.row (h : WRow w v xs wr) (hn : xs.length = n) : Rws w (⟨v, 27, 3, n, cellsW xs⟩ :: []) wr := by subst hn; exact h
theorem WRow.add {x : Wrd} (hn : xs.length = n) (h : Rws w [⟨v', 27, 3, n + 1, cellsW xs ++ (#[.int .i64 x.k, .int .i64 x.a, .string x.b] : Array Value).toList⟩] wr) : WRow w v' (xs ++ [x]) wr := by
  subst hn
  have e : cellsW (xs ++ [x]) = cellsW xs ++ [.int .i64 x.k, .int .i64 x.a, .string x.b] := by simp [cellsW, valW]
  unfold WRow
  rw [e, List.length_append]
  exact h
theorem WRow.nil (h : Below w.heap.size w wr) : WRow w (.slice none 0 0) [] wr := (Rws.begin h).nil _ _
theorem WRow.next (h : WRow w v xs wr) (hb : Below wr.heap.size wr w') : WRow w v xs w' := Rws.next h hb
theorem WRow.drewN (h : WRow w v xs wr) (n : Nat) : WRow w v xs (wr.drewN n) := Rws.drewN h n
theorem WRow.bel (h : WRow w v xs wr) : Below w.heap.size w wr := Rws.below h
theorem WRow.re {ys : List Wrd} (h : WRow w v xs wr) (e : ys = xs) : WRow w v ys wr := e ▸ h
end
end Go.Proofs.YtdhhbpnnahdofaaDoor
