/- Plain: texts of words joined by blanks; rows of strings of the call's own. -/
import Derived.Test.YtdhhbpnnahdofaaDoorWnP
import Derived.Test.YtdhhbpnnahdofaaDoorWnJ
import Derived.Lib.Join

namespace Go.Proofs.YtdhhbpnnahdofaaDoor
open Go.RowKit
set_option linter.unusedVariables false
set_option linter.unusedSimpArgs false

/-- the texts with a blank between two of them -/
def jl (l : List ByteArray) : List UInt8 := Lib.join (l.map (·.data.toList)) [32]
theorem jl_nil : jl [] = [] := rfl
theorem jl_one (x : ByteArray) : jl [x] = x.data.toList := Lib.join_one _ _
theorem jl_add (l : List ByteArray) (x : ByteArray) : jl (l ++ [x]) = if l = [] then x.data.toList else jl l ++ [32] ++ x.data.toList := by
  cases l with
  | nil => simp [jl_one]
  | cons y r => simp [jl, Lib.join_cons, Lib.joinTail]
def bytesAll : List ByteArray → Nat
  | [] => 0
  | x :: r => x.size + bytesAll r
theorem bytesAll_append (a b : List ByteArray) : bytesAll (a ++ b) = bytesAll a + bytesAll b := by
  induction a with
  | nil => simp [bytesAll]
  | cons x r ih => simp only [List.cons_append, bytesAll, ih]; omega
theorem data_len (x : ByteArray) : x.data.toList.length = x.size := Array.length_toList
theorem tail_len (l : List ByteArray) : (Lib.joinTail [32] (l.map (·.data.toList))).length = bytesAll l + l.length := by
  induction l with
  | nil => rfl
  | cons y r ih =>
    have e : Lib.joinTail [32] ((y :: r).map (·.data.toList)) = ([32] ++ y.data.toList) ++ Lib.joinTail [32] (r.map (·.data.toList)) := by simp [Lib.joinTail]
    rw [e, List.length_append, ih, List.length_append, data_len]
    simp [bytesAll]; omega
theorem jl_len (l : List ByteArray) : (jl l).length ≤ bytesAll l + l.length := by
  cases l with
  | nil => simp [jl_nil]
  | cons y r =>
    have h := tail_len r
    unfold jl
    rw [List.map_cons, Lib.join_cons, List.length_append, h, data_len]
    simp [bytesAll]; omega
def txs (ss : List Wz) : List ByteArray := ss.map (·.b)
theorem txs_len (ss : List Wz) : (txs ss).length = ss.length := by simp [txs]
theorem txs_bytes (ss : List Wz) : bytesAll (txs ss) = szAll ss := by
  induction ss with
  | nil => rfl
  | cons x r ih => show x.b.size + bytesAll (txs r) = _; rw [ih]; rfl
theorem take_add {α : Type} {l : List α} {j : Nat} {x : α} (h : l[j]? = some x) : l.take (j + 1) = l.take j ++ [x] := by
  rw [List.take_add_one, h]; rfl
theorem txs_add {ss : List Wz} {j : Nat} {x : Wz} (h : ss[j]? = some x) : txs (ss.take (j + 1)) = txs (ss.take j) ++ [x.b] := by
  rw [take_add h]; simp [txs]
theorem txs_take_nil {ss : List Wz} {j : Nat} (hj : j ≤ ss.length) : txs (ss.take j) = [] ↔ j = 0 := by
  constructor
  · intro h
    have := congrArg List.length h
    rw [txs_len, List.length_take, List.length_nil] at this
    omega
  · rintro rfl; rfl
/-- all words have texts of their kinds -/
def okW (ss : List Wz) : Bool := ss.all fun x => validB x.k x.b
theorem okW_take {ss : List Wz} {j : Nat} {x : Wz} (h : ss[j]? = some x) : okW (ss.take (j + 1)) = (okW (ss.take j) && validB x.k x.b) := by
  rw [take_add h]; simp [okW]
theorem okW_no {ss : List Wz} {j : Nat} {x : Wz} (h : ss[j]? = some x) (hv : validB x.k x.b = false) : okW ss = false := by
  unfold okW
  rw [List.all_eq_false]
  exact ⟨x, List.mem_of_getElem? h, by rw [hv]; simp⟩
/-- what Text returns -/
def textR (ss : List Wz) : ByteArray × Nat := if okW ss = false then (ByteArray.empty, 3) else if 4096 < (jl (txs ss)).length then (ByteArray.empty, 2) else (⟨(jl (txs ss)).toArray⟩, 0)

theorem infoS : (Tryd.prog.info? 9).map (fun i => (i.zero, i.size, i.bytes)) = some (some (.string ByteArray.empty), 1, 16) := by kernel_rfl
def cellsS (xs : List ByteArray) : List Value := xs.map .string
theorem cellsS_one (xs : List ByteArray) : ∀ u ∈ cellsS xs, u.oneCell' = true := by
  intro u hu
  simp only [cellsS, List.mem_map] at hu
  obtain ⟨x, _, rfl⟩ := hu
  rfl
/-- v is a row of the call's own that holds the strings xs -/
def SRow (w : World) (v : Value) (xs : List ByteArray) (wr : World) : Prop := Rws w [⟨v, 9, 1, xs.length, cellsS xs⟩] wr
section
variable {w wr w' : World} {v v' : Value} {xs : List ByteArray} {n : Nat}
theorem SRow.row (h : SRow w v xs wr) (hn : xs.length = n) : Rws w (⟨v, 9, 1, n, cellsS xs⟩ :: []) wr := by subst hn; exact h
theorem SRow.add {x : ByteArray} (hn : xs.length = n) (h : Rws w [⟨v', 9, 1, n + 1, cellsS xs ++ (#[.string x] : Array Value).toList⟩] wr) : SRow w v' (xs ++ [x]) wr := by
  subst hn
  unfold SRow
  rw [List.length_append, show cellsS (xs ++ [x]) = cellsS xs ++ [.string x] by simp [cellsS]]
  exact h
theorem SRow.nil (h : Below w.heap.size w wr) : SRow w (.slice none 0 0) [] wr := (Rws.begin h).nil _ _
theorem SRow.next (h : SRow w v xs wr) (hb : Below wr.heap.size wr w') : SRow w v xs w' := Rws.next h hb
theorem SRow.drewN (h : SRow w v xs wr) (n : Nat) : SRow w v xs (wr.drewN n) := Rws.drewN h n
theorem SRow.bel (h : SRow w v xs wr) : Below w.heap.size w wr := Rws.below h
/-- its value: the empty one, or a block -/
theorem SRow.slice (h : SRow w v xs wr) : (v = .slice none 0 0 ∧ xs = []) ∨ ∃ g c, v = .slice (some ⟨g, 0, none⟩) xs.length c ∧ xs.length ≤ c ∧ c ≤ maxLen ∧ g < wr.heap.size ∧ ∀ j x, xs[j]? = some x → wr.cell? ⟨g, 0 + j, none⟩ = some (.string x) := by
  have h0 := Rws.head h
  obtain ⟨h1, h2⟩ := h0
  dsimp only at h1 h2
  rcases h2 with ⟨rfl, hx⟩ | ⟨g, cap, cur, rfl, hg, hh, hnc, hm, hs, hc⟩
  · refine .inl ⟨rfl, ?_⟩
    cases xs with
    | nil => rfl
    | cons a b => simp [cellsS] at hx
  · refine .inr ⟨g, cap, rfl, by assumption, by assumption, ?_, fun j x hj => ?_⟩
    · rcases Nat.lt_or_ge g wr.heap.size with h' | h'
      · exact h'
      · rw [Array.getElem?_eq_none h'] at hh; cases hh
    · have H := World.ownsRow.cells (Rws.head h) (g := g) rfl
      have := H j (.string x) (by simp [cellsS, hj])
      rwa [Addr.add_lit] at this
end
end Go.Proofs.YtdhhbpnnahdofaaDoor
