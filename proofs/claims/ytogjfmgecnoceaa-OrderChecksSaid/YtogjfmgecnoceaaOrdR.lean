/- Slices of slices of integers that came in, read as plain data. -/
import Derived.Test.YtogjfmgecnoceaaOrdP
namespace Go.Proofs.Ytogjfmgecnoceaa
open Go.RowKit Go.ChangeShapes Go.WideShapes Go.Deep
set_option linter.unusedVariables false

structure Row where
  A : Option Addr
  c : Nat
  xs : List Int
def ll (rs : List Row) : List (List Int) := rs.map Row.xs
theorem ll_len (rs : List Row) : (ll rs).length = rs.length := by simp [ll]
theorem ll_get {rs : List Row} {k : Nat} {r : Row} (h : rs[k]? = some r) : (ll rs)[k]? = some r.xs := by simp [ll, h]
def RowsAt (w : World) (B : Nat) (A : Option Addr) (rs : List Row) : Prop :=
  ∀ k r, rs[k]? = some r → ∃ b off, A = some ⟨b, off, none⟩ ∧ b < B ∧ w.cell? ⟨b, off + k, none⟩ = some (.slice r.A r.xs.length r.c) ∧ r.xs.length ≤ 9223372036854775807 ∧ IntsAt w B r.A r.xs
section
variable {w w' : World} {B B' : Nat} {A : Option Addr} {rs : List Row}
theorem RowsAt.below (h : RowsAt w B A rs) (hb : Below B' w w') (hB : B ≤ B') : RowsAt w' B A rs := by
  intro k r hr
  obtain ⟨b, off, hA, hlt, h0, h1, h2⟩ := h k r hr
  exact ⟨b, off, hA, hlt, (hb.cell (p := ⟨b, _, none⟩) (Nat.lt_of_lt_of_le hlt hB)).trans h0, h1, h2.below hb hB⟩
theorem RowsAt.more (h : RowsAt w B A rs) (hB : B ≤ B') : RowsAt w B' A rs := by
  intro k r hr
  obtain ⟨b, off, hA, hlt, h0, h1, h2⟩ := h k r hr
  exact ⟨b, off, hA, Nat.lt_of_lt_of_le hlt hB, h0, h1, h2.more hB⟩
theorem RowsAt.next (h : RowsAt w w.heap.size A rs) (hb : Below w.heap.size w w') : RowsAt w' w'.heap.size A rs := (h.below hb (Nat.le_refl _)).more hb.size
end
/-- rows that came in -/
theorem open_rows {H : Type} {enc : TypeId × Value → H} {P : Program} {w : World} {base : Nat} {held : Bool} {t e i : TypeId} {fuel : Nat} {v : Value} {x : DataW H × List MemPlace}
    (ht : P.underlying t = some (.slice e)) (he : P.underlying e = some (.slice i)) (hi : P.underlying i = some (.int .i64)) (hC : P.cellsOf e = 1) (hD : P.cellsOf i = 1) (h : DataW.trod enc P w base (fun _ => true) held fuel t [v] = some x) (hl : Light P t x.1) :
    ∃ A c rs, v = .slice A (List.length rs) c ∧ rs.length ≤ 9223372036854775807 ∧ RowsAt w w.heap.size A rs := by
  obtain ⟨A, len, cap, hcs, hlc, hm, hr, hel⟩ := open_elems_w (C := 1) ht hC (by omega) h hl
  obtain rfl : v = .slice A len cap := by simpa using hcs
  obtain ⟨rs, hrs, hr2⟩ := list_of (n := len) (R := fun k (r : Row) => ∃ b off, A = some ⟨b, off, none⟩ ∧ b < w.heap.size ∧ w.cell? ⟨b, off + k, none⟩ = some (.slice r.A r.xs.length r.c) ∧ r.xs.length ≤ 9223372036854775807 ∧ IntsAt w w.heap.size r.A r.xs) (by
    intro j hlt
    obtain ⟨b, off, cs', n', y, hA, hb, hlen, hc, ht', hly⟩ := hel j hlt
    obtain ⟨u, rfl⟩ : ∃ u, cs' = [u] := by
      match cs', hlen with
      | [u], _ => exact ⟨u, rfl⟩
    obtain ⟨A2, c2, xs, rfl, h2, h3, _, h4, _⟩ := open_ints_at he hi hD ht' hly
    refine ⟨⟨A2, c2, xs⟩, b, off, hA, hb, ?_, by unfold maxLen at h3; show xs.length ≤ _; omega, h4⟩
    have := hc 0 _ rfl
    simpa using this)
  exact ⟨A, cap, rs, by rw [hrs], by unfold maxLen at hm; omega, fun k r hr => hr2 k r hr⟩
theorem row_len {rs : List (List Int)} (h : Vld rs) {k : Nat} {xs : List Int} (hk : rs[k]? = some xs) : xs.length ≤ k := by
  have key : ∀ (i : Nat) x, xs[i]? = some x → (i : Int) ≤ x := by
    intro i
    induction i with
    | zero => intro x hx; have := h.lt k xs hk x (List.mem_of_getElem? hx); omega
    | succ i ih =>
      intro x hx
      obtain ⟨y, hy⟩ := get_of_lt rfl (show i < xs.length by have := (List.getElem?_eq_some_iff.1 hx).1; omega)
      have h1 := ih y hy
      have h2 := h.inc k xs hk i y x hy hx
      omega
  rcases Nat.eq_zero_or_pos xs.length with h0 | h0
  · omega
  · obtain ⟨x, hx⟩ := get_of_lt rfl (show xs.length - 1 < xs.length by omega)
    have h1 := key _ x hx
    have h2 := h.lt k xs hk x (List.mem_of_getElem? hx)
    omega
theorem Vld.low {rs : List (List Int)} (h : Vld rs) : Low rs := h.lt
end Go.Proofs.Ytogjfmgecnoceaa
