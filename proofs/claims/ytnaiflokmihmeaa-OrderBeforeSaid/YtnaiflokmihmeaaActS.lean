/- Steps and worlds that came in; runs as plain data. -/
import Derived.Test.YtnaiflokmihmeaaActR
import Derived.Test.YtnaiflokmihmeaaActH
import Derived.Test.YtnaiflokmihmeaaMgA
import Derived.Test.YtnaiflokmihmeaaMgE
namespace Go.Proofs.Ytnaiflokmihmeaa
open Go.RowKit Go.ChangeShapes Go.WideShapes Go.Deep
set_option linter.unusedVariables false
set_option linter.unusedSimpArgs false

def valS (s : Stp) : List Value := [.int .i64 s.k, .int .i64 s.a, .int .i64 s.p, .int .i64 s.s, .int .i64 s.t]
/-- the slice at A holds the steps ss -/
def StepsAt (w : World) (B : Nat) (A : Option Addr) (ss : List Stp) : Prop :=
  ∀ k s, ss[k]? = some s → ∃ b off, A = some ⟨b, off, none⟩ ∧ b < B ∧ ∀ j v, (valS s)[j]? = some v → w.cell? ⟨b, off + (k*5+j), none⟩ = some v
section
variable {w w' : World} {B B' : Nat} {A : Option Addr} {ss : List Stp}
theorem StepsAt.below (h : StepsAt w B A ss) (hb : Below B' w w') (hB : B ≤ B') : StepsAt w' B A ss := by
  intro k x hx
  obtain ⟨b, off, hA, hlt, h0⟩ := h k x hx
  exact ⟨b, off, hA, hlt, fun j v hj => (hb.cell (p := ⟨b, _, none⟩) (Nat.lt_of_lt_of_le hlt hB)).trans (h0 j v hj)⟩
theorem StepsAt.more (h : StepsAt w B A ss) (hB : B ≤ B') : StepsAt w B' A ss := by
  intro k x hx
  obtain ⟨b, off, hA, hlt, h0⟩ := h k x hx
  exact ⟨b, off, hA, Nat.lt_of_lt_of_le hlt hB, h0⟩
theorem StepsAt.nil : StepsAt w B A [] := fun k x h => by simp at h
theorem StepsAt.next (h : StepsAt w w.heap.size A ss) (hb : Below w.heap.size w w') : StepsAt w' w'.heap.size A ss := (h.below hb (Nat.le_refl _)).more hb.size
theorem StepsAt.five (h : StepsAt w B A ss) {k : Nat} {s : Stp} (hk : ss[k]? = some s) : ∃ b off, A = some ⟨b, off, none⟩ ∧ b < B ∧
    w.cell? ⟨b, off + k*5, none⟩ = some (.int .i64 s.k) ∧ w.cell? ⟨b, off + k*5+1, none⟩ = some (.int .i64 s.a) ∧ w.cell? ⟨b, off + k*5+2, none⟩ = some (.int .i64 s.p) ∧ w.cell? ⟨b, off + k*5+3, none⟩ = some (.int .i64 s.s) ∧ w.cell? ⟨b, off + k*5+4, none⟩ = some (.int .i64 s.t) := by
  obtain ⟨b, off, hA, hb, h0⟩ := h k s hk
  exact ⟨b, off, hA, hb, h0 0 _ rfl, h0 1 _ rfl, h0 2 _ rfl, h0 3 _ rfl, h0 4 _ rfl⟩
end
set_option maxRecDepth 20000 in
/-- a step that came in -/
theorem open_step {H : Type} {enc : TypeId × Value → H} {w : World} {base b0 : Nat} {v : Value} {d : DataW H} {p : List MemPlace} {r : Reach} {held : Bool}
    (h : DataW.Trod enc Try.prog w base (fun _ => true) held 39 v d p) (o : Value.okWide Try.prog w r b0 39 v) : ∃ s : Stp, v = sv s ∧ okI s.k ∧ okI s.a ∧ okI s.p ∧ okI s.s ∧ okI s.t := by
  obtain ⟨cs, rfl, hsz⟩ := okWide_struct Try.underlying39 o
  have hsz3 : cs.size = 5 := by rw [hsz]; kernel_rfl
  obtain ⟨fuel, hf⟩ := h
  obtain ⟨n, hfs⟩ := open_fields Try.underlying39 (by kernel_rfl) (cs := cs.toList) (by simpa using hsz3) hf
  obtain ⟨x0, y0, hx0, ht0⟩ := hfs 0 _ rfl
  obtain ⟨x1, y1, hx1, ht1⟩ := hfs 1 _ rfl
  obtain ⟨x2, y2, hx2, ht2⟩ := hfs 2 _ rfl
  obtain ⟨x3, y3, hx3, ht3⟩ := hfs 3 _ rfl
  obtain ⟨x4, y4, hx4, ht4⟩ := hfs 4 _ rfl
  obtain ⟨i0, rfl, q0⟩ := open_i64 Try.underlying3 ht0
  obtain ⟨i1, rfl, q1⟩ := open_i64 Try.underlying3 ht1
  obtain ⟨i2, rfl, q2⟩ := open_i64 Try.underlying3 ht2
  obtain ⟨i3, rfl, q3⟩ := open_i64 Try.underlying3 ht3
  obtain ⟨i4, rfl, q4⟩ := open_i64 Try.underlying3 ht4
  refine ⟨⟨i0, i1, i2, i3, i4⟩, ?_, wf_i64 q0, wf_i64 q1, wf_i64 q2, wf_i64 q3, wf_i64 q4⟩
  have : cs = #[.int .i64 i0, .int .i64 i1, .int .i64 i2, .int .i64 i3, .int .i64 i4] := by
    apply Array.ext (by simpa using hsz3)
    intro i h1 h2
    simp at hx0 hx1 hx2 hx3 hx4
    simp only [hsz3] at h1
    have h3 : i = 0 ∨ i = 1 ∨ i = 2 ∨ i = 3 ∨ i = 4 := by omega
    rcases h3 with rfl | rfl | rfl | rfl | rfl <;> simp_all
  rw [this]
  rfl
set_option maxRecDepth 20000 in
/-- steps that came in -/
theorem open_steps {H : Type} {enc : TypeId × Value → H} {w : World} {base b0 : Nat} {held : Bool} {v : Value} {d : DataW H} {p : List MemPlace} {r : Reach}
    (h : DataW.Trod enc Try.prog w base (fun _ => true) held 26 v d p) (o : Value.okWide Try.prog w r b0 26 v) (hl : Light Try.prog 26 d) :
    ∃ A c ss, v = .slice A (List.length ss) c ∧ ss.length ≤ c ∧ c ≤ maxLen ∧ ss.length * 40 ≤ 140737488351232 ∧ StepsAt w w.heap.size A ss := by
  obtain ⟨A, len, cap, rfl⟩ := okWide_slice Try.underlying26 o
  obtain ⟨fuel, hf⟩ := h
  obtain ⟨A', len', cap', hcs, hlc, hm, hrb, hi⟩ := open_elems_w (C := 5) Try.underlying26 (by kernel_rfl) (by omega) hf hl
  simp [Value.cells] at hcs
  obtain ⟨rfl, rfl, rfl⟩ := hcs
  have hb24 : Try.prog.bytesOf 39 = 40 := by kernel_rfl
  rw [hb24] at hrb
  unfold reachBytes at hrb
  obtain ⟨ss, hss, hr⟩ := list_of (n := len) (R := fun k (s : Stp) => ∃ b off, A = some ⟨b, off, none⟩ ∧ b < w.heap.size ∧ ∀ j v, (valS s)[j]? = some v → w.cell? ⟨b, off + (k*5+j), none⟩ = some v) (by
    intro i hlt
    obtain ⟨b, off, cs', n', y, hA, hb, hlen, hc, ht, _⟩ := hi i hlt
    obtain ⟨n, hfs⟩ := open_fields Try.underlying39 (by kernel_rfl) hlen ht
    obtain ⟨x0, y0, hx0, ht0⟩ := hfs 0 _ rfl
    obtain ⟨x1, y1, hx1, ht1⟩ := hfs 1 _ rfl
    obtain ⟨x2, y2, hx2, ht2⟩ := hfs 2 _ rfl
    obtain ⟨x3, y3, hx3, ht3⟩ := hfs 3 _ rfl
    obtain ⟨x4, y4, hx4, ht4⟩ := hfs 4 _ rfl
    obtain ⟨i0, rfl, _⟩ := open_i64 Try.underlying3 ht0
    obtain ⟨i1, rfl, _⟩ := open_i64 Try.underlying3 ht1
    obtain ⟨i2, rfl, _⟩ := open_i64 Try.underlying3 ht2
    obtain ⟨i3, rfl, _⟩ := open_i64 Try.underlying3 ht3
    obtain ⟨i4, rfl, _⟩ := open_i64 Try.underlying3 ht4
    refine ⟨⟨i0, i1, i2, i3, i4⟩, b, off, hA, hb, fun j v hj => ?_⟩
    rcases j with _ | _ | _ | _ | _ | j
    · have := Option.some.inj hj; subst this; exact hc 0 _ hx0
    · have := Option.some.inj hj; subst this; exact hc 1 _ hx1
    · have := Option.some.inj hj; subst this; exact hc 2 _ hx2
    · have := Option.some.inj hj; subst this; exact hc 3 _ hx3
    · have := Option.some.inj hj; subst this; exact hc 4 _ hx4
    · simp [valS] at hj)
  exact ⟨A, cap, ss, by rw [hss], by omega, hm, by omega, fun k u hu => hr k u hu⟩
/-- a slice of bools that came in -/
theorem open_bools_at {H : Type} {enc : TypeId × Value → H} {P : Program} {w : World} {base : Nat} {held : Bool} {t e : TypeId} {fuel : Nat} {v : Value} {x : DataW H × List MemPlace}
    (ht : P.underlying t = some (.slice e)) (he : P.underlying e = some .bool) (hC : P.cellsOf e = 1) (h : DataW.trod enc P w base (fun _ => true) held fuel t [v] = some x) (hl : Light P t x.1) :
    ∃ A c xs, v = .slice A (List.length xs) c ∧ xs.length ≤ c ∧ c ≤ maxLen ∧ c * P.bytesOf e ≤ reachBytes ∧ BoolsAt w w.heap.size A xs := by
  obtain ⟨A, len, cap, hcs, hlc, hm, hr, hi⟩ := open_elems_w (C := 1) ht hC (by omega) h hl
  obtain rfl : v = .slice A len cap := by simpa using hcs
  obtain ⟨xs, hxs, hr2⟩ := list_of (n := len) (R := fun k (x : Bool) => (∃ b off, A = some ⟨b, off, none⟩ ∧ b < w.heap.size ∧ w.cell? ⟨b, off + k, none⟩ = some (.bool x))) (by
    intro i hlt
    obtain ⟨b, off, cs', n', y, hA, hb, hlen, hc, ht', _⟩ := hi i hlt
    obtain ⟨u, rfl⟩ : ∃ u, cs' = [u] := by
      match cs', hlen with
      | [u], _ => exact ⟨u, rfl⟩
    obtain ⟨z, hz, _⟩ := DataW.trod_bool he ht'
    have hz2 : u = .bool z := by simpa using hz
    subst hz2
    refine ⟨z, b, off, hA, hb, ?_⟩
    have := hc 0 _ rfl
    simpa using this)
  exact ⟨A, cap, xs, by rw [hxs], by omega, hm, hr, fun k x hx => hr2 k x hx⟩
set_option maxRecDepth 20000 in
/-- a world that came in -/
theorem open_world {H : Type} {enc : TypeId × Value → H} {w : World} {base b0 : Nat} {held : Bool} {v : Value} {d : DataW H} {p : List MemPlace} {r : Reach}
    (h : DataW.Trod enc Try.prog w base (fun _ => true) held 25 v d p) (o : Value.okWide Try.prog w r b0 25 v) (hl : Light Try.prog 25 d) :
    ∃ wd rr, v = wv wd.sl rr ∧ WOk w rr wd ∧ okI wd.sl ∧ (∀ x ∈ wd.pl, okI x) ∧ (∀ x ∈ wd.sp, okI x) ∧ rr.c1 * 8 ≤ reachBytes ∧ rr.c2 ≤ reachBytes ∧ rr.c3 * 8 ≤ reachBytes := by
  obtain ⟨cs, rfl, hsz⟩ := okWide_struct Try.underlying25 o
  have hsz3 : cs.size = 4 := by rw [hsz]; kernel_rfl
  obtain ⟨fuel, hf⟩ := h
  obtain ⟨n, hfs⟩ := open_fields_w Try.underlying25 (by kernel_rfl) (cs := cs.toList) (by simpa using hsz3) hf hl
  obtain ⟨x0, y0, hx0, ht0, _⟩ := hfs 0 _ rfl
  obtain ⟨x1, y1, hx1, ht1, l1⟩ := hfs 1 _ rfl
  obtain ⟨x2, y2, hx2, ht2, l2⟩ := hfs 2 _ rfl
  obtain ⟨x3, y3, hx3, ht3, l3⟩ := hfs 3 _ rfl
  obtain ⟨i0, rfl, q0⟩ := open_i64 Try.underlying3 ht0
  obtain ⟨A1, c1, pl, rfl, a1, a2, a3, a4, a5⟩ := open_ints_at Try.underlying22 Try.underlying3 (by kernel_rfl) ht1 l1
  obtain ⟨A2, c2, se, rfl, b1, b2, b3, b4⟩ := open_bools_at Try.underlying23 Try.underlying4 (by kernel_rfl) ht2 l2
  obtain ⟨A3, c3, sp, rfl, d1, d2, d3, d4, d5⟩ := open_ints_at Try.underlying22 Try.underlying3 (by kernel_rfl) ht3 l3
  have e8 : Try.prog.bytesOf 3 = 8 := by kernel_rfl
  have e1 : Try.prog.bytesOf 4 = 1 := by kernel_rfl
  rw [e8] at a3 d3
  rw [e1] at b3
  unfold maxLen at a2 b2 d2
  refine ⟨⟨i0, pl, se, sp⟩, ⟨A1, pl.length, c1, A2, se.length, c2, A3, sp.length, c3⟩, ?_, ⟨rfl, rfl, rfl, a1, b1, d1, a2, b2, d2, a4, b4, d4⟩, wf_i64 q0, a5, d5, a3, by dsimp only; omega, d3⟩
  have : cs = #[.int .i64 i0, .slice A1 pl.length c1, .slice A2 se.length c2, .slice A3 sp.length c3] := by
    apply Array.ext (by simpa using hsz3)
    intro i h1 h2
    simp at hx0 hx1 hx2 hx3
    simp only [hsz3] at h1
    have h3 : i = 0 ∨ i = 1 ∨ i = 2 ∨ i = 3 := by omega
    rcases h3 with rfl | rfl | rfl | rfl <;> simp_all
  rw [this]
  rfl

/-! ### runs as plain data -/
def runF : Nat → Wd → List Stp → Wd × Nat × Int
  | i, d, [] => (d, i, 0)
  | i, d, s :: ss => if canE d s = 0 then runF (i + 1) (stepN d s) ss else (noWd, i, canE d s)
def runE (d : Wd) (ss : List Stp) : Wd × Nat × Int := if wErr d = 0 then runF 0 d ss else (noWd, 0, wErr d)
theorem runF_nil (i : Nat) (d : Wd) : runF i d [] = (d, i, 0) := rfl
theorem runF_ok {i : Nat} {d : Wd} {s : Stp} {ss : List Stp} (h : canE d s = 0) : runF i d (s :: ss) = runF (i + 1) (stepN d s) ss := by
  show (if canE d s = 0 then runF (i + 1) (stepN d s) ss else (noWd, i, canE d s)) = _
  rw [if_pos h]
theorem runF_no {i : Nat} {d : Wd} {s : Stp} {ss : List Stp} (h : canE d s ≠ 0) : runF i d (s :: ss) = (noWd, i, canE d s) := by
  show (if canE d s = 0 then runF (i + 1) (stepN d s) ss else (noWd, i, canE d s)) = _
  rw [if_neg h]
theorem drop_of_get {α : Type} {xs : List α} {j : Nat} {x : α} (h : xs[j]? = some x) : xs.drop j = x :: xs.drop (j + 1) := by
  obtain ⟨h1, h2⟩ := List.getElem?_eq_some_iff.1 h
  rw [List.drop_eq_getElem_cons h1, h2]
def RunPost (d : Wd) (ss : List Stp) (w : World) (e : Ending) (w' : World) : Prop :=
  ∃ r', e = .returned (.tuple #[wv (runE d ss).1.sl r', .int .i64 ((runE d ss).2.1 : Int), .int .i64 (runE d ss).2.2]) ∧ WOk w' r' (runE d ss).1 ∧ Below w.heap.size w w'
theorem run_bad {d : Wd} {ss : List Stp} {w W : World} {c : Int} (hw : wErr d = c) (h0 : c ≠ 0) (hb : Below w.heap.size w W) : RunPost d ss w (.returned (.tuple #[.agg #[.int .i64 0, .slice none 0 0, .slice none 0 0, .slice none 0 0], .int .i64 0, .int .i64 c])) W := by
  have h1 : runE d ss = (noWd, 0, c) := by unfold runE; rw [if_neg (by rw [hw]; exact h0), hw]
  exact ⟨noRaw, by rw [h1]; rfl, by rw [h1]; exact WOk.no W, hb⟩
theorem run_stop {d dj : Wd} {ss : List Stp} {s : Stp} {w W : World} {c : Int} {j : Nat} (hw : wErr d = 0) (hr : runF 0 d ss = runF j dj (ss.drop j)) (hs : ss[j]? = some s) (hc : canE dj s = c) (h0 : c ≠ 0) (hb : Below w.heap.size w W) : RunPost d ss w (.returned (.tuple #[.agg #[.int .i64 0, .slice none 0 0, .slice none 0 0, .slice none 0 0], .int .i64 (j : Int), .int .i64 c])) W := by
  have h1 : runE d ss = (noWd, j, c) := by unfold runE; rw [if_pos hw, hr, drop_of_get hs, runF_no (by rw [hc]; exact h0), hc]
  exact ⟨noRaw, by rw [h1]; rfl, by rw [h1]; exact WOk.no W, hb⟩
theorem run_end {d dj : Wd} {ss : List Stp} {w W : World} {j : Nat} {r : Raw} (hw : wErr d = 0) (hr : runF 0 d ss = runF j dj (ss.drop j)) (hj : ss.length ≤ j) (ho : WOk W r dj) (hb : Below w.heap.size w W) : RunPost d ss w (.returned (.tuple #[.agg #[.int .i64 dj.sl, .slice r.A1 r.n1 r.c1, .slice r.A2 r.n2 r.c2, .slice r.A3 r.n3 r.c3], .int .i64 (j : Int), .int .i64 0])) W := by
  have h1 : runE d ss = (dj, j, 0) := by unfold runE; rw [if_pos hw, hr, List.drop_eq_nil_of_le hj, runF_nil]
  exact ⟨r, by rw [h1]; rfl, by rw [h1]; exact ho, hb⟩
theorem run_more {d dj : Wd} {ss : List Stp} {s : Stp} {j : Nat} (hr : runF 0 d ss = runF j dj (ss.drop j)) (hs : ss[j]? = some s) (hc : canE dj s = 0) : runF 0 d ss = runF (j + 1) (stepN dj s) (ss.drop (j + 1)) := by rw [hr, drop_of_get hs, runF_ok hc]
end Go.Proofs.Ytnaiflokmihmeaa
