/- Slices of steps. -/
import Derived.Test.YtogjfmgecnoceaaInts
import Derived.Test.YtogjfmgecnoceaaGrow
import Derived.Test.YtogjfmgecnoceaaGrowI
import Derived.Test.YtogjfmgecnoceaaOpen
import Derived.Deep.LoopGhost
import Derived.Deep.QuietTactic
import Derived.BigQuiet
import Derived.WalkSpells
namespace Go.Proofs.Ytogjfmgecnoceaa
open Go.RowKit Go.ChangeShapes Go.WideShapes Go.Deep
set_option linter.unusedVariables false
set_option linter.unusedSimpArgs false

structure Sp where
  a : Int
  b : Int
  c : Int
  d : Int
  e : Int
deriving DecidableEq
def valS (s : Sp) : List Value := [.int .i64 s.a, .int .i64 s.b, .int .i64 s.c, .int .i64 s.d, .int .i64 s.e]
def cellsS (ss : List Sp) : List Value := ss.flatMap valS
theorem cellsS_append (a b : List Sp) : cellsS (a ++ b) = cellsS a ++ cellsS b := by simp [cellsS]
theorem cellsS_length (ss : List Sp) : (cellsS ss).length = ss.length * 5 := by
  induction ss with
  | nil => rfl
  | cons a l ih => rw [show cellsS (a :: l) = valS a ++ cellsS l from rfl, List.length_append, ih]; simp [valS]; omega
theorem cellsS_get {ss : List Sp} {k j : Nat} {s : Sp} {v : Value} (h : ss[k]? = some s) (hj : (valS s)[j]? = some v) : (cellsS ss)[k*5+j]? = some v := by
  have hj5 : j < 5 := by
    have := (List.getElem?_eq_some_iff.1 hj).1
    simpa [valS] using this
  induction ss generalizing k with
  | nil => simp at h
  | cons a l ih =>
    rw [show cellsS (a :: l) = valS a ++ cellsS l from rfl]
    cases k with
    | zero =>
      simp at h; subst h
      rw [Nat.zero_mul, Nat.zero_add, List.getElem?_append_left (by simpa [valS] using hj5)]
      exact hj
    | succ k =>
      simp at h
      rw [List.getElem?_append_right (by simp [valS]; omega)]
      rw [show (k + 1) * 5 + j - (valS a).length = k * 5 + j by simp [valS]; omega]
      exact ih h
/-- the slice at A holds the steps ss -/
def StepsAt (w : World) (B : Nat) (A : Option Addr) (ss : List Sp) : Prop :=
  ∀ k s, ss[k]? = some s → ∃ b off, A = some ⟨b, off, none⟩ ∧ b < B ∧ ∀ j v, (valS s)[j]? = some v → w.cell? ⟨b, off + (k*5+j), none⟩ = some v
section
variable {w w' : World} {B B' : Nat} {A : Option Addr} {ss : List Sp}
theorem StepsAt.below (h : StepsAt w B A ss) (hb : Below B' w w') (hB : B ≤ B') : StepsAt w' B A ss := by
  intro k x hx
  obtain ⟨b, off, hA, hlt, h0⟩ := h k x hx
  exact ⟨b, off, hA, hlt, fun j v hj => (hb.cell (p := ⟨b, _, none⟩) (Nat.lt_of_lt_of_le hlt hB)).trans (h0 j v hj)⟩
theorem StepsAt.more (h : StepsAt w B A ss) (hB : B ≤ B') : StepsAt w B' A ss := by
  intro k x hx
  obtain ⟨b, off, hA, hlt, h0⟩ := h k x hx
  exact ⟨b, off, hA, Nat.lt_of_lt_of_le hlt hB, h0⟩
theorem StepsAt.nil : StepsAt w B A [] := fun k x h => by simp at h
theorem StepsAt.next (h : StepsAt w w.heap.size A ss) (hb : Below w.heap.size w w') : StepsAt w' w'.heap.size A ss := (h.below hb (Nat.le_refl _)).more hb.size
theorem StepsAt.five (h : StepsAt w B A ss) {k : Nat} {s : Sp} (hk : ss[k]? = some s) : ∃ b off, A = some ⟨b, off, none⟩ ∧ b < B ∧
    w.cell? ⟨b, off + k*5, none⟩ = some (.int .i64 s.a) ∧ w.cell? ⟨b, off + k*5+1, none⟩ = some (.int .i64 s.b) ∧ w.cell? ⟨b, off + k*5+2, none⟩ = some (.int .i64 s.c) ∧ w.cell? ⟨b, off + k*5+3, none⟩ = some (.int .i64 s.d) ∧ w.cell? ⟨b, off + k*5+4, none⟩ = some (.int .i64 s.e) := by
  obtain ⟨b, off, hA, hb, h0⟩ := h k s hk
  exact ⟨b, off, hA, hb, h0 0 _ rfl, h0 1 _ rfl, h0 2 _ rfl, h0 3 _ rfl, h0 4 _ rfl⟩
theorem StepsAt.of_own {base : Nat} {e : TypeId} {v : Value} (h : w.ownsRow base e 5 v ss.length (cellsS ss)) :
    ∃ A c, v = .slice A ss.length c ∧ ss.length ≤ c ∧ c ≤ maxLen ∧ StepsAt w w.heap.size A ss := by
  obtain ⟨h1, h2⟩ := h
  rcases h2 with ⟨rfl, hx⟩ | ⟨g, cap, cur, rfl, hg, hh, hnc, hm, hs, hc⟩
  · have : ss = [] := by
      have := cellsS_length ss; rw [hx] at this; simp at this
      exact List.eq_nil_of_length_eq_zero (by omega)
    subst this
    exact ⟨none, 0, rfl, Nat.le_refl _, by unfold maxLen; omega, fun k u hu => by simp at hu⟩
  · refine ⟨some ⟨g, 0, none⟩, cap, rfl, by assumption, by assumption, fun k u hu => ?_⟩
    have hglt : g < w.heap.size := by
      rcases Nat.lt_or_ge g w.heap.size with h' | h'
      · exact h'
      · rw [Array.getElem?_eq_none h'] at hh; cases hh
    have H := World.ownsRow.cells (w := w) (base := base) (e := e) (size := 5) (v := .slice (some ⟨g, 0, none⟩) ss.length cap) (n := ss.length) (xs := cellsS ss) ⟨h1, .inr ⟨g, cap, cur, rfl, hg, hh, hnc, hm, hs, hc⟩⟩ (g := g) rfl
    refine ⟨g, 0, rfl, hglt, fun j v hj => ?_⟩
    have := H _ _ (cellsS_get hu hj)
    rwa [Addr.add_lit] at this
end
def StepsV (w : World) (v : Value) (ss : List Sp) : Prop := ∃ A c, v = .slice A ss.length c ∧ ss.length ≤ c ∧ c ≤ maxLen ∧ StepsAt w w.heap.size A ss
theorem StepsV.nil (w : World) : StepsV w (.slice none 0 0) [] := ⟨none, 0, rfl, Nat.le_refl _, by unfold maxLen; omega, StepsAt.nil⟩
theorem infoT : (Try.prog.info? 57).map (fun i => (i.zero, i.size, i.bytes)) = some (some (.agg #[.int .i64 0, .int .i64 0, .int .i64 0, .int .i64 0, .int .i64 0]), 5, 40) := by kernel_rfl
theorem one_t (s : Sp) : ∀ u ∈ (#[.int .i64 s.a, .int .i64 s.b, .int .i64 s.c, .int .i64 s.d, .int .i64 s.e] : Array Value).toList, u.oneCell' = true := by
  intro u hu
  simp at hu
  rcases hu with rfl | rfl | rfl | rfl | rfl <;> rfl
/-- v is a row of the call's own that holds ss -/
def SRow (w : World) (v : Value) (ss : List Sp) (wr : World) : Prop := Rws w [⟨v, 57, 5, ss.length, cellsS ss⟩] wr
section
variable {w wr w' : World} {v v' : Value} {ss : List Sp} {n : Nat}
theorem SRow.stepsV (h : SRow w v ss wr) : StepsV wr v ss := StepsAt.of_own (Rws.head h)
theorem SRow.row (h : SRow w v ss wr) (hn : ss.length = n) : Rws w (⟨v, 57, 5, n, cellsS ss⟩ :: []) wr := by subst hn; exact h
theorem SRow.add {s : Sp} (hn : ss.length = n) (h : Rws w [⟨v', 57, 5, n + 1, cellsS ss ++ (#[.int .i64 s.a, .int .i64 s.b, .int .i64 s.c, .int .i64 s.d, .int .i64 s.e] : Array Value).toList⟩] wr) : SRow w v' (ss ++ [s]) wr := by
  subst hn
  have e : cellsS (ss ++ [s]) = cellsS ss ++ [.int .i64 s.a, .int .i64 s.b, .int .i64 s.c, .int .i64 s.d, .int .i64 s.e] := by simp [cellsS, valS]
  unfold SRow
  rw [e, List.length_append]
  exact h
theorem SRow.nil (h : Below w.heap.size w wr) : SRow w (.slice none 0 0) [] wr := (Rws.begin h).nil _ _
theorem SRow.next (h : SRow w v ss wr) (hb : Below wr.heap.size wr w') : SRow w v ss w' := Rws.next h hb
theorem SRow.bel (h : SRow w v ss wr) : Below w.heap.size w wr := Rws.below h
theorem SRow.re {ts : List Sp} (h : SRow w v ss wr) (e : ts = ss) : SRow w v ts wr := e ▸ h
end
/-- one element behind a row of any length within the reach -/
theorem wpList_append_oneL {P : Program} {W : World} {rs : List Rw} {ops : Array Oper} {rest : List Oper} {o : Oper} {a : Act} {Q : Exit → Act → World → Prop} (hgd : o.guard = none) (s x : Operand) (t : TypeId)
    (ho : o.op = .call { callee := .builtin .append, args := #[s, x], argTypes := #[t, t] })
    {e : TypeId} {z : Value} {size bytes : Nat} (ht : P.underlying t = some (.slice e)) (hi : (P.info? e).map (fun i => (i.zero, i.size, i.bytes)) = some (some z, size, bytes)) (hzs : z.cells.size = size) (hk : (decide (0 < size) && decide (bytes ≤ 4096)) = true)
    {w : World} {cs : Array Value} {v : Value} {n : Nat} {xs : List Value} (hR : Rws W (⟨v, e, size, n, xs⟩ :: rs) w) (hs : a.eval s = v) (hx : a.eval x = .slice (some ⟨w.heap.size, 0, none⟩) 1 1) (hcs : cs.size = size) (h1 : ∀ u ∈ cs.toList, u.oneCell' = true)
    (hnm : n + 1 ≤ maxLen) (hby : (n + 1) * bytes ≤ 140737488355328)
    (h : ∀ v' w', Rws W (⟨v', e, size, n + 1, xs ++ cs.toList⟩ :: rs) w' → Below W.heap.size W w' → wpList P ops Q rest (a.put o.dst v') w') : wpList P ops Q (o :: rest) a (w.alloc (.cells cs e)) := by
  refine wpList_plain hgd fun _ hK => ?_
  obtain ⟨i0, hi0, hz0, hz1, hz2⟩ := info_parts hi
  have hk := hk
  simp only [Bool.and_eq_true, decide_eq_true_eq] at hk
  have hR1 := hR.alloc (.cells cs e)
  refine wp_append_any _ s x t ho W.heap.size e i0 z size bytes ht hi0 hz0 hz1 hz2 hzs hk.1 v n xs hs hR1.head _ _ 1 1 cs.toList hx (Blk.reads (Blk.new w e cs) rfl (by simp [hcs])) h1 hnm hby hR1.size fun v' w' a1 a2 a3 => ?_
  have hR' := hR1.grown a2 a1 a3
  exact hK _ _ (h v' w' hR' hR'.below)

set_option maxRecDepth 20000 in
/-- steps that came in -/
theorem open_steps {H : Type} {enc : TypeId × Value → H} {w : World} {base b0 : Nat} {held : Bool} {v : Value} {d : DataW H} {p : List MemPlace} {r : Reach}
    (h : DataW.Trod enc Try.prog w base (fun _ => true) held 46 v d p) (o : Value.okWide Try.prog w r b0 46 v) (hl : Light Try.prog 46 d) :
    ∃ A c ss, v = .slice A (List.length ss) c ∧ ss.length ≤ c ∧ c ≤ maxLen ∧ ss.length * 40 ≤ 140737488351232 ∧ StepsAt w w.heap.size A ss := by
  obtain ⟨A, len, cap, rfl⟩ := okWide_slice Try.underlying46 o
  obtain ⟨fuel, hf⟩ := h
  obtain ⟨A', len', cap', hcs, hlc, hm, hrb, hi⟩ := open_elems_w (C := 5) Try.underlying46 (by kernel_rfl) (by omega) hf hl
  simp [Value.cells] at hcs
  obtain ⟨rfl, rfl, rfl⟩ := hcs
  have hb40 : Try.prog.bytesOf 57 = 40 := by kernel_rfl
  rw [hb40] at hrb
  unfold reachBytes at hrb
  obtain ⟨ss, hss, hr⟩ := list_of (n := len) (R := fun k (s : Sp) => ∃ b off, A = some ⟨b, off, none⟩ ∧ b < w.heap.size ∧ ∀ j v, (valS s)[j]? = some v → w.cell? ⟨b, off + (k*5+j), none⟩ = some v) (by
    intro i hlt
    obtain ⟨b, off, cs', n', y, hA, hb, hlen, hc, ht, _⟩ := hi i hlt
    obtain ⟨n, hfs⟩ := open_fields Try.underlying57 (by kernel_rfl) hlen ht
    obtain ⟨x0, y0, hx0, ht0⟩ := hfs 0 _ rfl
    obtain ⟨x1, y1, hx1, ht1⟩ := hfs 1 _ rfl
    obtain ⟨x2, y2, hx2, ht2⟩ := hfs 2 _ rfl
    obtain ⟨x3, y3, hx3, ht3⟩ := hfs 3 _ rfl
    obtain ⟨x4, y4, hx4, ht4⟩ := hfs 4 _ rfl
    obtain ⟨i0, rfl, _⟩ := open_i64 Try.underlying3 ht0
    obtain ⟨i1, rfl, _⟩ := open_i64 Try.underlying3 ht1
    obtain ⟨i2, rfl, _⟩ := open_i64 Try.underlying3 ht2
    obtain ⟨i3, rfl, _⟩ := open_i64 Try.underlying3 ht3
    obtain ⟨i4, rfl, _⟩ := open_i64 Try.underlying3 ht4
    refine ⟨⟨i0, i1, i2, i3, i4⟩, b, off, hA, hb, fun j v hj => ?_⟩
    rcases j with _ | _ | _ | _ | _ | j
    · have := Option.some.inj hj; subst this; exact hc 0 _ hx0
    · have := Option.some.inj hj; subst this; exact hc 1 _ hx1
    · have := Option.some.inj hj; subst this; exact hc 2 _ hx2
    · have := Option.some.inj hj; subst this; exact hc 3 _ hx3
    · have := Option.some.inj hj; subst this; exact hc 4 _ hx4
    · simp [valS] at hj)
  exact ⟨A, cap, ss, by rw [hss], by omega, hm, by omega, fun k u hu => hr k u hu⟩

set_option maxHeartbeats 1000000 in
theorem equalS_any (xs : List Sp) (A B : Option Addr) (n c d : Nat) (w : World) (hn : n = xs.length) (hx : n ≤ 9223372036854775807) (h : StepsAt w w.heap.size A xs) (h' : StepsAt w w.heap.size B xs) :
    Calls Try.prog 49 #[.slice A n c, .slice B n d] w fun e w' => e = .returned (.bool true) ∧ Below w.heap.size w w' := by
  have HN := Lib.hid hn; clear hn
  have H := Lib.hid h; clear h
  have H' := Lib.hid h'; clear h'
  go_enter Try.func49, Try.ntmps49
  go_wp2_with fail
  go_loopg [13] n (fun k i wr => ∃ j : Nat, k = n - j ∧ j ≤ n ∧ i = .int .i64 j ∧ Hid (Below w.heap.size w wr))
  case atStart => exact ⟨0, by omega, Nat.zero_le _, rfl, Below.refl _ _⟩
  case round =>
    obtain ⟨j, hgk, hj, rfl, hbel⟩ := hrel
    have HGK := Lib.hid hgk; clear hgk
    by_cases hlt : j < n
    · obtain ⟨u, hu⟩ := get_of_lt HN.out hlt
      obtain ⟨b, off, rfl, hb, h0, h1, h2, h3, h4⟩ := H.out.five hu
      obtain ⟨b', off', rfl, hb', h0', h1', h2', h3', h4'⟩ := H'.out.five hu
      clear hu
      have g0 := (hbel.out.cell (p := ⟨b, off + j*5, none⟩) hb).trans h0
      have g1 := (hbel.out.cell (p := ⟨b, off + j*5+1, none⟩) hb).trans h1
      have g2 := (hbel.out.cell (p := ⟨b, off + j*5+2, none⟩) hb).trans h2
      have g3 := (hbel.out.cell (p := ⟨b, off + j*5+3, none⟩) hb).trans h3
      have g4 := (hbel.out.cell (p := ⟨b, off + j*5+4, none⟩) hb).trans h4
      have g0' := (hbel.out.cell (p := ⟨b', off' + j*5, none⟩) hb').trans h0'
      have g1' := (hbel.out.cell (p := ⟨b', off' + j*5+1, none⟩) hb').trans h1'
      have g2' := (hbel.out.cell (p := ⟨b', off' + j*5+2, none⟩) hb').trans h2'
      have g3' := (hbel.out.cell (p := ⟨b', off' + j*5+3, none⟩) hb').trans h3'
      have g4' := (hbel.out.cell (p := ⟨b', off' + j*5+4, none⟩) hb').trans h4'
      clear h0 h1 h2 h3 h4 h0' h1' h2' h3' h4'
      have i1 : (0 : Int) ≤ (j : Int) := by omega
      have i2 : (j : Int) < (n : Int) := by omega
      go_wp2_with fail
      go_quiet (fail)
      go_wp2_with fail
      go_roundg (n - (j + 1))
      case measure => rw [HGK.out]; omega
      case rel => exact ⟨j+1, rfl, by omega, by go_num, below_drewN hbel.out _⟩
    · go_wp2_with fail
      go_ret
      exact ⟨rfl, hbel.out⟩
end Go.Proofs.Ytogjfmgecnoceaa
