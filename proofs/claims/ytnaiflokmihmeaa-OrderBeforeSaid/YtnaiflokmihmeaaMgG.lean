/- Facts: a block that holds facts; the library's sort over it. -/
/- Facts: slices.Compact. -/
/- Facts: Of (package fact). -/
/- Facts: the fact about sets of facts. -/
import Derived.Test.YtnaiflokmihmeaaMgE
import Derived.Test.YtnaiflokmihmeaaMgF
import Derived.Test.YtnaiflokmihmeaaSlsf
import Derived.Deep.LoopGhost
import Derived.Deep.QuietTactic
import Derived.BigQuiet
import Derived.WalkSpells
import Derived.ChangeKeysEq
import Derived.OwnWalk
namespace Go.Proofs.Ytnaiflokmihmeaa
open Go.RowKit
set_option linter.unusedVariables false
set_option linter.unusedSimpArgs false

/-- block g, of cap facts, holds the facts d -/
def FBlk (w : World) (g cap : Nat) (d : Array Ft) : Prop :=
  ∃ cs, Blk w g 45 cs ∧ cs.size = cap * 3 ∧ d.size ≤ cap ∧ ∀ t, t < d.size * 3 → cs[t]? = some (valG d[t / 3]!)[t % 3]!
section
variable {w w' : World} {g cap : Nat} {d : Array Ft}
theorem FBlk.next (h : FBlk w g cap d) (hb : w'.heap[g]? = w.heap[g]?) : FBlk w' g cap d := by
  obtain ⟨cs, h1, h2⟩ := h
  exact ⟨cs, hb.trans h1, h2⟩
theorem FBlk.below {B : Nat} (h : FBlk w g cap d) (hb : Below B w w') (hB : g < B) : FBlk w' g cap d := h.next (hb.block g hB)
theorem FBlk.lt (h : FBlk w g cap d) : g < w.heap.size := by obtain ⟨cs, h1, h2⟩ := h; exact h1.lt
theorem FBlk.frozen (h : FBlk w g cap d) (i : Nat) : w.frozen? ⟨g, i, none⟩ = false := by obtain ⟨cs, h1, h2⟩ := h; exact h1.frozen i
theorem FBlk.some_ (h : FBlk w g cap d) {i : Nat} (hi : i < cap * 3) : (w.cell? ⟨g, i, none⟩).isSome = true := by
  obtain ⟨cs, h1, h2, h3⟩ := h
  rw [h1.cell, Array.getElem?_eq_getElem (by omega)]; rfl
theorem FBlk.cells (h : FBlk w g cap d) {j : Nat} (hj : j < d.size) : w.cell? ⟨g, j*3, none⟩ = some (.int .i64 d[j]!.k) ∧ w.cell? ⟨g, j*3+1, none⟩ = some (.int .i64 d[j]!.a) ∧ w.cell? ⟨g, j*3+2, none⟩ = some (.int .i64 d[j]!.b) := by
  obtain ⟨cs, h1, h2, h3, h4⟩ := h
  have a0 := h4 (j*3) (by omega)
  have a1 := h4 (j*3+1) (by omega)
  have a2 := h4 (j*3+2) (by omega)
  rw [show j*3/3 = j by omega, show j*3%3 = 0 by omega] at a0
  rw [show (j*3+1)/3 = j by omega, show (j*3+1)%3 = 1 by omega] at a1
  rw [show (j*3+2)/3 = j by omega, show (j*3+2)%3 = 2 by omega] at a2
  rw [h1.cell, h1.cell, h1.cell, a0, a1, a2]
  exact ⟨rfl, rfl, rfl⟩
theorem FBlk.factsAt (h : FBlk w g cap d) (m : Nat) : FactsAt w w.heap.size (some ⟨g, 0, none⟩) (d.toList.take m) := by
  intro k s hk
  have hk1 : d[k]? = some s := by
    rw [List.getElem?_take] at hk
    split at hk
    · simpa using hk
    · cases hk
  obtain ⟨hlt, he⟩ := Array.getElem?_eq_some_iff.1 hk1
  have he' : d[k]! = s := by rw [getElem!_pos d k hlt]; exact he
  refine ⟨g, 0, rfl, h.lt, fun j v hj => ?_⟩
  have hj3 : j < 3 := by have := (List.getElem?_eq_some_iff.1 hj).1; simpa [valG] using this
  obtain ⟨c0, c1, c2⟩ := h.cells hlt
  rw [he'] at c0 c1 c2
  rw [Nat.zero_add]
  match j, hj3 with
  | 0, _ => simp [valG] at hj; subst hj; exact c0
  | 1, _ => simp [valG] at hj; subst hj; exact c1
  | 2, _ => simp [valG] at hj; subst hj; exact c2
theorem FBlk.factsAll (h : FBlk w g cap d) : FactsAt w w.heap.size (some ⟨g, 0, none⟩) d.toList := by
  have := h.factsAt d.size
  rwa [show d.toList.take d.size = d.toList by rw [← Array.length_toList]; exact List.take_length] at this
theorem FBlk.le (h : FBlk w g cap d) : d.size ≤ cap := by obtain ⟨cs, h1, h2, h3, h4⟩ := h; exact h3
theorem cellsF_idx (l : List Ft) (t : Nat) (ht : t < l.length * 3) : (cellsF l)[t]? = some (valG l.toArray[t / 3]!)[t % 3]! := by
  have hk : t / 3 < l.length := by omega
  have h1 : l[t/3]? = some l.toArray[t / 3]! := by
    rw [getElem!_pos l.toArray (t/3) (by simpa using hk), List.getElem?_eq_getElem hk]; simp
  have h2 : (valG l.toArray[t / 3]!)[t % 3]? = some (valG l.toArray[t / 3]!)[t % 3]! := by
    have hl : t % 3 < (valG l.toArray[t / 3]!).length := by simp [valG]; omega
    rw [getElem!_pos _ (t%3) hl, List.getElem?_eq_getElem hl]
  have := cellsF_get h1 h2
  rwa [show t / 3 * 3 + t % 3 = t by omega] at this
theorem FBlk.of_own {base n c : Nat} {l : List Ft} (h : w.ownsRow base 45 3 (.slice (some ⟨g, 0, none⟩) n c) n (cellsF l)) (hn : n = l.length) : FBlk w g c l.toArray ∧ base ≤ g := by
  obtain ⟨h1, h2⟩ := h
  rcases h2 with ⟨h2, _⟩ | ⟨g', cap', cur, hv, hg, hh, hnc, hm, hs, hc⟩
  · cases h2
  · cases hv
    subst hn
    refine ⟨⟨cur, hh, hs, by simpa using hnc, fun t ht => ?_⟩, hg⟩
    have ht' : t < l.length * 3 := by simpa using ht
    rw [← cellsF_idx l t ht', ← hc, List.getElem?_take_of_lt ht', Array.getElem?_toList]
/-- a fact is stored -/
theorem FBlk.store (h : FBlk w g cap d) {i : Nat} (hi : i < d.size) (x : Ft) : FBlk (((w.setCell ⟨g, i*3, none⟩ (.int .i64 x.k)).setCell ⟨g, i*3+1, none⟩ (.int .i64 x.a)).setCell ⟨g, i*3+2, none⟩ (.int .i64 x.b)) g cap (d.setIfInBounds i x) := by
  obtain ⟨cs, h1, h2, h3, h4⟩ := h
  refine ⟨_, ((h1.set_ (i*3) _).set_ (i*3+1) _).set_ (i*3+2) _, by simpa using h2, by simpa using h3, fun t ht => ?_⟩
  simp only [Array.size_setIfInBounds] at ht
  simp only [Array.getElem?_setIfInBounds, Array.size_setIfInBounds]
  have hd : ∀ q, q < d.size → (d.setIfInBounds i x)[q]! = if i = q then x else d[q]! := by
    intro q hq
    rw [getElem!_pos _ q (by simpa using hq), Array.getElem_setIfInBounds (by simpa using hq), getElem!_pos d q hq]
  rw [hd _ (by omega)]
  by_cases e : i = t / 3
  · rw [if_pos e]
    have hm : t % 3 = 0 ∨ t % 3 = 1 ∨ t % 3 = 2 := by omega
    rcases hm with hm | hm | hm
    · rw [if_neg (by omega), if_neg (by omega), if_pos (by omega), if_pos (by omega), hm]; rfl
    · rw [if_neg (by omega), if_pos (by omega), if_pos (by omega), hm]; rfl
    · rw [if_pos (by omega), if_pos (by omega), hm]; rfl
  · rw [if_neg e, if_neg (by omega), if_neg (by omega), if_neg (by omega)]
    exact h4 t ht
end
open Go.Sort in
theorem FBlk.holds {w : World} {g cap : Nat} {d : Array Ft} (h : FBlk w g cap d) : HoldsK valG 3 w g 0 d := by
  obtain ⟨cs, h1, h2, h3, h4⟩ := h
  intro j hj
  rw [size_flatK] at hj
  refine ⟨?_, by rw [Nat.zero_add]; exact h1.frozen j⟩
  rw [Nat.zero_add, h1.cell, h4 j hj, get_flatK _ _ _ _ hj]
  rfl
open Go.Sort in
theorem FBlk.sorted {w : World} {g cap n : Nat} {d d' : Array Ft} {os : Array Obj} (h : FBlk w g cap d) (hs : d'.size = d.size) : FBlk (sortWorldK valG 3 w g 0 n d' os) g cap d' := by
  obtain ⟨cs, h1, h2, h3, h4⟩ := h
  have hlt := h1.lt
  refine ⟨putCells id 0 (flatK valG 3 d') cs, ?_, by simpa [putCells] using h2, by omega, fun t ht => ?_⟩
  · unfold Blk sortWorldK
    rw [heap_grow_old _ _ (by simpa [putRowK] using hlt)]
    unfold Blk at h1
    simp [putRowK, putRow, mapBlock, Sort.ahead, Array.getElem?_modify, h1, onCells]
  · have htc : t < cs.size := by omega
    simp only [putCells, Array.getElem?_mapIdx, Array.getElem?_eq_getElem htc, Option.map_some, Nat.zero_le, true_and, Nat.zero_add, size_flatK, if_pos ht, Nat.sub_zero, get_flatK _ _ _ _ ht]
    rfl
open Go.Sort in
theorem sortedK_below {w : World} {g n B : Nat} {d' : Array Ft} {os : Array Obj} (hB : B ≤ g) (hw : B ≤ w.heap.size) : Below B w (sortWorldK valG 3 w g 0 n d' os) := by
  have hg : w.grownBy (sortWorldK valG 3 w g 0 n d' os) (some g) := by
    unfold sortWorldK putRowK
    refine ⟨rfl, rfl, rfl, by simp, fun k hk hne => ?_⟩
    rw [heap_grow_old _ _ (by simpa using hk)]
    have : g ≠ k := fun e => hne (by rw [e])
    simp [putRow, mapBlock, Sort.ahead, Array.getElem?_modify, this]
  exact below_of_grown hg hw (fun k hk => by cases hk; exact hB)

theorem isAggF (w : World) : (isAgg 45).run Try.prog w = .ok true w := by kernel_rfl
theorem sizeF (w : World) : (Go.sizeOf 45).run Try.prog w = .ok 3 w := by kernel_rfl
/-- slices.SortFunc at facts with fact.Compare -/
theorem sortF_any (g cap c : Nat) (d : Array Ft) (w : World) (B : Nat) (hB : B ≤ g) (h : FBlk w g cap d) (hsz : d.size < 4611686018427387904) :
    Calls Try.prog 68 #[.slice (some ⟨g, 0, none⟩) d.size c, .func (.func 22) #[] #[]] w fun e w' => e = .returned (.tuple #[]) ∧ FBlk w' g cap (d.toList.mergeSort fun x y => !(Go.Proofs.ltOf cmpF y x)).toArray ∧ Below B w w' := by
  have eg : ∀ args w, (callFunc 22 args).run Try.prog w = .ok (.enter 22 args) w := enters_of Try.func22 (by kernel_rfl) rfl
  have hcmp : Go.Proofs.CmpLays Try.prog 22 #[] valG 3 cmpF g 0 d.size w := fun m os dk hs x y => cmpF_grow x y _
  have h1 : ∀ x, ∀ v ∈ valG x, v.oneCell' = true := fun x v hv => by simp [valG] at hv; rcases hv with rfl | rfl | rfl <;> rfl
  have hcon := AnyQ.slices_SortFunc_total Try.sortFact 3 isAggF sizeF valG (fun _ => rfl) h1 cmpF swoF 22 #[] g 0 c d w eg hcmp h.holds h.lt hsz totF
  refine hcon.mono ?_
  rintro e w' ⟨he, n, os, rfl⟩
  exact ⟨he, h.sorted (by simp [List.length_mergeSort]), sortedK_below hB (Nat.le_trans hB (Nat.le_of_lt h.lt))⟩
theorem sortF_none (p : Option Addr) (c : Nat) (fv : Value) (w : World) : Calls Try.prog 68 #[.slice p 0 c, fv] w fun e w' => e = .returned (.tuple #[]) ∧ w' = w :=
  AnyF.slices_SortFunc_none { Try.sortFact with } p c fv w
end Go.Proofs.Ytnaiflokmihmeaa

namespace Go.Proofs.Ytnaiflokmihmeaa
open Go.RowKit Go.Lib
set_option linter.unusedVariables false
set_option linter.unusedSimpArgs false

theorem upTo_all {d : Array Ft} (h : ∀ j, j < d.size → keeps d j = true) : compactUpTo d d.size = d.toList := by rw [compactUpTo_all d _ h, range_map_get]
def CompPost (g cap : Nat) (d : Array Ft) (w : World) (e : Ending) (w' : World) : Prop :=
  e = .returned (.slice (some ⟨g, 0, none⟩) (compactUpTo d d.size).length cap) ∧ FactsAt w' w'.heap.size (some ⟨g, 0, none⟩) (compactUpTo d d.size) ∧ Below g w w'
theorem compPost_all {g cap n : Nat} {d : Array Ft} {w w' : World} (h : FBlk w' g cap d ∧ Below g w w') (hn : d.size = n) (hk : ∀ j, j < n → keeps d j = true) : CompPost g cap d w (.returned (.slice (some ⟨g, 0, none⟩) n cap)) w' := by
  subst hn
  exact ⟨by rw [upTo_all hk]; simp, by rw [upTo_all hk]; exact h.1.factsAll, h.2⟩
theorem below_setCells {B b : Nat} (hB : B ≤ b) : ∀ (vs : List Value) (o : Nat) (w : World), Below B w (w.setCells b o vs)
  | [], _, w => Below.refl _ _
  | v :: r, o, w => ((Below.refl B w).setCell (p := ⟨b, o, none⟩) hB v).trans (below_setCells hB r (o + 1) _)
theorem run_clear_ft (g o n c cap : Nat) (ty : TypeId) (d : Array Ft) (w : World) (hd : FBlk w g cap d) (ho : o + (n + 1) * 3 ≤ cap * 3) :
    ∃ vs : List Value, (Builtin.clear_ #[43] ty #[.slice (some ⟨g, o, none⟩) (n + 1) c]).run Try.prog w = .ok (.tuple #[]) (w.setCells g o vs) := by
  have hz : (zeroValue 45).run Try.prog w = .ok (.agg #[.int .i64 0, .int .i64 0, .int .i64 0]) w := by kernel_rfl
  have hlen : (Builtin.zeroCells (Value.agg #[.int .i64 0, .int .i64 0, .int .i64 0]).cells (n + 1)).toList.length = (n + 1) * 3 := by
    simp [Builtin.zeroCells, Value.cells]
  have h1 : ∀ v ∈ (Builtin.zeroCells (Value.agg #[.int .i64 0, .int .i64 0, .int .i64 0]).cells (n + 1)).toList, v.oneCell' = true := by
    intro v hv
    have hv' : v = .int .i64 0 := by
      simp only [Builtin.zeroCells, Value.cells] at hv
      obtain ⟨i, hi, he⟩ := List.mem_iff_getElem.1 hv
      have h3 : i % 3 = 0 ∨ i % 3 = 1 ∨ i % 3 = 2 := by omega
      rcases h3 with h3 | h3 | h3 <;> simp [h3] at he <;> exact he.symm
    subst hv'
    rfl
  have hst := run_storeCells_cells (P := Try.prog) g o _ 0 w (fun j hj => by rw [hlen] at hj; exact hd.some_ (by omega)) (fun j hj => hd.frozen _) h1
  rw [Nat.add_zero] at hst
  refine ⟨(Builtin.zeroCells (Value.agg #[.int .i64 0, .int .i64 0, .int .i64 0]).cells (n + 1)).toList, ?_⟩
  simp [Builtin.clear_, run_underlying Try.underlying43, hz, hst]
theorem compPost_end {g cap kk n : Nat} {d dk : Array Ft} {w wi : World} (h : FBlk wi g cap dk ∧ Below g w wi) (hI : CompInv d n kk dk) (hn : d.size = n) (vs : List Value) :
    CompPost g cap d w (.returned (.slice (some ⟨g, 0, none⟩) kk cap)) (wi.setCells g (kk * 3) vs) := by
  subst hn
  have hsz := hI.size
  have hlt := hI.lt
  refine ⟨by rw [hI.len], ?_, h.2.trans (below_setCells (Nat.le_refl _) vs _ _)⟩
  have hb : FactsAt wi wi.heap.size (some ⟨g, 0, none⟩) (dk.toList.take kk) := h.1.factsAt kk
  intro k s hk
  have hkk : k < kk := by rw [← hI.len]; exact (List.getElem?_eq_some_iff.1 hk).1
  have hs : dk[k]! = s := by have := hI.low k hkk; rw [hk] at this; exact (Option.some.inj this).symm
  have hk2 : (dk.toList.take kk)[k]? = some s := by
    rw [List.getElem?_take, if_pos hkk, Array.getElem?_toList, Array.getElem?_eq_getElem (show k < dk.size by omega), ← hs, getElem!_pos dk k (by omega)]
  obtain ⟨b, off, hA, hb1, hc⟩ := hb k s hk2
  cases hA
  refine ⟨g, 0, rfl, Nat.lt_of_lt_of_le hb1 (below_setCells (B := 0) (Nat.zero_le _) vs _ _).size, fun j v hj => ?_⟩
  have hj3 : j < 3 := by have := (List.getElem?_eq_some_iff.1 hj).1; simpa [valG] using this
  rw [World.cell?_setCells_out g vs (kk*3) wi ⟨g, 0 + (k*3+j), none⟩ (fun _ _ => .inl (by show 0 + (k*3+j) < kk*3; omega))]
  exact hc j v hj
set_option maxHeartbeats 2000000 in
set_option maxRecDepth 20000 in
theorem compactF_any (g cap : Nat) (d : Array Ft) (w : World) (hd : FBlk w g cap d) (hsz : d.size ≤ 9223372036854775807) :
    Calls Try.prog 69 #[.slice (some ⟨g, 0, none⟩) d.size cap] w (CompPost g cap d w) := by
  have hle := hd.le
  have HD := Lib.hid (And.intro hd (Below.refl g w)); clear hd
  have hn0 := hsz
  by_cases h2 : d.size < 2
  · have HK : Hid (∀ j, j < d.size → keeps d j = true) := Lib.hid (fun j hj => keeps_lt_one d j (Nat.lt_of_lt_of_le hj (by omega)))
    go_enter Try.func69, Try.ntmps69
    go_wp2_with fail
    go_ret
    exact compPost_all HD.out rfl HK.out
  · generalize hz : d.size = n at *
    have HZ := Lib.hid hz; clear hz
    go_enter Try.func69, Try.ntmps69
    go_wp2_with fail
    go_loopg [3] n (fun gg s3 wr => ∃ m : Nat, gg = n - m ∧ m < n ∧ s3 = .int .i64 ((m : Int) + 1) ∧ Hid (FBlk wr g cap d ∧ Below g w wr) ∧ Hid (∀ j, j < m + 1 → keeps d j = true))
    case atStart => exact ⟨0, rfl, by omega, rfl, HD.out, keeps_lt_one d⟩
    case round =>
      obtain ⟨m, hgk, hm, rfl, hfb, hall⟩ := hrel
      have HGK := Lib.hid hgk; clear hgk
      by_cases hlt : m + 1 < n
      · obtain ⟨c0, c1, c2⟩ := hfb.out.1.cells (show m + 1 < d.size by rw [HZ.out]; exact hlt)
        obtain ⟨p0, p1, p2⟩ := hfb.out.1.cells (show m < d.size by rw [HZ.out]; omega)
        generalize hx : d[m+1]! = x at c0 c1 c2
        generalize hy : d[m]! = y at p0 p1 p2
        have HX := Lib.hid hx; clear hx
        have HY := Lib.hid hy; clear hy
        obtain ⟨xk, xa, xb⟩ := x
        obtain ⟨yk, ya, yb⟩ := y
        dsimp only at c0 c1 c2 p0 p1 p2
        have i1 : (0 : Int) ≤ (m : Int) := by omega
        have i2 : (m : Int) < (n : Int) := by omega
        have i3 : (0 : Int) ≤ (m : Int) + 1 := by omega
        have i4 : (m : Int) + 1 < (n : Int) := by omega
        have i5 : ((m : Int) + 1).toNat = m + 1 := by omega
        have i6 : IntKind.i64.wrap (m : Int) = (m : Int) := IntWalk.i64_in _ (by omega)
        by_cases hxy : (⟨xk, xa, xb⟩ : Ft) = ⟨yk, ya, yb⟩
        · have HEQ := Lib.hid hxy
          have heq := equal_ft xk xa xb yk ya yb (decide_eq_true hxy)
          have heq2 := equal_ft2 xk xa xb yk ya yb (decide_eq_true hxy)
          clear hxy
          go_wp2_with fail
          go_quiet (fail)
          clear heq heq2
          go_wp2_with fail
          have HC0 : Hid (CompInv d (m+1+1) (m+1) d) := Lib.hid (CompInv.start hall.out (keeps_neg (by omega) (by rw [HX.out, show m + 1 - 1 = m by omega, HY.out]; exact HEQ.out)))
          have HFB0 := Lib.hid (And.intro (hfb.out.1.next (w' := wr.drewN nq) rfl) (below_drewN hfb.out.2 nq))
          clear hfb c0 c1 c2 p0 p1 p2 i1 i2 i5 i6
          generalize World.drewN wr nq = wx at *
          generalize hn1 : n - (m + 1) = n1 at *
          have HN1 : Hid (n = m + 1 + n1) := Lib.hid (by omega)
          have hn1' : 1 ≤ n1 := by omega
          have hb1 : n1 ≤ n := by omega
          clear hn1 hlt
          go_loopg [3, 5] n (fun gg s3 s5 wi => ∃ (kk q : Nat) (dk : Array Ft), gg = n - q ∧ s3 = .int .i64 kk ∧ s5 = .int .i64 ((q : Int) + 1) ∧ q < n1 ∧ Hid (FBlk wi g cap dk ∧ Below g w wi) ∧ Hid (CompInv d (m+1+q+1) kk dk))
          case atStart => exact ⟨m+1, 0, d, rfl, by go_num, rfl, hn1', HFB0.out, HC0.out⟩
          case round =>
            obtain ⟨kk, q, dk, hgk2, rfl, rfl, hq, hfb, hci⟩ := hrel
            have HGK2 := Lib.hid hgk2; clear hgk2
            have hkm := hci.out.lt
            by_cases hlt2 : q + 1 < n1
            · have hm1 : m + 1 + (q + 1) < d.size := by rw [HZ.out, HN1.out]; omega
              have hds : dk.size = d.size := hci.out.size
              obtain ⟨c0, c1, c2⟩ := hfb.out.1.cells (show m + 1 + (q + 1) < dk.size by rw [hds]; exact hm1)
              obtain ⟨p0, p1, p2⟩ := hfb.out.1.cells (show m + 1 + q < dk.size by rw [hds]; omega)
              obtain ⟨o0, o1, o2⟩ := hfb.out.1.cells (show kk < dk.size by rw [hds]; omega)
              rw [hci.out.high _ (by omega)] at c0 c1 c2 p0 p1 p2
              have f0 := hfb.out.1.frozen (kk*3)
              have f1 := hfb.out.1.frozen (kk*3+1)
              have f2 := hfb.out.1.frozen (kk*3+2)
              have HDS := Lib.hid (show kk < dk.size by rw [hds]; omega)
              have HM1 := Lib.hid hm1
              have hkn : kk < n := by rw [HZ.out] at hm1; omega
              clear hds hm1
              generalize hx2 : d[m+1+(q+1)]! = x2 at c0 c1 c2
              generalize hy2 : d[m+1+q]! = y2 at p0 p1 p2
              generalize dk[kk]! = z2 at o0 o1 o2
              have HX2 := Lib.hid hx2; clear hx2
              have HY2 := Lib.hid hy2; clear hy2
              obtain ⟨uk, ua, ub⟩ := x2
              obtain ⟨vk, va, vb⟩ := y2
              rw [show (m+1+(q+1))*3 = (m+1)*3 + (q+1)*3 by omega] at c0 c1 c2
              rw [show (m+1+q)*3 = (m+1)*3 + q*3 by omega] at p0 p1 p2
              dsimp only at c0 c1 c2 p0 p1 p2
              have i1 : (0 : Int) ≤ (q : Int) := by omega
              have i2 : (q : Int) < (n1 : Int) := by omega
              have i3 : (0 : Int) ≤ (q : Int) + 1 := by omega
              have i4' : (q : Int) + 1 < (n1 : Int) := by omega
              have i5 : ((q : Int) + 1).toNat = q + 1 := by omega
              have i6 : IntKind.i64.wrap (q : Int) = (q : Int) := IntWalk.i64_in _ (by omega)
              by_cases huv : (⟨uk, ua, ub⟩ : Ft) = ⟨vk, va, vb⟩
              · have HK : Hid (keeps d (m+1+(q+1)) = false) := Lib.hid (keeps_neg (by omega) (by rw [HX2.out, show m+1+(q+1)-1 = m+1+q by omega, HY2.out]; exact huv))
                have heq := equal_ft uk ua ub vk va vb (decide_eq_true huv)
                have heq2 := equal_ft2 uk ua ub vk va vb (decide_eq_true huv)
                have HFB := Lib.hid (fun r => And.intro (hfb.out.1.next (w' := wr.drewN r) rfl) (below_drewN hfb.out.2 r))
                clear huv o0 o1 o2 f0 f1 f2
                go_wp2_with fail
                go_quiet (fail)
                clear heq heq2
                go_wp2_with fail
                go_roundg (n - (q + 1))
                case measure => rw [HGK2.out]; omega
                case rel => exact ⟨kk, q+1, dk, rfl, rfl, by go_num, by omega, HFB.out _, CompInv.skip hci.out HK.out⟩
              · have HK : Hid (keeps d (m+1+(q+1)) = true) := Lib.hid (keeps_pos (by rw [HX2.out, show m+1+(q+1)-1 = m+1+q by omega, HY2.out]; exact huv))
                have heq := equal_ft uk ua ub vk va vb (decide_eq_false huv)
                have heq2 := equal_ft2 uk ua ub vk va vb (decide_eq_false huv)
                have HST := Lib.hid (fun r => (show FBlk (wr.drewN r) g cap dk from hfb.out.1.next rfl).store HDS.out ⟨uk, ua, ub⟩)
                have HBL := Lib.hid (fun r => below_drewN hfb.out.2 r)
                have HCI : Hid (CompInv d (m+1+(q+1)+1) (kk+1) (dk.setIfInBounds kk ⟨uk, ua, ub⟩)) := Lib.hid (by have := CompInv.keep (m := m+1+(q+1)) hci.out HM1.out HK.out; rwa [HX2.out] at this)
                clear huv
                go_wp2_with fail
                go_quiet (fail)
                clear heq heq2
                go_wp2_with fail
                go_roundg (n - (q + 1))
                case measure => rw [HGK2.out]; omega
                case rel => exact ⟨kk+1, q+1, _, rfl, by go_num, by go_num, by omega, ⟨HST.out _, (((HBL.out _).setCell (Nat.le_refl _) _).setCell (Nat.le_refl _) _).setCell (Nat.le_refl _) _⟩, HCI.out⟩
            · have hend : m + 1 + q + 1 = n := by rw [HN1.out]; omega
              have hkn : kk < n := by omega
              have HCI : Hid (CompInv d n kk dk) := Lib.hid (by rw [← hend]; exact hci.out)
              obtain ⟨n2, hn2⟩ : ∃ n2, n = kk + (n2 + 1) := ⟨n - kk - 1, by omega⟩
              obtain ⟨vs, hcl⟩ := run_clear_ft g (kk*3) n2 (cap - kk) cap 0 dk wr hfb.out.1 (by have := hle; omega)
              have HN2 : n - kk = n2 + 1 := by omega
              rw [← HN2] at hcl
              have HP := Lib.hid (compPost_end hfb.out HCI.out HZ.out vs)
              clear hn2 HN2 hend
              go_wp2_with fail
              go_ret
              exact HP.out
        · have HNE := Lib.hid hxy
          have heq := equal_ft xk xa xb yk ya yb (decide_eq_false hxy)
          have heq2 := equal_ft2 xk xa xb yk ya yb (decide_eq_false hxy)
          clear hxy
          have HK : Hid (keeps d (m+1) = true) := Lib.hid (keeps_pos (by rw [HX.out]; exact fun e => HNE.out (e.trans HY.out)))
          have HFB := Lib.hid (fun q => And.intro (hfb.out.1.next (w' := wr.drewN q) rfl) (below_drewN hfb.out.2 q))
          go_wp2_with fail
          go_quiet (fail)
          clear heq heq2
          go_wp2_with fail
          go_roundg (n - (m + 1))
          case measure => rw [HGK.out]; omega
          case rel => exact ⟨m+1, rfl, hlt, by go_num, HFB.out _, Lib.hid (forall_lt_succ hall.out HK.out)⟩
      · obtain rfl : n = m + 1 := by omega
        go_wp2_with fail
        go_ret
        exact compPost_all hfb.out HZ.out hall.out
end Go.Proofs.Ytnaiflokmihmeaa

namespace Go.Proofs.Ytnaiflokmihmeaa
open Go.RowKit
set_option linter.unusedVariables false
set_option linter.unusedSimpArgs false

theorem filt_yes {l : List Ft} {j : Nat} {f : Ft} (h : l[j]? = some f) (ho : okF f = true) : (l.take (j+1)).filter okF = (l.take j).filter okF ++ [f] := by
  rw [List.take_add_one, h, List.filter_append]; simp [ho]
theorem filt_no {l : List Ft} {j : Nat} {f : Ft} (h : l[j]? = some f) (ho : okF f = false) : (l.take (j+1)).filter okF = (l.take j).filter okF := by
  rw [List.take_add_one, h, List.filter_append]; simp [ho]
def OfPost (l : List Ft) (w : World) (e : Ending) (w' : World) : Prop :=
  ∃ A c, e = .returned (.slice A (ofL l).length c) ∧ (ofL l).length ≤ c ∧ c ≤ maxLen ∧ FactsAt w' w'.heap.size A (ofL l) ∧ Below w.heap.size w w'
theorem compactF_nil (p : Option Addr) (c : Nat) (w : World) : Calls Try.prog 69 #[.slice p 0 c] w fun e w' => e = .returned (.slice p 0 c) ∧ w' = w := by
  go_enter Try.func69, Try.ntmps69
  go_wp2_with fail
  go_ret
  exact ⟨rfl, rfl⟩
theorem ofL_nil {l : List Ft} (h : l.filter okF = []) : ofL l = [] := by
  unfold ofL
  rw [h]
  simp [Go.Lib.compact, Go.Lib.compactUpTo]

set_option maxHeartbeats 2000000 in
set_option maxRecDepth 20000 in
theorem of_any (l : List Ft) (A : Option Addr) (n c : Nat) (w : World) (hn : n = l.length) (hm : n * 24 ≤ 140737488351232) (h : FactsAt w w.heap.size A l) :
    Calls Try.prog 26 #[.slice A n c] w (OfPost l w) := by
  have HN := Lib.hid hn; clear hn
  have H := Lib.hid h; clear h
  have hm0 : n ≤ 9223372036854775807 := by omega
  go_enter Try.func26, Try.ntmps26
  go_wp2_with fail
  go_loopg [3, 8] n (fun kx o i wr => ∃ j : Nat, kx = n - j ∧ j ≤ n ∧ i = .int .i64 j ∧ Hid (FRow w o ((l.take j).filter okF) wr))
  case atStart => exact ⟨0, by omega, Nat.zero_le _, rfl, FRow.nil (Below.refl _ _)⟩
  case round =>
    obtain ⟨j, hgk, hj, rfl, hrow⟩ := hrel
    have HGK := Lib.hid hgk; clear hgk
    have hlen : ((l.take j).filter okF).length ≤ j := Nat.le_trans (List.length_filter_le _ _) (by rw [List.length_take]; omega)
    by_cases hlt : j < n
    · obtain ⟨⟨fk, fa, fb⟩, hf⟩ := get_of_lt HN.out hlt
      obtain ⟨b, off, rfl, hb, h0, h1, h2⟩ := H.out.three hf
      have g0 := (hrow.out.bel.cell (p := ⟨b, off + j*3, none⟩) hb).trans h0
      have g1 := (hrow.out.bel.cell (p := ⟨b, off + j*3+1, none⟩) hb).trans h1
      have g2 := (hrow.out.bel.cell (p := ⟨b, off + j*3+2, none⟩) hb).trans h2
      dsimp only at g0 g1 g2
      have HF := Lib.hid hf; clear hf h0 h1 h2
      obtain ⟨A5, c5, rfl, hl5, hm5, hI5⟩ := hrow.out.facts
      clear hI5
      unfold maxLen at hm5
      generalize hxs : (l.take j).filter okF = xs at *
      have HXS := Lib.hid hxs; clear hxs
      generalize hn5 : xs.length = n5 at *
      have HN5 := Lib.hid hn5; clear hn5
      have HV := Lib.hid (fun W => validF_any ⟨fk, fa, fb⟩ W)
      unfold valF at HV
      dsimp only at HV
      go_wp2_with fail
      clear g0 g1 g2
      have HR1 := Lib.hid (hrow.out.next ((Below.refl _ _).alloc (Nat.le_refl _) (.cells #[.int .i64 fk, .int .i64 fa, .int .i64 fb] 45)))
      have HB1 := Lib.hid (Blk.new wr 45 #[.int .i64 fk, .int .i64 fa, .int .i64 fb])
      generalize wr.heap.size = p at *
      generalize World.alloc wr _ = w1 at *
      clear hrow
      have k0 := HB1.out.cell 0
      have k1 := HB1.out.cell 1
      have k2 := HB1.out.cell 2
      simp at k0 k1 k2
      cases hok : okF ⟨fk, fa, fb⟩ with
      | false =>
        have HT := Lib.hid (filt_no HF.out hok)
        rw [hok] at HV
        clear hok
        go_wp2_with fail
        refine (HV.out _).mono ?_
        rintro e w2 ⟨rfl, hb2⟩
        have HR2 := Lib.hid (HR1.out.next hb2); clear hb2
        go_wp2_with fail
        go_roundg (n - (j + 1))
        case measure => rw [HGK.out]; omega
        case rel => exact ⟨j+1, rfl, hlt, by go_num, by rw [HT.out, HXS.out]; exact HR2.out⟩
      | true =>
        have HT := Lib.hid (filt_yes HF.out hok)
        rw [hok] at HV
        clear hok
        go_wp2_with fail
        refine (HV.out _).mono ?_
        rintro e w2 ⟨rfl, hb2⟩
        have HR2 := Lib.hid (HR1.out.next hb2)
        have HB2 := Lib.hid (HB1.out.belowB hb2); clear hb2 k0 k1 k2
        have k0 := HB2.out.cell 0
        have k1 := HB2.out.cell 1
        have k2 := HB2.out.cell 2
        simp at k0 k1 k2
        have hnm : n5 + 1 ≤ maxLen := by unfold maxLen; omega
        have hby : (n5 + 1) * 24 ≤ 140737488355328 := by omega
        go_wp2_with (
          at_builtin
          refine wpList_append_oneL rfl (.tmp 14) (.tmp 16) _ rfl Try.underlying43 infoFt rfl rfl (HR2.out.row HN5.out) rfl rfl rfl (one_ft ⟨_, _, _⟩) hnm hby ?_
          intro v' w3 hR3 hb3)
        have HR3 := Lib.hid (FRow.add (x := ⟨fk, fa, fb⟩) HN5.out hR3)
        go_roundg (n - (j + 1))
        case measure => rw [HGK.out]; omega
        case rel => exact ⟨j+1, rfl, hlt, by go_num, by rw [HT.out, HXS.out]; exact HR3.out⟩
    · obtain rfl : j = n := by omega
      have HT : Hid ((l.take j).filter okF = l.filter okF) := Lib.hid (by rw [HN.out, List.take_length])
      rw [HT.out] at hrow
      obtain ⟨h1, h2⟩ := Rws.head hrow.out
      rcases h2 with ⟨hv, hx⟩ | ⟨g, cap, cur, hv, hg, hh, hnc, hmx, hs, hc⟩
      · dsimp only at hv hx
        obtain rfl := hv
        have HNL : Hid (ofL l = []) := Lib.hid (ofL_nil (List.eq_nil_of_length_eq_zero hx))
        clear hx h1
        go_wp2_with (first | (go_at_call 68; refine (sortF_none _ _ _ _).mono ?_; rintro e w2 ⟨rfl, rfl⟩) | (go_at_call 69; refine (compactF_nil _ _ _).mono ?_; rintro e w3 ⟨rfl, rfl⟩))
        go_ret
        exact ⟨none, 0, by rw [HNL.out]; rfl, by rw [HNL.out]; exact Nat.le_refl _, by unfold maxLen; omega, by rw [HNL.out]; exact FactsAt.nil, hrow.out.bel⟩
      · dsimp only at hv hg hh hnc hmx hs hc
        obtain rfl := hv
        have hown := FBlk.of_own (w := wr) (base := w.heap.size) (g := g) (c := cap) (l := l.filter okF) ⟨h1, .inr ⟨g, cap, cur, rfl, hg, hh, hnc, hmx, hs, hc⟩⟩ rfl
        have hll : (l.filter okF).length ≤ j := by have := HN.out; have h5 := List.length_filter_le okF l; omega
        have HO := Lib.hid hown
        have HBE := Lib.hid hrow.out.bel
        have HOF : Hid (Go.Lib.compactUpTo ((l.filter okF).mergeSort fun x y => !(Go.Proofs.ltOf cmpF y x)).toArray ((l.filter okF).mergeSort fun x y => !(Go.Proofs.ltOf cmpF y x)).toArray.size = ofL l) := Lib.hid (by unfold ofL Go.Lib.compact; simp)
        have HLS : Hid (((l.filter okF).mergeSort fun x y => !(Go.Proofs.ltOf cmpF y x)).toArray.size = (l.filter okF).length) := Lib.hid (by simp [List.length_mergeSort])
        clear hown h1 hh hs hc hrow
        have HSO := Lib.hid (sortF_any g cap cap (l.filter okF).toArray wr w.heap.size hg HO.out.1 (by simp; omega))
        have hsz5 : (l.filter okF).toArray.size = (l.filter okF).length := by simp
        rw [hsz5] at HSO
        generalize hd1 : ((l.filter okF).mergeSort fun x y => !(Go.Proofs.ltOf cmpF y x)).toArray = d1 at *
        generalize (l.filter okF).length = n5 at *
        clear hd1 hsz5
        have HO2 : Hid (∀ W, FBlk W g cap d1 → Calls Try.prog 69 #[.slice (some ⟨g, 0, none⟩) n5 cap] W (CompPost g cap d1 W)) := Lib.hid (fun W hW => by have := compactF_any g cap d1 W hW (by rw [HLS.out]; omega); rwa [HLS.out] at this)
        unfold maxLen at hmx
        go_wp2_with fail
        refine HSO.out.mono ?_
        rintro e w2 ⟨rfl, hf2, hb2⟩
        have HB2 := Lib.hid (HBE.out.trans hb2)
        have HF2 := Lib.hid hf2
        clear hf2 hb2
        go_wp2_with fail
        refine (HO2.out _ HF2.out).mono ?_
        rintro e w3 ⟨rfl, hf3, hb3⟩
        rw [HOF.out] at hf3 ⊢
        have HF3 := Lib.hid hf3
        have HB3 := Lib.hid (HB2.out.trans (hb3.mono hg))
        have HLE : Hid ((ofL l).length ≤ cap) := Lib.hid (by
          have h5 : (Go.Lib.compactUpTo d1 d1.size).length ≤ d1.size := by
            unfold Go.Lib.compactUpTo
            rw [List.length_map]
            exact Nat.le_trans (List.length_filter_le _ _) (by simp)
          rw [HOF.out, HLS.out] at h5; omega)
        clear hf3 hb3
        generalize hll2 : (ofL l).length = n6 at *
        have HL6 := Lib.hid hll2; clear hll2
        go_wp2_with fail
        go_ret
        exact ⟨_, _, by rw [HL6.out]; rfl, by rw [HL6.out]; exact HLE.out, by unfold maxLen; omega, HF3.out, HB3.out⟩
end Go.Proofs.Ytnaiflokmihmeaa

namespace Go.Proofs.Ytnaiflokmihmeaa
open Go.RowKit
set_option linter.unusedVariables false
set_option linter.unusedSimpArgs false

theorem FactsAt.of_blk {w : World} {g : Nat} {t : TypeId} {cs : Array Value} {ss : List Ft} (h : Blk w g t cs) (hc : cs.toList = cellsF ss) : FactsAt w w.heap.size (some ⟨g, 0, none⟩) ss := by
  intro k s hk
  refine ⟨g, 0, rfl, h.lt, fun j v hj => ?_⟩
  rw [h.cell, Nat.zero_add, ← Array.getElem?_toList, hc]
  exact cellsF_get hk hj
theorem ofL_three : ofL [⟨5, 1, 0⟩, ⟨1, 0, 0⟩, ⟨1, 0, 0⟩] = [⟨1, 0, 0⟩, ⟨5, 1, 0⟩] := by
  refine ofL_is ?_ ?_
  · unfold Asc; decide
  · intro x
    constructor
    · intro h
      simp at h
      rcases h with rfl | rfl <;> decide
    · intro h
      obtain ⟨h, _⟩ := h
      simp at h ⊢
      rcases h with rfl | rfl <;> simp
set_option maxHeartbeats 2000000 in
set_option maxRecDepth 20000 in
theorem facted_any (w : World) : Calls Try.prog 23 #[] w fun e w' => e = .returned (.bool true) ∧ Below w.heap.size w w' := by
  obtain ⟨w1, hw1⟩ : ∃ w1, w.alloc (.cells #[.int .i64 5, .int .i64 1, .int .i64 0, .int .i64 1, .int .i64 0, .int .i64 0, .int .i64 1, .int .i64 0, .int .i64 0] 45) = w1 := ⟨_, rfl⟩
  have hb1 : Below w.heap.size w w1 := by rw [← hw1]; exact (Below.refl _ _).alloc (Nat.le_refl _) _
  have hF : FactsAt w1 w1.heap.size (some ⟨w.heap.size, 0, none⟩) [⟨5, 1, 0⟩, ⟨1, 0, 0⟩, ⟨1, 0, 0⟩] := by rw [← hw1]; exact FactsAt.of_blk (Blk.new _ _ _) rfl
  have HO := Lib.hid (of_any _ (some ⟨w.heap.size, 0, none⟩) 3 3 w1 rfl (by omega) hF)
  unfold OfPost at HO
  rw [ofL_three] at HO
  go_enter Try.func23, Try.ntmps23
  go_wp2_with fail
  refine HO.out.mono ?_
  rintro e w2 ⟨A, c, rfl, hlc, hcm, hf2, hb2⟩
  have HB2 := Lib.hid (hb1.trans (hb2.mono hb1.size))
  have HF3 := Lib.hid (hf2.next ((Below.refl w2.heap.size w2).alloc (Nat.le_refl _) (.cells #[.int .i64 1, .int .i64 0, .int .i64 0, .int .i64 5, .int .i64 1, .int .i64 0] 45)))
  have HG3 : Hid (FactsAt _ _ _ [⟨1, 0, 0⟩, ⟨5, 1, 0⟩]) := Lib.hid (FactsAt.of_blk (Blk.new w2 45 #[.int .i64 1, .int .i64 0, .int .i64 0, .int .i64 5, .int .i64 1, .int .i64 0]) rfl)
  have HB3 := Lib.hid (HB2.out.alloc HB2.out.size (.cells #[.int .i64 1, .int .i64 0, .int .i64 0, .int .i64 5, .int .i64 1, .int .i64 0] 45))
  unfold maxLen at hcm
  clear hf2 hb2 hw1 hF HO
  go_wp2_with fail
  refine (equalG_any [⟨1, 0, 0⟩, ⟨5, 1, 0⟩] A (some ⟨w2.heap.size, 0, none⟩) 2 c 2 _ rfl (by omega) HF3.out HG3.out).mono ?_
  rintro e w4 ⟨rfl, hb4⟩
  have HB4 := Lib.hid (HB3.out.trans (hb4.mono HB3.out.size))
  go_wp2_with fail
  go_ret
  exact ⟨rfl, HB4.out⟩
end Go.Proofs.Ytnaiflokmihmeaa

