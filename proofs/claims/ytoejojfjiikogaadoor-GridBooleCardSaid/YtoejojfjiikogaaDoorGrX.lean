/- Cells: slices.Grow, slices.Concat. -/
import Derived.Test.YtoejojfjiikogaaDoorGrG
import Derived.Lib.AppendZerosOnto
import Derived.Lib.AppendZeros

namespace Go.Proofs.YtoejojfjiikogaaDoor
open Go.RowKit
set_option linter.unusedVariables false
set_option linter.unusedSimpArgs false

theorem cellsF_oneCell (xs : List Ft) : ∀ u ∈ cellsF xs, u.oneCell' = true := by
  intro u hu
  obtain ⟨x, _, hx⟩ := List.mem_flatMap.1 hu
  simp [valG] at hx
  rcases hx with rfl | rfl <;> rfl
theorem FactsAt.reads {w : World} {B : Nat} {A : Option Addr} {xs : List Ft} (h : FactsAt w B A xs) : Reads w B 2 A xs.length (cellsF xs) := by
  refine ⟨by rw [cellsF_length], fun hn => ?_⟩
  obtain ⟨u0, hu0⟩ := get_of_lt rfl hn
  obtain ⟨b, off, hA, hb, _⟩ := h 0 u0 hu0
  refine ⟨_, hA, hb, fun j v hv => ?_⟩
  have hjl : j < xs.length*2 := by have := (List.getElem?_eq_some_iff.1 hv).1; rwa [cellsF_length] at this
  obtain ⟨u, hu⟩ := get_of_lt (k := j / 2) (l := xs) rfl (by omega)
  obtain ⟨b', off', hA', _, hc⟩ := h _ u hu
  rw [hA] at hA'; cases hA'
  have hm : j % 2 < (valG u).length := by simp [valG]; omega
  have hg := cellsF_get hu (List.getElem?_eq_getElem hm)
  rw [show j / 2*2 + j % 2 = j by omega] at hg
  rw [hv] at hg
  have := hc (j % 2) v (by rw [List.getElem?_eq_getElem hm]; exact hg.symm)
  rw [Addr.add_lit]
  rwa [show j / 2*2 + j % 2 = j by omega] at this
theorem size_zeroCells (z : Array Value) (k : Nat) : (Builtin.zeroCells z k).size = k * z.size := by simp [Builtin.zeroCells]
set_option maxHeartbeats 2000000 in
set_option maxRecDepth 20000 in
/-- slices.Grow of the nil slice -/
theorem growF_any (n : Nat) (w : World) (hn : n ≤ 4000000) : Calls Tryd.prog 123 #[.slice none 0 0, .int .i64 n] w fun e w' => ∃ v, e = .returned v ∧ FRow w v [] w' := by
  by_cases h0 : n = 0
  · subst h0
    go_enter Tryd.func123, Tryd.ntmps123
    go_wp2_with fail
    go_ret
    exact ⟨_, rfl, FRow.nil (Below.refl _ _)⟩
  · obtain ⟨i0, hi0, hz0, hz1, hz2⟩ := info_parts infoFt
    have h1 : (0 : Int) < (n : Int) := by omega
    have hrz : ∀ ty, (Builtin.append_ #[56, 3] ty #[.slice none 0 0, .int .i64 (n : Int)]).run Tryd.prog w = _ := fun ty =>
      Lib.run_append_grow_zeros w 56 3 ty 60 i0 _ .i64 .i64 Tryd.underlying56 Tryd.underlying3 hi0 hz0 none 0 0 [] (run_firstCells_none w.drew i0.size 0 0 0) n (by omega) (by rw [hz1]; omega) (by omega) (by omega) (by rw [hz2]; omega) (by rw [hz2]; exact growslice_fits (by omega) (by omega))
    simp only [Nat.zero_add] at hrz
    have hge := grownCap_ge w n 0 60
    have hle := grownCap_le_maxLen w n 0 60 (by unfold maxLen; omega)
    generalize grownCap w n 0 60 = G at *
    obtain ⟨cs, hcs⟩ : ∃ cs, cs = (([] : List Value).toArray ++ Builtin.zeroCells (Value.agg #[.int .i64 0, .int .i64 0]).cells n) ++ Builtin.zeroCells (Value.agg #[.int .i64 0, .int .i64 0]).cells (G - n) := ⟨_, rfl⟩
    rw [← hcs] at hrz
    have HR : Hid (FRow w (.slice (some ⟨w.heap.size, 0, none⟩) 0 G) [] ((w.alloc (.cells cs 60)).drew)) := Lib.hid (by
      refine ⟨((Below.refl _ _).alloc (Nat.le_refl _) _).drew, fun r hr => ?_, List.pairwise_singleton _ _⟩
      simp at hr; subst hr
      refine ⟨rfl, .inr ⟨w.heap.size, G, cs, rfl, Nat.le_refl _, Blk.new w _ _, Nat.zero_le _, hle, ?_, by simp [cellsF]⟩⟩
      rw [hcs]
      simp [size_zeroCells, Value.cells]
      omega)
    clear hcs
    unfold maxLen at hle
    have hw0 := i64_w ((n : Int) - 0) (by omega) (by omega)
    go_enter Tryd.func123, Tryd.ntmps123
    go_wp2_with (at_builtin; refine Lib.wpList_append_run _ rfl _ _ _ _ rfl _ _ rfl rfl _ _ (hrz _) ?_)
    go_ret
    exact ⟨_, rfl, HR.out⟩

set_option maxHeartbeats 4000000 in
set_option maxRecDepth 20000 in
/-- slices.Concat of two slices -/
theorem concatF_any (la lb : List Ft) (A B : Option Addr) (n m ca cb g : Nat) (w : World) (hn : n = la.length) (hm : m = lb.length) (hs : n ≤ 1100000) (hs2 : m ≤ 1100000)
    (hA : FactsAt w w.heap.size A la) (hB : FactsAt w w.heap.size B lb) (hg : Blk w g 56 #[.slice A n ca, .slice B m cb]) :
    Calls Tryd.prog 95 #[.slice (some ⟨g, 0, none⟩) 2 2] w fun e w' => ∃ v, e = .returned v ∧ FRow w v (la ++ lb) w' := by
  have HA := Lib.hid hA.reads
  have HB := Lib.hid hB.reads
  rw [← hn] at HA
  rw [← hm] at HB
  have HN := Lib.hid hn
  have HM := Lib.hid hm
  have hlt := hg.lt
  have HG := Lib.hid hg
  have HGR := Lib.hid (fun W => growF_any (n + m) W (by omega))
  have k0 := hg.cell 0
  have k1 := hg.cell 1
  simp at k0 k1
  clear hg hA hB hn hm
  have hw1 := i64_w ((n : Int) + (m : Int)) (by omega) (by omega)
  go_enter Tryd.func95, Tryd.ntmps95
  go_wp2_with fail
  go_loop [3, 11] (fun s i => (s = .int .i64 0 ∧ i = .int .i64 0) ∨ (s = .int .i64 (n : Int) ∧ i = .int .i64 1) ∨ (s = .int .i64 ((n : Int) + (m : Int)) ∧ i = .int .i64 2)) (fun s i => 2 - (intOf i).toNat)
  case atStart => exact .inl ⟨rfl, rfl⟩
  case round =>
    rcases hrel with ⟨rfl, rfl⟩ | ⟨rfl, rfl⟩ | ⟨rfl, rfl⟩
    · go_wp2_with fail
      go_round
      case rel => exact .inr (.inl ⟨by go_num, rfl⟩)
      case measure => simp [intOf]
    · go_wp2_with fail
      go_round
      case rel => exact .inr (.inr ⟨by go_num, rfl⟩)
      case measure => simp [intOf]
    · go_wp2_with fail
      have HG1 := Lib.hid (HGR.out w)
      rw [Int.natCast_add] at HG1
      refine HG1.out.mono ?_
      rintro e w1 ⟨v1, rfl, hr1⟩
      have HR1 := Lib.hid hr1; clear hr1
      go_wp2_with fail
      go_loopg [6, 27] 2 (fun kx v i wr => (kx = 2 ∧ i = .int .i64 0 ∧ Hid (FRow w v [] wr)) ∨ (kx = 1 ∧ i = .int .i64 1 ∧ Hid (FRow w v la wr)) ∨ (kx = 0 ∧ i = .int .i64 2 ∧ Hid (FRow w v (la ++ lb) wr)))
      case atStart => exact .inl ⟨rfl, rfl, HR1.out⟩
      case round =>
        rcases hrel with ⟨rfl, rfl, hr⟩ | ⟨rfl, rfl, hr⟩ | ⟨rfl, rfl, hr⟩
        · have c0 := (hr.out.bel.cell (p := ⟨g, 0, none⟩) hlt).trans k0
          clear k0 k1
          go_wp2_with (at_builtin; refine wpList_append_row rfl _ _ _ rfl Tryd.underlying56 infoFt rfl rfl (hr.out.row rfl) rfl rfl (HA.out.below hr.out.bel) (cellsF_oneCell la) (by simp; omega) ?_; intro v2 w2 hr2 hb2)
          have HR2 : Hid (FRow w v2 la w2) := Lib.hid (by unfold FRow; rw [← HN.out]; simpa [cellsF] using hr2)
          clear hr2
          go_roundg 1
          case measure => omega
          case rel => exact .inr (.inl ⟨rfl, rfl, HR2.out⟩)
        · have c1 := (hr.out.bel.cell (p := ⟨g, 1, none⟩) hlt).trans k1
          clear k0 k1
          go_wp2_with (at_builtin; refine wpList_append_row rfl _ _ _ rfl Tryd.underlying56 infoFt rfl rfl (hr.out.row HN.out.symm) rfl rfl (HB.out.below hr.out.bel) (cellsF_oneCell lb) (by omega) ?_; intro v2 w2 hr2 hb2)
          have HR2 : Hid (FRow w v2 (la ++ lb) w2) := Lib.hid (by unfold FRow; rw [cellsF_append, List.length_append, ← HN.out, ← HM.out]; exact hr2)
          clear hr2
          go_roundg 0
          case measure => omega
          case rel => exact .inr (.inr ⟨rfl, rfl, HR2.out⟩)
        · go_wp2_with fail
          go_ret
          exact ⟨_, rfl, hr.out⟩
end Go.Proofs.YtoejojfjiikogaaDoor
