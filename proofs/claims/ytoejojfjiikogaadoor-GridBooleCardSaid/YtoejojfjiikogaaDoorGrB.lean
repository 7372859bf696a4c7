/- Cells: package grid's sorted, Join, has. -/
import Derived.Test.YtoejojfjiikogaaDoorGrP
import Derived.Test.YtoejojfjiikogaaDoorGrX
import Derived.OwnWalk

namespace Go.Proofs.YtoejojfjiikogaaDoor
open Go.RowKit
set_option linter.unusedVariables false
set_option linter.unusedSimpArgs false

theorem compactF_nil (p : Option Addr) (c : Nat) (w : World) : Calls Tryd.prog 96 #[.slice p 0 c] w fun e w' => e = .returned (.slice p 0 c) ∧ w' = w := by
  go_enter Tryd.func96, Tryd.ntmps96
  go_wp2_with fail
  go_ret
  exact ⟨rfl, rfl⟩
def SortPost (l : List Ft) (w : World) (e : Ending) (w' : World) : Prop := ∃ v, e = .returned v ∧ FOwn w.heap.size v (ofL l) w' ∧ Below w.heap.size w w'
set_option maxHeartbeats 2000000 in
set_option maxRecDepth 20000 in
/-- grid.sorted: what slices.Concat gives, sorted, each cell once -/
theorem sorted_any (V : Value) (l : List Ft) (w : World) (hlen : l.length ≤ 4000000)
    (hc : Calls Tryd.prog 95 #[V] w fun e w' => ∃ v, e = .returned v ∧ FRow w v l w') :
    Calls Tryd.prog 55 #[V] w (SortPost l w) := by
  have HC := Lib.hid hc; clear hc
  have HLE := Lib.hid hlen; clear hlen
  go_enter Tryd.func55, Tryd.ntmps55
  go_wp2_with fail
  refine HC.out.mono ?_
  rintro e w1 ⟨v, rfl, hr⟩
  have HBE := Lib.hid hr.bel
  rcases hr.own with ⟨rfl, hnl⟩ | ⟨g, cap, rfl, hg, hm, hb⟩
  · have HNL := Lib.hid hnl
    clear hr hnl HC
    go_wp2_with (first | (go_at_call 53; refine (sortF_none _ _ _ _).mono ?_; rintro e w2 ⟨rfl, rfl⟩) | (go_at_call 96; refine (compactF_nil _ _ _).mono ?_; rintro e w3 ⟨rfl, rfl⟩))
    go_ret
    exact ⟨_, rfl, .inl ⟨rfl, by rw [HNL.out]; exact ofL_nil⟩, HBE.out⟩
  · have HG := Lib.hid hg
    have HM := Lib.hid hm
    have HSO := Lib.hid (sortF_any g cap cap l.toArray w1 w.heap.size hg hb (by have := HLE.out; simp; omega))
    have hsz5 : l.toArray.size = l.length := by simp
    rw [hsz5] at HSO
    have HOF : Hid (Go.Lib.compactUpTo (srtL l).toArray (srtL l).toArray.size = ofL l) := Lib.hid (by unfold ofL Go.Lib.compact; simp)
    have HLS : Hid ((srtL l).toArray.size = l.length) := Lib.hid (by simp [srtL_length])
    clear hr hg hm hb HC hsz5
    show _
    simp only [] at HSO
    generalize (srtL l).toArray = d1 at *
    generalize hn5 : l.length = n5 at *
    have HN5 := Lib.hid hn5; clear hn5
    have HO2 : Hid (∀ W, FBlk W g cap d1 → Calls Tryd.prog 96 #[.slice (some ⟨g, 0, none⟩) n5 cap] W (CompPost g cap d1 W)) := Lib.hid (fun W hW => by have := compactF_any g cap d1 W hW (by have := HLE.out; rw [HLS.out]; omega); rwa [HLS.out] at this)
    go_wp2_with fail
    refine HSO.out.mono ?_
    rintro e w2 ⟨rfl, hf2, hb2⟩
    have HB2 := Lib.hid (HBE.out.trans hb2)
    have HF2 := Lib.hid hf2
    clear hf2 hb2
    go_wp2_with fail
    refine (HO2.out _ HF2.out).mono ?_
    rintro e w3 ⟨rfl, hf3, hb3⟩
    rw [HOF.out] at hf3 ⊢
    have HF3 := Lib.hid hf3
    have HB3 := Lib.hid (HB2.out.trans (hb3.mono HG.out))
    clear hf3 hb3
    generalize hll2 : (ofL l).length = n6 at *
    have HL6 := Lib.hid hll2; clear hll2
    go_wp2_with fail
    go_ret
    exact ⟨_, rfl, .inr ⟨g, cap, by rw [HL6.out]; rfl, HG.out, HM.out, HF3.out⟩, HB3.out⟩
/-- v is a slice that holds l -/
def Fs (v : Value) (l : List Ft) (w : World) : Prop := ∃ A c, v = .slice A l.length c ∧ l.length ≤ c ∧ c ≤ maxLen ∧ FactsAt w w.heap.size A l
theorem Fs.next {v : Value} {l : List Ft} {w w' : World} (h : Fs v l w) (hb : Below w.heap.size w w') : Fs v l w' := by
  obtain ⟨A, c, h1, h2, h3, h4⟩ := h
  exact ⟨A, c, h1, h2, h3, h4.next hb⟩
def FsPost (l : List Ft) (w : World) (e : Ending) (w' : World) : Prop := ∃ v, e = .returned v ∧ Fs v l w' ∧ Below w.heap.size w w'
set_option maxHeartbeats 2000000 in
set_option maxRecDepth 20000 in
theorem gjoin_any (la lb : List Ft) (va vb : Value) (w : World) (hA : Fs va la w) (hB : Fs vb lb w) (hs : la.length ≤ 1000) (hs2 : lb.length ≤ 1000) :
    Calls Tryd.prog 21 #[va, vb] w (FsPost (joinL la lb) w) := by
  obtain ⟨A, ca, rfl, hca, hma, hA⟩ := hA
  obtain ⟨B, cb, rfl, hcb, hmb, hB⟩ := hB
  have hb0 : Below w.heap.size w (w.alloc (.cells #[.slice A la.length ca, .slice B lb.length cb] 56)) := (Below.refl _ _).alloc (Nat.le_refl _) _
  have HC := Lib.hid (sorted_any _ (la ++ lb) _ (by rw [List.length_append]; omega) (concatF_any la lb A B _ _ ca cb w.heap.size _ rfl rfl (by omega) (by omega) (hA.next hb0) (hB.next hb0) (Blk.new w _ _)))
  have HB0 := Lib.hid hb0
  clear hb0 hA hB hca hma hcb hmb
  unfold SortPost at HC
  unfold FsPost joinL
  generalize la.length = n at *
  generalize lb.length = m at *
  generalize ofL (la ++ lb) = lab at *
  go_enter Tryd.func21, Tryd.ntmps21
  go_wp2_with fail
  refine HC.out.mono ?_
  rintro e w1 ⟨v, rfl, hr, hb1⟩
  have HR := Lib.hid hr.facts
  have HB1 := Lib.hid (HB0.out.trans (hb1.mono HB0.out.size))
  clear hr hb1
  go_wp2_with fail
  go_ret
  exact ⟨_, rfl, HR.out, HB1.out⟩
set_option maxHeartbeats 4000000 in
set_option maxRecDepth 20000 in
/-- slices.Concat of one slice -/
theorem concat1_any (la : List Ft) (A : Option Addr) (n ca g : Nat) (w : World) (hn : n = la.length) (hs : n ≤ 1100000)
    (hA : FactsAt w w.heap.size A la) (hg : Blk w g 56 #[.slice A n ca]) :
    Calls Tryd.prog 95 #[.slice (some ⟨g, 0, none⟩) 1 1] w fun e w' => ∃ v, e = .returned v ∧ FRow w v la w' := by
  have HA := Lib.hid hA.reads
  rw [← hn] at HA
  have HN := Lib.hid hn
  have hlt := hg.lt
  have HGR := Lib.hid (fun W => growF_any n W (by omega))
  have k0 := hg.cell 0
  simp at k0
  clear hg hA hn
  have hw1 := i64_w (n : Int) (by omega) (by omega)
  go_enter Tryd.func95, Tryd.ntmps95
  go_wp2_with fail
  go_loop [3, 11] (fun s i => (s = .int .i64 0 ∧ i = .int .i64 0) ∨ (s = .int .i64 (n : Int) ∧ i = .int .i64 1)) (fun s i => 1 - (intOf i).toNat)
  case atStart => exact .inl ⟨rfl, rfl⟩
  case round =>
    rcases hrel with ⟨rfl, rfl⟩ | ⟨rfl, rfl⟩
    · go_wp2_with fail
      go_round
      case rel => exact .inr ⟨by go_num, rfl⟩
      case measure => simp [intOf]
    · go_wp2_with fail
      refine (HGR.out w).mono ?_
      rintro e w1 ⟨v1, rfl, hr1⟩
      have HR1 := Lib.hid hr1; clear hr1
      go_wp2_with fail
      go_loopg [6, 27] 1 (fun kx v i wr => (kx = 1 ∧ i = .int .i64 0 ∧ Hid (FRow w v [] wr)) ∨ (kx = 0 ∧ i = .int .i64 1 ∧ Hid (FRow w v la wr)))
      case atStart => exact .inl ⟨rfl, rfl, HR1.out⟩
      case round =>
        rcases hrel with ⟨rfl, rfl, hr⟩ | ⟨rfl, rfl, hr⟩
        · have c0 := (hr.out.bel.cell (p := ⟨g, 0, none⟩) hlt).trans k0
          clear k0
          go_wp2_with (at_builtin; refine wpList_append_row rfl _ _ _ rfl Tryd.underlying56 infoFt rfl rfl (hr.out.row rfl) rfl rfl (HA.out.below hr.out.bel) (cellsF_oneCell la) (by simp; omega) ?_; intro v2 w2 hr2 hb2)
          have HR2 : Hid (FRow w v2 la w2) := Lib.hid (by unfold FRow; rw [← HN.out]; simpa [cellsF] using hr2)
          clear hr2
          go_roundg 0
          case measure => omega
          case rel => exact .inr ⟨rfl, rfl, HR2.out⟩
        · go_wp2_with fail
          go_ret
          exact ⟨_, rfl, hr.out⟩
/-- grid.sorted of one slice, boxed at block g -/
theorem sorted1_any (la : List Ft) (A : Option Addr) (n ca g : Nat) (w : World) (hn : n = la.length) (hs : n ≤ 1000) (hA : FactsAt w w.heap.size A la) (hg : Blk w g 56 #[.slice A n ca]) :
    Calls Tryd.prog 55 #[.slice (some ⟨g, 0, none⟩) 1 1] w (SortPost la w) :=
  sorted_any _ la _ (by omega) (concat1_any la A n ca g w hn (by omega) hA hg)
end Go.Proofs.YtoejojfjiikogaaDoor
