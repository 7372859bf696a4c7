/- Cells: grid.Check of a valid set (printed by gridp.py). -/
import Derived.Test.YtoejojfjiikogaaGreatDoorGrH

namespace Go.Proofs.YtoejojfjiikogaaGreatDoor
open Go.RowKit
set_option linter.unusedVariables false
set_option linter.unusedSimpArgs false

set_option maxHeartbeats 1000000 in
theorem on_yes (x : Int) (w : World) (h1 : -64 ≤ x) (h2 : x < 64) : Calls Tryz.prog 38 #[.int .i64 x] w fun e w' => e = .returned (.bool true) ∧ w' = w := by
  have e1 : decide (x ≥ -64) = true := decide_eq_true h1
  have e2 : decide (x < 64) = true := decide_eq_true h2
  go_enter Tryz.func38, Tryz.ntmps38
  go_wp2_with fail
  go_ret
  exact ⟨by first | rfl | (congr 2; simp; omega) | simp_all, rfl⟩
def onL (c : Ft) : Prop := -64 ≤ c.x ∧ c.x < 64 ∧ -64 ≤ c.y ∧ c.y < 64
set_option maxHeartbeats 4000000 in
set_option maxRecDepth 20000 in
theorem check_ok (xs : List Ft) (hx : Asc xs) (ho : ∀ c ∈ xs, onL c) (A : Option Addr) (n cap : Nat) (w : World) (hn : n = xs.length) (hs : n ≤ 400) (h : FactsAt w w.heap.size A xs) :
    Calls Tryz.prog 10 #[.slice A n cap] w fun e w' => e = .returned (.int .i64 0) ∧ Below w.heap.size w w' := by
  have HN := Lib.hid hn; clear hn
  have HX := Lib.hid hx; clear hx
  have HO := Lib.hid ho; clear ho
  have H := Lib.hid h; clear h
  go_enter Tryz.func10, Tryz.ntmps10
  go_wp2_with fail
  go_loopg [10] n (fun kx s10 wr => ∃ j : Nat, kx = n - j ∧ j ≤ n ∧ s10 = .int .i64 j ∧ Hid (Below w.heap.size w wr))
  case atStart => exact ⟨0, by omega, Nat.zero_le _, rfl, Lib.hid (Below.refl _ _)⟩
  case round =>
    obtain ⟨j, hgk, hjn, rfl, hbel⟩ := hrel
    have HGK := Lib.hid hgk; clear hgk
    by_cases hlt : j < n
    · obtain ⟨⟨fx, fy⟩, hf⟩ := get_of_lt HN.out hlt
      obtain ⟨b, off, rfl, hb, h0, h1⟩ := H.out.two hf
      dsimp only at h0 h1
      have HF := Lib.hid hf; clear hf
      obtain ⟨o1, o2, o3, o4⟩ := HO.out _ (List.mem_of_getElem? HF.out)
      dsimp only at o1 o2 o3 o4
      have HON1 := Lib.hid (fun W => on_yes fx W o1 o2)
      have HON2 := Lib.hid (fun W => on_yes fy W o3 o4)
      clear o1 o2 o3 o4
      have g0 := (hbel.out.cell (p := ⟨b, off + j*2, none⟩) hb).trans h0
      have g1 := (hbel.out.cell (p := ⟨b, off + j*2+1, none⟩) hb).trans h1
      clear h0 h1
      have i1 : (0 : Int) ≤ (j : Int) := by omega
      have i2 : (j : Int) < (n : Int) := by omega
      go_upto_region 6 with (fail)
      clear g0 g1
      have HS1 : Hid (St w [(wr.heap.size, 36, #[.int .i64 fx, .int .i64 fy])] (wr.alloc (.cells #[.int .i64 fx, .int .i64 fy] 36))) := Lib.hid ((St.begin hbel.out).box _ _)
      generalize wr.heap.size = p at *
      generalize World.alloc wr _ = w1 at *
      have k0 := (HS1.out.blk _ List.mem_cons_self).2.cell 0
      have k1 := (HS1.out.blk _ List.mem_cons_self).2.cell 1
      simp at k0 k1
      go_upto_region 8 with (first | (go_at_call 38; first | (refine (HON1.out _).mono ?_; rintro e w2 ⟨rfl, hw⟩; rw [hw]; clear hw) | (refine (HON2.out _).mono ?_; rintro e w2 ⟨rfl, hw⟩; rw [hw]; clear hw)) | fail)
      have hltp : p < w1.heap.size := (HS1.out.blk _ List.mem_cons_self).2.lt
      rcases j with _ | q
      · have i3 : decide ((0 : Int) > 0) = false := by decide
        refine wp_seq [] (by kernel_rfl) (by kernel_rfl) Reg.fin_no (StR.no (St.start (W := w1))) ?_
        refine Seq.pure rfl rfl (by intro w; go_simp; try first | with_reducible rfl | rfl) ?_
        simp only [Act.put, List.setIfInBounds_toArray, List.set_cons_zero, List.set_cons_succ]
        refine Seq.pure rfl rfl (by intro w; go_simp; try first | with_reducible rfl | rfl) ?_
        simp only [Act.put, List.setIfInBounds_toArray, List.set_cons_zero, List.set_cons_succ]
        refine Seq.pure rfl rfl (by intro w; go_simp; try first | with_reducible rfl | rfl) ?_
        simp only [Act.put, List.setIfInBounds_toArray, List.set_cons_zero, List.set_cons_succ]
        refine Seq.nw (by kernel_rfl) ?_
        simp only [Act.put, List.setIfInBounds_toArray, List.set_cons_zero, List.set_cons_succ]
        refine Seq.nw (by kernel_rfl) ?_
        simp only [Act.put, List.setIfInBounds_toArray, List.set_cons_zero, List.set_cons_succ]
        refine Seq.nw (by kernel_rfl) ?_
        simp only [Act.put, List.setIfInBounds_toArray, List.set_cons_zero, List.set_cons_succ]
        refine Seq.nw (by kernel_rfl) ?_
        simp only [Act.put, List.setIfInBounds_toArray, List.set_cons_zero, List.set_cons_succ]
        refine Seq.nw (by kernel_rfl) ?_
        simp only [Act.put, List.setIfInBounds_toArray, List.set_cons_zero, List.set_cons_succ]
        refine Seq.nw (by kernel_rfl) ?_
        simp only [Act.put, List.setIfInBounds_toArray, List.set_cons_zero, List.set_cons_succ]
        refine Seq.nw (by kernel_rfl) ?_
        simp only [Act.put, List.setIfInBounds_toArray, List.set_cons_zero, List.set_cons_succ]
        refine Seq.nw (by kernel_rfl) ?_
        simp only [Act.put, List.setIfInBounds_toArray, List.set_cons_zero, List.set_cons_succ]
        refine Seq.pure rfl rfl (by intro w; go_simp; try first | with_reducible rfl | rfl) ?_
        simp only [Act.put, List.setIfInBounds_toArray, List.set_cons_zero, List.set_cons_succ]
        refine Seq.done fun wz hws => ?_
        have HBZ := Lib.hid (HS1.out.below.trans (hws.st.below.mono HS1.out.below.size))
        clear hws
        go_wp2_with fail
        go_roundg (n - 1)
        case measure => rw [HGK.out]; omega
        case rel => exact ⟨1, rfl, hlt, by go_num, HBZ⟩
      · obtain ⟨⟨ex, ey⟩, he⟩ := get_of_lt (k := q) HN.out (by omega)
        obtain ⟨b', off', hA', hb', e0', e1'⟩ := H.out.two he
        cases hA'
        dsimp only at e0' e1'
        have HLT : Hid (decide (cmpF ⟨ex, ey⟩ ⟨fx, fy⟩ ≥ 0) = false) := Lib.hid (by
          have h1 := cmpF_neg ⟨ex, ey⟩ ⟨fx, fy⟩
          rw [decide_eq_true (asc_at HX.out he HF.out (by omega))] at h1
          have h2 : cmpF ⟨ex, ey⟩ ⟨fx, fy⟩ < 0 := by simpa using h1
          exact decide_eq_false (by omega))
        have hltb : b < w1.heap.size := Nat.lt_of_lt_of_le hb' HS1.out.below.size
        have e0 := (HS1.out.below.cell (p := ⟨b, off + q*2, none⟩) hb').trans e0'
        have e1 := (HS1.out.below.cell (p := ⟨b, off + q*2+1, none⟩) hb').trans e1'
        have HC := Lib.hid (fun W => cmpF_any ⟨ex, ey⟩ ⟨fx, fy⟩ W)
        unfold valF at HC
        dsimp only at HC
        generalize cmpF ⟨ex, ey⟩ ⟨fx, fy⟩ = cv at *
        clear he e0' e1'
        have hq1 := i64_w (q : Int) (by omega) (by omega)
        have i1 : (0 : Int) ≤ (q : Int) := by omega
        have i2 : (q : Int) < (n : Int) := by omega
        have i3 : (0 : Int) < (q : Int) + 1 := by omega
        have i4 : decide ((q : Int) + 1 > 0) = true := decide_eq_true i3
        have hcv := HLT.out
        refine wp_seq [] (by kernel_rfl) (by kernel_rfl) Reg.fin_no (StR.no (St.start (W := w1))) ?_
        refine Seq.pure rfl rfl (by intro w; go_simp; try first | with_reducible rfl | rfl) ?_
        simp only [Act.put, List.setIfInBounds_toArray, List.set_cons_zero, List.set_cons_succ]
        refine Seq.pure rfl rfl (by intro w; go_simp; try first | with_reducible rfl | rfl) ?_
        simp only [Act.put, List.setIfInBounds_toArray, List.set_cons_zero, List.set_cons_succ]
        refine Seq.pure rfl rfl (by intro w; go_simp; try first | with_reducible rfl | rfl) ?_
        simp only [Act.put, List.setIfInBounds_toArray, List.set_cons_zero, List.set_cons_succ]
        refine Seq.pure rfl rfl (by intro w; go_simp; try first | with_reducible rfl | rfl) ?_
        simp only [Act.put, List.setIfInBounds_toArray, List.set_cons_zero, List.set_cons_succ]
        refine Seq.pure rfl rfl (by intro w; go_simp; try first | with_reducible rfl | rfl) ?_
        simp only [Act.put, List.setIfInBounds_toArray, List.set_cons_zero, List.set_cons_succ]
        refine Seq.pure rfl rfl (by intro w; go_simp; try first | with_reducible rfl | rfl) ?_
        simp only [Act.put, List.setIfInBounds_toArray, List.set_cons_zero, List.set_cons_succ]
        refine Seq.pure rfl rfl (by intro w; go_simp; try first | with_reducible rfl | rfl) ?_
        simp only [Act.put, List.setIfInBounds_toArray, List.set_cons_zero, List.set_cons_succ]
        refine Seq.look (v := .agg #[.int .i64 ex, .int .i64 ey]) rfl rfl (by intro w hs; have q0 := (hs.below.cell (p := ⟨b, off + q*2, none⟩) hltb).trans e0; have q1 := (hs.below.cell (p := ⟨b, off + q*2+1, none⟩) hltb).trans e1; go_simp; done) ?_
        simp only [Act.put, List.setIfInBounds_toArray, List.set_cons_zero, List.set_cons_succ]
        refine Seq.look (v := .agg #[.int .i64 fx, .int .i64 fy]) rfl rfl (by intro w hs; have q0 := (hs.below.cell (p := ⟨p, 0, none⟩) hltp).trans k0; have q1 := (hs.below.cell (p := ⟨p, 1, none⟩) hltp).trans k1; go_simp; done) ?_
        simp only [Act.put, List.setIfInBounds_toArray, List.set_cons_zero, List.set_cons_succ]
        refine Seq.call rfl rfl rfl rfl (by kernel_rfl) (fun w h => HC.out w) ?_
        simp only [Act.put, List.setIfInBounds_toArray, List.set_cons_zero, List.set_cons_succ]
        refine Seq.pure rfl rfl (by intro w; go_simp; try first | with_reducible rfl | rfl) ?_
        simp only [Act.put, List.setIfInBounds_toArray, List.set_cons_zero, List.set_cons_succ]
        refine Seq.pure rfl rfl (by intro w; go_simp; try first | with_reducible rfl | rfl) ?_
        simp only [Act.put, List.setIfInBounds_toArray, List.set_cons_zero, List.set_cons_succ]
        refine Seq.done fun wz hws => ?_
        have HBZ := Lib.hid (HS1.out.below.trans (hws.st.below.mono HS1.out.below.size))
        clear hws
        go_wp2_with fail
        go_roundg (n - (q + 1 + 1))
        case measure => rw [HGK.out]; omega
        case rel => exact ⟨q + 1 + 1, rfl, hlt, by go_num, HBZ⟩
    · obtain rfl : j = n := by omega
      go_wp2_with fail
      go_ret
      exact ⟨rfl, hbel.out⟩
end Go.Proofs.YtoejojfjiikogaaGreatDoor
