/- gantref4.GoalOf (printed by tyg.py). -/
import Derived.Test.YtekbpiooecdopaaDoorTyH
import Derived.Test.YtekbpiooecdopaaDoorTyN

namespace Go.Proofs.YtekbpiooecdopaaDoor
open Go.RowKit
set_option linter.unusedVariables false
set_option linter.unusedSimpArgs false

set_option maxHeartbeats 32000000 in
set_option maxRecDepth 20000 in
theorem goal_any {K : Wk} {n0 n2 n3 n4 : Nat} {k n : Int} {A B : ByteArray} {t : RT} {X : Option Addr} {nb cb : Nat} {q : Rat} {g : Bool} {y : Rat} {r : (Int × Int × Int × Int) × Int} (w : World) (hT : Tab w) (hk : WkIn w K n0 n2 n3 n4) (hq : RawT 1048576 q g t) (hy : SlotTol K n3 B y) (hA : A.size ≤ 1048576) (hB : B.size ≤ 1048576) (hm : MaxL w) (hr : goalS K k n A B t q g nb y = r) :
    Calls Tryd.prog 7 #[.agg (wkC K n0 n2 n3 n4), .agg (stC k n A B t (.slice X nb cb))] w fun e w' => e = .returned (.tuple #[.agg (gC r.1.1 r.1.2.1 r.1.2.2.1 r.1.2.2.2), .int .i64 r.2]) ∧ Below w.heap.size w w' := by
  have HT := Lib.hid hT; clear hT
  have HK := Lib.hid hk; clear hk
  have HQ := Lib.hid hq; clear hq
  have HY := Lib.hid hy; clear hy
  have HR := Lib.hid hr; clear hr
  have HO := Lib.hid HK.out.ones
  obtain ⟨c, hc⟩ : ∃ c, codeS k n A B t q g nb = c := ⟨_, rfl⟩
  have HC := Lib.hid hc; clear hc
  obtain ⟨⟨ka, kb⟩, hk2⟩ : ∃ p, kindsS k = p := ⟨_, rfl⟩
  have HK2 := Lib.hid hk2; clear hk2
  obtain ⟨⟨ia, ea⟩, hx1⟩ : ∃ p, idxS K ka A = p := ⟨_, rfl⟩
  have HX1 := Lib.hid hx1; clear hx1
  obtain ⟨⟨ib, eb⟩, hx2⟩ : ∃ p, idxS K kb B = p := ⟨_, rfl⟩
  have HX2 := Lib.hid hx2; clear hx2
  obtain ⟨⟨fa1, fa2⟩, hfa⟩ : ∃ p, findR K.L0 K.L2 K.L3 K.L4 A = p := ⟨_, rfl⟩
  have HFA := Lib.hid hfa; clear hfa
  obtain ⟨⟨fb1, fb2⟩, hfb⟩ : ∃ p, findR K.L0 K.L2 K.L3 K.L4 B = p := ⟨_, rfl⟩
  have HFB := Lib.hid hfb; clear hfb
  have HN1 : Hid (∀ w1 : World, Below w.heap.size w w1 → Calls Tryd.prog 5 #[.agg (wkC K n0 n2 n3 n4), .string A] w1 fun e w' => e = .returned (.tuple #[.int .i64 fa1, .int .i64 fa2]) ∧ Below w1.heap.size w1 w') := Lib.hid (fun w1 h => named_any w1 (HK.out.next h) HFA.out)
  have HN2 : Hid (∀ w1 : World, Below w.heap.size w w1 → Calls Tryd.prog 5 #[.agg (wkC K n0 n2 n3 n4), .string B] w1 fun e w' => e = .returned (.tuple #[.int .i64 fb1, .int .i64 fb2]) ∧ Below w1.heap.size w1 w') := Lib.hid (fun w1 h => named_any w1 (HK.out.next h) HFB.out)
  have HOW : Hid (k ≤ 5 → ∀ w1 : World, Below w.heap.size w w1 → Calls Tryd.prog 14 #[.agg (stC k n A B t (.slice X nb cb))] w1 fun e w' => e = .returned (.int .i64 (if k < 1 then 3 else c)) ∧ Below w1.heap.size w1 w') := Lib.hid (fun h5 w1 h => own_any h5 (Tab.next HT.out h) HQ.out hA hB (by rw [HC.out]) w1 (hm.below h) St.start)
  clear hA hB hm
  have HS0 : Hid (St w [] w) := Lib.hid St.start
  go_enter Tryd.func7, Tryd.ntmps7
  go_upto_region 0 with (fail)
  refine rgT [] HS0.out ?_
  refine bX (wkC K n0 n2 n3 n4) ?_
  intro b2 _ _ hb2
  refine nZ ?_
  refine bX (stC k n A B t (.slice X nb cb)) ?_
  intro b3 _ _ hb3
  refine nZ ?_
  refine Seq.alloc rfl rfl rfl (z := .agg #[.int .i64 0, .int .i64 0, .int .i64 0, .int .i64 0]) (by kernel_rfl) rfl ?_
  intro b4 _ _ hb4
  refine nZ ?_
  refine pU ?_
  refine Seq.done fun w0 hws => ?_
  obtain ⟨e32, e23, _⟩ := Reg.ne2 hb3
  obtain ⟨e43, e34, h9⟩ := Reg.ne2 hb4
  obtain ⟨e42, e24, _⟩ := Reg.ne2 h9
  clear h9
  have HS1 := Lib.hid (hws.q3 (p := b4) (q := b3) (r := b2))
  clear hws HS0
  by_cases h5 : 5 < k
  · have h1 := h5
    go_upto_region 1 with (fail)
    refine rgT [] HS1.out ?_
    refine pU ?_
    refine Seq.loadCell rfl rfl rfl rfl (by repeat (first | exact mC | apply mT)) (v := .int .i64 k) rfl (by kernel_rfl) rfl (nZ ?_)
    refine pV (.bool true) (by intro w; go_simp <;> (first | omega | (simp; omega) | exact h1 | (simp [h1]; done))) ?_
    refine pU ?_
    iterate 3 refine nW ?_
    refine pU ?_
    refine Seq.done fun w2 hws => ?_
    have HS2 := Lib.hid hws.st
    clear hws HS1
    have HRR : Hid (r = ((0, 0, 0, 0), 3)) := Lib.hid (by rw [← HR.out]; unfold goalS; simp [h5])
    go_upto_region 2 with (fail)
    refine wp_seq_text [] (StR.move (StR.no HS2.out)) ?_
    refine pV (.agg #[.int .i64 0, .int .i64 0, .int .i64 0, .int .i64 0]) (by intro w; go_simp; try rfl) ?_
    refine sV (n := 4) (cs' := gC 0 0 0 0) (gC_one 0 0 0 0) ?_
    refine pU ?_
    refine Seq.done fun wz hws => ?_
    have HSE := hws.q1 (p := b4)
    clear hws HS2
    go_wp2_with fail
    exact ret_own2 rfl rfl rfl rfl HSE (by repeat (first | exact mC | apply mT)) (n := 4) rfl (by kernel_rfl) ⟨by rw [HRR.out]; rfl, HSE.below⟩
  replace h5 : k ≤ 5 := by omega
  have h7 : ¬ 5 < k := by omega
  obtain ⟨c1, hcc⟩ : ∃ c1 : Int, (if k < 1 then 3 else c) = c1 := ⟨_, rfl⟩
  rw [hcc] at HOW
  have HCC := Lib.hid hcc
  clear hcc
  by_cases hc1 : c1 = 0
  rotate_left
  · have hor : k < 1 ∨ c ≠ 0 := by
      by_cases h1 : k < 1
      · exact .inl h1
      · right; have e := HCC.out; rw [if_neg h1] at e; rw [e]; exact hc1
    have h1 := h5
    go_upto_region 1 with (fail)
    refine rgT [] HS1.out ?_
    refine pU ?_
    refine Seq.loadCell rfl rfl rfl rfl (by repeat (first | exact mC | apply mT)) (v := .int .i64 k) rfl (by kernel_rfl) rfl (nZ ?_)
    refine pV (.bool false) (by intro w; go_simp <;> (first | omega | (simp; omega) | exact h1 | (simp [h1]; done))) ?_
    refine pU ?_
    refine lV ?_
    refine cX rfl rfl (fun w h => HOW.out h5 w h.below) ?_
    refine pV (.bool true) (by intro w; go_simp <;> (first | (rw [hc1]; done) | exact hc1 | (simp [hc1]; done) | omega | (simp; omega) | (have h9 := hc1; simp at h9 ⊢; first | exact h9 | omega))) ?_
    refine pU ?_
    refine Seq.done fun w2 hws => ?_
    have HS2 := Lib.hid hws.st
    clear hws HS1
    have HRR : Hid (r = ((0, 0, 0, 0), 3)) := Lib.hid (by rw [← HR.out]; unfold goalS; rw [if_pos (by rcases hor with e | e; exact .inl e; exact .inr (.inr (by rw [HC.out]; exact e)))])
    go_upto_region 2 with (fail)
    refine wp_seq_text [] (StR.move (StR.no HS2.out)) ?_
    refine pV (.agg #[.int .i64 0, .int .i64 0, .int .i64 0, .int .i64 0]) (by intro w; go_simp; try rfl) ?_
    refine sV (n := 4) (cs' := gC 0 0 0 0) (gC_one 0 0 0 0) ?_
    refine pU ?_
    refine Seq.done fun wz hws => ?_
    have HSE := hws.q1 (p := b4)
    clear hws HS2
    go_wp2_with fail
    exact ret_own2 rfl rfl rfl rfl HSE (by repeat (first | exact mC | apply mT)) (n := 4) rfl (by kernel_rfl) ⟨by rw [HRR.out]; rfl, HSE.below⟩
  have h6 : ¬ k < 1 := fun e => by have e2 := HCC.out; rw [if_pos e, hc1] at e2; cases e2
  have hcz : codeS k n A B t q g nb = 0 := by have e2 := HCC.out; rw [if_neg h6, hc1] at e2; rw [HC.out, e2]
  have h1 : 1 ≤ k := by omega
  go_upto_region 1 with (fail)
  refine rgT [] HS1.out ?_
  refine pU ?_
  refine Seq.loadCell rfl rfl rfl rfl (by repeat (first | exact mC | apply mT)) (v := .int .i64 k) rfl (by kernel_rfl) rfl (nZ ?_)
  refine pV (.bool false) (by intro w; go_simp <;> (first | omega | (simp; omega) | exact h1 | (simp [h1]; done))) ?_
  refine pU ?_
  refine lV ?_
  refine cX rfl rfl (fun w h => HOW.out h5 w h.below) ?_
  refine pV (.bool false) (by intro w; go_simp <;> (first | (rw [hc1]; done) | exact hc1 | (simp [hc1]; done) | omega | (simp; omega) | (have h9 := hc1; simp at h9 ⊢; first | exact h9 | omega))) ?_
  refine pU ?_
  refine Seq.done fun w2 hws => ?_
  have HS2 := Lib.hid hws.st
  clear hws HS1
  have hblk := (HS2.out.blk (b3, 33, stC k n A B t (.slice X nb cb)) (by repeat (first | exact mC | apply mT))).2
  obtain ⟨v2, v3, v4, v5, v6, s2, s3, s4, s5, s6, s7, hK3, hB3⟩ := want_facts hblk h1 h5 HK2.out
  have HSW := Lib.hid (HS2.out.more hB3)
  have j0 := hK3.cell 0
  simp [stC] at j0
  clear hblk hK3 hB3 HS2
  have hmm := @run_makeMap Tryd.prog
  go_upto_region 4 with (fail)
  have HS4 : Hid (St w [(v6.heap.size, 73, #[.int .i64 ka, .int .i64 kb]), (b4, 37, #[.int .i64 0, .int .i64 0, .int .i64 0, .int .i64 0]), (b3, 33, stC k n A B t (.slice X nb cb)), (b2, 30, wkC K n0 n2 n3 n4)] (v6.alloc (.cells #[.int .i64 ka, .int .i64 kb] 73))) := Lib.hid (HSW.out.plus (Nat.le_refl _) ((Below.refl _ _).alloc (Nat.le_refl _) _) (Blk.new _ _ _))
  generalize v6.heap.size = b6 at HS4 ⊢
  generalize v6.alloc _ = w4 at HS4 ⊢
  clear HSW j0 s2 s3 s4 s5 s6 s7 hmm
  refine rgT [] HS4.out ?_
  refine pV (.agg #[.int .i64 (-1), .int .i64 (-1)]) (by intro w; go_simp; try rfl) ?_
  refine Seq.alloc rfl rfl rfl (z := .agg #[.int .i64 0, .int .i64 0]) (by kernel_rfl) rfl ?_
  intro b7 _ _ hb7
  refine nZ ?_
  refine sV (n := 2) (cs' := #[.int .i64 (-1), .int .i64 (-1)]) (fun u hu => by simp at hu; subst hu; rfl) ?_
  refine Seq.done fun w5 hws => ?_
  have HS5 := Lib.hid (hws.q1 (p := b7))
  clear hws HS4
  go_upto_region 5 with (fail)
  refine rgT [] HS5.out ?_
  refine pU ?_
  refine Seq.loadCell rfl rfl rfl rfl (by repeat (first | exact mC | apply mT)) (v := .string A) rfl (by kernel_rfl) rfl (nZ ?_)
  refine pU ?_
  refine Seq.loadCell rfl rfl rfl rfl (by repeat (first | exact mC | apply mT)) (v := .string B) rfl (by kernel_rfl) rfl (nZ ?_)
  refine Seq.slice (n := 2) (e := 9) (cs := #[.string A, .string B]) rfl rfl (fun w => slcS_2 rfl rfl rfl w) ?_
  intro bs _ _ hbs
  refine nZ ?_
  iterate 2 refine pU ?_
  refine Seq.done fun w6 hws => ?_
  have HS6 := Lib.hid (hws.q1 (p := bs)).p1
  clear hws HS5
  go_wp2_with fail
  refine wp_loop_rounds 3 ?_
  rw [rounds_succ]
  by_cases hk0 : ka = 0
  focus
    go_upto_region 7 with (fail)
    refine rgT [] HS6.out ?_
    refine pU ?_
    refine pV (.pointer (some ⟨bs, 0, none⟩)) (by intro w; go_simp; try rfl) ?_
    refine Seq.loadCell rfl rfl rfl rfl (by repeat (first | exact mC | apply mT)) (v := .string A) rfl (by kernel_rfl) rfl (nZ ?_)
    iterate 2 refine pU ?_
    refine Seq.done fun w8 hws => ?_
    have HS8 := Lib.hid hws.st
    clear hws HS6
    go_upto_region 8 with (fail)
    refine rgT [] HS8.out ?_
    iterate 2 refine pU ?_
    refine Seq.loadCell rfl rfl rfl rfl (by repeat (first | exact mC | apply mT)) (v := .int .i64 ka) rfl (by kernel_rfl) rfl (nZ ?_)
    refine pV (.bool true) (by intro w; go_simp <;> (first | (rw [hk0]; done) | exact hk0 | (simp [hk0]; done) | omega | (simp; omega) | (have h9 := hk0; simp at h9 ⊢; first | exact h9 | omega))) ?_
    refine Seq.done fun w9 hws => ?_
    obtain ⟨hi, he⟩ : ia = -1 ∧ ea = 0 := by
      have e := HX1.out
      rw [hk0] at e
      injection e with e1 e2
      exact ⟨e1.symm, e2.symm⟩
    have HE0 := Lib.hid he
    have HS20 : Hid (St w [(b7, 73, #[.int .i64 ia, .int .i64 (-1)]), (bs, 9, #[.string A, .string B]), (b6, 73, #[.int .i64 ka, .int .i64 kb]), (b4, 37, #[.int .i64 0, .int .i64 0, .int .i64 0, .int .i64 0]), (b3, 33, stC k n A B t (.slice X nb cb)), (b2, 30, wkC K n0 n2 n3 n4)] w9) := Lib.hid (by rw [hi]; exact hws.st)
    clear hws HS8 hi he hk0
    go_wp2_with fail
    rw [rounds_succ]
  rotate_left
  focus
    go_upto_region 7 with (fail)
    refine rgT [] HS6.out ?_
    refine pU ?_
    refine pV (.pointer (some ⟨bs, 0, none⟩)) (by intro w; go_simp; try rfl) ?_
    refine Seq.loadCell rfl rfl rfl rfl (by repeat (first | exact mC | apply mT)) (v := .string A) rfl (by kernel_rfl) rfl (nZ ?_)
    iterate 2 refine pU ?_
    refine Seq.done fun w8 hws => ?_
    have HS8 := Lib.hid hws.st
    clear hws HS6
    go_upto_region 8 with (fail)
    refine rgT [] HS8.out ?_
    iterate 2 refine pU ?_
    refine Seq.loadCell rfl rfl rfl rfl (by repeat (first | exact mC | apply mT)) (v := .int .i64 ka) rfl (by kernel_rfl) rfl (nZ ?_)
    refine pV (.bool false) (by intro w; go_simp <;> (first | (rw [hk0]; done) | exact hk0 | (simp [hk0]; done) | omega | (simp; omega) | (have h9 := hk0; simp at h9 ⊢; first | exact h9 | omega))) ?_
    refine Seq.done fun w9 hws => ?_
    have HS9 := Lib.hid hws.st
    clear hws HS8
    go_upto_region 9 with (fail)
    refine rgT [] HS9.out ?_
    refine lV ?_
    refine pU ?_
    refine cX rfl rfl (fun w h => HN1.out w h.below) ?_
    iterate 5 refine pU ?_
    refine Seq.done fun w10 hws => ?_
    have HS10 := Lib.hid hws.st
    clear hws HS9
    by_cases hf0 : fa1 = 0
    · have he : ea = 16 := by
        have e := HX1.out
        unfold idxS at e
        rw [if_neg hk0, HFA.out, if_pos hf0] at e
        injection e with _ e2
        exact e2.symm
      go_upto_region 10 with (fail)
      refine rgT [] HS10.out ?_
      refine pU ?_
      refine pV (.bool true) (by intro w; go_simp <;> (first | (rw [hf0]; done) | exact hf0 | (simp [hf0]; done) | omega | (simp; omega) | (have h9 := hf0; simp at h9 ⊢; first | exact h9 | omega))) ?_
      refine pU ?_
      refine Seq.done fun w11 hws => ?_
      have HS11 := Lib.hid hws.st
      clear hws HS10
      have HRR : Hid (r = ((0, 0, 0, 0), 16)) := Lib.hid (by rw [← HR.out]; unfold goalS; simp [h6, h7, hcz, HK2.out, HX1.out, HX2.out, he])
      go_upto_region 11 with (fail)
      refine wp_seq_text [] (StR.move (StR.no HS11.out.p3)) ?_
      refine pV (.agg #[.int .i64 0, .int .i64 0, .int .i64 0, .int .i64 0]) (by intro w; go_simp; try rfl) ?_
      refine sV (n := 4) (cs' := gC 0 0 0 0) (gC_one 0 0 0 0) ?_
      refine pU ?_
      refine Seq.done fun wz hws => ?_
      have HSE := hws.q1 (p := b4)
      clear hws HS11
      go_wp2_with fail
      exact ret_own2 rfl rfl rfl rfl HSE (by repeat (first | exact mC | apply mT)) (n := 4) rfl (by kernel_rfl) ⟨by rw [HRR.out]; rfl, HSE.below⟩
    go_upto_region 10 with (fail)
    refine rgT [] HS10.out ?_
    refine pU ?_
    refine pV (.bool false) (by intro w; go_simp <;> (first | (rw [hf0]; done) | exact hf0 | (simp [hf0]; done) | omega | (simp; omega) | (have h9 := hf0; simp at h9 ⊢; first | exact h9 | omega))) ?_
    refine pU ?_
    refine Seq.done fun w11 hws => ?_
    have HS11 := Lib.hid hws.st
    clear hws HS10
    go_upto_region 12 with (fail)
    refine rgT [] HS11.out ?_
    iterate 3 refine pU ?_
    refine Seq.loadCell rfl rfl rfl rfl (by repeat (first | exact mC | apply mT)) (v := .int .i64 ka) rfl (by kernel_rfl) rfl (nZ ?_)
    by_cases hf1 : fa1 = ka
    rotate_left
    · have he : ea = 8 := by
        have e := HX1.out
        unfold idxS at e
        rw [if_neg hk0, HFA.out, if_neg hf0, if_pos hf1] at e
        injection e with _ e2
        exact e2.symm
      refine pV (.bool true) (by intro w; go_simp <;> (first | (rw [hf1]; done) | exact hf1 | (simp [hf1]; done) | omega | (simp; omega) | (have h9 := hf1; simp at h9 ⊢; first | exact h9 | omega))) ?_
      refine pU ?_
      refine Seq.done fun w12 hws => ?_
      have HS12 := Lib.hid hws.st
      clear hws HS11
      have HRR : Hid (r = ((0, 0, 0, 0), 8)) := Lib.hid (by rw [← HR.out]; unfold goalS; simp [h6, h7, hcz, HK2.out, HX1.out, HX2.out, he])
      go_upto_region 13 with (fail)
      refine wp_seq_text [] (StR.move (StR.no HS12.out.p3)) ?_
      refine pV (.agg #[.int .i64 0, .int .i64 0, .int .i64 0, .int .i64 0]) (by intro w; go_simp; try rfl) ?_
      refine sV (n := 4) (cs' := gC 0 0 0 0) (gC_one 0 0 0 0) ?_
      refine pU ?_
      refine Seq.done fun wz hws => ?_
      have HSE := hws.q1 (p := b4)
      clear hws HS12
      go_wp2_with fail
      exact ret_own2 rfl rfl rfl rfl HSE (by repeat (first | exact mC | apply mT)) (n := 4) rfl (by kernel_rfl) ⟨by rw [HRR.out]; rfl, HSE.below⟩
    obtain ⟨hi, he⟩ : ia = fa2 ∧ ea = 0 := by
      have e := HX1.out
      unfold idxS at e
      rw [if_neg hk0, HFA.out, if_neg hf0, if_neg (fun e => e hf1)] at e
      injection e with e1 e2
      exact ⟨e1.symm, e2.symm⟩
    have HE0 := Lib.hid he
    refine pV (.bool false) (by intro w; go_simp <;> (first | (rw [hf1]; done) | exact hf1 | (simp [hf1]; done) | omega | (simp; omega) | (have h9 := hf1; simp at h9 ⊢; first | exact h9 | omega))) ?_
    refine pU ?_
    refine Seq.done fun w12 hws => ?_
    have HS12 := Lib.hid hws.st
    clear hws HS11
    go_upto_region 14 with (fail)
    refine wp_seq_text [] (StR.move (StR.no HS12.out)) ?_
    iterate 3 refine pU ?_
    refine Seq.storeAt (v := .int .i64 fa2) rfl rfl rfl rfl rfl rS (Nat.le_of_ble_eq_true rfl) (by kernel_rfl) (fun u hu => by simp [Value.cells] at hu; subst hu; rfl) (cs' := #[.int .i64 fa2, .int .i64 (-1)]) rfl (nZ ?_)
    refine Seq.done fun w14 hws => ?_
    have HS20 : Hid (St w [(b7, 73, #[.int .i64 ia, .int .i64 (-1)]), (bs, 9, #[.string A, .string B]), (b6, 73, #[.int .i64 ka, .int .i64 kb]), (b4, 37, #[.int .i64 0, .int .i64 0, .int .i64 0, .int .i64 0]), (b3, 33, stC k n A B t (.slice X nb cb)), (b2, 30, wkC K n0 n2 n3 n4)] w14) := Lib.hid (by rw [hi]; exact hws.q1 (p := b7))
    clear hws HS12 hi he hk0 hf0 hf1
    go_wp2_with fail
    rw [rounds_succ]
  all_goals
    by_cases hk0 : kb = 0
    focus
      go_upto_region 7 with (fail)
      refine rgT [] HS20.out ?_
      refine pU ?_
      refine pV (.pointer (some ⟨bs, 1, none⟩)) (by intro w; go_simp; try rfl) ?_
      refine Seq.loadCell rfl rfl rfl rfl (by repeat (first | exact mC | apply mT)) (v := .string B) rfl (by kernel_rfl) rfl (nZ ?_)
      iterate 2 refine pU ?_
      refine Seq.done fun w8 hws => ?_
      have HS8 := Lib.hid hws.st
      clear hws HS20
      go_upto_region 8 with (fail)
      refine rgT [] HS8.out ?_
      iterate 2 refine pU ?_
      refine Seq.loadCell rfl rfl rfl rfl (by repeat (first | exact mC | apply mT)) (v := .int .i64 kb) rfl (by kernel_rfl) rfl (nZ ?_)
      refine pV (.bool true) (by intro w; go_simp <;> (first | (rw [hk0]; done) | exact hk0 | (simp [hk0]; done) | omega | (simp; omega) | (have h9 := hk0; simp at h9 ⊢; first | exact h9 | omega))) ?_
      refine Seq.done fun w9 hws => ?_
      obtain ⟨hi, he⟩ : ib = -1 ∧ eb = 0 := by
        have e := HX2.out
        rw [hk0] at e
        injection e with e1 e2
        exact ⟨e1.symm, e2.symm⟩
      have HE1 := Lib.hid he
      have HS20 : Hid (St w [(b7, 73, #[.int .i64 ia, .int .i64 ib]), (bs, 9, #[.string A, .string B]), (b6, 73, #[.int .i64 ka, .int .i64 kb]), (b4, 37, #[.int .i64 0, .int .i64 0, .int .i64 0, .int .i64 0]), (b3, 33, stC k n A B t (.slice X nb cb)), (b2, 30, wkC K n0 n2 n3 n4)] w9) := Lib.hid (by rw [hi]; exact hws.st)
      clear hws HS8 hi he hk0
      go_wp2_with fail
      rw [rounds_succ]
    rotate_left
    focus
      go_upto_region 7 with (fail)
      refine rgT [] HS20.out ?_
      refine pU ?_
      refine pV (.pointer (some ⟨bs, 1, none⟩)) (by intro w; go_simp; try rfl) ?_
      refine Seq.loadCell rfl rfl rfl rfl (by repeat (first | exact mC | apply mT)) (v := .string B) rfl (by kernel_rfl) rfl (nZ ?_)
      iterate 2 refine pU ?_
      refine Seq.done fun w8 hws => ?_
      have HS8 := Lib.hid hws.st
      clear hws HS20
      go_upto_region 8 with (fail)
      refine rgT [] HS8.out ?_
      iterate 2 refine pU ?_
      refine Seq.loadCell rfl rfl rfl rfl (by repeat (first | exact mC | apply mT)) (v := .int .i64 kb) rfl (by kernel_rfl) rfl (nZ ?_)
      refine pV (.bool false) (by intro w; go_simp <;> (first | (rw [hk0]; done) | exact hk0 | (simp [hk0]; done) | omega | (simp; omega) | (have h9 := hk0; simp at h9 ⊢; first | exact h9 | omega))) ?_
      refine Seq.done fun w9 hws => ?_
      have HS9 := Lib.hid hws.st
      clear hws HS8
      go_upto_region 9 with (fail)
      refine rgT [] HS9.out ?_
      refine lV ?_
      refine pU ?_
      refine cX rfl rfl (fun w h => HN2.out w h.below) ?_
      iterate 5 refine pU ?_
      refine Seq.done fun w10 hws => ?_
      have HS10 := Lib.hid hws.st
      clear hws HS9
      by_cases hf0 : fb1 = 0
      · have he : eb = 16 := by
          have e := HX2.out
          unfold idxS at e
          rw [if_neg hk0, HFB.out, if_pos hf0] at e
          injection e with _ e2
          exact e2.symm
        go_upto_region 10 with (fail)
        refine rgT [] HS10.out ?_
        refine pU ?_
        refine pV (.bool true) (by intro w; go_simp <;> (first | (rw [hf0]; done) | exact hf0 | (simp [hf0]; done) | omega | (simp; omega) | (have h9 := hf0; simp at h9 ⊢; first | exact h9 | omega))) ?_
        refine pU ?_
        refine Seq.done fun w11 hws => ?_
        have HS11 := Lib.hid hws.st
        clear hws HS10
        have HRR : Hid (r = ((0, 0, 0, 0), 16)) := Lib.hid (by rw [← HR.out]; unfold goalS; simp [h6, h7, hcz, HK2.out, HX1.out, HX2.out, HE0.out, he])
        go_upto_region 11 with (fail)
        refine wp_seq_text [] (StR.move (StR.no HS11.out.p3)) ?_
        refine pV (.agg #[.int .i64 0, .int .i64 0, .int .i64 0, .int .i64 0]) (by intro w; go_simp; try rfl) ?_
        refine sV (n := 4) (cs' := gC 0 0 0 0) (gC_one 0 0 0 0) ?_
        refine pU ?_
        refine Seq.done fun wz hws => ?_
        have HSE := hws.q1 (p := b4)
        clear hws HS11
        go_wp2_with fail
        exact ret_own2 rfl rfl rfl rfl HSE (by repeat (first | exact mC | apply mT)) (n := 4) rfl (by kernel_rfl) ⟨by rw [HRR.out]; rfl, HSE.below⟩
      go_upto_region 10 with (fail)
      refine rgT [] HS10.out ?_
      refine pU ?_
      refine pV (.bool false) (by intro w; go_simp <;> (first | (rw [hf0]; done) | exact hf0 | (simp [hf0]; done) | omega | (simp; omega) | (have h9 := hf0; simp at h9 ⊢; first | exact h9 | omega))) ?_
      refine pU ?_
      refine Seq.done fun w11 hws => ?_
      have HS11 := Lib.hid hws.st
      clear hws HS10
      go_upto_region 12 with (fail)
      refine rgT [] HS11.out ?_
      iterate 3 refine pU ?_
      refine Seq.loadCell rfl rfl rfl rfl (by repeat (first | exact mC | apply mT)) (v := .int .i64 kb) rfl (by kernel_rfl) rfl (nZ ?_)
      by_cases hf1 : fb1 = kb
      rotate_left
      · have he : eb = 8 := by
          have e := HX2.out
          unfold idxS at e
          rw [if_neg hk0, HFB.out, if_neg hf0, if_pos hf1] at e
          injection e with _ e2
          exact e2.symm
        refine pV (.bool true) (by intro w; go_simp <;> (first | (rw [hf1]; done) | exact hf1 | (simp [hf1]; done) | omega | (simp; omega) | (have h9 := hf1; simp at h9 ⊢; first | exact h9 | omega))) ?_
        refine pU ?_
        refine Seq.done fun w12 hws => ?_
        have HS12 := Lib.hid hws.st
        clear hws HS11
        have HRR : Hid (r = ((0, 0, 0, 0), 8)) := Lib.hid (by rw [← HR.out]; unfold goalS; simp [h6, h7, hcz, HK2.out, HX1.out, HX2.out, HE0.out, he])
        go_upto_region 13 with (fail)
        refine wp_seq_text [] (StR.move (StR.no HS12.out.p3)) ?_
        refine pV (.agg #[.int .i64 0, .int .i64 0, .int .i64 0, .int .i64 0]) (by intro w; go_simp; try rfl) ?_
        refine sV (n := 4) (cs' := gC 0 0 0 0) (gC_one 0 0 0 0) ?_
        refine pU ?_
        refine Seq.done fun wz hws => ?_
        have HSE := hws.q1 (p := b4)
        clear hws HS12
        go_wp2_with fail
        exact ret_own2 rfl rfl rfl rfl HSE (by repeat (first | exact mC | apply mT)) (n := 4) rfl (by kernel_rfl) ⟨by rw [HRR.out]; rfl, HSE.below⟩
      obtain ⟨hi, he⟩ : ib = fb2 ∧ eb = 0 := by
        have e := HX2.out
        unfold idxS at e
        rw [if_neg hk0, HFB.out, if_neg hf0, if_neg (fun e => e hf1)] at e
        injection e with e1 e2
        exact ⟨e1.symm, e2.symm⟩
      have HE1 := Lib.hid he
      refine pV (.bool false) (by intro w; go_simp <;> (first | (rw [hf1]; done) | exact hf1 | (simp [hf1]; done) | omega | (simp; omega) | (have h9 := hf1; simp at h9 ⊢; first | exact h9 | omega))) ?_
      refine pU ?_
      refine Seq.done fun w12 hws => ?_
      have HS12 := Lib.hid hws.st
      clear hws HS11
      go_upto_region 14 with (fail)
      refine wp_seq_text [] (StR.move (StR.no HS12.out)) ?_
      iterate 3 refine pU ?_
      refine Seq.storeAt (v := .int .i64 fb2) rfl rfl rfl rfl rfl rS (Nat.le_of_ble_eq_true rfl) (by kernel_rfl) (fun u hu => by simp [Value.cells] at hu; subst hu; rfl) (cs' := #[.int .i64 ia, .int .i64 fb2]) rfl (nZ ?_)
      refine Seq.done fun w14 hws => ?_
      have HS20 : Hid (St w [(b7, 73, #[.int .i64 ia, .int .i64 ib]), (bs, 9, #[.string A, .string B]), (b6, 73, #[.int .i64 ka, .int .i64 kb]), (b4, 37, #[.int .i64 0, .int .i64 0, .int .i64 0, .int .i64 0]), (b3, 33, stC k n A B t (.slice X nb cb)), (b2, 30, wkC K n0 n2 n3 n4)] w14) := Lib.hid (by rw [hi]; exact hws.q1 (p := b7))
      clear hws HS12 hi he hk0 hf0 hf1
      go_wp2_with fail
      rw [rounds_succ]
    all_goals
      rcases Bool.eq_false_or_eq_true (wz t) with hwz | hwz
      · go_upto_region 16 with (fail)
        refine rgW [] HS20.out ?_
        refine pU ?_
        refine lA (RT.c t) ?_
        refine pU ?_
        refine Seq.neZ rfl rfl rfl rfl rfl hwz (nZ ?_)
        refine pU ?_
        iterate 12 refine nW ?_
        refine pU ?_
        refine Seq.done fun w17 hws => ?_
        have HS21 := Lib.hid hws.st
        clear hws HS20
        have HRR : Hid (r = ((k, ia, ib, n), 0)) := Lib.hid (by rw [← HR.out]; unfold goalS; simp [h6, h7, hcz, HK2.out, HX1.out, HX2.out, HE0.out, HE1.out, hwz])
        go_upto_region 18 with (fail)
        refine wp_seq_text [] (StR.move (StR.no HS21.out.p3)) ?_
        refine pU ?_
        refine Seq.loadCell rfl rfl rfl rfl (by repeat (first | exact mC | apply mT)) (v := .int .i64 k) rfl (by kernel_rfl) rfl (nZ ?_)
        refine pU ?_
        refine Seq.loadCell rfl rfl rfl rfl (by repeat (first | exact mC | apply mT)) (v := .int .i64 ia) rfl (by kernel_rfl) rfl (nZ ?_)
        refine pU ?_
        refine Seq.loadCell rfl rfl rfl rfl (by repeat (first | exact mC | apply mT)) (v := .int .i64 ib) rfl (by kernel_rfl) rfl (nZ ?_)
        refine pU ?_
        refine Seq.loadCell rfl rfl rfl rfl (by repeat (first | exact mC | apply mT)) (v := .int .i64 n) rfl (by kernel_rfl) rfl (nZ ?_)
        refine pV (.agg (gC k ia ib n)) (by intro w; unfold gC; go_simp; try rfl) ?_
        refine sV (n := 4) (cs' := gC k ia ib n) (gC_one _ _ _ _) ?_
        refine pU ?_
        refine Seq.done fun wz hws => ?_
        have HSE := hws.q1 (p := b4)
        clear hws HS21
        go_wp2_with fail
        exact ret_own2 rfl rfl rfl rfl HSE (by repeat (first | exact mC | apply mT)) (n := 4) rfl (by kernel_rfl) ⟨by rw [HRR.out]; rfl, HSE.below⟩
      obtain rfl : k = 1 := code_put hcz hwz
      have hk2 : (2, 3) = (ka, kb) := HK2.out
      injection hk2 with hka hkb
      subst hka hkb
      obtain rfl : ea = 0 := HE0.out
      obtain rfl : eb = 0 := HE1.out
      obtain ⟨i, hib, hil⟩ := find_slot (idx_slot HX2.out)
      have hi3 : i < n3 := by rw [← HK.out.e3.1]; exact hil
      obtain ⟨t2, g2, ht2, hq2⟩ := HY.out i hi3 (by rw [← hib]; exact idx_slot HX2.out)
      obtain ⟨x, hx⟩ : ∃ x, K.L3[i]? = some x := ⟨_, List.getElem?_eq_getElem hil⟩
      obtain ⟨gg, gf, hA3, hgg, hF, hO, h0, hcc⟩ := HK.out.h3 i x hx
      have HIX : Hid (∀ w, (Instr.indexAt 25 (.slice K.A3 n3 K.c3) (.int .i64 (i : Int))).run Tryd.prog w = .ok (.pointer (some ⟨gg, gf + i * 14, none⟩)) w) := Lib.hid (fun w => by rw [hA3]; exact run_indexT (by kernel_rfl) hi3 w)
      have HLD : Hid (∀ w', Below w.heap.size w w' → (loadVar 28 ⟨gg, gf + i * 14 + 11, none⟩).run Tryd.prog w' = .ok (.agg (RT.c t2)) w') := Lib.hid (fun w' hb => ld_tol hgg hcc ht2 hb)
      have HQ2 := Lib.hid hq2
      obtain ⟨v, hv⟩ : ∃ v, cmpQ q y = v := ⟨_, rfl⟩
      have HV := Lib.hid hv
      have hv3 := cmp_or q y
      rw [hv] at hv3
      subst hib
      have HV9 : Hid (∃ s, sgnQ (q - y) = s ∧ (s = 1 ↔ v = 1)) := Lib.hid ⟨_, rfl, by rw [sgn_sub, HV.out]⟩
      clear hA3 hgg hF hO h0 hcc hx ht2 hq2 hv hil hi3
      obtain ⟨sg, hsg, hs1⟩ := HV9.out
      have HSG := Lib.hid hsg
      clear hsg HV9
      by_cases hgt : sg = 1
      · have hv1 : v = 1 := hs1.1 hgt
        go_upto_region 16 with (fail)
        refine rgW [] HS20.out ?_
        refine pU ?_
        refine lA (RT.c t) ?_
        refine pU ?_
        refine Seq.neZ rfl rfl rfl rfl rfl hwz (nZ ?_)
        iterate 2 refine pU ?_
        refine lA (RT.c t) ?_
        refine pU ?_
        refine Seq.loadCell rfl rfl rfl rfl (by repeat (first | exact mC | apply mT)) (v := .slice K.A3 n3 K.c3) rfl (by kernel_rfl) rfl (nZ ?_)
        refine pU ?_
        refine Seq.loadCell rfl rfl rfl rfl (by repeat (first | exact mC | apply mT)) (v := .int .i64 (i : Int)) rfl (by kernel_rfl) rfl (nZ ?_)
        refine Seq.indexT rfl rfl rfl rfl rfl HIX.out (nZ ?_)
        refine pU ?_
        refine Seq.loadT rfl rfl rfl rfl HLD.out (nZ ?_)
        refine cX rfl rfl (sub_w HT.out HQ.out HQ2.out rfl (by omega)) ?_
        refine cX rfl rfl (sign_w (t1 := rt (q - y)) HT.out (RawT.rc (HQ.out.rz.sub HQ2.out.rz)) HSG.out (by omega)) ?_
        refine pV (.bool true) (by intro w; go_simp <;> (first | (rw [hgt]; done) | exact hgt | (simp [hgt]; done) | omega | (simp; omega) | (have h9 := hgt; simp at h9 ⊢; first | exact h9 | omega))) ?_
        refine pU ?_
        refine Seq.done fun w17 hws => ?_
        have HS21 := Lib.hid hws.st
        clear hws HS20
        have HRR : Hid (r = ((0, 0, 0, 0), 18)) := Lib.hid (by rw [← HR.out]; unfold goalS; simp [hcz, hwz, HX1.out, HX2.out, HV.out, kindsS, hv1])
        go_upto_region 17 with (fail)
        refine wp_seq_text [] (StR.move (StR.no HS21.out.p3)) ?_
        refine pV (.agg #[.int .i64 0, .int .i64 0, .int .i64 0, .int .i64 0]) (by intro w; go_simp; try rfl) ?_
        refine sV (n := 4) (cs' := gC 0 0 0 0) (gC_one 0 0 0 0) ?_
        refine pU ?_
        refine Seq.done fun wz hws => ?_
        have HSE := hws.q1 (p := b4)
        clear hws HS21
        go_wp2_with fail
        exact ret_own2 rfl rfl rfl rfl HSE (by repeat (first | exact mC | apply mT)) (n := 4) rfl (by kernel_rfl) ⟨by rw [HRR.out]; rfl, HSE.below⟩
      · have hv1 : ¬ v = 1 := fun e => hgt (hs1.2 e)
        go_upto_region 16 with (fail)
        refine rgW [] HS20.out ?_
        refine pU ?_
        refine lA (RT.c t) ?_
        refine pU ?_
        refine Seq.neZ rfl rfl rfl rfl rfl hwz (nZ ?_)
        iterate 2 refine pU ?_
        refine lA (RT.c t) ?_
        refine pU ?_
        refine Seq.loadCell rfl rfl rfl rfl (by repeat (first | exact mC | apply mT)) (v := .slice K.A3 n3 K.c3) rfl (by kernel_rfl) rfl (nZ ?_)
        refine pU ?_
        refine Seq.loadCell rfl rfl rfl rfl (by repeat (first | exact mC | apply mT)) (v := .int .i64 (i : Int)) rfl (by kernel_rfl) rfl (nZ ?_)
        refine Seq.indexT rfl rfl rfl rfl rfl HIX.out (nZ ?_)
        refine pU ?_
        refine Seq.loadT rfl rfl rfl rfl HLD.out (nZ ?_)
        refine cX rfl rfl (sub_w HT.out HQ.out HQ2.out rfl (by omega)) ?_
        refine cX rfl rfl (sign_w (t1 := rt (q - y)) HT.out (RawT.rc (HQ.out.rz.sub HQ2.out.rz)) HSG.out (by omega)) ?_
        refine pV (.bool false) (by intro w; go_simp <;> (first | (rw [hgt]; done) | exact hgt | (simp [hgt]; done) | omega | (simp; omega) | (have h9 := hgt; simp at h9 ⊢; first | exact h9 | omega))) ?_
        refine pU ?_
        refine Seq.done fun w17 hws => ?_
        have HS21 := Lib.hid hws.st
        clear hws HS20
        have HRR : Hid (r = ((1, ia, (i : Int), n), 0)) := Lib.hid (by rw [← HR.out]; unfold goalS; simp [hcz, hwz, HX1.out, HX2.out, HV.out, kindsS, hv1])
        go_upto_region 18 with (fail)
        refine wp_seq_text [] (StR.move (StR.no HS21.out.p3)) ?_
        refine pU ?_
        refine Seq.loadCell rfl rfl rfl rfl (by repeat (first | exact mC | apply mT)) (v := .int .i64 1) rfl (by kernel_rfl) rfl (nZ ?_)
        refine pU ?_
        refine Seq.loadCell rfl rfl rfl rfl (by repeat (first | exact mC | apply mT)) (v := .int .i64 ia) rfl (by kernel_rfl) rfl (nZ ?_)
        refine pU ?_
        refine Seq.loadCell rfl rfl rfl rfl (by repeat (first | exact mC | apply mT)) (v := .int .i64 (i : Int)) rfl (by kernel_rfl) rfl (nZ ?_)
        refine pU ?_
        refine Seq.loadCell rfl rfl rfl rfl (by repeat (first | exact mC | apply mT)) (v := .int .i64 n) rfl (by kernel_rfl) rfl (nZ ?_)
        refine pV (.agg (gC 1 ia (i : Int) n)) (by intro w; unfold gC; go_simp; try rfl) ?_
        refine sV (n := 4) (cs' := gC 1 ia (i : Int) n) (gC_one _ _ _ _) ?_
        refine pU ?_
        refine Seq.done fun wz hws => ?_
        have HSE := hws.q1 (p := b4)
        clear hws HS21
        go_wp2_with fail
        exact ret_own2 rfl rfl rfl rfl HSE (by repeat (first | exact mC | apply mT)) (n := 4) rfl (by kernel_rfl) ⟨by rw [HRR.out]; rfl, HSE.below⟩
end Go.Proofs.YtekbpiooecdopaaDoor
