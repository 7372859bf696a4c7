/- gantref4.own, other kinds (printed by tyw.py). -/
import Derived.Test.YtekbpiooecdopaaDoorTyW

namespace Go.Proofs.YtekbpiooecdopaaDoor
open Go.RowKit
set_option linter.unusedVariables false
set_option linter.unusedSimpArgs false

set_option maxHeartbeats 16000000 in
set_option maxRecDepth 20000 in
theorem own4_q {n : Int} {A B : ByteArray} {t : RT} {X : Option Addr} {nb cb : Nat} {q : Rat} {g : Bool} {c : Int} {W : World} {l : List Own} (hT : Tab W) (hq : RawT 1048576 q g t) (hA : A.size ≤ 1048576) (hB : B.size ≤ 1048576) (hc : codeS 4 n A B t q g nb = c) (w : World) (hm : MaxL w) (h : St W l w) :
    Calls Tryd.prog 14 #[.agg (stC 4 n A B t (.slice X nb cb))] w fun e w' => e = .returned (.int .i64 c) ∧ Below w.heap.size w w' := by
  have HT := Lib.hid (tabS hT h); clear hT h
  have HQ := Lib.hid hq; clear hq
  have HC := Lib.hid hc; clear hc
  have HSA := Lib.hid hA; clear hA
  have HSB := Lib.hid hB; clear hB
  unfold stC
  obtain ⟨u2, u3, u4, u5, u6, u7, u8, u9, r2, r3, r4, r5, r6, r7, r8, r9, HU⟩ := two_maps w #[.int .i64 4, .string A, .string B, .bool t.s, .string t.a, .string t.d, .int .i64 n, .slice X nb cb] 33
  have HM9 := Lib.hid (hm.below HU.out.1); clear hm
  have HT9 := Lib.hid (Tab.next HT.out HU.out.1); clear HT
  have HBU := Lib.hid HU.out.1
  have hk0 := HU.out.2.1.cell 0
  simp at hk0
  have HK1 : Hid (Blk u9 w.heap.size 33 (stC 4 n A B t (.slice X nb cb))) := Lib.hid HU.out.2.1
  have HL5 := Lib.hid (fun (w' : World) (h : Below u9.heap.size u9 w') => (HU.out.2.2.1.next h).lookup kInt_ Tryd.underlying82 (zI w') 4 false (v := .int .i64 1) rfl rfl)
  have HL9 := Lib.hid (fun (w' : World) (h : Below u9.heap.size u9 w') => (HU.out.2.2.2.next h).lookup kInt_ Tryd.underlying74 (zP w') 4 false (v := .agg #[.int .i64 0, .int .i64 0]) rfl rfl)
  clear HU
  have hmm := @run_makeMap Tryd.prog
  go_enter Tryd.func14, Tryd.ntmps14
  go_upto_region 3 with (fail)
  have HS0 : Hid (St u9 [] u9) := Lib.hid St.start
  clear r2 r3 r4 r5 r6 r7 r8 r9
  refine rgT [] HS0.out ?_
  refine pU ?_
  refine Seq.loadCellF rfl rfl rfl rfl HK1.out (v := .int .i64 4) rfl (by kernel_rfl) rfl (nZ ?_)
  iterate 3 refine pU ?_
  refine Seq.loadCellF rfl rfl rfl rfl HK1.out (v := .int .i64 4) rfl (by kernel_rfl) rfl (nZ ?_)
  iterate 2 refine pU ?_
  refine Seq.done fun w4 hws => ?_
  have HS4 := Lib.hid hws.st
  clear hws HS0
  go_upto_region 5 with (fail)
  refine rgT [] HS4.out ?_
  iterate 2 refine pU ?_
  refine Seq.loadCellF rfl rfl rfl rfl HK1.out (v := .int .i64 4) rfl (by kernel_rfl) rfl (nZ ?_)
  refine Seq.lookI rfl rfl rfl rfl rfl (fun w h => HL5.out w h.below) (nZ ?_)
  refine pU ?_
  refine Seq.done fun w6 hws => ?_
  have HS6 := Lib.hid hws.st
  clear hws HS4
  rcases Bool.eq_false_or_eq_true (A.toList.isEmpty) with heA | heA
  focus
    have hfA0 : freeB (bl A) = false := by cases e : freeB (bl A) with | false => rfl | true => rw [free_ne e] at heA; cases heA
    have HBAD : Hid (c = 3) := Lib.hid (by rw [← HC.out]; simp [codeS, baseS, hfA0])
    go_upto_region 6 with (fail)
    refine rgT [] HS6.out ?_
    iterate 3 refine pU ?_
    refine Seq.loadCellF rfl rfl rfl rfl HK1.out (v := .string A) rfl (by kernel_rfl) rfl (nZ ?_)
    refine pV (.bool false) (by intro w; go_simp <;> (first | (rw [heA]; done) | exact heA | (simp [heA]; done) | omega | (simp; omega) | (have h9 := heA; simp at h9 ⊢; first | exact h9 | omega))) ?_
    iterate 2 refine pU ?_
    iterate 6 refine nW ?_
    iterate 2 refine pU ?_
    iterate 7 refine nW ?_
    iterate 2 refine pU ?_
    iterate 7 refine nW ?_
    iterate 2 refine pU ?_
    refine Seq.done fun w7 hws => ?_
    have HS7 := Lib.hid hws.st
    clear hws HS6
  rotate_left
  rcases (Bool.eq_false_or_eq_true (B.toList.isEmpty)).symm with heB | heB
  focus
    have HBAD : Hid (c = 3) := Lib.hid (by rw [← HC.out]; simp [codeS, baseS, heB])
    go_upto_region 6 with (fail)
    refine rgT [] HS6.out ?_
    iterate 3 refine pU ?_
    refine Seq.loadCellF rfl rfl rfl rfl HK1.out (v := .string A) rfl (by kernel_rfl) rfl (nZ ?_)
    refine pV (.bool true) (by intro w; go_simp <;> (first | (rw [heA]; done) | exact heA | (simp [heA]; done) | omega | (simp; omega) | (have h9 := heA; simp at h9 ⊢; first | exact h9 | omega))) ?_
    iterate 5 refine pU ?_
    refine Seq.loadCellF rfl rfl rfl rfl HK1.out (v := .string B) rfl (by kernel_rfl) rfl (nZ ?_)
    refine pV (.bool true) (by intro w; go_simp <;> (first | (rw [heB]; done) | exact heB | (simp [heB]; done) | omega | (simp; omega) | (have h9 := heB; simp at h9 ⊢; first | exact h9 | omega))) ?_
    iterate 3 refine pU ?_
    iterate 7 refine nW ?_
    iterate 2 refine pU ?_
    iterate 7 refine nW ?_
    iterate 2 refine pU ?_
    refine Seq.done fun w7 hws => ?_
    have HS7 := Lib.hid hws.st
    clear hws HS6
  rotate_left
  rcases (Bool.eq_false_or_eq_true (freeB (bl A))).symm with hfA | hfA
  focus
    have HBAD : Hid (c = 3) := Lib.hid (by rw [← HC.out]; simp [codeS, baseS, hfA])
    go_upto_region 6 with (fail)
    refine rgT [] HS6.out ?_
    iterate 3 refine pU ?_
    refine Seq.loadCellF rfl rfl rfl rfl HK1.out (v := .string A) rfl (by kernel_rfl) rfl (nZ ?_)
    refine pV (.bool true) (by intro w; go_simp <;> (first | (rw [heA]; done) | exact heA | (simp [heA]; done) | omega | (simp; omega) | (have h9 := heA; simp at h9 ⊢; first | exact h9 | omega))) ?_
    iterate 5 refine pU ?_
    refine Seq.loadCellF rfl rfl rfl rfl HK1.out (v := .string B) rfl (by kernel_rfl) rfl (nZ ?_)
    refine pV (.bool false) (by intro w; go_simp <;> (first | (rw [heB]; done) | exact heB | (simp [heB]; done) | omega | (simp; omega) | (have h9 := heB; simp at h9 ⊢; first | exact h9 | omega))) ?_
    iterate 7 refine pU ?_
    refine Seq.loadCellF rfl rfl rfl rfl HK1.out (v := .string A) rfl (by kernel_rfl) rfl (nZ ?_)
    refine cX rfl rfl (fun w h => freeName_any A w HSA.out (HM9.out.below h.below) hfA) ?_
    iterate 3 refine pU ?_
    iterate 7 refine nW ?_
    iterate 2 refine pU ?_
    refine Seq.done fun w7 hws => ?_
    have HS7 := Lib.hid hws.st
    clear hws HS6
  rotate_left
  focus
    go_upto_region 6 with (fail)
    refine rgT [] HS6.out ?_
    iterate 3 refine pU ?_
    refine Seq.loadCellF rfl rfl rfl rfl HK1.out (v := .string A) rfl (by kernel_rfl) rfl (nZ ?_)
    refine pV (.bool true) (by intro w; go_simp <;> (first | (rw [heA]; done) | exact heA | (simp [heA]; done) | omega | (simp; omega) | (have h9 := heA; simp at h9 ⊢; first | exact h9 | omega))) ?_
    iterate 5 refine pU ?_
    refine Seq.loadCellF rfl rfl rfl rfl HK1.out (v := .string B) rfl (by kernel_rfl) rfl (nZ ?_)
    refine pV (.bool false) (by intro w; go_simp <;> (first | (rw [heB]; done) | exact heB | (simp [heB]; done) | omega | (simp; omega) | (have h9 := heB; simp at h9 ⊢; first | exact h9 | omega))) ?_
    iterate 7 refine pU ?_
    refine Seq.loadCellF rfl rfl rfl rfl HK1.out (v := .string A) rfl (by kernel_rfl) rfl (nZ ?_)
    refine cX rfl rfl (fun w h => freeName_any A w HSA.out (HM9.out.below h.below) hfA) ?_
    iterate 6 refine pU ?_
    iterate 3 refine nW ?_
    iterate 3 refine pU ?_
    refine Seq.done fun w7 hws => ?_
    have HS7 := Lib.hid hws.st
    clear hws HS6
    rcases Bool.eq_false_or_eq_true (wz t) with hwz | hwz
    · go_upto_region 7 with (fail)
      refine rgT [] HS7.out ?_
      refine pU ?_
      refine Seq.loadAtF (cs' := RT.c t) (n := 3) rfl rfl rfl rfl HK1.out (Nat.le_of_ble_eq_true rfl) (by kernel_rfl) rfl (nZ ?_)
      refine pU ?_
      refine Seq.neZ rfl rfl rfl rfl rfl hwz (nZ ?_)
      refine Seq.done fun w8 hws => ?_
      have HS8 := Lib.hid hws.st
      clear hws HS7
      go_upto_region 9 with (fail)
      refine rgT [] HS8.out ?_
      refine pU ?_
      refine pU ?_
      refine Seq.loadCellF rfl rfl rfl rfl HK1.out (v := .int .i64 4) rfl (by kernel_rfl) rfl (nZ ?_)
      refine Seq.lookI rfl rfl rfl rfl rfl (fun w h => HL9.out w h.below) (nZ ?_)
      refine Seq.alloc rfl rfl rfl (z := .agg #[.int .i64 0, .int .i64 0]) (by kernel_rfl) rfl ?_
      intro b7 _ _ hb7
      refine nZ ?_
      refine sV (n := 2) (cs' := #[.int .i64 0, .int .i64 0]) (fun u hu => by simp at hu; rcases hu with rfl | rfl <;> rfl) ?_
      refine Seq.done fun w10 hws => ?_
      have HS10 := Lib.hid (hws.q1 (p := b7))
      clear hws HS8
      have hnn : (0 : Int) ≤ (nb : Int) := by omega
      by_cases hnb : nb = 0
      rotate_left
      · have HBAD : Hid (c = 3) := Lib.hid (by rw [← HC.out]; simp [codeS, baseS, hfA, heB, hwz, hnb])
        go_upto_region 10 with (fail)
        refine rgT [] HS10.out ?_
        iterate 3 refine pU ?_
        refine Seq.loadCellF rfl rfl rfl rfl HK1.out (v := (.slice X nb cb)) rfl (by kernel_rfl) rfl (nZ ?_)
        iterate 2 refine pU ?_
        refine Seq.loadCell rfl rfl rfl rfl (by repeat (first | exact mC | apply mT)) (v := .int .i64 0) rfl (by kernel_rfl) rfl (nZ ?_)
        refine pV (.bool true) (by intro w; go_simp <;> (first | (rw [hnn]; done) | exact hnn | (simp [hnn]; done) | omega | (simp; omega) | (have h9 := hnn; simp at h9 ⊢; first | exact h9 | omega))) ?_
        iterate 3 refine pU ?_
        refine Seq.loadCellF rfl rfl rfl rfl HK1.out (v := (.slice X nb cb)) rfl (by kernel_rfl) rfl (nZ ?_)
        iterate 2 refine pU ?_
        refine Seq.loadCell rfl rfl rfl rfl (by repeat (first | exact mC | apply mT)) (v := .int .i64 0) rfl (by kernel_rfl) rfl (nZ ?_)
        refine pV (.bool false) (by intro w; go_simp <;> (first | (rw [hnb]; done) | exact hnb | (simp [hnb]; done) | omega | (simp; omega) | (have h9 := hnb; simp at h9 ⊢; first | exact h9 | omega))) ?_
        iterate 2 refine pU ?_
        refine Seq.done fun w11 hws => ?_
        have HS11 := Lib.hid hws.st
        clear hws HS10
        obtain ⟨v2, v3, s2, s3, s4, hK3, hB3⟩ := most_facts (HS11.out.came HK1.out) 4 0 rfl
        have HB := Lib.hid (HBU.out.trans ((HS11.out.below.trans (hB3.mono HS11.out.below.size)).mono HBU.out.size))
        have j0 := hK3.cell 0
        have j6 := hK3.cell 6
        simp [stC] at j0 j6
        clear hK3 hB3 HS11 HT9 HM9 HQ HL5 HL9 HK1 HBU hk0
        go_wp2_with fail
        all_goals
          go_ret
          exact ⟨ret_int HBAD.out.symm, HB.out⟩
      go_upto_region 10 with (fail)
      refine rgT [] HS10.out ?_
      iterate 3 refine pU ?_
      refine Seq.loadCellF rfl rfl rfl rfl HK1.out (v := (.slice X nb cb)) rfl (by kernel_rfl) rfl (nZ ?_)
      iterate 2 refine pU ?_
      refine Seq.loadCell rfl rfl rfl rfl (by repeat (first | exact mC | apply mT)) (v := .int .i64 0) rfl (by kernel_rfl) rfl (nZ ?_)
      refine pV (.bool true) (by intro w; go_simp <;> (first | (rw [hnn]; done) | exact hnn | (simp [hnn]; done) | omega | (simp; omega) | (have h9 := hnn; simp at h9 ⊢; first | exact h9 | omega))) ?_
      iterate 3 refine pU ?_
      refine Seq.loadCellF rfl rfl rfl rfl HK1.out (v := (.slice X nb cb)) rfl (by kernel_rfl) rfl (nZ ?_)
      iterate 2 refine pU ?_
      refine Seq.loadCell rfl rfl rfl rfl (by repeat (first | exact mC | apply mT)) (v := .int .i64 0) rfl (by kernel_rfl) rfl (nZ ?_)
      refine pV (.bool true) (by intro w; go_simp <;> (first | (rw [hnb]; done) | exact hnb | (simp [hnb]; done) | omega | (simp; omega) | (have h9 := hnb; simp at h9 ⊢; first | exact h9 | omega))) ?_
      iterate 2 refine pU ?_
      refine Seq.done fun w11 hws => ?_
      have HS11 := Lib.hid hws.st
      clear hws HS10
      by_cases hn : n = 0
      rotate_left
      · have HBAD : Hid (c = 3) := Lib.hid (by rw [← HC.out]; simp [codeS, baseS, hfA, heB, hwz, hnb, hn])
        obtain ⟨v2, v3, s2, s3, s4, hK3, hB3⟩ := most_facts (HS11.out.came HK1.out) 4 0 rfl
        have HB := Lib.hid (HBU.out.trans ((HS11.out.below.trans (hB3.mono HS11.out.below.size)).mono HBU.out.size))
        have j0 := hK3.cell 0
        have j6 := hK3.cell 6
        simp [stC] at j0 j6
        clear hK3 hB3 HS11 HT9 HM9 HQ HL5 HL9 HK1 HBU hk0
        go_wp2_with fail
        all_goals
          go_ret
          exact ⟨ret_int HBAD.out.symm, HB.out⟩
      have HGO : Hid (0 = c) := Lib.hid (by rw [← HC.out]; simp [codeS, baseS, hfA, heB, hwz, hnb, hn])
      obtain ⟨v2, v3, s2, s3, s4, hK3, hB3⟩ := most_facts (HS11.out.came HK1.out) 4 0 rfl
      have HB := Lib.hid (HBU.out.trans ((HS11.out.below.trans (hB3.mono HS11.out.below.size)).mono HBU.out.size))
      have j0 := hK3.cell 0
      have j6 := hK3.cell 6
      simp [stC] at j0 j6
      clear hK3 hB3 HS11 HT9 HM9 HQ HL5 HL9 HK1 HBU hk0
      go_wp2_with fail
      all_goals
        go_ret
        exact ⟨ret_int HGO.out, HB.out⟩
    go_upto_region 7 with (fail)
    refine rgT [] HS7.out ?_
    refine pU ?_
    refine Seq.loadAtF (cs' := RT.c t) (n := 3) rfl rfl rfl rfl HK1.out (Nat.le_of_ble_eq_true rfl) (by kernel_rfl) rfl (nZ ?_)
    refine pU ?_
    refine Seq.neZ rfl rfl rfl rfl rfl hwz (nZ ?_)
    refine Seq.done fun w8 hws => ?_
    have HS8 := Lib.hid hws.st
    clear hws HS7
    have HBAD : Hid (c = 3) := Lib.hid (by rw [← HC.out]; simp [codeS, baseS, hwz])
    go_upto_region 8 with (fail)
    refine rgT [] HS8.out ?_
    iterate 3 refine pU ?_
    refine Seq.loadCellF rfl rfl rfl rfl HK1.out (v := .int .i64 4) rfl (by kernel_rfl) rfl (nZ ?_)
    iterate 3 refine pU ?_
    iterate 3 refine nW ?_
    iterate 2 refine pU ?_
    iterate 3 refine nW ?_
    iterate 2 refine pU ?_
    iterate 4 refine nW ?_
    iterate 2 refine pU ?_
    refine Seq.done fun w9 hws => ?_
    have HS9 := Lib.hid hws.st
    clear hws HS8
    go_upto_region 9 with (fail)
    refine rgT [] HS9.out ?_
    refine pU ?_
    refine pU ?_
    refine Seq.loadCellF rfl rfl rfl rfl HK1.out (v := .int .i64 4) rfl (by kernel_rfl) rfl (nZ ?_)
    refine Seq.lookI rfl rfl rfl rfl rfl (fun w h => HL9.out w h.below) (nZ ?_)
    refine Seq.alloc rfl rfl rfl (z := .agg #[.int .i64 0, .int .i64 0]) (by kernel_rfl) rfl ?_
    intro b7 _ _ hb7
    refine nZ ?_
    refine sV (n := 2) (cs' := #[.int .i64 0, .int .i64 0]) (fun u hu => by simp at hu; rcases hu with rfl | rfl <;> rfl) ?_
    refine Seq.done fun w10 hws => ?_
    have HS10 := Lib.hid (hws.q1 (p := b7))
    clear hws HS9
    go_upto_region 10 with (fail)
    refine rgT [] HS10.out ?_
    iterate 2 refine pU ?_
    iterate 6 refine nW ?_
    iterate 2 refine pU ?_
    iterate 6 refine nW ?_
    iterate 2 refine pU ?_
    refine Seq.done fun w11 hws => ?_
    have HS11 := Lib.hid hws.st
    clear hws HS10
    obtain ⟨v2, v3, s2, s3, s4, hK3, hB3⟩ := most_facts (HS11.out.came HK1.out) 4 0 rfl
    have HB := Lib.hid (HBU.out.trans ((HS11.out.below.trans (hB3.mono HS11.out.below.size)).mono HBU.out.size))
    have j0 := hK3.cell 0
    have j6 := hK3.cell 6
    simp [stC] at j0 j6
    clear hK3 hB3 HS11 HT9 HM9 HQ HL5 HL9 HK1 HBU hk0
    go_wp2_with fail
    all_goals
      go_ret
      exact ⟨ret_int HBAD.out.symm, HB.out⟩
  all_goals
    rcases Bool.eq_false_or_eq_true (wz t) with hwz | hwz
    focus
      go_upto_region 7 with (fail)
      refine rgT [] HS7.out ?_
      refine pU ?_
      refine Seq.loadAtF (cs' := RT.c t) (n := 3) rfl rfl rfl rfl HK1.out (Nat.le_of_ble_eq_true rfl) (by kernel_rfl) rfl (nZ ?_)
      refine pU ?_
      refine Seq.neZ rfl rfl rfl rfl rfl hwz (nZ ?_)
      refine Seq.done fun w8 hws => ?_
      have HS8 := Lib.hid hws.st
      clear hws HS7
      have HS9 := HS8
      clear HS8
    rotate_left
    focus
      go_upto_region 7 with (fail)
      refine rgT [] HS7.out ?_
      refine pU ?_
      refine Seq.loadAtF (cs' := RT.c t) (n := 3) rfl rfl rfl rfl HK1.out (Nat.le_of_ble_eq_true rfl) (by kernel_rfl) rfl (nZ ?_)
      refine pU ?_
      refine Seq.neZ rfl rfl rfl rfl rfl hwz (nZ ?_)
      refine Seq.done fun w8 hws => ?_
      have HS8 := Lib.hid hws.st
      clear hws HS7
      go_upto_region 8 with (fail)
      refine rgT [] HS8.out ?_
      iterate 2 refine pU ?_
      iterate 3 refine nW ?_
      iterate 2 refine pU ?_
      iterate 3 refine nW ?_
      iterate 2 refine pU ?_
      iterate 3 refine nW ?_
      iterate 2 refine pU ?_
      iterate 4 refine nW ?_
      iterate 2 refine pU ?_
      refine Seq.done fun w9 hws => ?_
      have HS9 := Lib.hid hws.st
      clear hws HS8
    rotate_left
    all_goals
      go_upto_region 9 with (fail)
      refine rgT [] HS9.out ?_
      refine pU ?_
      refine pU ?_
      refine Seq.loadCellF rfl rfl rfl rfl HK1.out (v := .int .i64 4) rfl (by kernel_rfl) rfl (nZ ?_)
      refine Seq.lookI rfl rfl rfl rfl rfl (fun w h => HL9.out w h.below) (nZ ?_)
      refine Seq.alloc rfl rfl rfl (z := .agg #[.int .i64 0, .int .i64 0]) (by kernel_rfl) rfl ?_
      intro b7 _ _ hb7
      refine nZ ?_
      refine sV (n := 2) (cs' := #[.int .i64 0, .int .i64 0]) (fun u hu => by simp at hu; rcases hu with rfl | rfl <;> rfl) ?_
      refine Seq.done fun w10 hws => ?_
      have HS10 := Lib.hid (hws.q1 (p := b7))
      clear hws HS9
      go_upto_region 10 with (fail)
      refine rgT [] HS10.out ?_
      iterate 2 refine pU ?_
      iterate 6 refine nW ?_
      iterate 2 refine pU ?_
      iterate 6 refine nW ?_
      iterate 2 refine pU ?_
      refine Seq.done fun w11 hws => ?_
      have HS11 := Lib.hid hws.st
      clear hws HS10
      obtain ⟨v2, v3, s2, s3, s4, hK3, hB3⟩ := most_facts (HS11.out.came HK1.out) 4 0 rfl
      have HB := Lib.hid (HBU.out.trans ((HS11.out.below.trans (hB3.mono HS11.out.below.size)).mono HBU.out.size))
      have j0 := hK3.cell 0
      have j6 := hK3.cell 6
      simp [stC] at j0 j6
      clear hK3 hB3 HS11 HT9 HM9 HQ HL5 HL9 HK1 HBU hk0
      go_wp2_with fail
      all_goals
        go_ret
        exact ⟨ret_int HBAD.out.symm, HB.out⟩
set_option maxHeartbeats 16000000 in
set_option maxRecDepth 20000 in
theorem own5_q {n : Int} {A B : ByteArray} {t : RT} {X : Option Addr} {nb cb : Nat} {q : Rat} {g : Bool} {c : Int} {W : World} {l : List Own} (hT : Tab W) (hq : RawT 1048576 q g t) (hA : A.size ≤ 1048576) (hB : B.size ≤ 1048576) (hc : codeS 5 n A B t q g nb = c) (w : World) (hm : MaxL w) (h : St W l w) :
    Calls Tryd.prog 14 #[.agg (stC 5 n A B t (.slice X nb cb))] w fun e w' => e = .returned (.int .i64 c) ∧ Below w.heap.size w w' := by
  have HT := Lib.hid (tabS hT h); clear hT h
  have HQ := Lib.hid hq; clear hq
  have HC := Lib.hid hc; clear hc
  have HSA := Lib.hid hA; clear hA
  have HSB := Lib.hid hB; clear hB
  unfold stC
  obtain ⟨u2, u3, u4, u5, u6, u7, u8, u9, r2, r3, r4, r5, r6, r7, r8, r9, HU⟩ := two_maps w #[.int .i64 5, .string A, .string B, .bool t.s, .string t.a, .string t.d, .int .i64 n, .slice X nb cb] 33
  have HM9 := Lib.hid (hm.below HU.out.1); clear hm
  have HT9 := Lib.hid (Tab.next HT.out HU.out.1); clear HT
  have HBU := Lib.hid HU.out.1
  have hk0 := HU.out.2.1.cell 0
  simp at hk0
  have HK1 : Hid (Blk u9 w.heap.size 33 (stC 5 n A B t (.slice X nb cb))) := Lib.hid HU.out.2.1
  have HL5 := Lib.hid (fun (w' : World) (h : Below u9.heap.size u9 w') => (HU.out.2.2.1.next h).lookup kInt_ Tryd.underlying82 (zI w') 5 false (v := .int .i64 0) rfl rfl)
  have HL9 := Lib.hid (fun (w' : World) (h : Below u9.heap.size u9 w') => (HU.out.2.2.2.next h).lookup kInt_ Tryd.underlying74 (zP w') 5 false (v := .agg #[.int .i64 0, .int .i64 0]) rfl rfl)
  clear HU
  have hmm := @run_makeMap Tryd.prog
  go_enter Tryd.func14, Tryd.ntmps14
  go_upto_region 3 with (fail)
  have HS0 : Hid (St u9 [] u9) := Lib.hid St.start
  clear r2 r3 r4 r5 r6 r7 r8 r9
  refine rgT [] HS0.out ?_
  refine pU ?_
  refine Seq.loadCellF rfl rfl rfl rfl HK1.out (v := .int .i64 5) rfl (by kernel_rfl) rfl (nZ ?_)
  iterate 3 refine pU ?_
  refine Seq.loadCellF rfl rfl rfl rfl HK1.out (v := .int .i64 5) rfl (by kernel_rfl) rfl (nZ ?_)
  iterate 2 refine pU ?_
  refine Seq.done fun w4 hws => ?_
  have HS4 := Lib.hid hws.st
  clear hws HS0
  go_upto_region 5 with (fail)
  refine rgT [] HS4.out ?_
  iterate 2 refine pU ?_
  refine Seq.loadCellF rfl rfl rfl rfl HK1.out (v := .int .i64 5) rfl (by kernel_rfl) rfl (nZ ?_)
  refine Seq.lookI rfl rfl rfl rfl rfl (fun w h => HL5.out w h.below) (nZ ?_)
  refine pU ?_
  refine Seq.done fun w6 hws => ?_
  have HS6 := Lib.hid hws.st
  clear hws HS4
  rcases (Bool.eq_false_or_eq_true (A.toList.isEmpty)).symm with heA | heA
  focus
    have HBAD : Hid (c = 3) := Lib.hid (by rw [← HC.out]; simp [codeS, baseS, heA])
    go_upto_region 6 with (fail)
    refine rgT [] HS6.out ?_
    iterate 3 refine pU ?_
    refine Seq.loadCellF rfl rfl rfl rfl HK1.out (v := .string A) rfl (by kernel_rfl) rfl (nZ ?_)
    refine pV (.bool true) (by intro w; go_simp <;> (first | (rw [heA]; done) | exact heA | (simp [heA]; done) | omega | (simp; omega) | (have h9 := heA; simp at h9 ⊢; first | exact h9 | omega))) ?_
    iterate 2 refine pU ?_
    iterate 6 refine nW ?_
    iterate 2 refine pU ?_
    iterate 7 refine nW ?_
    iterate 2 refine pU ?_
    iterate 7 refine nW ?_
    iterate 2 refine pU ?_
    refine Seq.done fun w7 hws => ?_
    have HS7 := Lib.hid hws.st
    clear hws HS6
  rotate_left
  rcases (Bool.eq_false_or_eq_true (B.toList.isEmpty)).symm with heB | heB
  focus
    have HBAD : Hid (c = 3) := Lib.hid (by rw [← HC.out]; simp [codeS, baseS, heB])
    go_upto_region 6 with (fail)
    refine rgT [] HS6.out ?_
    iterate 3 refine pU ?_
    refine Seq.loadCellF rfl rfl rfl rfl HK1.out (v := .string A) rfl (by kernel_rfl) rfl (nZ ?_)
    refine pV (.bool false) (by intro w; go_simp <;> (first | (rw [heA]; done) | exact heA | (simp [heA]; done) | omega | (simp; omega) | (have h9 := heA; simp at h9 ⊢; first | exact h9 | omega))) ?_
    iterate 5 refine pU ?_
    refine Seq.loadCellF rfl rfl rfl rfl HK1.out (v := .string B) rfl (by kernel_rfl) rfl (nZ ?_)
    refine pV (.bool true) (by intro w; go_simp <;> (first | (rw [heB]; done) | exact heB | (simp [heB]; done) | omega | (simp; omega) | (have h9 := heB; simp at h9 ⊢; first | exact h9 | omega))) ?_
    iterate 3 refine pU ?_
    iterate 7 refine nW ?_
    iterate 2 refine pU ?_
    iterate 7 refine nW ?_
    iterate 2 refine pU ?_
    refine Seq.done fun w7 hws => ?_
    have HS7 := Lib.hid hws.st
    clear hws HS6
  rotate_left
  focus
    go_upto_region 6 with (fail)
    refine rgT [] HS6.out ?_
    iterate 3 refine pU ?_
    refine Seq.loadCellF rfl rfl rfl rfl HK1.out (v := .string A) rfl (by kernel_rfl) rfl (nZ ?_)
    refine pV (.bool false) (by intro w; go_simp <;> (first | (rw [heA]; done) | exact heA | (simp [heA]; done) | omega | (simp; omega) | (have h9 := heA; simp at h9 ⊢; first | exact h9 | omega))) ?_
    iterate 5 refine pU ?_
    refine Seq.loadCellF rfl rfl rfl rfl HK1.out (v := .string B) rfl (by kernel_rfl) rfl (nZ ?_)
    refine pV (.bool false) (by intro w; go_simp <;> (first | (rw [heB]; done) | exact heB | (simp [heB]; done) | omega | (simp; omega) | (have h9 := heB; simp at h9 ⊢; first | exact h9 | omega))) ?_
    iterate 6 refine pU ?_
    iterate 3 refine nW ?_
    iterate 6 refine pU ?_
    iterate 3 refine nW ?_
    iterate 3 refine pU ?_
    refine Seq.done fun w7 hws => ?_
    have HS7 := Lib.hid hws.st
    clear hws HS6
    rcases Bool.eq_false_or_eq_true (wz t) with hwz | hwz
    · go_upto_region 7 with (fail)
      refine rgT [] HS7.out ?_
      refine pU ?_
      refine Seq.loadAtF (cs' := RT.c t) (n := 3) rfl rfl rfl rfl HK1.out (Nat.le_of_ble_eq_true rfl) (by kernel_rfl) rfl (nZ ?_)
      refine pU ?_
      refine Seq.neZ rfl rfl rfl rfl rfl hwz (nZ ?_)
      refine Seq.done fun w8 hws => ?_
      have HS8 := Lib.hid hws.st
      clear hws HS7
      go_upto_region 9 with (fail)
      refine rgT [] HS8.out ?_
      refine pU ?_
      refine pU ?_
      refine Seq.loadCellF rfl rfl rfl rfl HK1.out (v := .int .i64 5) rfl (by kernel_rfl) rfl (nZ ?_)
      refine Seq.lookI rfl rfl rfl rfl rfl (fun w h => HL9.out w h.below) (nZ ?_)
      refine Seq.alloc rfl rfl rfl (z := .agg #[.int .i64 0, .int .i64 0]) (by kernel_rfl) rfl ?_
      intro b7 _ _ hb7
      refine nZ ?_
      refine sV (n := 2) (cs' := #[.int .i64 0, .int .i64 0]) (fun u hu => by simp at hu; rcases hu with rfl | rfl <;> rfl) ?_
      refine Seq.done fun w10 hws => ?_
      have HS10 := Lib.hid (hws.q1 (p := b7))
      clear hws HS8
      have hnn : (0 : Int) ≤ (nb : Int) := by omega
      by_cases hnb : nb = 0
      rotate_left
      · have HBAD : Hid (c = 3) := Lib.hid (by rw [← HC.out]; simp [codeS, baseS, heA, heB, hwz, hnb])
        go_upto_region 10 with (fail)
        refine rgT [] HS10.out ?_
        iterate 3 refine pU ?_
        refine Seq.loadCellF rfl rfl rfl rfl HK1.out (v := (.slice X nb cb)) rfl (by kernel_rfl) rfl (nZ ?_)
        iterate 2 refine pU ?_
        refine Seq.loadCell rfl rfl rfl rfl (by repeat (first | exact mC | apply mT)) (v := .int .i64 0) rfl (by kernel_rfl) rfl (nZ ?_)
        refine pV (.bool true) (by intro w; go_simp <;> (first | (rw [hnn]; done) | exact hnn | (simp [hnn]; done) | omega | (simp; omega) | (have h9 := hnn; simp at h9 ⊢; first | exact h9 | omega))) ?_
        iterate 3 refine pU ?_
        refine Seq.loadCellF rfl rfl rfl rfl HK1.out (v := (.slice X nb cb)) rfl (by kernel_rfl) rfl (nZ ?_)
        iterate 2 refine pU ?_
        refine Seq.loadCell rfl rfl rfl rfl (by repeat (first | exact mC | apply mT)) (v := .int .i64 0) rfl (by kernel_rfl) rfl (nZ ?_)
        refine pV (.bool false) (by intro w; go_simp <;> (first | (rw [hnb]; done) | exact hnb | (simp [hnb]; done) | omega | (simp; omega) | (have h9 := hnb; simp at h9 ⊢; first | exact h9 | omega))) ?_
        iterate 2 refine pU ?_
        refine Seq.done fun w11 hws => ?_
        have HS11 := Lib.hid hws.st
        clear hws HS10
        obtain ⟨v2, v3, s2, s3, s4, hK3, hB3⟩ := most_facts (HS11.out.came HK1.out) 5 2000 rfl
        have HB := Lib.hid (HBU.out.trans ((HS11.out.below.trans (hB3.mono HS11.out.below.size)).mono HBU.out.size))
        have j0 := hK3.cell 0
        have j6 := hK3.cell 6
        simp [stC] at j0 j6
        clear hK3 hB3 HS11 HT9 HM9 HQ HL5 HL9 HK1 HBU hk0
        go_wp2_with fail
        all_goals
          go_ret
          exact ⟨ret_int HBAD.out.symm, HB.out⟩
      go_upto_region 10 with (fail)
      refine rgT [] HS10.out ?_
      iterate 3 refine pU ?_
      refine Seq.loadCellF rfl rfl rfl rfl HK1.out (v := (.slice X nb cb)) rfl (by kernel_rfl) rfl (nZ ?_)
      iterate 2 refine pU ?_
      refine Seq.loadCell rfl rfl rfl rfl (by repeat (first | exact mC | apply mT)) (v := .int .i64 0) rfl (by kernel_rfl) rfl (nZ ?_)
      refine pV (.bool true) (by intro w; go_simp <;> (first | (rw [hnn]; done) | exact hnn | (simp [hnn]; done) | omega | (simp; omega) | (have h9 := hnn; simp at h9 ⊢; first | exact h9 | omega))) ?_
      iterate 3 refine pU ?_
      refine Seq.loadCellF rfl rfl rfl rfl HK1.out (v := (.slice X nb cb)) rfl (by kernel_rfl) rfl (nZ ?_)
      iterate 2 refine pU ?_
      refine Seq.loadCell rfl rfl rfl rfl (by repeat (first | exact mC | apply mT)) (v := .int .i64 0) rfl (by kernel_rfl) rfl (nZ ?_)
      refine pV (.bool true) (by intro w; go_simp <;> (first | (rw [hnb]; done) | exact hnb | (simp [hnb]; done) | omega | (simp; omega) | (have h9 := hnb; simp at h9 ⊢; first | exact h9 | omega))) ?_
      iterate 2 refine pU ?_
      refine Seq.done fun w11 hws => ?_
      have HS11 := Lib.hid hws.st
      clear hws HS10
      by_cases hr : 1 ≤ n ∧ n ≤ 2000
      · have HGO : Hid (0 = c) := Lib.hid (by rw [← HC.out]; simp [codeS, baseS, heA, heB, hwz, hnb, hr])
        have hr1 := hr.1
        have hr2 := hr.2
        clear hr
        obtain ⟨v2, v3, s2, s3, s4, hK3, hB3⟩ := most_facts (HS11.out.came HK1.out) 5 2000 rfl
        have HB := Lib.hid (HBU.out.trans ((HS11.out.below.trans (hB3.mono HS11.out.below.size)).mono HBU.out.size))
        have j0 := hK3.cell 0
        have j6 := hK3.cell 6
        simp [stC] at j0 j6
        clear hK3 hB3 HS11 HT9 HM9 HQ HL5 HL9 HK1 HBU hk0
        go_wp2_with fail
        all_goals
          go_ret
          exact ⟨ret_int HGO.out, HB.out⟩
      · have HGO : Hid (1 = c) := Lib.hid (by rw [← HC.out]; simp [codeS, baseS, heA, heB, hwz, hnb, hr])
        have hr1 : n < 1 ∨ 2000 < n := by omega
        clear hr
        rcases hr1 with hr1 | hr1
        all_goals
          obtain ⟨v2, v3, s2, s3, s4, hK3, hB3⟩ := most_facts (HS11.out.came HK1.out) 5 2000 rfl
          have HB := Lib.hid (HBU.out.trans ((HS11.out.below.trans (hB3.mono HS11.out.below.size)).mono HBU.out.size))
          have j0 := hK3.cell 0
          have j6 := hK3.cell 6
          simp [stC] at j0 j6
          clear hK3 hB3 HS11 HT9 HM9 HQ HL5 HL9 HK1 HBU hk0
          go_wp2_with fail
          all_goals
            go_ret
            exact ⟨ret_int HGO.out, HB.out⟩
    go_upto_region 7 with (fail)
    refine rgT [] HS7.out ?_
    refine pU ?_
    refine Seq.loadAtF (cs' := RT.c t) (n := 3) rfl rfl rfl rfl HK1.out (Nat.le_of_ble_eq_true rfl) (by kernel_rfl) rfl (nZ ?_)
    refine pU ?_
    refine Seq.neZ rfl rfl rfl rfl rfl hwz (nZ ?_)
    refine Seq.done fun w8 hws => ?_
    have HS8 := Lib.hid hws.st
    clear hws HS7
    have HBAD : Hid (c = 3) := Lib.hid (by rw [← HC.out]; simp [codeS, baseS, hwz])
    go_upto_region 8 with (fail)
    refine rgT [] HS8.out ?_
    iterate 3 refine pU ?_
    refine Seq.loadCellF rfl rfl rfl rfl HK1.out (v := .int .i64 5) rfl (by kernel_rfl) rfl (nZ ?_)
    iterate 3 refine pU ?_
    iterate 3 refine nW ?_
    iterate 2 refine pU ?_
    iterate 3 refine nW ?_
    iterate 2 refine pU ?_
    iterate 4 refine nW ?_
    iterate 2 refine pU ?_
    refine Seq.done fun w9 hws => ?_
    have HS9 := Lib.hid hws.st
    clear hws HS8
    go_upto_region 9 with (fail)
    refine rgT [] HS9.out ?_
    refine pU ?_
    refine pU ?_
    refine Seq.loadCellF rfl rfl rfl rfl HK1.out (v := .int .i64 5) rfl (by kernel_rfl) rfl (nZ ?_)
    refine Seq.lookI rfl rfl rfl rfl rfl (fun w h => HL9.out w h.below) (nZ ?_)
    refine Seq.alloc rfl rfl rfl (z := .agg #[.int .i64 0, .int .i64 0]) (by kernel_rfl) rfl ?_
    intro b7 _ _ hb7
    refine nZ ?_
    refine sV (n := 2) (cs' := #[.int .i64 0, .int .i64 0]) (fun u hu => by simp at hu; rcases hu with rfl | rfl <;> rfl) ?_
    refine Seq.done fun w10 hws => ?_
    have HS10 := Lib.hid (hws.q1 (p := b7))
    clear hws HS9
    go_upto_region 10 with (fail)
    refine rgT [] HS10.out ?_
    iterate 2 refine pU ?_
    iterate 6 refine nW ?_
    iterate 2 refine pU ?_
    iterate 6 refine nW ?_
    iterate 2 refine pU ?_
    refine Seq.done fun w11 hws => ?_
    have HS11 := Lib.hid hws.st
    clear hws HS10
    obtain ⟨v2, v3, s2, s3, s4, hK3, hB3⟩ := most_facts (HS11.out.came HK1.out) 5 2000 rfl
    have HB := Lib.hid (HBU.out.trans ((HS11.out.below.trans (hB3.mono HS11.out.below.size)).mono HBU.out.size))
    have j0 := hK3.cell 0
    have j6 := hK3.cell 6
    simp [stC] at j0 j6
    clear hK3 hB3 HS11 HT9 HM9 HQ HL5 HL9 HK1 HBU hk0
    go_wp2_with fail
    all_goals
      go_ret
      exact ⟨ret_int HBAD.out.symm, HB.out⟩
  all_goals
    rcases Bool.eq_false_or_eq_true (wz t) with hwz | hwz
    focus
      go_upto_region 7 with (fail)
      refine rgT [] HS7.out ?_
      refine pU ?_
      refine Seq.loadAtF (cs' := RT.c t) (n := 3) rfl rfl rfl rfl HK1.out (Nat.le_of_ble_eq_true rfl) (by kernel_rfl) rfl (nZ ?_)
      refine pU ?_
      refine Seq.neZ rfl rfl rfl rfl rfl hwz (nZ ?_)
      refine Seq.done fun w8 hws => ?_
      have HS8 := Lib.hid hws.st
      clear hws HS7
      have HS9 := HS8
      clear HS8
    rotate_left
    focus
      go_upto_region 7 with (fail)
      refine rgT [] HS7.out ?_
      refine pU ?_
      refine Seq.loadAtF (cs' := RT.c t) (n := 3) rfl rfl rfl rfl HK1.out (Nat.le_of_ble_eq_true rfl) (by kernel_rfl) rfl (nZ ?_)
      refine pU ?_
      refine Seq.neZ rfl rfl rfl rfl rfl hwz (nZ ?_)
      refine Seq.done fun w8 hws => ?_
      have HS8 := Lib.hid hws.st
      clear hws HS7
      go_upto_region 8 with (fail)
      refine rgT [] HS8.out ?_
      iterate 2 refine pU ?_
      iterate 3 refine nW ?_
      iterate 2 refine pU ?_
      iterate 3 refine nW ?_
      iterate 2 refine pU ?_
      iterate 3 refine nW ?_
      iterate 2 refine pU ?_
      iterate 4 refine nW ?_
      iterate 2 refine pU ?_
      refine Seq.done fun w9 hws => ?_
      have HS9 := Lib.hid hws.st
      clear hws HS8
    rotate_left
    all_goals
      go_upto_region 9 with (fail)
      refine rgT [] HS9.out ?_
      refine pU ?_
      refine pU ?_
      refine Seq.loadCellF rfl rfl rfl rfl HK1.out (v := .int .i64 5) rfl (by kernel_rfl) rfl (nZ ?_)
      refine Seq.lookI rfl rfl rfl rfl rfl (fun w h => HL9.out w h.below) (nZ ?_)
      refine Seq.alloc rfl rfl rfl (z := .agg #[.int .i64 0, .int .i64 0]) (by kernel_rfl) rfl ?_
      intro b7 _ _ hb7
      refine nZ ?_
      refine sV (n := 2) (cs' := #[.int .i64 0, .int .i64 0]) (fun u hu => by simp at hu; rcases hu with rfl | rfl <;> rfl) ?_
      refine Seq.done fun w10 hws => ?_
      have HS10 := Lib.hid (hws.q1 (p := b7))
      clear hws HS9
      go_upto_region 10 with (fail)
      refine rgT [] HS10.out ?_
      iterate 2 refine pU ?_
      iterate 6 refine nW ?_
      iterate 2 refine pU ?_
      iterate 6 refine nW ?_
      iterate 2 refine pU ?_
      refine Seq.done fun w11 hws => ?_
      have HS11 := Lib.hid hws.st
      clear hws HS10
      obtain ⟨v2, v3, s2, s3, s4, hK3, hB3⟩ := most_facts (HS11.out.came HK1.out) 5 2000 rfl
      have HB := Lib.hid (HBU.out.trans ((HS11.out.below.trans (hB3.mono HS11.out.below.size)).mono HBU.out.size))
      have j0 := hK3.cell 0
      have j6 := hK3.cell 6
      simp [stC] at j0 j6
      clear hK3 hB3 HS11 HT9 HM9 HQ HL5 HL9 HK1 HBU hk0
      go_wp2_with fail
      all_goals
        go_ret
        exact ⟨ret_int HBAD.out.symm, HB.out⟩
end Go.Proofs.YtekbpiooecdopaaDoor
