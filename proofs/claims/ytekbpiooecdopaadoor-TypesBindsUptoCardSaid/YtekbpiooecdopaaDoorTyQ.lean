/- parse.plain at statements without blocks: the other kinds (printed by typ.py). -/
import Derived.Test.YtekbpiooecdopaaDoorTyP

namespace Go.Proofs.YtekbpiooecdopaaDoor
open Go.RowKit
set_option linter.unusedVariables false
set_option linter.unusedSimpArgs false

set_option maxHeartbeats 8000000 in
set_option maxRecDepth 20000 in
theorem plain2_q {n : Int} {A B : ByteArray} {t : RT} {X : Option Addr} {nb cb : Nat} {q : Rat} {g : Bool} {c : Int} {W : World} {l : List Own} (hT : Tab W) (hq : RawT 1048576 q g t) (hc : codeS 2 n A B t q g nb = c) (w : World) (h : St W l w) :
    Calls Tryd.prog 45 #[.agg (stC 2 n A B t (.slice X nb cb))] w fun e w' => e = .returned (.int .i64 c) ∧ Below w.heap.size w w' := by
  have HT := Lib.hid (tabS hT h); clear hT h
  have HQ := Lib.hid hq; clear hq
  have HC := Lib.hid hc; clear hc
  have HS0 : Hid (St w [] w) := Lib.hid St.start
  go_enter Tryd.func45, Tryd.ntmps45
  go_upto_region 0 with (fail)
  refine rgT [] HS0.out ?_
  refine bX (stC 2 n A B t (.slice X nb cb)) ?_
  intro b1 _ _ hb1
  refine nZ ?_
  refine pU ?_
  refine Seq.done fun w0 hws => ?_
  have HS1 := Lib.hid (hws.q1 (p := b1))
  clear hws HS0
  go_upto_region 1 with (fail)
  refine rgT [] HS1.out ?_
  refine pV (.agg #[.bool false, .string ⟨#[]⟩, .string ⟨#[]⟩]) (by intro w; go_simp; try rfl) ?_
  refine aL3 ?_
  intro b3 _ _ hb3
  refine nZ ?_
  refine sV (n := 3) (cs' := #[.bool false, .string ⟨#[]⟩, .string ⟨#[]⟩]) (fun u hu => by simp at hu; rcases hu with rfl | rfl | rfl <;> rfl) ?_
  refine Seq.done fun w1 hws => ?_
  have HS2 := Lib.hid (hws.q1 (p := b3))
  clear hws HS1
  by_cases hnb : nb = 0
  rotate_left
  · go_upto_region 2 with (fail)
    refine rgT [] HS2.out ?_
    refine pU ?_
    refine Seq.loadCell rfl rfl rfl rfl (by repeat (first | exact mC | apply mT)) (v := (.slice X nb cb)) rfl (by kernel_rfl) rfl (nZ ?_)
    refine pU ?_
    refine pV (.bool true) (by intro w; go_simp <;> (first | (rw [hnb]; done) | exact hnb | (simp [hnb]; done) | omega | (simp; omega) | (have h9 := hnb; simp at h9 ⊢; first | exact h9 | omega))) ?_
    refine pU ?_
    iterate 9 refine nW ?_
    iterate 2 refine pU ?_
    iterate 8 refine nW ?_
    refine pU ?_
    refine Seq.done fun w3 hws => ?_
    have HS3 := Lib.hid hws.st
    clear hws HS2
    have HB := Lib.hid HS3.out.below
    clear HS3
    go_wp2_with fail
    go_ret
    exact ⟨ret_int (by rw [← HC.out]; simp [codeS, baseS, hnb]), HB.out⟩
  rcases Bool.eq_false_or_eq_true (wz t) with hwz | hwz
  rotate_left
  · go_upto_region 2 with (fail)
    refine rgT [] HS2.out ?_
    refine pU ?_
    refine Seq.loadCell rfl rfl rfl rfl (by repeat (first | exact mC | apply mT)) (v := (.slice X nb cb)) rfl (by kernel_rfl) rfl (nZ ?_)
    refine pU ?_
    refine pV (.bool false) (by intro w; go_simp <;> (first | (rw [hnb]; done) | exact hnb | (simp [hnb]; done) | omega | (simp; omega) | (have h9 := hnb; simp at h9 ⊢; first | exact h9 | omega))) ?_
    iterate 2 refine pU ?_
    refine Seq.loadCell rfl rfl rfl rfl (by repeat (first | exact mC | apply mT)) (v := .int .i64 2) rfl (by kernel_rfl) rfl (nZ ?_)
    iterate 3 refine pU ?_
    refine lA (RT.c t) ?_
    refine lV ?_
    refine Seq.neZ rfl rfl rfl rfl rfl hwz (nZ ?_)
    iterate 3 refine pU ?_
    iterate 8 refine nW ?_
    refine pU ?_
    refine Seq.done fun w3 hws => ?_
    have HS3 := Lib.hid hws.st
    clear hws HS2
    have HB := Lib.hid HS3.out.below
    clear HS3
    go_wp2_with fail
    go_ret
    exact ⟨ret_int (by rw [← HC.out]; simp [codeS, baseS, hnb, hwz]), HB.out⟩
  by_cases hn : n = 0
  rotate_left
  · go_upto_region 2 with (fail)
    refine rgT [] HS2.out ?_
    refine pU ?_
    refine Seq.loadCell rfl rfl rfl rfl (by repeat (first | exact mC | apply mT)) (v := (.slice X nb cb)) rfl (by kernel_rfl) rfl (nZ ?_)
    refine pU ?_
    refine pV (.bool false) (by intro w; go_simp <;> (first | (rw [hnb]; done) | exact hnb | (simp [hnb]; done) | omega | (simp; omega) | (have h9 := hnb; simp at h9 ⊢; first | exact h9 | omega))) ?_
    iterate 2 refine pU ?_
    refine Seq.loadCell rfl rfl rfl rfl (by repeat (first | exact mC | apply mT)) (v := .int .i64 2) rfl (by kernel_rfl) rfl (nZ ?_)
    iterate 3 refine pU ?_
    refine lA (RT.c t) ?_
    refine lV ?_
    refine Seq.neZ rfl rfl rfl rfl rfl hwz (nZ ?_)
    iterate 4 refine pU ?_
    refine Seq.loadCell rfl rfl rfl rfl (by repeat (first | exact mC | apply mT)) (v := .int .i64 2) rfl (by kernel_rfl) rfl (nZ ?_)
    iterate 3 refine pU ?_
    refine Seq.loadCell rfl rfl rfl rfl (by repeat (first | exact mC | apply mT)) (v := .int .i64 n) rfl (by kernel_rfl) rfl (nZ ?_)
    refine pV (.bool true) (by intro w; go_simp <;> (first | (rw [hn]; done) | exact hn | (simp [hn]; done) | omega | (simp; omega) | (have h9 := hn; simp at h9 ⊢; first | exact h9 | omega))) ?_
    iterate 2 refine pU ?_
    refine Seq.done fun w3 hws => ?_
    have HS3 := Lib.hid hws.st
    clear hws HS2
    have HB := Lib.hid HS3.out.below
    clear HS3
    go_wp2_with fail
    go_ret
    exact ⟨ret_int (by rw [← HC.out]; simp [codeS, baseS, hnb, hwz, hn]), HB.out⟩
  go_upto_region 2 with (fail)
  refine rgT [] HS2.out ?_
  refine pU ?_
  refine Seq.loadCell rfl rfl rfl rfl (by repeat (first | exact mC | apply mT)) (v := (.slice X nb cb)) rfl (by kernel_rfl) rfl (nZ ?_)
  refine pU ?_
  refine pV (.bool false) (by intro w; go_simp <;> (first | (rw [hnb]; done) | exact hnb | (simp [hnb]; done) | omega | (simp; omega) | (have h9 := hnb; simp at h9 ⊢; first | exact h9 | omega))) ?_
  iterate 2 refine pU ?_
  refine Seq.loadCell rfl rfl rfl rfl (by repeat (first | exact mC | apply mT)) (v := .int .i64 2) rfl (by kernel_rfl) rfl (nZ ?_)
  iterate 3 refine pU ?_
  refine lA (RT.c t) ?_
  refine lV ?_
  refine Seq.neZ rfl rfl rfl rfl rfl hwz (nZ ?_)
  iterate 4 refine pU ?_
  refine Seq.loadCell rfl rfl rfl rfl (by repeat (first | exact mC | apply mT)) (v := .int .i64 2) rfl (by kernel_rfl) rfl (nZ ?_)
  iterate 3 refine pU ?_
  refine Seq.loadCell rfl rfl rfl rfl (by repeat (first | exact mC | apply mT)) (v := .int .i64 n) rfl (by kernel_rfl) rfl (nZ ?_)
  refine pV (.bool false) (by intro w; go_simp <;> (first | (rw [hn]; done) | exact hn | (simp [hn]; done) | omega | (simp; omega) | (have h9 := hn; simp at h9 ⊢; first | exact h9 | omega))) ?_
  iterate 2 refine pU ?_
  refine Seq.done fun w3 hws => ?_
  have HS3 := Lib.hid hws.st
  clear hws HS2
  go_upto_region 4 with (fail)
  refine rgT [] HS3.out ?_
  refine pU ?_
  refine Seq.loadCell rfl rfl rfl rfl (by repeat (first | exact mC | apply mT)) (v := .int .i64 2) rfl (by kernel_rfl) rfl (nZ ?_)
  iterate 3 refine pU ?_
  refine Seq.loadCell rfl rfl rfl rfl (by repeat (first | exact mC | apply mT)) (v := .int .i64 2) rfl (by kernel_rfl) rfl (nZ ?_)
  iterate 3 refine pU ?_
  refine Seq.done fun w5 hws => ?_
  have HS5 := Lib.hid hws.st
  clear hws HS3
  rcases Bool.eq_false_or_eq_true (freeB (bl A)) with hfA | hfA
  rotate_left
  · go_upto_region 5 with (fail)
    refine rgT [] HS5.out ?_
    refine pU ?_
    refine Seq.loadCell rfl rfl rfl rfl (by repeat (first | exact mC | apply mT)) (v := .int .i64 2) rfl (by kernel_rfl) rfl (nZ ?_)
    iterate 2 refine pU ?_
    iterate 3 refine nW ?_
    iterate 3 refine pU ?_
    refine Seq.loadCell rfl rfl rfl rfl (by repeat (first | exact mC | apply mT)) (v := .int .i64 2) rfl (by kernel_rfl) rfl (nZ ?_)
    iterate 3 refine pU ?_
    refine Seq.loadCell rfl rfl rfl rfl (by repeat (first | exact mC | apply mT)) (v := .string A) rfl (by kernel_rfl) rfl (nZ ?_)
    refine cX rfl rfl (fun w _ => name_any A w hfA) ?_
    iterate 4 refine pU ?_
    iterate 7 refine nW ?_
    iterate 2 refine pU ?_
    iterate 7 refine nW ?_
    refine pU ?_
    refine Seq.done fun w6 hws => ?_
    have HS6 := Lib.hid hws.st
    clear hws HS5
    have HB := Lib.hid HS6.out.below
    clear HS6
    go_wp2_with fail
    go_ret
    exact ⟨ret_int (by rw [← HC.out]; simp [codeS, baseS, hnb, hwz, hn, hfA]), HB.out⟩
  rcases Bool.eq_false_or_eq_true (freeB (bl B)) with hfB | hfB
  rotate_left
  · go_upto_region 5 with (fail)
    refine rgT [] HS5.out ?_
    refine pU ?_
    refine Seq.loadCell rfl rfl rfl rfl (by repeat (first | exact mC | apply mT)) (v := .int .i64 2) rfl (by kernel_rfl) rfl (nZ ?_)
    iterate 2 refine pU ?_
    iterate 3 refine nW ?_
    iterate 3 refine pU ?_
    refine Seq.loadCell rfl rfl rfl rfl (by repeat (first | exact mC | apply mT)) (v := .int .i64 2) rfl (by kernel_rfl) rfl (nZ ?_)
    iterate 3 refine pU ?_
    refine Seq.loadCell rfl rfl rfl rfl (by repeat (first | exact mC | apply mT)) (v := .string A) rfl (by kernel_rfl) rfl (nZ ?_)
    refine cX rfl rfl (fun w _ => name_any A w hfA) ?_
    iterate 7 refine pU ?_
    refine Seq.loadCell rfl rfl rfl rfl (by repeat (first | exact mC | apply mT)) (v := .string B) rfl (by kernel_rfl) rfl (nZ ?_)
    refine cX rfl rfl (fun w _ => name_any B w hfB) ?_
    iterate 4 refine pU ?_
    iterate 7 refine nW ?_
    refine pU ?_
    refine Seq.done fun w6 hws => ?_
    have HS6 := Lib.hid hws.st
    clear hws HS5
    have HB := Lib.hid HS6.out.below
    clear HS6
    go_wp2_with fail
    go_ret
    exact ⟨ret_int (by rw [← HC.out]; simp [codeS, baseS, hnb, hwz, hn, hfA, hfB]), HB.out⟩
  go_upto_region 5 with (fail)
  refine rgT [] HS5.out ?_
  refine pU ?_
  refine Seq.loadCell rfl rfl rfl rfl (by repeat (first | exact mC | apply mT)) (v := .int .i64 2) rfl (by kernel_rfl) rfl (nZ ?_)
  iterate 2 refine pU ?_
  iterate 3 refine nW ?_
  iterate 3 refine pU ?_
  refine Seq.loadCell rfl rfl rfl rfl (by repeat (first | exact mC | apply mT)) (v := .int .i64 2) rfl (by kernel_rfl) rfl (nZ ?_)
  iterate 3 refine pU ?_
  refine Seq.loadCell rfl rfl rfl rfl (by repeat (first | exact mC | apply mT)) (v := .string A) rfl (by kernel_rfl) rfl (nZ ?_)
  refine cX rfl rfl (fun w _ => name_any A w hfA) ?_
  iterate 7 refine pU ?_
  refine Seq.loadCell rfl rfl rfl rfl (by repeat (first | exact mC | apply mT)) (v := .string B) rfl (by kernel_rfl) rfl (nZ ?_)
  refine cX rfl rfl (fun w _ => name_any B w hfB) ?_
  iterate 7 refine pU ?_
  iterate 3 refine nW ?_
  iterate 2 refine pU ?_
  refine Seq.done fun w6 hws => ?_
  have HS6 := Lib.hid hws.st
  clear hws HS5
  go_upto_region 7 with (fail)
  refine rgT [] HS6.out ?_
  refine pU ?_
  refine Seq.loadCell rfl rfl rfl rfl (by repeat (first | exact mC | apply mT)) (v := .int .i64 2) rfl (by kernel_rfl) rfl (nZ ?_)
  iterate 2 refine pU ?_
  iterate 4 refine nW ?_
  iterate 2 refine pU ?_
  iterate 16 refine nW ?_
  refine pU ?_
  refine Seq.done fun w8 hws => ?_
  have HS8 := Lib.hid hws.st
  clear hws HS6
  go_upto_region 9 with (fail)
  refine rgT [] HS8.out ?_
  refine pU ?_
  refine Seq.loadCell rfl rfl rfl rfl (by repeat (first | exact mC | apply mT)) (v := .int .i64 2) rfl (by kernel_rfl) rfl (nZ ?_)
  iterate 2 refine pU ?_
  iterate 8 refine nW ?_
  refine pU ?_
  refine Seq.done fun w10 hws => ?_
  have HS10 := Lib.hid hws.st
  clear hws HS8
  have HB := Lib.hid HS10.out.below
  clear HS10
  go_wp2_with fail
  go_ret
  exact ⟨ret_int (by rw [← HC.out]; simp [codeS, baseS, hnb, hwz, hn, hfA, hfB]), HB.out⟩
set_option maxHeartbeats 8000000 in
set_option maxRecDepth 20000 in
theorem plain3_q {n : Int} {A B : ByteArray} {t : RT} {X : Option Addr} {nb cb : Nat} {q : Rat} {g : Bool} {c : Int} {W : World} {l : List Own} (hT : Tab W) (hq : RawT 1048576 q g t) (hc : codeS 3 n A B t q g nb = c) (w : World) (h : St W l w) :
    Calls Tryd.prog 45 #[.agg (stC 3 n A B t (.slice X nb cb))] w fun e w' => e = .returned (.int .i64 c) ∧ Below w.heap.size w w' := by
  have HT := Lib.hid (tabS hT h); clear hT h
  have HQ := Lib.hid hq; clear hq
  have HC := Lib.hid hc; clear hc
  have HS0 : Hid (St w [] w) := Lib.hid St.start
  go_enter Tryd.func45, Tryd.ntmps45
  go_upto_region 0 with (fail)
  refine rgT [] HS0.out ?_
  refine bX (stC 3 n A B t (.slice X nb cb)) ?_
  intro b1 _ _ hb1
  refine nZ ?_
  refine pU ?_
  refine Seq.done fun w0 hws => ?_
  have HS1 := Lib.hid (hws.q1 (p := b1))
  clear hws HS0
  go_upto_region 1 with (fail)
  refine rgT [] HS1.out ?_
  refine pV (.agg #[.bool false, .string ⟨#[]⟩, .string ⟨#[]⟩]) (by intro w; go_simp; try rfl) ?_
  refine aL3 ?_
  intro b3 _ _ hb3
  refine nZ ?_
  refine sV (n := 3) (cs' := #[.bool false, .string ⟨#[]⟩, .string ⟨#[]⟩]) (fun u hu => by simp at hu; rcases hu with rfl | rfl | rfl <;> rfl) ?_
  refine Seq.done fun w1 hws => ?_
  have HS2 := Lib.hid (hws.q1 (p := b3))
  clear hws HS1
  by_cases hnb : nb = 0
  rotate_left
  · go_upto_region 2 with (fail)
    refine rgT [] HS2.out ?_
    refine pU ?_
    refine Seq.loadCell rfl rfl rfl rfl (by repeat (first | exact mC | apply mT)) (v := (.slice X nb cb)) rfl (by kernel_rfl) rfl (nZ ?_)
    refine pU ?_
    refine pV (.bool true) (by intro w; go_simp <;> (first | (rw [hnb]; done) | exact hnb | (simp [hnb]; done) | omega | (simp; omega) | (have h9 := hnb; simp at h9 ⊢; first | exact h9 | omega))) ?_
    refine pU ?_
    iterate 9 refine nW ?_
    iterate 2 refine pU ?_
    iterate 8 refine nW ?_
    refine pU ?_
    refine Seq.done fun w3 hws => ?_
    have HS3 := Lib.hid hws.st
    clear hws HS2
    have HB := Lib.hid HS3.out.below
    clear HS3
    go_wp2_with fail
    go_ret
    exact ⟨ret_int (by rw [← HC.out]; simp [codeS, baseS, hnb]), HB.out⟩
  rcases Bool.eq_false_or_eq_true (wz t) with hwz | hwz
  rotate_left
  · go_upto_region 2 with (fail)
    refine rgT [] HS2.out ?_
    refine pU ?_
    refine Seq.loadCell rfl rfl rfl rfl (by repeat (first | exact mC | apply mT)) (v := (.slice X nb cb)) rfl (by kernel_rfl) rfl (nZ ?_)
    refine pU ?_
    refine pV (.bool false) (by intro w; go_simp <;> (first | (rw [hnb]; done) | exact hnb | (simp [hnb]; done) | omega | (simp; omega) | (have h9 := hnb; simp at h9 ⊢; first | exact h9 | omega))) ?_
    iterate 2 refine pU ?_
    refine Seq.loadCell rfl rfl rfl rfl (by repeat (first | exact mC | apply mT)) (v := .int .i64 3) rfl (by kernel_rfl) rfl (nZ ?_)
    iterate 3 refine pU ?_
    refine lA (RT.c t) ?_
    refine lV ?_
    refine Seq.neZ rfl rfl rfl rfl rfl hwz (nZ ?_)
    iterate 3 refine pU ?_
    iterate 8 refine nW ?_
    refine pU ?_
    refine Seq.done fun w3 hws => ?_
    have HS3 := Lib.hid hws.st
    clear hws HS2
    have HB := Lib.hid HS3.out.below
    clear HS3
    go_wp2_with fail
    go_ret
    exact ⟨ret_int (by rw [← HC.out]; simp [codeS, baseS, hnb, hwz]), HB.out⟩
  by_cases hn : n = 0
  rotate_left
  · go_upto_region 2 with (fail)
    refine rgT [] HS2.out ?_
    refine pU ?_
    refine Seq.loadCell rfl rfl rfl rfl (by repeat (first | exact mC | apply mT)) (v := (.slice X nb cb)) rfl (by kernel_rfl) rfl (nZ ?_)
    refine pU ?_
    refine pV (.bool false) (by intro w; go_simp <;> (first | (rw [hnb]; done) | exact hnb | (simp [hnb]; done) | omega | (simp; omega) | (have h9 := hnb; simp at h9 ⊢; first | exact h9 | omega))) ?_
    iterate 2 refine pU ?_
    refine Seq.loadCell rfl rfl rfl rfl (by repeat (first | exact mC | apply mT)) (v := .int .i64 3) rfl (by kernel_rfl) rfl (nZ ?_)
    iterate 3 refine pU ?_
    refine lA (RT.c t) ?_
    refine lV ?_
    refine Seq.neZ rfl rfl rfl rfl rfl hwz (nZ ?_)
    iterate 4 refine pU ?_
    refine Seq.loadCell rfl rfl rfl rfl (by repeat (first | exact mC | apply mT)) (v := .int .i64 3) rfl (by kernel_rfl) rfl (nZ ?_)
    iterate 3 refine pU ?_
    refine Seq.loadCell rfl rfl rfl rfl (by repeat (first | exact mC | apply mT)) (v := .int .i64 n) rfl (by kernel_rfl) rfl (nZ ?_)
    refine pV (.bool true) (by intro w; go_simp <;> (first | (rw [hn]; done) | exact hn | (simp [hn]; done) | omega | (simp; omega) | (have h9 := hn; simp at h9 ⊢; first | exact h9 | omega))) ?_
    iterate 2 refine pU ?_
    refine Seq.done fun w3 hws => ?_
    have HS3 := Lib.hid hws.st
    clear hws HS2
    have HB := Lib.hid HS3.out.below
    clear HS3
    go_wp2_with fail
    go_ret
    exact ⟨ret_int (by rw [← HC.out]; simp [codeS, baseS, hnb, hwz, hn]), HB.out⟩
  go_upto_region 2 with (fail)
  refine rgT [] HS2.out ?_
  refine pU ?_
  refine Seq.loadCell rfl rfl rfl rfl (by repeat (first | exact mC | apply mT)) (v := (.slice X nb cb)) rfl (by kernel_rfl) rfl (nZ ?_)
  refine pU ?_
  refine pV (.bool false) (by intro w; go_simp <;> (first | (rw [hnb]; done) | exact hnb | (simp [hnb]; done) | omega | (simp; omega) | (have h9 := hnb; simp at h9 ⊢; first | exact h9 | omega))) ?_
  iterate 2 refine pU ?_
  refine Seq.loadCell rfl rfl rfl rfl (by repeat (first | exact mC | apply mT)) (v := .int .i64 3) rfl (by kernel_rfl) rfl (nZ ?_)
  iterate 3 refine pU ?_
  refine lA (RT.c t) ?_
  refine lV ?_
  refine Seq.neZ rfl rfl rfl rfl rfl hwz (nZ ?_)
  iterate 4 refine pU ?_
  refine Seq.loadCell rfl rfl rfl rfl (by repeat (first | exact mC | apply mT)) (v := .int .i64 3) rfl (by kernel_rfl) rfl (nZ ?_)
  iterate 3 refine pU ?_
  refine Seq.loadCell rfl rfl rfl rfl (by repeat (first | exact mC | apply mT)) (v := .int .i64 n) rfl (by kernel_rfl) rfl (nZ ?_)
  refine pV (.bool false) (by intro w; go_simp <;> (first | (rw [hn]; done) | exact hn | (simp [hn]; done) | omega | (simp; omega) | (have h9 := hn; simp at h9 ⊢; first | exact h9 | omega))) ?_
  iterate 2 refine pU ?_
  refine Seq.done fun w3 hws => ?_
  have HS3 := Lib.hid hws.st
  clear hws HS2
  go_upto_region 4 with (fail)
  refine rgT [] HS3.out ?_
  refine pU ?_
  refine Seq.loadCell rfl rfl rfl rfl (by repeat (first | exact mC | apply mT)) (v := .int .i64 3) rfl (by kernel_rfl) rfl (nZ ?_)
  iterate 3 refine pU ?_
  refine Seq.loadCell rfl rfl rfl rfl (by repeat (first | exact mC | apply mT)) (v := .int .i64 3) rfl (by kernel_rfl) rfl (nZ ?_)
  iterate 3 refine pU ?_
  refine Seq.done fun w5 hws => ?_
  have HS5 := Lib.hid hws.st
  clear hws HS3
  rcases Bool.eq_false_or_eq_true (freeB (bl A)) with hfA | hfA
  rotate_left
  · go_upto_region 5 with (fail)
    refine rgT [] HS5.out ?_
    refine pU ?_
    refine Seq.loadCell rfl rfl rfl rfl (by repeat (first | exact mC | apply mT)) (v := .int .i64 3) rfl (by kernel_rfl) rfl (nZ ?_)
    iterate 2 refine pU ?_
    iterate 3 refine nW ?_
    iterate 3 refine pU ?_
    refine Seq.loadCell rfl rfl rfl rfl (by repeat (first | exact mC | apply mT)) (v := .int .i64 3) rfl (by kernel_rfl) rfl (nZ ?_)
    iterate 3 refine pU ?_
    refine Seq.loadCell rfl rfl rfl rfl (by repeat (first | exact mC | apply mT)) (v := .string A) rfl (by kernel_rfl) rfl (nZ ?_)
    refine cX rfl rfl (fun w _ => name_any A w hfA) ?_
    iterate 4 refine pU ?_
    iterate 7 refine nW ?_
    iterate 2 refine pU ?_
    iterate 7 refine nW ?_
    refine pU ?_
    refine Seq.done fun w6 hws => ?_
    have HS6 := Lib.hid hws.st
    clear hws HS5
    have HB := Lib.hid HS6.out.below
    clear HS6
    go_wp2_with fail
    go_ret
    exact ⟨ret_int (by rw [← HC.out]; simp [codeS, baseS, hnb, hwz, hn, hfA]), HB.out⟩
  rcases Bool.eq_false_or_eq_true (B.toList.isEmpty) with heB | heB
  rotate_left
  · go_upto_region 5 with (fail)
    refine rgT [] HS5.out ?_
    refine pU ?_
    refine Seq.loadCell rfl rfl rfl rfl (by repeat (first | exact mC | apply mT)) (v := .int .i64 3) rfl (by kernel_rfl) rfl (nZ ?_)
    iterate 2 refine pU ?_
    iterate 3 refine nW ?_
    iterate 3 refine pU ?_
    refine Seq.loadCell rfl rfl rfl rfl (by repeat (first | exact mC | apply mT)) (v := .int .i64 3) rfl (by kernel_rfl) rfl (nZ ?_)
    iterate 3 refine pU ?_
    refine Seq.loadCell rfl rfl rfl rfl (by repeat (first | exact mC | apply mT)) (v := .string A) rfl (by kernel_rfl) rfl (nZ ?_)
    refine cX rfl rfl (fun w _ => name_any A w hfA) ?_
    iterate 6 refine pU ?_
    iterate 4 refine nW ?_
    iterate 7 refine pU ?_
    refine Seq.loadCell rfl rfl rfl rfl (by repeat (first | exact mC | apply mT)) (v := .string B) rfl (by kernel_rfl) rfl (nZ ?_)
    refine pV (.bool true) (by intro w; go_simp <;> (first | (rw [heB]; done) | exact heB | (simp [heB]; done) | omega | (simp; omega) | (have h9 := heB; simp at h9 ⊢; first | exact h9 | omega))) ?_
    iterate 2 refine pU ?_
    refine Seq.done fun w6 hws => ?_
    have HS6 := Lib.hid hws.st
    clear hws HS5
    have HB := Lib.hid HS6.out.below
    clear HS6
    go_wp2_with fail
    go_ret
    exact ⟨ret_int (by rw [← HC.out]; simp [codeS, baseS, hnb, hwz, hn, hfA, heB]), HB.out⟩
  go_upto_region 5 with (fail)
  refine rgT [] HS5.out ?_
  refine pU ?_
  refine Seq.loadCell rfl rfl rfl rfl (by repeat (first | exact mC | apply mT)) (v := .int .i64 3) rfl (by kernel_rfl) rfl (nZ ?_)
  iterate 2 refine pU ?_
  iterate 3 refine nW ?_
  iterate 3 refine pU ?_
  refine Seq.loadCell rfl rfl rfl rfl (by repeat (first | exact mC | apply mT)) (v := .int .i64 3) rfl (by kernel_rfl) rfl (nZ ?_)
  iterate 3 refine pU ?_
  refine Seq.loadCell rfl rfl rfl rfl (by repeat (first | exact mC | apply mT)) (v := .string A) rfl (by kernel_rfl) rfl (nZ ?_)
  refine cX rfl rfl (fun w _ => name_any A w hfA) ?_
  iterate 6 refine pU ?_
  iterate 4 refine nW ?_
  iterate 7 refine pU ?_
  refine Seq.loadCell rfl rfl rfl rfl (by repeat (first | exact mC | apply mT)) (v := .string B) rfl (by kernel_rfl) rfl (nZ ?_)
  refine pV (.bool false) (by intro w; go_simp <;> (first | (rw [heB]; done) | exact heB | (simp [heB]; done) | omega | (simp; omega) | (have h9 := heB; simp at h9 ⊢; first | exact h9 | omega))) ?_
  iterate 2 refine pU ?_
  refine Seq.done fun w6 hws => ?_
  have HS6 := Lib.hid hws.st
  clear hws HS5
  go_upto_region 7 with (fail)
  refine rgT [] HS6.out ?_
  refine pU ?_
  refine Seq.loadCell rfl rfl rfl rfl (by repeat (first | exact mC | apply mT)) (v := .int .i64 3) rfl (by kernel_rfl) rfl (nZ ?_)
  iterate 2 refine pU ?_
  iterate 4 refine nW ?_
  iterate 2 refine pU ?_
  iterate 16 refine nW ?_
  refine pU ?_
  refine Seq.done fun w8 hws => ?_
  have HS8 := Lib.hid hws.st
  clear hws HS6
  go_upto_region 9 with (fail)
  refine rgT [] HS8.out ?_
  refine pU ?_
  refine Seq.loadCell rfl rfl rfl rfl (by repeat (first | exact mC | apply mT)) (v := .int .i64 3) rfl (by kernel_rfl) rfl (nZ ?_)
  iterate 2 refine pU ?_
  iterate 8 refine nW ?_
  refine pU ?_
  refine Seq.done fun w10 hws => ?_
  have HS10 := Lib.hid hws.st
  clear hws HS8
  have HB := Lib.hid HS10.out.below
  clear HS10
  go_wp2_with fail
  go_ret
  exact ⟨ret_int (by rw [← HC.out]; simp [codeS, baseS, hnb, hwz, hn, hfA, heB]), HB.out⟩
set_option maxHeartbeats 8000000 in
set_option maxRecDepth 20000 in
theorem plain4_q {n : Int} {A B : ByteArray} {t : RT} {X : Option Addr} {nb cb : Nat} {q : Rat} {g : Bool} {c : Int} {W : World} {l : List Own} (hT : Tab W) (hq : RawT 1048576 q g t) (hc : codeS 4 n A B t q g nb = c) (w : World) (h : St W l w) :
    Calls Tryd.prog 45 #[.agg (stC 4 n A B t (.slice X nb cb))] w fun e w' => e = .returned (.int .i64 c) ∧ Below w.heap.size w w' := by
  have HT := Lib.hid (tabS hT h); clear hT h
  have HQ := Lib.hid hq; clear hq
  have HC := Lib.hid hc; clear hc
  have HS0 : Hid (St w [] w) := Lib.hid St.start
  go_enter Tryd.func45, Tryd.ntmps45
  go_upto_region 0 with (fail)
  refine rgT [] HS0.out ?_
  refine bX (stC 4 n A B t (.slice X nb cb)) ?_
  intro b1 _ _ hb1
  refine nZ ?_
  refine pU ?_
  refine Seq.done fun w0 hws => ?_
  have HS1 := Lib.hid (hws.q1 (p := b1))
  clear hws HS0
  go_upto_region 1 with (fail)
  refine rgT [] HS1.out ?_
  refine pV (.agg #[.bool false, .string ⟨#[]⟩, .string ⟨#[]⟩]) (by intro w; go_simp; try rfl) ?_
  refine aL3 ?_
  intro b3 _ _ hb3
  refine nZ ?_
  refine sV (n := 3) (cs' := #[.bool false, .string ⟨#[]⟩, .string ⟨#[]⟩]) (fun u hu => by simp at hu; rcases hu with rfl | rfl | rfl <;> rfl) ?_
  refine Seq.done fun w1 hws => ?_
  have HS2 := Lib.hid (hws.q1 (p := b3))
  clear hws HS1
  by_cases hnb : nb = 0
  rotate_left
  · go_upto_region 2 with (fail)
    refine rgT [] HS2.out ?_
    refine pU ?_
    refine Seq.loadCell rfl rfl rfl rfl (by repeat (first | exact mC | apply mT)) (v := (.slice X nb cb)) rfl (by kernel_rfl) rfl (nZ ?_)
    refine pU ?_
    refine pV (.bool true) (by intro w; go_simp <;> (first | (rw [hnb]; done) | exact hnb | (simp [hnb]; done) | omega | (simp; omega) | (have h9 := hnb; simp at h9 ⊢; first | exact h9 | omega))) ?_
    refine pU ?_
    iterate 9 refine nW ?_
    iterate 2 refine pU ?_
    iterate 8 refine nW ?_
    refine pU ?_
    refine Seq.done fun w3 hws => ?_
    have HS3 := Lib.hid hws.st
    clear hws HS2
    have HB := Lib.hid HS3.out.below
    clear HS3
    go_wp2_with fail
    go_ret
    exact ⟨ret_int (by rw [← HC.out]; simp [codeS, baseS, hnb]), HB.out⟩
  rcases Bool.eq_false_or_eq_true (wz t) with hwz | hwz
  rotate_left
  · go_upto_region 2 with (fail)
    refine rgT [] HS2.out ?_
    refine pU ?_
    refine Seq.loadCell rfl rfl rfl rfl (by repeat (first | exact mC | apply mT)) (v := (.slice X nb cb)) rfl (by kernel_rfl) rfl (nZ ?_)
    refine pU ?_
    refine pV (.bool false) (by intro w; go_simp <;> (first | (rw [hnb]; done) | exact hnb | (simp [hnb]; done) | omega | (simp; omega) | (have h9 := hnb; simp at h9 ⊢; first | exact h9 | omega))) ?_
    iterate 2 refine pU ?_
    refine Seq.loadCell rfl rfl rfl rfl (by repeat (first | exact mC | apply mT)) (v := .int .i64 4) rfl (by kernel_rfl) rfl (nZ ?_)
    iterate 3 refine pU ?_
    refine lA (RT.c t) ?_
    refine lV ?_
    refine Seq.neZ rfl rfl rfl rfl rfl hwz (nZ ?_)
    iterate 3 refine pU ?_
    iterate 8 refine nW ?_
    refine pU ?_
    refine Seq.done fun w3 hws => ?_
    have HS3 := Lib.hid hws.st
    clear hws HS2
    have HB := Lib.hid HS3.out.below
    clear HS3
    go_wp2_with fail
    go_ret
    exact ⟨ret_int (by rw [← HC.out]; simp [codeS, baseS, hnb, hwz]), HB.out⟩
  by_cases hn : n = 0
  rotate_left
  · go_upto_region 2 with (fail)
    refine rgT [] HS2.out ?_
    refine pU ?_
    refine Seq.loadCell rfl rfl rfl rfl (by repeat (first | exact mC | apply mT)) (v := (.slice X nb cb)) rfl (by kernel_rfl) rfl (nZ ?_)
    refine pU ?_
    refine pV (.bool false) (by intro w; go_simp <;> (first | (rw [hnb]; done) | exact hnb | (simp [hnb]; done) | omega | (simp; omega) | (have h9 := hnb; simp at h9 ⊢; first | exact h9 | omega))) ?_
    iterate 2 refine pU ?_
    refine Seq.loadCell rfl rfl rfl rfl (by repeat (first | exact mC | apply mT)) (v := .int .i64 4) rfl (by kernel_rfl) rfl (nZ ?_)
    iterate 3 refine pU ?_
    refine lA (RT.c t) ?_
    refine lV ?_
    refine Seq.neZ rfl rfl rfl rfl rfl hwz (nZ ?_)
    iterate 4 refine pU ?_
    refine Seq.loadCell rfl rfl rfl rfl (by repeat (first | exact mC | apply mT)) (v := .int .i64 4) rfl (by kernel_rfl) rfl (nZ ?_)
    iterate 3 refine pU ?_
    refine Seq.loadCell rfl rfl rfl rfl (by repeat (first | exact mC | apply mT)) (v := .int .i64 n) rfl (by kernel_rfl) rfl (nZ ?_)
    refine pV (.bool true) (by intro w; go_simp <;> (first | (rw [hn]; done) | exact hn | (simp [hn]; done) | omega | (simp; omega) | (have h9 := hn; simp at h9 ⊢; first | exact h9 | omega))) ?_
    iterate 2 refine pU ?_
    refine Seq.done fun w3 hws => ?_
    have HS3 := Lib.hid hws.st
    clear hws HS2
    have HB := Lib.hid HS3.out.below
    clear HS3
    go_wp2_with fail
    go_ret
    exact ⟨ret_int (by rw [← HC.out]; simp [codeS, baseS, hnb, hwz, hn]), HB.out⟩
  go_upto_region 2 with (fail)
  refine rgT [] HS2.out ?_
  refine pU ?_
  refine Seq.loadCell rfl rfl rfl rfl (by repeat (first | exact mC | apply mT)) (v := (.slice X nb cb)) rfl (by kernel_rfl) rfl (nZ ?_)
  refine pU ?_
  refine pV (.bool false) (by intro w; go_simp <;> (first | (rw [hnb]; done) | exact hnb | (simp [hnb]; done) | omega | (simp; omega) | (have h9 := hnb; simp at h9 ⊢; first | exact h9 | omega))) ?_
  iterate 2 refine pU ?_
  refine Seq.loadCell rfl rfl rfl rfl (by repeat (first | exact mC | apply mT)) (v := .int .i64 4) rfl (by kernel_rfl) rfl (nZ ?_)
  iterate 3 refine pU ?_
  refine lA (RT.c t) ?_
  refine lV ?_
  refine Seq.neZ rfl rfl rfl rfl rfl hwz (nZ ?_)
  iterate 4 refine pU ?_
  refine Seq.loadCell rfl rfl rfl rfl (by repeat (first | exact mC | apply mT)) (v := .int .i64 4) rfl (by kernel_rfl) rfl (nZ ?_)
  iterate 3 refine pU ?_
  refine Seq.loadCell rfl rfl rfl rfl (by repeat (first | exact mC | apply mT)) (v := .int .i64 n) rfl (by kernel_rfl) rfl (nZ ?_)
  refine pV (.bool false) (by intro w; go_simp <;> (first | (rw [hn]; done) | exact hn | (simp [hn]; done) | omega | (simp; omega) | (have h9 := hn; simp at h9 ⊢; first | exact h9 | omega))) ?_
  iterate 2 refine pU ?_
  refine Seq.done fun w3 hws => ?_
  have HS3 := Lib.hid hws.st
  clear hws HS2
  go_upto_region 4 with (fail)
  refine rgT [] HS3.out ?_
  refine pU ?_
  refine Seq.loadCell rfl rfl rfl rfl (by repeat (first | exact mC | apply mT)) (v := .int .i64 4) rfl (by kernel_rfl) rfl (nZ ?_)
  iterate 3 refine pU ?_
  refine Seq.loadCell rfl rfl rfl rfl (by repeat (first | exact mC | apply mT)) (v := .int .i64 4) rfl (by kernel_rfl) rfl (nZ ?_)
  iterate 3 refine pU ?_
  refine Seq.done fun w5 hws => ?_
  have HS5 := Lib.hid hws.st
  clear hws HS3
  rcases Bool.eq_false_or_eq_true (freeB (bl A)) with hfA | hfA
  rotate_left
  · go_upto_region 5 with (fail)
    refine rgT [] HS5.out ?_
    refine pU ?_
    refine Seq.loadCell rfl rfl rfl rfl (by repeat (first | exact mC | apply mT)) (v := .int .i64 4) rfl (by kernel_rfl) rfl (nZ ?_)
    iterate 2 refine pU ?_
    iterate 3 refine nW ?_
    iterate 3 refine pU ?_
    refine Seq.loadCell rfl rfl rfl rfl (by repeat (first | exact mC | apply mT)) (v := .int .i64 4) rfl (by kernel_rfl) rfl (nZ ?_)
    iterate 3 refine pU ?_
    refine Seq.loadCell rfl rfl rfl rfl (by repeat (first | exact mC | apply mT)) (v := .string A) rfl (by kernel_rfl) rfl (nZ ?_)
    refine cX rfl rfl (fun w _ => name_any A w hfA) ?_
    iterate 4 refine pU ?_
    iterate 7 refine nW ?_
    iterate 2 refine pU ?_
    iterate 7 refine nW ?_
    refine pU ?_
    refine Seq.done fun w6 hws => ?_
    have HS6 := Lib.hid hws.st
    clear hws HS5
    have HB := Lib.hid HS6.out.below
    clear HS6
    go_wp2_with fail
    go_ret
    exact ⟨ret_int (by rw [← HC.out]; simp [codeS, baseS, hnb, hwz, hn, hfA]), HB.out⟩
  rcases Bool.eq_false_or_eq_true (B.toList.isEmpty) with heB | heB
  rotate_left
  · go_upto_region 5 with (fail)
    refine rgT [] HS5.out ?_
    refine pU ?_
    refine Seq.loadCell rfl rfl rfl rfl (by repeat (first | exact mC | apply mT)) (v := .int .i64 4) rfl (by kernel_rfl) rfl (nZ ?_)
    iterate 2 refine pU ?_
    iterate 3 refine nW ?_
    iterate 3 refine pU ?_
    refine Seq.loadCell rfl rfl rfl rfl (by repeat (first | exact mC | apply mT)) (v := .int .i64 4) rfl (by kernel_rfl) rfl (nZ ?_)
    iterate 3 refine pU ?_
    refine Seq.loadCell rfl rfl rfl rfl (by repeat (first | exact mC | apply mT)) (v := .string A) rfl (by kernel_rfl) rfl (nZ ?_)
    refine cX rfl rfl (fun w _ => name_any A w hfA) ?_
    iterate 6 refine pU ?_
    iterate 4 refine nW ?_
    iterate 7 refine pU ?_
    refine Seq.loadCell rfl rfl rfl rfl (by repeat (first | exact mC | apply mT)) (v := .string B) rfl (by kernel_rfl) rfl (nZ ?_)
    refine pV (.bool true) (by intro w; go_simp <;> (first | (rw [heB]; done) | exact heB | (simp [heB]; done) | omega | (simp; omega) | (have h9 := heB; simp at h9 ⊢; first | exact h9 | omega))) ?_
    iterate 2 refine pU ?_
    refine Seq.done fun w6 hws => ?_
    have HS6 := Lib.hid hws.st
    clear hws HS5
    have HB := Lib.hid HS6.out.below
    clear HS6
    go_wp2_with fail
    go_ret
    exact ⟨ret_int (by rw [← HC.out]; simp [codeS, baseS, hnb, hwz, hn, hfA, heB]), HB.out⟩
  go_upto_region 5 with (fail)
  refine rgT [] HS5.out ?_
  refine pU ?_
  refine Seq.loadCell rfl rfl rfl rfl (by repeat (first | exact mC | apply mT)) (v := .int .i64 4) rfl (by kernel_rfl) rfl (nZ ?_)
  iterate 2 refine pU ?_
  iterate 3 refine nW ?_
  iterate 3 refine pU ?_
  refine Seq.loadCell rfl rfl rfl rfl (by repeat (first | exact mC | apply mT)) (v := .int .i64 4) rfl (by kernel_rfl) rfl (nZ ?_)
  iterate 3 refine pU ?_
  refine Seq.loadCell rfl rfl rfl rfl (by repeat (first | exact mC | apply mT)) (v := .string A) rfl (by kernel_rfl) rfl (nZ ?_)
  refine cX rfl rfl (fun w _ => name_any A w hfA) ?_
  iterate 6 refine pU ?_
  iterate 4 refine nW ?_
  iterate 7 refine pU ?_
  refine Seq.loadCell rfl rfl rfl rfl (by repeat (first | exact mC | apply mT)) (v := .string B) rfl (by kernel_rfl) rfl (nZ ?_)
  refine pV (.bool false) (by intro w; go_simp <;> (first | (rw [heB]; done) | exact heB | (simp [heB]; done) | omega | (simp; omega) | (have h9 := heB; simp at h9 ⊢; first | exact h9 | omega))) ?_
  iterate 2 refine pU ?_
  refine Seq.done fun w6 hws => ?_
  have HS6 := Lib.hid hws.st
  clear hws HS5
  go_upto_region 7 with (fail)
  refine rgT [] HS6.out ?_
  refine pU ?_
  refine Seq.loadCell rfl rfl rfl rfl (by repeat (first | exact mC | apply mT)) (v := .int .i64 4) rfl (by kernel_rfl) rfl (nZ ?_)
  iterate 2 refine pU ?_
  iterate 4 refine nW ?_
  iterate 2 refine pU ?_
  iterate 16 refine nW ?_
  refine pU ?_
  refine Seq.done fun w8 hws => ?_
  have HS8 := Lib.hid hws.st
  clear hws HS6
  go_upto_region 9 with (fail)
  refine rgT [] HS8.out ?_
  refine pU ?_
  refine Seq.loadCell rfl rfl rfl rfl (by repeat (first | exact mC | apply mT)) (v := .int .i64 4) rfl (by kernel_rfl) rfl (nZ ?_)
  iterate 2 refine pU ?_
  iterate 8 refine nW ?_
  refine pU ?_
  refine Seq.done fun w10 hws => ?_
  have HS10 := Lib.hid hws.st
  clear hws HS8
  have HB := Lib.hid HS10.out.below
  clear HS10
  go_wp2_with fail
  go_ret
  exact ⟨ret_int (by rw [← HC.out]; simp [codeS, baseS, hnb, hwz, hn, hfA, heB]), HB.out⟩
set_option maxHeartbeats 8000000 in
set_option maxRecDepth 20000 in
theorem plain5_q {n : Int} {A B : ByteArray} {t : RT} {X : Option Addr} {nb cb : Nat} {q : Rat} {g : Bool} {c : Int} {W : World} {l : List Own} (hT : Tab W) (hq : RawT 1048576 q g t) (hc : codeS 5 n A B t q g nb = c) (w : World) (h : St W l w) :
    Calls Tryd.prog 45 #[.agg (stC 5 n A B t (.slice X nb cb))] w fun e w' => e = .returned (.int .i64 c) ∧ Below w.heap.size w w' := by
  have HT := Lib.hid (tabS hT h); clear hT h
  have HQ := Lib.hid hq; clear hq
  have HC := Lib.hid hc; clear hc
  have HS0 : Hid (St w [] w) := Lib.hid St.start
  go_enter Tryd.func45, Tryd.ntmps45
  go_upto_region 0 with (fail)
  refine rgT [] HS0.out ?_
  refine bX (stC 5 n A B t (.slice X nb cb)) ?_
  intro b1 _ _ hb1
  refine nZ ?_
  refine pU ?_
  refine Seq.done fun w0 hws => ?_
  have HS1 := Lib.hid (hws.q1 (p := b1))
  clear hws HS0
  go_upto_region 1 with (fail)
  refine rgT [] HS1.out ?_
  refine pV (.agg #[.bool false, .string ⟨#[]⟩, .string ⟨#[]⟩]) (by intro w; go_simp; try rfl) ?_
  refine aL3 ?_
  intro b3 _ _ hb3
  refine nZ ?_
  refine sV (n := 3) (cs' := #[.bool false, .string ⟨#[]⟩, .string ⟨#[]⟩]) (fun u hu => by simp at hu; rcases hu with rfl | rfl | rfl <;> rfl) ?_
  refine Seq.done fun w1 hws => ?_
  have HS2 := Lib.hid (hws.q1 (p := b3))
  clear hws HS1
  by_cases hnb : nb = 0
  rotate_left
  · go_upto_region 2 with (fail)
    refine rgT [] HS2.out ?_
    refine pU ?_
    refine Seq.loadCell rfl rfl rfl rfl (by repeat (first | exact mC | apply mT)) (v := (.slice X nb cb)) rfl (by kernel_rfl) rfl (nZ ?_)
    refine pU ?_
    refine pV (.bool true) (by intro w; go_simp <;> (first | (rw [hnb]; done) | exact hnb | (simp [hnb]; done) | omega | (simp; omega) | (have h9 := hnb; simp at h9 ⊢; first | exact h9 | omega))) ?_
    refine pU ?_
    iterate 9 refine nW ?_
    iterate 2 refine pU ?_
    iterate 8 refine nW ?_
    refine pU ?_
    refine Seq.done fun w3 hws => ?_
    have HS3 := Lib.hid hws.st
    clear hws HS2
    have HB := Lib.hid HS3.out.below
    clear HS3
    go_wp2_with fail
    go_ret
    exact ⟨ret_int (by rw [← HC.out]; simp [codeS, baseS, hnb]), HB.out⟩
  rcases Bool.eq_false_or_eq_true (wz t) with hwz | hwz
  rotate_left
  · go_upto_region 2 with (fail)
    refine rgT [] HS2.out ?_
    refine pU ?_
    refine Seq.loadCell rfl rfl rfl rfl (by repeat (first | exact mC | apply mT)) (v := (.slice X nb cb)) rfl (by kernel_rfl) rfl (nZ ?_)
    refine pU ?_
    refine pV (.bool false) (by intro w; go_simp <;> (first | (rw [hnb]; done) | exact hnb | (simp [hnb]; done) | omega | (simp; omega) | (have h9 := hnb; simp at h9 ⊢; first | exact h9 | omega))) ?_
    iterate 2 refine pU ?_
    refine Seq.loadCell rfl rfl rfl rfl (by repeat (first | exact mC | apply mT)) (v := .int .i64 5) rfl (by kernel_rfl) rfl (nZ ?_)
    iterate 3 refine pU ?_
    refine lA (RT.c t) ?_
    refine lV ?_
    refine Seq.neZ rfl rfl rfl rfl rfl hwz (nZ ?_)
    iterate 3 refine pU ?_
    iterate 8 refine nW ?_
    refine pU ?_
    refine Seq.done fun w3 hws => ?_
    have HS3 := Lib.hid hws.st
    clear hws HS2
    have HB := Lib.hid HS3.out.below
    clear HS3
    go_wp2_with fail
    go_ret
    exact ⟨ret_int (by rw [← HC.out]; simp [codeS, baseS, hnb, hwz]), HB.out⟩
  go_upto_region 2 with (fail)
  refine rgT [] HS2.out ?_
  refine pU ?_
  refine Seq.loadCell rfl rfl rfl rfl (by repeat (first | exact mC | apply mT)) (v := (.slice X nb cb)) rfl (by kernel_rfl) rfl (nZ ?_)
  refine pU ?_
  refine pV (.bool false) (by intro w; go_simp <;> (first | (rw [hnb]; done) | exact hnb | (simp [hnb]; done) | omega | (simp; omega) | (have h9 := hnb; simp at h9 ⊢; first | exact h9 | omega))) ?_
  iterate 2 refine pU ?_
  refine Seq.loadCell rfl rfl rfl rfl (by repeat (first | exact mC | apply mT)) (v := .int .i64 5) rfl (by kernel_rfl) rfl (nZ ?_)
  iterate 3 refine pU ?_
  refine lA (RT.c t) ?_
  refine lV ?_
  refine Seq.neZ rfl rfl rfl rfl rfl hwz (nZ ?_)
  iterate 4 refine pU ?_
  refine Seq.loadCell rfl rfl rfl rfl (by repeat (first | exact mC | apply mT)) (v := .int .i64 5) rfl (by kernel_rfl) rfl (nZ ?_)
  iterate 2 refine pU ?_
  iterate 3 refine nW ?_
  iterate 2 refine pU ?_
  refine Seq.done fun w3 hws => ?_
  have HS3 := Lib.hid hws.st
  clear hws HS2
  go_upto_region 4 with (fail)
  refine rgT [] HS3.out ?_
  refine pU ?_
  refine Seq.loadCell rfl rfl rfl rfl (by repeat (first | exact mC | apply mT)) (v := .int .i64 5) rfl (by kernel_rfl) rfl (nZ ?_)
  iterate 3 refine pU ?_
  refine Seq.loadCell rfl rfl rfl rfl (by repeat (first | exact mC | apply mT)) (v := .int .i64 5) rfl (by kernel_rfl) rfl (nZ ?_)
  iterate 3 refine pU ?_
  refine Seq.done fun w5 hws => ?_
  have HS5 := Lib.hid hws.st
  clear hws HS3
  rcases Bool.eq_false_or_eq_true (A.toList.isEmpty) with heA | heA
  rotate_left
  · go_upto_region 5 with (fail)
    refine rgT [] HS5.out ?_
    refine pU ?_
    refine Seq.loadCell rfl rfl rfl rfl (by repeat (first | exact mC | apply mT)) (v := .int .i64 5) rfl (by kernel_rfl) rfl (nZ ?_)
    iterate 3 refine pU ?_
    refine Seq.loadCell rfl rfl rfl rfl (by repeat (first | exact mC | apply mT)) (v := .string A) rfl (by kernel_rfl) rfl (nZ ?_)
    refine pV (.bool true) (by intro w; go_simp <;> (first | (rw [heA]; done) | exact heA | (simp [heA]; done) | omega | (simp; omega) | (have h9 := heA; simp at h9 ⊢; first | exact h9 | omega))) ?_
    iterate 2 refine pU ?_
    iterate 9 refine nW ?_
    iterate 2 refine pU ?_
    iterate 7 refine nW ?_
    iterate 2 refine pU ?_
    iterate 7 refine nW ?_
    refine pU ?_
    refine Seq.done fun w6 hws => ?_
    have HS6 := Lib.hid hws.st
    clear hws HS5
    have HB := Lib.hid HS6.out.below
    clear HS6
    go_wp2_with fail
    go_ret
    exact ⟨ret_int (by rw [← HC.out]; simp [codeS, baseS, hnb, hwz, heA]), HB.out⟩
  rcases Bool.eq_false_or_eq_true (B.toList.isEmpty) with heB | heB
  rotate_left
  · go_upto_region 5 with (fail)
    refine rgT [] HS5.out ?_
    refine pU ?_
    refine Seq.loadCell rfl rfl rfl rfl (by repeat (first | exact mC | apply mT)) (v := .int .i64 5) rfl (by kernel_rfl) rfl (nZ ?_)
    iterate 3 refine pU ?_
    refine Seq.loadCell rfl rfl rfl rfl (by repeat (first | exact mC | apply mT)) (v := .string A) rfl (by kernel_rfl) rfl (nZ ?_)
    refine pV (.bool false) (by intro w; go_simp <;> (first | (rw [heA]; done) | exact heA | (simp [heA]; done) | omega | (simp; omega) | (have h9 := heA; simp at h9 ⊢; first | exact h9 | omega))) ?_
    iterate 3 refine pU ?_
    refine Seq.loadCell rfl rfl rfl rfl (by repeat (first | exact mC | apply mT)) (v := .int .i64 5) rfl (by kernel_rfl) rfl (nZ ?_)
    iterate 2 refine pU ?_
    iterate 4 refine nW ?_
    iterate 5 refine pU ?_
    iterate 4 refine nW ?_
    iterate 7 refine pU ?_
    refine Seq.loadCell rfl rfl rfl rfl (by repeat (first | exact mC | apply mT)) (v := .string B) rfl (by kernel_rfl) rfl (nZ ?_)
    refine pV (.bool true) (by intro w; go_simp <;> (first | (rw [heB]; done) | exact heB | (simp [heB]; done) | omega | (simp; omega) | (have h9 := heB; simp at h9 ⊢; first | exact h9 | omega))) ?_
    iterate 2 refine pU ?_
    refine Seq.done fun w6 hws => ?_
    have HS6 := Lib.hid hws.st
    clear hws HS5
    have HB := Lib.hid HS6.out.below
    clear HS6
    go_wp2_with fail
    go_ret
    exact ⟨ret_int (by rw [← HC.out]; simp [codeS, baseS, hnb, hwz, heA, heB]), HB.out⟩
  go_upto_region 5 with (fail)
  refine rgT [] HS5.out ?_
  refine pU ?_
  refine Seq.loadCell rfl rfl rfl rfl (by repeat (first | exact mC | apply mT)) (v := .int .i64 5) rfl (by kernel_rfl) rfl (nZ ?_)
  iterate 3 refine pU ?_
  refine Seq.loadCell rfl rfl rfl rfl (by repeat (first | exact mC | apply mT)) (v := .string A) rfl (by kernel_rfl) rfl (nZ ?_)
  refine pV (.bool false) (by intro w; go_simp <;> (first | (rw [heA]; done) | exact heA | (simp [heA]; done) | omega | (simp; omega) | (have h9 := heA; simp at h9 ⊢; first | exact h9 | omega))) ?_
  iterate 3 refine pU ?_
  refine Seq.loadCell rfl rfl rfl rfl (by repeat (first | exact mC | apply mT)) (v := .int .i64 5) rfl (by kernel_rfl) rfl (nZ ?_)
  iterate 2 refine pU ?_
  iterate 4 refine nW ?_
  iterate 5 refine pU ?_
  iterate 4 refine nW ?_
  iterate 7 refine pU ?_
  refine Seq.loadCell rfl rfl rfl rfl (by repeat (first | exact mC | apply mT)) (v := .string B) rfl (by kernel_rfl) rfl (nZ ?_)
  refine pV (.bool false) (by intro w; go_simp <;> (first | (rw [heB]; done) | exact heB | (simp [heB]; done) | omega | (simp; omega) | (have h9 := heB; simp at h9 ⊢; first | exact h9 | omega))) ?_
  iterate 2 refine pU ?_
  refine Seq.done fun w6 hws => ?_
  have HS6 := Lib.hid hws.st
  clear hws HS5
  go_upto_region 7 with (fail)
  refine rgT [] HS6.out ?_
  refine pU ?_
  refine Seq.loadCell rfl rfl rfl rfl (by repeat (first | exact mC | apply mT)) (v := .int .i64 5) rfl (by kernel_rfl) rfl (nZ ?_)
  iterate 2 refine pU ?_
  iterate 4 refine nW ?_
  iterate 2 refine pU ?_
  iterate 16 refine nW ?_
  refine pU ?_
  refine Seq.done fun w8 hws => ?_
  have HS8 := Lib.hid hws.st
  clear hws HS6
  by_cases hlo : n < 1
  · have hr : ¬ (1 ≤ n ∧ n ≤ 2000) := by omega
    go_upto_region 9 with (fail)
    refine rgT [] HS8.out ?_
    refine pU ?_
    refine Seq.loadCell rfl rfl rfl rfl (by repeat (first | exact mC | apply mT)) (v := .int .i64 5) rfl (by kernel_rfl) rfl (nZ ?_)
    iterate 3 refine pU ?_
    refine Seq.loadCell rfl rfl rfl rfl (by repeat (first | exact mC | apply mT)) (v := .int .i64 n) rfl (by kernel_rfl) rfl (nZ ?_)
    refine pV (.bool true) (by intro w; go_simp <;> (first | (rw [hlo]; done) | exact hlo | (simp [hlo]; done) | omega | (simp; omega) | (have h9 := hlo; simp at h9 ⊢; first | exact h9 | omega))) ?_
    refine pU ?_
    iterate 3 refine nW ?_
    iterate 2 refine pU ?_
    refine Seq.done fun w10 hws => ?_
    have HS10 := Lib.hid hws.st
    clear hws HS8
    have HB := Lib.hid HS10.out.below
    clear HS10
    go_wp2_with fail
    go_ret
    exact ⟨ret_int (by rw [← HC.out]; simp [codeS, baseS, hnb, hwz, heA, heB, hr]), HB.out⟩
  by_cases hhi : 2000 < n
  · have hr : ¬ (1 ≤ n ∧ n ≤ 2000) := by omega
    go_upto_region 9 with (fail)
    refine rgT [] HS8.out ?_
    refine pU ?_
    refine Seq.loadCell rfl rfl rfl rfl (by repeat (first | exact mC | apply mT)) (v := .int .i64 5) rfl (by kernel_rfl) rfl (nZ ?_)
    iterate 3 refine pU ?_
    refine Seq.loadCell rfl rfl rfl rfl (by repeat (first | exact mC | apply mT)) (v := .int .i64 n) rfl (by kernel_rfl) rfl (nZ ?_)
    refine pV (.bool false) (by intro w; go_simp <;> (first | (rw [hlo]; done) | exact hlo | (simp [hlo]; done) | omega | (simp; omega) | (have h9 := hlo; simp at h9 ⊢; first | exact h9 | omega))) ?_
    iterate 2 refine pU ?_
    refine Seq.loadCell rfl rfl rfl rfl (by repeat (first | exact mC | apply mT)) (v := .int .i64 n) rfl (by kernel_rfl) rfl (nZ ?_)
    refine pV (.bool true) (by intro w; go_simp <;> (first | (rw [hhi]; done) | exact hhi | (simp [hhi]; done) | omega | (simp; omega) | (have h9 := hhi; simp at h9 ⊢; first | exact h9 | omega))) ?_
    iterate 2 refine pU ?_
    refine Seq.done fun w10 hws => ?_
    have HS10 := Lib.hid hws.st
    clear hws HS8
    have HB := Lib.hid HS10.out.below
    clear HS10
    go_wp2_with fail
    go_ret
    exact ⟨ret_int (by rw [← HC.out]; simp [codeS, baseS, hnb, hwz, heA, heB, hr]), HB.out⟩
  have hr : (1 ≤ n ∧ n ≤ 2000) := by omega
  go_upto_region 9 with (fail)
  refine rgT [] HS8.out ?_
  refine pU ?_
  refine Seq.loadCell rfl rfl rfl rfl (by repeat (first | exact mC | apply mT)) (v := .int .i64 5) rfl (by kernel_rfl) rfl (nZ ?_)
  iterate 3 refine pU ?_
  refine Seq.loadCell rfl rfl rfl rfl (by repeat (first | exact mC | apply mT)) (v := .int .i64 n) rfl (by kernel_rfl) rfl (nZ ?_)
  refine pV (.bool false) (by intro w; go_simp <;> (first | (rw [hlo]; done) | exact hlo | (simp [hlo]; done) | omega | (simp; omega) | (have h9 := hlo; simp at h9 ⊢; first | exact h9 | omega))) ?_
  iterate 2 refine pU ?_
  refine Seq.loadCell rfl rfl rfl rfl (by repeat (first | exact mC | apply mT)) (v := .int .i64 n) rfl (by kernel_rfl) rfl (nZ ?_)
  refine pV (.bool false) (by intro w; go_simp <;> (first | (rw [hhi]; done) | exact hhi | (simp [hhi]; done) | omega | (simp; omega) | (have h9 := hhi; simp at h9 ⊢; first | exact h9 | omega))) ?_
  iterate 2 refine pU ?_
  refine Seq.done fun w10 hws => ?_
  have HS10 := Lib.hid hws.st
  clear hws HS8
  have HB := Lib.hid HS10.out.below
  clear HS10
  go_wp2_with fail
  go_ret
  exact ⟨ret_int (by rw [← HC.out]; simp [codeS, baseS, hnb, hwz, heA, heB, hr]), HB.out⟩
end Go.Proofs.YtekbpiooecdopaaDoor
