/- rat.Small at any three cells; != api.Rat{} (printed by tys.py). -/
import Derived.Test.YtekbpiooecdopaaDoorTyF

namespace Go.Proofs.YtekbpiooecdopaaDoor
open Go.RowKit
set_option linter.unusedVariables false
set_option linter.unusedSimpArgs false

def wz (t : RT) : Bool := !t.s && t.a.toList.isEmpty && t.d.toList.isEmpty
section
variable {ops : Array Oper} {W : World} {l : List Own} {Q : Exit → Act → World → Prop} {gs : List Nat} {k : Nat} {o : Oper} {rest : List Oper} {a : Act} {R : Reg}
theorem run_neZ {X Y : Operand} {U : TypeId} {t : RT} {b : Bool} (ho : o.op = .binOp .neq 28 X Y U) (hx : a.eval X = .agg (RT.c t)) (hy : a.eval Y = .agg #[.bool false, .string ⟨#[]⟩, .string ⟨#[]⟩]) (hb : wz t = b) (w : World) :
    (execOp a.eval o).run Tryd.prog w = .ok (.value (.bool (!b))) w := by
  unfold RT.c at hx
  unfold wz at hb
  unfold execOp
  simp only [ho, hx, hy]
  cases b
  · go_simp
    intro h1 h2 h3
    rw [h1, h2, h3] at hb
    simp at hb
  · simp only [Bool.and_eq_true, Bool.not_eq_true', List.isEmpty_iff] at hb
    go_simp
    all_goals exact ⟨hb.1.1, hb.1.2, hb.2⟩
theorem Seq.neZ {X Y : Operand} {U : TypeId} {t : RT} {b : Bool} (ho : o.op = .binOp .neq 28 X Y U) (hk : kd gs k o = .val) (hw : wants ops o a = true) (hx : a.eval X = .agg (RT.c t)) (hy : a.eval Y = .agg #[.bool false, .string ⟨#[]⟩, .string ⟨#[]⟩])
    (hb : wz t = b) (h : Seq Tryd.prog ops Q W l gs (k + 1) rest (a.put o.dst (.bool (!b))) R) : Seq Tryd.prog ops Q W l gs k (o :: rest) a R :=
  Seq.pure hk hw (fun w => run_neZ ho hx hy hb w) h
end
def smB (t : RT) (q : Rat) (g : Bool) : Bool := decide (t.a.size ≤ 3) && decide (t.d.size ≤ 2) && g && decide (q.num.natAbs ≤ 1000000) && decide (q.den ≤ 1000)
theorem cmpZ_le {m n : Nat} : cmpZ m n ≤ 0 ↔ m ≤ n := by unfold cmpZ; split <;> (try split) <;> omega
theorem cmpS_q {m n : Nat} {v : Int} {W : World} {l : List Own} (hm : (bstr m).length ≤ 140737488355328) (hn : (bstr n).length ≤ 140737488355328) (hv : cmpZ m n = v) (w : World) (h : St W l w) : Calls Tryd.prog 20 #[.string (S m), .string (S n)] w fun e w' => e = .returned (.int .i64 v) ∧ Below w.heap.size w w' := by
  rw [← hv]
  exact (cmp_S m n w hm hn).mono fun e w' h => ⟨h.1, by rw [← h.2]; exact Below.refl _ _⟩
theorem natOf_q {n : Int} {m : Nat} {W : World} {l : List Own} (h0 : -9223372036854775808 ≤ n) (h1 : n ≤ 9223372036854775807) (hm : n.toNat = m) (w : World) (h : St W l w) : Calls Tryd.prog 40 #[.int .i64 n] w fun e w' => e = .returned (.string (S m)) ∧ Below w.heap.size w w' := by
  rw [← hm]; exact natOf_any n w h0 h1
set_option maxHeartbeats 8000000 in
set_option maxRecDepth 20000 in
theorem small_w {t : RT} {q : Rat} {g b : Bool} {W : World} {l : List Own} (hT : Tab W) (hq : RawT 1048576 q g t) (hb : smB t q g = b) (w : World) (h : St W l w) :
    Calls Tryd.prog 24 #[.agg (RT.c t)] w fun e w' => e = .returned (.bool b) ∧ Below w.heap.size w w' := by
  have HT := Lib.hid (tabS hT h); clear hT h
  have HQ := Lib.hid hq; clear hq
  unfold smB at hb
  have HS0 : Hid (St w [] w) := Lib.hid St.start
  by_cases h1 : t.a.size ≤ 3
  rotate_left
  · rw [decide_eq_false h1] at hb
    simp only [Bool.false_and] at hb
    subst hb
    go_enter Tryd.func24, Tryd.ntmps24
    go_upto_region 0 with (fail)
    refine rgT [] HS0.out ?_
    refine bX (RT.c t) ?_
    intro b1 _ _ hb1
    refine nZ ?_
    refine pU ?_
    refine Seq.done fun w0 hws => ?_
    have HS := Lib.hid (hws.q1 (p := b1))
    clear hws HS0
    go_upto_region 1 with (fail)
    refine rgW [] HS.out ?_
    refine pU ?_
    refine Seq.loadCell rfl rfl rfl rfl (by repeat (first | exact mC | apply mT)) (v := .string t.a) rfl (by kernel_rfl) rfl (nZ ?_)
    refine pU ?_
    refine pV (.bool false) (by intro w; go_simp <;> (first | (rw [h1]; done) | exact h1 | (simp [h1]; done) | omega | (simp; omega) | (have h9 := h1; simp at h9 ⊢; omega))) ?_
    refine pU ?_
    iterate 4 refine nW ?_
    iterate 2 refine pU ?_
    iterate 2 refine nW ?_
    iterate 2 refine pU ?_
    iterate 5 refine nW ?_
    iterate 2 refine pU ?_
    iterate 5 refine nW ?_
    iterate 2 refine pU ?_
    refine Seq.done fun w1 hws => ?_
    have HB := Lib.hid hws.st.below
    clear hws HS
    go_wp2_with fail
    go_ret
    exact ⟨rfl, HB.out⟩
  by_cases h2 : t.d.size ≤ 2
  rotate_left
  · rw [decide_eq_false h2] at hb
    simp only [Bool.false_and, Bool.and_false] at hb
    subst hb
    go_enter Tryd.func24, Tryd.ntmps24
    go_upto_region 0 with (fail)
    refine rgT [] HS0.out ?_
    refine bX (RT.c t) ?_
    intro b1 _ _ hb1
    refine nZ ?_
    refine pU ?_
    refine Seq.done fun w0 hws => ?_
    have HS := Lib.hid (hws.q1 (p := b1))
    clear hws HS0
    go_upto_region 1 with (fail)
    refine rgW [] HS.out ?_
    refine pU ?_
    refine Seq.loadCell rfl rfl rfl rfl (by repeat (first | exact mC | apply mT)) (v := .string t.a) rfl (by kernel_rfl) rfl (nZ ?_)
    refine pU ?_
    refine pV (.bool true) (by intro w; go_simp <;> (first | (rw [h1]; done) | exact h1 | (simp [h1]; done) | omega | (simp; omega) | (have h9 := h1; simp at h9 ⊢; omega))) ?_
    iterate 2 refine pU ?_
    refine Seq.loadCell rfl rfl rfl rfl (by repeat (first | exact mC | apply mT)) (v := .string t.d) rfl (by kernel_rfl) rfl (nZ ?_)
    refine pU ?_
    refine pV (.bool false) (by intro w; go_simp <;> (first | (rw [h2]; done) | exact h2 | (simp [h2]; done) | omega | (simp; omega) | (have h9 := h2; simp at h9 ⊢; omega))) ?_
    iterate 2 refine pU ?_
    iterate 2 refine nW ?_
    iterate 2 refine pU ?_
    iterate 5 refine nW ?_
    iterate 2 refine pU ?_
    iterate 5 refine nW ?_
    iterate 2 refine pU ?_
    refine Seq.done fun w1 hws => ?_
    have HB := Lib.hid hws.st.below
    clear hws HS
    go_wp2_with fail
    go_ret
    exact ⟨rfl, HB.out⟩
  rw [decide_eq_true h1, decide_eq_true h2] at hb
  simp only [Bool.true_and] at hb
  cases g with
  | false =>
    simp only [Bool.false_and] at hb
    subst hb
    go_enter Tryd.func24, Tryd.ntmps24
    go_upto_region 0 with (fail)
    refine rgT [] HS0.out ?_
    refine bX (RT.c t) ?_
    intro b1 _ _ hb1
    refine nZ ?_
    refine pU ?_
    refine Seq.done fun w0 hws => ?_
    have HS := Lib.hid (hws.q1 (p := b1))
    clear hws HS0
    go_upto_region 1 with (fail)
    refine rgW [] HS.out ?_
    refine pU ?_
    refine Seq.loadCell rfl rfl rfl rfl (by repeat (first | exact mC | apply mT)) (v := .string t.a) rfl (by kernel_rfl) rfl (nZ ?_)
    refine pU ?_
    refine pV (.bool true) (by intro w; go_simp <;> (first | (rw [h1]; done) | exact h1 | (simp [h1]; done) | omega | (simp; omega) | (have h9 := h1; simp at h9 ⊢; omega))) ?_
    iterate 2 refine pU ?_
    refine Seq.loadCell rfl rfl rfl rfl (by repeat (first | exact mC | apply mT)) (v := .string t.d) rfl (by kernel_rfl) rfl (nZ ?_)
    refine pU ?_
    refine pV (.bool true) (by intro w; go_simp <;> (first | (rw [h2]; done) | exact h2 | (simp [h2]; done) | omega | (simp; omega) | (have h9 := h2; simp at h9 ⊢; omega))) ?_
    iterate 2 refine pU ?_
    refine lV ?_
    refine cX rfl rfl (good_w HT.out HQ.out (by omega)) ?_
    iterate 2 refine pU ?_
    iterate 5 refine nW ?_
    iterate 2 refine pU ?_
    iterate 5 refine nW ?_
    iterate 2 refine pU ?_
    refine Seq.done fun w1 hws => ?_
    have HB := Lib.hid hws.st.below
    clear hws HS
    go_wp2_with fail
    go_ret
    exact ⟨rfl, HB.out⟩
  | true =>
    simp only [Bool.true_and] at hb
    have ht := HQ.out.good
    subst ht
    change (S q.num.natAbs).size ≤ 3 at h1
    change (S q.den).size ≤ 2 at h2
    have hz := HQ.out.rz
    have HL1 : Hid ((bstr q.num.natAbs).length ≤ 140737488355328) := Lib.hid (by have := hz.1; unfold Sz at this; omega)
    have HL2 : Hid ((bstr q.den).length ≤ 140737488355328) := Lib.hid (by have := hz.2; unfold Sz at this; omega)
    have HB1 : Hid ((bstr 1000000).length ≤ 140737488355328) := Lib.hid (by decide +kernel)
    have HB2 : Hid ((bstr 1000).length ≤ 140737488355328) := Lib.hid (by decide +kernel)
    obtain ⟨v1, hv1⟩ : ∃ v, cmpZ q.num.natAbs 1000000 = v := ⟨_, rfl⟩
    obtain ⟨v2, hv2⟩ : ∃ v, cmpZ q.den 1000 = v := ⟨_, rfl⟩
    have e1 : v1 ≤ 0 ↔ q.num.natAbs ≤ 1000000 := by rw [← hv1]; exact cmpZ_le
    have e2 : v2 ≤ 0 ↔ q.den ≤ 1000 := by rw [← hv2]; exact cmpZ_le
    have HV1 := Lib.hid hv1
    have HV2 := Lib.hid hv2
    clear hv1 hv2 hz
    by_cases h4 : v1 ≤ 0
    rotate_left
    · rw [decide_eq_false (fun e => h4 (e1.2 e))] at hb
      simp only [Bool.false_and] at hb
      subst hb
      go_enter Tryd.func24, Tryd.ntmps24
      go_upto_region 0 with (fail)
      refine rgT [] HS0.out ?_
      refine bX (RT.c (rt q)) ?_
      intro b1 _ _ hb1
      refine nZ ?_
      refine pU ?_
      refine Seq.done fun w0 hws => ?_
      have HS := Lib.hid (hws.q1 (p := b1))
      clear hws HS0
      go_upto_region 1 with (fail)
      refine rgW [] HS.out ?_
      refine pU ?_
      refine Seq.loadCell rfl rfl rfl rfl (by repeat (first | exact mC | apply mT)) (v := .string (S q.num.natAbs)) rfl (by kernel_rfl) rfl (nZ ?_)
      refine pU ?_
      refine pV (.bool true) (by intro w; go_simp <;> (first | (rw [h1]; done) | exact h1 | (simp [h1]; done) | omega | (simp; omega) | (have h9 := h1; simp at h9 ⊢; omega))) ?_
      iterate 2 refine pU ?_
      refine Seq.loadCell rfl rfl rfl rfl (by repeat (first | exact mC | apply mT)) (v := .string (S q.den)) rfl (by kernel_rfl) rfl (nZ ?_)
      refine pU ?_
      refine pV (.bool true) (by intro w; go_simp <;> (first | (rw [h2]; done) | exact h2 | (simp [h2]; done) | omega | (simp; omega) | (have h9 := h2; simp at h9 ⊢; omega))) ?_
      iterate 2 refine pU ?_
      refine lV ?_
      refine cX rfl rfl (good_w HT.out HQ.out (by omega)) ?_
      iterate 3 refine pU ?_
      refine Seq.loadCell rfl rfl rfl rfl (by repeat (first | exact mC | apply mT)) (v := .string (S q.num.natAbs)) rfl (by kernel_rfl) rfl (nZ ?_)
      refine cX rfl rfl (natOf_q (m := 1000000) (by omega) (by omega) rfl) ?_
      refine cX rfl rfl (cmpS_q HL1.out HB1.out HV1.out) ?_
      refine pV (.bool false) (by intro w; go_simp <;> (first | (rw [h4]; done) | exact h4 | (simp [h4]; done) | omega | (simp; omega) | (have h9 := h4; simp at h9 ⊢; omega))) ?_
      iterate 2 refine pU ?_
      iterate 5 refine nW ?_
      iterate 2 refine pU ?_
      refine Seq.done fun w1 hws => ?_
      have HB := Lib.hid hws.st.below
      clear hws HS
      go_wp2_with fail
      go_ret
      exact ⟨rfl, HB.out⟩
    rw [decide_eq_true (e1.1 h4)] at hb
    simp only [Bool.true_and] at hb
    by_cases h5 : v2 ≤ 0
    · rw [decide_eq_true (e2.1 h5)] at hb
      subst hb
      go_enter Tryd.func24, Tryd.ntmps24
      go_upto_region 0 with (fail)
      refine rgT [] HS0.out ?_
      refine bX (RT.c (rt q)) ?_
      intro b1 _ _ hb1
      refine nZ ?_
      refine pU ?_
      refine Seq.done fun w0 hws => ?_
      have HS := Lib.hid (hws.q1 (p := b1))
      clear hws HS0
      go_upto_region 1 with (fail)
      refine rgW [] HS.out ?_
      refine pU ?_
      refine Seq.loadCell rfl rfl rfl rfl (by repeat (first | exact mC | apply mT)) (v := .string (S q.num.natAbs)) rfl (by kernel_rfl) rfl (nZ ?_)
      refine pU ?_
      refine pV (.bool true) (by intro w; go_simp <;> (first | (rw [h1]; done) | exact h1 | (simp [h1]; done) | omega | (simp; omega) | (have h9 := h1; simp at h9 ⊢; omega))) ?_
      iterate 2 refine pU ?_
      refine Seq.loadCell rfl rfl rfl rfl (by repeat (first | exact mC | apply mT)) (v := .string (S q.den)) rfl (by kernel_rfl) rfl (nZ ?_)
      refine pU ?_
      refine pV (.bool true) (by intro w; go_simp <;> (first | (rw [h2]; done) | exact h2 | (simp [h2]; done) | omega | (simp; omega) | (have h9 := h2; simp at h9 ⊢; omega))) ?_
      iterate 2 refine pU ?_
      refine lV ?_
      refine cX rfl rfl (good_w HT.out HQ.out (by omega)) ?_
      iterate 3 refine pU ?_
      refine Seq.loadCell rfl rfl rfl rfl (by repeat (first | exact mC | apply mT)) (v := .string (S q.num.natAbs)) rfl (by kernel_rfl) rfl (nZ ?_)
      refine cX rfl rfl (natOf_q (m := 1000000) (by omega) (by omega) rfl) ?_
      refine cX rfl rfl (cmpS_q HL1.out HB1.out HV1.out) ?_
      refine pV (.bool true) (by intro w; go_simp <;> (first | (rw [h4]; done) | exact h4 | (simp [h4]; done) | omega | (simp; omega) | (have h9 := h4; simp at h9 ⊢; omega))) ?_
      iterate 3 refine pU ?_
      refine Seq.loadCell rfl rfl rfl rfl (by repeat (first | exact mC | apply mT)) (v := .string (S q.den)) rfl (by kernel_rfl) rfl (nZ ?_)
      refine cX rfl rfl (natOf_q (m := 1000) (by omega) (by omega) rfl) ?_
      refine cX rfl rfl (cmpS_q HL2.out HB2.out HV2.out) ?_
      refine pV (.bool true) (by intro w; go_simp <;> (first | (rw [h5]; done) | exact h5 | (simp [h5]; done) | omega | (simp; omega) | (have h9 := h5; simp at h9 ⊢; omega))) ?_
      iterate 2 refine pU ?_
      refine Seq.done fun w1 hws => ?_
      have HB := Lib.hid hws.st.below
      clear hws HS
      go_wp2_with fail
      go_ret
      exact ⟨rfl, HB.out⟩
    · rw [decide_eq_false (fun e => h5 (e2.2 e))] at hb
      subst hb
      go_enter Tryd.func24, Tryd.ntmps24
      go_upto_region 0 with (fail)
      refine rgT [] HS0.out ?_
      refine bX (RT.c (rt q)) ?_
      intro b1 _ _ hb1
      refine nZ ?_
      refine pU ?_
      refine Seq.done fun w0 hws => ?_
      have HS := Lib.hid (hws.q1 (p := b1))
      clear hws HS0
      go_upto_region 1 with (fail)
      refine rgW [] HS.out ?_
      refine pU ?_
      refine Seq.loadCell rfl rfl rfl rfl (by repeat (first | exact mC | apply mT)) (v := .string (S q.num.natAbs)) rfl (by kernel_rfl) rfl (nZ ?_)
      refine pU ?_
      refine pV (.bool true) (by intro w; go_simp <;> (first | (rw [h1]; done) | exact h1 | (simp [h1]; done) | omega | (simp; omega) | (have h9 := h1; simp at h9 ⊢; omega))) ?_
      iterate 2 refine pU ?_
      refine Seq.loadCell rfl rfl rfl rfl (by repeat (first | exact mC | apply mT)) (v := .string (S q.den)) rfl (by kernel_rfl) rfl (nZ ?_)
      refine pU ?_
      refine pV (.bool true) (by intro w; go_simp <;> (first | (rw [h2]; done) | exact h2 | (simp [h2]; done) | omega | (simp; omega) | (have h9 := h2; simp at h9 ⊢; omega))) ?_
      iterate 2 refine pU ?_
      refine lV ?_
      refine cX rfl rfl (good_w HT.out HQ.out (by omega)) ?_
      iterate 3 refine pU ?_
      refine Seq.loadCell rfl rfl rfl rfl (by repeat (first | exact mC | apply mT)) (v := .string (S q.num.natAbs)) rfl (by kernel_rfl) rfl (nZ ?_)
      refine cX rfl rfl (natOf_q (m := 1000000) (by omega) (by omega) rfl) ?_
      refine cX rfl rfl (cmpS_q HL1.out HB1.out HV1.out) ?_
      refine pV (.bool true) (by intro w; go_simp <;> (first | (rw [h4]; done) | exact h4 | (simp [h4]; done) | omega | (simp; omega) | (have h9 := h4; simp at h9 ⊢; omega))) ?_
      iterate 3 refine pU ?_
      refine Seq.loadCell rfl rfl rfl rfl (by repeat (first | exact mC | apply mT)) (v := .string (S q.den)) rfl (by kernel_rfl) rfl (nZ ?_)
      refine cX rfl rfl (natOf_q (m := 1000) (by omega) (by omega) rfl) ?_
      refine cX rfl rfl (cmpS_q HL2.out HB2.out HV2.out) ?_
      refine pV (.bool false) (by intro w; go_simp <;> (first | (rw [h5]; done) | exact h5 | (simp [h5]; done) | omega | (simp; omega) | (have h9 := h5; simp at h9 ⊢; omega))) ?_
      iterate 2 refine pU ?_
      refine Seq.done fun w1 hws => ?_
      have HB := Lib.hid hws.st.below
      clear hws HS
      go_wp2_with fail
      go_ret
      exact ⟨rfl, HB.out⟩
end Go.Proofs.YtekbpiooecdopaaDoor
