/- types.Bind (printed by tye.py). -/
import Derived.Test.YtekbpiooecdopaaDoorTyD

namespace Go.Proofs.YtekbpiooecdopaaDoor
open Go.RowKit
set_option linter.unusedVariables false
set_option linter.unusedSimpArgs false

def gC (k a b n : Int) : Array Value := #[.int .i64 k, .int .i64 a, .int .i64 b, .int .i64 n]
theorem gC_one (k a b n : Int) : ∀ u ∈ gC k a b n, u.oneCell' = true := fun u hu => by
  simp only [gC, List.mem_toArray, List.mem_cons, List.not_mem_nil, or_false] at hu
  rcases hu with rfl | rfl | rfl | rfl <;> rfl
/-- the goal of a statement, and the error; y: the tolerance of the slot that B names -/
def goalS (K : Wk) (k n : Int) (A B : ByteArray) (t : RT) (q : Rat) (g : Bool) (nb : Nat) (y : Rat) : (Int × Int × Int × Int) × Int :=
  if k < 1 ∨ 5 < k ∨ codeS k n A B t q g nb ≠ 0 then ((0, 0, 0, 0), 3)
  else if (idxS K (kindsS k).1 A).2 ≠ 0 then ((0, 0, 0, 0), (idxS K (kindsS k).1 A).2)
  else if (idxS K (kindsS k).2 B).2 ≠ 0 then ((0, 0, 0, 0), (idxS K (kindsS k).2 B).2)
  else if wz t = false ∧ cmpQ q y = 1 then ((0, 0, 0, 0), 18)
  else ((k, (idxS K (kindsS k).1 A).1, (idxS K (kindsS k).2 B).1, n), 0)
def SlotTol (K : Wk) (n3 : Nat) (B : ByteArray) (y : Rat) : Prop := ∀ i : Nat, i < n3 → findR K.L0 K.L2 K.L3 K.L4 B = (3, (i : Int)) → ∃ t2 g2, ((K.F3 i).drop 11).take 3 = (RT.c t2).toList ∧ RawT 1048576 y g2 t2
theorem slotTol_ex {w : World} {K : Wk} {n0 n2 n3 n4 : Nat} (h : WkIn w K n0 n2 n3 n4) (B : ByteArray) : ∃ y, SlotTol K n3 B y := by
  by_cases e : ∃ i : Nat, i < n3 ∧ findR K.L0 K.L2 K.L3 K.L4 B = (3, (i : Int))
  · obtain ⟨i, hi, hf⟩ := e
    obtain ⟨t2, h1, h2⟩ := h.tol i hi
    obtain ⟨y, g2, hy⟩ := raw_any t2.s t2.a t2.d 1048576 (by omega) h2.1 h2.2
    refine ⟨y, fun j hj hf2 => ?_⟩
    rw [hf] at hf2
    obtain rfl : i = j := by injection hf2; omega
    exact ⟨t2, g2, h1, hy⟩
  · exact ⟨0, fun i hi hf => absurd ⟨i, hi, hf⟩ e⟩
theorem ixS_nat {s : ByteArray} {L : List ByteArray} (h : 0 ≤ ixS s L) : ∃ i : Nat, ixS s L = i ∧ i < L.length := by
  refine ⟨(ixS s L).toNat, by omega, ?_⟩
  rcases ixS_hi s L with h1 | ⟨h1, h2⟩ <;> omega
theorem cmp_or (a b : Rat) : cmpQ a b = -1 ∨ cmpQ a b = 0 ∨ cmpQ a b = 1 := by
  unfold cmpQ
  split
  · exact .inl rfl
  · split
    · exact .inr (.inr rfl)
    · exact .inr (.inl rfl)
theorem find_slot {K : Wk} {B : ByteArray} {j : Int} (h : findR K.L0 K.L2 K.L3 K.L4 B = (3, j)) : ∃ i : Nat, j = i ∧ i < K.L3.length := by
  unfold findR at h
  split at h
  · cases h
  · split at h
    · cases h
    · split at h
      · rename_i h3
        injection h with _ h
        rw [← h]
        exact ixS_nat h3
      · split at h <;> cases h
theorem idx_slot {K : Wk} {B : ByteArray} {j : Int} (h : idxS K 3 B = (j, 0)) : findR K.L0 K.L2 K.L3 K.L4 B = (3, j) := by
  unfold idxS at h
  rw [if_neg (by decide)] at h
  split at h
  · cases h
  · split at h
    · cases h
    · rename_i h1 h2
      injection h with h3
      have h2 : (findR K.L0 K.L2 K.L3 K.L4 B).1 = 3 := by simpa using h2
      exact Prod.ext h2 h3
theorem code_put {k n : Int} {A B : ByteArray} {t : RT} {q : Rat} {g : Bool} {nb : Nat} (h : codeS k n A B t q g nb = 0) (hw : wz t = false) : k = 1 := by
  unfold codeS baseS at h
  by_cases hk : k = 1
  · exact hk
  · rw [if_neg hk, hw] at h
    simp at h
theorem ld_tol {W w : World} {g f i : Nat} {F : List Value} {t2 : RT} (hg : g < W.heap.size) (hc : ∀ j u, F[j]? = some u → W.cell? ⟨g, f + (i * 14 + j), none⟩ = some u) (ht : (F.drop 11).take 3 = (RT.c t2).toList) (hb : Below W.heap.size W w) : (loadVar 28 ⟨g, f + i * 14 + 11, none⟩).run Tryd.prog w = .ok (.agg (RT.c t2)) w :=
  run_load_cellsT (n := 3) (fun j u hu => by
    rw [show f + i * 14 + 11 + j = f + (i * 14 + (11 + j)) by omega, (bcell hb).1 g _ hg]
    refine hc _ u ?_
    have h1 : ((F.drop 11).take 3)[j]? = some u := by rw [ht]; simpa using hu
    rw [List.getElem?_take] at h1
    split at h1
    · rw [List.getElem?_drop] at h1; exact h1
    · cases h1) rfl (by kernel_rfl)
theorem slcSt_1 {o : Oper} {a : Act} {X0 : Operand} {k n : Int} {A B : ByteArray} {t : RT} {p : Option Addr} {m c : Nat} (ho : o.op = .buildSlice 65 1 #[(0, X0)]) (h0 : a.eval X0 = .agg (stC k n A B t (.slice p m c))) (w : World) :
    (execOp a.eval o).run Tryd.prog w = .ok (.value (.slice (some ⟨w.heap.size, 0, none⟩) 1 1)) (w.alloc (.cells (stC k n A B t (.slice p m c)) 33)) := by
  unfold stC at h0
  unfold execOp stC
  simp only [ho, List.map_toArray, List.map_cons, List.map_nil, h0]
  go_simp
set_option maxHeartbeats 16000000 in
set_option maxRecDepth 20000 in
theorem bind_any {K : Wk} {n0 n2 n3 n4 : Nat} {k n : Int} {A B : ByteArray} {t : RT} {X : Option Addr} {nb cb : Nat} {q : Rat} {g : Bool} {y : Rat} {r : (Int × Int × Int × Int) × Int} (w : World) (hT : Tab w) (hk : WkIn w K n0 n2 n3 n4) (hq : RawT 1048576 q g t) (hy : SlotTol K n3 B y) (hr : goalS K k n A B t q g nb y = r) :
    Calls Tryd.prog 6 #[.agg (wkC K n0 n2 n3 n4), .agg (stC k n A B t (.slice X nb cb))] w fun e w' => e = .returned (.tuple #[.agg (gC r.1.1 r.1.2.1 r.1.2.2.1 r.1.2.2.2), .int .i64 r.2]) ∧ Below w.heap.size w w' := by
  have HT := Lib.hid hT; clear hT
  have HK := Lib.hid hk; clear hk
  have HQ := Lib.hid hq; clear hq
  have HY := Lib.hid hy; clear hy
  have HR := Lib.hid hr; clear hr
  have HO := Lib.hid HK.out.ones
  obtain ⟨c, hc⟩ : ∃ c, codeS k n A B t q g nb = c := ⟨_, rfl⟩
  have HC := Lib.hid hc; clear hc
  obtain ⟨⟨ka, kb⟩, hk2⟩ : ∃ p, kindsS k = p := ⟨_, rfl⟩
  have HK2 := Lib.hid hk2; clear hk2
  obtain ⟨⟨ia, ea⟩, hx1⟩ : ∃ p, idxS K ka A = p := ⟨_, rfl⟩
  have HX1 := Lib.hid hx1; clear hx1
  obtain ⟨⟨ib, eb⟩, hx2⟩ : ∃ p, idxS K kb B = p := ⟨_, rfl⟩
  have HX2 := Lib.hid hx2; clear hx2
  have HKI : Hid (∀ w1 : World, Calls Tryd.prog 11 #[.int .i64 k] w1 fun e w' => e = .returned (.tuple #[.int .i64 ka, .int .i64 kb]) ∧ Below w1.heap.size w1 w') := Lib.hid (fun w1 => kinds_any k w1 HK2.out)
  have HI1 : Hid (∀ w1 : World, Below w.heap.size w w1 → Calls Tryd.prog 12 #[.agg (wkC K n0 n2 n3 n4), .int .i64 ka, .string A] w1 fun e w' => e = .returned (.tuple #[.int .i64 ia, .int .i64 ea]) ∧ Below w1.heap.size w1 w') := Lib.hid (fun w1 h => index_any w1 (HK.out.next h) HX1.out)
  have HI2 : Hid (∀ w1 : World, Below w.heap.size w w1 → Calls Tryd.prog 12 #[.agg (wkC K n0 n2 n3 n4), .int .i64 kb, .string B] w1 fun e w' => e = .returned (.tuple #[.int .i64 ib, .int .i64 eb]) ∧ Below w1.heap.size w1 w') := Lib.hid (fun w1 h => index_any w1 (HK.out.next h) HX2.out)
  have HS0 : Hid (St w [] w) := Lib.hid St.start
  go_enter Tryd.func6, Tryd.ntmps6
  go_upto_region 0 with (fail)
  refine rgT [] HS0.out ?_
  refine bX (wkC K n0 n2 n3 n4) ?_
  intro b2 _ _ hb2
  refine nZ ?_
  refine bX (stC k n A B t (.slice X nb cb)) ?_
  intro b3 _ _ hb3
  refine nZ ?_
  refine Seq.alloc rfl rfl rfl (z := .agg #[.int .i64 0, .int .i64 0, .int .i64 0, .int .i64 0]) (by kernel_rfl) rfl ?_
  intro b4 _ _ hb4
  refine nZ ?_
  refine pU ?_
  refine Seq.done fun w0 hws => ?_
  obtain ⟨e32, e23, _⟩ := Reg.ne2 hb3
  obtain ⟨e43, e34, h9⟩ := Reg.ne2 hb4
  obtain ⟨e42, e24, _⟩ := Reg.ne2 h9
  clear h9
  have HS1 := Lib.hid (hws.q3 (p := b4) (q := b3) (r := b2))
  clear hws HS0
  by_cases h1 : k < 1
  · go_upto_region 1 with (fail)
    refine rgT [25] HS1.out ?_
    refine pU ?_
    refine Seq.loadCell rfl rfl rfl rfl (by repeat (first | exact mC | apply mT)) (v := .int .i64 k) rfl (by kernel_rfl) rfl (nZ ?_)
    refine pV (.bool true) (by intro w; go_simp <;> (first | omega | (simp; omega) | exact h1 | (simp [h1]; done))) ?_
    refine pU ?_
    iterate 3 refine nW ?_
    iterate 2 refine pU ?_
    iterate 5 refine nW ?_
    refine pU ?_
    refine Seq.done fun w2 hws => ?_
    have HS2 := Lib.hid hws.st
    clear hws HS1
    have HRR : Hid (r = ((0, 0, 0, 0), 3)) := Lib.hid (by rw [← HR.out]; unfold goalS; simp [h1])
    go_upto_region 2 with (fail)
    refine wp_seq_text [] (StR.move (StR.no HS2.out)) ?_
    refine pV (.agg #[.int .i64 0, .int .i64 0, .int .i64 0, .int .i64 0]) (by intro w; go_simp; try rfl) ?_
    refine sV (n := 4) (cs' := gC 0 0 0 0) (gC_one 0 0 0 0) ?_
    refine pU ?_
    refine Seq.done fun wz hws => ?_
    have HSE := hws.q1 (p := b4)
    clear hws HS2
    go_wp2_with fail
    exact ret_own2 rfl rfl rfl rfl HSE (by repeat (first | exact mC | apply mT)) (n := 4) rfl (by kernel_rfl) ⟨by rw [HRR.out]; rfl, HSE.below⟩
  by_cases h5 : 5 < k
  · have h1 := h5
    go_upto_region 1 with (fail)
    refine rgT [25] HS1.out ?_
    refine pU ?_
    refine Seq.loadCell rfl rfl rfl rfl (by repeat (first | exact mC | apply mT)) (v := .int .i64 k) rfl (by kernel_rfl) rfl (nZ ?_)
    refine pV (.bool false) (by intro w; go_simp <;> (first | omega | (simp; omega) | exact h1 | (simp [h1]; done))) ?_
    iterate 2 refine pU ?_
    refine Seq.loadCell rfl rfl rfl rfl (by repeat (first | exact mC | apply mT)) (v := .int .i64 k) rfl (by kernel_rfl) rfl (nZ ?_)
    refine pV (.bool true) (by intro w; go_simp <;> (first | omega | (simp; omega) | exact h1 | (simp [h1]; done))) ?_
    iterate 2 refine pU ?_
    iterate 5 refine nW ?_
    refine pU ?_
    refine Seq.done fun w2 hws => ?_
    have HS2 := Lib.hid hws.st
    clear hws HS1
    have HRR : Hid (r = ((0, 0, 0, 0), 3)) := Lib.hid (by rw [← HR.out]; unfold goalS; simp [h5])
    go_upto_region 2 with (fail)
    refine wp_seq_text [] (StR.move (StR.no HS2.out)) ?_
    refine pV (.agg #[.int .i64 0, .int .i64 0, .int .i64 0, .int .i64 0]) (by intro w; go_simp; try rfl) ?_
    refine sV (n := 4) (cs' := gC 0 0 0 0) (gC_one 0 0 0 0) ?_
    refine pU ?_
    refine Seq.done fun wz hws => ?_
    have HSE := hws.q1 (p := b4)
    clear hws HS2
    go_wp2_with fail
    exact ret_own2 rfl rfl rfl rfl HSE (by repeat (first | exact mC | apply mT)) (n := 4) rfl (by kernel_rfl) ⟨by rw [HRR.out]; rfl, HSE.below⟩
  replace h1 : 1 ≤ k := by omega
  replace h5 : k ≤ 5 := by omega
  have h6 : ¬ k < 1 := by omega
  have h7 : ¬ 5 < k := by omega
  by_cases hc0 : c = 0
  rotate_left
  · go_upto_region 1 with (fail)
    refine rgT [25] HS1.out ?_
    refine pU ?_
    refine Seq.loadCell rfl rfl rfl rfl (by repeat (first | exact mC | apply mT)) (v := .int .i64 k) rfl (by kernel_rfl) rfl (nZ ?_)
    refine pV (.bool false) (by intro w; go_simp <;> (first | omega | (simp; omega) | exact h1 | (simp [h1]; done))) ?_
    iterate 2 refine pU ?_
    refine Seq.loadCell rfl rfl rfl rfl (by repeat (first | exact mC | apply mT)) (v := .int .i64 k) rfl (by kernel_rfl) rfl (nZ ?_)
    refine pV (.bool false) (by intro w; go_simp <;> (first | omega | (simp; omega) | exact h1 | (simp [h1]; done))) ?_
    iterate 2 refine pU ?_
    refine lV ?_
    refine Seq.slice (n := 1) (e := 33) (cs := stC k n A B t (.slice X nb cb)) rfl rfl (fun w => slcSt_1 rfl rfl w) ?_
    intro b21 _ _ hb21
    refine nZ ?_
    refine pU ?_
    refine Seq.callAny rfl rfl rfl rfl (by kernel_rfl) (fun w h => check1_q h1 h5 w (Tab.next HT.out h.st.below) HQ.out HC.out (h.reg _ _ _ (by repeat (first | exact rS | refine rN (by assumption) ?_))).2.2) (nZ ?_)
    refine pV (.bool true) (by intro w; go_simp <;> (first | (rw [hc0]; done) | exact hc0 | (simp [hc0]; done) | omega | (simp; omega) | (have h9 := hc0; simp at h9 ⊢; first | exact h9 | omega))) ?_
    refine pU ?_
    refine Seq.done fun w2 hws => ?_
    have HS2 := Lib.hid hws.st
    clear hws HS1
    have HRR : Hid (r = ((0, 0, 0, 0), 3)) := Lib.hid (by rw [← HR.out]; unfold goalS; simp [h6, h7, HC.out, hc0])
    go_upto_region 2 with (fail)
    refine wp_seq_text [] (StR.move (StR.no HS2.out)) ?_
    refine pV (.agg #[.int .i64 0, .int .i64 0, .int .i64 0, .int .i64 0]) (by intro w; go_simp; try rfl) ?_
    refine sV (n := 4) (cs' := gC 0 0 0 0) (gC_one 0 0 0 0) ?_
    refine pU ?_
    refine Seq.done fun wz hws => ?_
    have HSE := hws.q1 (p := b4)
    clear hws HS2
    go_wp2_with fail
    exact ret_own2 rfl rfl rfl rfl HSE (by repeat (first | exact mC | apply mT)) (n := 4) rfl (by kernel_rfl) ⟨by rw [HRR.out]; rfl, HSE.below⟩
  go_upto_region 1 with (fail)
  refine rgT [25] HS1.out ?_
  refine pU ?_
  refine Seq.loadCell rfl rfl rfl rfl (by repeat (first | exact mC | apply mT)) (v := .int .i64 k) rfl (by kernel_rfl) rfl (nZ ?_)
  refine pV (.bool false) (by intro w; go_simp <;> (first | omega | (simp; omega) | exact h1 | (simp [h1]; done))) ?_
  iterate 2 refine pU ?_
  refine Seq.loadCell rfl rfl rfl rfl (by repeat (first | exact mC | apply mT)) (v := .int .i64 k) rfl (by kernel_rfl) rfl (nZ ?_)
  refine pV (.bool false) (by intro w; go_simp <;> (first | omega | (simp; omega) | exact h1 | (simp [h1]; done))) ?_
  iterate 2 refine pU ?_
  refine lV ?_
  refine Seq.slice (n := 1) (e := 33) (cs := stC k n A B t (.slice X nb cb)) rfl rfl (fun w => slcSt_1 rfl rfl w) ?_
  intro b21 _ _ hb21
  refine nZ ?_
  refine pU ?_
  refine Seq.callAny rfl rfl rfl rfl (by kernel_rfl) (fun w h => check1_q h1 h5 w (Tab.next HT.out h.st.below) HQ.out HC.out (h.reg _ _ _ (by repeat (first | exact rS | refine rN (by assumption) ?_))).2.2) (nZ ?_)
  refine pV (.bool false) (by intro w; go_simp <;> (first | (rw [hc0]; done) | exact hc0 | (simp [hc0]; done) | omega | (simp; omega) | (have h9 := hc0; simp at h9 ⊢; first | exact h9 | omega))) ?_
  refine pU ?_
  refine Seq.done fun w2 hws => ?_
  have HS2 := Lib.hid hws.st
  clear hws HS1
  go_upto_region 3 with (fail)
  refine rgT [] HS2.out ?_
  refine pU ?_
  refine Seq.loadCell rfl rfl rfl rfl (by repeat (first | exact mC | apply mT)) (v := .int .i64 k) rfl (by kernel_rfl) rfl (nZ ?_)
  refine cX rfl rfl (fun w _ => HKI.out w) ?_
  iterate 5 refine pU ?_
  refine Seq.done fun w4 hws => ?_
  have HS4 := Lib.hid hws.st
  clear hws HS2
  go_upto_region 4 with (fail)
  refine rgT [] HS4.out ?_
  refine lV ?_
  iterate 2 refine pU ?_
  refine Seq.loadCell rfl rfl rfl rfl (by repeat (first | exact mC | apply mT)) (v := .string A) rfl (by kernel_rfl) rfl (nZ ?_)
  refine cX rfl rfl (fun w h => HI1.out w h.below) ?_
  iterate 5 refine pU ?_
  refine Seq.done fun w5 hws => ?_
  have HS5 := Lib.hid hws.st
  clear hws HS4
  have hcz : codeS k n A B t q g nb = 0 := by rw [HC.out, hc0]
  by_cases hea : ea = 0
  rotate_left
  · go_upto_region 5 with (fail)
    refine rgT [] HS5.out ?_
    refine pU ?_
    refine pV (.bool true) (by intro w; go_simp <;> (first | (rw [hea]; done) | exact hea | (simp [hea]; done) | omega | (simp; omega) | (have h9 := hea; simp at h9 ⊢; first | exact h9 | omega))) ?_
    refine Seq.done fun w6 hws => ?_
    have HS6 := Lib.hid hws.st
    clear hws HS5
    have HRR : Hid (r = ((0, 0, 0, 0), ea)) := Lib.hid (by rw [← HR.out]; unfold goalS; simp [h6, h7, hcz, HK2.out, HX1.out, HX2.out, hea])
    go_upto_region 6 with (fail)
    refine wp_seq_text [] (StR.move (StR.no HS6.out)) ?_
    refine pV (.agg #[.int .i64 0, .int .i64 0, .int .i64 0, .int .i64 0]) (by intro w; go_simp; try rfl) ?_
    refine pU ?_
    refine sV (n := 4) (cs' := gC 0 0 0 0) (gC_one 0 0 0 0) ?_
    refine pU ?_
    refine Seq.done fun wz hws => ?_
    have HSE := hws.q1 (p := b4)
    clear hws HS6
    go_wp2_with fail
    exact ret_own2 rfl rfl rfl rfl HSE (by repeat (first | exact mC | apply mT)) (n := 4) rfl (by kernel_rfl) ⟨by rw [HRR.out]; rfl, HSE.below⟩
  go_upto_region 5 with (fail)
  refine rgT [] HS5.out ?_
  refine pU ?_
  refine pV (.bool false) (by intro w; go_simp <;> (first | (rw [hea]; done) | exact hea | (simp [hea]; done) | omega | (simp; omega) | (have h9 := hea; simp at h9 ⊢; first | exact h9 | omega))) ?_
  refine Seq.done fun w6 hws => ?_
  have HS6 := Lib.hid hws.st
  clear hws HS5
  go_upto_region 7 with (fail)
  refine rgT [] HS6.out ?_
  refine lV ?_
  iterate 2 refine pU ?_
  refine Seq.loadCell rfl rfl rfl rfl (by repeat (first | exact mC | apply mT)) (v := .string B) rfl (by kernel_rfl) rfl (nZ ?_)
  refine cX rfl rfl (fun w h => HI2.out w h.below) ?_
  iterate 5 refine pU ?_
  refine Seq.done fun w8 hws => ?_
  have HS8 := Lib.hid hws.st
  clear hws HS6
  by_cases heb : eb = 0
  rotate_left
  · go_upto_region 8 with (fail)
    refine rgT [] HS8.out ?_
    refine pU ?_
    refine pV (.bool true) (by intro w; go_simp <;> (first | (rw [heb]; done) | exact heb | (simp [heb]; done) | omega | (simp; omega) | (have h9 := heb; simp at h9 ⊢; first | exact h9 | omega))) ?_
    refine Seq.done fun w9 hws => ?_
    have HS9 := Lib.hid hws.st
    clear hws HS8
    have HRR : Hid (r = ((0, 0, 0, 0), eb)) := Lib.hid (by rw [← HR.out]; unfold goalS; simp [h6, h7, hcz, HK2.out, HX1.out, HX2.out, hea, heb])
    go_upto_region 9 with (fail)
    refine wp_seq_text [] (StR.move (StR.no HS9.out)) ?_
    refine pV (.agg #[.int .i64 0, .int .i64 0, .int .i64 0, .int .i64 0]) (by intro w; go_simp; try rfl) ?_
    refine pU ?_
    refine sV (n := 4) (cs' := gC 0 0 0 0) (gC_one 0 0 0 0) ?_
    refine pU ?_
    refine Seq.done fun wz hws => ?_
    have HSE := hws.q1 (p := b4)
    clear hws HS9
    go_wp2_with fail
    exact ret_own2 rfl rfl rfl rfl HSE (by repeat (first | exact mC | apply mT)) (n := 4) rfl (by kernel_rfl) ⟨by rw [HRR.out]; rfl, HSE.below⟩
  go_upto_region 8 with (fail)
  refine rgT [] HS8.out ?_
  refine pU ?_
  refine pV (.bool false) (by intro w; go_simp <;> (first | (rw [heb]; done) | exact heb | (simp [heb]; done) | omega | (simp; omega) | (have h9 := heb; simp at h9 ⊢; first | exact h9 | omega))) ?_
  refine Seq.done fun w9 hws => ?_
  have HS9 := Lib.hid hws.st
  clear hws HS8
  rcases Bool.eq_false_or_eq_true (wz t) with hwz | hwz
  · go_upto_region 10 with (fail)
    refine rgW [] HS9.out ?_
    refine pU ?_
    refine lA (RT.c t) ?_
    refine pU ?_
    refine Seq.neZ rfl rfl rfl rfl rfl hwz (nZ ?_)
    refine pU ?_
    iterate 10 refine nW ?_
    refine pU ?_
    refine Seq.done fun w11 hws => ?_
    have HS11 := Lib.hid hws.st
    clear hws HS9
    have HRR : Hid (r = ((k, ia, ib, n), 0)) := Lib.hid (by rw [← HR.out]; unfold goalS; simp [h6, h7, hcz, HK2.out, HX1.out, HX2.out, hea, heb, hwz])
    go_upto_region 12 with (fail)
    refine wp_seq_text [] (StR.move (StR.no HS11.out)) ?_
    refine pU ?_
    refine Seq.loadCell rfl rfl rfl rfl (by repeat (first | exact mC | apply mT)) (v := .int .i64 k) rfl (by kernel_rfl) rfl (nZ ?_)
    iterate 3 refine pU ?_
    refine Seq.loadCell rfl rfl rfl rfl (by repeat (first | exact mC | apply mT)) (v := .int .i64 n) rfl (by kernel_rfl) rfl (nZ ?_)
    refine pV (.agg (gC k ia ib n)) (by intro w; unfold gC; go_simp; try rfl) ?_
    refine sV (n := 4) (cs' := gC k ia ib n) (gC_one _ _ _ _) ?_
    refine pU ?_
    refine Seq.done fun wz hws => ?_
    have HSE := hws.q1 (p := b4)
    clear hws HS11
    go_wp2_with fail
    exact ret_own2 rfl rfl rfl rfl HSE (by repeat (first | exact mC | apply mT)) (n := 4) rfl (by kernel_rfl) ⟨by rw [HRR.out]; rfl, HSE.below⟩
  obtain rfl : k = 1 := code_put hcz hwz
  have hk2 : (2, 3) = (ka, kb) := HK2.out
  injection hk2 with hka hkb
  subst hka hkb hea heb
  obtain ⟨i, hib, hil⟩ := find_slot (idx_slot HX2.out)
  have hi3 : i < n3 := by rw [← HK.out.e3.1]; exact hil
  obtain ⟨t2, g2, ht2, hq2⟩ := HY.out i hi3 (by rw [← hib]; exact idx_slot HX2.out)
  obtain ⟨x, hx⟩ : ∃ x, K.L3[i]? = some x := ⟨_, List.getElem?_eq_getElem hil⟩
  obtain ⟨gg, gf, hA3, hgg, hF, hO, h0, hcc⟩ := HK.out.h3 i x hx
  have HIX : Hid (∀ w, (Instr.indexAt 25 (.slice K.A3 n3 K.c3) (.int .i64 (i : Int))).run Tryd.prog w = .ok (.pointer (some ⟨gg, gf + i * 14, none⟩)) w) := Lib.hid (fun w => by rw [hA3]; exact run_indexT (by kernel_rfl) hi3 w)
  have HLD : Hid (∀ w', Below w.heap.size w w' → (loadVar 28 ⟨gg, gf + i * 14 + 11, none⟩).run Tryd.prog w' = .ok (.agg (RT.c t2)) w') := Lib.hid (fun w' hb => ld_tol hgg hcc ht2 hb)
  have HQ2 := Lib.hid hq2
  obtain ⟨v, hv⟩ : ∃ v, cmpQ q y = v := ⟨_, rfl⟩
  have HV := Lib.hid hv
  have hv3 := cmp_or q y
  rw [hv] at hv3
  subst hib
  clear hA3 hgg hF hO h0 hcc hx ht2 hq2 hv hil hi3
  by_cases hgt : 0 < v
  · have hv1 : v = 1 := by omega
    go_upto_region 10 with (fail)
    refine rgW [] HS9.out ?_
    refine pU ?_
    refine lA (RT.c t) ?_
    refine pU ?_
    refine Seq.neZ rfl rfl rfl rfl rfl hwz (nZ ?_)
    iterate 2 refine pU ?_
    refine lA (RT.c t) ?_
    refine pU ?_
    refine Seq.loadCell rfl rfl rfl rfl (by repeat (first | exact mC | apply mT)) (v := .slice K.A3 n3 K.c3) rfl (by kernel_rfl) rfl (nZ ?_)
    refine pU ?_
    refine Seq.indexT rfl rfl rfl rfl rfl HIX.out (nZ ?_)
    refine pU ?_
    refine Seq.loadT rfl rfl rfl rfl HLD.out (nZ ?_)
    refine cX rfl rfl (cmp_w HT.out HQ.out HQ2.out HV.out (by omega)) ?_
    refine pV (.bool true) (by intro w; go_simp <;> (first | omega | (simp; omega) | exact hgt | (simp [hgt]; done))) ?_
    refine pU ?_
    refine Seq.done fun w11 hws => ?_
    have HS11 := Lib.hid hws.st
    clear hws HS9
    have HRR : Hid (r = ((0, 0, 0, 0), 18)) := Lib.hid (by rw [← HR.out]; unfold goalS; simp [hcz, hwz, HX1.out, HX2.out, HV.out, kindsS, hv1])
    go_upto_region 11 with (fail)
    refine wp_seq_text [] (StR.move (StR.no HS11.out)) ?_
    refine pV (.agg #[.int .i64 0, .int .i64 0, .int .i64 0, .int .i64 0]) (by intro w; go_simp; try rfl) ?_
    refine sV (n := 4) (cs' := gC 0 0 0 0) (gC_one 0 0 0 0) ?_
    refine pU ?_
    refine Seq.done fun wz hws => ?_
    have HSE := hws.q1 (p := b4)
    clear hws HS11
    go_wp2_with fail
    exact ret_own2 rfl rfl rfl rfl HSE (by repeat (first | exact mC | apply mT)) (n := 4) rfl (by kernel_rfl) ⟨by rw [HRR.out]; rfl, HSE.below⟩
  · have hv1 : ¬ v = 1 := by omega
    go_upto_region 10 with (fail)
    refine rgW [] HS9.out ?_
    refine pU ?_
    refine lA (RT.c t) ?_
    refine pU ?_
    refine Seq.neZ rfl rfl rfl rfl rfl hwz (nZ ?_)
    iterate 2 refine pU ?_
    refine lA (RT.c t) ?_
    refine pU ?_
    refine Seq.loadCell rfl rfl rfl rfl (by repeat (first | exact mC | apply mT)) (v := .slice K.A3 n3 K.c3) rfl (by kernel_rfl) rfl (nZ ?_)
    refine pU ?_
    refine Seq.indexT rfl rfl rfl rfl rfl HIX.out (nZ ?_)
    refine pU ?_
    refine Seq.loadT rfl rfl rfl rfl HLD.out (nZ ?_)
    refine cX rfl rfl (cmp_w HT.out HQ.out HQ2.out HV.out (by omega)) ?_
    refine pV (.bool false) (by intro w; go_simp <;> (first | omega | (simp; omega) | exact hgt | (simp [hgt]; done))) ?_
    refine pU ?_
    refine Seq.done fun w11 hws => ?_
    have HS11 := Lib.hid hws.st
    clear hws HS9
    have HRR : Hid (r = ((1, ia, (i : Int), n), 0)) := Lib.hid (by rw [← HR.out]; unfold goalS; simp [hcz, hwz, HX1.out, HX2.out, HV.out, kindsS, hv1])
    go_upto_region 12 with (fail)
    refine wp_seq_text [] (StR.move (StR.no HS11.out)) ?_
    refine pU ?_
    refine Seq.loadCell rfl rfl rfl rfl (by repeat (first | exact mC | apply mT)) (v := .int .i64 1) rfl (by kernel_rfl) rfl (nZ ?_)
    iterate 3 refine pU ?_
    refine Seq.loadCell rfl rfl rfl rfl (by repeat (first | exact mC | apply mT)) (v := .int .i64 n) rfl (by kernel_rfl) rfl (nZ ?_)
    refine pV (.agg (gC 1 ia (i : Int) n)) (by intro w; unfold gC; go_simp; try rfl) ?_
    refine sV (n := 4) (cs' := gC 1 ia (i : Int) n) (gC_one _ _ _ _) ?_
    refine pU ?_
    refine Seq.done fun wz hws => ?_
    have HSE := hws.q1 (p := b4)
    clear hws HS11
    go_wp2_with fail
    exact ret_own2 rfl rfl rfl rfl HSE (by repeat (first | exact mC | apply mT)) (n := 4) rfl (by kernel_rfl) ⟨by rw [HRR.out]; rfl, HSE.below⟩
end Go.Proofs.YtekbpiooecdopaaDoor
