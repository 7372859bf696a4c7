/- gantlaw4.typed; the walk of TypesBinds (printed by tyl.py). -/
import Derived.Test.YtekbpiooecdopaaDoorTyG

namespace Go.Proofs.YtekbpiooecdopaaDoor
open Go.RowKit
set_option linter.unusedVariables false
set_option linter.unusedSimpArgs false

def partC (c : UInt8) : List Value := [.string ⟨#[c]⟩, .slice none 0 0, .bool false, .string ⟨#[]⟩, .string ⟨#[]⟩, .bool false, .string ⟨#[]⟩, .string ⟨#[]⟩, .bool false, .bool false, .string ⟨#[]⟩, .string ⟨#[]⟩]
def K0 (p : Nat) : Wk := ⟨none, some ⟨p, 0, none⟩, none, none, 0, 2, 0, 0, .slice none 0 0, .bool false, .string ⟨#[]⟩, .string ⟨#[]⟩, [], [⟨#[97]⟩, ⟨#[98]⟩], [], [], fun _ => [], fun i => if i = 0 then partC 97 else partC 98, fun _ => [], fun _ => []⟩
theorem part_one (c : UInt8) : Ones (partC c) := fun u hu => by
  simp only [partC, List.mem_cons, List.not_mem_nil, or_false] at hu
  rcases hu with rfl | rfl | rfl | rfl | rfl | rfl | rfl | rfl | rfl | rfl | rfl | rfl <;> rfl
def two0 : Array Value := (partC 97 ++ partC 98).toArray
theorem K0_in {w : World} {p : Nat} (h : Blk w p 54 two0) : WkIn w (K0 p) 0 2 0 0 := by
  have none_in : ∀ (C : Nat) (A : Option Addr) (F : Nat → List Value), SIn C w A [] F := fun C A F i x hx => by simp at hx
  refine ⟨none_in _ _ _, fun i x hx => ?_, none_in _ _ _, none_in _ _ _, ⟨rfl, by omega⟩, ⟨rfl, by omega⟩, ⟨rfl, by omega⟩, ⟨rfl, by omega⟩, rfl, rfl, rfl, rfl, fun i hi => by omega⟩
  refine ⟨p, 0, rfl, h.lt, ?_⟩
  match i, hx with
  | 0, hx =>
    injection hx with hx
    subst hx
    refine ⟨rfl, part_one 97, rfl, fun j u hu => ?_⟩
    have hu : (partC 97)[j]? = some u := hu
    rw [show 0 + (0 * 12 + j) = j by omega, h.cell]
    unfold two0
    rw [List.getElem?_toArray, List.getElem?_append_left (List.getElem?_eq_some_iff.1 hu).1]
    exact hu
  | 1, hx =>
    injection hx with hx
    subst hx
    refine ⟨rfl, part_one 98, rfl, fun j u hu => ?_⟩
    have hu : (partC 98)[j]? = some u := hu
    rw [show 0 + (1 * 12 + j) = 12 + j by omega, h.cell]
    unfold two0
    rw [List.getElem?_toArray, List.getElem?_append_right (by show (partC 97).length ≤ _; simp [partC])]
    rw [show 12 + j - (partC 97).length = j by simp [partC]]
    exact hu
  | i + 2, hx => simp [K0] at hx
theorem eqS_dec (x y : ByteArray) {b : Bool} (h : (x.data.toList == y.data.toList) = b) : eqS x y = b := by rw [eqS_bl]; exact h
theorem find0 (p : Nat) : findR (K0 p).L0 (K0 p).L2 (K0 p).L3 (K0 p).L4 ⟨#[98]⟩ = (2, 1) := by
  have h1 : ixS ⟨#[98]⟩ (K0 p).L2 = 1 := ixS_found (k := 1) rfl (eqS_dec _ _ rfl) (fun j hj y hy => by
    obtain rfl : j = 0 := by omega
    injection hy with hy
    subst hy
    exact eqS_dec _ _ rfl)
  have h0 : ixS ⟨#[98]⟩ (K0 p).L0 = -1 := rfl
  unfold findR
  rw [h0, h1]
  rfl
def t0 : RT := ⟨false, ⟨#[]⟩, ⟨#[]⟩⟩
theorem em_list : (⟨#[]⟩ : ByteArray).toList = [] := by rw [Lib.toList_data]
theorem goal0 (p : Nat) (q : Rat) (g : Bool) (y : Rat) : goalS (K0 p) 4 0 ⟨#[98]⟩ ⟨#[]⟩ t0 q g 0 y = ((4, 1, -1, 0), 0) := by
  have hw : wz t0 = true := by unfold wz t0; rw [em_list]; rfl
  have hf : freeB (bl ⟨#[98]⟩) = true := by decide
  have hc : codeS 4 0 ⟨#[98]⟩ ⟨#[]⟩ t0 q g 0 = 0 := by
    unfold codeS baseS
    rw [hw, hf, em_list]
    rfl
  have hk : kindsS 4 = (2, 0) := rfl
  have h1 : idxS (K0 p) 2 ⟨#[98]⟩ = (1, 0) := by unfold idxS; rw [find0]; rfl
  have h2 : idxS (K0 p) 0 ⟨#[]⟩ = (-1, 0) := rfl
  unfold goalS
  rw [hc, hk, h1, h2, hw]
  rfl
theorem slcP_2 {o : Oper} {a : Act} {X0 X1 : Operand} (ho : o.op = .buildSlice 24 2 #[(0, X0), (1, X1)]) (h0 : a.eval X0 = .agg (partC 97).toArray) (h1 : a.eval X1 = .agg (partC 98).toArray) (w : World) :
    (execOp a.eval o).run Tryd.prog w = .ok (.value (.slice (some ⟨w.heap.size, 0, none⟩) 2 2)) (w.alloc (.cells two0 54)) := by
  unfold partC at h0 h1
  unfold execOp two0 partC
  simp only [ho, List.map_toArray, List.map_cons, List.map_nil, h0, h1]
  go_simp
set_option maxHeartbeats 8000000 in
set_option maxRecDepth 20000 in
theorem typed_q {W : World} {l : List Own} (hT : Tab W) (w : World) (h : St W l w) :
    Calls Tryd.prog 8 #[] w fun e w' => e = .returned (.bool true) ∧ Below w.heap.size w w' := by
  have HT := Lib.hid (tabS hT h); clear hT h
  obtain ⟨q, g, hq⟩ := raw_any t0.s t0.a t0.d 1048576 (by omega) (by decide) (by decide)
  have HQ : Hid (RawT 1048576 q g t0) := Lib.hid hq; clear hq
  have HS0 : Hid (St w [] w) := Lib.hid St.start
  go_enter Tryd.func8, Tryd.ntmps8
  go_upto_region 1 with (fail)
  refine rgT [] HS0.out ?_
  refine pV (.agg (partC 97).toArray) (by intro w; unfold partC; go_simp; try rfl) ?_
  refine pV (.agg (partC 98).toArray) (by intro w; unfold partC; go_simp; try rfl) ?_
  refine Seq.slice (n := 2) (e := 54) (cs := two0) rfl rfl (fun w => slcP_2 rfl rfl rfl w) ?_
  intro b6 _ _ hb6
  refine nZ ?_
  refine pV (.agg (wkC (K0 b6) 0 2 0 0)) (by intro w; unfold wkC K0; go_simp; try rfl) ?_
  refine Seq.alloc rfl rfl rfl (z := .agg #[.slice none 0 0, .slice none 0 0, .slice none 0 0, .slice none 0 0, .slice none 0 0, .bool false, .string ⟨#[]⟩, .string ⟨#[]⟩]) (by kernel_rfl) rfl ?_
  intro b1 _ _ hb1
  refine nZ ?_
  obtain ⟨e16, e61, _⟩ := Reg.ne2 hb1
  refine sV (n := 8) (cs' := wkC (K0 b6) 0 2 0 0) (fun u hu => by simp [wkC, K0] at hu; rcases hu with rfl | rfl | rfl | rfl | rfl <;> rfl) ?_
  refine Seq.done fun w1 hws => ?_
  have HS1 := Lib.hid (hws.q2 (p := b1) (q := b6))
  clear hws HS0
  go_upto_region 2 with (fail)
  refine rgT [] HS1.out ?_
  refine lV ?_
  refine pV (.agg (stC 4 0 ⟨#[98]⟩ ⟨#[]⟩ t0 (.slice none 0 0))) (by intro w; unfold stC t0; go_simp; try rfl) ?_
  refine cX rfl rfl (fun w1 h1 => bind_any (y := 0) w1 (Tab.next HT.out h1.below) (K0_in (h1.blk (b6, 54, two0) (by repeat (first | exact mC | apply mT))).2) HQ.out (fun i hi => by omega) (goal0 b6 q g 0)) ?_
  iterate 3 refine pU ?_
  refine Seq.alloc rfl rfl rfl (z := .agg #[.int .i64 0, .int .i64 0, .int .i64 0, .int .i64 0]) (by kernel_rfl) rfl ?_
  intro b2 _ _ hb2
  refine nZ ?_
  refine sV (n := 4) (cs' := gC 4 1 (-1) 0) (gC_one _ _ _ _) ?_
  refine pU ?_
  refine Seq.done fun w2 hws => ?_
  have HS2 := Lib.hid (hws.q1 (p := b2))
  clear hws HS1
  go_upto_region 3 with (fail)
  refine rgT [] HS2.out ?_
  iterate 3 refine pU ?_
  refine lV ?_
  refine pV (.agg (gC 4 1 (-1) 0)) (by intro w; unfold gC; go_simp; try rfl) ?_
  refine pV (.bool true) (by intro w; unfold gC; go_simp; try rfl) ?_
  iterate 2 refine pU ?_
  refine Seq.done fun w3 hws => ?_
  have HB := Lib.hid hws.st.below
  clear hws HS2
  go_wp2_with fail
  go_ret
  exact ⟨rfl, HB.out⟩
set_option maxHeartbeats 16000000 in
set_option maxRecDepth 20000 in
theorem typesBinds_main {K : Wk} {n0 n2 n3 n4 : Nat} {k n : Int} {A B : ByteArray} {t : RT} {X : Option Addr} {nb cb : Nat} {q : Rat} {g : Bool} {s : ByteArray} (w : World) (hT : Tab w) (hk : WkIn w K n0 n2 n3 n4) (hq : RawT 1048576 q g t) (hA : A.size ≤ 1048576) (hB : B.size ≤ 1048576) (hm : MaxL w) :
    Calls Tryd.prog 3 #[.agg (wkC K n0 n2 n3 n4), .string s, .agg (stC k n A B t (.slice X nb cb))] w fun e w' => e = .returned (.bool true) ∧ Below w.heap.size w w' := by
  obtain ⟨y, hy⟩ := slotTol_ex hk B
  obtain ⟨⟨f1, f2⟩, hf⟩ : ∃ p, findR K.L0 K.L2 K.L3 K.L4 s = p := ⟨_, rfl⟩
  obtain ⟨⟨⟨ra, rb, rc, rd⟩, re⟩, hr⟩ : ∃ p, goalS K k n A B t q g nb y = p := ⟨_, rfl⟩
  have HO := Lib.hid hk.ones
  have HT := Lib.hid hT
  have H1 : Hid (∀ w1 : World, Below w.heap.size w w1 → Calls Tryd.prog 4 #[.agg (wkC K n0 n2 n3 n4), .string s] w1 fun e w' => e = .returned (.tuple #[.int .i64 f1, .int .i64 f2]) ∧ Below w1.heap.size w1 w') := Lib.hid (fun w1 h => find_any w1 (hk.next h) hf)
  have H2 : Hid (∀ w1 : World, Below w.heap.size w w1 → Calls Tryd.prog 5 #[.agg (wkC K n0 n2 n3 n4), .string s] w1 fun e w' => e = .returned (.tuple #[.int .i64 f1, .int .i64 f2]) ∧ Below w1.heap.size w1 w') := Lib.hid (fun w1 h => named_any w1 (hk.next h) hf)
  have H3 : Hid (∀ w1 : World, Below w.heap.size w w1 → Calls Tryd.prog 6 #[.agg (wkC K n0 n2 n3 n4), .agg (stC k n A B t (.slice X nb cb))] w1 fun e w' => e = .returned (.tuple #[.agg (gC ra rb rc rd), .int .i64 re]) ∧ Below w1.heap.size w1 w') := Lib.hid (fun w1 h => bind_any w1 (Tab.next hT h) (hk.next h) hq hy hr)
  have H4 : Hid (∀ w1 : World, Below w.heap.size w w1 → Calls Tryd.prog 7 #[.agg (wkC K n0 n2 n3 n4), .agg (stC k n A B t (.slice X nb cb))] w1 fun e w' => e = .returned (.tuple #[.agg (gC ra rb rc rd), .int .i64 re]) ∧ Below w1.heap.size w1 w') := Lib.hid (fun w1 h => goal_any w1 (Tab.next hT h) (hk.next h) hq hy hA hB (hm.below h) hr)
  clear hT hk hq hA hB hm hy hf hr
  have HS0 : Hid (St w [] w) := Lib.hid St.start
  go_enter Tryd.func3, Tryd.ntmps3
  go_upto_region 0 with (fail)
  refine rgT [] HS0.out ?_
  refine bX (wkC K n0 n2 n3 n4) ?_
  intro b3 _ _ hb3
  refine nZ ?_
  refine bX (stC k n A B t (.slice X nb cb)) ?_
  intro b5 _ _ hb5
  refine nZ ?_
  obtain ⟨e53, e35, _⟩ := Reg.ne2 hb5
  refine pU ?_
  refine Seq.done fun w0 hws => ?_
  have HS1 := Lib.hid (hws.q2 (p := b5) (q := b3))
  clear hws HS0
  go_upto_region 1 with (fail)
  refine rgT [] HS1.out ?_
  refine lV ?_
  refine pU ?_
  refine cX rfl rfl (fun w h => H1.out w h.below) ?_
  iterate 5 refine pU ?_
  refine Seq.done fun w1 hws => ?_
  have HS2 := Lib.hid hws.st
  clear hws HS1
  go_upto_region 2 with (fail)
  refine rgT [] HS2.out ?_
  refine lV ?_
  refine pU ?_
  refine cX rfl rfl (fun w h => H2.out w h.below) ?_
  iterate 5 refine pU ?_
  refine Seq.done fun w2 hws => ?_
  have HS3 := Lib.hid hws.st
  clear hws HS2
  go_upto_region 3 with (fail)
  refine rgT [] HS3.out ?_
  iterate 2 refine lV ?_
  refine cX rfl rfl (fun w h => H3.out w h.below) ?_
  iterate 3 refine pU ?_
  refine Seq.alloc rfl rfl rfl (z := .agg #[.int .i64 0, .int .i64 0, .int .i64 0, .int .i64 0]) (by kernel_rfl) rfl ?_
  intro b11 _ _ hb11
  refine nZ ?_
  refine sV (n := 4) (cs' := gC ra rb rc rd) (gC_one _ _ _ _) ?_
  refine pU ?_
  refine Seq.done fun w3 hws => ?_
  have HS4 := Lib.hid (hws.q1 (p := b11))
  clear hws HS3
  go_upto_region 4 with (fail)
  refine rgT [] HS4.out ?_
  iterate 2 refine lV ?_
  refine cX rfl rfl (fun w h => H4.out w h.below) ?_
  iterate 3 refine pU ?_
  refine Seq.alloc rfl rfl rfl (z := .agg #[.int .i64 0, .int .i64 0, .int .i64 0, .int .i64 0]) (by kernel_rfl) rfl ?_
  intro b13 _ _ hb13
  refine nZ ?_
  refine sV (n := 4) (cs' := gC ra rb rc rd) (gC_one _ _ _ _) ?_
  refine pU ?_
  refine Seq.done fun w4 hws => ?_
  have HS5 := Lib.hid (hws.q1 (p := b13))
  clear hws HS4
  go_upto_region 5 with (fail)
  refine rgT [] HS5.out ?_
  refine cX rfl rfl (fun w h => typed_q HT.out w h) ?_
  iterate 16 refine pU ?_
  iterate 2 refine lV ?_
  refine pV (.bool true) (by intro w; unfold gC; go_simp; try rfl) ?_
  iterate 2 refine pU ?_
  refine Seq.done fun w5 hws => ?_
  have HB := Lib.hid hws.st.below
  clear hws HS5
  go_wp2_with fail
  go_ret
  exact ⟨rfl, HB.out⟩
end Go.Proofs.YtekbpiooecdopaaDoor
