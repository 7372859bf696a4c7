/- gantref4.own, all leaf kinds; the maps of GoalOf (printed by tyg.py). -/
import Derived.Test.YtekbpiooecdopaaDoorTyE
import Derived.Test.YtekbpiooecdopaaDoorTyV
import Derived.Test.YtekbpiooecdopaaDoorTyU
import Derived.Test.YtekbpiooecdopaaDoorTyT

namespace Go.Proofs.YtekbpiooecdopaaDoor
open Go.RowKit
set_option linter.unusedVariables false
set_option linter.unusedSimpArgs false

theorem St.more {W w w' : World} {l : List Own} (h : St W l w) (hb : Below w.heap.size w w') : St W l w' := ⟨h.below.trans (hb.mono h.below.size), fun e he => ⟨(h.blk e he).1, (h.blk e he).2.belowB hb⟩, h.apart⟩
theorem St.plus {W w w' : World} {l : List Own} {p : Nat} {x : TypeId × Array Value} (h : St W l w) (hp : w.heap.size ≤ p) (hb : Below w.heap.size w w') (hB : Blk w' p x.1 x.2) : St W ((p, x) :: l) w' := by
  have h2 := h.more hb
  refine ⟨h2.below, fun e he => ?_, List.pairwise_cons.2 ⟨fun e he => ?_, h2.apart⟩⟩
  · rcases List.mem_cons.1 he with rfl | he
    · exact ⟨Nat.le_trans h.below.size hp, hB⟩
    · exact h2.blk e he
  · have := (h.blk e he).2.lt
    show p ≠ e.1
    omega
def tabW : List (Int × (Int × Int)) := aput (aput (aput (aput (aput [] 1 (2, 3)) 2 (2, 1)) 3 (1, 0)) 4 (2, 0)) 5 (0, 0)
theorem tabW_get {k : Int} (h1 : 1 ≤ k) (h5 : k ≤ 5) {ka kb : Int} (hk : kindsS k = (ka, kb)) : ((aget tabW k).map enP).getD (.agg #[.int .i64 0, .int .i64 0]) = .agg #[.int .i64 ka, .int .i64 kb] := by
  have e : k = 1 ∨ k = 2 ∨ k = 3 ∨ k = 4 ∨ k = 5 := by omega
  rcases e with rfl | rfl | rfl | rfl | rfl
  all_goals
    injection hk with ha hb
    subst ha hb
    rfl
theorem want_facts {w : World} {g : Nat} {T : TypeId} {cs : Array Value} (h : Blk w g T cs) {k : Int} (h1 : 1 ≤ k) (h5 : k ≤ 5) {ka kb : Int} (hk : kindsS k = (ka, kb)) :
    ∃ w2 w3 w4 w5 w6, (Instr.mapUpdate 74 (.map (some w.heap.size)) (.int .i64 1) (.agg #[.int .i64 2, .int .i64 3])).run Tryd.prog (w.alloc (.map #[] 0)) = .ok () w2 ∧ (Instr.mapUpdate 74 (.map (some w.heap.size)) (.int .i64 2) (.agg #[.int .i64 2, .int .i64 1])).run Tryd.prog w2 = .ok () w3 ∧ (Instr.mapUpdate 74 (.map (some w.heap.size)) (.int .i64 3) (.agg #[.int .i64 1, .int .i64 0])).run Tryd.prog w3 = .ok () w4 ∧ (Instr.mapUpdate 74 (.map (some w.heap.size)) (.int .i64 4) (.agg #[.int .i64 2, .int .i64 0])).run Tryd.prog w4 = .ok () w5 ∧ (Instr.mapUpdate 74 (.map (some w.heap.size)) (.int .i64 5) (.agg #[.int .i64 0, .int .i64 0])).run Tryd.prog w5 = .ok () w6 ∧
      (Instr.lookup 74 (.map (some w.heap.size)) (.int .i64 k) false).run Tryd.prog w6 = .ok (.agg #[.int .i64 ka, .int .i64 kb]) w6 ∧ Blk w6 g T cs ∧ Below w.heap.size w w6 := by
  have hM0 : MP (w.alloc (.map #[] 0)) w.heap.size [] := MapOf.made w
  obtain ⟨w2, r2, hM2, g2⟩ := hM0.update kInt_ Tryd.underlying74 1 (2, 3)
  obtain ⟨w3, r3, hM3, g3⟩ := hM2.update kInt_ Tryd.underlying74 2 (2, 1)
  obtain ⟨w4, r4, hM4, g4⟩ := hM3.update kInt_ Tryd.underlying74 3 (1, 0)
  obtain ⟨w5, r5, hM5, g5⟩ := hM4.update kInt_ Tryd.underlying74 4 (2, 0)
  obtain ⟨w6, r6, hM6, g6⟩ := hM5.update kInt_ Tryd.underlying74 5 (0, 0)
  have hlk := hM6.lookup kInt_ Tryd.underlying74 (zP w6) k false (v := .agg #[.int .i64 ka, .int .i64 kb]) (tabW_get h1 h5 hk) rfl
  simp only [Bool.false_eq_true, if_false] at hlk
  have h0 : Below w.heap.size w (w.alloc (.map #[] 0)) := (Below.refl _ _).alloc (Nat.le_refl _) _
  have hk : ∀ k, some w.heap.size = some k → w.heap.size ≤ k := fun k e => by injection e with e; omega
  have h2 := h0.grown g2 h0.size hk
  have h3 := h2.grown g3 h2.size hk
  have h4 := h3.grown g4 h3.size hk
  have h5 := h4.grown g5 h4.size hk
  have h6 := h5.grown g6 h5.size hk
  exact ⟨w2, w3, w4, w5, w6, r2, r3, r4, r5, r6, hlk, h.belowB h6, h6⟩
theorem slcS_2 {o : Oper} {a : Act} {X0 X1 : Operand} {x y : ByteArray} (ho : o.op = .buildSlice 61 2 #[(0, X0), (1, X1)]) (h0 : a.eval X0 = .string x) (h1 : a.eval X1 = .string y) (w : World) :
    (execOp a.eval o).run Tryd.prog w = .ok (.value (.slice (some ⟨w.heap.size, 0, none⟩) 2 2)) (w.alloc (.cells #[.string x, .string y] 9)) := by
  unfold execOp
  simp only [ho, List.map_toArray, List.map_cons, List.map_nil, h0, h1]
  go_simp
theorem sgn_sub (x y : Rat) : sgnQ (x - y) = 1 ↔ cmpQ x y = 1 := by
  have e1 : x - y < 0 ↔ x < y := by constructor <;> intro h <;> grind
  have e2 : 0 < x - y ↔ y < x := by constructor <;> intro h <;> grind
  unfold sgnQ cmpQ
  simp only [e1, e2]
set_option maxHeartbeats 8000000 in
set_option maxRecDepth 20000 in
theorem own0_q {k n : Int} {A B : ByteArray} {t : RT} {X : Option Addr} {nb cb : Nat} {W : World} {l : List Own} (h1 : k < 1) (w : World) (h : St W l w) :
    Calls Tryd.prog 14 #[.agg (stC k n A B t (.slice X nb cb))] w fun e w' => e = .returned (.int .i64 3) ∧ Below w.heap.size w w' := by
  unfold stC
  obtain ⟨u2, u3, u4, u5, u6, u7, u8, u9, r2, r3, r4, r5, r6, r7, r8, r9, HU⟩ := two_maps w #[.int .i64 k, .string A, .string B, .bool t.s, .string t.a, .string t.d, .int .i64 n, .slice X nb cb] 33
  have HBU := Lib.hid HU.out.1
  have hk0 := HU.out.2.1.cell 0
  simp at hk0
  have HK1 : Hid (Blk u9 w.heap.size 33 (stC k n A B t (.slice X nb cb))) := Lib.hid HU.out.2.1
  clear HU h
  have hmm := @run_makeMap Tryd.prog
  go_enter Tryd.func14, Tryd.ntmps14
  go_upto_region 3 with (fail)
  have HS0 : Hid (St u9 [] u9) := Lib.hid St.start
  clear r2 r3 r4 r5 r6 r7 r8 r9
  refine rgT [] HS0.out ?_
  refine pU ?_
  refine Seq.loadCellF rfl rfl rfl rfl HK1.out (v := .int .i64 k) rfl (by kernel_rfl) rfl (nZ ?_)
  refine pV (.bool true) (by intro w; go_simp <;> (first | omega | (simp; omega) | exact h1)) ?_
  refine pU ?_
  iterate 3 refine nW ?_
  refine pU ?_
  refine Seq.done fun w4 hws => ?_
  have HB := Lib.hid (HBU.out.trans (hws.st.below.mono HBU.out.size))
  clear hws HS0 hk0 HK1
  go_wp2_with fail
  go_ret
  exact ⟨rfl, HB.out⟩
theorem own_any {k n : Int} {A B : ByteArray} {t : RT} {X : Option Addr} {nb cb : Nat} {q : Rat} {g : Bool} {c : Int} {W : World} {l : List Own} (h5 : k ≤ 5) (hT : Tab W) (hq : RawT 1048576 q g t) (hA : A.size ≤ 1048576) (hB : B.size ≤ 1048576) (hc : (if k < 1 then 3 else codeS k n A B t q g nb) = c) (w : World) (hm : MaxL w) (h : St W l w) :
    Calls Tryd.prog 14 #[.agg (stC k n A B t (.slice X nb cb))] w fun e w' => e = .returned (.int .i64 c) ∧ Below w.heap.size w w' := by
  by_cases h1 : k < 1
  · rw [if_pos h1] at hc
    rw [← hc]
    exact own0_q h1 w h
  · rw [if_neg h1] at hc
    have e : k = 1 ∨ k = 2 ∨ k = 3 ∨ k = 4 ∨ k = 5 := by omega
    rcases e with rfl | rfl | rfl | rfl | rfl
    · exact own1_q hT hq hA hB hc w hm h
    · exact own2_q hT hq hA hB hc w hm h
    · exact own3_q hT hq hA hB hc w hm h
    · exact own4_q hT hq hA hB hc w hm h
    · exact own5_q hT hq hA hB hc w hm h
end Go.Proofs.YtekbpiooecdopaaDoor
