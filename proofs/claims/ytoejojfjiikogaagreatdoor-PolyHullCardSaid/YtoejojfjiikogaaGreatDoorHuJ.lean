/- slices.Index, Contains, Equal of points (printed by hullc.py). -/
import Derived.Test.YtoejojfjiikogaaGreatDoorHuC
import Derived.Test.YtoejojfjiikogaaGreatDoorPo6
import Derived.Deep.LoopGhost
import Derived.OwnWalk

namespace Go.Proofs.YtoejojfjiikogaaGreatDoor
open Go.RowKit
set_option linter.unusedVariables false
set_option linter.unusedSimpArgs false

/-- the slice A of n elements holds the points ps -/
def AtP (w : World) (A : Option Addr) (n : Nat) (ps : Pts) : Prop := ps.length = n ∧ ∀ i, i < n → ∃ g J, A = some ⟨g, 0, none⟩ ∧ Blk w g 26 (PX J ps)
theorem AtP.next {w w' : World} {A : Option Addr} {n : Nat} {ps : Pts} (h : AtP w A n ps) (hb : Below w.heap.size w w') : AtP w' A n ps := ⟨h.1, fun i hi => by
  obtain ⟨g, J, e, h1⟩ := h.2 i hi
  exact ⟨g, J, e, h1.belowB hb⟩⟩
set_option maxHeartbeats 2000000 in
set_option maxRecDepth 20000 in
theorem index_v {n c : Nat} {A : Option Addr} {ps : Pts} {x y : Rat} (hn2 : n ≤ 1000) (w : World) (hp : AtP w A n ps) :
    Calls Tryz.prog 59 #[.slice A n c, .agg (VC x y)] w fun e w' => (∃ z : Int, e = .returned (.int .i64 z) ∧ decide (0 ≤ z) = decide (((x, y) : P2) ∈ ps)) ∧ Below w.heap.size w w' := by
  have HP := Lib.hid hp; clear hp
  go_enter Tryz.func59, Tryz.ntmps59
  have HS : St w [] w := St.start
  go_upto_region 0 with (fail)
  refine wp_seq_text [] (StR.no HS) ?_
  refine Seq.box rfl rfl rfl (v := .agg (VC x y)) (cs := VC x y) rfl rfl ?_
  intro b3 _ _ hb3
  simp only [Act.put, nA, nB, nC]
  refine Seq.pure rfl rfl (by intro w; go_simp; try rfl) ?_
  simp only [Act.put, nA, nB, nC]
  refine Seq.done fun w1 hws => ?_
  have HS1 : Hid (St w [(b3, 26, VC x y)] w1) := Lib.hid (hws.list1 (by repeat (first | exact rS | refine rN (by assumption) ?_)))
  clear hws HS
  go_wp2_with fail
  go_loopg [8] n (fun kx s8 wr => ∃ i : Nat, kx = n - i ∧ s8 = .int .i64 (i : Int) ∧ i ≤ n ∧ Hid (∀ j, j < i → pt ps j ≠ (x, y)) ∧ Hid (St w [(b3, 26, VC x y)] wr))
  case atStart => exact ⟨0, by omega, rfl, Nat.zero_le _, Lib.hid (fun j hj => absurd hj (Nat.not_lt_zero _)), HS1⟩
  case round =>
    clear HS1
    obtain ⟨i, hgk, rfl, hin, HNO, HR⟩ := hrel
    have HGK := Lib.hid hgk; clear hgk
    by_cases hc : i < n
    · obtain ⟨g, J, rfl, hb⟩ := HP.out.2 i hc
      have HB := Lib.hid hb; clear hb
      have HI := Lib.hid (show i < ps.length by rw [HP.out.1]; exact hc)
      have hci : (i : Int) < (n : Int) := by omega
      have hw1 : IntKind.i64.wrap ((i : Int) + 1) = (i : Int) + 1 := IntWalk.i64_in _ (by omega)
      obtain ⟨r, hr⟩ : ∃ r, decide (x = px ps i ∧ y = py ps i) = r := ⟨_, rfl⟩
      have HEQ := Lib.hid hr; clear hr
      cases r with
      | true =>
        go_upto_region 4 with (fail)
        refine wp_seq [] (by kernel_rfl) (by kernel_rfl) Reg.fin_no (StR.no HR.out) ?_
        refine Seq.load rfl rfl rfl rfl (by repeat (first | exact mC | apply mT)) (n := 6) rfl (by kernel_rfl) ?_
        simp only [Act.put, nA, nB, nC]
        refine Seq.pure rfl rfl (by intro w; go_simp; try rfl) ?_
        simp only [Act.put, nA, nB, nC]
        refine Seq.pure rfl rfl (by intro w; go_simp; try rfl) ?_
        simp only [Act.put, nA, nB, nC]
        refine Seq.index (m := 6) i rfl rfl rfl rfl rfl (by kernel_rfl) rfl hc ?_
        simp only [Act.put, nA, nB, nC]
        refine Seq.loadAtF rfl rfl rfl rfl HB.out (n := 6) (cs' := VC (px ps i) (py ps i)) (PX_room HI.out) (by kernel_rfl) (PX_at HI.out) ?_
        simp only [Act.put, nA, nB, nC]
        refine Seq.eqV rfl rfl rfl rfl rfl HEQ.out ?_
        simp only [Act.put, nA, nB, nC]
        refine Seq.done fun w4 hws => ?_
        have HS4 := Lib.hid hws.st.below
        clear hws HR
        go_wp2_with fail
        go_ret
        refine ⟨⟨(i : Int), rfl, ?_⟩, HS4.out⟩
        rw [decide_eq_true (Int.natCast_nonneg i), decide_eq_true]
        have := of_decide_eq_true HEQ.out
        rw [this.1, this.2]
        exact List.getElem_mem HI.out |> fun h => by rw [pt_get HI.out] at h; exact h
      | false =>
        go_upto_region 4 with (fail)
        refine wp_seq [] (by kernel_rfl) (by kernel_rfl) Reg.fin_no (StR.no HR.out) ?_
        refine Seq.load rfl rfl rfl rfl (by repeat (first | exact mC | apply mT)) (n := 6) rfl (by kernel_rfl) ?_
        simp only [Act.put, nA, nB, nC]
        refine Seq.pure rfl rfl (by intro w; go_simp; try rfl) ?_
        simp only [Act.put, nA, nB, nC]
        refine Seq.pure rfl rfl (by intro w; go_simp; try rfl) ?_
        simp only [Act.put, nA, nB, nC]
        refine Seq.index (m := 6) i rfl rfl rfl rfl rfl (by kernel_rfl) rfl hc ?_
        simp only [Act.put, nA, nB, nC]
        refine Seq.loadAtF rfl rfl rfl rfl HB.out (n := 6) (cs' := VC (px ps i) (py ps i)) (PX_room HI.out) (by kernel_rfl) (PX_at HI.out) ?_
        simp only [Act.put, nA, nB, nC]
        refine Seq.eqV rfl rfl rfl rfl rfl HEQ.out ?_
        simp only [Act.put, nA, nB, nC]
        refine Seq.done fun w4 hws => ?_
        have HS4 := Lib.hid hws.st
        clear hws HR
        go_wp2_with fail
        go_roundg (n - (i + 1))
        case measure => rw [HGK.out]; omega
        case rel => exact ⟨i + 1, rfl, by go_num, hc, Lib.hid (fun j hj e => by
          by_cases h : j < i
          · exact HNO.out j h e
          · have : j = i := by omega
            subst this
            have h2 := of_decide_eq_false HEQ.out
            have e1 := congrArg Prod.fst e
            have e2 := congrArg Prod.snd e
            exact h2 ⟨e1.symm, e2.symm⟩), HS4⟩
    · obtain rfl : i = n := by omega
      have hci : ¬ (i : Int) < (i : Int) := by omega
      go_wp2_with fail
      go_ret
      have hne : ¬ ((x, y) : P2) ∈ ps := by
        intro hm
        obtain ⟨j, h1, h2⟩ := List.mem_iff_getElem.1 hm
        refine HNO.out j (by rw [← HP.out.1]; exact h1) ?_
        rw [← h2, pt_get h1]
      have hdd : decide ((0 : Int) ≤ -1) = decide (((x, y) : P2) ∈ ps) := by rw [decide_eq_false (by omega), decide_eq_false hne]
      exact ⟨⟨-1, rfl, by first | exact hdd | exact decide_eq_decide.1 hdd⟩, HR.out.below⟩
set_option maxHeartbeats 2000000 in
set_option maxRecDepth 20000 in
theorem contains_v {n c : Nat} {A : Option Addr} {ps : Pts} {x y : Rat} {r : Bool} (hn2 : n ≤ 1000) (hr : decide (((x, y) : P2) ∈ ps) = r) (w : World) (hp : AtP w A n ps) :
    Calls Tryz.prog 20 #[.slice A n c, .agg (VC x y)] w fun e w' => e = .returned (.bool r) ∧ Below w.heap.size w w' := by
  have HP := Lib.hid hp; clear hp
  have HRR := Lib.hid hr; clear hr
  go_enter Tryz.func20, Tryz.ntmps20
  have HS : St w [] w := St.start
  go_upto_region 0 with (fail)
  refine wp_seq_text [] (StR.no HS) ?_
  refine Seq.box rfl rfl rfl (v := .agg (VC x y)) (cs := VC x y) rfl rfl ?_
  intro b3 _ _ hb3
  simp only [Act.put, nA, nB, nC]
  refine Seq.pure rfl rfl (by intro w; go_simp; try rfl) ?_
  simp only [Act.put, nA, nB, nC]
  refine Seq.done fun w1 hws => ?_
  have HS1 : St w [(b3, 26, VC x y)] w1 := hws.list1 (by repeat (first | exact rS | refine rN (by assumption) ?_))
  clear hws HS
  go_upto_region 1 with (fail)
  refine wp_seq_text [3000000] (StR.no HS1) ?_
  refine Seq.pure rfl rfl (by intro w; go_simp; try rfl) ?_
  simp only [Act.put, nA, nB, nC]
  refine Seq.load rfl rfl rfl rfl (by repeat (first | exact mC | apply mT)) (n := 6) rfl (by kernel_rfl) ?_
  simp only [Act.put, nA, nB, nC]
  refine Seq.callE rfl rfl rfl rfl (by kernel_rfl) (fun w2 h2 => (index_v hn2 w2 (HP.out.next h2.st.below)).mono ?_)
  rintro e w3 ⟨⟨z_, rfl, hz_⟩, hb_⟩
  refine ⟨_, _, rfl, h2.next hb_, ?_⟩
  rw [HRR.out] at hz_
  simp only [Act.put, nA, nB, nC]
  refine Seq.pure (v := .bool r) rfl rfl (by intro w; go_simp <;> (first | (rw [hz_]; done) | exact hz_ | omega | exact IntWalk.i64_in _ (by omega) | (go_num; done) | (simp [hz_]; done))) ?_
  simp only [Act.put, nA, nB, nC]
  refine Seq.pure rfl rfl (by intro w; go_simp; try rfl) ?_
  simp only [Act.put, nA, nB, nC]
  refine Seq.done fun w2 hws => ?_
  have HS2 := Lib.hid hws.st.below
  clear hws HS1
  go_wp2_with fail
  go_ret
  exact ⟨rfl, HS2.out⟩
set_option maxHeartbeats 2000000 in
set_option maxRecDepth 20000 in
theorem equal_v {n c1 c2 : Nat} {A1 A2 : Option Addr} {ps : Pts} (hn2 : n ≤ 1000) (w : World) (h1 : AtP w A1 n ps) (h2 : AtP w A2 n ps) :
    Calls Tryz.prog 23 #[.slice A1 n c1, .slice A2 n c2] w fun e w' => e = .returned (.bool true) ∧ Below w.heap.size w w' := by
  have H1 := Lib.hid h1; clear h1
  have H2 := Lib.hid h2; clear h2
  have HS : Hid (St w [] w) := Lib.hid St.start
  go_enter Tryz.func23, Tryz.ntmps23
  go_wp2_with fail
  go_loopg [13] n (fun kx s13 wr => ∃ i : Nat, kx = n - i ∧ s13 = .int .i64 (i : Int) ∧ i ≤ n ∧ Hid (St w [] wr))
  case atStart => exact ⟨0, by omega, rfl, Nat.zero_le _, HS⟩
  case round =>
    clear HS
    obtain ⟨i, hgk, rfl, hin, HR⟩ := hrel
    have HGK := Lib.hid hgk; clear hgk
    by_cases hc : i < n
    · obtain ⟨g1, J1, rfl, hb1⟩ := H1.out.2 i hc
      obtain ⟨g2, J2, rfl, hb2⟩ := H2.out.2 i hc
      have HB1 := Lib.hid hb1; clear hb1
      have HB2 := Lib.hid hb2; clear hb2
      have HI := Lib.hid (show i < ps.length by rw [H1.out.1]; exact hc)
      have hci : (i : Int) < (n : Int) := by omega
      have hw1 : IntKind.i64.wrap ((i : Int) + 1) = (i : Int) + 1 := IntWalk.i64_in _ (by omega)
      go_upto_region 6 with (fail)
      refine wp_seq [] (by kernel_rfl) (by kernel_rfl) Reg.fin_no (StR.no HR.out) ?_
      refine Seq.pure rfl rfl (by intro w; go_simp; try rfl) ?_
      simp only [Act.put, nA, nB, nC]
      refine Seq.pure rfl rfl (by intro w; go_simp; try rfl) ?_
      simp only [Act.put, nA, nB, nC]
      refine Seq.index (m := 6) i rfl rfl rfl rfl rfl (by kernel_rfl) rfl hc ?_
      simp only [Act.put, nA, nB, nC]
      refine Seq.loadAtF rfl rfl rfl rfl HB1.out (n := 6) (cs' := VC (px ps i) (py ps i)) (PX_room HI.out) (by kernel_rfl) (PX_at HI.out) ?_
      simp only [Act.put, nA, nB, nC]
      refine Seq.pure rfl rfl (by intro w; go_simp; try rfl) ?_
      simp only [Act.put, nA, nB, nC]
      refine Seq.pure rfl rfl (by intro w; go_simp; try rfl) ?_
      simp only [Act.put, nA, nB, nC]
      refine Seq.index (m := 6) i rfl rfl rfl rfl rfl (by kernel_rfl) rfl hc ?_
      simp only [Act.put, nA, nB, nC]
      refine Seq.loadAtF rfl rfl rfl rfl HB2.out (n := 6) (cs' := VC (px ps i) (py ps i)) (PX_room HI.out) (by kernel_rfl) (PX_at HI.out) ?_
      simp only [Act.put, nA, nB, nC]
      refine Seq.neV rfl rfl rfl rfl rfl (show (!decide (px ps i = px ps i ∧ py ps i = py ps i)) = false by simp) ?_
      simp only [Act.put, nA, nB, nC]
      refine Seq.done fun w4 hws => ?_
      have HS4 := Lib.hid hws.st
      clear hws HR
      go_wp2_with fail
      go_roundg (n - (i + 1))
      case measure => rw [HGK.out]; omega
      case rel => exact ⟨i + 1, rfl, by go_num, hc, HS4⟩
    · obtain rfl : i = n := by omega
      have hci : ¬ (i : Int) < (i : Int) := by omega
      go_wp2_with fail
      go_ret
      exact ⟨rfl, HR.out.below⟩
end Go.Proofs.YtoejojfjiikogaaGreatDoor
