/- slices.Index and Contains at numbers (printed by srt.py). -/
import Derived.Test.YtmchjmflkaiakaaGreatDoorSoA
import Derived.Test.YtmchjmflkaiakaaGreatDoorPo6
import Derived.Deep.LoopGhost
import Derived.OwnWalk
set_option maxHeartbeats 2000000
set_option maxRecDepth 20000
namespace Go.Proofs.YtmchjmflkaiakaaGreatDoor
open Go.RowKit
set_option linter.unusedVariables false
set_option linter.unusedSimpArgs false
theorem indexN_v {n c : Nat} {A : Option Addr} {ps : Nums} {x : Rat} (hn2 : n ≤ 1000) (w : World) (hp : ps.length = n ∧ RAt w A ps) :
  Calls Tryz.prog 117 #[.slice A n c, .agg (RC x)] w fun e w' => (∃ z : Int, e = .returned (.int .i64 z) ∧ decide (0 ≤ z) = decide (x ∈ ps)) ∧ Below w.heap.size w w' := by
 have HP := yh hp; clear hp
 go_enter Tryz.func117, Tryz.ntmps117
 have HS : St w [] w := St.start
 go_upto_region 0 with fail
 refine rgT [] HS ?_
 refine bX (RC x) ?_
 intro b3 _ _ hb3
 refine nZ ?_
 refine pU ?_
 refine Seq.done fun w1 hws => ?_
 have HS1 : Hid (St w [(b3, 27, RC x)] w1) := yh (hws.q1)
 clear hws HS
 go_wp2_with fail
 go_loopg [8] n (fun kx s8 wr => ∃ i : Nat, kx = n - i ∧ s8 = .int .i64 (i : Int) ∧ i ≤ n ∧ Hid (∀ j, j < i → rx ps j ≠ x) ∧ Hid (St w [(b3, 27, RC x)] wr))
 case atStart => exact ⟨0, by omega, rfl, Nat.zero_le _, yh (fun j hj => absurd hj (Nat.not_lt_zero _)), HS1⟩
 case round =>
  clear HS1
  obtain ⟨i, hgk, rfl, hin, HNO, HR⟩ := hrel
  have HGK := yh hgk; clear hgk
  by_cases hc : i < n
  ·obtain ⟨g, J, rfl, hb⟩ := HP.out.2.get (show i < ps.length by rw [HP.out.1]; exact hc)
   have HB := yh hb; clear hb
   have HI := yh (show i < ps.length by rw [HP.out.1]; exact hc)
   have hci : (i : Int) < (n : Int) := by omega
   have hw1 : IntKind.i64.wrap ((i : Int) + 1) = (i : Int) + 1 := IntWalk.i64_in _ (by omega)
   obtain ⟨r, hr⟩ : ∃ r, decide (x = rx ps i) = r := ⟨_, rfl⟩
   have HEQ := yh hr; clear hr
   cases r with
   | true =>
     go_upto_region 4 with fail
     refine wS [] Reg.fin_no (StR.no HR.out) ?_
     refine lV ?_
     iterate 2 refine pU ?_
     refine iX 3 i hc ?_
     refine lF HB.out (RC (rx ps i)) (RX_room HI.out) (RX_at HI.out) ?_
     refine Seq.eqR rfl rfl rfl rfl rfl HEQ.out (nZ ?_)
     refine Seq.done fun w4 hws => ?_
     have HS4 := yh hws.st.below
     clear hws HR
     go_wp2_with fail
     go_ret
     refine ⟨⟨(i : Int), rfl, ?_⟩, HS4.out⟩
     rw [decide_eq_true (Int.natCast_nonneg i), decide_eq_true]
     have := of_decide_eq_true HEQ.out
     rw [this]
     exact List.getElem_mem HI.out |> fun h => by rw [rx_get HI.out] at h; exact h
   | false =>
     go_upto_region 4 with fail
     refine wS [] Reg.fin_no (StR.no HR.out) ?_
     refine lV ?_
     iterate 2 refine pU ?_
     refine iX 3 i hc ?_
     refine lF HB.out (RC (rx ps i)) (RX_room HI.out) (RX_at HI.out) ?_
     refine Seq.eqR rfl rfl rfl rfl rfl HEQ.out (nZ ?_)
     refine dnH fun _ HS4=>?_
     clear HR
     go_wp2_with fail
     go_roundg (n - (i + 1))
     case measure => rw [HGK.out]; omega
     case rel => exact ⟨i + 1, rfl, by go_num, hc, yh (fun j hj e => by
      by_cases h : j < i
      ·exact HNO.out j h e
      ·have : j = i := by omega
       subst this
       have h2 := of_decide_eq_false HEQ.out
       exact h2 e.symm), HS4⟩
  ·obtain rfl : i = n := by omega
   have hci : ¬ (i : Int) < (i : Int) := by omega
   go_wp2_with fail
   go_ret
   have hne : ¬ x ∈ ps := by
    intro hm
    obtain ⟨j, h1, h2⟩ := List.mem_iff_getElem.1 hm
    refine HNO.out j (by rw [← HP.out.1]; exact h1) ?_
    rw [← h2, rx_get h1]
   have hdd : decide ((0 : Int) ≤ -1) = decide (x ∈ ps) := by rw [decide_eq_false (by omega), decide_eq_false hne]
   exact ⟨⟨-1, rfl, by first | exact hdd | exact decide_eq_decide.1 hdd⟩, HR.out.below⟩
theorem containsN_v {n c : Nat} {A : Option Addr} {ps : Nums} {x : Rat} {r : Bool} (hn2 : n ≤ 1000) (hr : decide (x ∈ ps) = r) (w : World) (hp : ps.length = n ∧ RAt w A ps) :
  Calls Tryz.prog 71 #[.slice A n c, .agg (RC x)] w fun e w' => e = .returned (.bool r) ∧ Below w.heap.size w w' := by
 have HP := yh hp; clear hp
 have HRR := yh hr; clear hr
 go_enter Tryz.func71, Tryz.ntmps71
 have HS : St w [] w := St.start
 go_upto_region 0 with fail
 refine rgT [] HS ?_
 refine bX (RC x) ?_
 intro b3 _ _ hb3
 refine nZ ?_
 refine pU ?_
 refine dn1 b3 fun _ HS1=>?_
 clear HS
 go_upto_region 1 with fail
 refine rgT [3000000] HS1 ?_
 refine pU ?_
 refine lV ?_
 refine Seq.callE rfl rfl rfl rfl (by kernel_rfl) (fun w2 h2 => (indexN_v hn2 w2 ⟨HP.out.1, HP.out.2.next h2.st.below⟩).mono ?_)
 rintro e w3 ⟨⟨z_, rfl, hz_⟩, hb_⟩
 refine ⟨_, _, rfl, h2.next hb_, ?_⟩
 rw [HRR.out] at hz_
 simp only[Act.put,nA,nB,nC]
 refine pV (.bool r) (by intro w; go_simp <;> (first | (rw [hz_]; done) | exact hz_ | omega | exact IntWalk.i64_in _ (by omega) | (go_num; done) | (simp [hz_]; done))) ?_
 refine pU ?_
 refine Seq.done fun w2 hws => ?_
 have HS2 := yh hws.st.below
 clear hws HS1
 go_wp2_with fail
 go_ret
 exact ⟨rfl, HS2.out⟩
end Go.Proofs.YtmchjmflkaiakaaGreatDoor
