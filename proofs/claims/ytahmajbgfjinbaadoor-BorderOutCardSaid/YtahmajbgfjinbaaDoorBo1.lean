/- Joined texts. -/
import Derived.Test.YtahmajbgfjinbaaDoorSp2
import Derived.Test.YtahmajbgfjinbaaDoorBoM

/- package border (printed by lawvec.py). -/
namespace Go.Proofs.YtahmajbgfjinbaaDoor
open Go.RowKit
set_option linter.unusedVariables false
set_option linter.unusedSimpArgs false

theorem natOf_w {W : World} {l : List Own} (n : Int) (h0 : 0 ≤ n) (h1 : n ≤ 9223372036854775807) (w : World) (h : St W l w) :
    Calls Tryd.prog 83 #[.int .i64 n] w fun e w' => e = .returned (.string (S n.toNat)) ∧ Below w.heap.size w w' := natOf_any n w (by omega) h1
set_option maxHeartbeats 2000000 in
set_option maxRecDepth 20000 in
theorem power_b {q r : Nat} {W : World} {l : List Own} (hr : r < 8) (hq : q ≤ 1000) (w : World) :
    Calls Tryd.prog 121 #[.int .i64 ((8 * q + r : Nat) : Int)] w fun e w' => e = .returned (.agg (RC ((pw (8 * q + r) : Nat) : Rat))) ∧ Below w.heap.size w w' := by
  obtain ⟨z, hz, hz2⟩ : ∃ z : Int, z = ((2 ^ r : Nat) : Int) ∧ IntKind.u8.wrap (2 ^ min r 8) = z := ⟨_, rfl, by
    have : r = 0 ∨ r = 1 ∨ r = 2 ∨ r = 3 ∨ r = 4 ∨ r = 5 ∨ r = 6 ∨ r = 7 := by omega
    rcases this with rfl | rfl | rfl | rfl | rfl | rfl | rfl | rfl <;> rfl⟩
  have HZ := Lib.hid (And.intro hz hz2); clear hz hz2
  have HQ := Lib.hid (show IntKind.i64.wrap (((8 * (q : Int) + (r : Int))).tdiv 8) = (q : Int) ∧ IntKind.i64.wrap ((q : Int) + 1) = ((q + 1 : Nat) : Int) ∧ ((8 * (q : Int) + (r : Int))).tmod 8 = (r : Int) ∧ True from
    ⟨by rw [Int.tdiv_eq_ediv_of_nonneg (by omega), IntWalk.i64_in _ (by omega)]; omega, by rw [IntWalk.i64_in _ (by omega)]; omega, by rw [Int.tmod_eq_emod_of_nonneg (by omega)]; omega, trivial⟩)
  have HK := Lib.hid (show q + 1 ≤ 70368744177664 by omega)
  have HL := Lib.hid (show q + 1 = (UInt8.ofNat (2 ^ r) :: Lib.repeatL [0] q).length by rw [List.length_cons, (rep_val q).2])
  have HR := Lib.hid hr; clear hr hq
  go_enter Tryd.func121, Tryd.ntmps121
  have HS : St w [] w := St.start
  go_upto_region 0 with (fail)
  refine wp_seq_text [] (StR.no HS) ?_
  refine Seq.alloc rfl rfl rfl (z := .agg #[.bool false, .string ⟨#[]⟩, .string ⟨#[]⟩]) (by kernel_rfl) rfl ?_
  intro bk2 _ _ hbk2_r
  simp only [Act.put, List.setIfInBounds_toArray, List.set_cons_zero, List.set_cons_succ]
  refine Seq.done fun ws1 hws => ?_
  have HS1 : St w [(bk2, 24, #[.bool false, .string ⟨#[]⟩, .string ⟨#[]⟩])] ws1 := hws.list1 (by first | exact rS | exact rN (by assumption) (rS) | exact rN (by assumption) (rN (by assumption) (rS)) | exact rN (by assumption) (rN (by assumption) (rN (by assumption) (rS))) | exact rN (by assumption) (rN (by assumption) (rN (by assumption) (rN (by assumption) (rS)))))
  clear HS hws
  go_upto_region 1 with (fail)
  refine wp_seq_text [] (StR.no HS1) ?_
  refine Seq.pure rfl rfl (by intro w; go_simp; try first | with_reducible rfl | rfl) ?_
  simp only [Act.put, List.setIfInBounds_toArray, List.set_cons_zero, List.set_cons_succ]
  refine Seq.pure (v := .int .i64 (q : Int)) rfl rfl (by intro w; go_simp <;> (first | (rw [HQ.out.1]; done) | (simp [HQ.out.1]; done) | (trace_state; done))) ?_
  simp only [Act.put, List.setIfInBounds_toArray, List.set_cons_zero, List.set_cons_succ]
  refine Seq.pure (v := .int .i64 ((q + 1 : Nat) : Int)) rfl rfl (by intro w; go_simp <;> (first | (rw [HQ.out.2.1]; done) | (simp [HQ.out.2.1]; done) | (trace_state; done))) ?_
  simp only [Act.put, List.setIfInBounds_toArray, List.set_cons_zero, List.set_cons_succ]
  refine Seq.slice (n := q + 1) (e := 5) (cs := Array.replicate (q + 1) (.int .u8 0)) rfl rfl (fun w => mkB (q + 1) HK.out rfl rfl rfl w) ?_
  intro bk7 _ _ hbk7_r
  simp only [Act.put, List.setIfInBounds_toArray, List.set_cons_zero, List.set_cons_succ]
  refine Seq.pure rfl rfl (by intro w; go_simp; try first | with_reducible rfl | rfl) ?_
  simp only [Act.put, List.setIfInBounds_toArray, List.set_cons_zero, List.set_cons_succ]
  refine Seq.done fun ws2 hws => ?_
  have HS2 : St w [(bk7, 5, Array.replicate (q + 1) (.int .u8 0)), (bk2, 24, #[.bool false, .string ⟨#[]⟩, .string ⟨#[]⟩])] ws2 := hws.list1 (by first | exact rS | exact rN (by assumption) (rS) | exact rN (by assumption) (rN (by assumption) (rS)) | exact rN (by assumption) (rN (by assumption) (rN (by assumption) (rS))) | exact rN (by assumption) (rN (by assumption) (rN (by assumption) (rN (by assumption) (rS)))))
  clear HS1 hws
  go_upto_region 2 with (fail)
  refine wp_seq_text [] (StR.move (StR.no HS2)) ?_
  refine Seq.pure rfl rfl (by intro w; go_simp; try first | with_reducible rfl | rfl) ?_
  simp only [Act.put, List.setIfInBounds_toArray, List.set_cons_zero, List.set_cons_succ]
  refine Seq.pure rfl rfl (by intro w; go_simp; try first | with_reducible rfl | rfl) ?_
  simp only [Act.put, List.setIfInBounds_toArray, List.set_cons_zero, List.set_cons_succ]
  refine Seq.pure (v := .int .i64 (r : Int)) rfl rfl (by intro w; go_simp <;> (first | (rw [HQ.out.2.2.1]; done) | (simp [HQ.out.2.2.1]; done) | (trace_state; done))) ?_
  simp only [Act.put, List.setIfInBounds_toArray, List.set_cons_zero, List.set_cons_succ]
  refine Seq.pure (v := .int .u8 z) rfl rfl (by intro w; go_simp <;> (first | (rw [HZ.out.2]; done) | (simp [HZ.out.2]; done) | (trace_state; done))) ?_
  simp only [Act.put, List.setIfInBounds_toArray, List.set_cons_zero, List.set_cons_succ]
  refine Seq.pure (v := .pointer (some ⟨bk7, 0, none⟩)) rfl rfl (by intro w; go_simp <;> (first | rfl | (simp; done) | (rw [if_pos (by omega)]; rfl))) ?_
  simp only [Act.put, List.setIfInBounds_toArray, List.set_cons_zero, List.set_cons_succ]
  refine Seq.storeAt (v := .int .u8 z) rfl rfl rfl rfl rfl (by first | exact rS | exact rN (by assumption) (rS) | exact rN (by assumption) (rN (by assumption) (rS)) | exact rN (by assumption) (rN (by assumption) (rN (by assumption) (rS))) | exact rN (by assumption) (rN (by assumption) (rN (by assumption) (rN (by assumption) (rS))))) (by simp [Value.cells]) (by kernel_rfl) (by intro u hu; simp [Value.cells] at hu; subst hu; rfl) (put0 q r HR.out z HZ.out.1) ?_
  simp only [Act.put, List.setIfInBounds_toArray, List.set_cons_zero, List.set_cons_succ]
  refine Seq.done fun ws3 hws => ?_
  have HS3 : St w [(bk7, 5, (List.map (fun b => Value.int .u8 (b.toNat : Int)) (UInt8.ofNat (2 ^ r) :: Lib.repeatL [0] q)).toArray), (bk2, 24, #[.bool false, .string ⟨#[]⟩, .string ⟨#[]⟩])] ws3 := hws.list1 (by first | exact rS | exact rN (by assumption) (rS) | exact rN (by assumption) (rN (by assumption) (rS)) | exact rN (by assumption) (rN (by assumption) (rN (by assumption) (rS))) | exact rN (by assumption) (rN (by assumption) (rN (by assumption) (rN (by assumption) (rS)))))
  clear HS2 hws
  go_upto_region 3 with (fail)
  have HPbk2 : St w [(bk2, 24, #[.bool false, .string ⟨#[]⟩, .string ⟨#[]⟩]), (bk7, 5, (List.map (fun b => Value.int .u8 (b.toNat : Int)) (UInt8.ofNat (2 ^ r) :: Lib.repeatL [0] q)).toArray)] _ := St.perm HS3 (List.perm_middle (l₁ := ([(bk7, 5, (List.map (fun b => Value.int .u8 (b.toNat : Int)) (UInt8.ofNat (2 ^ r) :: Lib.repeatL [0] q)).toArray)] : List Own)))
  refine wp_seq [] (by kernel_rfl) (by kernel_rfl) (Reg.fin.put Reg.fin_no _ _) (StR.move (StR.no HPbk2)) ?_
  refine Seq.pure rfl rfl (by intro w; go_simp; try first | with_reducible rfl | rfl) ?_
  simp only [Act.put, List.setIfInBounds_toArray, List.set_cons_zero, List.set_cons_succ]
  refine Seq.look (v := .string (S (pw (8 * q + r)))) rfl rfl (fun w h => by rw [S_pw r q HR.out]; exact cvB (UInt8.ofNat (2 ^ r) :: Lib.repeatL [0] q) rfl (q + 1) HL.out rfl (by repeat (first | exact mC | apply mT)) w h) ?_
  simp only [Act.put, List.setIfInBounds_toArray, List.set_cons_zero, List.set_cons_succ]
  refine Seq.call rfl rfl rfl rfl (by kernel_rfl) (natOf_w 1 (by omega) (by omega)) ?_
  simp only [Act.put, List.setIfInBounds_toArray, List.set_cons_zero, List.set_cons_succ]
  refine Seq.pure (v := .agg (RC ((pw (8 * q + r) : Nat) : Rat))) rfl rfl (by intro w; rw [RC_pw]; go_simp; try rfl) ?_
  simp only [Act.put, List.setIfInBounds_toArray, List.set_cons_zero, List.set_cons_succ]
  refine Seq.store rfl rfl rfl rfl rfl (by first | exact rS | exact rN (by assumption) (rS) | exact rN (by assumption) (rN (by assumption) (rS)) | exact rN (by assumption) (rN (by assumption) (rN (by assumption) (rS))) | exact rN (by assumption) (rN (by assumption) (rN (by assumption) (rN (by assumption) (rS))))) (n := 3) rfl rfl (by kernel_rfl) (RC_one _) ?_
  simp only [Act.put, List.setIfInBounds_toArray, List.set_cons_zero, List.set_cons_succ]
  refine Seq.done fun ws4 hws => ?_
  have HS4 : St w [(bk2, 24, RC ((pw (8 * q + r) : Nat) : Rat)), (bk7, 5, (List.map (fun b => Value.int .u8 (b.toNat : Int)) (UInt8.ofNat (2 ^ r) :: Lib.repeatL [0] q)).toArray)] ws4 := hws.list1 (by first | exact rS | exact rN (by assumption) (rS) | exact rN (by assumption) (rN (by assumption) (rS)) | exact rN (by assumption) (rN (by assumption) (rN (by assumption) (rS))) | exact rN (by assumption) (rN (by assumption) (rN (by assumption) (rN (by assumption) (rS)))))
  clear HS3 hws HPbk2
  go_wp2_with fail
  exact ret_own rfl rfl rfl HS4 (by repeat (first | exact mC | apply mT)) (n := 3) rfl (by kernel_rfl) ⟨rfl, HS4.below⟩
theorem power_q {n : Nat} {W : World} {l : List Own} (hn : n ≤ 1100) (w : World) (h : St W l w) :
    Calls Tryd.prog 121 #[.int .i64 (n : Int)] w fun e w' => e = .returned (.agg (RC ((pw n : Nat) : Rat))) ∧ Below w.heap.size w w' := by
  have e : 8 * (n / 8) + n % 8 = n := by omega
  have := power_b (W := W) (l := l) (q := n / 8) (r := n % 8) (by omega) (by omega) w
  rw [e] at this
  exact this
end Go.Proofs.YtahmajbgfjinbaaDoor
