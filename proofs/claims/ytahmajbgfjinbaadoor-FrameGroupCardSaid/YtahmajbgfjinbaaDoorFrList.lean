/- Joined texts. -/
import Derived.Test.YtahmajbgfjinbaaDoorSp4
import Derived.LoopN

/- frame.List for two points (printed by lawvec.py). -/
namespace Go.Proofs.YtahmajbgfjinbaaDoor
open Go.RowKit
set_option linter.unusedVariables false
set_option linter.unusedSimpArgs false

theorem infoVec : (Tryd.prog.info? 26).map (fun i => (i.zero, i.size, i.bytes)) = some (some (.agg #[.bool false, .string ⟨#[]⟩, .string ⟨#[]⟩, .bool false, .string ⟨#[]⟩, .string ⟨#[]⟩]), 6, 80) := by kernel_rfl
theorem mkV_2 {o : Oper} {a : Act} {X Y : Operand} (ho : o.op = .makeSlice 60 X Y) (hX : a.eval X = .int .i64 2) (hY : a.eval Y = .int .i64 2) (w : World) :
    (execOp a.eval o).run Tryd.prog w = .ok (.value (.slice (some ⟨w.heap.size, 0, none⟩) 2 2)) (w.alloc (.cells #[.bool false, .string ⟨#[]⟩, .string ⟨#[]⟩, .bool false, .string ⟨#[]⟩, .string ⟨#[]⟩, .bool false, .string ⟨#[]⟩, .string ⟨#[]⟩, .bool false, .string ⟨#[]⟩, .string ⟨#[]⟩] 26)) := by
  obtain ⟨i0, hi0, hz0, hz1, hz2⟩ := info_parts infoVec
  have hr := run_make (P := Tryd.prog) w 60 26 _ _ Tryd.underlying60 hi0 hz0 .i64 .i64 2 2 (by omega) (by omega) (by rw [hz2]; omega) (by omega)
  have hm : madeCells (Value.agg #[.bool false, .string ⟨#[]⟩, .string ⟨#[]⟩, .bool false, .string ⟨#[]⟩, .string ⟨#[]⟩]).cells 12 = #[.bool false, .string ⟨#[]⟩, .string ⟨#[]⟩, .bool false, .string ⟨#[]⟩, .string ⟨#[]⟩, .bool false, .string ⟨#[]⟩, .string ⟨#[]⟩, .bool false, .string ⟨#[]⟩, .string ⟨#[]⟩] := by kernel_rfl
  have h2 : (2 : Int).toNat = 2 := rfl
  rw [hz1, h2, hm] at hr
  unfold execOp
  simp only [ho, hX, hY, Sem.run_bind, hr, Result.andThen_ok, Sem.run_pure]
set_option maxHeartbeats 4000000 in
set_option maxRecDepth 20000 in
theorem flist_2 {k : Nat} {a1 a2 aw u1 u2 v1 v2 : Rat} {ha : Bool} {z0 z1 z2 z3 : Rat} {W : World} {l : List Own} (hT : Tab W) (Za1 : Rz k a1) (Za2 : Rz k a2) (Zaw : Rz k aw) (Zu1 : Rz k u1) (Zu2 : Rz k u2) (Zv1 : Rz k v1) (Zv2 : Rz k v2) (hga : GoodT ha aw) (hz0 : a1 + ((u1 * (cosT ha aw)) - (u2 * (sinT aw))) = z0) (hz1 : a2 + ((u1 * (sinT aw)) + (u2 * (cosT ha aw))) = z1) (hz2 : a1 + ((v1 * (cosT ha aw)) - (v2 * (sinT aw))) = z2) (hz3 : a2 + ((v1 * (sinT aw)) + (v2 * (cosT ha aw))) = z3) (hk : k ≤ 27777777776) (g : Nat) (w : World) (h : St W l w) (hg : Blk w g 26 (BC u1 u2 v1 v2)) :
    Calls Tryd.prog 49 #[.agg (FC a1 a2 ha aw), .slice (some ⟨g, 0, none⟩) 2 2] w fun e w' => ∃ p, w.heap.size ≤ p ∧ e = .returned (mk (some 2) p) ∧ Below w.heap.size w w' ∧ Blk w' p 26 (BC z0 z1 z2 z3) := by
  subst hz0
  subst hz1
  subst hz2
  subst hz3
  have HT := Lib.hid (tabS hT h); clear hT h
  have HG := Lib.hid hg; clear hg
  have HGA := Lib.hid hga; clear hga
  have Z_a1 := Lib.hid Za1; clear Za1
  have Z_a2 := Lib.hid Za2; clear Za2
  have Z_aw := Lib.hid Zaw; clear Zaw
  have Z_u1 := Lib.hid Zu1; clear Zu1
  have Z_u2 := Lib.hid Zu2; clear Zu2
  have Z_v1 := Lib.hid Zv1; clear Zv1
  have Z_v2 := Lib.hid Zv2; clear Zv2
  go_enter Tryd.func49, Tryd.ntmps49
  have HS : St w [] w := St.start
  go_upto_region 0 with (fail)
  refine wp_seq_text [] (StR.no HS) ?_
  refine Seq.box rfl rfl rfl (v := .agg (FC a1 a2 ha aw)) (cs := FC a1 a2 ha aw) rfl rfl ?_
  intro bk2 _ _ hbk2_r
  simp only [Act.put, List.setIfInBounds_toArray, List.set_cons_zero, List.set_cons_succ]
  refine Seq.pure rfl rfl (by intro w; go_simp; try first | with_reducible rfl | rfl) ?_
  simp only [Act.put, List.setIfInBounds_toArray, List.set_cons_zero, List.set_cons_succ]
  refine Seq.done fun ws1 hws => ?_
  have HS1 : St w [(bk2, 57, FC a1 a2 ha aw)] ws1 := hws.list1 (by first | exact rS | exact rN (by assumption) (rS) | exact rN (by assumption) (rN (by assumption) (rS)) | exact rN (by assumption) (rN (by assumption) (rN (by assumption) (rS))) | exact rN (by assumption) (rN (by assumption) (rN (by assumption) (rN (by assumption) (rS)))))
  clear HS hws
  go_upto_region 1 with (fail)
  refine wp_seq_text [] (StR.no HS1) ?_
  refine Seq.pure rfl rfl (by intro w; go_simp; try first | with_reducible rfl | rfl) ?_
  simp only [Act.put, List.setIfInBounds_toArray, List.set_cons_zero, List.set_cons_succ]
  refine Seq.pure (v := .int .i64 2) rfl rfl (by intro w; go_simp; try first | with_reducible rfl | rfl) ?_
  simp only [Act.put, List.setIfInBounds_toArray, List.set_cons_zero, List.set_cons_succ]
  refine Seq.slice (n := 2) (e := 26) (cs := #[.bool false, .string ⟨#[]⟩, .string ⟨#[]⟩, .bool false, .string ⟨#[]⟩, .string ⟨#[]⟩, .bool false, .string ⟨#[]⟩, .string ⟨#[]⟩, .bool false, .string ⟨#[]⟩, .string ⟨#[]⟩]) rfl rfl (fun w => mkV_2 rfl rfl rfl w) ?_
  intro bk10 _ _ hbk10_r
  simp only [Act.put, List.setIfInBounds_toArray, List.set_cons_zero, List.set_cons_succ]
  refine Seq.pure rfl rfl (by intro w; go_simp; try first | with_reducible rfl | rfl) ?_
  simp only [Act.put, List.setIfInBounds_toArray, List.set_cons_zero, List.set_cons_succ]
  refine Seq.done fun ws2 hws => ?_
  have HS2 : St w [(bk10, 26, #[.bool false, .string ⟨#[]⟩, .string ⟨#[]⟩, .bool false, .string ⟨#[]⟩, .string ⟨#[]⟩, .bool false, .string ⟨#[]⟩, .string ⟨#[]⟩, .bool false, .string ⟨#[]⟩, .string ⟨#[]⟩]), (bk2, 57, FC a1 a2 ha aw)] ws2 := hws.list1 (by first | exact rS | exact rN (by assumption) (rS) | exact rN (by assumption) (rN (by assumption) (rS)) | exact rN (by assumption) (rN (by assumption) (rN (by assumption) (rS))) | exact rN (by assumption) (rN (by assumption) (rN (by assumption) (rN (by assumption) (rS)))))
  clear HS1 hws
  go_upto_region 2 with (fail)
  refine wp_seq_text [] (StR.no HS2) ?_
  refine Seq.pure rfl rfl (by intro w; go_simp; try first | with_reducible rfl | rfl) ?_
  simp only [Act.put, List.setIfInBounds_toArray, List.set_cons_zero, List.set_cons_succ]
  refine Seq.pure (v := .int .i64 2) rfl rfl (by intro w; go_simp; try first | with_reducible rfl | rfl) ?_
  simp only [Act.put, List.setIfInBounds_toArray, List.set_cons_zero, List.set_cons_succ]
  refine Seq.pure rfl rfl (by intro w; go_simp; try first | with_reducible rfl | rfl) ?_
  simp only [Act.put, List.setIfInBounds_toArray, List.set_cons_zero, List.set_cons_succ]
  refine Seq.done fun ws3 hws => ?_
  have HS3 := hws.st
  clear HS2 hws
  go_wp2_with fail
  refine wp_loop_rounds 3 ?_
  rw [rounds_succ]
  go_upto_region 3 with (fail)
  refine wp_seq_text [] (StR.no HS3) ?_
  refine Seq.pure rfl rfl (by intro w; go_simp; try first | with_reducible rfl | rfl) ?_
  simp only [Act.put, List.setIfInBounds_toArray, List.set_cons_zero, List.set_cons_succ]
  refine Seq.done fun ws4 hws => ?_
  have HS4 := hws.st
  clear HS3 hws
  go_upto_region 4 with (fail)
  refine wp_seq_text [] (StR.no HS4) ?_
  refine Seq.pure rfl rfl (by intro w; go_simp; try first | with_reducible rfl | rfl) ?_
  simp only [Act.put, List.setIfInBounds_toArray, List.set_cons_zero, List.set_cons_succ]
  refine Seq.pure (v := .pointer (some ⟨g, 0, none⟩)) rfl rfl (by intro w; go_simp; try first | with_reducible rfl | rfl) ?_
  simp only [Act.put, List.setIfInBounds_toArray, List.set_cons_zero, List.set_cons_succ]
  refine Seq.loadAtF rfl rfl rfl rfl HG.out (n := 6) (cs' := VC u1 u2) (by first | decide | exact Nat.le_refl _ | (simp [SL2, SL4, VC, TC, FC, BC, RC]; done)) (by kernel_rfl) (by first | rfl | (simp [SL2, SL4, VC, TC, FC, BC, RC]; done)) ?_
  simp only [Act.put, List.setIfInBounds_toArray, List.set_cons_zero, List.set_cons_succ]
  refine Seq.alloc rfl rfl rfl (z := .agg #[.bool false, .string ⟨#[]⟩, .string ⟨#[]⟩, .bool false, .string ⟨#[]⟩, .string ⟨#[]⟩]) (by kernel_rfl) rfl ?_
  intro bk7 _ _ hbk7_r
  simp only [Act.put, List.setIfInBounds_toArray, List.set_cons_zero, List.set_cons_succ]
  refine Seq.pure rfl rfl (by intro w; go_simp; try first | with_reducible rfl | rfl) ?_
  simp only [Act.put, List.setIfInBounds_toArray, List.set_cons_zero, List.set_cons_succ]
  refine Seq.store rfl rfl rfl rfl rfl (by first | exact rS | exact rN (by assumption) (rS) | exact rN (by assumption) (rN (by assumption) (rS)) | exact rN (by assumption) (rN (by assumption) (rN (by assumption) (rS))) | exact rN (by assumption) (rN (by assumption) (rN (by assumption) (rN (by assumption) (rS))))) (n := 6) rfl rfl (by kernel_rfl) (VC_one _ _) ?_
  simp only [Act.put, List.setIfInBounds_toArray, List.set_cons_zero, List.set_cons_succ]
  refine Seq.done fun ws5 hws => ?_
  have HS5 : St w [(bk7, 26, VC u1 u2), (bk10, 26, #[.bool false, .string ⟨#[]⟩, .string ⟨#[]⟩, .bool false, .string ⟨#[]⟩, .string ⟨#[]⟩, .bool false, .string ⟨#[]⟩, .string ⟨#[]⟩, .bool false, .string ⟨#[]⟩, .string ⟨#[]⟩]), (bk2, 57, FC a1 a2 ha aw)] ws5 := hws.list1 (by first | exact rS | exact rN (by assumption) (rS) | exact rN (by assumption) (rN (by assumption) (rS)) | exact rN (by assumption) (rN (by assumption) (rN (by assumption) (rS))) | exact rN (by assumption) (rN (by assumption) (rN (by assumption) (rN (by assumption) (rS)))))
  clear HS4 hws
  go_upto_region 5 with (fail)
  have HPbk10 : St w [(bk10, 26, #[.bool false, .string ⟨#[]⟩, .string ⟨#[]⟩, .bool false, .string ⟨#[]⟩, .string ⟨#[]⟩, .bool false, .string ⟨#[]⟩, .string ⟨#[]⟩, .bool false, .string ⟨#[]⟩, .string ⟨#[]⟩]), (bk7, 26, VC u1 u2), (bk2, 57, FC a1 a2 ha aw)] _ := St.perm HS5 (List.perm_middle (l₁ := ([(bk7, 26, VC u1 u2)] : List Own)))
  refine wp_seq_text [] (StR.move (StR.no HPbk10)) ?_
  refine Seq.pure rfl rfl (by intro w; go_simp; try first | with_reducible rfl | rfl) ?_
  simp only [Act.put, List.setIfInBounds_toArray, List.set_cons_zero, List.set_cons_succ]
  refine Seq.pure rfl rfl (by intro w; go_simp; try first | with_reducible rfl | rfl) ?_
  simp only [Act.put, List.setIfInBounds_toArray, List.set_cons_zero, List.set_cons_succ]
  refine Seq.load rfl rfl rfl rfl (by repeat (first | exact mC | apply mT)) (n := 10) rfl (by kernel_rfl) ?_
  simp only [Act.put, List.setIfInBounds_toArray, List.set_cons_zero, List.set_cons_succ]
  refine Seq.load rfl rfl rfl rfl (by repeat (first | exact mC | apply mT)) (n := 6) rfl (by kernel_rfl) ?_
  simp only [Act.put, List.setIfInBounds_toArray, List.set_cons_zero, List.set_cons_succ]
  refine Seq.call rfl rfl rfl rfl (by kernel_rfl) (fput_q (k := (1 * k + 0)) HT.out (Z_a1.out.more (by omega)) (Z_a2.out.more (by omega)) (Z_aw.out.more (by omega)) (Z_u1.out.more (by omega)) (Z_u2.out.more (by omega)) HGA.out rfl rfl (by omega)) ?_
  simp only [Act.put, List.setIfInBounds_toArray, List.set_cons_zero, List.set_cons_succ]
  refine Seq.pure (v := .pointer (some ⟨bk10, 0, none⟩)) rfl rfl (by intro w; go_simp; try first | with_reducible rfl | rfl) ?_
  simp only [Act.put, List.setIfInBounds_toArray, List.set_cons_zero, List.set_cons_succ]
  refine Seq.storeAt (v := .agg (VC (a1 + ((u1 * (cosT ha aw)) - (u2 * (sinT aw)))) (a2 + ((u1 * (sinT aw)) + (u2 * (cosT ha aw)))))) rfl rfl rfl rfl rfl (by first | exact rS | exact rN (by assumption) (rS) | exact rN (by assumption) (rN (by assumption) (rS)) | exact rN (by assumption) (rN (by assumption) (rN (by assumption) (rS))) | exact rN (by assumption) (rN (by assumption) (rN (by assumption) (rN (by assumption) (rS))))) (by first | decide | exact Nat.le_refl _ | (simp [VC, TC, FC, BC, RC, Value.cells]; done)) (by show _ = some 6; kernel_rfl) (VC_one _ _) (cs' := #[.bool (decide (Rat.num (a1 + ((u1 * (cosT ha aw)) - (u2 * (sinT aw)))) < 0)), .string (S (Rat.num (a1 + ((u1 * (cosT ha aw)) - (u2 * (sinT aw))))).natAbs), .string (S (Rat.den (a1 + ((u1 * (cosT ha aw)) - (u2 * (sinT aw)))))), .bool (decide (Rat.num (a2 + ((u1 * (sinT aw)) + (u2 * (cosT ha aw)))) < 0)), .string (S (Rat.num (a2 + ((u1 * (sinT aw)) + (u2 * (cosT ha aw))))).natAbs), .string (S (Rat.den (a2 + ((u1 * (sinT aw)) + (u2 * (cosT ha aw)))))), .bool false, .string ⟨#[]⟩, .string ⟨#[]⟩, .bool false, .string ⟨#[]⟩, .string ⟨#[]⟩]) (by first | rfl | (simp [VC, TC, FC, BC, RC, Value.cells]; done)) ?_
  simp only [Act.put, List.setIfInBounds_toArray, List.set_cons_zero, List.set_cons_succ]
  refine Seq.done fun ws6 hws => ?_
  have HS6 : St w [(bk10, 26, #[.bool (decide (Rat.num (a1 + ((u1 * (cosT ha aw)) - (u2 * (sinT aw)))) < 0)), .string (S (Rat.num (a1 + ((u1 * (cosT ha aw)) - (u2 * (sinT aw))))).natAbs), .string (S (Rat.den (a1 + ((u1 * (cosT ha aw)) - (u2 * (sinT aw)))))), .bool (decide (Rat.num (a2 + ((u1 * (sinT aw)) + (u2 * (cosT ha aw)))) < 0)), .string (S (Rat.num (a2 + ((u1 * (sinT aw)) + (u2 * (cosT ha aw))))).natAbs), .string (S (Rat.den (a2 + ((u1 * (sinT aw)) + (u2 * (cosT ha aw)))))), .bool false, .string ⟨#[]⟩, .string ⟨#[]⟩, .bool false, .string ⟨#[]⟩, .string ⟨#[]⟩]), (bk7, 26, VC u1 u2), (bk2, 57, FC a1 a2 ha aw)] ws6 := hws.list1 (by first | exact rS | exact rN (by assumption) (rS) | exact rN (by assumption) (rN (by assumption) (rS)) | exact rN (by assumption) (rN (by assumption) (rN (by assumption) (rS))) | exact rN (by assumption) (rN (by assumption) (rN (by assumption) (rN (by assumption) (rS)))))
  clear HS5 hws HPbk10
  go_upto_region 6 with (fail)
  refine wp_seq_text [] (StR.no HS6) ?_
  refine Seq.pure (v := .int .i64 1) rfl rfl (by intro w; go_simp; try first | with_reducible rfl | rfl) ?_
  simp only [Act.put, List.setIfInBounds_toArray, List.set_cons_zero, List.set_cons_succ]
  refine Seq.pure rfl rfl (by intro w; go_simp; try first | with_reducible rfl | rfl) ?_
  simp only [Act.put, List.setIfInBounds_toArray, List.set_cons_zero, List.set_cons_succ]
  refine Seq.done fun ws7 hws => ?_
  have HS7 := hws.st
  clear HS6 hws
  go_wp2_with fail
  rw [rounds_succ]
  go_upto_region 3 with (fail)
  refine wp_seq_text [] (StR.no HS7) ?_
  refine Seq.pure rfl rfl (by intro w; go_simp; try first | with_reducible rfl | rfl) ?_
  simp only [Act.put, List.setIfInBounds_toArray, List.set_cons_zero, List.set_cons_succ]
  refine Seq.done fun ws8 hws => ?_
  have HS8 := hws.st
  clear HS7 hws
  go_upto_region 4 with (fail)
  refine wp_seq_text [] (StR.no HS8) ?_
  refine Seq.pure rfl rfl (by intro w; go_simp; try first | with_reducible rfl | rfl) ?_
  simp only [Act.put, List.setIfInBounds_toArray, List.set_cons_zero, List.set_cons_succ]
  refine Seq.pure (v := .pointer (some ⟨g, 6, none⟩)) rfl rfl (by intro w; go_simp; try first | with_reducible rfl | rfl) ?_
  simp only [Act.put, List.setIfInBounds_toArray, List.set_cons_zero, List.set_cons_succ]
  refine Seq.loadAtF rfl rfl rfl rfl HG.out (n := 6) (cs' := VC v1 v2) (by first | decide | exact Nat.le_refl _ | (simp [SL2, SL4, VC, TC, FC, BC, RC]; done)) (by kernel_rfl) (by first | rfl | (simp [SL2, SL4, VC, TC, FC, BC, RC]; done)) ?_
  simp only [Act.put, List.setIfInBounds_toArray, List.set_cons_zero, List.set_cons_succ]
  refine Seq.alloc rfl rfl rfl (z := .agg #[.bool false, .string ⟨#[]⟩, .string ⟨#[]⟩, .bool false, .string ⟨#[]⟩, .string ⟨#[]⟩]) (by kernel_rfl) rfl ?_
  intro bk7_1 _ _ hbk7_1_r
  simp only [Act.put, List.setIfInBounds_toArray, List.set_cons_zero, List.set_cons_succ]
  refine Seq.pure rfl rfl (by intro w; go_simp; try first | with_reducible rfl | rfl) ?_
  simp only [Act.put, List.setIfInBounds_toArray, List.set_cons_zero, List.set_cons_succ]
  refine Seq.store rfl rfl rfl rfl rfl (by first | exact rS | exact rN (by assumption) (rS) | exact rN (by assumption) (rN (by assumption) (rS)) | exact rN (by assumption) (rN (by assumption) (rN (by assumption) (rS))) | exact rN (by assumption) (rN (by assumption) (rN (by assumption) (rN (by assumption) (rS))))) (n := 6) rfl rfl (by kernel_rfl) (VC_one _ _) ?_
  simp only [Act.put, List.setIfInBounds_toArray, List.set_cons_zero, List.set_cons_succ]
  refine Seq.done fun ws9 hws => ?_
  have HS9 : St w [(bk7_1, 26, VC v1 v2), (bk10, 26, #[.bool (decide (Rat.num (a1 + ((u1 * (cosT ha aw)) - (u2 * (sinT aw)))) < 0)), .string (S (Rat.num (a1 + ((u1 * (cosT ha aw)) - (u2 * (sinT aw))))).natAbs), .string (S (Rat.den (a1 + ((u1 * (cosT ha aw)) - (u2 * (sinT aw)))))), .bool (decide (Rat.num (a2 + ((u1 * (sinT aw)) + (u2 * (cosT ha aw)))) < 0)), .string (S (Rat.num (a2 + ((u1 * (sinT aw)) + (u2 * (cosT ha aw))))).natAbs), .string (S (Rat.den (a2 + ((u1 * (sinT aw)) + (u2 * (cosT ha aw)))))), .bool false, .string ⟨#[]⟩, .string ⟨#[]⟩, .bool false, .string ⟨#[]⟩, .string ⟨#[]⟩]), (bk7, 26, VC u1 u2), (bk2, 57, FC a1 a2 ha aw)] ws9 := hws.list1 (by first | exact rS | exact rN (by assumption) (rS) | exact rN (by assumption) (rN (by assumption) (rS)) | exact rN (by assumption) (rN (by assumption) (rN (by assumption) (rS))) | exact rN (by assumption) (rN (by assumption) (rN (by assumption) (rN (by assumption) (rS)))))
  clear HS8 hws
  go_upto_region 5 with (fail)
  have HPbk10 : St w [(bk10, 26, #[.bool (decide (Rat.num (a1 + ((u1 * (cosT ha aw)) - (u2 * (sinT aw)))) < 0)), .string (S (Rat.num (a1 + ((u1 * (cosT ha aw)) - (u2 * (sinT aw))))).natAbs), .string (S (Rat.den (a1 + ((u1 * (cosT ha aw)) - (u2 * (sinT aw)))))), .bool (decide (Rat.num (a2 + ((u1 * (sinT aw)) + (u2 * (cosT ha aw)))) < 0)), .string (S (Rat.num (a2 + ((u1 * (sinT aw)) + (u2 * (cosT ha aw))))).natAbs), .string (S (Rat.den (a2 + ((u1 * (sinT aw)) + (u2 * (cosT ha aw)))))), .bool false, .string ⟨#[]⟩, .string ⟨#[]⟩, .bool false, .string ⟨#[]⟩, .string ⟨#[]⟩]), (bk7_1, 26, VC v1 v2), (bk7, 26, VC u1 u2), (bk2, 57, FC a1 a2 ha aw)] _ := St.perm HS9 (List.perm_middle (l₁ := ([(bk7_1, 26, VC v1 v2)] : List Own)))
  refine wp_seq_text [] (StR.move (StR.no HPbk10)) ?_
  refine Seq.pure rfl rfl (by intro w; go_simp; try first | with_reducible rfl | rfl) ?_
  simp only [Act.put, List.setIfInBounds_toArray, List.set_cons_zero, List.set_cons_succ]
  refine Seq.pure rfl rfl (by intro w; go_simp; try first | with_reducible rfl | rfl) ?_
  simp only [Act.put, List.setIfInBounds_toArray, List.set_cons_zero, List.set_cons_succ]
  refine Seq.load rfl rfl rfl rfl (by repeat (first | exact mC | apply mT)) (n := 10) rfl (by kernel_rfl) ?_
  simp only [Act.put, List.setIfInBounds_toArray, List.set_cons_zero, List.set_cons_succ]
  refine Seq.load rfl rfl rfl rfl (by repeat (first | exact mC | apply mT)) (n := 6) rfl (by kernel_rfl) ?_
  simp only [Act.put, List.setIfInBounds_toArray, List.set_cons_zero, List.set_cons_succ]
  refine Seq.call rfl rfl rfl rfl (by kernel_rfl) (fput_q (k := (1 * k + 0)) HT.out (Z_a1.out.more (by omega)) (Z_a2.out.more (by omega)) (Z_aw.out.more (by omega)) (Z_v1.out.more (by omega)) (Z_v2.out.more (by omega)) HGA.out rfl rfl (by omega)) ?_
  simp only [Act.put, List.setIfInBounds_toArray, List.set_cons_zero, List.set_cons_succ]
  refine Seq.pure (v := .pointer (some ⟨bk10, 6, none⟩)) rfl rfl (by intro w; go_simp; try first | with_reducible rfl | rfl) ?_
  simp only [Act.put, List.setIfInBounds_toArray, List.set_cons_zero, List.set_cons_succ]
  refine Seq.storeAt (v := .agg (VC (a1 + ((v1 * (cosT ha aw)) - (v2 * (sinT aw)))) (a2 + ((v1 * (sinT aw)) + (v2 * (cosT ha aw)))))) rfl rfl rfl rfl rfl (by first | exact rS | exact rN (by assumption) (rS) | exact rN (by assumption) (rN (by assumption) (rS)) | exact rN (by assumption) (rN (by assumption) (rN (by assumption) (rS))) | exact rN (by assumption) (rN (by assumption) (rN (by assumption) (rN (by assumption) (rS))))) (by first | decide | exact Nat.le_refl _ | (simp [VC, TC, FC, BC, RC, Value.cells]; done)) (by show _ = some 6; kernel_rfl) (VC_one _ _) (cs' := BC (a1 + ((u1 * (cosT ha aw)) - (u2 * (sinT aw)))) (a2 + ((u1 * (sinT aw)) + (u2 * (cosT ha aw)))) (a1 + ((v1 * (cosT ha aw)) - (v2 * (sinT aw)))) (a2 + ((v1 * (sinT aw)) + (v2 * (cosT ha aw))))) (by first | rfl | (simp [VC, TC, FC, BC, RC, Value.cells]; done)) ?_
  simp only [Act.put, List.setIfInBounds_toArray, List.set_cons_zero, List.set_cons_succ]
  refine Seq.done fun ws10 hws => ?_
  have HS10 : St w [(bk10, 26, BC (a1 + ((u1 * (cosT ha aw)) - (u2 * (sinT aw)))) (a2 + ((u1 * (sinT aw)) + (u2 * (cosT ha aw)))) (a1 + ((v1 * (cosT ha aw)) - (v2 * (sinT aw)))) (a2 + ((v1 * (sinT aw)) + (v2 * (cosT ha aw))))), (bk7_1, 26, VC v1 v2), (bk7, 26, VC u1 u2), (bk2, 57, FC a1 a2 ha aw)] ws10 := hws.list1 (by first | exact rS | exact rN (by assumption) (rS) | exact rN (by assumption) (rN (by assumption) (rS)) | exact rN (by assumption) (rN (by assumption) (rN (by assumption) (rS))) | exact rN (by assumption) (rN (by assumption) (rN (by assumption) (rN (by assumption) (rS)))))
  clear HS9 hws HPbk10
  go_upto_region 6 with (fail)
  refine wp_seq_text [] (StR.no HS10) ?_
  refine Seq.pure (v := .int .i64 2) rfl rfl (by intro w; go_simp; try first | with_reducible rfl | rfl) ?_
  simp only [Act.put, List.setIfInBounds_toArray, List.set_cons_zero, List.set_cons_succ]
  refine Seq.pure rfl rfl (by intro w; go_simp; try first | with_reducible rfl | rfl) ?_
  simp only [Act.put, List.setIfInBounds_toArray, List.set_cons_zero, List.set_cons_succ]
  refine Seq.done fun ws11 hws => ?_
  have HS11 := hws.st
  clear HS10 hws
  go_wp2_with fail
  rw [rounds_succ]
  go_upto_region 3 with (fail)
  refine wp_seq_text [] (StR.no HS11) ?_
  refine Seq.pure rfl rfl (by intro w; go_simp; try first | with_reducible rfl | rfl) ?_
  simp only [Act.put, List.setIfInBounds_toArray, List.set_cons_zero, List.set_cons_succ]
  refine Seq.done fun ws12 hws => ?_
  have HS12 := hws.st
  clear HS11 hws
  go_upto_region 7 with (fail)
  refine wp_seq_text [] (StR.no HS12) ?_
  refine Seq.pure rfl rfl (by intro w; go_simp; try first | with_reducible rfl | rfl) ?_
  simp only [Act.put, List.setIfInBounds_toArray, List.set_cons_zero, List.set_cons_succ]
  refine Seq.pure rfl rfl (by intro w; go_simp; try first | with_reducible rfl | rfl) ?_
  simp only [Act.put, List.setIfInBounds_toArray, List.set_cons_zero, List.set_cons_succ]
  refine Seq.done fun ws13 hws => ?_
  have HS13 := hws.st
  clear HS12 hws
  go_wp2_with fail
  go_ret
  have hb := (HS13.blk (bk10, _, _) (by repeat (first | exact mC | apply mT)))
  exact ⟨_, hb.1, rfl, HS13.below, hb.2⟩
end Go.Proofs.YtahmajbgfjinbaaDoor
