/- Joined texts. -/
import Derived.Test.YtbgifinfflehmaaDoorSp2
import Derived.Test.YtbgifinfflehmaaDoorSpL

/- package frame, framed (printed by lawvec.py). -/
namespace Go.Proofs.YtbgifinfflehmaaDoor
open Go.RowKit
set_option linter.unusedVariables false
set_option linter.unusedSimpArgs false

set_option maxHeartbeats 2000000 in
set_option maxRecDepth 20000 in
theorem fput_q {k : Nat} {a1 a2 aw v1 v2 : Rat} {ha : Bool} {z0 : Rat} {z1 : Rat} {W : World} {l : List Own} (hT : Tab W) (Za1 : Rz k a1) (Za2 : Rz k a2) (Zaw : Rz k aw) (Zv1 : Rz k v1) (Zv2 : Rz k v2) (hga : GoodT ha aw) (hz0 : a1 + ((v1 * (cosT ha aw)) - (v2 * (sinT aw))) = z0) (hz1 : a2 + ((v1 * (sinT aw)) + (v2 * (cosT ha aw))) = z1) (hk : k ≤ 27777777776) (w : World) (h : St W l w) :
    Calls Tryd.prog 45 #[.agg (FC a1 a2 ha aw), .agg (VC v1 v2)] w fun e w' => e = .returned (.agg (VC z0 z1)) ∧ Below w.heap.size w w' := by
  subst hz0
  subst hz1
  have HT := Lib.hid (tabS hT h); clear hT h
  have Z_a1 := Lib.hid Za1; clear Za1
  have Z_a2 := Lib.hid Za2; clear Za2
  have Z_aw := Lib.hid Zaw; clear Zaw
  have Z_v1 := Lib.hid Zv1; clear Zv1
  have Z_v2 := Lib.hid Zv2; clear Zv2
  go_enter Tryd.func45, Tryd.ntmps45
  have HS : St w [] w := St.start
  go_upto_region 0 with (fail)
  refine wp_seq_text [] (StR.no HS) ?_
  refine Seq.box rfl rfl rfl (v := .agg (FC a1 a2 ha aw)) (cs := FC a1 a2 ha aw) rfl rfl ?_
  intro bk2 _ _ hbk2_r
  simp only [Act.put, List.setIfInBounds_toArray, List.set_cons_zero, List.set_cons_succ]
  refine Seq.box rfl rfl rfl (v := .agg (VC v1 v2)) (cs := VC v1 v2) rfl rfl ?_
  intro bk3 _ _ hbk3_r
  obtain ⟨ne_bk3_bk2, hbk3_r⟩ := Reg.ne_of_put hbk3_r
  have ne_bk2_bk3 := Ne.symm ne_bk3_bk2
  simp only [Act.put, List.setIfInBounds_toArray, List.set_cons_zero, List.set_cons_succ]
  refine Seq.alloc rfl rfl rfl (z := .agg #[.bool false, .string ⟨#[]⟩, .string ⟨#[]⟩, .bool false, .string ⟨#[]⟩, .string ⟨#[]⟩]) (by kernel_rfl) rfl ?_
  intro bk4 _ _ hbk4_r
  obtain ⟨ne_bk4_bk3, hbk4_r⟩ := Reg.ne_of_put hbk4_r
  have ne_bk3_bk4 := Ne.symm ne_bk4_bk3
  obtain ⟨ne_bk4_bk2, hbk4_r⟩ := Reg.ne_of_put hbk4_r
  have ne_bk2_bk4 := Ne.symm ne_bk4_bk2
  simp only [Act.put, List.setIfInBounds_toArray, List.set_cons_zero, List.set_cons_succ]
  refine Seq.done fun ws1 hws => ?_
  have HS1 : St w [(bk2, 34, FC a1 a2 ha aw), (bk3, 30, VC v1 v2), (bk4, 30, #[.bool false, .string ⟨#[]⟩, .string ⟨#[]⟩, .bool false, .string ⟨#[]⟩, .string ⟨#[]⟩])] ws1 := hws.list3 (by first | exact rS | exact rN (by assumption) (rS) | exact rN (by assumption) (rN (by assumption) (rS)) | exact rN (by assumption) (rN (by assumption) (rN (by assumption) (rS))) | exact rN (by assumption) (rN (by assumption) (rN (by assumption) (rN (by assumption) (rS))))) (by first | exact rS | exact rN (by assumption) (rS) | exact rN (by assumption) (rN (by assumption) (rS)) | exact rN (by assumption) (rN (by assumption) (rN (by assumption) (rS))) | exact rN (by assumption) (rN (by assumption) (rN (by assumption) (rN (by assumption) (rS))))) (by first | exact rS | exact rN (by assumption) (rS) | exact rN (by assumption) (rN (by assumption) (rS)) | exact rN (by assumption) (rN (by assumption) (rN (by assumption) (rS))) | exact rN (by assumption) (rN (by assumption) (rN (by assumption) (rN (by assumption) (rS))))) (by assumption) (by assumption) (by assumption)
  clear HS hws
  go_upto_region 1 with (fail)
  have HPbk4 : St w [(bk4, 30, #[.bool false, .string ⟨#[]⟩, .string ⟨#[]⟩, .bool false, .string ⟨#[]⟩, .string ⟨#[]⟩]), (bk2, 34, FC a1 a2 ha aw), (bk3, 30, VC v1 v2)] _ := St.perm HS1 (List.perm_middle (l₁ := ([(bk2, 34, FC a1 a2 ha aw), (bk3, 30, VC v1 v2)] : List Own)))
  refine wp_seq [] (by kernel_rfl) (by kernel_rfl) (Reg.fin.put Reg.fin_no _ _) (StR.move (StR.no HPbk4)) ?_
  refine Seq.pure (v := .pointer (some ⟨bk2, 0, none⟩)) rfl rfl (by intro w; go_simp; try first | with_reducible rfl | rfl) ?_
  simp only [Act.put, List.setIfInBounds_toArray, List.set_cons_zero, List.set_cons_succ]
  refine Seq.loadAt rfl rfl rfl rfl (by repeat (first | exact mC | apply mT)) (n := 6) (cs' := VC a1 a2) (by first | decide | exact Nat.le_refl _ | (simp [VC, TC, FC, BC, RC]; done)) (by kernel_rfl) (by first | rfl | (simp [VC, TC, FC, BC, RC]; done)) ?_
  simp only [Act.put, List.setIfInBounds_toArray, List.set_cons_zero, List.set_cons_succ]
  refine Seq.load rfl rfl rfl rfl (by repeat (first | exact mC | apply mT)) (n := 6) rfl (by kernel_rfl) ?_
  simp only [Act.put, List.setIfInBounds_toArray, List.set_cons_zero, List.set_cons_succ]
  refine Seq.pure (v := .pointer (some ⟨bk2, 6, none⟩)) rfl rfl (by intro w; go_simp; try first | with_reducible rfl | rfl) ?_
  simp only [Act.put, List.setIfInBounds_toArray, List.set_cons_zero, List.set_cons_succ]
  refine Seq.loadAt rfl rfl rfl rfl (by repeat (first | exact mC | apply mT)) (n := 4) (cs' := TC ha aw) (by first | decide | exact Nat.le_refl _ | (simp [VC, TC, FC, BC, RC]; done)) (by kernel_rfl) (by first | rfl | (simp [VC, TC, FC, BC, RC]; done)) ?_
  simp only [Act.put, List.setIfInBounds_toArray, List.set_cons_zero, List.set_cons_succ]
  refine Seq.call rfl rfl rfl rfl (by kernel_rfl) (vturn_q (k := (1 * k + 0)) HT.out (Z_v1.out.more (by omega)) (Z_v2.out.more (by omega)) (Z_aw.out.more (by omega)) hga rfl rfl (by omega)) ?_
  simp only [Act.put, List.setIfInBounds_toArray, List.set_cons_zero, List.set_cons_succ]
  refine Seq.call rfl rfl rfl rfl (by kernel_rfl) (vadd_q (k := (36 * k + 41)) HT.out (Z_a1.out.more (by omega)) (Z_a2.out.more (by omega)) (((Z_v1.out.mul (Rz.cosT ha Z_aw.out)).sub (Z_v2.out.mul (Rz.sinT Z_aw.out))).more (by omega)) (((Z_v1.out.mul (Rz.sinT Z_aw.out)).add (Z_v2.out.mul (Rz.cosT ha Z_aw.out))).more (by omega))  rfl rfl (by omega)) ?_
  simp only [Act.put, List.setIfInBounds_toArray, List.set_cons_zero, List.set_cons_succ]
  refine Seq.store rfl rfl rfl rfl rfl (by first | exact rS | exact rN (by assumption) (rS) | exact rN (by assumption) (rN (by assumption) (rS)) | exact rN (by assumption) (rN (by assumption) (rN (by assumption) (rS))) | exact rN (by assumption) (rN (by assumption) (rN (by assumption) (rN (by assumption) (rS))))) (n := 6) rfl rfl (by kernel_rfl) (VC_one _ _) ?_
  simp only [Act.put, List.setIfInBounds_toArray, List.set_cons_zero, List.set_cons_succ]
  refine Seq.done fun ws2 hws => ?_
  have HS2 : St w [(bk4, 30, VC (a1 + ((v1 * (cosT ha aw)) - (v2 * (sinT aw)))) (a2 + ((v1 * (sinT aw)) + (v2 * (cosT ha aw))))), (bk2, 34, FC a1 a2 ha aw), (bk3, 30, VC v1 v2)] ws2 := hws.list1 (by first | exact rS | exact rN (by assumption) (rS) | exact rN (by assumption) (rN (by assumption) (rS)) | exact rN (by assumption) (rN (by assumption) (rN (by assumption) (rS))) | exact rN (by assumption) (rN (by assumption) (rN (by assumption) (rN (by assumption) (rS)))))
  clear HS1 hws HPbk4
  go_wp2_with fail
  exact ret_own rfl rfl rfl HS2 (by repeat (first | exact mC | apply mT)) (n := 6) rfl (by kernel_rfl) ⟨rfl, HS2.below⟩
set_option maxRecDepth 20000 in
theorem framed_q {x y b : Int} {z0 z1 z3 : Rat} {z2 : Bool} {W : World} {l : List Own} (hT : Tab W) (hx : (-9223372036854775808 ≤ x ∧ x ≤ 9223372036854775807)) (hy : (-9223372036854775808 ≤ y ∧ y ≤ 9223372036854775807)) (hb : (-9223372036854775808 ≤ b ∧ b ≤ 9223372036854775807)) (hz0 : ratMq x = z0) (hz1 : ratMq y = z1) (hz2 : tdH b = z2) (hz3 : tdT b = z3) (w : World) (h : St W l w) :
    Calls Tryd.prog 11 #[.int .i64 x, .int .i64 y, .int .i64 b] w fun e w' => e = .returned (.agg (FC z0 z1 z2 z3)) ∧ Below w.heap.size w w' := by
  subst hz0 hz1 hz2 hz3
  have HT := Lib.hid (tabS hT h); clear hT h
  have HI := Lib.hid (And.intro hx (And.intro hy hb)); clear hx hy hb
  go_enter Tryd.func11, Tryd.ntmps11
  have HS : St w [] w := St.start
  go_upto_region 0 with (fail)
  refine wp_seq_text [] (StR.no HS) ?_
  refine Seq.alloc rfl rfl rfl (z := .agg #[.bool false, .string ⟨#[]⟩, .string ⟨#[]⟩, .bool false, .string ⟨#[]⟩, .string ⟨#[]⟩, .bool false, .bool false, .string ⟨#[]⟩, .string ⟨#[]⟩]) (by kernel_rfl) rfl ?_
  intro bk6 _ _ hbk6_r
  simp only [Act.put, List.setIfInBounds_toArray, List.set_cons_zero, List.set_cons_succ]
  refine Seq.done fun ws1 hws => ?_
  have HS1 : St w [(bk6, 34, #[.bool false, .string ⟨#[]⟩, .string ⟨#[]⟩, .bool false, .string ⟨#[]⟩, .string ⟨#[]⟩, .bool false, .bool false, .string ⟨#[]⟩, .string ⟨#[]⟩])] ws1 := hws.list1 (by first | exact rS | exact rN (by assumption) (rS) | exact rN (by assumption) (rN (by assumption) (rS)) | exact rN (by assumption) (rN (by assumption) (rN (by assumption) (rS))) | exact rN (by assumption) (rN (by assumption) (rN (by assumption) (rN (by assumption) (rS)))))
  clear HS hws
  go_upto_region 1 with (fail)
  refine wp_seq_text [] (StR.move (StR.no HS1)) ?_
  refine Seq.pure rfl rfl (by intro w; go_simp; try first | with_reducible rfl | rfl) ?_
  simp only [Act.put, List.setIfInBounds_toArray, List.set_cons_zero, List.set_cons_succ]
  refine Seq.pure rfl rfl (by intro w; go_simp; try first | with_reducible rfl | rfl) ?_
  simp only [Act.put, List.setIfInBounds_toArray, List.set_cons_zero, List.set_cons_succ]
  refine Seq.call rfl rfl rfl rfl (by kernel_rfl) (vector_q HT.out HI.out.1 HI.out.2.1 rfl rfl) ?_
  simp only [Act.put, List.setIfInBounds_toArray, List.set_cons_zero, List.set_cons_succ]
  refine Seq.pure rfl rfl (by intro w; go_simp; try first | with_reducible rfl | rfl) ?_
  simp only [Act.put, List.setIfInBounds_toArray, List.set_cons_zero, List.set_cons_succ]
  refine Seq.call rfl rfl rfl rfl (by kernel_rfl) (turned_q HT.out HI.out.2.2 rfl rfl) ?_
  simp only [Act.put, List.setIfInBounds_toArray, List.set_cons_zero, List.set_cons_succ]
  refine Seq.pure (v := .agg (FC (ratMq x) (ratMq y) (tdH b) (tdT b))) rfl rfl (fun w => bld_Frame rfl rfl rfl w) ?_
  simp only [Act.put, List.setIfInBounds_toArray, List.set_cons_zero, List.set_cons_succ]
  refine Seq.store rfl rfl rfl rfl rfl (by first | exact rS | exact rN (by assumption) (rS) | exact rN (by assumption) (rN (by assumption) (rS)) | exact rN (by assumption) (rN (by assumption) (rN (by assumption) (rS))) | exact rN (by assumption) (rN (by assumption) (rN (by assumption) (rN (by assumption) (rS))))) (n := 10) rfl rfl (by kernel_rfl) (FC_one _ _ _ _) ?_
  simp only [Act.put, List.setIfInBounds_toArray, List.set_cons_zero, List.set_cons_succ]
  refine Seq.done fun ws2 hws => ?_
  have HS2 : St w [(bk6, 34, FC (ratMq x) (ratMq y) (tdH b) (tdT b))] ws2 := hws.list1 (by first | exact rS | exact rN (by assumption) (rS) | exact rN (by assumption) (rN (by assumption) (rS)) | exact rN (by assumption) (rN (by assumption) (rN (by assumption) (rS))) | exact rN (by assumption) (rN (by assumption) (rN (by assumption) (rN (by assumption) (rS)))))
  clear HS1 hws
  go_wp2_with fail
  exact ret_own rfl rfl rfl HS2 (by repeat (first | exact mC | apply mT)) (n := 10) rfl (by kernel_rfl) ⟨rfl, HS2.below⟩
end Go.Proofs.YtbgifinfflehmaaDoor
