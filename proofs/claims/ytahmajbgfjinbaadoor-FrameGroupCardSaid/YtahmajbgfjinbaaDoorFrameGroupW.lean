/- Joined texts. -/
import Derived.Test.YtahmajbgfjinbaaDoorFrList
import Derived.Test.YtahmajbgfjinbaaDoorFrL

/- The walk of FrameGroup (printed by lawvec.py). -/
namespace Go.Proofs.YtahmajbgfjinbaaDoor
open Go.RowKit
set_option linter.unusedVariables false
set_option linter.unusedSimpArgs false

set_option maxHeartbeats 4000000 in
set_option maxRecDepth 20000 in
theorem frameGroup_int (x y bz u v to_ p q : Int) (w : World) (hx0 : -9223372036854775808 ≤ x) (hx1 : x ≤ 9223372036854775807) (hy0 : -9223372036854775808 ≤ y) (hy1 : y ≤ 9223372036854775807) (hbz0 : -9223372036854775808 ≤ bz) (hbz1 : bz ≤ 9223372036854775807) (hu0 : -9223372036854775808 ≤ u) (hu1 : u ≤ 9223372036854775807) (hv0 : -9223372036854775808 ≤ v) (hv1 : v ≤ 9223372036854775807) (hto_0 : -9223372036854775808 ≤ to_) (hto_1 : to_ ≤ 9223372036854775807) (hp0 : -9223372036854775808 ≤ p) (hp1 : p ≤ 9223372036854775807) (hq0 : -9223372036854775808 ≤ q) (hq1 : q ≤ 9223372036854775807) (hT : Tab w) :
    Calls Tryd.prog 7 #[.int .i64 x, .int .i64 y, .int .i64 bz, .int .i64 u, .int .i64 v, .int .i64 to_, .int .i64 p, .int .i64 q] w fun e w' => e = .returned (.bool true) ∧ Below w.heap.size w w' := by
  have Ix := Lib.hid (And.intro hx0 hx1); clear hx0 hx1
  have Iy := Lib.hid (And.intro hy0 hy1); clear hy0 hy1
  have Ibz := Lib.hid (And.intro hbz0 hbz1); clear hbz0 hbz1
  have Iu := Lib.hid (And.intro hu0 hu1); clear hu0 hu1
  have Iv := Lib.hid (And.intro hv0 hv1); clear hv0 hv1
  have Ito_ := Lib.hid (And.intro hto_0 hto_1); clear hto_0 hto_1
  have Ip := Lib.hid (And.intro hp0 hp1); clear hp0 hp1
  have Iq := Lib.hid (And.intro hq0 hq1); clear hq0 hq1
  have HT := Lib.hid hT; clear hT
  obtain ⟨fx, efx⟩ : ∃ r_, ratMq x = r_ := ⟨_, rfl⟩
  have Z_fx := Lib.hid (show Rz 2 fx from efx ▸ (ratMq_small x).rz.more (by omega))
  have Efx := Lib.hid efx; clear efx
  obtain ⟨fy, efy⟩ : ∃ r_, ratMq y = r_ := ⟨_, rfl⟩
  have Z_fy := Lib.hid (show Rz 2 fy from efy ▸ (ratMq_small y).rz.more (by omega))
  have Efy := Lib.hid efy; clear efy
  obtain ⟨ha, eha⟩ : ∃ r_, tdH bz = r_ := ⟨_, rfl⟩
  obtain ⟨ta, eta⟩ : ∃ r_, tdT bz = r_ := ⟨_, rfl⟩
  have Eha := Lib.hid (And.intro eha eta)
  have Gha := Lib.hid (show GoodT ha ta from eha ▸ eta ▸ td_good bz)
  have Z_ta := Lib.hid (show Rz 2 ta from eta ▸ td_rz bz); clear eha eta
  obtain ⟨gx, egx⟩ : ∃ r_, ratMq u = r_ := ⟨_, rfl⟩
  have Z_gx := Lib.hid (show Rz 2 gx from egx ▸ (ratMq_small u).rz.more (by omega))
  have Egx := Lib.hid egx; clear egx
  obtain ⟨gy, egy⟩ : ∃ r_, ratMq v = r_ := ⟨_, rfl⟩
  have Z_gy := Lib.hid (show Rz 2 gy from egy ▸ (ratMq_small v).rz.more (by omega))
  have Egy := Lib.hid egy; clear egy
  obtain ⟨hb, ehb⟩ : ∃ r_, tdH to_ = r_ := ⟨_, rfl⟩
  obtain ⟨tb, etb⟩ : ∃ r_, tdT to_ = r_ := ⟨_, rfl⟩
  have Ehb := Lib.hid (And.intro ehb etb)
  have Ghb := Lib.hid (show GoodT hb tb from ehb ▸ etb ▸ td_good to_)
  have Z_tb := Lib.hid (show Rz 2 tb from etb ▸ td_rz to_); clear ehb etb
  obtain ⟨pp, epp⟩ : ∃ r_, ratMq p = r_ := ⟨_, rfl⟩
  have Z_pp := Lib.hid (show Rz 2 pp from epp ▸ (ratMq_small p).rz.more (by omega))
  have Epp := Lib.hid epp; clear epp
  obtain ⟨qq, eqq⟩ : ∃ r_, ratMq q = r_ := ⟨_, rfl⟩
  have Z_qq := Lib.hid (show Rz 2 qq from eqq ▸ (ratMq_small q).rz.more (by omega))
  have Eqq := Lib.hid eqq; clear eqq
  go_enter Tryd.func7, Tryd.ntmps7
  have HS : St w [] w := St.start
  go_upto_region 0 with (fail)
  refine wp_seq_text [] (StR.no HS) ?_
  refine Seq.pure rfl rfl (by intro w; go_simp; try first | with_reducible rfl | rfl) ?_
  simp only [Act.put, List.setIfInBounds_toArray, List.set_cons_zero, List.set_cons_succ]
  refine Seq.done fun ws1 hws => ?_
  have HS1 := hws.st
  clear HS hws
  go_upto_region 1 with (fail)
  refine wp_seq_text [] (StR.no HS1) ?_
  refine Seq.call rfl rfl rfl rfl (by kernel_rfl) (vbegun_q HT.out) ?_
  simp only [Act.put, List.setIfInBounds_toArray, List.set_cons_zero, List.set_cons_succ]
  refine Seq.pure rfl rfl (by intro w; go_simp; try first | with_reducible rfl | rfl) ?_
  simp only [Act.put, List.setIfInBounds_toArray, List.set_cons_zero, List.set_cons_succ]
  refine Seq.done fun ws2 hws => ?_
  have HS2 := hws.st
  clear HS1 hws
  go_upto_region 3 with (fail)
  refine wp_seq_text [] (StR.no HS2) ?_
  refine Seq.pure rfl rfl (by intro w; go_simp; try first | with_reducible rfl | rfl) ?_
  simp only [Act.put, List.setIfInBounds_toArray, List.set_cons_zero, List.set_cons_succ]
  refine Seq.pure rfl rfl (by intro w; go_simp; try first | with_reducible rfl | rfl) ?_
  simp only [Act.put, List.setIfInBounds_toArray, List.set_cons_zero, List.set_cons_succ]
  refine Seq.pure rfl rfl (by intro w; go_simp; try first | with_reducible rfl | rfl) ?_
  simp only [Act.put, List.setIfInBounds_toArray, List.set_cons_zero, List.set_cons_succ]
  refine Seq.call rfl rfl rfl rfl (by kernel_rfl) (framed_q HT.out Ix.out Iy.out Ibz.out Efx.out Efy.out Eha.out.1 Eha.out.2) ?_
  simp only [Act.put, List.setIfInBounds_toArray, List.set_cons_zero, List.set_cons_succ]
  refine Seq.pure rfl rfl (by intro w; go_simp; try first | with_reducible rfl | rfl) ?_
  simp only [Act.put, List.setIfInBounds_toArray, List.set_cons_zero, List.set_cons_succ]
  refine Seq.pure rfl rfl (by intro w; go_simp; try first | with_reducible rfl | rfl) ?_
  simp only [Act.put, List.setIfInBounds_toArray, List.set_cons_zero, List.set_cons_succ]
  refine Seq.pure rfl rfl (by intro w; go_simp; try first | with_reducible rfl | rfl) ?_
  simp only [Act.put, List.setIfInBounds_toArray, List.set_cons_zero, List.set_cons_succ]
  refine Seq.call rfl rfl rfl rfl (by kernel_rfl) (framed_q HT.out Iu.out Iv.out Ito_.out Egx.out Egy.out Ehb.out.1 Ehb.out.2) ?_
  simp only [Act.put, List.setIfInBounds_toArray, List.set_cons_zero, List.set_cons_succ]
  refine Seq.pure rfl rfl (by intro w; go_simp; try first | with_reducible rfl | rfl) ?_
  simp only [Act.put, List.setIfInBounds_toArray, List.set_cons_zero, List.set_cons_succ]
  refine Seq.pure rfl rfl (by intro w; go_simp; try first | with_reducible rfl | rfl) ?_
  simp only [Act.put, List.setIfInBounds_toArray, List.set_cons_zero, List.set_cons_succ]
  refine Seq.call rfl rfl rfl rfl (by kernel_rfl) (vector_q HT.out Ip.out Iq.out Epp.out Eqq.out) ?_
  simp only [Act.put, List.setIfInBounds_toArray, List.set_cons_zero, List.set_cons_succ]
  refine Seq.alloc rfl rfl rfl (z := .agg #[.bool false, .string ⟨#[]⟩, .string ⟨#[]⟩, .bool false, .string ⟨#[]⟩, .string ⟨#[]⟩, .bool false, .bool false, .string ⟨#[]⟩, .string ⟨#[]⟩]) (by kernel_rfl) rfl ?_
  intro bk17 _ _ hbk17_r
  simp only [Act.put, List.setIfInBounds_toArray, List.set_cons_zero, List.set_cons_succ]
  refine Seq.alloc rfl rfl rfl (z := .agg #[.bool false, .string ⟨#[]⟩, .string ⟨#[]⟩, .bool false, .string ⟨#[]⟩, .string ⟨#[]⟩, .bool false, .bool false, .string ⟨#[]⟩, .string ⟨#[]⟩]) (by kernel_rfl) rfl ?_
  intro bk18 _ _ hbk18_r
  obtain ⟨ne_bk18_bk17, hbk18_r⟩ := Reg.ne_of_put hbk18_r
  have ne_bk17_bk18 := Ne.symm ne_bk18_bk17
  simp only [Act.put, List.setIfInBounds_toArray, List.set_cons_zero, List.set_cons_succ]
  refine Seq.alloc rfl rfl rfl (z := .agg #[.bool false, .string ⟨#[]⟩, .string ⟨#[]⟩, .bool false, .string ⟨#[]⟩, .string ⟨#[]⟩]) (by kernel_rfl) rfl ?_
  intro bk19 _ _ hbk19_r
  obtain ⟨ne_bk19_bk18, hbk19_r⟩ := Reg.ne_of_put hbk19_r
  have ne_bk18_bk19 := Ne.symm ne_bk19_bk18
  obtain ⟨ne_bk19_bk17, hbk19_r⟩ := Reg.ne_of_put hbk19_r
  have ne_bk17_bk19 := Ne.symm ne_bk19_bk17
  simp only [Act.put, List.setIfInBounds_toArray, List.set_cons_zero, List.set_cons_succ]
  refine Seq.store rfl rfl rfl rfl rfl (by first | exact rS | exact rN (by assumption) (rS) | exact rN (by assumption) (rN (by assumption) (rS)) | exact rN (by assumption) (rN (by assumption) (rN (by assumption) (rS))) | exact rN (by assumption) (rN (by assumption) (rN (by assumption) (rN (by assumption) (rS))))) (n := 10) rfl rfl (by kernel_rfl) (FC_one _ _ _ _) ?_
  simp only [Act.put, List.setIfInBounds_toArray, List.set_cons_zero, List.set_cons_succ]
  refine Seq.store rfl rfl rfl rfl rfl (by first | exact rS | exact rN (by assumption) (rS) | exact rN (by assumption) (rN (by assumption) (rS)) | exact rN (by assumption) (rN (by assumption) (rN (by assumption) (rS))) | exact rN (by assumption) (rN (by assumption) (rN (by assumption) (rN (by assumption) (rS))))) (n := 10) rfl rfl (by kernel_rfl) (FC_one _ _ _ _) ?_
  simp only [Act.put, List.setIfInBounds_toArray, List.set_cons_zero, List.set_cons_succ]
  refine Seq.store rfl rfl rfl rfl rfl (by first | exact rS | exact rN (by assumption) (rS) | exact rN (by assumption) (rN (by assumption) (rS)) | exact rN (by assumption) (rN (by assumption) (rN (by assumption) (rS))) | exact rN (by assumption) (rN (by assumption) (rN (by assumption) (rN (by assumption) (rS))))) (n := 6) rfl rfl (by kernel_rfl) (VC_one _ _) ?_
  simp only [Act.put, List.setIfInBounds_toArray, List.set_cons_zero, List.set_cons_succ]
  refine Seq.done fun ws3 hws => ?_
  have HS3 : St w [(bk17, 57, FC fx fy ha ta), (bk18, 57, FC gx gy hb tb), (bk19, 26, VC pp qq)] ws3 := hws.list3 (by first | exact rS | exact rN (by assumption) (rS) | exact rN (by assumption) (rN (by assumption) (rS)) | exact rN (by assumption) (rN (by assumption) (rN (by assumption) (rS))) | exact rN (by assumption) (rN (by assumption) (rN (by assumption) (rN (by assumption) (rS))))) (by first | exact rS | exact rN (by assumption) (rS) | exact rN (by assumption) (rN (by assumption) (rS)) | exact rN (by assumption) (rN (by assumption) (rN (by assumption) (rS))) | exact rN (by assumption) (rN (by assumption) (rN (by assumption) (rN (by assumption) (rS))))) (by first | exact rS | exact rN (by assumption) (rS) | exact rN (by assumption) (rN (by assumption) (rS)) | exact rN (by assumption) (rN (by assumption) (rN (by assumption) (rS))) | exact rN (by assumption) (rN (by assumption) (rN (by assumption) (rN (by assumption) (rS))))) (by assumption) (by assumption) (by assumption)
  clear HS2 hws
  go_upto_region 4 with (fail)
  refine wp_seq_text [] (StR.no HS3) ?_
  refine Seq.load rfl rfl rfl rfl (by repeat (first | exact mC | apply mT)) (n := 10) rfl (by kernel_rfl) ?_
  simp only [Act.put, List.setIfInBounds_toArray, List.set_cons_zero, List.set_cons_succ]
  refine Seq.load rfl rfl rfl rfl (by repeat (first | exact mC | apply mT)) (n := 10) rfl (by kernel_rfl) ?_
  simp only [Act.put, List.setIfInBounds_toArray, List.set_cons_zero, List.set_cons_succ]
  refine Seq.call rfl rfl rfl rfl (by kernel_rfl) (fthen_q (k := 2) HT.out (Z_fx.out.more (by omega)) (Z_fy.out.more (by omega)) (Z_ta.out.more (by omega)) (Z_gx.out.more (by omega)) (Z_gy.out.more (by omega)) (Z_tb.out.more (by omega)) Gha.out Ghb.out rfl rfl rfl rfl (by omega)) ?_
  simp only [Act.put, List.setIfInBounds_toArray, List.set_cons_zero, List.set_cons_succ]
  refine Seq.alloc rfl rfl rfl (z := .agg #[.bool false, .string ⟨#[]⟩, .string ⟨#[]⟩, .bool false, .string ⟨#[]⟩, .string ⟨#[]⟩, .bool false, .bool false, .string ⟨#[]⟩, .string ⟨#[]⟩]) (by kernel_rfl) rfl ?_
  intro bk20 _ _ hbk20_r
  simp only [Act.put, List.setIfInBounds_toArray, List.set_cons_zero, List.set_cons_succ]
  refine Seq.store rfl rfl rfl rfl rfl (by first | exact rS | exact rN (by assumption) (rS) | exact rN (by assumption) (rN (by assumption) (rS)) | exact rN (by assumption) (rN (by assumption) (rN (by assumption) (rS))) | exact rN (by assumption) (rN (by assumption) (rN (by assumption) (rN (by assumption) (rS))))) (n := 10) rfl rfl (by kernel_rfl) (FC_one _ _ _ _) ?_
  simp only [Act.put, List.setIfInBounds_toArray, List.set_cons_zero, List.set_cons_succ]
  refine Seq.done fun ws4 hws => ?_
  have HS4 : St w [(bk20, 57, FC (fx + ((gx * (cosT ha ta)) - (gy * (sinT ta)))) (fy + ((gx * (sinT ta)) + (gy * (cosT ha ta)))) ((thenT ha ta hb tb).1) ((thenT ha ta hb tb).2)), (bk17, 57, FC fx fy ha ta), (bk18, 57, FC gx gy hb tb), (bk19, 26, VC pp qq)] ws4 := hws.list1 (by first | exact rS | exact rN (by assumption) (rS) | exact rN (by assumption) (rN (by assumption) (rS)) | exact rN (by assumption) (rN (by assumption) (rN (by assumption) (rS))) | exact rN (by assumption) (rN (by assumption) (rN (by assumption) (rN (by assumption) (rS)))))
  clear HS3 hws
  go_upto_region 5 with (fail)
  refine wp_seq_text [1000005] (StR.no HS4) ?_
  refine Seq.load rfl rfl rfl rfl (by repeat (first | exact mC | apply mT)) (n := 10) rfl (by kernel_rfl) ?_
  simp only [Act.put, List.setIfInBounds_toArray, List.set_cons_zero, List.set_cons_succ]
  refine Seq.load rfl rfl rfl rfl (by repeat (first | exact mC | apply mT)) (n := 6) rfl (by kernel_rfl) ?_
  simp only [Act.put, List.setIfInBounds_toArray, List.set_cons_zero, List.set_cons_succ]
  refine Seq.pure (v := .pointer (some ⟨bk17, 0, none⟩)) rfl rfl (by intro w; go_simp; try first | with_reducible rfl | rfl) ?_
  simp only [Act.put, List.setIfInBounds_toArray, List.set_cons_zero, List.set_cons_succ]
  refine Seq.loadAt rfl rfl rfl rfl (by repeat (first | exact mC | apply mT)) (n := 6) (cs' := VC fx fy) (by first | decide | exact Nat.le_refl _ | (simp [VC, TC, FC, BC, RC]; done)) (by kernel_rfl) (by first | rfl | (simp [VC, TC, FC, BC, RC]; done)) ?_
  simp only [Act.put, List.setIfInBounds_toArray, List.set_cons_zero, List.set_cons_succ]
  refine Seq.slice (n := 2) (e := 26) (cs := BC pp qq fx fy) rfl rfl (fun w => slcV_2 rfl rfl rfl w) ?_
  intro bk42 _ _ hbk42_r
  simp only [Act.put, List.setIfInBounds_toArray, List.set_cons_zero, List.set_cons_succ]
  refine Seq.callFresh (n := some 2) (x := (26, BC ((fx + ((gx * (cosT ha ta)) - (gy * (sinT ta)))) + ((pp * (cosT ((thenT ha ta hb tb).1) ((thenT ha ta hb tb).2))) - (qq * (sinT ((thenT ha ta hb tb).2))))) ((fy + ((gx * (sinT ta)) + (gy * (cosT ha ta)))) + ((pp * (sinT ((thenT ha ta hb tb).2))) + (qq * (cosT ((thenT ha ta hb tb).1) ((thenT ha ta hb tb).2))))) ((fx + ((gx * (cosT ha ta)) - (gy * (sinT ta)))) + ((fx * (cosT ((thenT ha ta hb tb).1) ((thenT ha ta hb tb).2))) - (fy * (sinT ((thenT ha ta hb tb).2))))) ((fy + ((gx * (sinT ta)) + (gy * (cosT ha ta)))) + ((fx * (sinT ((thenT ha ta hb tb).2))) + (fy * (cosT ((thenT ha ta hb tb).1) ((thenT ha ta hb tb).2))))))) rfl rfl rfl rfl (by kernel_rfl) (fun w h => flist_2 (k := 231) HT.out ((Z_fx.out.add ((Z_gx.out.mul (Rz.cosT ha Z_ta.out)).sub (Z_gy.out.mul (Rz.sinT Z_ta.out)))).more (by omega)) ((Z_fy.out.add ((Z_gx.out.mul (Rz.sinT Z_ta.out)).add (Z_gy.out.mul (Rz.cosT ha Z_ta.out)))).more (by omega)) ((Rz.thenT (k := 2) ha hb (Z_ta.out.more (by omega)) (Z_tb.out.more (by omega))).more (by omega)) (Z_pp.out.more (by omega)) (Z_qq.out.more (by omega)) (Z_fx.out.more (by omega)) (Z_fy.out.more (by omega)) (thenT_good _ _ _ _) rfl rfl rfl rfl (by omega) _ w h.st (h.reg _ _ _ (by first | exact rS | exact rN (by assumption) (rS) | exact rN (by assumption) (rN (by assumption) (rS)) | exact rN (by assumption) (rN (by assumption) (rN (by assumption) (rS))) | exact rN (by assumption) (rN (by assumption) (rN (by assumption) (rN (by assumption) (rS)))))).2.2) ?_
  intro bk43 _ _ hbk43_r
  obtain ⟨ne_bk43_bk42, hbk43_r⟩ := Reg.ne_of_put hbk43_r
  have ne_bk42_bk43 := Ne.symm ne_bk43_bk42
  simp only [mk]
  simp only [Act.put, List.setIfInBounds_toArray, List.set_cons_zero, List.set_cons_succ]
  refine Seq.pure rfl rfl (by intro w; go_simp; try first | with_reducible rfl | rfl) ?_
  simp only [Act.put, List.setIfInBounds_toArray, List.set_cons_zero, List.set_cons_succ]
  refine Seq.done fun ws5 hws => ?_
  have HS5 : St w [(bk42, 26, BC pp qq fx fy), (bk43, 26, BC ((fx + ((gx * (cosT ha ta)) - (gy * (sinT ta)))) + ((pp * (cosT ((thenT ha ta hb tb).1) ((thenT ha ta hb tb).2))) - (qq * (sinT ((thenT ha ta hb tb).2))))) ((fy + ((gx * (sinT ta)) + (gy * (cosT ha ta)))) + ((pp * (sinT ((thenT ha ta hb tb).2))) + (qq * (cosT ((thenT ha ta hb tb).1) ((thenT ha ta hb tb).2))))) ((fx + ((gx * (cosT ha ta)) - (gy * (sinT ta)))) + ((fx * (cosT ((thenT ha ta hb tb).1) ((thenT ha ta hb tb).2))) - (fy * (sinT ((thenT ha ta hb tb).2))))) ((fy + ((gx * (sinT ta)) + (gy * (cosT ha ta)))) + ((fx * (sinT ((thenT ha ta hb tb).2))) + (fy * (cosT ((thenT ha ta hb tb).1) ((thenT ha ta hb tb).2)))))), (bk20, 57, FC (fx + ((gx * (cosT ha ta)) - (gy * (sinT ta)))) (fy + ((gx * (sinT ta)) + (gy * (cosT ha ta)))) ((thenT ha ta hb tb).1) ((thenT ha ta hb tb).2)), (bk17, 57, FC fx fy ha ta), (bk18, 57, FC gx gy hb tb), (bk19, 26, VC pp qq)] ws5 := hws.list2 (by first | exact rS | exact rN (by assumption) (rS) | exact rN (by assumption) (rN (by assumption) (rS)) | exact rN (by assumption) (rN (by assumption) (rN (by assumption) (rS))) | exact rN (by assumption) (rN (by assumption) (rN (by assumption) (rN (by assumption) (rS))))) (by first | exact rS | exact rN (by assumption) (rS) | exact rN (by assumption) (rN (by assumption) (rS)) | exact rN (by assumption) (rN (by assumption) (rN (by assumption) (rS))) | exact rN (by assumption) (rN (by assumption) (rN (by assumption) (rN (by assumption) (rS))))) (by assumption)
  clear HS4 hws
  go_upto_region 6 with (fail)
  simp only [List.append]
  refine wp_seq [] (by kernel_rfl) (by kernel_rfl) Reg.fin_no (StR.no HS5) ?_
  refine Seq.load rfl rfl rfl rfl (by repeat (first | exact mC | apply mT)) (n := 10) rfl (by kernel_rfl) ?_
  simp only [Act.put, List.setIfInBounds_toArray, List.set_cons_zero, List.set_cons_succ]
  refine Seq.load rfl rfl rfl rfl (by repeat (first | exact mC | apply mT)) (n := 10) rfl (by kernel_rfl) ?_
  simp only [Act.put, List.setIfInBounds_toArray, List.set_cons_zero, List.set_cons_succ]
  refine Seq.call rfl rfl rfl rfl (by kernel_rfl) (fback_q (k := 2) HT.out (Z_fx.out.more (by omega)) (Z_fy.out.more (by omega)) (Z_ta.out.more (by omega)) Gha.out rfl rfl rfl rfl (by omega)) ?_
  simp only [Act.put, List.setIfInBounds_toArray, List.set_cons_zero, List.set_cons_succ]
  refine Seq.call rfl rfl rfl rfl (by kernel_rfl) (fthen_q (k := 141) HT.out (Z_fx.out.more (by omega)) (Z_fy.out.more (by omega)) (Z_ta.out.more (by omega)) ((((Rz.zero2.sub Z_fx.out).mul (Rz.cosT ha Z_ta.out.neg)).sub ((Rz.zero2.sub Z_fy.out).mul (Rz.sinT Z_ta.out.neg))).more (by omega)) ((((Rz.zero2.sub Z_fx.out).mul (Rz.sinT Z_ta.out.neg)).add ((Rz.zero2.sub Z_fy.out).mul (Rz.cosT ha Z_ta.out.neg))).more (by omega)) (Z_ta.out.neg.more (by omega)) Gha.out (good_neg Gha.out) rfl rfl rfl rfl (by omega)) ?_
  simp only [Act.put, List.setIfInBounds_toArray, List.set_cons_zero, List.set_cons_succ]
  refine Seq.call rfl rfl rfl rfl (by kernel_rfl) (fzero_q (k := 1) HT.out   rfl rfl rfl (by omega)) ?_
  simp only [Act.put, List.setIfInBounds_toArray, List.set_cons_zero, List.set_cons_succ]
  refine Seq.eqF rfl rfl rfl rfl rfl (b := true) (decide_eq_true (fl1 Gha.out _ _)) ?_
  simp only [Act.put, List.setIfInBounds_toArray, List.set_cons_zero, List.set_cons_succ]
  refine Seq.pure rfl rfl (by intro w; go_simp; try first | with_reducible rfl | rfl) ?_
  simp only [Act.put, List.setIfInBounds_toArray, List.set_cons_zero, List.set_cons_succ]
  refine Seq.load rfl rfl rfl rfl (by repeat (first | exact mC | apply mT)) (n := 10) rfl (by kernel_rfl) ?_
  simp only [Act.put, List.setIfInBounds_toArray, List.set_cons_zero, List.set_cons_succ]
  refine Seq.call rfl rfl rfl rfl (by kernel_rfl) (fback_q (k := 2) HT.out (Z_fx.out.more (by omega)) (Z_fy.out.more (by omega)) (Z_ta.out.more (by omega)) Gha.out rfl rfl rfl rfl (by omega)) ?_
  simp only [Act.put, List.setIfInBounds_toArray, List.set_cons_zero, List.set_cons_succ]
  refine Seq.load rfl rfl rfl rfl (by repeat (first | exact mC | apply mT)) (n := 10) rfl (by kernel_rfl) ?_
  simp only [Act.put, List.setIfInBounds_toArray, List.set_cons_zero, List.set_cons_succ]
  refine Seq.call rfl rfl rfl rfl (by kernel_rfl) (fthen_q (k := 141) HT.out ((((Rz.zero2.sub Z_fx.out).mul (Rz.cosT ha Z_ta.out.neg)).sub ((Rz.zero2.sub Z_fy.out).mul (Rz.sinT Z_ta.out.neg))).more (by omega)) ((((Rz.zero2.sub Z_fx.out).mul (Rz.sinT Z_ta.out.neg)).add ((Rz.zero2.sub Z_fy.out).mul (Rz.cosT ha Z_ta.out.neg))).more (by omega)) (Z_ta.out.neg.more (by omega)) (Z_fx.out.more (by omega)) (Z_fy.out.more (by omega)) (Z_ta.out.more (by omega)) (good_neg Gha.out) Gha.out rfl rfl rfl rfl (by omega)) ?_
  simp only [Act.put, List.setIfInBounds_toArray, List.set_cons_zero, List.set_cons_succ]
  refine Seq.call rfl rfl rfl rfl (by kernel_rfl) (fzero_q (k := 1) HT.out   rfl rfl rfl (by omega)) ?_
  simp only [Act.put, List.setIfInBounds_toArray, List.set_cons_zero, List.set_cons_succ]
  refine Seq.eqF rfl rfl rfl rfl rfl (b := true) (decide_eq_true (fl2 Gha.out _ _)) ?_
  simp only [Act.put, List.setIfInBounds_toArray, List.set_cons_zero, List.set_cons_succ]
  refine Seq.pure rfl rfl (by intro w; go_simp; try first | with_reducible rfl | rfl) ?_
  simp only [Act.put, List.setIfInBounds_toArray, List.set_cons_zero, List.set_cons_succ]
  refine Seq.pure rfl rfl (by intro w; go_simp; try first | with_reducible rfl | rfl) ?_
  simp only [Act.put, List.setIfInBounds_toArray, List.set_cons_zero, List.set_cons_succ]
  refine Seq.load rfl rfl rfl rfl (by repeat (first | exact mC | apply mT)) (n := 10) rfl (by kernel_rfl) ?_
  simp only [Act.put, List.setIfInBounds_toArray, List.set_cons_zero, List.set_cons_succ]
  refine Seq.call rfl rfl rfl rfl (by kernel_rfl) (fzero_q (k := 1) HT.out   rfl rfl rfl (by omega)) ?_
  simp only [Act.put, List.setIfInBounds_toArray, List.set_cons_zero, List.set_cons_succ]
  refine Seq.call rfl rfl rfl rfl (by kernel_rfl) (fthen_q (k := 2) HT.out (Z_fx.out.more (by omega)) (Z_fy.out.more (by omega)) (Z_ta.out.more (by omega)) (Rz.zero2.more (by omega)) (Rz.zero2.more (by omega)) (Rz.zero2.more (by omega)) Gha.out (fun h => by cases h) rfl rfl rfl rfl (by omega)) ?_
  simp only [Act.put, List.setIfInBounds_toArray, List.set_cons_zero, List.set_cons_succ]
  refine Seq.load rfl rfl rfl rfl (by repeat (first | exact mC | apply mT)) (n := 10) rfl (by kernel_rfl) ?_
  simp only [Act.put, List.setIfInBounds_toArray, List.set_cons_zero, List.set_cons_succ]
  refine Seq.eqF rfl rfl rfl rfl rfl (b := true) (decide_eq_true (fl3 Gha.out _ _)) ?_
  simp only [Act.put, List.setIfInBounds_toArray, List.set_cons_zero, List.set_cons_succ]
  refine Seq.pure rfl rfl (by intro w; go_simp; try first | with_reducible rfl | rfl) ?_
  simp only [Act.put, List.setIfInBounds_toArray, List.set_cons_zero, List.set_cons_succ]
  refine Seq.pure rfl rfl (by intro w; go_simp; try first | with_reducible rfl | rfl) ?_
  simp only [Act.put, List.setIfInBounds_toArray, List.set_cons_zero, List.set_cons_succ]
  refine Seq.load rfl rfl rfl rfl (by repeat (first | exact mC | apply mT)) (n := 10) rfl (by kernel_rfl) ?_
  simp only [Act.put, List.setIfInBounds_toArray, List.set_cons_zero, List.set_cons_succ]
  refine Seq.load rfl rfl rfl rfl (by repeat (first | exact mC | apply mT)) (n := 6) rfl (by kernel_rfl) ?_
  simp only [Act.put, List.setIfInBounds_toArray, List.set_cons_zero, List.set_cons_succ]
  refine Seq.call rfl rfl rfl rfl (by kernel_rfl) (fput_q (k := 231) HT.out ((Z_fx.out.add ((Z_gx.out.mul (Rz.cosT ha Z_ta.out)).sub (Z_gy.out.mul (Rz.sinT Z_ta.out)))).more (by omega)) ((Z_fy.out.add ((Z_gx.out.mul (Rz.sinT Z_ta.out)).add (Z_gy.out.mul (Rz.cosT ha Z_ta.out)))).more (by omega)) ((Rz.thenT (k := 2) ha hb (Z_ta.out.more (by omega)) (Z_tb.out.more (by omega))).more (by omega)) (Z_pp.out.more (by omega)) (Z_qq.out.more (by omega)) (thenT_good _ _ _ _) rfl rfl (by omega)) ?_
  simp only [Act.put, List.setIfInBounds_toArray, List.set_cons_zero, List.set_cons_succ]
  refine Seq.load rfl rfl rfl rfl (by repeat (first | exact mC | apply mT)) (n := 10) rfl (by kernel_rfl) ?_
  simp only [Act.put, List.setIfInBounds_toArray, List.set_cons_zero, List.set_cons_succ]
  refine Seq.load rfl rfl rfl rfl (by repeat (first | exact mC | apply mT)) (n := 10) rfl (by kernel_rfl) ?_
  simp only [Act.put, List.setIfInBounds_toArray, List.set_cons_zero, List.set_cons_succ]
  refine Seq.load rfl rfl rfl rfl (by repeat (first | exact mC | apply mT)) (n := 6) rfl (by kernel_rfl) ?_
  simp only [Act.put, List.setIfInBounds_toArray, List.set_cons_zero, List.set_cons_succ]
  refine Seq.call rfl rfl rfl rfl (by kernel_rfl) (fput_q (k := 2) HT.out (Z_gx.out.more (by omega)) (Z_gy.out.more (by omega)) (Z_tb.out.more (by omega)) (Z_pp.out.more (by omega)) (Z_qq.out.more (by omega)) Ghb.out rfl rfl (by omega)) ?_
  simp only [Act.put, List.setIfInBounds_toArray, List.set_cons_zero, List.set_cons_succ]
  refine Seq.call rfl rfl rfl rfl (by kernel_rfl) (fput_q (k := 231) HT.out (Z_fx.out.more (by omega)) (Z_fy.out.more (by omega)) (Z_ta.out.more (by omega)) ((Z_gx.out.add ((Z_pp.out.mul (Rz.cosT hb Z_tb.out)).sub (Z_qq.out.mul (Rz.sinT Z_tb.out)))).more (by omega)) ((Z_gy.out.add ((Z_pp.out.mul (Rz.sinT Z_tb.out)).add (Z_qq.out.mul (Rz.cosT hb Z_tb.out)))).more (by omega)) Gha.out rfl rfl (by omega)) ?_
  simp only [Act.put, List.setIfInBounds_toArray, List.set_cons_zero, List.set_cons_succ]
  refine Seq.eqV rfl rfl rfl rfl rfl (b := true) (decide_eq_true (fl4 Gha.out Ghb.out _ _ _ _ _ _)) ?_
  simp only [Act.put, List.setIfInBounds_toArray, List.set_cons_zero, List.set_cons_succ]
  refine Seq.pure rfl rfl (by intro w; go_simp; try first | with_reducible rfl | rfl) ?_
  simp only [Act.put, List.setIfInBounds_toArray, List.set_cons_zero, List.set_cons_succ]
  refine Seq.pure rfl rfl (by intro w; go_simp; try first | with_reducible rfl | rfl) ?_
  simp only [Act.put, List.setIfInBounds_toArray, List.set_cons_zero, List.set_cons_succ]
  refine Seq.load rfl rfl rfl rfl (by repeat (first | exact mC | apply mT)) (n := 10) rfl (by kernel_rfl) ?_
  simp only [Act.put, List.setIfInBounds_toArray, List.set_cons_zero, List.set_cons_succ]
  refine Seq.call rfl rfl rfl rfl (by kernel_rfl) (fback_q (k := 2) HT.out (Z_fx.out.more (by omega)) (Z_fy.out.more (by omega)) (Z_ta.out.more (by omega)) Gha.out rfl rfl rfl rfl (by omega)) ?_
  simp only [Act.put, List.setIfInBounds_toArray, List.set_cons_zero, List.set_cons_succ]
  refine Seq.load rfl rfl rfl rfl (by repeat (first | exact mC | apply mT)) (n := 10) rfl (by kernel_rfl) ?_
  simp only [Act.put, List.setIfInBounds_toArray, List.set_cons_zero, List.set_cons_succ]
  refine Seq.load rfl rfl rfl rfl (by repeat (first | exact mC | apply mT)) (n := 6) rfl (by kernel_rfl) ?_
  simp only [Act.put, List.setIfInBounds_toArray, List.set_cons_zero, List.set_cons_succ]
  refine Seq.call rfl rfl rfl rfl (by kernel_rfl) (fput_q (k := 2) HT.out (Z_fx.out.more (by omega)) (Z_fy.out.more (by omega)) (Z_ta.out.more (by omega)) (Z_pp.out.more (by omega)) (Z_qq.out.more (by omega)) Gha.out rfl rfl (by omega)) ?_
  simp only [Act.put, List.setIfInBounds_toArray, List.set_cons_zero, List.set_cons_succ]
  refine Seq.call rfl rfl rfl rfl (by kernel_rfl) (fput_q (k := 231) HT.out ((((Rz.zero2.sub Z_fx.out).mul (Rz.cosT ha Z_ta.out.neg)).sub ((Rz.zero2.sub Z_fy.out).mul (Rz.sinT Z_ta.out.neg))).more (by omega)) ((((Rz.zero2.sub Z_fx.out).mul (Rz.sinT Z_ta.out.neg)).add ((Rz.zero2.sub Z_fy.out).mul (Rz.cosT ha Z_ta.out.neg))).more (by omega)) (Z_ta.out.neg.more (by omega)) ((Z_fx.out.add ((Z_pp.out.mul (Rz.cosT ha Z_ta.out)).sub (Z_qq.out.mul (Rz.sinT Z_ta.out)))).more (by omega)) ((Z_fy.out.add ((Z_pp.out.mul (Rz.sinT Z_ta.out)).add (Z_qq.out.mul (Rz.cosT ha Z_ta.out)))).more (by omega)) (good_neg Gha.out) rfl rfl (by omega)) ?_
  simp only [Act.put, List.setIfInBounds_toArray, List.set_cons_zero, List.set_cons_succ]
  refine Seq.load rfl rfl rfl rfl (by repeat (first | exact mC | apply mT)) (n := 6) rfl (by kernel_rfl) ?_
  simp only [Act.put, List.setIfInBounds_toArray, List.set_cons_zero, List.set_cons_succ]
  refine Seq.eqV rfl rfl rfl rfl rfl (b := true) (decide_eq_true (fl5 Gha.out _ _ _ _)) ?_
  simp only [Act.put, List.setIfInBounds_toArray, List.set_cons_zero, List.set_cons_succ]
  refine Seq.pure rfl rfl (by intro w; go_simp; try first | with_reducible rfl | rfl) ?_
  simp only [Act.put, List.setIfInBounds_toArray, List.set_cons_zero, List.set_cons_succ]
  refine Seq.pure rfl rfl (by intro w; go_simp; try first | with_reducible rfl | rfl) ?_
  simp only [Act.put, List.setIfInBounds_toArray, List.set_cons_zero, List.set_cons_succ]
  refine Seq.load rfl rfl rfl rfl (by repeat (first | exact mC | apply mT)) (n := 10) rfl (by kernel_rfl) ?_
  simp only [Act.put, List.setIfInBounds_toArray, List.set_cons_zero, List.set_cons_succ]
  refine Seq.call rfl rfl rfl rfl (by kernel_rfl) (fback_q (k := 231) HT.out ((Z_fx.out.add ((Z_gx.out.mul (Rz.cosT ha Z_ta.out)).sub (Z_gy.out.mul (Rz.sinT Z_ta.out)))).more (by omega)) ((Z_fy.out.add ((Z_gx.out.mul (Rz.sinT Z_ta.out)).add (Z_gy.out.mul (Rz.cosT ha Z_ta.out)))).more (by omega)) ((Rz.thenT (k := 2) ha hb (Z_ta.out.more (by omega)) (Z_tb.out.more (by omega))).more (by omega)) (thenT_good _ _ _ _) rfl rfl rfl rfl (by omega)) ?_
  simp only [Act.put, List.setIfInBounds_toArray, List.set_cons_zero, List.set_cons_succ]
  refine Seq.load rfl rfl rfl rfl (by repeat (first | exact mC | apply mT)) (n := 10) rfl (by kernel_rfl) ?_
  simp only [Act.put, List.setIfInBounds_toArray, List.set_cons_zero, List.set_cons_succ]
  refine Seq.call rfl rfl rfl rfl (by kernel_rfl) (fback_q (k := 2) HT.out (Z_gx.out.more (by omega)) (Z_gy.out.more (by omega)) (Z_tb.out.more (by omega)) Ghb.out rfl rfl rfl rfl (by omega)) ?_
  simp only [Act.put, List.setIfInBounds_toArray, List.set_cons_zero, List.set_cons_succ]
  refine Seq.load rfl rfl rfl rfl (by repeat (first | exact mC | apply mT)) (n := 10) rfl (by kernel_rfl) ?_
  simp only [Act.put, List.setIfInBounds_toArray, List.set_cons_zero, List.set_cons_succ]
  refine Seq.call rfl rfl rfl rfl (by kernel_rfl) (fback_q (k := 2) HT.out (Z_fx.out.more (by omega)) (Z_fy.out.more (by omega)) (Z_ta.out.more (by omega)) Gha.out rfl rfl rfl rfl (by omega)) ?_
  simp only [Act.put, List.setIfInBounds_toArray, List.set_cons_zero, List.set_cons_succ]
  refine Seq.call rfl rfl rfl rfl (by kernel_rfl) (fthen_q (k := 141) HT.out ((((Rz.zero2.sub Z_gx.out).mul (Rz.cosT hb Z_tb.out.neg)).sub ((Rz.zero2.sub Z_gy.out).mul (Rz.sinT Z_tb.out.neg))).more (by omega)) ((((Rz.zero2.sub Z_gx.out).mul (Rz.sinT Z_tb.out.neg)).add ((Rz.zero2.sub Z_gy.out).mul (Rz.cosT hb Z_tb.out.neg))).more (by omega)) (Z_tb.out.neg.more (by omega)) ((((Rz.zero2.sub Z_fx.out).mul (Rz.cosT ha Z_ta.out.neg)).sub ((Rz.zero2.sub Z_fy.out).mul (Rz.sinT Z_ta.out.neg))).more (by omega)) ((((Rz.zero2.sub Z_fx.out).mul (Rz.sinT Z_ta.out.neg)).add ((Rz.zero2.sub Z_fy.out).mul (Rz.cosT ha Z_ta.out.neg))).more (by omega)) (Z_ta.out.neg.more (by omega)) (good_neg Ghb.out) (good_neg Gha.out) rfl rfl rfl rfl (by omega)) ?_
  simp only [Act.put, List.setIfInBounds_toArray, List.set_cons_zero, List.set_cons_succ]
  refine Seq.eqF rfl rfl rfl rfl rfl (b := true) (decide_eq_true (fl6 Gha.out Ghb.out _ _ _ _)) ?_
  simp only [Act.put, List.setIfInBounds_toArray, List.set_cons_zero, List.set_cons_succ]
  refine Seq.pure rfl rfl (by intro w; go_simp; try first | with_reducible rfl | rfl) ?_
  simp only [Act.put, List.setIfInBounds_toArray, List.set_cons_zero, List.set_cons_succ]
  refine Seq.pure rfl rfl (by intro w; go_simp; try first | with_reducible rfl | rfl) ?_
  simp only [Act.put, List.setIfInBounds_toArray, List.set_cons_zero, List.set_cons_succ]
  refine Seq.pure rfl rfl (by intro w; go_simp; try first | with_reducible rfl | rfl) ?_
  simp only [Act.put, List.setIfInBounds_toArray, List.set_cons_zero, List.set_cons_succ]
  refine Seq.pure (v := .int .i64 2) rfl rfl (by intro w; go_simp; try first | with_reducible rfl | rfl) ?_
  simp only [Act.put, List.setIfInBounds_toArray, List.set_cons_zero, List.set_cons_succ]
  refine Seq.pure rfl rfl (by intro w; go_simp; try first | with_reducible rfl | rfl) ?_
  simp only [Act.put, List.setIfInBounds_toArray, List.set_cons_zero, List.set_cons_succ]
  refine Seq.pure rfl rfl (by intro w; go_simp; try first | with_reducible rfl | rfl) ?_
  simp only [Act.put, List.setIfInBounds_toArray, List.set_cons_zero, List.set_cons_succ]
  refine Seq.pure rfl rfl (by intro w; go_simp; try first | with_reducible rfl | rfl) ?_
  simp only [Act.put, List.setIfInBounds_toArray, List.set_cons_zero, List.set_cons_succ]
  refine Seq.pure rfl rfl (by intro w; go_simp; try first | with_reducible rfl | rfl) ?_
  simp only [Act.put, List.setIfInBounds_toArray, List.set_cons_zero, List.set_cons_succ]
  refine Seq.pure (v := .pointer (some ⟨bk43, 0, none⟩)) rfl rfl (by intro w; go_simp; try first | with_reducible rfl | rfl) ?_
  simp only [Act.put, List.setIfInBounds_toArray, List.set_cons_zero, List.set_cons_succ]
  refine Seq.loadAt rfl rfl rfl rfl (by repeat (first | exact mC | apply mT)) (n := 6) (cs' := VC ((fx + ((gx * (cosT ha ta)) - (gy * (sinT ta)))) + ((pp * (cosT ((thenT ha ta hb tb).1) ((thenT ha ta hb tb).2))) - (qq * (sinT ((thenT ha ta hb tb).2))))) ((fy + ((gx * (sinT ta)) + (gy * (cosT ha ta)))) + ((pp * (sinT ((thenT ha ta hb tb).2))) + (qq * (cosT ((thenT ha ta hb tb).1) ((thenT ha ta hb tb).2)))))) (by first | decide | exact Nat.le_refl _ | (simp [VC, TC, FC, BC, RC]; done)) (by kernel_rfl) (by first | rfl | (simp [VC, TC, FC, BC, RC]; done)) ?_
  simp only [Act.put, List.setIfInBounds_toArray, List.set_cons_zero, List.set_cons_succ]
  refine Seq.load rfl rfl rfl rfl (by repeat (first | exact mC | apply mT)) (n := 10) rfl (by kernel_rfl) ?_
  simp only [Act.put, List.setIfInBounds_toArray, List.set_cons_zero, List.set_cons_succ]
  refine Seq.load rfl rfl rfl rfl (by repeat (first | exact mC | apply mT)) (n := 6) rfl (by kernel_rfl) ?_
  simp only [Act.put, List.setIfInBounds_toArray, List.set_cons_zero, List.set_cons_succ]
  refine Seq.call rfl rfl rfl rfl (by kernel_rfl) (fput_q (k := 231) HT.out ((Z_fx.out.add ((Z_gx.out.mul (Rz.cosT ha Z_ta.out)).sub (Z_gy.out.mul (Rz.sinT Z_ta.out)))).more (by omega)) ((Z_fy.out.add ((Z_gx.out.mul (Rz.sinT Z_ta.out)).add (Z_gy.out.mul (Rz.cosT ha Z_ta.out)))).more (by omega)) ((Rz.thenT (k := 2) ha hb (Z_ta.out.more (by omega)) (Z_tb.out.more (by omega))).more (by omega)) (Z_pp.out.more (by omega)) (Z_qq.out.more (by omega)) (thenT_good _ _ _ _) rfl rfl (by omega)) ?_
  simp only [Act.put, List.setIfInBounds_toArray, List.set_cons_zero, List.set_cons_succ]
  refine Seq.eqV rfl rfl rfl rfl rfl (b := true) (decide_eq_true ⟨rfl, rfl⟩) ?_
  simp only [Act.put, List.setIfInBounds_toArray, List.set_cons_zero, List.set_cons_succ]
  refine Seq.pure rfl rfl (by intro w; go_simp; try first | with_reducible rfl | rfl) ?_
  simp only [Act.put, List.setIfInBounds_toArray, List.set_cons_zero, List.set_cons_succ]
  refine Seq.pure rfl rfl (by intro w; go_simp; try first | with_reducible rfl | rfl) ?_
  simp only [Act.put, List.setIfInBounds_toArray, List.set_cons_zero, List.set_cons_succ]
  refine Seq.done fun ws6 hws => ?_
  have HS6 := hws.st
  clear HS5 hws
  go_wp2_with fail
  go_ret
  exact ⟨rfl, HS6.below⟩
end Go.Proofs.YtahmajbgfjinbaaDoor
