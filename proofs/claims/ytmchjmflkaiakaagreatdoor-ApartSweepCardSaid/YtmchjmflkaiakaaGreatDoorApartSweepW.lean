/- The law ApartSweep (printed by swx.py). -/
import Derived.Test.YtmchjmflkaiakaaGreatDoorSwL
import Derived.Test.YtmchjmflkaiakaaGreatDoorPoW
import Derived.Test.YtmchjmflkaiakaaGreatDoorApX3
import Derived.Test.YtmchjmflkaiakaaGreatDoorAp6
import Derived.Test.YtmchjmflkaiakaaGreatDoorNmB
import Derived.Deep.LoopGhost
import Derived.OwnWalk
set_option maxHeartbeats 8000000
set_option maxRecDepth 20000
namespace Go.Proofs.YtmchjmflkaiakaaGreatDoor
open Go.RowKit
set_option linter.unusedVariables false
set_option linter.unusedSimpArgs false
theorem areaQ_rz16 {k m : Nat} {ps : Pts} (hz : Pz k ps) (hk : k ≤ 20) (hl : ps.length = m) (hm : m ≤ 16) : Rz 1000000000000 (areaQ ps) := by
 have h := areaS_rz hz _ (Nat.le_refl _)
 have e : fz k ps.length ≤ fz k 16 := fz_mono k (by omega)
 have e2 : fz k 16 ≤ 100000000 := by simp only [fz]; omega
 exact ((num_s 1 2 (by decide) (by decide) (by decide)).mul h).more (by omega)
theorem cos_z : cosT false 0 = 1 := by unfold cosT; decide +kernel
theorem sin_z : sinT 0 = 0 := by unfold sinT; decide +kernel
theorem mv_px {a b : Rat} {ps : Pts} {i : Nat} (h : i < ps.length) : px (mvP (cosT false 0) (sinT 0) a b ps) i = px ps i + a ∧ py (mvP (cosT false 0) (sinT 0) a b ps) i = py ps i + b := by
 rw [px_mv h, py_mv h, cos_z, sin_z]
 unfold mvx mvy
 grind
theorem cvx_z {a b : Rat} {ps : Pts} (h : Cvx ps) : Cvx (mvP (cosT false 0) (sinT 0) a b ps) := cvx_mv (by rw [cos_z, sin_z]; decide +kernel) h
theorem box_ord {ps : Pts} {n : Nat} : mnF (px ps) n ≤ mxF (px ps) n ∧ mnF (py ps) n ≤ mxF (py ps) n := ⟨Rat.le_trans (mn_le n 0 (by omega)) (mx_ge n 0 (by omega)), Rat.le_trans (mn_le n 0 (by omega)) (mx_ge n 0 (by omega))⟩
theorem apartSweep_int {A0 A1 : Option Addr} {n0 cc0 n1 cc1 : Nat} {xs0 xs1 : List Int} (x y u v k : Int) (w : World) (hi0 : Ints w A0 n0 cc0 xs0) (hi1 : Ints w A1 n1 cc1 xs1) (hx0 : -9223372036854775808 ≤ x) (hx1 : x ≤ 9223372036854775807) (hy0 : -9223372036854775808 ≤ y) (hy1 : y ≤ 9223372036854775807) (hu0 : -9223372036854775808 ≤ u) (hu1 : u ≤ 9223372036854775807) (hv0 : -9223372036854775808 ≤ v) (hv1 : v ≤ 9223372036854775807) (hk0 : -9223372036854775808 ≤ k) (hk1 : k ≤ 9223372036854775807) (hT : Tab w) :
  Calls Tryz.prog 8 #[.slice A0 n0 cc0, .slice A1 n1 cc1, .int .i64 x, .int .i64 y, .int .i64 u, .int .i64 v, .int .i64 k] w fun e w' => e = .returned (.bool true) ∧ Below w.heap.size w w' := by
 have IX := yh (And.intro hx0 hx1); clear hx0 hx1
 have IY := yh (And.intro hy0 hy1); clear hy0 hy1
 have IU := yh (And.intro hu0 hu1); clear hu0 hu1
 have IV := yh (And.intro hv0 hv1); clear hv0 hv1
 have IK := yh (And.intro hk0 hk1); clear hk0 hk1
 have HI0 := yh hi0; clear hi0
 have HI1 := yh hi1; clear hi1
 have HT := yh hT; clear hT
 obtain ⟨ps, hps⟩ : ∃ ps, polyQ xs0 = ps := ⟨_, rfl⟩
 obtain ⟨n, hn⟩ : ∃ n, ps.length = n := ⟨_, rfl⟩
 obtain ⟨rs, hrs⟩ : ∃ ps, polyQ xs1 = ps := ⟨_, rfl⟩
 obtain ⟨m, hm⟩ : ∃ n, rs.length = n := ⟨_, rfl⟩
 obtain ⟨wx, hwx⟩ : ∃ z, ratMq x = z := ⟨_, rfl⟩
 obtain ⟨wy, hwy⟩ : ∃ z, ratMq y = z := ⟨_, rfl⟩
 obtain ⟨gx, hgx⟩ : ∃ z, ratMq u = z := ⟨_, rfl⟩
 obtain ⟨gy, hgy⟩ : ∃ z, ratMq v = z := ⟨_, rfl⟩
 obtain ⟨j, hj⟩ : ∃ j, belowN k 9 = j := ⟨_, rfl⟩
 obtain ⟨t8, ht8⟩ : ∃ z, ((j : Int) : Rat) / ((8 : Int) : Rat) = z := ⟨_, rfl⟩
 obtain ⟨bx, hbx⟩ : ∃ z, wx * t8 = z := ⟨_, rfl⟩
 obtain ⟨by_, hby⟩ : ∃ z, wy * t8 = z := ⟨_, rfl⟩
 obtain ⟨qs, hqs⟩ : ∃ qs, mvP (cosT false 0) (sinT 0) gx gy rs = qs := ⟨_, rfl⟩
 obtain ⟨cs, hcs⟩ : ∃ qs, mvP (cosT false 0) (sinT 0) bx by_ ps = qs := ⟨_, rfl⟩
 have hpl := polyQ_len xs0
 rw [hps, hn] at hpl
 have hn3 := hpl.1
 have hn5 := hpl.2
 have hrl := polyQ_len xs1
 rw [hrs, hm] at hrl
 have hm3 := hrl.1
 have hm5 := hrl.2
 have HZP : Hid (Pz 2 ps) := yh (by rw [← hps]; exact polyQ_z xs0)
 have HCV : Hid (Cvx ps) := yh (by rw [← hps]; exact polyQ_cvx xs0)
 have HZR : Hid (Pz 2 rs) := yh (by rw [← hrs]; exact polyQ_z xs1)
 have HCR : Hid (Cvx rs) := yh (by rw [← hrs]; exact polyQ_cvx xs1)
 have HZWX : Hid (Rz 2 wx) := yh (by rw [← hwx]; exact (ratMq_small _).rz.more (by omega))
 have HZWY : Hid (Rz 2 wy) := yh (by rw [← hwy]; exact (ratMq_small _).rz.more (by omega))
 have HZGX : Hid (Rz 2 gx) := yh (by rw [← hgx]; exact (ratMq_small _).rz.more (by omega))
 have HZGY : Hid (Rz 2 gy) := yh (by rw [← hgy]; exact (ratMq_small _).rz.more (by omega))
 have hj9 : j < 9 := by rw [← hj]; exact belowN_lt k (by omega)
 have HZT8 : Hid (Rz 4 t8) := yh (by rw [← ht8]; exact Rz.div (k := 2) (l := 2) (Rz.lit rfl (by omega)) (Rz.lit rfl (by decide)) (by decide +kernel))
 have HT01 : Hid (0 ≤ t8 ∧ t8 ≤ 1) := yh (by
  rw [← ht8]
  have e8 : ((8 : Int) : Rat) = 8 := rfl
  have h1 : ((j : Int) : Rat) / 8 * 8 = ((j : Int) : Rat) := Rat.div_mul_cancel (by decide +kernel)
  have h2 : (0 : Rat) ≤ ((j : Int) : Rat) := by exact_mod_cast (Int.natCast_nonneg j)
  have h3 : ((j : Int) : Rat) ≤ 8 := by
   have : (j : Int) ≤ 8 := by omega
   exact_mod_cast this
  rw [e8]
  grind)
 have HZBX : Hid (Rz 6 bx) := yh (by rw [← hbx]; exact (HZWX.out.mul HZT8.out).more (by omega))
 have HZBY : Hid (Rz 6 by_) := yh (by rw [← hby]; exact (HZWY.out.mul HZT8.out).more (by omega))
 have HQL : Hid (qs.length = m) := yh (by rw [← hqs, mvP_len]; exact hm)
 have HCL : Hid (cs.length = n) := yh (by rw [← hcs, mvP_len]; exact hn)
 have HZQ : Hid (Pz 231 qs) := yh (by
  rw [← hqs]
  intro p hp
  have h9 := mvP_z (k := 2) (ha := false) (ps := rs) HZGX.out HZGY.out (Rz.zero2.more (by omega)) HZR.out p hp
  exact ⟨h9.1.more (by omega), h9.2.more (by omega)⟩)
 have HZC : Hid (Pz 600 cs) := yh (by
  rw [← hcs]
  intro p hp
  have h9 := mvP_z (k := 6) (ha := false) (ps := ps) HZBX.out HZBY.out (Rz.zero2.more (by omega)) (fun p hp => ⟨(HZP.out p hp).1.more (by omega), (HZP.out p hp).2.more (by omega)⟩) p hp
  exact ⟨h9.1.more (by omega), h9.2.more (by omega)⟩)
 have HCQ : Hid (3 ≤ m ∧ m ≤ 64 ∧ Cvx qs) := yh ⟨by omega, by omega, by rw [← hqs]; exact cvx_z HCR.out⟩
 have HCC : Hid (3 ≤ n ∧ n ≤ 64 ∧ Cvx cs) := yh ⟨by omega, by omega, by rw [← hcs]; exact cvx_z HCV.out⟩
 have HCS : Hid (∀ i, i < n → px cs i = px ps i + wx * t8 ∧ py cs i = py ps i + wy * t8) := yh (fun i hi => by
  rw [← hcs, hbx, hby]; exact mv_px (by omega))
 obtain ⟨mt, hmt⟩ : ∃ z, meetB cs qs = z := ⟨_, rfl⟩
 obtain ⟨nr, hnr⟩ : ∃ z, sqQ cs qs = z := ⟨_, rfl⟩
 have HZNR : Hid (Rz 100000 nr) := yh (by rw [← hnr]; exact (sqQ_rz (k := 600) HZC.out (fun p hp => ⟨(HZQ.out p hp).1.more (by omega), (HZQ.out p hp).2.more (by omega)⟩) (by rw [HCL.out]; omega) (by rw [HQL.out]; omega)).more (by omega))
 obtain ⟨ar, har⟩ : ∃ z, areaQ ps = z := ⟨_, rfl⟩
 have HZAR : Hid (Rz 1000000000000 ar) := yh (by rw [← har]; exact areaQ_rz HZP.out (by omega) hn (by omega))
 -- the boxes
 have rz_a := fun (i : Nat) (hi : i < n) => (And.intro (HZC.out.x (lt_of_pts HCL.out hi)) (HZC.out.y (lt_of_pts HCL.out hi)))
 have rz_b := fun (i : Nat) (hi : i < m) => (And.intro (HZQ.out.x (lt_of_pts HQL.out hi)) (HZQ.out.y (lt_of_pts HQL.out hi)))
 obtain ⟨a0, ha0⟩ : ∃ z, mnF (px cs) (n - 1) = z := ⟨_, rfl⟩
 have Z_a0 := yh (show Rz 600 a0 from ha0 ▸ (mnF_rz (n := n) (fun i hi => (rz_a i hi).1) _ (by omega)).more (by omega))
 obtain ⟨a1, ha1⟩ : ∃ z, mnF (py cs) (n - 1) = z := ⟨_, rfl⟩
 have Z_a1 := yh (show Rz 600 a1 from ha1 ▸ (mnF_rz (n := n) (fun i hi => (rz_a i hi).2) _ (by omega)).more (by omega))
 obtain ⟨a2, ha2⟩ : ∃ z, mxF (px cs) (n - 1) = z := ⟨_, rfl⟩
 have Z_a2 := yh (show Rz 600 a2 from ha2 ▸ (mxF_rz (n := n) (fun i hi => (rz_a i hi).1) _ (by omega)).more (by omega))
 obtain ⟨a3, ha3⟩ : ∃ z, mxF (py cs) (n - 1) = z := ⟨_, rfl⟩
 have Z_a3 := yh (show Rz 600 a3 from ha3 ▸ (mxF_rz (n := n) (fun i hi => (rz_a i hi).2) _ (by omega)).more (by omega))
 obtain ⟨b0, hb0⟩ : ∃ z, mnF (px qs) (m - 1) = z := ⟨_, rfl⟩
 have Z_b0 := yh (show Rz 600 b0 from hb0 ▸ (mnF_rz (n := m) (fun i hi => (rz_b i hi).1) _ (by omega)).more (by omega))
 obtain ⟨b1, hb1⟩ : ∃ z, mnF (py qs) (m - 1) = z := ⟨_, rfl⟩
 have Z_b1 := yh (show Rz 600 b1 from hb1 ▸ (mnF_rz (n := m) (fun i hi => (rz_b i hi).2) _ (by omega)).more (by omega))
 obtain ⟨b2, hb2⟩ : ∃ z, mxF (px qs) (m - 1) = z := ⟨_, rfl⟩
 have Z_b2 := yh (show Rz 600 b2 from hb2 ▸ (mxF_rz (n := m) (fun i hi => (rz_b i hi).1) _ (by omega)).more (by omega))
 obtain ⟨b3, hb3⟩ : ∃ z, mxF (py qs) (m - 1) = z := ⟨_, rfl⟩
 have Z_b3 := yh (show Rz 600 b3 from hb3 ▸ (mxF_rz (n := m) (fun i hi => (rz_b i hi).2) _ (by omega)).more (by omega))
 have HO : Hid ((a0 ≤ a2 ∧ a1 ≤ a3) ∧ (b0 ≤ b2 ∧ b1 ≤ b3) ∧ (mt = true → a0 ≤ b2 ∧ b0 ≤ a2 ∧ a1 ≤ b3 ∧ b1 ≤ a3)) := yh ⟨by rw [← ha0, ← ha1, ← ha2, ← ha3]; exact box_ord, by rw [← hb0, ← hb1, ← hb2, ← hb3]; exact box_ord, fun hmm => by
  have bm1 := box_meet HCC.out.2.2 HCQ.out.2.2 (by rw [HCL.out]; omega) (by rw [HQL.out]; omega) (hmt.trans hmm)
  have bm2 := box_meet HCQ.out.2.2 HCC.out.2.2 (by rw [HQL.out]; omega) (by rw [HCL.out]; omega) (by rw [meet_comm]; exact hmt.trans hmm)
  rw [HCL.out, HQL.out, ha0, ha1, hb2, hb3] at bm1
  rw [HCL.out, HQL.out, hb0, hb1, ha2, ha3] at bm2
  exact ⟨bm1.1, bm2.1, bm1.2, bm2.2⟩⟩
 have HBA := yh (show mnF (px cs) (n - 1) = a0 ∧ mnF (py cs) (n - 1) = a1 ∧ mxF (px cs) (n - 1) = a2 ∧ mxF (py cs) (n - 1) = a3 from ⟨ha0, ha1, ha2, ha3⟩)
 have HBB := yh (show mnF (px qs) (m - 1) = b0 ∧ mnF (py qs) (m - 1) = b1 ∧ mxF (px qs) (m - 1) = b2 ∧ mxF (py qs) (m - 1) = b3 from ⟨hb0, hb1, hb2, hb3⟩)
 clear ha0 ha1 ha2 ha3 hb0 hb1 hb2 hb3 rz_a rz_b hpl hrl
 have HL := yh hn; clear hn
 have HLR := yh hm; clear hm
 have HPS := yh hps; clear hps
 have HRS := yh hrs; clear hrs
 have HWX := yh hwx; clear hwx
 have HWY := yh hwy; clear hwy
 have HGX := yh hgx; clear hgx
 have HGY := yh hgy; clear hgy
 have HJ := yh hj; clear hj
 have HT8 := yh ht8; clear ht8
 have HBX := yh hbx; clear hbx
 have HBY := yh hby; clear hby
 have HQS := yh hqs; clear hqs
 have HCSQ := yh hcs; clear hcs
 have HMT := yh hmt; clear hmt
 have HNR := yh hnr; clear hnr
 have HAR := yh har; clear har
 have HS0 : Hid (St w [] w) := yh St.start
 go_enter Tryz.func8, Tryz.ntmps8
 go_upto_region 0 with fail
 refine rgT [] HS0.out ?_
 refine pU ?_
 refine dnH fun _ HS1=>?_
 clear HS0
 go_upto_region 1 with fail
 refine rgT [] HS1.out ?_
 refine cX rfl rfl (hbegun_q HT.out) ?_
 refine pU ?_
 refine dnH fun _ HS2=>?_
 clear HS1
 go_upto_region 3 with fail
 refine rgT [1000001] HS2.out ?_
 refine pU ?_
 refine Seq.callFresh (n := some n) (x := (29, PC ps)) rfl rfl rfl rfl (by kernel_rfl) (fun w' h' => poly_G HI0.out HPS.out HL.out w' h'.st) ?_
 intro gp _ _ hgp
 refine nZ ?_
 refine pU ?_
 refine cX rfl rfl (ratM_q HWX.out IX.out.1 IX.out.2) ?_
 refine pU ?_
 refine cX rfl rfl (ratM_q HWY.out IY.out.1 IY.out.2) ?_
 refine pV (.agg (VC wx wy)) (fun w => bld_Vec rfl rfl rfl w) ?_
 refine aL6 ?_
 intro b16 _ _ hb16
 obtain ⟨m1, m2, hb16⟩ := Reg.ne2 hb16
 refine nZ ?_
 refine pU ?_
 refine sV (VC_one _ _) ?_
 refine Seq.done fun w2 hws => ?_
 have HS3 : Hid (St w [(b16, 29, VC wx wy), (gp, 29, PC ps)] w2) := yh (hws.q2 (p := b16) (q := gp))
 simp only [mk]
 clear hws HS2
 go_upto_region 4 with fail
 refine rgT [1000007, 1000008] HS3.out ?_
 refine pU ?_
 refine cX rfl rfl (ratM_q HGX.out IU.out.1 IU.out.2) ?_
 refine pU ?_
 refine cX rfl rfl (ratM_q HGY.out IV.out.1 IV.out.2) ?_
 refine pV (.agg (VC gx gy)) (fun w => bld_Vec rfl rfl rfl w) ?_
 refine pV (.agg (#[.bool (decide (Rat.num gx < 0)), .string (S (Rat.num gx).natAbs), .string (S (Rat.den gx)), .bool (decide (Rat.num gy < 0)), .string (S (Rat.num gy).natAbs), .string (S (Rat.den gy)), .bool false, .bool false, .string ⟨#[]⟩, .string ⟨#[]⟩])) (fun w => bld_Frame0 rfl rfl w) ?_
 refine pU ?_
 refine Seq.callFresh (n := some m) (x := (29, PC rs)) rfl rfl rfl rfl (by kernel_rfl) (fun w' h' => poly_G HI1.out HRS.out HLR.out w' h'.st) ?_
 intro gr _ _ hgr
 refine nZ ?_
 refine Seq.callFresh (n := some m) (x := (29, PC qs)) rfl rfl rfl rfl (by kernel_rfl) (fun w' h' => flistraw_q (k := 2) HT.out HZGX.out HZGY.out HZR.out HLR.out (by omega) HQS.out (by omega) gr w' h'.st (h'.reg _ _ _ (by repeat first|exact rS|refine rN ‹_› ?_)).2.2) ?_
 intro gq _ _ hgq
 obtain ⟨m3, m4, hgq⟩ := Reg.ne2 hgq
 refine nZ ?_
 refine pU ?_
 refine Seq.done fun w3 hws => ?_
 have HS4 : Hid (St w [(gq, 29, PC qs), (gr, 29, PC rs), (b16, 29, VC wx wy), (gp, 29, PC ps)] w3) := yh (hws.q2 (p := gq) (q := gr))
 simp only [mk]
 clear hws HS3
 go_upto_region 5 with fail
 refine wp_seq_textC 2 [] rfl rfl rfl (StR.no HS4.out) ?_
 refine pU ?_
 refine lV ?_
 refine dnH fun w4 HS5=>?_
 clear HS4
 refine ⟨wants_none rfl, ?_⟩
 refine w_call (vs := #[.slice (some ⟨gp, 0, none⟩) n n, .agg (VC wx wy)]) rfl rfl (by kernel_rfl) (along_R (k := 2) HT.out HZP.out HL.out ⟨hn3, hn5, HCV.out⟩ HZWX.out HZWY.out (by omega) (by omega) gp w4 HS5.out (HS5.out.blk (gp, 29, PC ps) (by repeat first|exact mC|apply mT)).2) fun e w5 h9 => ?_
 obtain ⟨L, hLp, hLm, hbw, hcase⟩ := h9
 have hpt3 : ∀ i, i < n → ps[i]? = some (px ps i, py ps i) := fun i hi => by
  have h8 : i < ps.length := by rw [HL.out]; exact hi
  rw [List.getElem?_eq_getElem h8, getD_pt h8]
 have hin3 : ∀ i, i < n → (px ps i, py ps i) ∈ L := fun i hi => (hLm _).2 (List.mem_append_left _ (List.mem_of_getElem? (hpt3 i hi)))
 have hin4 : ∀ i, i < n → (px ps i + wx, py ps i + wy) ∈ L := fun i hi => (hLm _).2 (List.mem_append_right _ (List.mem_map.2 ⟨(px ps i, py ps i), List.mem_of_getElem? (hpt3 i hi), rfl⟩))
 have hth : 3 ≤ L.length ∧ 3 ≤ (hullL L).length := hull_three hLp (hin3 0 (by omega)) (hin3 1 (by omega)) (hin3 2 (by omega)) (by
  have h8 := HCV.out 0 (by rw [HL.out]; omega) 2 (by omega) (by rw [HL.out]; omega)
  rw [HL.out, Nat.mod_eq_of_lt (show 0 + 1 < n by omega), Nat.mod_eq_of_lt (show 0 + 2 < n by omega)] at h8
  exact h8)
 have hlen10 : L.length ≤ 10 := by
  have h8 := nodup_len (lxl_nodup hLp) (fun x hx => (hLm x).1 hx)
  rw [List.length_append, List.length_map, HL.out] at h8
  omega
 rcases hcase with ⟨h8, _⟩ | ⟨h5, h6, gh, ch, Jh, hgh, he, hbh⟩
 ·exfalso; omega
 obtain ⟨H, hH⟩ : ∃ H, hullL L = H := ⟨_, rfl⟩
 obtain ⟨nh, hnh⟩ : ∃ nh, H.length = nh := ⟨_, rfl⟩
 have hnh10 : nh ≤ 10 := by have := hull_len hLp (by omega); rw [hH, hnh] at this; omega
 have HHL : Hid (3 ≤ nh ∧ nh ≤ 64 ∧ Cvx H) := yh ⟨by rw [← hnh, ← hH]; exact h6, by omega, by rw [← hH]; exact hull_cvx hLp (by omega)⟩
 have HHL16 : Hid (3 ≤ nh ∧ nh ≤ 16 ∧ Cvx H) := yh ⟨HHL.out.1, by omega, HHL.out.2.2⟩
 have HHZ : Hid (Pz 20 H) := yh (by
  rw [← hH]
  intro p hp
  have h8 := (hLm p).1 (hull_sub hLp (by omega) p hp)
  rcases List.mem_append.1 h8 with h8 | h8
  ·exact ⟨(HZP.out p h8).1.more (by omega), (HZP.out p h8).2.more (by omega)⟩
  ·obtain ⟨q, hq, rfl⟩ := List.mem_map.1 h8
   exact ⟨((HZP.out q hq).1.add HZWX.out).more (by omega), ((HZP.out q hq).2.add HZWY.out).more (by omega)⟩)
 have hha : ∀ i, i < ps.length → hasB H (px ps i) (py ps i) = true := fun i hi => by
  rw [← hH]
  exact hull_has hLp (by omega) (hin3 i (by rw [← HL.out]; exact hi))
 have hhc : ∀ i, i < cs.length → hasB H (px cs i) (py cs i) = true := fun i hi => by
  have hi' : i < n := by rw [← HCL.out]; exact hi
  rw [← hH, (HCS.out i hi').1, (HCS.out i hi').2]
  exact has_between (hull_has hLp (by omega) (hin3 i hi')) (hull_has hLp (by omega) (hin4 i hi')) HT01.out.1 HT01.out.2
 obtain ⟨fr, hfr⟩ : ∃ z, sqQ H qs = z := ⟨_, rfl⟩
 obtain ⟨ht, hht⟩ : ∃ z, meetB H qs = z := ⟨_, rfl⟩
 obtain ⟨ah, hah⟩ : ∃ z, areaQ H = z := ⟨_, rfl⟩
 have HNH := yh hnh
 have HZFR : Hid (Rz 100000 fr) := yh (by rw [← hfr]; exact (sqQ_rz (k := 231) (fun p hp => ⟨(HHZ.out p hp).1.more (by omega), (HHZ.out p hp).2.more (by omega)⟩) HZQ.out (by rw [HNH.out]; have := HHL.out.1; omega) (by rw [HQL.out]; omega)).more (by omega))
 have HZAH : Hid (Rz 1000000000000 ah) := yh (by rw [← hah]; exact areaQ_rz16 HHZ.out (by omega) hnh (by omega))
 have hle1 : fr ≤ nr := by
  rw [← hfr, ← HNR.out]
  exact in_far HCC.out.2.2 HHL.out.2.2 HCQ.out.2.2 (by rw [HCL.out]; omega) (by rw [hnh]; exact HHL.out.1) (by rw [HQL.out]; omega) hhc
 have hle2 : ar ≤ ah := by
  rw [← hah, ← HAR.out]
  exact area_le HCV.out HHL.out.2.2 (by rw [HL.out]; omega) (by rw [hnh]; exact HHL.out.1) hha
 have HMH : Hid (mt = true → ht = true) := yh (fun h8 => by
  cases h7 : ht with
  | true => rfl
  | false =>
    have := in_meets HCC.out.2.2 HHL.out.2.2 HCQ.out.2.2 (by rw [HCL.out]; omega) (by rw [hnh]; exact HHL.out.1) (by rw [HQL.out]; omega) hhc (hht.trans h7)
    rw [HMT.out, h8] at this
    cases this)
 obtain ⟨v1, hv1, r1⟩ : ∃ z, cmpQ fr nr = z ∧ decide (z ≤ 0) = true := ⟨_, rfl, decide_eq_true (cmp_le hle1)⟩
 obtain ⟨v2, hv2, r2⟩ : ∃ z, cmpQ ar ah = z ∧ decide (z ≤ 0) = true := ⟨_, rfl, decide_eq_true (cmp_le hle2)⟩
 have HV1 := yh hv1; clear hv1 hle1
 have HV2 := yh hv2; clear hv2 hle2
 have HFR := yh hfr; clear hfr
 have HHT := yh hht; clear hht
 have HAH := yh hah; clear hah
 rw [hH, hnh] at he
 rw [hH] at hbh
 have HS6 : Hid (St w [(gh, 29, PX Jh H), (gq, 29, PC qs), (gr, 29, PC rs), (b16, 29, VC wx wy), (gp, 29, PC ps)] w5) := yh (St.cons (HS5.out.next hbw) (Nat.le_trans HS5.out.below.size hgh) (fun e he9 e9 => by have := (HS5.out.blk e he9).2.lt; omega) hbh)
 clear hLp hLm hbw hpt3 hin3 hin4 hth hlen10 h5 h6 hgh hbh hH hnh hnh10 hha hhc HS5
 refine ⟨_, he, ?_⟩
 clear he
 simp only [Act.put, List.setIfInBounds_toArray, List.set_cons_zero, List.set_cons_succ]
 refine ⟨wants_none rfl, w_mov rfl ?_⟩
 simp only [Act.eval, Act.put, List.setIfInBounds_toArray, List.set_cons_zero, List.set_cons_succ]
 refine ⟨wants_none rfl, w_ext (vs := #[.slice (some ⟨gh, 0, none⟩) nh ch, .int .i64 0]) rfl rfl rfl ?_⟩
 simp only [Act.eval, Act.put, List.setIfInBounds_toArray, List.set_cons_zero, List.set_cons_succ]
 refine ⟨wants_none rfl, w_ext (vs := #[.slice (some ⟨gh, 0, none⟩) nh ch, .int .i64 0]) rfl rfl rfl ?_⟩
 simp only [Act.eval, Act.put, List.setIfInBounds_toArray, List.set_cons_zero, List.set_cons_succ]
 refine ⟨wants_none rfl, st_asg rfl ?_⟩
 simp only [Act.eval, Act.put, List.setIfInBounds_toArray, List.set_cons_zero, List.set_cons_succ]
 refine ⟨wants_none rfl, st_asg rfl ?_⟩
 unfold chainW
 simp only [Act.eval, Act.put, List.setIfInBounds_toArray, List.set_cons_zero, List.set_cons_succ]
 go_upto_region 6 with fail
 refine rgT [] HS6.out ?_
 refine pU ?_
 refine cX rfl rfl (below_G (n := 9) IK.out ⟨by omega, by omega⟩ HJ.out) ?_
 refine cX rfl rfl (make_q (m := (j : Int)) (n := 8) HT.out (by omega) (by omega) (by omega) (by omega) (by decide) HT8.out) ?_
 refine pU ?_
 refine pV (.agg (RC t8)) (fun w => rfl) ?_
 refine pV (.int .i64 0) (fun w => rfl) ?_
 refine aL3 ?_
 intro b20 _ _ hb20
 refine nZ ?_
 refine sV (RC_one _) ?_
 refine pU ?_
 refine dh1 b20 fun _ HS7=>?_
 clear HS6
 go_upto_region 7 with fail
 refine rgT [1000005] HS7.out ?_
 iterate 2 refine lV ?_
 refine cX rfl rfl (scale_q (k := 4) HT.out (zm HZWX) (zm HZWY) HZT8.out HBX.out HBY.out (by omega)) ?_
 refine pV (.agg (#[.bool (decide (Rat.num bx < 0)), .string (S (Rat.num bx).natAbs), .string (S (Rat.den bx)), .bool (decide (Rat.num by_ < 0)), .string (S (Rat.num by_).natAbs), .string (S (Rat.den by_)), .bool false, .bool false, .string ⟨#[]⟩, .string ⟨#[]⟩])) (fun w => bld_Frame0 rfl rfl w) ?_
 refine pU ?_
 refine Seq.callFresh (n := some n) (x := (29, PC cs)) rfl rfl rfl rfl (by kernel_rfl) (fun w' h' => flistraw_q (k := 6) HT.out HZBX.out HZBY.out (fun p hp => ⟨(HZP.out p hp).1.more (by omega), (HZP.out p hp).2.more (by omega)⟩) HL.out (by omega) HCSQ.out (by omega) gp w' h'.st (h'.st.blk (gp, 29, PC ps) (by repeat first|exact mC|apply mT)).2) ?_
 intro gc _ _ hgc
 refine nZ ?_
 refine pU ?_
 refine Seq.done fun w7 hws => ?_
 have HS8 := yh (hws.q1 (p := gc))
 simp only [mk]
 clear hws HS7
 go_upto_region 8 with fail
 refine rgT [] HS8.out ?_
 iterate 2 refine pU ?_
 refine cX rfl rfl (fun w' h' => sq_x (k := 600) (J1 := Jh) (J2 := []) HT.out (fun p hp => ⟨(HHZ.out p hp).1.more (by omega), (HHZ.out p hp).2.more (by omega)⟩) HNH.out HHL.out (fun p hp => ⟨(HZQ.out p hp).1.more (by omega), (HZQ.out p hp).2.more (by omega)⟩) HQL.out HCQ.out HFR.out (by omega) gh gq w' h' (h'.blk (gh, 29, PX Jh H) (by repeat first|exact mC|apply mT)).2 (by rw [PX_nil]; exact (h'.blk (gq, 29, PC qs) (by repeat first|exact mC|apply mT)).2)) ?_
 refine pU ?_
 refine pV (.agg (RC fr)) (fun w => rfl) ?_
 refine pV (.int .i64 0) (fun w => rfl) ?_
 refine aL3 ?_
 intro b23 _ _ hb23
 refine nZ ?_
 refine sV (RC_one _) ?_
 refine pU ?_
 refine dh1 b23 fun _ HS9=>?_
 clear HS8
 go_upto_region 9 with fail
 refine rgT [] HS9.out ?_
 iterate 2 refine pU ?_
 refine cX rfl rfl (fun w' h' => sq_x (k := 600) (J1 := []) (J2 := []) HT.out HZC.out HCL.out HCC.out (fun p hp => ⟨(HZQ.out p hp).1.more (by omega), (HZQ.out p hp).2.more (by omega)⟩) HQL.out HCQ.out HNR.out (by omega) gc gq w' h' (by rw [PX_nil]; exact (h'.blk (gc, 29, PC cs) (by repeat first|exact mC|apply mT)).2) (by rw [PX_nil]; exact (h'.blk (gq, 29, PC qs) (by repeat first|exact mC|apply mT)).2)) ?_
 refine pU ?_
 refine pV (.agg (RC nr)) (fun w => rfl) ?_
 refine pV (.int .i64 0) (fun w => rfl) ?_
 refine aL3 ?_
 intro b25 _ _ hb25
 refine nZ ?_
 refine sV (RC_one _) ?_
 refine pU ?_
 refine dh1 b25 fun _ HS10=>?_
 clear HS9
 go_upto_region 10 with fail
 refine rgT [] HS10.out ?_
 iterate 2 refine pU ?_
 refine cX rfl rfl (fun w' h' => meet_x (k := 600) (J1 := []) (J2 := []) HT.out HZC.out HCL.out HCC.out (fun p hp => ⟨(HZQ.out p hp).1.more (by omega), (HZQ.out p hp).2.more (by omega)⟩) HQL.out HCQ.out HMT.out (by omega) gc gq w' h' (by rw [PX_nil]; exact (h'.blk (gc, 29, PC cs) (by repeat first|exact mC|apply mT)).2) (by rw [PX_nil]; exact (h'.blk (gq, 29, PC qs) (by repeat first|exact mC|apply mT)).2)) ?_
 refine pU ?_
 refine pV (.bool mt) (fun w => rfl) ?_
 refine pV (.int .i64 0) (fun w => rfl) ?_
 iterate 2 refine pU ?_
 refine dnH fun _ HS11=>?_
 clear HS10
 go_upto_region 11 with fail
 refine rgT [] HS11.out ?_
 iterate 2 refine pU ?_
 refine cX rfl rfl (fun w' h' => meet_x (k := 600) (J1 := Jh) (J2 := []) HT.out (fun p hp => ⟨(HHZ.out p hp).1.more (by omega), (HHZ.out p hp).2.more (by omega)⟩) HNH.out HHL.out (fun p hp => ⟨(HZQ.out p hp).1.more (by omega), (HZQ.out p hp).2.more (by omega)⟩) HQL.out HCQ.out HHT.out (by omega) gh gq w' h' (h'.blk (gh, 29, PX Jh H) (by repeat first|exact mC|apply mT)).2 (by rw [PX_nil]; exact (h'.blk (gq, 29, PC qs) (by repeat first|exact mC|apply mT)).2)) ?_
 refine pU ?_
 refine pV (.bool ht) (fun w => rfl) ?_
 refine pV (.int .i64 0) (fun w => rfl) ?_
 iterate 2 refine pU ?_
 refine dnH fun _ HS12=>?_
 clear HS11
 go_upto_region 12 with fail
 refine rgT [] HS12.out ?_
 iterate 6 refine pU ?_
 refine cX rfl rfl (fun w' h' => convex_x (k := 20) HT.out HHZ.out HNH.out HHL.out (by omega) gh w' h' (h'.blk (gh, 29, PX Jh H) (by repeat first|exact mC|apply mT)).2) ?_
 refine Seq.slice (n := 6) (e := 34) (cs := #[.int .i64 0, .int .i64 0, .int .i64 0, .int .i64 0, .int .i64 0, .int .i64 0]) rfl rfl (by intro w; go_simp; try first | with_reducible rfl | rfl) ?_
 intro ge _ _ hge
 refine nZ ?_
 refine pV (.int .i64 6) (by intro w; go_simp; try first | with_reducible rfl | rfl) ?_
 refine pU ?_
 refine dh1 ge fun _ HS13=>?_
 clear HS12
 go_wp2_with fail
 refine wp_loop_rounds 7 ?_
 rw [rounds_succ]
 go_upto_region 13 with fail
 refine rgT [] HS13.out ?_
 refine pW ?_
 refine dnH fun _ HS14=>?_
 clear HS13
 go_upto_region 14 with fail
 refine rgT [] HS14.out ?_
 refine pV (.pointer (some ⟨ge, 0, none⟩)) (by intro w; go_simp; try first | with_reducible rfl | rfl) ?_
 refine lC (.int .i64 0) ?_
 refine pU ?_
 refine dnH fun _ HS15=>?_
 clear HS14
 go_upto_region 15 with fail
 refine rgT [] HS15.out ?_
 iterate 2 refine pW ?_
 refine dnH fun _ HS16=>?_
 clear HS15
 go_upto_region 17 with fail
 refine rgT [] HS16.out ?_
 refine pV (.int .i64 1) (by intro w; go_simp; try first | with_reducible rfl | rfl) ?_
 refine pU ?_
 refine dnH fun _ HS17=>?_
 clear HS16
 go_wp2_with fail
 rw [rounds_succ]
 go_upto_region 13 with fail
 refine rgT [] HS17.out ?_
 refine pW ?_
 refine dnH fun _ HS18=>?_
 clear HS17
 go_upto_region 14 with fail
 refine rgT [] HS18.out ?_
 refine pV (.pointer (some ⟨ge, 1, none⟩)) (by intro w; go_simp; try first | with_reducible rfl | rfl) ?_
 refine lC (.int .i64 0) ?_
 refine pU ?_
 refine dnH fun _ HS19=>?_
 clear HS18
 go_upto_region 15 with fail
 refine rgT [] HS19.out ?_
 iterate 2 refine pW ?_
 refine dnH fun _ HS20=>?_
 clear HS19
 go_upto_region 17 with fail
 refine rgT [] HS20.out ?_
 refine pV (.int .i64 2) (by intro w; go_simp; try first | with_reducible rfl | rfl) ?_
 refine pU ?_
 refine dnH fun _ HS21=>?_
 clear HS20
 go_wp2_with fail
 rw [rounds_succ]
 go_upto_region 13 with fail
 refine rgT [] HS21.out ?_
 refine pW ?_
 refine dnH fun _ HS22=>?_
 clear HS21
 go_upto_region 14 with fail
 refine rgT [] HS22.out ?_
 refine pV (.pointer (some ⟨ge, 2, none⟩)) (by intro w; go_simp; try first | with_reducible rfl | rfl) ?_
 refine lC (.int .i64 0) ?_
 refine pU ?_
 refine dnH fun _ HS23=>?_
 clear HS22
 go_upto_region 15 with fail
 refine rgT [] HS23.out ?_
 iterate 2 refine pW ?_
 refine dnH fun _ HS24=>?_
 clear HS23
 go_upto_region 17 with fail
 refine rgT [] HS24.out ?_
 refine pV (.int .i64 3) (by intro w; go_simp; try first | with_reducible rfl | rfl) ?_
 refine pU ?_
 refine dnH fun _ HS25=>?_
 clear HS24
 go_wp2_with fail
 rw [rounds_succ]
 go_upto_region 13 with fail
 refine rgT [] HS25.out ?_
 refine pW ?_
 refine dnH fun _ HS26=>?_
 clear HS25
 go_upto_region 14 with fail
 refine rgT [] HS26.out ?_
 refine pV (.pointer (some ⟨ge, 3, none⟩)) (by intro w; go_simp; try first | with_reducible rfl | rfl) ?_
 refine lC (.int .i64 0) ?_
 refine pU ?_
 refine dnH fun _ HS27=>?_
 clear HS26
 go_upto_region 15 with fail
 refine rgT [] HS27.out ?_
 iterate 2 refine pW ?_
 refine dnH fun _ HS28=>?_
 clear HS27
 go_upto_region 17 with fail
 refine rgT [] HS28.out ?_
 refine pV (.int .i64 4) (by intro w; go_simp; try first | with_reducible rfl | rfl) ?_
 refine pU ?_
 refine dnH fun _ HS29=>?_
 clear HS28
 go_wp2_with fail
 rw [rounds_succ]
 go_upto_region 13 with fail
 refine rgT [] HS29.out ?_
 refine pW ?_
 refine dnH fun _ HS30=>?_
 clear HS29
 go_upto_region 14 with fail
 refine rgT [] HS30.out ?_
 refine pV (.pointer (some ⟨ge, 4, none⟩)) (by intro w; go_simp; try first | with_reducible rfl | rfl) ?_
 refine lC (.int .i64 0) ?_
 refine pU ?_
 refine dnH fun _ HS31=>?_
 clear HS30
 go_upto_region 15 with fail
 refine rgT [] HS31.out ?_
 iterate 2 refine pW ?_
 refine dnH fun _ HS32=>?_
 clear HS31
 go_upto_region 17 with fail
 refine rgT [] HS32.out ?_
 refine pV (.int .i64 5) (by intro w; go_simp; try first | with_reducible rfl | rfl) ?_
 refine pU ?_
 refine dnH fun _ HS33=>?_
 clear HS32
 go_wp2_with fail
 rw [rounds_succ]
 go_upto_region 13 with fail
 refine rgT [] HS33.out ?_
 refine pW ?_
 refine dnH fun _ HS34=>?_
 clear HS33
 go_upto_region 14 with fail
 refine rgT [] HS34.out ?_
 refine pV (.pointer (some ⟨ge, 5, none⟩)) (by intro w; go_simp; try first | with_reducible rfl | rfl) ?_
 refine lC (.int .i64 0) ?_
 refine pU ?_
 refine dnH fun _ HS35=>?_
 clear HS34
 go_upto_region 15 with fail
 refine rgT [] HS35.out ?_
 iterate 2 refine pW ?_
 refine dnH fun _ HS36=>?_
 clear HS35
 go_upto_region 17 with fail
 refine rgT [] HS36.out ?_
 refine pV (.int .i64 6) (by intro w; go_simp; try first | with_reducible rfl | rfl) ?_
 refine pU ?_
 refine dnH fun _ HS37=>?_
 clear HS36
 go_wp2_with fail
 rw [rounds_succ]
 go_upto_region 13 with fail
 refine rgT [] HS37.out ?_
 refine pW ?_
 refine dnH fun _ HS=>?_
 clear HS37
 have HMH' := HMH.out
 go_upto_region 18 with fail
 refine rgT [] HS.out ?_
 iterate 2 refine lV ?_
 refine cX rfl rfl (cmp_q (k := 100000) HT.out HZFR.out HZNR.out HV1.out (by omega)) ?_
 refine pV (.bool true) (by intro w; go_simp <;> (first | (rw [r1]; done) | exact r1 | (simp [r1]; done))) ?_
 iterate 3 refine pU ?_
 cases mt with
 | true =>
   have e9 := HMH' rfl
   subst e9
   iterate 2 refine nW ?_
   iterate 6 refine pU ?_
   refine pU ?_
   refine cX rfl rfl (fun w' h' => box_G (k := 600) HT.out HZC.out HCL.out HCC.out HBA.out (by omega) gc w' h' (h'.blk (gc, 29, PC cs) (by repeat first|exact mC|apply mT)).2) ?_
   refine pU ?_
   refine cX rfl rfl (fun w' h' => box_G (k := 600) HT.out (fun p hp => ⟨(HZQ.out p hp).1.more (by omega), (HZQ.out p hp).2.more (by omega)⟩) HQL.out HCQ.out HBB.out (by omega) gq w' h' (h'.blk (gq, 29, PC qs) (by repeat first|exact mC|apply mT)).2) ?_
   refine cX rfl rfl (boxes_q (k := 600) HT.out Z_a0.out Z_a1.out Z_a2.out Z_a3.out Z_b0.out Z_b1.out Z_b2.out Z_b3.out HO.out.1 HO.out.2.1 (HO.out.2.2 rfl).1 (HO.out.2.2 rfl).2.1 (HO.out.2.2 rfl).2.2.1 (HO.out.2.2 rfl).2.2.2 (by omega)) ?_
   iterate 3 refine pU ?_
   refine pU ?_
   refine cX rfl rfl (fun w' h' => area_xG (J1 := []) (k := 2) HT.out HZP.out HL.out ⟨by omega, by omega, HCV.out⟩ HAR.out (by omega) gp w' h' (by rw [PX_nil]; exact (h'.blk (gp, 29, PC ps) (by repeat first|exact mC|apply mT)).2)) ?_
   refine pU ?_
   refine cX rfl rfl (fun w' h' => area_xG (k := 20) HT.out HHZ.out HNH.out HHL16.out HAH.out (by omega) gh w' h' (h'.blk (gh, 29, PX Jh H) (by repeat first|exact mC|apply mT)).2) ?_
   refine cX rfl rfl (cmp_q (k := 1000000000000) HT.out HZAR.out HZAH.out HV2.out (by omega)) ?_
   refine pV (.bool true) (by intro w; go_simp <;> (first | (rw [r2]; done) | exact r2 | (simp [r2]; done))) ?_
   iterate 2 refine pU ?_
   refine dnH fun wf HSE=>?_
   clear HS
   go_wp2_with fail
   go_ret
   exact ⟨rfl, HSE.out.below⟩
 | false =>
   cases ht with
   | true =>
     iterate 2 refine nW ?_
     iterate 6 refine pU ?_
     iterate 5 refine nW ?_
     iterate 3 refine pU ?_
     refine pU ?_
     refine cX rfl rfl (fun w' h' => area_xG (J1 := []) (k := 2) HT.out HZP.out HL.out ⟨by omega, by omega, HCV.out⟩ HAR.out (by omega) gp w' h' (by rw [PX_nil]; exact (h'.blk (gp, 29, PC ps) (by repeat first|exact mC|apply mT)).2)) ?_
     refine pU ?_
     refine cX rfl rfl (fun w' h' => area_xG (k := 20) HT.out HHZ.out HNH.out HHL16.out HAH.out (by omega) gh w' h' (h'.blk (gh, 29, PX Jh H) (by repeat first|exact mC|apply mT)).2) ?_
     refine cX rfl rfl (cmp_q (k := 1000000000000) HT.out HZAR.out HZAH.out HV2.out (by omega)) ?_
     refine pV (.bool true) (by intro w; go_simp <;> (first | (rw [r2]; done) | exact r2 | (simp [r2]; done))) ?_
     iterate 2 refine pU ?_
     refine dnH fun wf HSE=>?_
     clear HS
     go_wp2_with fail
     go_ret
     exact ⟨rfl, HSE.out.below⟩
   | false =>
     iterate 8 refine pU ?_
     iterate 5 refine nW ?_
     iterate 3 refine pU ?_
     refine pU ?_
     refine cX rfl rfl (fun w' h' => area_xG (J1 := []) (k := 2) HT.out HZP.out HL.out ⟨by omega, by omega, HCV.out⟩ HAR.out (by omega) gp w' h' (by rw [PX_nil]; exact (h'.blk (gp, 29, PC ps) (by repeat first|exact mC|apply mT)).2)) ?_
     refine pU ?_
     refine cX rfl rfl (fun w' h' => area_xG (k := 20) HT.out HHZ.out HNH.out HHL16.out HAH.out (by omega) gh w' h' (h'.blk (gh, 29, PX Jh H) (by repeat first|exact mC|apply mT)).2) ?_
     refine cX rfl rfl (cmp_q (k := 1000000000000) HT.out HZAR.out HZAH.out HV2.out (by omega)) ?_
     refine pV (.bool true) (by intro w; go_simp <;> (first | (rw [r2]; done) | exact r2 | (simp [r2]; done))) ?_
     iterate 2 refine pU ?_
     refine dnH fun _ HSE=>?_
     clear HS
     go_wp2_with fail
     go_ret
     exact ⟨rfl, HSE.out.below⟩
end Go.Proofs.YtmchjmflkaiakaaGreatDoor
