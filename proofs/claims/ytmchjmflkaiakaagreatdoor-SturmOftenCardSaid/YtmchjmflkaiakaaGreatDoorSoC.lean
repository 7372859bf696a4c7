/- gantkeep1.product: the product of two lists of numbers. -/
import Derived.Test.YtmchjmflkaiakaaGreatDoorStU
import Derived.Test.YtmchjmflkaiakaaGreatDoorStI
import Derived.Test.YtmchjmflkaiakaaGreatDoorRwC
import Derived.Deep.LoopGhost
import Derived.OwnWalk
set_option maxHeartbeats 4000000
set_option maxRecDepth 20000
namespace Go.Proofs.YtmchjmflkaiakaaGreatDoor
open Go.RowKit
set_option linter.unusedVariables false
set_option linter.unusedSimpArgs false
theorem RX_atZ {p : Nums} {k i : Nat} (hi : p.length = i) : (RX (zr (k + 1)) p).extract (3 * i) (3 * i + 3) = #[.bool false, .string ⟨#[]⟩, .string ⟨#[]⟩] := by
 subst hi
 apply Array.toList_inj.1
 rw [Array.toList_extract, List.extract_eq_take_drop, RX_list, zr_succ, List.drop_append, List.drop_of_length_le (by rw [fr_len]; omega), fr_len, Nat.sub_self, List.drop_zero, List.nil_append, show 3 * p.length + 3 - 3 * p.length = 3 by omega]
 rfl
theorem rawZN : RawT 2 0 false ⟨false, ⟨#[]⟩, ⟨#[]⟩⟩ := ⟨.inr ⟨rfl, rfl, .inl rfl⟩, Rz.zero2, Nat.zero_le _, Nat.zero_le _⟩
theorem zaddN_q {k : Nat} {x z : Rat} {W : World} {l : List Own} (hT : Tab W) (h1 : Rz k x) (hz : x = z) (hk0 : 2 ≤ k) (hk : k ≤ 1000000000000) (w : World) (h : St W l w) : Rt 49 #[.agg #[.bool false, .string ⟨#[]⟩, .string ⟨#[]⟩], .agg (RC x)] w (.agg (RC z)) := add_w (t1 := ⟨false, ⟨#[]⟩, ⟨#[]⟩⟩) (t2 := rt x) hT (rawZN.more hk0) (RawT.rc h1) ((Rat.zero_add x).trans hz) (by omega) w h
theorem all_z {k n m : Nat} {p q : Nums} (hm : q.length = m) (h1 : n ≤ 20) (h2 : m ≤ 20) (zp : Qz k p) (zq : Qz k q) (hk0 : 1 ≤ k) (hk : k ≤ 1000000) {i t : Nat} (hi : i ≤ n) (ht : t ≤ m) : Qz 1000000000 (rowN q (rx p i) i (prodN p q i) t) := by
 have h := row_z zp zq hk0 (i := i) (prod_z zp zq hk0 i) t
 rw [hm] at h
 refine h.mo ?_
 have a1 : m * (2 * k + 1) ≤ 20 * 2000001 := Nat.mul_le_mul h2 (by omega)
 have a2 : i * (m * (2 * k + 1)) ≤ 20 * (20 * 2000001) := Nat.mul_le_mul (by omega) a1
 have a3 : t * (2 * k + 1) ≤ 20 * 2000001 := Nat.mul_le_mul (by omega) (by omega)
 omega
theorem product_S {k n m c c2 : Nat} {A A2 : Option Addr} {p q : Nums} (w : World) (hA : RAt w A p) (hA2 : RAt w A2 q) (hn : p.length = n) (hm : q.length = m) (h1 : 1 ≤ n ∧ n ≤ 20) (h2 : 1 ≤ m ∧ m ≤ 20) (zp : Qz k p) (zq : Qz k q) (hk0 : 1 ≤ k) (hk : k ≤ 1000000) (hT : Tab w) :
  Calls Tryz.prog 30 #[.slice A n c, .slice A2 m c2] w fun e w' => RNew w (prodN p q n) e w' := by
 have HA := yh hA; clear hA
 have HA2 := yh hA2; clear hA2
 have HN := yh hn; clear hn
 have HM := yh hm; clear hm
 have HZ := yh zp; clear zp
 have HZQ := yh zq; clear zq
 have HT := yh hT; clear hT
 have HQ0 := yh (show 0 < q.length by rw [HM.out]; omega)
 obtain ⟨N, hN⟩ : ∃ N, N = n + m - 1 := ⟨_, rfl⟩
 have hN1 : N ≤ 39 := by omega
 have hlen : ∀ i, i ≤ n → (prodN p q i).length ≤ N := fun i hi => by rw [prod_len HQ0.out, HM.out]; split <;> omega
 have HLN := yh (show (prodN p q n).length = N by rw [prod_len HQ0.out, HM.out, if_neg (by omega)]; omega)
 obtain ⟨M, hM⟩ : ∃ M, M = n + m := ⟨_, rfl⟩
 have hwa : IntKind.i64.wrap ((n : Int) + (m : Int)) = (M : Int) := by rw [show (M : Int) = (n : Int) + (m : Int) by omega]; exact IntWalk.i64_in _ (by omega)
 have hwb : IntKind.i64.wrap ((M : Int) - 1) = (N : Int) := by rw [show (M : Int) - 1 = (N : Int) by omega]; exact IntWalk.i64_in _ (by omega)
 have HN9 := yh hN
 clear hN hM hlen
 have hmax : max (0 : Int) (N : Int) = (N : Int) := by omega
 have HS0 : Hid (St w [] w) := yh St.start
 go_enter Tryz.func30, Tryz.ntmps30
 go_upto_region 1 with fail
 refine rgT [] HS0.out ?_
 iterate 4 refine pU ?_
 refine pV (.int .i64 (M : Int)) (by intro w; go_simp <;> (first | (rw [hwa]; done) | exact hwa | (simp [hwa]; done))) ?_
 refine pV (.int .i64 (N : Int)) (by intro w; go_simp <;> (first | (rw [hwb]; done) | exact hwb | (simp [hwb]; done))) ?_
 refine pV (.int .i64 (N : Int)) (by intro w; go_simp <;> (first | (rw [hmax]; done) | exact hmax | (simp [hmax]; done))) ?_
 refine Seq.slice (n := N) (e := 27) (cs := RX (zr N) []) rfl rfl (fun w => mk_step rfl rfl rfl (madeQ_R N (by omega) w)) ?_
 intro g _ _ hg
 refine nZ ?_
 refine pU ?_
 refine Seq.done fun w1 hws => ?_
 have HS1 : Hid (St w [(g, 27, RX (zr (N - (prodN p q 0).length)) (prodN p q 0))] w1) := yh hws.q1
 clear hws HS0 hmax hwa hwb
 go_wp2_with fail
 go_loopg [20] n (fun kx s20 wr => ∃ i : Nat, kx = n - i ∧ s20 = .int .i64 (i : Int) ∧ i ≤ n ∧ Hid (St w [(g, 27, RX (zr (N - (prodN p q i).length)) (prodN p q i))] wr))
 case atStart => exact ⟨0, rfl, rfl, Nat.zero_le _, HS1⟩
 case round =>
  clear HS1
  obtain ⟨i, hgk, rfl, hile, HS2⟩ := hrel
  have HGK := yh hgk; clear hgk
  by_cases hin : i < n
  ·have HI := yh (show i < p.length by rw [HN.out]; omega)
   obtain ⟨g0, J, rfl, hB⟩ := HA.out.get HI.out
   have HB := yh hB; clear hB
   have hwi : IntKind.i64.wrap ((i : Int) + 1) = (i : Int) + 1 := IntWalk.i64_in _ (by omega)
   go_upto_region 4 with fail
   refine rgT [] HS2.out ?_
   refine pU ?_
   refine iX 3 i hin ?_
   refine lF HB.out (RC (rx p i)) (RX_room HI.out) (RX_at HI.out) ?_
   refine aL3 ?_
   intro b7 _ _ hb7
   refine nZ ?_
   refine pU ?_
   refine sV (RC_one _) ?_
   refine Seq.done fun w2 hws => ?_
   have HS3 := yh (hws.q1 (p := b7)).p1
   clear hws HS2
   go_upto_region 5 with fail
   refine rgT [] HS3.out ?_
   iterate 3 refine pU ?_
   refine Seq.done fun w3 hws => ?_
   have HS4 : Hid (St w [(g, 27, RX (zr (N - (rowN q (rx p i) i (prodN p q i) 0).length)) (rowN q (rx p i) i (prodN p q i) 0)), (b7, 27, RC (rx p i))] w3) := yh hws.st
   clear hws HS3
   go_wp2_with fail
   go_loopg [27] m (fun kx s27 wi => ∃ t : Nat, kx = m - t ∧ s27 = .int .i64 (t : Int) ∧ t ≤ m ∧ Hid (St w [(g, 27, RX (zr (N - (rowN q (rx p i) i (prodN p q i) t).length)) (rowN q (rx p i) i (prodN p q i) t)), (b7, 27, RC (rx p i))] wi))
   case atStart => exact ⟨0, rfl, rfl, Nat.zero_le _, HS4⟩
   case round =>
    clear HS4
    obtain ⟨t, hgk2, rfl, htle, HS5⟩ := hrel
    have HGK2 := yh hgk2; clear hgk2
    by_cases htm : t < m
    ·have HTQ := yh (show t < q.length by rw [HM.out]; omega)
     obtain ⟨g1, J1, rfl, hB1⟩ := HA2.out.get HTQ.out
     have HB1 := yh hB1; clear hB1
     have hwt : IntKind.i64.wrap ((t : Int) + 1) = (t : Int) + 1 := IntWalk.i64_in _ (by omega)
     obtain ⟨j, hj⟩ : ∃ j, j = i + t := ⟨_, rfl⟩
     have hwj : IntKind.i64.wrap ((i : Int) + (t : Int)) = (j : Int) := by rw [show (j : Int) = (i : Int) + (t : Int) by omega]; exact IntWalk.i64_in _ (by omega)
     have hjN : j < N := by have h9 := HN9.out; omega
     obtain ⟨pre, hpre⟩ : ∃ pre, rowN q (rx p i) i (prodN p q i) t = pre := ⟨_, rfl⟩
     have HPZ := yh (all_z HM.out h1.2 h2.2 HZ.out HZQ.out hk0 hk (show i ≤ n by omega) htle)
     have hjl := row_at (p := p) HQ0.out (i := i) HTQ.out
     obtain ⟨v, hv⟩ : ∃ v, rx p i * rx q t = v := ⟨_, rfl⟩
     have HV := yh hv
     have HVZ := yh (show Rz 2000000 v from hv ▸ ((rx_z HZ.out hk0 i).mul (rx_z HZQ.out hk0 t)).more (by omega))
     have HPI := yh (rx_z HZ.out hk0 i)
     have HQT := yh (rx_z HZQ.out hk0 t)
     have HNX : Hid (rowN q (rx p i) i (prodN p q i) (t + 1) = stp pre j v) := yh (by rw [← hpre, hj, ← hv]; rfl)
     rw [hpre] at HS5 HPZ hjl
     rw [← hj] at hjl
     clear hpre hv
     go_upto_region 7 with fail
     refine rgT [] HS5.out ?_
     refine pU ?_
     refine iX 3 t htm ?_
     refine lF HB1.out (RC (rx q t)) (RX_room HTQ.out) (RX_at HTQ.out) ?_
     refine aL3 ?_
     intro b9 _ _ hb9
     refine nZ ?_
     refine pU ?_
     refine sV (RC_one _) ?_
     refine Seq.done fun w4 hws => ?_
     have HS6 := yh (hws.q1 (p := b9)).p1
     clear hws HS5
     by_cases hjp : j < pre.length
     ·have HJP := yh hjp
      have HXJ := yh (show Rz 1000000000 (rx pre j) from rx_z HPZ.out (by omega) j)
      have HNX2 : Hid (rowN q (rx p i) i (prodN p q i) (t + 1) = pre.set j (rx pre j + v)) := yh (by rw [HNX.out]; unfold stp; rw [if_pos HJP.out])
      clear hjp hjl
      go_upto_region 8 with fail
      refine wS [18] (Reg.fin.put Reg.fin_no _ _) (StR.move (StR.no HS6.out)) ?_
      iterate 3 refine pU ?_
      refine pV (.int .i64 (j : Int)) (by intro w; go_simp <;> (first | (rw [hwj]; done) | exact hwj | (simp [hwj]; done))) ?_
      iterate 3 refine pU ?_
      refine pV (.int .i64 (j : Int)) (by intro w; go_simp <;> (first | (rw [hwj]; done) | exact hwj | (simp [hwj]; done))) ?_
      refine iX 3 j hjN ?_
      refine lG (RC (rx pre j)) (RX_room HJP.out) (RX_at HJP.out) ?_
      iterate 2 refine lV ?_
      refine cX rfl rfl (mul_q (k := k) HT.out HPI.out HQT.out HV.out (by omega)) ?_
      refine cX rfl rfl (add_q (k := 1000000000) HT.out HXJ.out (HVZ.out.more (by omega)) rfl (by omega)) ?_
      refine iX 3 j hjN ?_
      refine Seq.storeAt (v := .agg (RC (rx pre j + v))) rfl rfl rfl rfl rfl (by repeat first|exact rS|refine rN ‹_› ?_) (RX_room HJP.out) (by show _ = some 3; kernel_rfl) (RC_one _) (cs' := RX (zr (N - pre.length)) (pre.set j (rx pre j + v))) (RX_put HJP.out) (nZ ?_)
      refine Seq.done fun w5 hws => ?_
      have HS7 : Hid (St w [(g, 27, RX (zr (N - (rowN q (rx p i) i (prodN p q i) (t + 1)).length)) (rowN q (rx p i) i (prodN p q i) (t + 1))), (b7, 27, RC (rx p i))] w5) := yh (by
       rw [HNX2.out, List.length_set]
       exact (hws.q1 (p := g)).sub (.cons_cons _ (.cons _ (.refl _))))
      clear hws HS6
      go_wp2_with fail
      go_roundg (m - (t + 1))
      case measure => rw [HGK2.out]; omega
      case rel => exact ⟨t + 1, rfl, by go_num, by omega, HS7⟩
     ·have hpl : pre.length = j := by omega
      have HPL := yh hpl
      obtain ⟨kk, hkk⟩ : ∃ kk, N - pre.length = kk + 1 := ⟨N - pre.length - 1, by omega⟩
      have HKK := yh (show N - (pre.length + 1) = kk by omega)
      have HNX2 : Hid (rowN q (rx p i) i (prodN p q i) (t + 1) = pre ++ [v]) := yh (by rw [HNX.out]; unfold stp; rw [if_neg hjp])
      rw [hkk] at HS6
      clear hjp hjl hpl hkk
      go_upto_region 8 with fail
      refine wS [18] (Reg.fin.put Reg.fin_no _ _) (StR.move (StR.no HS6.out)) ?_
      iterate 3 refine pU ?_
      refine pV (.int .i64 (j : Int)) (by intro w; go_simp <;> (first | (rw [hwj]; done) | exact hwj | (simp [hwj]; done))) ?_
      iterate 3 refine pU ?_
      refine pV (.int .i64 (j : Int)) (by intro w; go_simp <;> (first | (rw [hwj]; done) | exact hwj | (simp [hwj]; done))) ?_
      refine iX 3 j hjN ?_
      refine Seq.getAt rfl rfl rfl rfl (by repeat first|exact rS|refine rN ‹_› ?_) (n := 3) (cs' := #[.bool false, .string ⟨#[]⟩, .string ⟨#[]⟩]) (RX_roomZ HPL.out) (by kernel_rfl) (RX_atZ HPL.out) (nZ ?_)
      iterate 2 refine lV ?_
      refine cX rfl rfl (mul_q (k := k) HT.out HPI.out HQT.out HV.out (by omega)) ?_
      refine cX rfl rfl (zaddN_q (k := 2000000) HT.out HVZ.out rfl (by omega) (by omega)) ?_
      refine iX 3 j hjN ?_
      refine Seq.storeAt (v := .agg (RC v)) rfl rfl rfl rfl rfl (by repeat first|exact rS|refine rN ‹_› ?_) (RX_roomZ HPL.out) (by show _ = some 3; kernel_rfl) (RC_one _) (cs' := RX (zr kk) (pre ++ [v])) (RX_push HPL.out) (nZ ?_)
      refine Seq.done fun w5 hws => ?_
      have HS7 : Hid (St w [(g, 27, RX (zr (N - (rowN q (rx p i) i (prodN p q i) (t + 1)).length)) (rowN q (rx p i) i (prodN p q i) (t + 1))), (b7, 27, RC (rx p i))] w5) := yh (by
       rw [HNX2.out, List.length_append, List.length_singleton, HKK.out]
       exact (hws.q1 (p := g)).sub (.cons_cons _ (.cons _ (.refl _))))
      clear hws HS6
      go_wp2_with fail
      go_roundg (m - (t + 1))
      case measure => rw [HGK2.out]; omega
      case rel => exact ⟨t + 1, rfl, by go_num, by omega, HS7⟩
    ·obtain rfl : t = m := by omega
     have HS7 : Hid (St w [(g, 27, RX (zr (N - (prodN p q (i + 1)).length)) (prodN p q (i + 1)))] _) := yh (by
      have h9 := HS5.out.sub (.cons_cons _ (.cons _ (.refl _)))
      rw [← HM.out] at h9
      exact h9)
     clear HS5
     go_wp2_with fail
     go_roundg (n - (i + 1))
     case measure => rw [HGK.out]; omega
     case rel => exact ⟨i + 1, rfl, by go_num, by omega, HS7⟩
  ·obtain rfl : i = n := by omega
   go_wp2_with fail
   go_ret
   refine ⟨g, by rw [HLN.out]; rfl, ?_⟩
   have h9 := HS2.out
   rw [HLN.out, Nat.sub_self] at h9
   exact h9
end Go.Proofs.YtmchjmflkaiakaaGreatDoor
